/- The remaining operations: signs, greatest and least, function values; then all of them together. -/
import Derived.Test.YtjpihhdjmoldjaaLvEval2
namespace Go.Proofs.LV
open Go Go.RowKit
set_option linter.unusedVariables false
set_option linter.unusedSimpArgs false

theorem xor_top (m b : Nat) (h : b < 2 ^ (m + 1)) : (b < 2 ^ m ∧ b ^^^ 2 ^ m = 2 ^ m + b) ∨ (2 ^ m ≤ b ∧ 2 ^ m + (b ^^^ 2 ^ m) = b) := by
  have key : ∀ c, c < 2 ^ m → c ^^^ 2 ^ m = 2 ^ m + c := by
    intro c hc
    apply Nat.eq_of_testBit_eq
    intro j
    rw [Nat.testBit_xor, Nat.testBit_two_pow]
    rcases Nat.lt_trichotomy j m with hj | hj | hj
    · rw [Nat.testBit_two_pow_add_gt hj, show decide (m = j) = false by simp; omega, Bool.xor_false]
    · subst hj; rw [Nat.testBit_two_pow_add_eq]; simp
    · have h1 : c.testBit j = false := Nat.testBit_lt_two_pow (Nat.lt_trans hc (Nat.pow_lt_pow_right (by omega) hj))
      have h2 : (2 ^ m + c).testBit j = false := Nat.testBit_lt_two_pow (by
        have : 2 ^ (m + 1) ≤ 2 ^ j := Nat.pow_le_pow_right (by omega) hj
        rw [Nat.pow_succ] at this; omega)
      rw [h1, h2, show decide (m = j) = false by simp; omega]; rfl
  rcases Nat.lt_or_ge b (2 ^ m) with hb | hb
  · exact .inl ⟨hb, key b hb⟩
  · refine .inr ⟨hb, ?_⟩
    have hc : b - 2 ^ m < 2 ^ m := by rw [Nat.pow_succ] at h; omega
    have e := key (b - 2 ^ m) hc
    have e2 : 2 ^ m + (b - 2 ^ m) = b := by omega
    rw [e2] at e
    have h3 : b ^^^ 2 ^ m = b - 2 ^ m := by
      have h4 : (b - 2 ^ m ^^^ 2 ^ m) ^^^ 2 ^ m = b - 2 ^ m := by rw [Nat.xor_assoc, Nat.xor_self, Nat.xor_zero]
      rw [e] at h4; exact h4
    omega

theorem isNaN_mod (k : FloatKind) (a b : Nat) (h : a % k.format.signWeight = b % k.format.signWeight) : (k.format.read a).isNaN = (k.format.read b).isNaN := by
  unfold Ieee.Format.read
  simp only [h]
  (repeat' split) <;> rfl

theorem neg_ok (k : FloatKind) {b : Nat} (h : b < 2 ^ k.format.width) : Op.negFloat k b < 2 ^ k.format.width ∧ canon k (Op.negFloat k b) = fneg k (canon k b) := by
  have hw : k.format.width = k.format.exponentBits + k.format.fractionBits + 1 := by cases k <;> rfl
  have hS : k.format.signWeight = 2 ^ (k.format.exponentBits + k.format.fractionBits) := rfl
  rw [hw] at h ⊢
  have hx := xor_top (k.format.exponentBits + k.format.fractionBits) b h
  have hmod : Op.negFloat k b % k.format.signWeight = b % k.format.signWeight := by
    unfold Op.negFloat
    rw [hS]
    rcases hx with ⟨h1, h2⟩ | ⟨h1, h2⟩
    · rw [h2, Nat.add_mod_left]
    · conv => rhs; rw [← h2]
      rw [Nat.add_mod_left]
  refine ⟨?_, ?_⟩
  · unfold Op.negFloat
    rw [Nat.pow_succ] at h ⊢
    rcases hx with ⟨h1, h2⟩ | ⟨h1, h2⟩ <;> omega
  · have hn := isNaN_mod k _ _ hmod
    by_cases hb : (k.format.read b).isNaN = true
    · have e1 : canon k b = fnan k := by unfold canon; rw [if_pos hb]
      have e2 : canon k (Op.negFloat k b) = fnan k := by unfold canon; rw [if_pos (by rw [hn]; exact hb)]
      rw [e1, e2]; unfold fneg; rw [if_pos (nan_fnan k)]
    · have e1 : canon k b = b := by unfold canon; rw [if_neg hb]
      have e2 : canon k (Op.negFloat k b) = Op.negFloat k b := by unfold canon; rw [if_neg (by rw [hn]; exact hb)]
      rw [e1, e2]; unfold fneg; rw [if_neg hb]

section
variable {P : Program} {C : Ctx} {G : Gh} {w : World}

theorem does_neg {x : Value} (hs : SimG C G w) {vs : List AV} {v : AV} {ns : List Nat} {ob : Prop}
    (hv : VL G w vs [x]) (he : eNeg vs = some (v, ns, ob)) : Does P C G w (do pure (.value (← Op.unary .neg x))) v ns := by
  unfold eNeg at he
  split at he <;> cases he
  · obtain ⟨u, hu, h1⟩ := vl1 hv
    cases hu
    obtain ⟨rfl, _⟩ := h1
    rename_i k n _
    exact Does.pure hs (run_value (u := .int k (k.wrap (0 - n))) (w' := w) (by simp [Op.unary, Op.intArith])) (Same.rfl' w) ⟨rfl, wrap_range _ _⟩
  · obtain ⟨u, hu, h1⟩ := vl1 hv
    cases hu
    obtain ⟨b, rfl, hb, rfl⟩ := h1
    exact Does.pure hs (run_value (u := .float _ (Op.negFloat _ b)) (w' := w) (by simp [Op.unary])) (Same.rfl' w) ⟨_, rfl, (neg_ok _ hb).1, (neg_ok _ hb).2⟩

theorem max2_ok {k : FloatKind} {a b : Nat} (ha : a < 2 ^ k.format.width) (hb : b < 2 ^ k.format.width) :
    ∃ r w', (Builtin.max2 (.float k a) (.float k b)).run P w = .ok (.float k r) w' ∧ Same w w' ∧ r < 2 ^ k.format.width ∧ canon k r = fmax k (canon k a) (canon k b) := by
  have ho := order_canon k a b
  unfold fmax
  rw [ho]
  cases h : k.format.order a b with
  | none =>
    refine ⟨(Question.nanMinMax k true a b).cut (w.tape w.drawn (.nanMinMax k true a b)), { w with drawn := w.drawn + 1 }, ?_, ⟨_, rfl⟩, ?_, ?_⟩
    · simp [Builtin.max2, h, choose, Sem.run, Question.forced]
    · have := (cut_nan k 0 0 (w.tape w.drawn (.nanMinMax k true a b))).2
      cases k <;> exact this
    · have := canon_cut k 0 0 (w.tape w.drawn (.nanMinMax k true a b))
      cases k <;> exact this
  | some c =>
    cases c with
    | lt => exact ⟨b, w, by simp [Builtin.max2, h], Same.rfl' w, hb, rfl⟩
    | gt => exact ⟨a, w, by simp [Builtin.max2, h], Same.rfl' w, ha, rfl⟩
    | eq =>
      have hna : canon k a = a := by
        rcases read_canon k a with ⟨h1, _⟩ | h1
        · unfold Ieee.Format.order at h; rw [order_nan (.inl h1)] at h; cases h
        · exact h1
      refine ⟨if (k.decode a).neg then b else a, w, by simp [Builtin.max2, h], Same.rfl' w, by split <;> assumption, ?_⟩
      simp only [hna]
      split <;> simp_all

theorem does_max {x y : Value} {ts : Array TypeId} {ty : TypeId} (hs : SimG C G w) {vs : List AV} {v : AV} {ns : List Nat} {ob : Prop}
    (hv : VL G w vs [x, y]) (he : eMax vs = some (v, ns, ob)) : Does P C G w (do pure (.value (← Builtin.max_ ts ty #[x, y]))) v ns := by
  have hrun : ∀ (x y : Value) u w', (Builtin.max2 x y).run P w = .ok u w' → (Builtin.max_ ts ty #[x, y]).run P w = .ok u w' := by
    intro x y u w' h
    simp [Builtin.max_, h]
  unfold eMax at he
  split at he
  · split at he <;> cases he
    rename_i hk; subst hk
    obtain ⟨u, u2, hu, ⟨rfl, h1⟩, ⟨rfl, h2⟩⟩ := vl2 hv
    cases hu
    rename_i k x y
    by_cases hxy : y > x
    · exact Does.pure hs (run_value (hrun _ _ (.int k y) w (by simp [Builtin.max2, hxy]))) (Same.rfl' w) (by simp [hxy, VR]; exact h2)
    · exact Does.pure hs (run_value (hrun _ _ (.int k x) w (by simp [Builtin.max2, hxy]))) (Same.rfl' w) (by simp [hxy, VR]; exact h1)
  · split at he <;> cases he
    rename_i hk; subst hk
    obtain ⟨u, u2, hu, ⟨a, rfl, h1, rfl⟩, ⟨b, rfl, h2, rfl⟩⟩ := vl2 hv
    cases hu
    obtain ⟨r, w', hr, hw, hlt, hc⟩ := max2_ok (P := P) (w := w) h1 h2
    exact Does.pure hs (run_value (hrun _ _ _ _ hr)) hw ⟨r, rfl, hlt, hc⟩
  · cases he

theorem does_min {x y : Value} {ts : Array TypeId} {ty : TypeId} (hs : SimG C G w) {vs : List AV} {v : AV} {ns : List Nat} {ob : Prop}
    (hv : VL G w vs [x, y]) (he : eMin vs = some (v, ns, ob)) : Does P C G w (do pure (.value (← Builtin.min_ ts ty #[x, y]))) v ns := by
  unfold eMin at he
  split at he
  · split at he <;> cases he
    rename_i hk; subst hk
    obtain ⟨u, u2, hu, ⟨rfl, h1⟩, ⟨rfl, h2⟩⟩ := vl2 hv
    cases hu
    rename_i k x y
    by_cases hxy : y < x
    · exact Does.pure hs (run_value (u := .int k y) (w' := w) (by simp [Builtin.min_, Builtin.min2, hxy])) (Same.rfl' w) (by simp [hxy, VR]; exact h2)
    · exact Does.pure hs (run_value (u := .int k x) (w' := w) (by simp [Builtin.min_, Builtin.min2, hxy])) (Same.rfl' w) (by simp [hxy, VR]; exact h1)
  · cases he

theorem does_mkfn {f : FuncId} {us : Array Value} (hs : SimG C G w) {vs : List AV} (hv : VL G w vs us.toList) : Does P C G w (do pure (.value (← Instr.makeFunc (.func f) #[] us))) (.fn f vs) [] :=
  Does.pure hs (run_value (u := .func (.func f) #[] us) (w' := w) (by simp [Instr.makeFunc])) (Same.rfl' w) ⟨us, rfl, hv⟩
end
end Go.Proofs.LV
