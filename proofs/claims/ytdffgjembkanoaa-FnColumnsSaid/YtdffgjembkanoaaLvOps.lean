/- What the operations of the program do, seen through VR: the ones that make no memory. -/
import Derived.Test.YtdffgjembkanoaaLvSimX
import Derived.Deep.MidRow
import Derived.DataShut
import Derived.Laws.Closers25b
namespace Go.Proofs.LV
open Go Go.RowKit
set_option linter.unusedVariables false
set_option linter.unusedSimpArgs false

/-- the same world but for draws -/
def Same (w w' : World) : Prop := ∃ n, w' = { w with drawn := n }
theorem Same.rfl' (w : World) : Same w w := ⟨w.drawn, rfl⟩
theorem Same.heap {w w' : World} (h : Same w w') : w'.heap = w.heap := by obtain ⟨n, rfl⟩ := h; rfl

structure StepOk (C : Ctx) (G : Gh) (w : World) (G' : Gh) (w' : World) (ns : List Nat) : Prop where
  g : SimG C G' w'
  keep : ∀ x v, (∀ n, n ∈ ns → x.has n = false) → VR G w x v → VR G' w' x v
  fix : ∀ n, n ∉ ns → G'.β n = G.β n ∧ (G.act n → G'.act n)

theorem Keeps.same {G : Gh} {w w' : World} (h : Same w w') (g : Tag) : Keeps G G w w' g :=
  ⟨fun b o ha => ⟨ha, by rw [h.heap]⟩, fun h => h⟩
theorem VR.same {G : Gh} {w w' : World} (h : Same w w') {x : AV} {v : Value} (hx : VR G w x v) : VR G w' x v :=
  VR.mono (Keeps.same h _) (fun _ => Keeps.same h _) x v (fun _ _ => ⟨fun i b o ha hb => ⟨⟨ha, hb⟩, by rw [h.heap]⟩, fun h => h, rfl⟩) hx

theorem SimG.same {C : Ctx} {G : Gh} {w w' : World} (h : Same w w') (hs : SimG C G w) : SimG C G w' := by
  obtain ⟨n, rfl⟩ := h
  exact ⟨⟨hs.kept.os, hs.kept.tape, hs.kept.output, hs.kept.size, hs.kept.le, hs.kept.block, hs.kept.rows⟩, hs.names, hs.dist, hs.imms, hs.pars, hs.ml, hs.pi, hs.imI⟩
theorem StepOk.same {C : Ctx} {G : Gh} {w w' : World} (h : Same w w') (hs : SimG C G w) (ns : List Nat) : StepOk C G w G w' ns :=
  ⟨hs.same h, fun _ _ _ hx => VR.same h hx, fun _ _ => ⟨rfl, id⟩⟩

section
variable {P : Program} {G : Gh} {w : World}

theorem run_floatArith_lv (op : BinOp) (k : FloatKind) (f : Nat → Nat → Nat) (g : Nat → Nat → Option Nat)
    (hop : (op = .add ∧ g = k.format.add) ∨ (op = .sub ∧ g = k.format.sub) ∨ (op = .mul ∧ g = k.format.mul) ∨ (op = .quo ∧ g = k.format.div))
    (hf : ∀ x y, f x y = (g x y).getD (fnan k)) (a b : Nat) :
    ∃ r w', (Op.floatArith op k a b).run P w = .ok (.float k r) w' ∧ Same w w' ∧ r < 2 ^ k.format.width ∧ canon k r = f (canon k a) (canon k b) := by
  have hg : g (canon k a) (canon k b) = g a b ∧ ∀ r, g a b = some r → canon k r = r ∧ r < 2 ^ k.format.width := by
    rcases hop with ⟨_, rfl⟩ | ⟨_, rfl⟩ | ⟨_, rfl⟩ | ⟨_, rfl⟩
    · exact ⟨add_canon k a b, fun r h => add_some h⟩
    · exact ⟨sub_canon k a b, fun r h => sub_some h⟩
    · exact ⟨mul_canon k a b, fun r h => mul_some h⟩
    · exact ⟨div_canon k a b, fun r h => div_some h⟩
  have hrun : (Op.floatArith op k a b).run P w = (match g a b with | some r => (pure (.float k r) : Sem Value) | none => (do pure (.float k (← choose (.nanBits k a b))))).run P w := by
    rcases hop with ⟨rfl, rfl⟩ | ⟨rfl, rfl⟩ | ⟨rfl, rfl⟩ | ⟨rfl, rfl⟩ <;> simp [Op.floatArith] <;> split <;> simp_all
  rw [hrun, hf, hg.1]
  cases h : g a b with
  | some r => exact ⟨r, w, by simp, Same.rfl' w, (hg.2 r h).2, by simpa using (hg.2 r h).1⟩
  | none =>
    refine ⟨(Question.nanBits k a b).cut (w.tape w.drawn (.nanBits k a b)), { w with drawn := w.drawn + 1 }, ?_, ⟨_, rfl⟩, (cut_nan k a b _).2, by simpa using canon_cut k a b _⟩
    simp [choose, Sem.run, Question.forced]

theorem eqGuard_plain (op : BinOp) (t : TypeId) (x y : Operand) (a b : Value) (h : (match a, b with | .nilIface, .nilIface => false | .agg _, .agg _ => false | _, _ => true) = true) :
    (eqGuard op t x y a b).run P w = .ok () w := by
  unfold eqGuard
  cases op <;> simp <;> (cases a <;> cases b <;> simp_all)

theorem wrap_range (k : IntKind) (n : Int) : k.min ≤ k.wrap n ∧ k.wrap n ≤ k.max := wrap_within k n

theorem tmod_range (k : IntKind) {a b : Int} (ha : k.min ≤ a ∧ a ≤ k.max) : k.min ≤ a.tmod b ∧ a.tmod b ≤ k.max := by
  have h0 : k.min ≤ 0 ∧ 0 ≤ k.max := by cases k <;> decide
  have hn : (a.tmod b).natAbs ≤ a.natAbs := by rw [Int.natAbs_tmod]; exact Nat.mod_le _ _
  rcases Int.lt_or_le a 0 with h | h
  · have h1 := Int.neg_tmod (a := a) (b := b)
    have h2 : 0 ≤ (-a).tmod b := Int.tmod_nonneg b (by omega)
    omega
  · have h2 : 0 ≤ a.tmod b := Int.tmod_nonneg b h
    omega

theorem fdiv_range (k : IntKind) {a : Int} (n : Nat) (ha : k.min ≤ a ∧ a ≤ k.max) : k.min ≤ a.fdiv (2 ^ n) ∧ a.fdiv (2 ^ n) ≤ k.max := by
  have h0 : k.min ≤ 0 ∧ 0 ≤ k.max := by cases k <;> decide
  have hp : (1 : Int) ≤ 2 ^ n := by exact_mod_cast Nat.one_le_two_pow
  rw [Int.fdiv_eq_ediv_of_nonneg _ (by omega)]
  have h1 : a / 2 ^ n ≤ max a 0 := by
    rcases Int.lt_or_le a 0 with h | h
    · have : a / 2 ^ n < 0 := Int.ediv_neg_of_neg_of_pos h (by omega)
      omega
    · have := Int.ediv_le_self (2 ^ n) h
      omega
  have h2 : min a 0 ≤ a / 2 ^ n := by
    rcases Int.lt_or_le a 0 with h | h
    · have : a ≤ a / 2 ^ n := by
        rw [Int.le_ediv_iff_mul_le (by omega)]
        have h3 : a * 2 ^ n ≤ a * 1 := Int.mul_le_mul_of_nonpos_left (by omega) hp
        rw [Int.mul_one] at h3
        exact h3
      omega
    · have := Int.ediv_nonneg h (show (0 : Int) ≤ 2 ^ n by omega)
      omega
  omega
theorem bin_sound (op : BinOp) (t : TypeId) (X Y : Operand) {x y v : AV} {ob : Prop} {a b : Value} (he : bin op x y = some (v, ob)) (hob : ob) (hx : VR G w x a) (hy : VR G w y b) :
    ∃ u w', ((do eqGuard op t X Y a b; binOp op t a b : Sem Value)).run P w = .ok u w' ∧ Same w w' ∧ VR G w v u := by
  unfold bin at he
  split at he
  case h_1 k m k' n =>
    split at he <;> cases he; rename_i hk; subst hk
    obtain ⟨rfl, h1⟩ := hx; obtain ⟨rfl, h2⟩ := hy
    exact ⟨_, w, by simp [eqGuard_plain, binOp, Op.intArith], Same.rfl' w, ⟨rfl, wrap_range _ _⟩⟩
  case h_2 k m k' n =>
    split at he <;> cases he; rename_i hk; subst hk
    obtain ⟨rfl, h1⟩ := hx; obtain ⟨rfl, h2⟩ := hy
    exact ⟨_, w, by simp [eqGuard_plain, binOp, Op.intArith], Same.rfl' w, ⟨rfl, wrap_range _ _⟩⟩
  case h_3 k m k' n =>
    split at he <;> cases he; rename_i hk; subst hk
    obtain ⟨rfl, h1⟩ := hx; obtain ⟨rfl, h2⟩ := hy
    exact ⟨_, w, by simp [eqGuard_plain, binOp, Op.intArith], Same.rfl' w, ⟨rfl, wrap_range _ _⟩⟩
  case h_4 k m k' n =>
    split at he <;> cases he; rename_i hk; subst hk
    obtain ⟨rfl, h1⟩ := hx; obtain ⟨rfl, h2⟩ := hy
    exact ⟨_, w, by simp [eqGuard_plain, binOp, Op.intDiv, hob], Same.rfl' w, ⟨rfl, wrap_range _ _⟩⟩
  case h_5 k m k' n =>
    split at he <;> cases he; rename_i hk; subst hk
    obtain ⟨rfl, h1⟩ := hx; obtain ⟨rfl, h2⟩ := hy
    exact ⟨_, w, by simp [eqGuard_plain, binOp, Op.intDiv, hob], Same.rfl' w, ⟨rfl, tmod_range _ h1⟩⟩
  case h_12 k m k' n =>
    split at he <;> cases he; rename_i hk; subst hk
    obtain ⟨c, rfl, h1, rfl⟩ := hx; obtain ⟨d, rfl, h2, rfl⟩ := hy
    obtain ⟨r, w', hr, hw, hlt, hc⟩ := run_floatArith_lv (P := P) (w := w) .add k (fadd k) k.format.add (.inl ⟨rfl, rfl⟩) (fun _ _ => rfl) c d
    exact ⟨_, w', by simp [eqGuard_plain, binOp, hr], hw, ⟨r, rfl, hlt, hc⟩⟩
  case h_13 k m k' n =>
    split at he <;> cases he; rename_i hk; subst hk
    obtain ⟨c, rfl, h1, rfl⟩ := hx; obtain ⟨d, rfl, h2, rfl⟩ := hy
    obtain ⟨r, w', hr, hw, hlt, hc⟩ := run_floatArith_lv (P := P) (w := w) .sub k (fsub k) k.format.sub (.inr (.inl ⟨rfl, rfl⟩)) (fun _ _ => rfl) c d
    exact ⟨_, w', by simp [eqGuard_plain, binOp, hr], hw, ⟨r, rfl, hlt, hc⟩⟩
  case h_14 k m k' n =>
    split at he <;> cases he; rename_i hk; subst hk
    obtain ⟨c, rfl, h1, rfl⟩ := hx; obtain ⟨d, rfl, h2, rfl⟩ := hy
    obtain ⟨r, w', hr, hw, hlt, hc⟩ := run_floatArith_lv (P := P) (w := w) .mul k (fmul k) k.format.mul (.inr (.inr (.inl ⟨rfl, rfl⟩))) (fun _ _ => rfl) c d
    exact ⟨_, w', by simp [eqGuard_plain, binOp, hr], hw, ⟨r, rfl, hlt, hc⟩⟩
  case h_15 k m k' n =>
    split at he <;> cases he; rename_i hk; subst hk
    obtain ⟨c, rfl, h1, rfl⟩ := hx; obtain ⟨d, rfl, h2, rfl⟩ := hy
    obtain ⟨r, w', hr, hw, hlt, hc⟩ := run_floatArith_lv (P := P) (w := w) .quo k (fdiv k) k.format.div (.inr (.inr (.inr ⟨rfl, rfl⟩))) (fun _ _ => rfl) c d
    exact ⟨_, w', by simp [eqGuard_plain, binOp, hr], hw, ⟨r, rfl, hlt, hc⟩⟩
  case h_22 k m n k' p q =>
    split at he <;> cases he; rename_i hk; subst hk
    obtain ⟨c, d, rfl, h1, rfl, rfl⟩ := hx; obtain ⟨c', d', rfl, h2, rfl, rfl⟩ := hy
    obtain ⟨r, w1, hr, hw, hlt, hc⟩ := run_floatArith_lv (P := P) (w := w) .add k (fadd k) k.format.add (.inl ⟨rfl, rfl⟩) (fun _ _ => rfl) c c'
    obtain ⟨r2, w2, hr2, hw2, hlt2, hc2⟩ := run_floatArith_lv (P := P) (w := w1) .add k (fadd k) k.format.add (.inl ⟨rfl, rfl⟩) (fun _ _ => rfl) d d'
    refine ⟨_, w2, by simp [eqGuard_plain, binOp, Op.complexOp, Op.Complex.arith, hr, hr2], ?_, ⟨r, r2, rfl, ⟨hlt, hlt2⟩, hc, hc2⟩⟩
    obtain ⟨i, rfl⟩ := hw; obtain ⟨j, rfl⟩ := hw2; exact ⟨j, rfl⟩
  case h_23 k m n k' p q =>
    split at he <;> cases he; rename_i hk; subst hk
    obtain ⟨c, d, rfl, h1, rfl, rfl⟩ := hx; obtain ⟨c', d', rfl, h2, rfl, rfl⟩ := hy
    obtain ⟨r, w1, hr, hw, hlt, hc⟩ := run_floatArith_lv (P := P) (w := w) .sub k (fsub k) k.format.sub (.inr (.inl ⟨rfl, rfl⟩)) (fun _ _ => rfl) c c'
    obtain ⟨r2, w2, hr2, hw2, hlt2, hc2⟩ := run_floatArith_lv (P := P) (w := w1) .sub k (fsub k) k.format.sub (.inr (.inl ⟨rfl, rfl⟩)) (fun _ _ => rfl) d d'
    refine ⟨_, w2, by simp [eqGuard_plain, binOp, Op.complexOp, Op.Complex.arith, hr, hr2], ?_, ⟨r, r2, rfl, ⟨hlt, hlt2⟩, hc, hc2⟩⟩
    obtain ⟨i, rfl⟩ := hw; obtain ⟨j, rfl⟩ := hw2; exact ⟨j, rfl⟩
  case h_24 k m n k' p q =>
    split at he <;> cases he; rename_i hk; subst hk
    obtain ⟨c, d, rfl, h1, rfl, rfl⟩ := hx; obtain ⟨c', d', rfl, h2, rfl, rfl⟩ := hy
    exact ⟨.bool _, w, by simp [eqGuard_plain, binOp, Op.complexOp, Op.Complex.cmp, Op.floatCmp, asBool, feq, order_canon], Same.rfl' w, rfl⟩
  case h_25 k m n k' p q =>
    split at he <;> cases he; rename_i hk; subst hk
    obtain ⟨c, d, rfl, h1, rfl, rfl⟩ := hx; obtain ⟨c', d', rfl, h2, rfl, rfl⟩ := hy
    exact ⟨.bool _, w, by simp [eqGuard_plain, binOp, Op.complexOp, Op.Complex.cmp, Op.floatCmp, asBool, feq, order_canon], Same.rfl' w, rfl⟩
  case h_26 k m yk n =>
    cases he
    obtain ⟨rfl, h1⟩ := hx; obtain ⟨rfl, h2⟩ := hy
    have hn : ¬ n < 0 := by omega
    refine ⟨_, w, by simp [eqGuard_plain, binOp, Op.shift, hn, Nat.min_eq_left hob.2], Same.rfl' w, ⟨rfl, fdiv_range _ _ h1⟩⟩
  case h_27 k m k' n =>
    split at he <;> cases he; rename_i hk; subst hk
    obtain ⟨rfl, h1⟩ := hx; obtain ⟨rfl, h2⟩ := hy
    exact ⟨_, w, by simp [eqGuard_plain, binOp, Op.intBits, ibits], Same.rfl' w, ⟨rfl, wrap_range _ _⟩⟩
  case h_28 k m k' n =>
    split at he <;> cases he; rename_i hk; subst hk
    obtain ⟨rfl, h1⟩ := hx; obtain ⟨rfl, h2⟩ := hy
    exact ⟨_, w, by simp [eqGuard_plain, binOp, Op.intBits, ibits], Same.rfl' w, ⟨rfl, wrap_range _ _⟩⟩
  case h_29 k m k' n =>
    split at he <;> cases he; rename_i hk; subst hk
    obtain ⟨rfl, h1⟩ := hx; obtain ⟨rfl, h2⟩ := hy
    exact ⟨_, w, by simp [eqGuard_plain, binOp, Op.intBits, ibits], Same.rfl' w, ⟨rfl, wrap_range _ _⟩⟩
  case h_30 k m k' n =>
    split at he <;> cases he; rename_i hk; subst hk
    obtain ⟨rfl, h1⟩ := hx; obtain ⟨rfl, h2⟩ := hy
    exact ⟨_, w, by simp [eqGuard_plain, binOp, Op.intBits, ibits], Same.rfl' w, ⟨rfl, wrap_range _ _⟩⟩
  case h_31 => cases he
  all_goals
    split at he <;> cases he
    rename_i hk; subst hk
  all_goals first
    | (obtain ⟨rfl, _, _⟩ := hx; obtain ⟨rfl, _, _⟩ := hy
       exact ⟨.bool _, w, by simp [eqGuard_plain, binOp, Op.intCmp], Same.rfl' w, rfl⟩)
    | (obtain ⟨c, rfl, h1, rfl⟩ := hx; obtain ⟨d, rfl, h2, rfl⟩ := hy
       exact ⟨.bool _, w, by simp [eqGuard_plain, binOp, Op.floatCmp, feq, fne, flt, fle, fgt, fge, order_canon], Same.rfl' w, rfl⟩)

theorem run_equalIn_bool {t : TypeId} (ht : P.underlying t = some .bool) (d : Nat) (a b : Bool) : (Op.equalIn (d + 1) t (.bool a) (.bool b)).run P w = .ok (a == b) w := by
  rw [Op.equalIn]
  simp only [Sem.run_bind, run_underlying ht, Result.andThen_ok]
  rfl
theorem run_binOp_bool {t : TypeId} (ht : P.underlying t = some .bool) (a b : Bool) :
    (binOp .eql t (.bool a) (.bool b)).run P w = .ok (.bool (a == b)) w ∧ (binOp .neq t (.bool a) (.bool b)).run P w = .ok (.bool (!(a == b))) w := by
  have h : (Op.equal t (.bool a) (.bool b)).run P w = .ok (a == b) w := run_equalIn_bool ht 9999 a b
  constructor
  · show (do pure (.bool (← Op.equal t (.bool a) (.bool b))) : Sem Value).run P w = _
    simp only [Sem.run_bind, h, Result.andThen_ok]; rfl
  · show (do pure (.bool (!(← Op.equal t (.bool a) (.bool b)))) : Sem Value).run P w = _
    simp only [Sem.run_bind, h, Result.andThen_ok]; rfl

theorem binb_sound (op : BinOp) (t : TypeId) (X Y : Operand) {x y v : AV} {a b : Value} (ht : P.underlying t = some .bool) (he : binb op x y = some v) (hx : VR G w x a) (hy : VR G w y b) :
    ∃ u, ((do eqGuard op t X Y a b; binOp op t a b : Sem Value)).run P w = .ok u w ∧ VR G w v u := by
  unfold binb at he
  split at he <;> cases he
  · obtain rfl := hx; obtain rfl := hy
    exact ⟨.bool _, by simp only [Sem.run_bind, eqGuard_plain, Result.andThen_ok]; exact (run_binOp_bool ht _ _).1, rfl⟩
  · obtain rfl := hx; obtain rfl := hy
    exact ⟨.bool _, by simp only [Sem.run_bind, eqGuard_plain, Result.andThen_ok]; exact (run_binOp_bool ht _ _).2, rfl⟩

/-! ### conversions -/
theorem fofi_ok (k : FloatKind) (n : Int) : fofi k n < 2 ^ k.format.width ∧ canon k (fofi k n) = fofi k n :=
  ⟨k.format.write_lt (.number (n < 0) n.natAbs 0), canon_write k (.number (n < 0) n.natAbs 0) rfl⟩

theorem f2f_sound (s k : FloatKind) (b : Nat) (hb : b < 2 ^ s.format.width) (hok : fconvOk s k (canon s b) = true) :
    ∃ r w', (Conv.floatToFloat s b k).run P w = .ok (.float k r) w' ∧ Same w w' ∧ r < 2 ^ k.format.width ∧ canon k r = fconv s k (canon s b) := by
  unfold Conv.floatToFloat
  by_cases he : s = k
  · subst he
    refine ⟨b, w, by simp, Same.rfl' w, hb, ?_⟩
    simp [fconv]
  · simp only [he, if_false]
    unfold fconvOk fconv at *
    simp only [he, if_false] at hok ⊢
    rcases read_canon s b with ⟨h1, h2⟩ | h1
    · unfold FloatKind.decode
      cases hr : s.format.read b with
      | number a c d => rw [hr] at h1; cases h1
      | infinity a => rw [hr] at h1; cases h1
      | nan a c =>
        cases hc : s.format.read (canon s b) with
        | number a c d => rw [hc] at h2; cases h2
        | infinity a => rw [hc] at h2; cases h2
        | nan a' c' =>
          refine ⟨(Question.nanConv k b).cut (w.tape w.drawn (.nanConv k b)), { w with drawn := w.drawn + 1 }, ?_, ⟨_, rfl⟩, ?_, ?_⟩
          · simp [choose, Sem.run, Question.forced]
          · have := (cut_nan k 0 0 (w.tape w.drawn (.nanConv k b))).2
            cases k <;> exact this
          · have := canon_cut k 0 0 (w.tape w.drawn (.nanConv k b))
            cases k <;> exact this
    · rw [h1] at hok ⊢
      unfold FloatKind.decode at *
      cases hr : s.format.read b with
      | nan a c =>
        refine ⟨(Question.nanConv k b).cut (w.tape w.drawn (.nanConv k b)), { w with drawn := w.drawn + 1 }, ?_, ⟨_, rfl⟩, ?_, ?_⟩
        · simp [choose, Sem.run, Question.forced]
        · have := (cut_nan k 0 0 (w.tape w.drawn (.nanConv k b))).2
          cases k <;> exact this
        · have := canon_cut k 0 0 (w.tape w.drawn (.nanConv k b))
          cases k <;> exact this
      | infinity a => exact ⟨k.encode (.infinity a), w, by simp, Same.rfl' w, k.format.write_lt (.infinity a), canon_write k (.infinity a) rfl⟩
      | number a c d =>
        rw [hr] at hok
        simp only [Bool.not_eq_true'] at hok
        refine ⟨k.encode (.number a c d), w, ?_, Same.rfl' w, k.format.write_lt _, canon_write k _ rfl⟩
        simp only [FloatKind.encode] at *
        simp [hok]
theorem conv_sound_ff (src dst : TypeId) (s k : FloatKind) (b : Nat) (hs : (P.underlying src).isSome = true) (hd : P.underlying dst = some (.float k)) (hb : b < 2 ^ s.format.width) (hok : fconvOk s k (canon s b) = true) :
    ∃ r w', (convert src dst (.float s b)).run P w = .ok (.float k r) w' ∧ Same w w' ∧ r < 2 ^ k.format.width ∧ canon k r = fconv s k (canon s b) := by
  obtain ⟨u, hs'⟩ := Option.isSome_iff_exists.1 hs
  have hrun : (convert src dst (.float s b)).run P w = (Conv.floatToFloat s b k).run P w := by
    simp only [convert, Sem.run_bind, run_underlying hs', run_underlying hd, Result.andThen_ok]
  rw [hrun]
  exact f2f_sound s k b hb hok
theorem conv_sound_cc (src dst : TypeId) (s k : FloatKind) (a b : Nat) (hs : (P.underlying src).isSome = true) (hd : P.underlying dst = some (.complex k)) (ha : a < 2 ^ s.format.width) (hb : b < 2 ^ s.format.width)
    (oka : fconvOk s k (canon s a) = true) (okb : fconvOk s k (canon s b) = true) :
    ∃ r q w', (convert src dst (.complex s a b)).run P w = .ok (.complex k r q) w' ∧ Same w w' ∧ (r < 2 ^ k.format.width ∧ q < 2 ^ k.format.width) ∧ canon k r = fconv s k (canon s a) ∧ canon k q = fconv s k (canon s b) := by
  obtain ⟨u, hs'⟩ := Option.isSome_iff_exists.1 hs
  obtain ⟨r, w1, h1, s1, l1, c1⟩ := f2f_sound (P := P) (w := w) s k a ha oka
  obtain ⟨q, w2, h2, s2, l2, c2⟩ := f2f_sound (P := P) (w := w1) s k b hb okb
  refine ⟨r, q, w2, ?_, (by obtain ⟨n, rfl⟩ := s1; obtain ⟨m, rfl⟩ := s2; exact ⟨m, rfl⟩), ⟨l1, l2⟩, c1, c2⟩
  have hrun : (convert src dst (.complex s a b)).run P w = (Conv.complexToComplex s a b k).run P w := by
    simp only [convert, Sem.run_bind, run_underlying hs', run_underlying hd, Result.andThen_ok]
  rw [hrun]
  unfold Conv.complexToComplex
  simp only [Sem.run_bind, h1, h2, Result.andThen_ok, Sem.run_pure]

theorem conv_sound_if (src dst : TypeId) (q : IntKind) (k : FloatKind) (n : Int) (hs : (P.underlying src).isSome = true) (hd : P.underlying dst = some (.float k)) :
    (convert src dst (.int q n)).run P w = .ok (.float k (fofi k n)) w := run_convert_int_float w src dst q k n hs hd

theorem conv_sound_ii (src dst : TypeId) (q k : IntKind) (n : Int) (hs : (P.underlying src).isSome = true) (hd : P.underlying dst = some (.int k)) :
    (convert src dst (.int q n)).run P w = .ok (.int k (k.wrap n)) w := by
  obtain ⟨u, hs'⟩ := Option.isSome_iff_exists.1 hs
  simp only [convert, Sem.run_bind, run_underlying hs', run_underlying hd, Result.andThen_ok]
  rfl

theorem ftoi_canon (s : FloatKind) (k : IntKind) (b : Nat) (h : (ftoi s k (canon s b)).isSome = true) : canon s b = b := by
  rcases read_canon s b with ⟨h1, h2⟩ | h1
  · unfold ftoi at h
    unfold FloatKind.decode at h
    cases hc : s.format.read (canon s b) with
    | number a c d => rw [hc] at h2; cases h2
    | infinity a => rw [hc] at h2; cases h2
    | nan a c => rw [hc] at h; simp [Ieee.Datum.toInt, Ieee.Datum.integral] at h
  · exact h1

theorem conv_sound_fi (src dst : TypeId) (s : FloatKind) (k : IntKind) (b : Nat) (hs : (P.underlying src).isSome = true) (hd : P.underlying dst = some (.int k)) (h : (ftoi s k (canon s b)).isSome = true) :
    (convert src dst (.float s b)).run P w = .ok (.int k ((ftoi s k (canon s b)).getD 0)) w ∧ k.min ≤ (ftoi s k (canon s b)).getD 0 ∧ (ftoi s k (canon s b)).getD 0 ≤ k.max := by
  have hc := ftoi_canon s k b h
  rw [hc] at h ⊢
  obtain ⟨n, hn⟩ := Option.isSome_iff_exists.1 h
  have hv : floatToIntVal s b k = some n := hn
  refine ⟨by rw [run_convert_float_int w src dst s k b n hs hd hv, hn]; rfl, ?_⟩
  have := floatToIntVal_wf hv
  rw [hn]
  simpa [Lit.wf] using this
end
end Go.Proofs.LV
