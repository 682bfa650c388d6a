/- Texts that belong together. -/
import Derived.Test.YtdffgjembkanoaaLvEv
import Derived.Test.YtdffgjembkanoaaLvRatS
namespace Go.Proofs.LV
open Go
set_option linter.unusedVariables false

/-- the first n members of a row of statements -/
def front : Nat → VCode → VCode
  | 0, _ => .skip
  | n + 1, .seq a b => .seq a (front n b)
  | _ + 1, _ => .skip
/-- what follows them -/
def rest : Nat → VCode → VCode
  | 0, c => c
  | n + 1, .seq _ b => rest n b
  | _ + 1, c => c
def hasBlk (id : Nat) : VCode → Bool
  | .seq a b => hasBlk id a || hasBlk id b
  | .cond _ a b => hasBlk id a || hasBlk id b
  | .block i b => i == id || hasBlk id b
  | .loop b => hasBlk id b
  | _ => false

/-- the tree of a piece: it goes on (none) or returns (some) -/
def evS (VC : FuncId → List AV → AV → Prop) (ps : List Nat) (rs : List RV) (r0 : AV) (O : Orc) (c : VCode) (σ : Env) : T (Option AV × Env) :=
  evC VC ps O c σ [] fun e σ _ => match e with
    | .normal => .leaf (none, σ)
    | .exit _ => .fail
    | .ret => match outRs rs σ with | some v => .leaf (some (AV.fin r0 v), []) | none => .fail
theorem evS_of {VC : FuncId → List AV → AV → Prop} {ps : List Nat} {rs : List RV} {r0 : AV} {O : Orc} {c : VCode} {σ : Env} {t : T (Option AV × Env)} {Q : Option AV × Env → Prop}
    (e : evS VC ps rs r0 O c σ = t) (ht : t.ok Q) : (evS VC ps rs r0 O c σ).ok Q := e ▸ ht

theorem front_ok {α : Type} {VC : FuncId → List AV → AV → Prop} {O : Orc} {Q : α → Prop} {ps : List Nat} : ∀ (n : Nat) (c : VCode) {σ : Env} {kn : Kn} {k : Ex → Env → Kn → T α}, (evC VC ps O (front n c) σ kn k).ok Q →
    ∃ e σ' kn', (k e σ' kn').ok Q ∧ (e = .normal → ∀ e2 σ2, Exec VC ps (rest n c) σ' e2 σ2 → Exec VC ps c σ e2 σ2) ∧ (e ≠ .normal → Exec VC ps c σ e σ')
  | 0, c, σ, kn, k, h => ⟨.normal, σ, kn, h, fun _ _ _ h => h, fun h => absurd rfl h⟩
  | n + 1, .seq a b, σ, kn, k, h => by
    unfold front evC at h
    obtain ⟨e, σ1, kn1, h1, h2⟩ := evC_ok h
    cases e with
    | normal =>
      obtain ⟨e', σ2, kn2, h3, h4, h5⟩ := front_ok n b h2
      exact ⟨e', σ2, kn2, h3, fun he e2 σ3 hx => .seq h1 (h4 he e2 σ3 hx), fun he => .seq h1 (h5 he)⟩
    | exit id => exact ⟨.exit id, σ1, kn1, h2, (fun h => by cases h), fun _ => .seqX h1 (by simp)⟩
    | ret => exact ⟨.ret, σ1, kn1, h2, (fun h => by cases h), fun _ => .seqX h1 (by simp)⟩
  | n + 1, .skip, σ, kn, k, h => ⟨.normal, σ, kn, h, fun _ _ _ h => h, fun h => absurd rfl h⟩
  | n + 1, .region _ _, σ, kn, k, h => ⟨.normal, σ, kn, h, fun _ _ _ h => h, fun h => absurd rfl h⟩
  | n + 1, .cond _ _ _, σ, kn, k, h => ⟨.normal, σ, kn, h, fun _ _ _ h => h, fun h => absurd rfl h⟩
  | n + 1, .block _ _, σ, kn, k, h => ⟨.normal, σ, kn, h, fun _ _ _ h => h, fun h => absurd rfl h⟩
  | n + 1, .loop _, σ, kn, k, h => ⟨.normal, σ, kn, h, fun _ _ _ h => h, fun h => absurd rfl h⟩
  | n + 1, .exit _, σ, kn, k, h => ⟨.normal, σ, kn, h, fun _ _ _ h => h, fun h => absurd rfl h⟩
  | n + 1, .ret, σ, kn, k, h => ⟨.normal, σ, kn, h, fun _ _ _ h => h, fun h => absurd rfl h⟩

/-- the code ends with this result -/
def Ends (P : Program) (ps : List Nat) (rs : List RV) (r : AV) (c : VCode) (σ : Env) : Prop :=
  ∃ e σ', Exec (VCall P) ps c σ e σ' ∧ (e = .normal ∨ e = .ret) ∧ ∃ v, outRs rs σ' = some v ∧ AV.fin r v = r

theorem T.ok_itrue {α : Type} {Q : α → Prop} {x y : T α} (h : x.ok Q) : (T.ite true x y).ok Q := ⟨fun _ => h, fun h => nomatch h⟩
theorem T.ok_ifalse {α : Type} {Q : α → Prop} {x y : T α} (h : y.ok Q) : (T.ite false x y).ok Q := ⟨(fun h => nomatch h), fun _ => h⟩
theorem T.ok_go {σ1 : Env} {H : Prop} {r : AV} (h : H) : (T.leaf ((none : Option AV), σ1)).ok (fun x => (x = (none, σ1) ∧ H) ∨ x = (some r, [])) := .inl ⟨rfl, h⟩
theorem T.ok_end {σ1 : Env} {H : Prop} {r a : AV} (h : a = r) : (T.leaf (some a, ([] : Env))).ok (fun x => (x = (none, σ1) ∧ H) ∨ x = (some r, [])) := .inr (by rw [h])
theorem T.ok_endL {r a : AV} (h : a = r) : (T.leaf (some a, ([] : Env))).ok (fun x => x = (some r, [])) := by subst h; rfl

section
variable {P : Program} {ps : List Nat} {rs : List RV} {r : AV} {O : Orc}
/-- one piece: it returns r, or goes on with σ1 and what is known then (H) -/
theorem cut_step {n : Nat} {c : VCode} {σ σ1 : Env} {H : Prop} (h : (evS (VCall P) ps rs r O (front n c) σ).ok (fun x => (x = (none, σ1) ∧ H) ∨ x = (some r, [])))
    (h2 : H → Ends P ps rs r (rest n c) σ1) : Ends P ps rs r c σ := by
  unfold evS at h
  obtain ⟨e, σ', kn', hk, hn, hx⟩ := front_ok n c h
  cases e with
  | normal =>
    rcases hk with ⟨hk, hH⟩ | hk
    · cases hk
      obtain ⟨e2, σ2, he, h3⟩ := h2 hH
      exact ⟨e2, σ2, hn rfl e2 σ2 he, h3⟩
    · cases hk
  | exit id => exact hk.elim
  | ret =>
    have hx := hx (by simp)
    simp only at hk
    split at hk
    · rename_i v hv
      rcases hk with ⟨hk, _⟩ | hk
      · cases hk
      · simp only [Prod.mk.injEq, Option.some.injEq, and_true] at hk
        exact ⟨.ret, σ', hx, .inr rfl, v, hv, hk⟩
    · exact hk.elim
theorem cut_last {c : VCode} {σ : Env} (h : (evS (VCall P) ps rs r O c σ).ok (fun x => x = (some r, []))) : Ends P ps rs r c σ := by
  unfold evS at h
  obtain ⟨e, σ', kn', hx, hk⟩ := evC_ok h
  cases e with
  | normal => cases hk
  | exit id => exact hk.elim
  | ret =>
    simp only at hk
    split at hk
    · rename_i v hv
      simp only [T.ok, Prod.mk.injEq, Option.some.injEq, and_true] at hk
      exact ⟨.ret, σ', hx, .inr rfl, v, hv, hk⟩
    · exact hk.elim
theorem FnIs.call_cut {f : FuncId} {nt : Nat} {vc : VCode} (h : FnIs P f nt rs vc) {args : List AV} (ht : Ends P ps rs r vc (startEnv nt args)) (hM : r.isM = false := by rfl) : VCall P f args r := by
  obtain ⟨fn, c0, hf, hb, hc, hr, hn⟩ := h.has
  subst hn
  obtain ⟨e, σ', hrun, he, v, hv, hvr⟩ := ht
  obtain ⟨a1, a2, a3⟩ := outRs_ok hr hv
  exact vcall_of_exec (rs := fn.results.toList) hf hb hc (by simp) (by rw [a1]; exact h.len) h.enter he hrun a2 (by rw [a3]; exact hvr) hM
end
end Go.Proofs.LV

namespace Go.Proofs.LV
open Go Ieee
set_option linter.unusedVariables false

/-! ### sums of fractions -/
theorem sumQ_add (f g : Nat → Rat) : ∀ n, (sumQ n fun i => f i + g i) = sumQ n f + sumQ n g
  | 0 => by show (0 : Rat) = 0 + 0; grind
  | n + 1 => by show (sumQ n fun i => f i + g i) + (f n + g n) = (sumQ n f + f n) + (sumQ n g + g n); rw [sumQ_add f g n]; grind
theorem sumQ_sub (f g : Nat → Rat) : ∀ n, (sumQ n fun i => f i - g i) = sumQ n f - sumQ n g
  | 0 => by show (0 : Rat) = 0 - 0; grind
  | n + 1 => by show (sumQ n fun i => f i - g i) + (f n - g n) = (sumQ n f + f n) - (sumQ n g + g n); rw [sumQ_sub f g n]; grind
theorem sumQ_mul (c : Rat) (f : Nat → Rat) : ∀ n, (sumQ n fun i => c * f i) = c * sumQ n f
  | 0 => by show (0 : Rat) = c * 0; grind
  | n + 1 => by show (sumQ n fun i => c * f i) + c * f n = c * (sumQ n f + f n); rw [sumQ_mul c f n]; grind
theorem nat_rat (n : Nat) : (0 : Rat) ≤ (n : Rat) := by have := nat_le_rat (Nat.zero_le n); simpa using this
theorem nat_succ (n : Nat) : ((n + 1 : Nat) : Rat) = (n : Rat) + 1 := Rat.natCast_add n 1
theorem sumQ_le {f : Nat → Rat} {C : Rat} : ∀ n, (∀ i, i < n → -C ≤ f i ∧ f i ≤ C) → -(n * C) ≤ sumQ n f ∧ sumQ n f ≤ n * C
  | 0, _ => by show -(((0 : Nat) : Rat) * C) ≤ 0 ∧ 0 ≤ ((0 : Nat) : Rat) * C; have : ((0 : Nat) : Rat) = 0 := rfl; rw [this]; grind
  | n + 1, h => by
    have h1 := sumQ_le n (fun i hi => h i (by omega))
    have h2 := h n (by omega)
    rw [nat_succ]
    show _ ≤ sumQ n f + f n ∧ sumQ n f + f n ≤ _
    grind
theorem sumQ_nonneg {f : Nat → Rat} : ∀ n, (∀ i, i < n → 0 ≤ f i) → 0 ≤ sumQ n f
  | 0, _ => Rat.le_refl
  | n + 1, h => by
    have h1 := sumQ_nonneg n (fun i hi => h i (by omega))
    have h2 := h n (by omega)
    show 0 ≤ sumQ n f + f n
    grind
/-- the sum of the first numbers -/
theorem sumQ_id : ∀ n : Nat, (sumQ n fun i => (i : Rat)) = (n : Rat) * ((n : Rat) - 1) / 2
  | 0 => by show (0 : Rat) = _; have : ((0 : Nat) : Rat) = 0 := rfl; rw [this]; grind
  | n + 1 => by show (sumQ n fun i => (i : Rat)) + (n : Rat) = _; rw [sumQ_id n, nat_succ]; grind
/-- the sum of the first squares -/
theorem sumQ_sq : ∀ n : Nat, (sumQ n fun i => (i : Rat) * i) = (n : Rat) * ((n : Rat) - 1) * (2 * (n : Rat) - 1) / 6
  | 0 => by show (0 : Rat) = _; have : ((0 : Nat) : Rat) = 0 := rfl; rw [this]; grind
  | n + 1 => by show (sumQ n fun i => (i : Rat) * i) + (n : Rat) * n = _; rw [sumQ_sq n, nat_succ]; grind

/-! ### sums from the left of numbers that are nearly told -/
theorem mul_mono {a b c d : Rat} (ha : 0 ≤ a) (hd : 0 ≤ d) (h1 : a ≤ b) (h2 : d ≤ c) : a * d ≤ b * c :=
  Rat.le_trans (Rat.mul_le_mul_of_nonneg_right h1 hd) (Rat.mul_le_mul_of_nonneg_left h2 (Rat.le_trans ha h1))
theorem acc_nearS {g : Nat → Nat} {t : Nat → Rat} {C E N : Rat} (hC : 0 ≤ C) (hE : 0 ≤ E) (n : Nat) (hN : (n : Rat) ≤ N) (hB : (C + E + 1) * N ≤ 10000000)
    (h : ∀ i, i < n → sf (g i) ∧ Nr (sv (g i)) (t i) E ∧ -C ≤ t i ∧ t i ≤ C) :
    sf (accN (fun i s => fadd .f32 s (g i)) n 0) ∧ Nr (sv (accN (fun i s => fadd .f32 s (g i)) n 0)) (sumQ n t) (n * (E + ((C + E + 1) * N * e24 + eta))) := by
  induction n with
  | zero =>
    refine ⟨zero_sf, ?_⟩
    have z : sv (accN (fun i s => fadd .f32 s (g i)) 0 0) = 0 := zero_rv _
    rw [z]
    show Nr 0 0 (((0 : Nat) : Rat) * _)
    have : ((0 : Nat) : Rat) = 0 := rfl
    rw [this]
    exact ⟨by grind, by grind⟩
  | succ n ih =>
    rw [nat_succ] at hN
    obtain ⟨h1, h2⟩ := ih (by grind) (fun i hi => h i (by omega))
    obtain ⟨g1, g2, g3, g4⟩ := h n (by omega)
    have hs := sumQ_le (C := C) n (fun i hi => (h i (by omega)).2.2)
    have e24p : (0 : Rat) ≤ e24 := by decide +kernel
    have hK : (C + E + 1) * N * e24 + eta ≤ 1 := by
      have : (C + E + 1) * N * e24 ≤ 10000000 * e24 := Rat.mul_le_mul_of_nonneg_right hB e24p
      have : (10000000 : Rat) * e24 + eta ≤ 1 := by decide +kernel
      grind
    have hn0 := nat_rat n
    have hK0 : 0 ≤ (C + E + 1) * N * e24 + eta := by
      have a : 0 ≤ (C + E + 1) * N := Rat.mul_nonneg (by grind) (by grind)
      have b := Rat.mul_nonneg a e24p
      have c : (0 : Rat) ≤ eta := by decide +kernel
      grind
    generalize hKK : (C + E + 1) * N * e24 + eta = K at *
    have k1 : (n : Rat) * K ≤ n * 1 := Rat.mul_le_mul_of_nonneg_left hK hn0
    have k2 : ((n : Rat) + 1) * (C + E + 1) ≤ N * (C + E + 1) := Rat.mul_le_mul_of_nonneg_right hN (by grind)
    obtain ⟨u1, u2⟩ := h2
    obtain ⟨v1, v2⟩ := g2
    obtain ⟨s1, s2⟩ := s_add (B := (C + E + 1) * N) h1 g1 (by grind) (by grind) (by grind)
    rw [hKK] at s2
    refine ⟨s1, ?_⟩
    show Nr (sv (fadd .f32 _ (g n))) (sumQ n t + t n) _
    rw [nat_succ]
    obtain ⟨w1, w2⟩ := s2
    exact ⟨by grind, by grind⟩
theorem acc_nearD {g : Nat → Nat} {t : Nat → Rat} {C E N : Rat} (hC : 0 ≤ C) (hE : 0 ≤ E) (n : Nat) (hN : (n : Rat) ≤ N) (hB : (C + E + 1) * N ≤ 10000000)
    (h : ∀ i, i < n → df (g i) ∧ Nr (dv (g i)) (t i) E ∧ -C ≤ t i ∧ t i ≤ C) :
    df (accN (fun i s => fadd .f64 s (g i)) n 0) ∧ Nr (dv (accN (fun i s => fadd .f64 s (g i)) n 0)) (sumQ n t) (n * (E + ((C + E + 1) * N * e53 + eta))) := by
  induction n with
  | zero =>
    refine ⟨zero_df, ?_⟩
    have z : dv (accN (fun i s => fadd .f64 s (g i)) 0 0) = 0 := zero_rv _
    rw [z]
    show Nr 0 0 (((0 : Nat) : Rat) * _)
    have : ((0 : Nat) : Rat) = 0 := rfl
    rw [this]
    exact ⟨by grind, by grind⟩
  | succ n ih =>
    rw [nat_succ] at hN
    obtain ⟨h1, h2⟩ := ih (by grind) (fun i hi => h i (by omega))
    obtain ⟨g1, g2, g3, g4⟩ := h n (by omega)
    have hs := sumQ_le (C := C) n (fun i hi => (h i (by omega)).2.2)
    have e24p : (0 : Rat) ≤ e53 := by decide +kernel
    have hK : (C + E + 1) * N * e53 + eta ≤ 1 := by
      have : (C + E + 1) * N * e53 ≤ 10000000 * e53 := Rat.mul_le_mul_of_nonneg_right hB e24p
      have : (10000000 : Rat) * e53 + eta ≤ 1 := by decide +kernel
      grind
    have hn0 := nat_rat n
    have hK0 : 0 ≤ (C + E + 1) * N * e53 + eta := by
      have a : 0 ≤ (C + E + 1) * N := Rat.mul_nonneg (by grind) (by grind)
      have b := Rat.mul_nonneg a e24p
      have c : (0 : Rat) ≤ eta := by decide +kernel
      grind
    generalize hKK : (C + E + 1) * N * e53 + eta = K at *
    have k1 : (n : Rat) * K ≤ n * 1 := Rat.mul_le_mul_of_nonneg_left hK hn0
    have k2 : ((n : Rat) + 1) * (C + E + 1) ≤ N * (C + E + 1) := Rat.mul_le_mul_of_nonneg_right hN (by grind)
    obtain ⟨u1, u2⟩ := h2
    obtain ⟨v1, v2⟩ := g2
    obtain ⟨s1, s2⟩ := d_add (B := (C + E + 1) * N) h1 g1 (by grind) (by grind) (by grind)
    rw [hKK] at s2
    refine ⟨s1, ?_⟩
    show Nr (dv (fadd .f64 _ (g n))) (sumQ n t + t n) _
    rw [nat_succ]
    obtain ⟨w1, w2⟩ := s2
    exact ⟨by grind, by grind⟩

/-! ### the gap -/
def gapD (a b : Nat) : Nat := if flt .f64 a b = true then fsub .f64 b a else fsub .f64 a b
/-- the gap of two numbers that lie within G of each other -/
theorem gap_le {a b : Nat} {G : Rat} (ha : df a) (hb : df b) (h : Nr (dv a) (dv b) G) (hG : G ≤ 1000000000) : df (gapD a b) ∧ 0 ≤ dv (gapD a b) ∧ dv (gapD a b) ≤ G + G * e53 + eta := by
  obtain ⟨h1, h2⟩ := h
  have e53p : (0 : Rat) ≤ e53 := by decide +kernel
  unfold gapD
  rw [flt_rv (k := .f64) ha hb]
  split
  · rename_i hlt
    have hlt : dv a < dv b := of_decide_eq_true hlt
    have hb1 : rabs (dv b - dv a) ≤ 2 ^ (top .f64) := Rat.le_trans (rabs_le (B := G) (by grind) (by grind)) (topD (by grind))
    have hrd := fsub_rd .f64 hb ha hb1
    obtain ⟨s1, s2⟩ := d_sub (B := G) hb ha (by grind) (by grind) (by grind)
    obtain ⟨w1, w2⟩ := s2
    refine ⟨s1, hrd.pos (by grind), by grind⟩
  · rename_i hlt
    have hlt : dv b ≤ dv a := by
      have : ¬ dv a < dv b := fun h => hlt (decide_eq_true h)
      exact Rat.not_lt.1 this
    have hb1 : rabs (dv a - dv b) ≤ 2 ^ (top .f64) := Rat.le_trans (rabs_le (B := G) (by grind) (by grind)) (topD (by grind))
    have hrd := fsub_rd .f64 ha hb hb1
    obtain ⟨s1, s2⟩ := d_sub (B := G) ha hb (by grind) (by grind) (by grind)
    obtain ⟨w1, w2⟩ := s2
    refine ⟨s1, hrd.pos (by grind), by grind⟩
theorem c01 : df 4576918229304087675 ∧ 9 / 1000 ≤ dv 4576918229304087675 ∧ dv 4576918229304087675 ≤ 1 / 50 := by
  have h : df 4576918229304087675 := by unfold df fnt; decide +kernel
  refine ⟨h, ?_⟩
  have : dv 4576918229304087675 = 5764607523034235 / 576460752303423488 := lit_neg h (m := 5764607523034235) (n := 59) (by decide +kernel) (by decide +kernel)
  rw [this]; decide +kernel
theorem c001 : df 4562254508917369340 ∧ 9 / 10000 ≤ dv 4562254508917369340 ∧ dv 4562254508917369340 ≤ 1 / 500 := by
  have h : df 4562254508917369340 := by unfold df fnt; decide +kernel
  refine ⟨h, ?_⟩
  have : dv 4562254508917369340 = 1152921504606847 / 1152921504606846976 := lit_neg h (m := 4611686018427388) (n := 62) (by decide +kernel) (by decide +kernel)
  rw [this]; decide +kernel
theorem c05 : df 4587366580439587226 ∧ 49 / 1000 ≤ dv 4587366580439587226 ∧ dv 4587366580439587226 ≤ 1 / 10 := by
  have h : df 4587366580439587226 := by unfold df fnt; decide +kernel
  refine ⟨h, ?_⟩
  have : dv 4587366580439587226 = 3602879701896397 / 72057594037927936 := lit_neg h (m := 7205759403792794) (n := 57) (by decide +kernel) (by decide +kernel)
  rw [this]; decide +kernel
theorem div_bound {x d e b : Rat} (hd : 0 < d) (h1 : -e ≤ x * d) (h2 : x * d ≤ e) (hb : e ≤ b * d) : -b ≤ x ∧ x ≤ b := by
  constructor
  · refine Rat.le_of_mul_le_mul_right ?_ hd
    grind
  · refine Rat.le_of_mul_le_mul_right ?_ hd
    grind
end Go.Proofs.LV
