/- Texts that belong together. -/
import Derived.Test.YtdffgjembkanoaaLvEv
import Derived.Test.YtdffgjembkanoaaLvRatS
import Derived.Test.YtdffgjembkanoaaLvLawW
import Derived.Test.YtdffgjembkanoaaLvSqrt
namespace Go.Proofs.LV
open Go
set_option linter.unusedVariables false

/-- the first n members of a row of statements -/
def front : Nat → VCode → VCode
  | 0, _ => .skip
  | n + 1, .seq a b => .seq a (front n b)
  | _ + 1, _ => .skip
/-- what follows them -/
def rest : Nat → VCode → VCode
  | 0, c => c
  | n + 1, .seq _ b => rest n b
  | _ + 1, c => c
def hasBlk (id : Nat) : VCode → Bool
  | .seq a b => hasBlk id a || hasBlk id b
  | .cond _ a b => hasBlk id a || hasBlk id b
  | .block i b => i == id || hasBlk id b
  | .loop b => hasBlk id b
  | _ => false

/-- the tree of a piece: it goes on (none) or returns (some) -/
def evS (VC : FuncId → List AV → AV → Prop) (ps : List Nat) (rs : List RV) (r0 : AV) (O : Orc) (c : VCode) (σ : Env) : T (Option AV × Env) :=
  evC VC ps O c σ [] fun e σ _ => match e with
    | .normal => .leaf (none, σ)
    | .exit _ => .fail
    | .ret => match outRs rs σ with | some v => .leaf (some (AV.fin r0 v), []) | none => .fail
theorem evS_of {VC : FuncId → List AV → AV → Prop} {ps : List Nat} {rs : List RV} {r0 : AV} {O : Orc} {c : VCode} {σ : Env} {t : T (Option AV × Env)} {Q : Option AV × Env → Prop}
    (e : evS VC ps rs r0 O c σ = t) (ht : t.ok Q) : (evS VC ps rs r0 O c σ).ok Q := e ▸ ht

theorem front_ok {α : Type} {VC : FuncId → List AV → AV → Prop} {O : Orc} {Q : α → Prop} {ps : List Nat} : ∀ (n : Nat) (c : VCode) {σ : Env} {kn : Kn} {k : Ex → Env → Kn → T α}, (evC VC ps O (front n c) σ kn k).ok Q →
    ∃ e σ' kn', (k e σ' kn').ok Q ∧ (e = .normal → ∀ e2 σ2, Exec VC ps (rest n c) σ' e2 σ2 → Exec VC ps c σ e2 σ2) ∧ (e ≠ .normal → Exec VC ps c σ e σ')
  | 0, c, σ, kn, k, h => ⟨.normal, σ, kn, h, fun _ _ _ h => h, fun h => absurd rfl h⟩
  | n + 1, .seq a b, σ, kn, k, h => by
    unfold front evC at h
    obtain ⟨e, σ1, kn1, h1, h2⟩ := evC_ok h
    cases e with
    | normal =>
      obtain ⟨e', σ2, kn2, h3, h4, h5⟩ := front_ok n b h2
      exact ⟨e', σ2, kn2, h3, fun he e2 σ3 hx => .seq h1 (h4 he e2 σ3 hx), fun he => .seq h1 (h5 he)⟩
    | exit id => exact ⟨.exit id, σ1, kn1, h2, (fun h => by cases h), fun _ => .seqX h1 (by simp)⟩
    | ret => exact ⟨.ret, σ1, kn1, h2, (fun h => by cases h), fun _ => .seqX h1 (by simp)⟩
  | n + 1, .skip, σ, kn, k, h => ⟨.normal, σ, kn, h, fun _ _ _ h => h, fun h => absurd rfl h⟩
  | n + 1, .region _ _, σ, kn, k, h => ⟨.normal, σ, kn, h, fun _ _ _ h => h, fun h => absurd rfl h⟩
  | n + 1, .cond _ _ _, σ, kn, k, h => ⟨.normal, σ, kn, h, fun _ _ _ h => h, fun h => absurd rfl h⟩
  | n + 1, .block _ _, σ, kn, k, h => ⟨.normal, σ, kn, h, fun _ _ _ h => h, fun h => absurd rfl h⟩
  | n + 1, .loop _, σ, kn, k, h => ⟨.normal, σ, kn, h, fun _ _ _ h => h, fun h => absurd rfl h⟩
  | n + 1, .exit _, σ, kn, k, h => ⟨.normal, σ, kn, h, fun _ _ _ h => h, fun h => absurd rfl h⟩
  | n + 1, .ret, σ, kn, k, h => ⟨.normal, σ, kn, h, fun _ _ _ h => h, fun h => absurd rfl h⟩

/-- the code ends with this result -/
def Ends (P : Program) (ps : List Nat) (rs : List RV) (r : AV) (c : VCode) (σ : Env) : Prop :=
  ∃ e σ', Exec (VCall P) ps c σ e σ' ∧ (e = .normal ∨ e = .ret) ∧ ∃ v, outRs rs σ' = some v ∧ AV.fin r v = r

/-- the same; only some slots are handed on -/
def evK (VC : FuncId → List AV → AV → Prop) (ps ks : List Nat) (rs : List RV) (r0 : AV) (O : Orc) (c : VCode) (σ : Env) : T (Option AV × Env) :=
  evC VC ps O c σ [] fun e σ _ => match e with
    | .normal => .leaf (none, σ.clear ks)
    | .exit _ => .fail
    | .ret => match outRs rs σ with | some v => .leaf (some (AV.fin r0 v), []) | none => .fail
theorem evK_of {VC : FuncId → List AV → AV → Prop} {ps ks : List Nat} {rs : List RV} {r0 : AV} {O : Orc} {c : VCode} {σ : Env} {t : T (Option AV × Env)} {Q : Option AV × Env → Prop}
    (e : evK VC ps ks rs r0 O c σ = t) (ht : t.ok Q) : (evK VC ps ks rs r0 O c σ).ok Q := e ▸ ht
theorem T.ok_itrue {α : Type} {Q : α → Prop} {x y : T α} (h : x.ok Q) : (T.ite true x y).ok Q := ⟨fun _ => h, fun h => nomatch h⟩
theorem T.ok_ifalse {α : Type} {Q : α → Prop} {x y : T α} (h : y.ok Q) : (T.ite false x y).ok Q := ⟨(fun h => nomatch h), fun _ => h⟩
theorem T.ok_go {σ1 : Env} {H : Prop} {r : AV} (h : H) : (T.leaf ((none : Option AV), σ1)).ok (fun x => (x = (none, σ1) ∧ H) ∨ x = (some r, [])) := .inl ⟨rfl, h⟩
theorem T.ok_end {σ1 : Env} {H : Prop} {r a : AV} (h : a = r) : (T.leaf (some a, ([] : Env))).ok (fun x => (x = (none, σ1) ∧ H) ∨ x = (some r, [])) := .inr (by rw [h])
theorem T.ok_endL {r a : AV} (h : a = r) : (T.leaf (some a, ([] : Env))).ok (fun x => x = (some r, [])) := by subst h; rfl

section
variable {P : Program} {ps : List Nat} {rs : List RV} {r : AV} {O : Orc}
/-- one piece: it returns r, or goes on with σ1 and what is known then (H) -/
theorem cut_step {n : Nat} {c : VCode} {σ σ1 : Env} {H : Prop} (h : (evS (VCall P) ps rs r O (front n c) σ).ok (fun x => (x = (none, σ1) ∧ H) ∨ x = (some r, [])))
    (h2 : H → Ends P ps rs r (rest n c) σ1) : Ends P ps rs r c σ := by
  unfold evS at h
  obtain ⟨e, σ', kn', hk, hn, hx⟩ := front_ok n c h
  cases e with
  | normal =>
    rcases hk with ⟨hk, hH⟩ | hk
    · cases hk
      obtain ⟨e2, σ2, he, h3⟩ := h2 hH
      exact ⟨e2, σ2, hn rfl e2 σ2 he, h3⟩
    · cases hk
  | exit id => exact hk.elim
  | ret =>
    have hx := hx (by simp)
    simp only at hk
    split at hk
    · rename_i v hv
      rcases hk with ⟨hk, _⟩ | hk
      · cases hk
      · simp only [Prod.mk.injEq, Option.some.injEq, and_true] at hk
        exact ⟨.ret, σ', hx, .inr rfl, v, hv, hk⟩
    · exact hk.elim
theorem cut_stepK {ks : List Nat} {n : Nat} {c : VCode} {σ σ1 : Env} {H : Prop} (h : (evK (VCall P) ps ks rs r O (front n c) σ).ok (fun x => (x = (none, σ1) ∧ H) ∨ x = (some r, [])))
    (h2 : H → Ends P ps rs r (rest n c) σ1) : Ends P ps rs r c σ := by
  unfold evK at h
  obtain ⟨e, σ', kn', hk, hn, hx⟩ := front_ok n c h
  cases e with
  | normal =>
    rcases hk with ⟨hk, hH⟩ | hk
    · cases hk
      obtain ⟨e2, σ2, he, h3⟩ := h2 hH
      exact ⟨e2, σ2, hn rfl e2 σ2 (.forget ks he), h3⟩
    · cases hk
  | exit id => exact hk.elim
  | ret =>
    have hx := hx (by simp)
    simp only at hk
    split at hk
    · rename_i v hv
      rcases hk with ⟨hk, _⟩ | hk
      · cases hk
      · simp only [Prod.mk.injEq, Option.some.injEq, and_true] at hk
        exact ⟨.ret, σ', hx, .inr rfl, v, hv, hk⟩
    · exact hk.elim
theorem cut_last {c : VCode} {σ : Env} (h : (evS (VCall P) ps rs r O c σ).ok (fun x => x = (some r, []))) : Ends P ps rs r c σ := by
  unfold evS at h
  obtain ⟨e, σ', kn', hx, hk⟩ := evC_ok h
  cases e with
  | normal => cases hk
  | exit id => exact hk.elim
  | ret =>
    simp only at hk
    split at hk
    · rename_i v hv
      simp only [T.ok, Prod.mk.injEq, Option.some.injEq, and_true] at hk
      exact ⟨.ret, σ', hx, .inr rfl, v, hv, hk⟩
    · exact hk.elim
theorem FnIs.call_cut {f : FuncId} {nt : Nat} {vc : VCode} (h : FnIs P f nt rs vc) {args : List AV} (ht : Ends P ps rs r vc (startEnv nt args)) (hM : r.isM = false := by rfl) : VCall P f args r := by
  obtain ⟨fn, c0, hf, hb, hc, hr, hn⟩ := h.has
  subst hn
  obtain ⟨e, σ', hrun, he, v, hv, hvr⟩ := ht
  obtain ⟨a1, a2, a3⟩ := outRs_ok hr hv
  exact vcall_of_exec (rs := fn.results.toList) hf hb hc (by simp) (by rw [a1]; exact h.len) h.enter he hrun a2 (by rw [a3]; exact hvr) hM
end
end Go.Proofs.LV

namespace Go.Proofs.LV
open Go Ieee
set_option linter.unusedVariables false

/-! ### sums of fractions -/
theorem sumQ_add (f g : Nat → Rat) : ∀ n, (sumQ n fun i => f i + g i) = sumQ n f + sumQ n g
  | 0 => by show (0 : Rat) = 0 + 0; grind
  | n + 1 => by show (sumQ n fun i => f i + g i) + (f n + g n) = (sumQ n f + f n) + (sumQ n g + g n); rw [sumQ_add f g n]; grind
theorem sumQ_sub (f g : Nat → Rat) : ∀ n, (sumQ n fun i => f i - g i) = sumQ n f - sumQ n g
  | 0 => by show (0 : Rat) = 0 - 0; grind
  | n + 1 => by show (sumQ n fun i => f i - g i) + (f n - g n) = (sumQ n f + f n) - (sumQ n g + g n); rw [sumQ_sub f g n]; grind
theorem sumQ_mul (c : Rat) (f : Nat → Rat) : ∀ n, (sumQ n fun i => c * f i) = c * sumQ n f
  | 0 => by show (0 : Rat) = c * 0; grind
  | n + 1 => by show (sumQ n fun i => c * f i) + c * f n = c * (sumQ n f + f n); rw [sumQ_mul c f n]; grind
theorem nat_rat (n : Nat) : (0 : Rat) ≤ (n : Rat) := by have := nat_le_rat (Nat.zero_le n); simpa using this
theorem nat_succ (n : Nat) : ((n + 1 : Nat) : Rat) = (n : Rat) + 1 := Rat.natCast_add n 1
theorem sumQ_le {f : Nat → Rat} {C : Rat} : ∀ n, (∀ i, i < n → -C ≤ f i ∧ f i ≤ C) → -(n * C) ≤ sumQ n f ∧ sumQ n f ≤ n * C
  | 0, _ => by show -(((0 : Nat) : Rat) * C) ≤ 0 ∧ 0 ≤ ((0 : Nat) : Rat) * C; have : ((0 : Nat) : Rat) = 0 := rfl; rw [this]; grind
  | n + 1, h => by
    have h1 := sumQ_le n (fun i hi => h i (by omega))
    have h2 := h n (by omega)
    rw [nat_succ]
    show _ ≤ sumQ n f + f n ∧ sumQ n f + f n ≤ _
    grind
theorem sumQ_nonneg {f : Nat → Rat} : ∀ n, (∀ i, i < n → 0 ≤ f i) → 0 ≤ sumQ n f
  | 0, _ => Rat.le_refl
  | n + 1, h => by
    have h1 := sumQ_nonneg n (fun i hi => h i (by omega))
    have h2 := h n (by omega)
    show 0 ≤ sumQ n f + f n
    grind
/-- the sum of the first numbers -/
theorem sumQ_id : ∀ n : Nat, (sumQ n fun i => (i : Rat)) = (n : Rat) * ((n : Rat) - 1) / 2
  | 0 => by show (0 : Rat) = _; have : ((0 : Nat) : Rat) = 0 := rfl; rw [this]; grind
  | n + 1 => by show (sumQ n fun i => (i : Rat)) + (n : Rat) = _; rw [sumQ_id n, nat_succ]; grind
/-- the sum of the first squares -/
theorem sumQ_sq : ∀ n : Nat, (sumQ n fun i => (i : Rat) * i) = (n : Rat) * ((n : Rat) - 1) * (2 * (n : Rat) - 1) / 6
  | 0 => by show (0 : Rat) = _; have : ((0 : Nat) : Rat) = 0 := rfl; rw [this]; grind
  | n + 1 => by show (sumQ n fun i => (i : Rat) * i) + (n : Rat) * n = _; rw [sumQ_sq n, nat_succ]; grind

/-! ### sums from the left of numbers that are nearly told -/
theorem mul_mono {a b c d : Rat} (ha : 0 ≤ a) (hd : 0 ≤ d) (h1 : a ≤ b) (h2 : d ≤ c) : a * d ≤ b * c :=
  Rat.le_trans (Rat.mul_le_mul_of_nonneg_right h1 hd) (Rat.mul_le_mul_of_nonneg_left h2 (Rat.le_trans ha h1))
theorem acc_nearS {g : Nat → Nat} {t : Nat → Rat} {C E N : Rat} (hC : 0 ≤ C) (hE : 0 ≤ E) (n : Nat) (hN : (n : Rat) ≤ N) (hB : (C + E + 1) * N ≤ 10000000)
    (h : ∀ i, i < n → sf (g i) ∧ Nr (sv (g i)) (t i) E ∧ -C ≤ t i ∧ t i ≤ C) :
    sf (accN (fun i s => fadd .f32 s (g i)) n 0) ∧ Nr (sv (accN (fun i s => fadd .f32 s (g i)) n 0)) (sumQ n t) (n * (E + ((C + E + 1) * N * e24 + eta))) := by
  induction n with
  | zero =>
    refine ⟨zero_sf, ?_⟩
    have z : sv (accN (fun i s => fadd .f32 s (g i)) 0 0) = 0 := zero_rv _
    rw [z]
    show Nr 0 0 (((0 : Nat) : Rat) * _)
    have : ((0 : Nat) : Rat) = 0 := rfl
    rw [this]
    exact ⟨by grind, by grind⟩
  | succ n ih =>
    rw [nat_succ] at hN
    obtain ⟨h1, h2⟩ := ih (by grind) (fun i hi => h i (by omega))
    obtain ⟨g1, g2, g3, g4⟩ := h n (by omega)
    have hs := sumQ_le (C := C) n (fun i hi => (h i (by omega)).2.2)
    have e24p : (0 : Rat) ≤ e24 := by decide +kernel
    have hK : (C + E + 1) * N * e24 + eta ≤ 1 := by
      have : (C + E + 1) * N * e24 ≤ 10000000 * e24 := Rat.mul_le_mul_of_nonneg_right hB e24p
      have : (10000000 : Rat) * e24 + eta ≤ 1 := by decide +kernel
      grind
    have hn0 := nat_rat n
    have hK0 : 0 ≤ (C + E + 1) * N * e24 + eta := by
      have a : 0 ≤ (C + E + 1) * N := Rat.mul_nonneg (by grind) (by grind)
      have b := Rat.mul_nonneg a e24p
      have c : (0 : Rat) ≤ eta := by decide +kernel
      grind
    generalize hKK : (C + E + 1) * N * e24 + eta = K at *
    have k1 : (n : Rat) * K ≤ n * 1 := Rat.mul_le_mul_of_nonneg_left hK hn0
    have k2 : ((n : Rat) + 1) * (C + E + 1) ≤ N * (C + E + 1) := Rat.mul_le_mul_of_nonneg_right hN (by grind)
    obtain ⟨u1, u2⟩ := h2
    obtain ⟨v1, v2⟩ := g2
    obtain ⟨s1, s2⟩ := s_add (B := (C + E + 1) * N) h1 g1 (by grind) (by grind) (by grind)
    rw [hKK] at s2
    refine ⟨s1, ?_⟩
    show Nr (sv (fadd .f32 _ (g n))) (sumQ n t + t n) _
    rw [nat_succ]
    obtain ⟨w1, w2⟩ := s2
    exact ⟨by grind, by grind⟩
theorem acc_nearD {g : Nat → Nat} {t : Nat → Rat} {C E N : Rat} (hC : 0 ≤ C) (hE : 0 ≤ E) (n : Nat) (hN : (n : Rat) ≤ N) (hB : (C + E + 1) * N ≤ 10000000)
    (h : ∀ i, i < n → df (g i) ∧ Nr (dv (g i)) (t i) E ∧ -C ≤ t i ∧ t i ≤ C) :
    df (accN (fun i s => fadd .f64 s (g i)) n 0) ∧ Nr (dv (accN (fun i s => fadd .f64 s (g i)) n 0)) (sumQ n t) (n * (E + ((C + E + 1) * N * e53 + eta))) := by
  induction n with
  | zero =>
    refine ⟨zero_df, ?_⟩
    have z : dv (accN (fun i s => fadd .f64 s (g i)) 0 0) = 0 := zero_rv _
    rw [z]
    show Nr 0 0 (((0 : Nat) : Rat) * _)
    have : ((0 : Nat) : Rat) = 0 := rfl
    rw [this]
    exact ⟨by grind, by grind⟩
  | succ n ih =>
    rw [nat_succ] at hN
    obtain ⟨h1, h2⟩ := ih (by grind) (fun i hi => h i (by omega))
    obtain ⟨g1, g2, g3, g4⟩ := h n (by omega)
    have hs := sumQ_le (C := C) n (fun i hi => (h i (by omega)).2.2)
    have e24p : (0 : Rat) ≤ e53 := by decide +kernel
    have hK : (C + E + 1) * N * e53 + eta ≤ 1 := by
      have : (C + E + 1) * N * e53 ≤ 10000000 * e53 := Rat.mul_le_mul_of_nonneg_right hB e24p
      have : (10000000 : Rat) * e53 + eta ≤ 1 := by decide +kernel
      grind
    have hn0 := nat_rat n
    have hK0 : 0 ≤ (C + E + 1) * N * e53 + eta := by
      have a : 0 ≤ (C + E + 1) * N := Rat.mul_nonneg (by grind) (by grind)
      have b := Rat.mul_nonneg a e24p
      have c : (0 : Rat) ≤ eta := by decide +kernel
      grind
    generalize hKK : (C + E + 1) * N * e53 + eta = K at *
    have k1 : (n : Rat) * K ≤ n * 1 := Rat.mul_le_mul_of_nonneg_left hK hn0
    have k2 : ((n : Rat) + 1) * (C + E + 1) ≤ N * (C + E + 1) := Rat.mul_le_mul_of_nonneg_right hN (by grind)
    obtain ⟨u1, u2⟩ := h2
    obtain ⟨v1, v2⟩ := g2
    obtain ⟨s1, s2⟩ := d_add (B := (C + E + 1) * N) h1 g1 (by grind) (by grind) (by grind)
    rw [hKK] at s2
    refine ⟨s1, ?_⟩
    show Nr (dv (fadd .f64 _ (g n))) (sumQ n t + t n) _
    rw [nat_succ]
    obtain ⟨w1, w2⟩ := s2
    exact ⟨by grind, by grind⟩

/-! ### the gap -/
def gapD (a b : Nat) : Nat := if flt .f64 a b = true then fsub .f64 b a else fsub .f64 a b
/-- the gap of two numbers that lie within G of each other -/
theorem gap_le {a b : Nat} {G : Rat} (ha : df a) (hb : df b) (h : Nr (dv a) (dv b) G) (hG : G ≤ 1000000000) : df (gapD a b) ∧ 0 ≤ dv (gapD a b) ∧ dv (gapD a b) ≤ G + G * e53 + eta := by
  obtain ⟨h1, h2⟩ := h
  have e53p : (0 : Rat) ≤ e53 := by decide +kernel
  unfold gapD
  rw [flt_rv (k := .f64) ha hb]
  split
  · rename_i hlt
    have hlt : dv a < dv b := of_decide_eq_true hlt
    have hb1 : rabs (dv b - dv a) ≤ 2 ^ (top .f64) := Rat.le_trans (rabs_le (B := G) (by grind) (by grind)) (topD (by grind))
    have hrd := fsub_rd .f64 hb ha hb1
    obtain ⟨s1, s2⟩ := d_sub (B := G) hb ha (by grind) (by grind) (by grind)
    obtain ⟨w1, w2⟩ := s2
    refine ⟨s1, hrd.pos (by grind), by grind⟩
  · rename_i hlt
    have hlt : dv b ≤ dv a := by
      have : ¬ dv a < dv b := fun h => hlt (decide_eq_true h)
      exact Rat.not_lt.1 this
    have hb1 : rabs (dv a - dv b) ≤ 2 ^ (top .f64) := Rat.le_trans (rabs_le (B := G) (by grind) (by grind)) (topD (by grind))
    have hrd := fsub_rd .f64 ha hb hb1
    obtain ⟨s1, s2⟩ := d_sub (B := G) ha hb (by grind) (by grind) (by grind)
    obtain ⟨w1, w2⟩ := s2
    refine ⟨s1, hrd.pos (by grind), by grind⟩
theorem c01 : df 4576918229304087675 ∧ 9 / 1000 ≤ dv 4576918229304087675 ∧ dv 4576918229304087675 ≤ 1 / 50 := by
  have h : df 4576918229304087675 := by unfold df fnt; decide +kernel
  refine ⟨h, ?_⟩
  have : dv 4576918229304087675 = 5764607523034235 / 576460752303423488 := lit_neg h (m := 5764607523034235) (n := 59) (by decide +kernel) (by decide +kernel)
  rw [this]; decide +kernel
theorem c001 : df 4562254508917369340 ∧ 9 / 10000 ≤ dv 4562254508917369340 ∧ dv 4562254508917369340 ≤ 1 / 500 := by
  have h : df 4562254508917369340 := by unfold df fnt; decide +kernel
  refine ⟨h, ?_⟩
  have : dv 4562254508917369340 = 1152921504606847 / 1152921504606846976 := lit_neg h (m := 4611686018427388) (n := 62) (by decide +kernel) (by decide +kernel)
  rw [this]; decide +kernel
theorem c05 : df 4587366580439587226 ∧ 49 / 1000 ≤ dv 4587366580439587226 ∧ dv 4587366580439587226 ≤ 1 / 10 := by
  have h : df 4587366580439587226 := by unfold df fnt; decide +kernel
  refine ⟨h, ?_⟩
  have : dv 4587366580439587226 = 3602879701896397 / 72057594037927936 := lit_neg h (m := 7205759403792794) (n := 57) (by decide +kernel) (by decide +kernel)
  rw [this]; decide +kernel
theorem div_bound {x d e b : Rat} (hd : 0 < d) (h1 : -e ≤ x * d) (h2 : x * d ≤ e) (hb : e ≤ b * d) : -b ≤ x ∧ x ≤ b := by
  constructor
  · refine Rat.le_of_mul_le_mul_right ?_ hd
    grind
  · refine Rat.le_of_mul_le_mul_right ?_ hd
    grind
end Go.Proofs.LV

namespace Go.Proofs.LV
open Go Ieee
set_option linter.unusedVariables false
set_option linter.unusedSimpArgs false

-- FN laws_b10Gap
/-- laws.b10Gap: slots 14, results [.t 4]; calls []; names [(a, 0), (b, 1), (a, 2), (b, 3)] -/
def ps_laws_b10Gap : List Nat := [0, 1, 4, 7]
def b_laws_b10Gap : VCode :=
  (.seq
   (.region false [
    ⟨some 4, .mv, [.k (.f .f64 0)], none⟩])
   (.seq
    (.seq
     (.region false [
      ⟨some 5, .mv, [.t 0], none⟩,
      ⟨some 6, .mv, [.t 1], none⟩,
      ⟨some 7, (.bin .lss), [.t 5, .t 6], none⟩])
     (.cond (.t 7)
      (.seq
       (.region false [
        ⟨some 8, .mv, [.t 1], none⟩,
        ⟨some 9, .mv, [.t 0], none⟩,
        ⟨some 10, (.bin .sub), [.t 8, .t 9], none⟩,
        ⟨some 4, .mv, [.t 10], none⟩])
       .ret)
      .skip))
    (.seq
     (.region false [
      ⟨some 11, .mv, [.t 0], none⟩,
      ⟨some 12, .mv, [.t 1], none⟩,
      ⟨some 13, (.bin .sub), [.t 11, .t 12], none⟩,
      ⟨some 4, .mv, [.t 13], none⟩])
     .ret)))

abbrev Is_laws_b10Gap (P : Program) (g_f : FuncId) : Prop := FnIs P g_f 14 [.t 4] (b_laws_b10Gap)

abbrev C_laws_b10Gap (P : Program) (g_f : FuncId) : Prop := ∀ (a : Nat) (b : Nat), VCall P g_f [.f .f64 a, .f .f64 b] (.f .f64 (gapD a b))
def oc1_laws_b10Gap (as : List AV) : T AV := match as with | [.f .f64 a, .f .f64 b] => .leaf (.f .f64 (gapD a b)) | _ => .fail



theorem q_laws_b10Gap {P : Program} {g_f : FuncId} (h_ : Is_laws_b10Gap P g_f) (a : Nat) (b : Nat) (ht : T.ok (fun x_ => x_ = .f .f64 (gapD a b)) (
      T.ite (flt FloatKind.f64 a b) (T.leaf (AV.f FloatKind.f64 (fsub FloatKind.f64 b a))) (T.leaf (AV.f FloatKind.f64 (fsub FloatKind.f64 a b))))) :
    VCall P g_f [.f .f64 a, .f .f64 b] (.f .f64 (gapD a b)) := h_.call_of ps_laws_b10Gap ⟨fun _ _ => .fail, fun _ _ => none⟩ (by kernel_rfl) ht

-- END laws_b10Gap

theorem k_laws_b10Gap {P : Program} {f : FuncId} (h : Is_laws_b10Gap P f) : C_laws_b10Gap P f := by
  intro a b
  refine q_laws_b10Gap h a b ?_
  unfold gapD
  refine T.ok_ite (fun hc => ?_) (fun hc => ?_) <;> simp [T.ok, hc]
/-! ### gaps that are small -/
theorem gap_c01 {a b : Nat} (ha : sf a) (hb : sf b) (h : Nr (sv a) (sv b) (8 / 1000)) : fgt .f64 (gapD (fconv .f32 .f64 a) (fconv .f32 .f64 b)) 4576918229304087675 = false := by
  obtain ⟨a1, a2⟩ := conv_up ha
  obtain ⟨b1, b2⟩ := conv_up hb
  obtain ⟨g1, g2, g3⟩ := gap_le (G := 8 / 1000) a1 b1 (by rw [a2, b2]; exact h) (by decide +kernel)
  obtain ⟨c1, c2, c3⟩ := c01
  rw [fgt_rv (k := .f64) g1 c1]
  have k : (8 : Rat) / 1000 + 8 / 1000 * e53 + eta ≤ 9 / 1000 := by decide +kernel
  exact decide_eq_false (Rat.not_lt.2 (Rat.le_trans g3 (Rat.le_trans k c2)))
theorem gap_c001 {a b : Nat} (ha : sf a) (hb : sf b) (h : Nr (sv a) (sv b) (8 / 10000)) : fgt .f64 (gapD (fconv .f32 .f64 a) (fconv .f32 .f64 b)) 4562254508917369340 = false := by
  obtain ⟨a1, a2⟩ := conv_up ha
  obtain ⟨b1, b2⟩ := conv_up hb
  obtain ⟨g1, g2, g3⟩ := gap_le (G := 8 / 10000) a1 b1 (by rw [a2, b2]; exact h) (by decide +kernel)
  obtain ⟨c1, c2, c3⟩ := c001
  rw [fgt_rv (k := .f64) g1 c1]
  have k : (8 : Rat) / 10000 + 8 / 10000 * e53 + eta ≤ 9 / 10000 := by decide +kernel
  exact decide_eq_false (Rat.not_lt.2 (Rat.le_trans g3 (Rat.le_trans k c2)))

end Go.Proofs.LV

namespace Go.Proofs.LV
open Go Ieee
set_option linter.unusedVariables false

theorem rootFrom_spec (n : Nat) : ∀ todo root, root * root ≤ n → n < (root + 2 ^ todo) * (root + 2 ^ todo) →
    Datum.rootFrom n todo root * Datum.rootFrom n todo root ≤ n ∧ n < (Datum.rootFrom n todo root + 1) * (Datum.rootFrom n todo root + 1)
  | 0, root, h1, h2 => by simpa [Datum.rootFrom] using ⟨h1, h2⟩
  | todo + 1, root, h1, h2 => by
    unfold Datum.rootFrom
    simp only [Nat.shiftLeft_eq, Nat.one_mul]
    split
    · rename_i h
      refine rootFrom_spec n todo _ h ?_
      rw [Nat.add_assoc, ← Nat.two_mul, ← Nat.pow_succ']
      exact h2
    · rename_i h
      exact rootFrom_spec n todo root h1 (by omega)
theorem root_whole (n : Nat) : Datum.rootFrom n (n.log2 / 2 + 1) 0 * Datum.rootFrom n (n.log2 / 2 + 1) 0 ≤ n ∧ n < (Datum.rootFrom n (n.log2 / 2 + 1) 0 + 1) * (Datum.rootFrom n (n.log2 / 2 + 1) 0 + 1) := by
  refine rootFrom_spec n _ 0 (by omega) ?_
  rw [Nat.zero_add, ← Nat.pow_add]
  have h := @Nat.lt_log2_self n
  exact Nat.lt_of_lt_of_le h (Nat.pow_le_pow_right (by omega) (by omega))

/-- narrowing -/
theorem conv_down {x : Nat} (hx : df x) (h1 : -1000000000000 ≤ dv x) (h2 : dv x ≤ 1000000000000) : Rd single (fconv .f64 .f32 x) (dv x) := by
  obtain ⟨s, m, e, r1, r2, _⟩ := read_rv hx
  have e1 : fconv .f64 .f32 x = single.nearest s m e := by
    unfold fconv
    rw [if_neg (by decide)]
    show (match double.read x with | .nan _ _ => fnan .f32 | .infinity n => FloatKind.f32.encode (.infinity n) | .number n m e => FloatKind.f32.encode (.number n m e)) = _
    rw [r1]; rfl
  have hp := zp_two m e
  have hb : (m : Rat) * 2 ^ e ≤ 1000000000000 := by
    have : dv x = sgR s ((m : Rat) * 2 ^ e) := r2
    rw [this] at h1 h2
    cases s
    · exact h2
    · have h1 : -1000000000000 ≤ -((m : Rat) * 2 ^ e) := h1
      grind
  have := rd_near single s m e (top .f32) (Rat.le_trans hb (topS (Rat.le_refl))) (top_ok .f32).1 (top_ok .f32).2
  rw [e1]
  have r2 : dv x = sgR s ((m : Rat) * 2 ^ e) := r2
  rw [r2]
  exact this

/-- the root of a double -/
theorem sqrt_near {x : Nat} (hx : df x) (h1 : 0 < dv x) (h2 : dv x ≤ 1000000000000) :
    ∃ w q : Rat, 2 ^ 52 ≤ w ∧ 0 < q ∧ (w * q) * (w * q) ≤ dv x ∧ dv x ≤ ((w + 1) * q) * ((w + 1) * q) ∧ df (fsqrt x) ∧ Nr (dv (fsqrt x)) (w * q) ((w + 1) * q * e53 + eta + q) := by
  obtain ⟨s, m, i, r1, r2, _⟩ := read_rv hx
  have r2 : dv x = sgR s ((m : Rat) * 2 ^ i) := r2
  have hp := zp_two m i
  have hs : s = false := by
    cases s with
    | false => rfl
    | true =>
      have r2 : dv x = -((m : Rat) * 2 ^ i) := r2
      grind
  subst hs
  have r2 : dv x = (m : Rat) * 2 ^ i := r2
  have hm : m ≠ 0 := by
    intro h; subst h
    have : ((0 : Nat) : Rat) = 0 := rfl
    rw [this] at r2; grind
  generalize hmore : 2 * 54 - m.log2 + ((i - (2 * 54 - m.log2 : Nat)) % 2).toNat = more
  have ev : (i - (more : Int)) % 2 = 0 := by
    rw [← hmore]; omega
  have hlow : 108 ≤ m.log2 + more := by rw [← hmore]; omega
  have hn0 : m <<< more ≠ 0 := by
    rw [Nat.shiftLeft_eq]; exact Nat.mul_ne_zero hm (by have := Nat.two_pow_pos more; omega)
  have hlog : 108 ≤ (m <<< more).log2 := by
    rw [Nat.le_log2 hn0, Nat.shiftLeft_eq]
    have a : 2 ^ m.log2 ≤ m := Nat.log2_self_le hm
    calc 2 ^ 108 ≤ 2 ^ (m.log2 + more) := Nat.pow_le_pow_right (by omega) hlow
      _ = 2 ^ m.log2 * 2 ^ more := Nat.pow_add ..
      _ ≤ m * 2 ^ more := Nat.mul_le_mul_right _ a
  obtain ⟨w1, w2⟩ := root_whole (m <<< more)
  have e1 : fsqrt x = double.nearest false (2 * Datum.rootFrom (m <<< more) ((m <<< more).log2 / 2 + 1) 0 + (Datum.rootFrom (m <<< more) ((m <<< more).log2 / 2 + 1) 0 * Datum.rootFrom (m <<< more) ((m <<< more).log2 / 2 + 1) 0 != m <<< more).toNat) ((i - more) / 2 - 1) := by
    unfold fsqrt
    have : FloatKind.f64.format.sqrt x = ((double.read x).root 54).map double.write := rfl
    rw [this, r1]
    simp only [Datum.root]
    rw [if_neg hm]
    simp only [Bool.false_eq_true, if_false, Option.map_some, Option.getD_some]
    rw [← hmore]
    rfl
  have wlow : 2 ^ 52 ≤ Datum.rootFrom (m <<< more) ((m <<< more).log2 / 2 + 1) 0 := by
    generalize Datum.rootFrom (m <<< more) ((m <<< more).log2 / 2 + 1) 0 = w at *
    rcases Nat.lt_or_ge w (2 ^ 52) with h | h
    · exfalso
      have h3 : (w + 1) * (w + 1) ≤ 2 ^ 52 * 2 ^ 52 := Nat.mul_le_mul h h
      have h4 : 2 ^ 108 ≤ m <<< more := (Nat.le_log2 hn0).1 hlog
      have : (2 : Nat) ^ 52 * 2 ^ 52 < 2 ^ 108 := by decide
      omega
    · exact h
  generalize Datum.rootFrom (m <<< more) ((m <<< more).log2 / 2 + 1) 0 = w at *
  have q0 := zp_pos ((i - (more : Int)) / 2)
  have hsq : (2 : Rat) ^ ((i - (more : Int)) / 2) * 2 ^ ((i - (more : Int)) / 2) = 2 ^ (i - (more : Int)) := by rw [← zp_add]; congr 1; omega
  have hv : dv x = ((m <<< more : Nat) : Rat) * ((2 : Rat) ^ ((i - (more : Int)) / 2) * 2 ^ ((i - (more : Int)) / 2)) := by
    rw [hsq, r2, Nat.shiftLeft_eq, Rat.natCast_mul, Rat.mul_assoc, ← zp_nat, ← zp_add]
    congr 2; omega
  have hE : (2 : Rat) ^ ((i - (more : Int)) / 2 - 1) * 2 = 2 ^ ((i - (more : Int)) / 2) := by
    have := zp_one ((i - (more : Int)) / 2 - 1)
    rw [show (i - (more : Int)) / 2 - 1 + 1 = (i - (more : Int)) / 2 from by omega] at this
    rw [this]; grind
  generalize (2 : Rat) ^ ((i - (more : Int)) / 2) = q at *
  have n1 := nat_le_rat w1
  have n2 := nat_le_rat (Nat.le_of_lt w2)
  rw [Rat.natCast_mul] at n1 n2
  rw [nat_succ] at n2
  have wr : (2 : Rat) ^ 52 ≤ (w : Rat) := by have := nat_le_rat wlow; exact this
  have hw0 := nat_rat w
  have qq : 0 ≤ q * q := Rat.mul_nonneg (Rat.le_of_lt q0) (Rat.le_of_lt q0)
  have a1 := Rat.mul_le_mul_of_nonneg_right n1 qq
  have a2 := Rat.mul_le_mul_of_nonneg_right n2 qq
  generalize hst : ((w * w != m <<< more).toNat) = st at *
  have st1 : st ≤ 1 := by rw [← hst]; cases (w * w != m <<< more) <;> decide
  have st2 := nat_le_rat st1
  have st0 := nat_rat st
  have st3 : ((1 : Nat) : Rat) = 1 := rfl
  rw [st3] at st2
  have hD : (((2 * w + st : Nat) : Nat) : Rat) * 2 ^ ((i - (more : Int)) / 2 - 1) = (w : Rat) * q + (st : Rat) * (q / 2) := by
    rw [Rat.natCast_add, Rat.natCast_mul]
    have : ((2 : Nat) : Rat) = 2 := rfl
    rw [this, ← hE]; grind
  rw [← hv] at a1 a2
  clear hmore ev hlow hlog hn0 w1 w2 wlow hsq r1 r2 hp hm hst st1 hE n1 n2 hv
  have sq0 : 0 ≤ (st : Rat) * (q / 2) ∧ (st : Rat) * (q / 2) ≤ q / 2 := by
    have hq2 : 0 ≤ q / 2 := by grind
    exact ⟨Rat.mul_nonneg st0 hq2, by have := Rat.mul_le_mul_of_nonneg_right st2 hq2; grind⟩
  have wq : (0 : Rat) ≤ w * q := Rat.mul_nonneg hw0 (Rat.le_of_lt q0)
  have wq1 : (1 : Rat) * q ≤ w * q := Rat.mul_le_mul_of_nonneg_right (Rat.le_trans (by decide +kernel) wr) (Rat.le_of_lt q0)
  have small : (w : Rat) * q ≤ 2000000 := by
    rcases Rat.le_total (a := (w : Rat) * q) (b := 2000000) with h | h
    · exact h
    · have := mul_mono (show (0 : Rat) ≤ 2000000 by decide) (show (0 : Rat) ≤ 2000000 by decide) h h
      grind
  have hK : (((2 * w + st : Nat) : Nat) : Rat) * 2 ^ ((i - (more : Int)) / 2 - 1) ≤ 2 ^ (top .f64) := Rat.le_trans (by rw [hD]; grind) (topD (B := 10000000) (by decide))
  have rd := rd_near double false (2 * w + st) ((i - (more : Int)) / 2 - 1) (top .f64) hK (top_ok .f64).1 (top_ok .f64).2
  rw [← e1] at rd
  have rdq : sgR false ((((2 * w + st : Nat) : Nat) : Rat) * 2 ^ ((i - (more : Int)) / 2 - 1)) = (w : Rat) * q + (st : Rat) * (q / 2) := hD
  rw [rdq] at rd
  obtain ⟨f1, f2⟩ := rd_use (B := ((w : Rat) + 1) * q) rd (by grind) (by grind) p53 etaD
  refine ⟨w, q, wr, q0, by grind, by grind, f1, ?_⟩
  have f2 : Nr (dv (fsqrt x)) _ _ := f2
  obtain ⟨g1, g2⟩ := f2
  exact ⟨by grind, by grind⟩
/-- the library's root of a single: its square is near -/
theorem root_near {x : Nat} (hx : sf x) (h1 : 1 / 10000 ≤ sv x) (h2 : sv x ≤ 10000000) :
    sf (rootM x) ∧ 1 / 1000 ≤ sv (rootM x) ∧ sv (rootM x) ≤ 10000 ∧ sv x * (1 - 1 / 1000000) ≤ sv (rootM x) * sv (rootM x) ∧ sv (rootM x) * sv (rootM x) ≤ sv x * (1 + 1 / 1000000) := by
  obtain ⟨c1, c2⟩ := conv_up hx
  obtain ⟨w, q, k1, k2, k3, k4, k5, k6⟩ := sqrt_near c1 (by rw [c2]; grind) (by rw [c2]; grind)
  rw [c2] at k3 k4
  obtain ⟨k7, k8⟩ := k6
  have hw : (4000000000000000 : Rat) ≤ w := Rat.le_trans (by decide +kernel) k1
  clear k1
  have hq : q ≤ w * q * (1 / 4000000000000000) := by
    have := Rat.mul_le_mul_of_nonneg_right hw (Rat.le_of_lt k2)
    grind
  generalize hz : w * q = z at *
  have z0 : 0 ≤ z := by grind
  have hz1 : (w + 1) * q = z + q := by grind
  rw [hz1] at k4 k7 k8
  -- z is neither small nor great
  have zhi : z ≤ 4000 := by
    rcases Rat.le_total (a := z) (b := 4000) with h | h
    · exact h
    · have := mul_mono (show (0 : Rat) ≤ 4000 by decide) (show (0 : Rat) ≤ 4000 by decide) h h
      grind
  have zlo : 1 / 110 ≤ z := by
    rcases Rat.le_total (a := 1 / 110) (b := z) with h | h
    · exact h
    · have hh : z + q ≤ 1 / 105 := by grind
      have := mul_mono (show (0 : Rat) ≤ z + q by grind) (show (0 : Rat) ≤ z + q by grind) hh hh
      grind
  have e1 : (z + q) * e53 + eta + q ≤ z * (1 / 1000000000000000) := by
    have a : (e53 : Rat) ≤ 1 / 9000000000000000 := by decide +kernel
    have b : (eta : Rat) ≤ 1 / 110 * (1 / 1000000000000000000) := by decide +kernel
    have c := Rat.mul_le_mul_of_nonneg_left a (show 0 ≤ z + q by grind)
    grind
  generalize hy : fsqrt (fconv .f32 .f64 x) = y at *
  have y1 : z * (1 - 1 / 1000000000000000) ≤ dv y ∧ dv y ≤ z * (1 + 1 / 1000000000000000) := ⟨by grind, by grind⟩
  have rd := conv_down k5 (by grind) (by grind)
  have hr : rootM x = fconv .f64 .f32 y := by unfold rootM; rw [hy]
  rw [← hr] at rd
  obtain ⟨f1, f2⟩ := rd_use (B := z * (1 + 1 / 1000000000000000)) rd (by grind) y1.2 p24 etaS
  have f2 : Nr (sv (rootM x)) _ _ := f2
  obtain ⟨g1, g2⟩ := f2
  have e2 : z * (1 + 1 / 1000000000000000) * e24 + eta ≤ z * (1 / 16000000) := by
    have a : (1 + 1 / 1000000000000000) * e24 ≤ 1 / 16500000 := by decide +kernel
    have b : (eta : Rat) ≤ 1 / 110 * (1 / 1000000000000000000) := by decide +kernel
    have c := Rat.mul_le_mul_of_nonneg_left a z0
    grind
  generalize sv (rootM x) = r at *
  have r1 : z * (1 - 1 / 10000000) ≤ r ∧ r ≤ z * (1 + 1 / 10000000) := ⟨by grind, by grind⟩
  have p0 : 0 ≤ z * (1 - 1 / 10000000) := by grind
  have m1 := mul_mono p0 p0 r1.1 r1.1
  have m2 := mul_mono (show 0 ≤ r by grind) (show 0 ≤ r by grind) r1.2 r1.2
  have q0 : 0 ≤ q := Rat.le_of_lt k2
  have zq : z * q ≤ z * (z * (1 / 4000000000000000)) := Rat.mul_le_mul_of_nonneg_left hq z0
  have qq : q * q ≤ z * (1 / 4000000000000000) * (z * (1 / 4000000000000000)) := mul_mono q0 q0 hq hq
  have zz : 0 ≤ z * z := Rat.mul_nonneg z0 z0
  refine ⟨f1, by grind, by grind, ?_, ?_⟩
  · -- from below
    have : sv x ≤ z * z * (1 + 1 / 1000000000000000) := by grind
    grind
  · grind
end Go.Proofs.LV
