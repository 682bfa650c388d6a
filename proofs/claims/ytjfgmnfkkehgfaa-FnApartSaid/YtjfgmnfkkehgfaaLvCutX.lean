/- Texts that belong together. -/
import Derived.Test.YtjfgmnfkkehgfaaLvEv
import Derived.Test.YtjfgmnfkkehgfaaLvSortX
import Derived.Test.YtjfgmnfkkehgfaaLvSqrtX
import Derived.Test.YtjfgmnfkkehgfaaLvFnCX
import Derived.Test.YtjfgmnfkkehgfaaLvAbs
import Derived.Test.YtjfgmnfkkehgfaaLvFnHX
import Derived.Test.YtjfgmnfkkehgfaaLvRatTX
import Derived.Test.YtjfgmnfkkehgfaaLvFnF
import Derived.Test.YtjfgmnfkkehgfaaLvFnI
import Derived.Test.YtjfgmnfkkehgfaaLvFnJX
namespace Go.Proofs.LV
open Go
set_option linter.unusedVariables false

/-- the first n members of a row of statements -/
def front : Nat → VCode → VCode
  | 0, _ => .skip
  | n + 1, .seq a b => .seq a (front n b)
  | _ + 1, _ => .skip
/-- what follows them -/
def rest : Nat → VCode → VCode
  | 0, c => c
  | n + 1, .seq _ b => rest n b
  | _ + 1, c => c
/-- the tree of a piece: it goes on (none) or returns (some) -/
def evS (VC : FuncId → List AV → AV → Prop) (ps : List Nat) (rs : List RV) (r0 : AV) (O : Orc) (c : VCode) (σ : Env) : T (Option AV × Env) :=
  evC VC ps O c σ [] fun e σ _ => match e with
    | .normal => .leaf (none, σ)
    | .exit _ => .fail
    | .ret => match outRs rs σ with | some v => .leaf (some (AV.fin r0 v), []) | none => .fail
theorem evS_of {VC : FuncId → List AV → AV → Prop} {ps : List Nat} {rs : List RV} {r0 : AV} {O : Orc} {c : VCode} {σ : Env} {t : T (Option AV × Env)} {Q : Option AV × Env → Prop}
    (e : evS VC ps rs r0 O c σ = t) (ht : t.ok Q) : (evS VC ps rs r0 O c σ).ok Q := e ▸ ht

theorem front_ok {α : Type} {VC : FuncId → List AV → AV → Prop} {O : Orc} {Q : α → Prop} {ps : List Nat} : ∀ (n : Nat) (c : VCode) {σ : Env} {kn : Kn} {k : Ex → Env → Kn → T α}, (evC VC ps O (front n c) σ kn k).ok Q →
    ∃ e σ' kn', (k e σ' kn').ok Q ∧ (e = .normal → ∀ e2 σ2, Exec VC ps (rest n c) σ' e2 σ2 → Exec VC ps c σ e2 σ2) ∧ (e ≠ .normal → Exec VC ps c σ e σ')
  | 0, c, σ, kn, k, h => ⟨.normal, σ, kn, h, fun _ _ _ h => h, fun h => absurd rfl h⟩
  | n + 1, .seq a b, σ, kn, k, h => by
    unfold front evC at h
    obtain ⟨e, σ1, kn1, h1, h2⟩ := evC_ok h
    cases e with
    | normal =>
      obtain ⟨e', σ2, kn2, h3, h4, h5⟩ := front_ok n b h2
      exact ⟨e', σ2, kn2, h3, fun he e2 σ3 hx => .seq h1 (h4 he e2 σ3 hx), fun he => .seq h1 (h5 he)⟩
    | exit id => exact ⟨.exit id, σ1, kn1, h2, (fun h => by cases h), fun _ => .seqX h1 (by simp)⟩
    | ret => exact ⟨.ret, σ1, kn1, h2, (fun h => by cases h), fun _ => .seqX h1 (by simp)⟩
  | n + 1, .skip, σ, kn, k, h => ⟨.normal, σ, kn, h, fun _ _ _ h => h, fun h => absurd rfl h⟩
  | n + 1, .region _ _, σ, kn, k, h => ⟨.normal, σ, kn, h, fun _ _ _ h => h, fun h => absurd rfl h⟩
  | n + 1, .cond _ _ _, σ, kn, k, h => ⟨.normal, σ, kn, h, fun _ _ _ h => h, fun h => absurd rfl h⟩
  | n + 1, .block _ _, σ, kn, k, h => ⟨.normal, σ, kn, h, fun _ _ _ h => h, fun h => absurd rfl h⟩
  | n + 1, .loop _, σ, kn, k, h => ⟨.normal, σ, kn, h, fun _ _ _ h => h, fun h => absurd rfl h⟩
  | n + 1, .exit _, σ, kn, k, h => ⟨.normal, σ, kn, h, fun _ _ _ h => h, fun h => absurd rfl h⟩
  | n + 1, .ret, σ, kn, k, h => ⟨.normal, σ, kn, h, fun _ _ _ h => h, fun h => absurd rfl h⟩
  | n + 1, .bad, σ, kn, k, h => ⟨.normal, σ, kn, h, fun _ _ _ h => h, fun h => absurd rfl h⟩

/-- the code ends with this result -/
def Ends (P : Program) (ps : List Nat) (rs : List RV) (r : AV) (c : VCode) (σ : Env) : Prop :=
  ∃ e σ', Exec (VCall P) ps c σ e σ' ∧ (e = .normal ∨ e = .ret) ∧ ∃ v, outRs rs σ' = some v ∧ AV.fin r v = r

/-- the same; only some slots are handed on -/
def evK (VC : FuncId → List AV → AV → Prop) (ps ks : List Nat) (rs : List RV) (r0 : AV) (O : Orc) (c : VCode) (σ : Env) : T (Option AV × Env) :=
  evC VC ps O c σ [] fun e σ _ => match e with
    | .normal => .leaf (none, σ.clear ks)
    | .exit _ => .fail
    | .ret => match outRs rs σ with | some v => .leaf (some (AV.fin r0 v), []) | none => .fail
theorem evK_of {VC : FuncId → List AV → AV → Prop} {ps ks : List Nat} {rs : List RV} {r0 : AV} {O : Orc} {c : VCode} {σ : Env} {t : T (Option AV × Env)} {Q : Option AV × Env → Prop}
    (e : evK VC ps ks rs r0 O c σ = t) (ht : t.ok Q) : (evK VC ps ks rs r0 O c σ).ok Q := e ▸ ht
theorem T.ok_itrue {α : Type} {Q : α → Prop} {x y : T α} (h : x.ok Q) : (T.ite true x y).ok Q := ⟨fun _ => h, fun h => nomatch h⟩
theorem T.ok_ifalse {α : Type} {Q : α → Prop} {x y : T α} (h : y.ok Q) : (T.ite false x y).ok Q := ⟨(fun h => nomatch h), fun _ => h⟩
theorem T.ok_go {σ1 : Env} {H : Prop} {r : AV} (h : H) : (T.leaf ((none : Option AV), σ1)).ok (fun x => (x = (none, σ1) ∧ H) ∨ x = (some r, [])) := .inl ⟨rfl, h⟩
theorem T.ok_end {σ1 : Env} {H : Prop} {r a : AV} (h : a = r) : (T.leaf (some a, ([] : Env))).ok (fun x => (x = (none, σ1) ∧ H) ∨ x = (some r, [])) := .inr (by rw [h])
theorem T.ok_endL {r a : AV} (h : a = r) : (T.leaf (some a, ([] : Env))).ok (fun x => x = (some r, [])) := by subst h; rfl

section
variable {P : Program} {ps : List Nat} {rs : List RV} {r : AV} {O : Orc}
theorem cut_stepK {ks : List Nat} {n : Nat} {c : VCode} {σ σ1 : Env} {H : Prop} (h : (evK (VCall P) ps ks rs r O (front n c) σ).ok (fun x => (x = (none, σ1) ∧ H) ∨ x = (some r, [])))
    (h2 : H → Ends P ps rs r (rest n c) σ1) : Ends P ps rs r c σ := by
  unfold evK at h
  obtain ⟨e, σ', kn', hk, hn, hx⟩ := front_ok n c h
  cases e with
  | normal =>
    rcases hk with ⟨hk, hH⟩ | hk
    · cases hk
      obtain ⟨e2, σ2, he, h3⟩ := h2 hH
      exact ⟨e2, σ2, hn rfl e2 σ2 (.forget ks he), h3⟩
    · cases hk
  | exit id => exact hk.elim
  | ret =>
    have hx := hx (by simp)
    simp only at hk
    split at hk
    · rename_i v hv
      rcases hk with ⟨hk, _⟩ | hk
      · cases hk
      · simp only [Prod.mk.injEq, Option.some.injEq, and_true] at hk
        exact ⟨.ret, σ', hx, .inr rfl, v, hv, hk⟩
    · exact hk.elim
theorem cut_last {c : VCode} {σ : Env} (h : (evS (VCall P) ps rs r O c σ).ok (fun x => x = (some r, []))) : Ends P ps rs r c σ := by
  unfold evS at h
  obtain ⟨e, σ', kn', hx, hk⟩ := evC_ok h
  cases e with
  | normal => cases hk
  | exit id => exact hk.elim
  | ret =>
    simp only at hk
    split at hk
    · rename_i v hv
      simp only [T.ok, Prod.mk.injEq, Option.some.injEq, and_true] at hk
      exact ⟨.ret, σ', hx, .inr rfl, v, hv, hk⟩
    · exact hk.elim
theorem FnIs.call_cut {f : FuncId} {nt : Nat} {vc : VCode} (h : FnIs P f nt rs vc) {args : List AV} (ht : Ends P ps rs r vc (startEnv nt args)) (hM : r.isM = false := by rfl) : VCall P f args r := by
  obtain ⟨fn, c0, hf, hb, hc, hr, hn⟩ := h.has
  subst hn
  obtain ⟨e, σ', hrun, he, v, hv, hvr⟩ := ht
  obtain ⟨a1, a2, a3⟩ := outRs_ok hr hv
  exact vcall_of_exec (rs := fn.results.toList) hf hb hc (by simp) (by rw [a1]; exact h.len) h.enter he hrun a2 (by rw [a3]; exact hvr) hM
end
end Go.Proofs.LV

namespace Go.Proofs.LV
open Go
set_option linter.unusedVariables false
set_option linter.unusedSimpArgs false

end Go.Proofs.LV

namespace Go.Proofs.LV
open Go Ieee
set_option linter.unusedVariables false

/-- narrowing -/
theorem conv_down {x : Nat} (hx : df x) (h1 : -1000000000000 ≤ dv x) (h2 : dv x ≤ 1000000000000) : Rd single (fconv .f64 .f32 x) (dv x) := by
  obtain ⟨s, m, e, r1, r2, _⟩ := read_rv hx
  have e1 : fconv .f64 .f32 x = single.nearest s m e := by
    unfold fconv
    rw [if_neg (by decide)]
    show (match double.read x with | .nan _ _ => fnan .f32 | .infinity n => FloatKind.f32.encode (.infinity n) | .number n m e => FloatKind.f32.encode (.number n m e)) = _
    rw [r1]; rfl
  have hp := zp_two m e
  have hb : (m : Rat) * 2 ^ e ≤ 1000000000000 := by
    have : dv x = sgR s ((m : Rat) * 2 ^ e) := r2
    rw [this] at h1 h2
    cases s
    · exact h2
    · have h1 : -1000000000000 ≤ -((m : Rat) * 2 ^ e) := h1
      grind
  have := rd_near single s m e (top .f32) (Rat.le_trans hb (topS (Rat.le_refl))) (top_ok .f32).1 (top_ok .f32).2
  rw [e1]
  have r2 : dv x = sgR s ((m : Rat) * 2 ^ e) := r2
  rw [r2]
  exact this

end Go.Proofs.LV

namespace Go.Proofs.LV
open Go Ieee
set_option linter.unusedVariables false

def eC (n : Nat) : Rat := 65 * n
def eE (n : Nat) : Rat := 130 * n * e24 + (n + 1) * eta
def eN (n : Nat) : Rat := n * (eE n + ((eC n + eE n + 1) * n * e24 + eta))
end Go.Proofs.LV

namespace Go.Proofs.LV
open Go Ieee
set_option linter.unusedVariables false

theorem sq_nonneg (z : Rat) : 0 ≤ z * z := by
  rcases Rat.le_total (a := 0) (b := z) with h | h
  · exact Rat.mul_nonneg h h
  · have := Rat.mul_nonneg (show 0 ≤ -z by grind) (show 0 ≤ -z by grind); grind
theorem sumQ_mono {f : Nat → Rat} (hf : ∀ i, 0 ≤ f i) {k : Nat} : ∀ n, k ≤ n → sumQ k f ≤ sumQ n f
  | 0, h => by have : k = 0 := by omega
               subst this; exact Rat.le_refl
  | n + 1, h => by
    rcases Nat.lt_or_ge n k with h1 | h1
    · have : k = n + 1 := by omega
      subst this; exact Rat.le_refl
    · have := sumQ_mono hf n h1
      have := hf n
      show sumQ k f ≤ sumQ n f + f n
      grind
/-- a sum from the left: the error measured by what the sums never pass -/
theorem acc_rel {g : Nat → Nat} {t : Nat → Rat} {n : Nat} (hn : n ≤ 22) {T : Rat} (hT : 0 ≤ T) (hTB : T ≤ 100000) (h : ∀ i, i < n → sf (g i) ∧ Nr (sv (g i)) (t i) (2 * T * e24 + eta)) (hA : ∀ k, k ≤ n → -T ≤ sumQ k t ∧ sumQ k t ≤ T) :
    sf (accN (fun i s => fadd .f32 s (g i)) n 0) ∧ Nr (sv (accN (fun i s => fadd .f32 s (g i)) n 0)) (sumQ n t) (T * (1 / 100000) + 200 * eta) := by
  have etap : (0 : Rat) ≤ eta := by decide +kernel
  have e24p : (0 : Rat) ≤ e24 := by decide +kernel
  have key : ∀ k, k ≤ n → sf (accN (fun i s => fadd .f32 s (g i)) k 0) ∧ Nr (sv (accN (fun i s => fadd .f32 s (g i)) k 0)) (sumQ k t) (k * (4 * T * e24 + 4 * eta)) := by
    intro k
    induction k with
    | zero =>
      intro _
      refine ⟨zero_sf, ?_⟩
      have z : sv (accN (fun i s => fadd .f32 s (g i)) 0 0) = 0 := zero_rv _
      rw [z]
      show Nr 0 0 (((0 : Nat) : Rat) * _)
      have : ((0 : Nat) : Rat) = 0 := rfl
      rw [this]
      exact ⟨by grind, by grind⟩
    | succ k ih =>
      intro hk
      obtain ⟨h1, h2, h3⟩ := ih (by omega)
      obtain ⟨g1, g2, g3⟩ := h k (by omega)
      obtain ⟨a1, a2⟩ := hA (k + 1) hk
      have e : sumQ (k + 1) t = sumQ k t + t k := rfl
      rw [e] at a1 a2
      have k22 : (k : Rat) ≤ 22 := nat_le_rat (show k ≤ 22 by omega)
      have k0 := nat_rat k
      have small : (22 : Rat) * (4 * e24) ≤ 1 / 4 := by decide +kernel
      have K0 : 0 ≤ 4 * T * e24 + 4 * eta := by have := Rat.mul_nonneg hT e24p; grind
      have kK := Rat.mul_le_mul_of_nonneg_right k22 K0
      have sT := Rat.mul_le_mul_of_nonneg_left small hT
      have s2 : (2 : Rat) * e24 ≤ 1 / 4 := by decide +kernel
      have sT2 := Rat.mul_le_mul_of_nonneg_left s2 hT
      have teta : 0 ≤ T * e24 := Rat.mul_nonneg hT e24p
      have e24s : (e24 : Rat) ≤ 1 / 1000 := by decide +kernel
      have etae := Rat.mul_le_mul_of_nonneg_left e24s etap
      have eta0 := Rat.mul_nonneg etap e24p
      have eta1 : (eta : Rat) ≤ 1 := by decide +kernel
      obtain ⟨r1, r2, r3⟩ := s_add (B := 2 * T + 200 * eta) h1 g1 (by grind) (by grind) (by grind)
      refine ⟨r1, ?_⟩
      show Nr (sv (fadd .f32 _ (g k))) (sumQ k t + t k) _
      rw [nat_succ]
      exact ⟨by grind, by grind⟩
  obtain ⟨a, b, c⟩ := key n (Nat.le_refl n)
  have n22 : (n : Rat) ≤ 22 := nat_le_rat hn
  have n0 := nat_rat n
  have K0 : 0 ≤ 4 * T * e24 + 4 * eta := by have := Rat.mul_nonneg hT e24p; grind
  have nK := Rat.mul_le_mul_of_nonneg_right n22 K0
  have small : (22 : Rat) * (4 * e24) ≤ 1 / 100000 := by decide +kernel
  have sT := Rat.mul_le_mul_of_nonneg_left small hT
  exact ⟨a, by grind, by grind⟩

def r2 (x : Nat → Nat) (n : Nat) : Rat := sumQ n fun i => sv (x i) * sv (x i)
end Go.Proofs.LV

namespace Go.Proofs.LV
open Go Ieee
set_option linter.unusedVariables false
set_option linter.unusedSimpArgs false

/-! ### sorted lists -/
section
variable {b : Nat} {xs : List Nat}
end
/-! ### quantiles -/
def shW (a : Nat) : Nat := fdiv .f32 (fofi .f32 (a : Int)) 1098907648
theorem sixteen_sf : sf 1098907648 ∧ sv 1098907648 = 16 := by
  have hf : fnt single 1098907648 := by unfold fnt; decide
  exact ⟨hf, lit_neg (n := 19) (m := 8388608) hf (by decide) (by decide +kernel)⟩
theorem zp4 : (2 : Rat) ^ (-4 : Int) = 1 / 16 := zp_neg 4 _ (by decide +kernel)
theorem sh_val {m : Nat} (h : m ≤ 16) : sf (shW m) ∧ sv (shW m) = (m : Rat) / 16 ∧ Gr (-4) 16 (sv (shW m)) := by
  obtain ⟨f1, f2⟩ := fofi_rv .f32 (n := (m : Int)) (nat_small (by omega))
  have f2 : sv (fofi .f32 (m : Int)) = (m : Rat) := f2
  obtain ⟨s1, s2⟩ := sixteen_sf
  have hg : Gr (-4) 16 ((m : Rat) / 16) := ⟨(m : Int), by rw [zp4]; show _ = ((m : Nat) : Rat) * _; grind, by omega⟩
  have := div_gr .f32 (q := (m : Rat) / 16) (j := -4) (b := 16) f1 s1 (by show sv 1098907648 ≠ 0; rw [s2]; decide) (by show _ * sv 1098907648 = sv _; rw [s2, f2]; grind) hg (by decide) (by decide) (by decide)
  have e : sv (shW m) = (m : Rat) / 16 := this.2
  exact ⟨this.1, e, by rw [e]; exact hg⟩
/-- what lies between two neighbours -/
theorem between {b x y m : Nat} (hb : b ≤ 200) (hx : Hg b x) (hy : Hg b y) (hm : m ≤ 16) : sf (fadd .f32 x (fmul .f32 (shW m) (fsub .f32 y x))) ∧ sv (fadd .f32 x (fmul .f32 (shW m) (fsub .f32 y x))) = sv x + (m : Rat) / 16 * (sv y - sv x) := by
  obtain ⟨d1, d2⟩ := hy.sub hx (by omega)
  obtain ⟨s1, s2, s3⟩ := sh_val hm
  obtain ⟨p1, p2⟩ := mul_gr .f32 (i := -4) (j := -1) (a := 16) (b := b + b) s1 d1.1 s3 d1.2 (by show _ < 2 ^ 24; omega) (by decide) (by decide)
  have p2 : sv (fmul .f32 (shW m) (fsub .f32 y x)) = sv (shW m) * sv (fsub .f32 y x) := p2
  have g1 : Gr (-5) (16 * (b + b)) (sv (fmul .f32 (shW m) (fsub .f32 y x))) := by rw [p2]; exact s3.mul d1.2
  have g2 : Gr (-5) (b * 2 ^ 4) (sv x) := hx.2.fine 4
  obtain ⟨q1, q2⟩ := add_gr .f32 hx.1 p1 g2 g1 (by show _ < 2 ^ 24; omega) (by decide) (by decide)
  have q2 : sv (fadd .f32 x (fmul .f32 (shW m) (fsub .f32 y x))) = sv x + sv (fmul .f32 (shW m) (fsub .f32 y x)) := q2
  exact ⟨q1, by rw [q2, p2, s2, d2]⟩
section
variable {b : Nat} {xs : List Nat}
end
end Go.Proofs.LV
