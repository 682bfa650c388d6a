/- Texts that belong together. -/
import Derived.Test.YtdffgjembkanoaaLvEvX
import Derived.Test.YtdffgjembkanoaaLvFnCC
import Derived.Test.YtdffgjembkanoaaLvFnBB
namespace Go.Proofs.LV
open Go
set_option linter.unusedVariables false

/-- the first n members of a row of statements -/
def front : Nat → VCode → VCode
  | 0, _ => .skip
  | n + 1, .seq a b => .seq a (front n b)
  | _ + 1, _ => .skip
/-- what follows them -/
def rest : Nat → VCode → VCode
  | 0, c => c
  | n + 1, .seq _ b => rest n b
  | _ + 1, c => c
/-- the tree of a piece: it goes on (none) or returns (some) -/
def evS (VC : FuncId → List AV → AV → Prop) (ps : List Nat) (rs : List RV) (r0 : AV) (O : Orc) (c : VCode) (σ : Env) : T (Option AV × Env) :=
  evC VC ps O c σ [] fun e σ _ => match e with
    | .normal => .leaf (none, σ)
    | .exit _ => .fail
    | .ret => match outRs rs σ with | some v => .leaf (some (AV.fin r0 v), []) | none => .fail
theorem evS_of {VC : FuncId → List AV → AV → Prop} {ps : List Nat} {rs : List RV} {r0 : AV} {O : Orc} {c : VCode} {σ : Env} {t : T (Option AV × Env)} {Q : Option AV × Env → Prop}
    (e : evS VC ps rs r0 O c σ = t) (ht : t.ok Q) : (evS VC ps rs r0 O c σ).ok Q := e ▸ ht

theorem front_ok {α : Type} {VC : FuncId → List AV → AV → Prop} {O : Orc} {Q : α → Prop} {ps : List Nat} : ∀ (n : Nat) (c : VCode) {σ : Env} {kn : Kn} {k : Ex → Env → Kn → T α}, (evC VC ps O (front n c) σ kn k).ok Q →
    ∃ e σ' kn', (k e σ' kn').ok Q ∧ (e = .normal → ∀ e2 σ2, Exec VC ps (rest n c) σ' e2 σ2 → Exec VC ps c σ e2 σ2) ∧ (e ≠ .normal → Exec VC ps c σ e σ')
  | 0, c, σ, kn, k, h => ⟨.normal, σ, kn, h, fun _ _ _ h => h, fun h => absurd rfl h⟩
  | n + 1, .seq a b, σ, kn, k, h => by
    unfold front evC at h
    obtain ⟨e, σ1, kn1, h1, h2⟩ := evC_ok h
    cases e with
    | normal =>
      obtain ⟨e', σ2, kn2, h3, h4, h5⟩ := front_ok n b h2
      exact ⟨e', σ2, kn2, h3, fun he e2 σ3 hx => .seq h1 (h4 he e2 σ3 hx), fun he => .seq h1 (h5 he)⟩
    | exit id => exact ⟨.exit id, σ1, kn1, h2, (fun h => by cases h), fun _ => .seqX h1 (by simp)⟩
    | ret => exact ⟨.ret, σ1, kn1, h2, (fun h => by cases h), fun _ => .seqX h1 (by simp)⟩
  | n + 1, .skip, σ, kn, k, h => ⟨.normal, σ, kn, h, fun _ _ _ h => h, fun h => absurd rfl h⟩
  | n + 1, .region _ _, σ, kn, k, h => ⟨.normal, σ, kn, h, fun _ _ _ h => h, fun h => absurd rfl h⟩
  | n + 1, .cond _ _ _, σ, kn, k, h => ⟨.normal, σ, kn, h, fun _ _ _ h => h, fun h => absurd rfl h⟩
  | n + 1, .block _ _, σ, kn, k, h => ⟨.normal, σ, kn, h, fun _ _ _ h => h, fun h => absurd rfl h⟩
  | n + 1, .loop _, σ, kn, k, h => ⟨.normal, σ, kn, h, fun _ _ _ h => h, fun h => absurd rfl h⟩
  | n + 1, .exit _, σ, kn, k, h => ⟨.normal, σ, kn, h, fun _ _ _ h => h, fun h => absurd rfl h⟩
  | n + 1, .ret, σ, kn, k, h => ⟨.normal, σ, kn, h, fun _ _ _ h => h, fun h => absurd rfl h⟩
  | n + 1, .bad, σ, kn, k, h => ⟨.normal, σ, kn, h, fun _ _ _ h => h, fun h => absurd rfl h⟩

/-- the code ends with this result -/
def Ends (P : Program) (ps : List Nat) (rs : List RV) (r : AV) (c : VCode) (σ : Env) : Prop :=
  ∃ e σ', Exec (VCall P) ps c σ e σ' ∧ (e = .normal ∨ e = .ret) ∧ ∃ v, outRs rs σ' = some v ∧ AV.fin r v = r

/-- the same; only some slots are handed on -/
def evK (VC : FuncId → List AV → AV → Prop) (ps ks : List Nat) (rs : List RV) (r0 : AV) (O : Orc) (c : VCode) (σ : Env) : T (Option AV × Env) :=
  evC VC ps O c σ [] fun e σ _ => match e with
    | .normal => .leaf (none, σ.clear ks)
    | .exit _ => .fail
    | .ret => match outRs rs σ with | some v => .leaf (some (AV.fin r0 v), []) | none => .fail
theorem evK_of {VC : FuncId → List AV → AV → Prop} {ps ks : List Nat} {rs : List RV} {r0 : AV} {O : Orc} {c : VCode} {σ : Env} {t : T (Option AV × Env)} {Q : Option AV × Env → Prop}
    (e : evK VC ps ks rs r0 O c σ = t) (ht : t.ok Q) : (evK VC ps ks rs r0 O c σ).ok Q := e ▸ ht
theorem T.ok_itrue {α : Type} {Q : α → Prop} {x y : T α} (h : x.ok Q) : (T.ite true x y).ok Q := ⟨fun _ => h, fun h => nomatch h⟩
theorem T.ok_ifalse {α : Type} {Q : α → Prop} {x y : T α} (h : y.ok Q) : (T.ite false x y).ok Q := ⟨(fun h => nomatch h), fun _ => h⟩
theorem T.ok_go {σ1 : Env} {H : Prop} {r : AV} (h : H) : (T.leaf ((none : Option AV), σ1)).ok (fun x => (x = (none, σ1) ∧ H) ∨ x = (some r, [])) := .inl ⟨rfl, h⟩
theorem T.ok_end {σ1 : Env} {H : Prop} {r a : AV} (h : a = r) : (T.leaf (some a, ([] : Env))).ok (fun x => (x = (none, σ1) ∧ H) ∨ x = (some r, [])) := .inr (by rw [h])
section
variable {P : Program} {ps : List Nat} {rs : List RV} {r : AV} {O : Orc}
theorem cut_stepK {ks : List Nat} {n : Nat} {c : VCode} {σ σ1 : Env} {H : Prop} (h : (evK (VCall P) ps ks rs r O (front n c) σ).ok (fun x => (x = (none, σ1) ∧ H) ∨ x = (some r, [])))
    (h2 : H → Ends P ps rs r (rest n c) σ1) : Ends P ps rs r c σ := by
  unfold evK at h
  obtain ⟨e, σ', kn', hk, hn, hx⟩ := front_ok n c h
  cases e with
  | normal =>
    rcases hk with ⟨hk, hH⟩ | hk
    · cases hk
      obtain ⟨e2, σ2, he, h3⟩ := h2 hH
      exact ⟨e2, σ2, hn rfl e2 σ2 (.forget ks he), h3⟩
    · cases hk
  | exit id => exact hk.elim
  | ret =>
    have hx := hx (by simp)
    simp only at hk
    split at hk
    · rename_i v hv
      rcases hk with ⟨hk, _⟩ | hk
      · cases hk
      · simp only [Prod.mk.injEq, Option.some.injEq, and_true] at hk
        exact ⟨.ret, σ', hx, .inr rfl, v, hv, hk⟩
    · exact hk.elim
theorem cut_last {c : VCode} {σ : Env} (h : (evS (VCall P) ps rs r O c σ).ok (fun x => x = (some r, []))) : Ends P ps rs r c σ := by
  unfold evS at h
  obtain ⟨e, σ', kn', hx, hk⟩ := evC_ok h
  cases e with
  | normal => cases hk
  | exit id => exact hk.elim
  | ret =>
    simp only at hk
    split at hk
    · rename_i v hv
      simp only [T.ok, Prod.mk.injEq, Option.some.injEq, and_true] at hk
      exact ⟨.ret, σ', hx, .inr rfl, v, hv, hk⟩
    · exact hk.elim
theorem FnIs.call_cut {f : FuncId} {nt : Nat} {vc : VCode} (h : FnIs P f nt rs vc) {args : List AV} (ht : Ends P ps rs r vc (startEnv nt args)) (hM : r.isM = false := by rfl) : VCall P f args r := by
  obtain ⟨fn, c0, hf, hb, hc, hr, hn⟩ := h.has
  subst hn
  obtain ⟨e, σ', hrun, he, v, hv, hvr⟩ := ht
  obtain ⟨a1, a2, a3⟩ := outRs_ok hr hv
  exact vcall_of_exec (rs := fn.results.toList) hf hb hc (by simp) (by rw [a1]; exact h.len) h.enter he hrun a2 (by rw [a3]; exact hvr) hM
end
end Go.Proofs.LV

namespace Go.Proofs.LV
open Go
set_option linter.unusedVariables false
set_option linter.unusedSimpArgs false

abbrev up (x : Nat) : Nat := fconv .f32 .f64 x
abbrev dn (x : Nat) : Nat := fconv .f64 .f32 x
def muU (a b c d : Nat) : Nat := fsub .f64 (fmul .f64 (up a) (up c)) (fmul .f64 (up b) (up d))
def muV (a b c d : Nat) : Nat := fadd .f64 (fmul .f64 (up a) (up d)) (fmul .f64 (up b) (up c))
def pwW (a b : Nat) : Nat := fadd .f64 (fmul .f64 (up a) (up a)) (fmul .f64 (up b) (up b))
-- FN impl_parts
def ps_impl_parts : List Nat := [0, 2, 3]
def b_impl_parts : VCode :=
 (.seq
 (.region false [
 ⟨some 2, .mv, [.k (.f .f64 0)], none⟩,
 ⟨some 3, .mv, [.k (.f .f64 0)], none⟩])
 (.seq
 (.region false [
 ⟨some 4, .mv, [.t 0], none⟩,
 ⟨some 5, .re, [.t 4], none⟩,
 ⟨some 6, (.convF .f64), [.t 5], none⟩,
 ⟨some 7, .mv, [.t 0], none⟩,
 ⟨some 8, .im, [.t 7], none⟩,
 ⟨some 9, (.convF .f64), [.t 8], none⟩,
 ⟨some 2, .mv, [.t 6], none⟩,
 ⟨some 3, .mv, [.t 9], none⟩])
 .ret))

abbrev Is_impl_parts (P : Program) (g_f : FuncId) : Prop := FnIs P g_f 10 [.t 2, .t 3] (b_impl_parts)

abbrev C_impl_parts (P : Program) (g_f : FuncId) : Prop := ∀ (a : Nat) (b : Nat), VCall P g_f [.c .f32 a b] (.tup [.f .f64 (up a), .f .f64 (up b)])
def oc1_impl_parts (as : List AV) : T AV := match as with | [.c .f32 a b] => .leaf (.tup [.f .f64 (up a), .f .f64 (up b)]) | _ => .fail



theorem q_impl_parts {P : Program} {g_f : FuncId} (h_ : Is_impl_parts P g_f) (a : Nat) (b : Nat) (ht : T.ok (fun x_ => x_ = .tup [.f .f64 (up a), .f .f64 (up b)]) (
 T.ob (fconvOk .f32 .f64 a = true)
 (T.ob (fconvOk .f32 .f64 b = true) (T.leaf (AV.tup [AV.f .f64 (fconv .f32 .f64 a), AV.f .f64 (fconv .f32 .f64 b)]))))) :
 VCall P g_f [.c .f32 a b] (.tup [.f .f64 (up a), .f .f64 (up b)]) := h_.call_of ps_impl_parts ⟨fun _ _ => .fail, fun _ _ => none⟩ (by kernel_rfl) ht

-- END impl_parts
-- FN impl_times
def ps_impl_times : List Nat := [0, 1, 2, 3, 8, 9]
def b_impl_times : VCode :=
 (.seq
 (.region false [
 ⟨some 8, .mv, [.k (.f .f64 0)], none⟩,
 ⟨some 9, .mv, [.k (.f .f64 0)], none⟩])
 (.seq
 (.region false [
 ⟨some 10, .mv, [.t 0], none⟩,
 ⟨some 11, .mv, [.t 2], none⟩,
 ⟨some 12, (.bin .mul), [.t 10, .t 11], none⟩,
 ⟨some 13, .mv, [.t 1], none⟩,
 ⟨some 14, .mv, [.t 3], none⟩,
 ⟨some 15, (.bin .mul), [.t 13, .t 14], none⟩,
 ⟨some 16, (.bin .sub), [.t 12, .t 15], none⟩,
 ⟨some 17, .mv, [.t 0], none⟩,
 ⟨some 18, .mv, [.t 3], none⟩,
 ⟨some 19, (.bin .mul), [.t 17, .t 18], none⟩,
 ⟨some 20, .mv, [.t 1], none⟩,
 ⟨some 21, .mv, [.t 2], none⟩,
 ⟨some 22, (.bin .mul), [.t 20, .t 21], none⟩,
 ⟨some 23, (.bin .add), [.t 19, .t 22], none⟩,
 ⟨some 8, .mv, [.t 16], none⟩,
 ⟨some 9, .mv, [.t 23], none⟩])
 .ret))

abbrev Is_impl_times (P : Program) (g_f : FuncId) : Prop := FnIs P g_f 24 [.t 8, .t 9] (b_impl_times)

abbrev C_impl_times (P : Program) (g_f : FuncId) : Prop := ∀ (a : Nat) (b : Nat) (c : Nat) (d : Nat), VCall P g_f [.f .f64 a, .f .f64 b, .f .f64 c, .f .f64 d] (.tup [.f .f64 (fsub .f64 (fmul .f64 a c) (fmul .f64 b d)), .f .f64 (fadd .f64 (fmul .f64 a d) (fmul .f64 b c))])
def oc1_impl_times (as : List AV) : T AV := match as with | [.f .f64 a, .f .f64 b, .f .f64 c, .f .f64 d] => .leaf (.tup [.f .f64 (fsub .f64 (fmul .f64 a c) (fmul .f64 b d)), .f .f64 (fadd .f64 (fmul .f64 a d) (fmul .f64 b c))]) | _ => .fail



theorem q_impl_times {P : Program} {g_f : FuncId} (h_ : Is_impl_times P g_f) (a : Nat) (b : Nat) (c : Nat) (d : Nat) (ht : T.ok (fun x_ => x_ = .tup [.f .f64 (fsub .f64 (fmul .f64 a c) (fmul .f64 b d)), .f .f64 (fadd .f64 (fmul .f64 a d) (fmul .f64 b c))]) (
 T.leaf (AV.tup [AV.f .f64 (fsub .f64 (fmul .f64 a c) (fmul .f64 b d)), AV.f .f64 (fadd .f64 (fmul .f64 a d) (fmul .f64 b c))]))) :
 VCall P g_f [.f .f64 a, .f .f64 b, .f .f64 c, .f .f64 d] (.tup [.f .f64 (fsub .f64 (fmul .f64 a c) (fmul .f64 b d)), .f .f64 (fadd .f64 (fmul .f64 a d) (fmul .f64 b c))]) := h_.call_of ps_impl_times ⟨fun _ _ => .fail, fun _ _ => none⟩ (by kernel_rfl) ht

-- END impl_times
-- FN impl_MulComplex
def ps_impl_MulComplex : List Nat := [0, 1, 4, 5, 6, 7, 8, 9, 10]
def b_impl_MulComplex (gq0 gq1 : FuncId) : VCode :=
 (.seq
 (.region false [
 ⟨some 4, .mv, [.k (.c .f32 0 0)], none⟩])
 (.seq
 (.region false [
 ⟨some 12, .mv, [.t 0], none⟩,
 ⟨some 13, (.call gq0), [.t 12], none⟩,
 ⟨some 11, .mv, [.t 13], none⟩,
 ⟨some 14, (.extract 0), [.t 11], none⟩,
 ⟨some 15, (.extract 1), [.t 11], none⟩,
 ⟨some 5, .mv, [.t 14], none⟩,
 ⟨some 6, .mv, [.t 15], none⟩])
 (.seq
 (.region false [
 ⟨some 17, .mv, [.t 1], none⟩,
 ⟨some 18, (.call gq0), [.t 17], none⟩,
 ⟨some 16, .mv, [.t 18], none⟩,
 ⟨some 19, (.extract 0), [.t 16], none⟩,
 ⟨some 20, (.extract 1), [.t 16], none⟩,
 ⟨some 7, .mv, [.t 19], none⟩,
 ⟨some 8, .mv, [.t 20], none⟩])
 (.seq
 (.region false [
 ⟨some 22, .mv, [.t 5], none⟩,
 ⟨some 23, .mv, [.t 6], none⟩,
 ⟨some 24, .mv, [.t 7], none⟩,
 ⟨some 25, .mv, [.t 8], none⟩,
 ⟨some 26, (.call gq1), [.t 22, .t 23, .t 24, .t 25], none⟩,
 ⟨some 21, .mv, [.t 26], none⟩,
 ⟨some 27, (.extract 0), [.t 21], none⟩,
 ⟨some 28, (.extract 1), [.t 21], none⟩,
 ⟨some 9, .mv, [.t 27], none⟩,
 ⟨some 10, .mv, [.t 28], none⟩])
 (.seq
 (.region false [
 ⟨some 29, .mv, [.t 9], none⟩,
 ⟨some 30, (.convF .f32), [.t 29], none⟩,
 ⟨some 31, .mv, [.t 10], none⟩,
 ⟨some 32, (.convF .f32), [.t 31], none⟩,
 ⟨some 33, .cplx, [.t 30, .t 32], none⟩,
 ⟨some 4, .mv, [.t 33], none⟩])
 .ret)))))

abbrev Is_impl_MulComplex (P : Program) (g_f : FuncId) (gq0 gq1 : FuncId) : Prop := FnIs P g_f 34 [.t 4] (b_impl_MulComplex gq0 gq1)

abbrev C_impl_MulComplex (P : Program) (g_f : FuncId) : Prop := ∀ (a : Nat) (b : Nat) (c : Nat) (d : Nat) (hu : fconvOk .f64 .f32 (muU a b c d) = true) (hv : fconvOk .f64 .f32 (muV a b c d) = true), VCall P g_f [.c .f32 a b, .c .f32 c d] (.c .f32 (dn (muU a b c d)) (dn (muV a b c d)))
def oc1_impl_MulComplex (as : List AV) : T AV := match as with | [.c .f32 a b, .c .f32 c d] => .leaf (.c .f32 (dn (muU a b c d)) (dn (muV a b c d))) | _ => .fail
def oc_impl_MulComplex (a : Nat) (b : Nat) (c : Nat) (d : Nat) (d : Nat) (as : List AV) : T AV := match d with | 13 => oc1_impl_parts as | 18 => oc1_impl_parts as | 26 => oc1_impl_times as | _ => .fail



theorem q_impl_MulComplex {P : Program} {g_f : FuncId} {gq0 gq1 : FuncId} (h_ : Is_impl_MulComplex P g_f gq0 gq1) (a : Nat) (b : Nat) (c : Nat) (d : Nat) (ht : T.ok (fun x_ => x_ = .c .f32 (dn (muU a b c d)) (dn (muV a b c d))) (
 T.ob ((VCall P) gq0 [AV.c .f32 a b] (AV.tup [AV.f .f64 (up a), AV.f .f64 (up b)]))
 (T.ob ((VCall P) gq0 [AV.c .f32 c d] (AV.tup [AV.f .f64 (up c), AV.f .f64 (up d)]))
 (T.ob
 ((VCall P) gq1 [AV.f .f64 (up a), AV.f .f64 (up b), AV.f .f64 (up c), AV.f .f64 (up d)]
 (AV.tup
 [AV.f .f64 (fsub .f64 (fmul .f64 (up a) (up c)) (fmul .f64 (up b) (up d))),
 AV.f .f64 (fadd .f64 (fmul .f64 (up a) (up d)) (fmul .f64 (up b) (up c)))]))
 (T.ob (fconvOk .f64 .f32 (fsub .f64 (fmul .f64 (up a) (up c)) (fmul .f64 (up b) (up d))) = true)
 (T.ob (fconvOk .f64 .f32 (fadd .f64 (fmul .f64 (up a) (up d)) (fmul .f64 (up b) (up c))) = true)
 (T.leaf
 (AV.c .f32 (fconv .f64 .f32 (fsub .f64 (fmul .f64 (up a) (up c)) (fmul .f64 (up b) (up d))))
 (fconv .f64 .f32 (fadd .f64 (fmul .f64 (up a) (up d)) (fmul .f64 (up b) (up c)))))))))))) :
 VCall P g_f [.c .f32 a b, .c .f32 c d] (.c .f32 (dn (muU a b c d)) (dn (muV a b c d))) := h_.call_of ps_impl_MulComplex ⟨oc_impl_MulComplex a b c d, fun _ _ => none⟩ (by kernel_rfl) ht

-- END impl_MulComplex
-- FN impl_power
def ps_impl_power : List Nat := [0, 2, 3, 4]
def b_impl_power (gq0 : FuncId) : VCode :=
 (.seq
 (.region false [
 ⟨some 2, .mv, [.k (.f .f64 0)], none⟩])
 (.seq
 (.region false [
 ⟨some 6, .mv, [.t 0], none⟩,
 ⟨some 7, (.call gq0), [.t 6], none⟩,
 ⟨some 5, .mv, [.t 7], none⟩,
 ⟨some 8, (.extract 0), [.t 5], none⟩,
 ⟨some 9, (.extract 1), [.t 5], none⟩,
 ⟨some 3, .mv, [.t 8], none⟩,
 ⟨some 4, .mv, [.t 9], none⟩])
 (.seq
 (.region false [
 ⟨some 10, .mv, [.t 3], none⟩,
 ⟨some 11, .mv, [.t 3], none⟩,
 ⟨some 12, (.bin .mul), [.t 10, .t 11], none⟩,
 ⟨some 13, .mv, [.t 4], none⟩,
 ⟨some 14, .mv, [.t 4], none⟩,
 ⟨some 15, (.bin .mul), [.t 13, .t 14], none⟩,
 ⟨some 16, (.bin .add), [.t 12, .t 15], none⟩,
 ⟨some 2, .mv, [.t 16], none⟩])
 .ret)))

abbrev Is_impl_power (P : Program) (g_f : FuncId) (gq0 : FuncId) : Prop := FnIs P g_f 17 [.t 2] (b_impl_power gq0)

abbrev C_impl_power (P : Program) (g_f : FuncId) : Prop := ∀ (a : Nat) (b : Nat), VCall P g_f [.c .f32 a b] (.f .f64 (pwW a b))
def oc1_impl_power (as : List AV) : T AV := match as with | [.c .f32 a b] => .leaf (.f .f64 (pwW a b)) | _ => .fail
def oc_impl_power (a : Nat) (b : Nat) (d : Nat) (as : List AV) : T AV := match d with | 7 => oc1_impl_parts as | _ => .fail



theorem q_impl_power {P : Program} {g_f : FuncId} {gq0 : FuncId} (h_ : Is_impl_power P g_f gq0) (a : Nat) (b : Nat) (ht : T.ok (fun x_ => x_ = .f .f64 (pwW a b)) (
 T.ob ((VCall P) gq0 [AV.c .f32 a b] (AV.tup [AV.f .f64 (up a), AV.f .f64 (up b)]))
 (T.leaf (AV.f .f64 (fadd .f64 (fmul .f64 (up a) (up a)) (fmul .f64 (up b) (up b))))))) :
 VCall P g_f [.c .f32 a b] (.f .f64 (pwW a b)) := h_.call_of ps_impl_power ⟨oc_impl_power a b, fun _ _ => none⟩ (by kernel_rfl) ht

-- END impl_power
-- FN impl_PowerOf
def ps_impl_PowerOf : List Nat := [0, 2]
def b_impl_PowerOf (gq0 : FuncId) : VCode :=
 (.seq
 (.region false [
 ⟨some 2, .mv, [.k (.f .f32 0)], none⟩])
 (.seq
 (.region false [
 ⟨some 3, .mv, [.t 0], none⟩,
 ⟨some 4, (.call gq0), [.t 3], none⟩,
 ⟨some 5, (.convF .f32), [.t 4], none⟩,
 ⟨some 2, .mv, [.t 5], none⟩])
 .ret))

abbrev Is_impl_PowerOf (P : Program) (g_f : FuncId) (gq0 : FuncId) : Prop := FnIs P g_f 6 [.t 2] (b_impl_PowerOf gq0)

abbrev C_impl_PowerOf (P : Program) (g_f : FuncId) : Prop := ∀ (a : Nat) (b : Nat) (hp : fconvOk .f64 .f32 (pwW a b) = true), VCall P g_f [.c .f32 a b] (.f .f32 (dn (pwW a b)))
def oc1_impl_PowerOf (as : List AV) : T AV := match as with | [.c .f32 a b] => .leaf (.f .f32 (dn (pwW a b))) | _ => .fail
def oc_impl_PowerOf (a : Nat) (b : Nat) (d : Nat) (as : List AV) : T AV := match d with | 4 => oc1_impl_power as | _ => .fail



theorem q_impl_PowerOf {P : Program} {g_f : FuncId} {gq0 : FuncId} (h_ : Is_impl_PowerOf P g_f gq0) (a : Nat) (b : Nat) (ht : T.ok (fun x_ => x_ = .f .f32 (dn (pwW a b))) (
 T.ob ((VCall P) gq0 [AV.c .f32 a b] (AV.f .f64 (pwW a b))) (T.ob (fconvOk .f64 .f32 (pwW a b) = true) (T.leaf (AV.f .f32 (fconv .f64 .f32 (pwW a b))))))) :
 VCall P g_f [.c .f32 a b] (.f .f32 (dn (pwW a b))) := h_.call_of ps_impl_PowerOf ⟨oc_impl_PowerOf a b, fun _ _ => none⟩ (by kernel_rfl) ht

-- END impl_PowerOf
-- FN impl_ConjugateOf
def ps_impl_ConjugateOf : List Nat := [0, 2]
def b_impl_ConjugateOf : VCode :=
 (.seq
 (.region false [
 ⟨some 2, .mv, [.k (.c .f32 0 0)], none⟩])
 (.seq
 (.region false [
 ⟨some 3, .mv, [.t 0], none⟩,
 ⟨some 4, .re, [.t 3], none⟩,
 ⟨some 5, .mv, [.t 0], none⟩,
 ⟨some 6, .im, [.t 5], none⟩,
 ⟨some 7, .neg, [.t 6], none⟩,
 ⟨some 8, .cplx, [.t 4, .t 7], none⟩,
 ⟨some 2, .mv, [.t 8], none⟩])
 .ret))

abbrev Is_impl_ConjugateOf (P : Program) (g_f : FuncId) : Prop := FnIs P g_f 9 [.t 2] (b_impl_ConjugateOf)

abbrev C_impl_ConjugateOf (P : Program) (g_f : FuncId) : Prop := ∀ (a : Nat) (b : Nat), VCall P g_f [.c .f32 a b] (.c .f32 a (fneg .f32 b))
def oc1_impl_ConjugateOf (as : List AV) : T AV := match as with | [.c .f32 a b] => .leaf (.c .f32 a (fneg .f32 b)) | _ => .fail



theorem q_impl_ConjugateOf {P : Program} {g_f : FuncId} (h_ : Is_impl_ConjugateOf P g_f) (a : Nat) (b : Nat) (ht : T.ok (fun x_ => x_ = .c .f32 a (fneg .f32 b)) (
 T.leaf (AV.c .f32 a (fneg .f32 b)))) :
 VCall P g_f [.c .f32 a b] (.c .f32 a (fneg .f32 b)) := h_.call_of ps_impl_ConjugateOf ⟨fun _ _ => .fail, fun _ _ => none⟩ (by kernel_rfl) ht

-- END impl_ConjugateOf
-- FN spec_l01Conj
def ps_spec_l01Conj : List Nat := [0, 2]
def b_spec_l01Conj : VCode :=
 (.seq
 (.region false [
 ⟨some 2, .mv, [.k (.c .f32 0 0)], none⟩])
 (.seq
 (.region false [
 ⟨some 3, .mv, [.t 0], none⟩,
 ⟨some 4, .re, [.t 3], none⟩,
 ⟨some 5, .mv, [.t 0], none⟩,
 ⟨some 6, .im, [.t 5], none⟩,
 ⟨some 7, .neg, [.t 6], none⟩,
 ⟨some 8, .cplx, [.t 4, .t 7], none⟩,
 ⟨some 2, .mv, [.t 8], none⟩])
 .ret))

abbrev Is_spec_l01Conj (P : Program) (g_f : FuncId) : Prop := FnIs P g_f 9 [.t 2] (b_spec_l01Conj)

abbrev C_spec_l01Conj (P : Program) (g_f : FuncId) : Prop := ∀ (a : Nat) (b : Nat), VCall P g_f [.c .f32 a b] (.c .f32 a (fneg .f32 b))
def oc1_spec_l01Conj (as : List AV) : T AV := match as with | [.c .f32 a b] => .leaf (.c .f32 a (fneg .f32 b)) | _ => .fail



theorem q_spec_l01Conj {P : Program} {g_f : FuncId} (h_ : Is_spec_l01Conj P g_f) (a : Nat) (b : Nat) (ht : T.ok (fun x_ => x_ = .c .f32 a (fneg .f32 b)) (
 T.leaf (AV.c .f32 a (fneg .f32 b)))) :
 VCall P g_f [.c .f32 a b] (.c .f32 a (fneg .f32 b)) := h_.call_of ps_spec_l01Conj ⟨fun _ _ => .fail, fun _ _ => none⟩ (by kernel_rfl) ht

-- END spec_l01Conj
-- FN spec_l01Wide
def ps_spec_l01Wide : List Nat := [0, 2]
def b_spec_l01Wide : VCode :=
 (.seq
 (.region false [
 ⟨some 2, .mv, [.k (.c .f64 0 0)], none⟩])
 (.seq
 (.region false [
 ⟨some 3, .mv, [.t 0], none⟩,
 ⟨some 4, .re, [.t 3], none⟩,
 ⟨some 5, (.convF .f64), [.t 4], none⟩,
 ⟨some 6, .mv, [.t 0], none⟩,
 ⟨some 7, .im, [.t 6], none⟩,
 ⟨some 8, (.convF .f64), [.t 7], none⟩,
 ⟨some 9, .cplx, [.t 5, .t 8], none⟩,
 ⟨some 2, .mv, [.t 9], none⟩])
 .ret))

abbrev Is_spec_l01Wide (P : Program) (g_f : FuncId) : Prop := FnIs P g_f 10 [.t 2] (b_spec_l01Wide)

abbrev C_spec_l01Wide (P : Program) (g_f : FuncId) : Prop := ∀ (a : Nat) (b : Nat), VCall P g_f [.c .f32 a b] (.c .f64 (up a) (up b))
def oc1_spec_l01Wide (as : List AV) : T AV := match as with | [.c .f32 a b] => .leaf (.c .f64 (up a) (up b)) | _ => .fail



theorem q_spec_l01Wide {P : Program} {g_f : FuncId} (h_ : Is_spec_l01Wide P g_f) (a : Nat) (b : Nat) (ht : T.ok (fun x_ => x_ = .c .f64 (up a) (up b)) (
 T.ob (fconvOk .f32 .f64 a = true) (T.ob (fconvOk .f32 .f64 b = true) (T.leaf (AV.c .f64 (fconv .f32 .f64 a) (fconv .f32 .f64 b)))))) :
 VCall P g_f [.c .f32 a b] (.c .f64 (up a) (up b)) := h_.call_of ps_spec_l01Wide ⟨fun _ _ => .fail, fun _ _ => none⟩ (by kernel_rfl) ht

-- END spec_l01Wide
-- FN spec_l01WideMul
def ps_spec_l01WideMul : List Nat := [0, 1, 4, 5, 6]
def b_spec_l01WideMul : VCode :=
 (.seq
 (.region false [
 ⟨some 4, .mv, [.k (.c .f64 0 0)], none⟩])
 (.seq
 (.region false [
 ⟨some 7, .mv, [.t 0], none⟩,
 ⟨some 8, .re, [.t 7], none⟩,
 ⟨some 9, .mv, [.t 1], none⟩,
 ⟨some 10, .re, [.t 9], none⟩,
 ⟨some 11, (.bin .mul), [.t 8, .t 10], none⟩,
 ⟨some 12, .mv, [.t 0], none⟩,
 ⟨some 13, .im, [.t 12], none⟩,
 ⟨some 14, .mv, [.t 1], none⟩,
 ⟨some 15, .im, [.t 14], none⟩,
 ⟨some 16, (.bin .mul), [.t 13, .t 15], none⟩,
 ⟨some 17, (.bin .sub), [.t 11, .t 16], none⟩,
 ⟨some 5, .mv, [.t 17], none⟩])
 (.seq
 (.region false [
 ⟨some 18, .mv, [.t 0], none⟩,
 ⟨some 19, .re, [.t 18], none⟩,
 ⟨some 20, .mv, [.t 1], none⟩,
 ⟨some 21, .im, [.t 20], none⟩,
 ⟨some 22, (.bin .mul), [.t 19, .t 21], none⟩,
 ⟨some 23, .mv, [.t 0], none⟩,
 ⟨some 24, .im, [.t 23], none⟩,
 ⟨some 25, .mv, [.t 1], none⟩,
 ⟨some 26, .re, [.t 25], none⟩,
 ⟨some 27, (.bin .mul), [.t 24, .t 26], none⟩,
 ⟨some 28, (.bin .add), [.t 22, .t 27], none⟩,
 ⟨some 6, .mv, [.t 28], none⟩])
 (.seq
 (.region false [
 ⟨some 29, .mv, [.t 5], none⟩,
 ⟨some 30, .mv, [.t 6], none⟩,
 ⟨some 31, .cplx, [.t 29, .t 30], none⟩,
 ⟨some 4, .mv, [.t 31], none⟩])
 .ret))))

abbrev Is_spec_l01WideMul (P : Program) (g_f : FuncId) : Prop := FnIs P g_f 32 [.t 4] (b_spec_l01WideMul)

abbrev C_spec_l01WideMul (P : Program) (g_f : FuncId) : Prop := ∀ (a : Nat) (b : Nat) (c : Nat) (d : Nat), VCall P g_f [.c .f64 a b, .c .f64 c d] (.c .f64 (fsub .f64 (fmul .f64 a c) (fmul .f64 b d)) (fadd .f64 (fmul .f64 a d) (fmul .f64 b c)))
def oc1_spec_l01WideMul (as : List AV) : T AV := match as with | [.c .f64 a b, .c .f64 c d] => .leaf (.c .f64 (fsub .f64 (fmul .f64 a c) (fmul .f64 b d)) (fadd .f64 (fmul .f64 a d) (fmul .f64 b c))) | _ => .fail



theorem q_spec_l01WideMul {P : Program} {g_f : FuncId} (h_ : Is_spec_l01WideMul P g_f) (a : Nat) (b : Nat) (c : Nat) (d : Nat) (ht : T.ok (fun x_ => x_ = .c .f64 (fsub .f64 (fmul .f64 a c) (fmul .f64 b d)) (fadd .f64 (fmul .f64 a d) (fmul .f64 b c))) (
 T.leaf (AV.c .f64 (fsub .f64 (fmul .f64 a c) (fmul .f64 b d)) (fadd .f64 (fmul .f64 a d) (fmul .f64 b c))))) :
 VCall P g_f [.c .f64 a b, .c .f64 c d] (.c .f64 (fsub .f64 (fmul .f64 a c) (fmul .f64 b d)) (fadd .f64 (fmul .f64 a d) (fmul .f64 b c))) := h_.call_of ps_spec_l01WideMul ⟨fun _ _ => .fail, fun _ _ => none⟩ (by kernel_rfl) ht

-- END spec_l01WideMul
-- FN spec_l01CNarrow
def ps_spec_l01CNarrow : List Nat := [0, 2]
def b_spec_l01CNarrow (gq0 : FuncId) : VCode :=
 (.seq
 (.region false [
 ⟨some 2, .mv, [.k (.c .f32 0 0)], none⟩])
 (.seq
 (.region false [
 ⟨some 3, .mv, [.t 0], none⟩,
 ⟨some 4, .re, [.t 3], none⟩,
 ⟨some 5, (.call gq0), [.t 4], none⟩,
 ⟨some 6, .mv, [.t 0], none⟩,
 ⟨some 7, .im, [.t 6], none⟩,
 ⟨some 8, (.call gq0), [.t 7], none⟩,
 ⟨some 9, .cplx, [.t 5, .t 8], none⟩,
 ⟨some 2, .mv, [.t 9], none⟩])
 .ret))

abbrev Is_spec_l01CNarrow (P : Program) (g_f : FuncId) (gq0 : FuncId) : Prop := FnIs P g_f 10 [.t 2] (b_spec_l01CNarrow gq0)

abbrev C_spec_l01CNarrow (P : Program) (g_f : FuncId) : Prop := ∀ (a : Nat) (b : Nat) (hu : fconvOk .f64 .f32 a = true) (hv : fconvOk .f64 .f32 b = true), VCall P g_f [.c .f64 a b] (.c .f32 (dn a) (dn b))
def oc1_spec_l01CNarrow (as : List AV) : T AV := match as with | [.c .f64 a b] => .leaf (.c .f32 (dn a) (dn b)) | _ => .fail
def oc_spec_l01CNarrow (a : Nat) (b : Nat) (d : Nat) (as : List AV) : T AV := match d with | 5 => oc1_spec_l01Narrow as | 8 => oc1_spec_l01Narrow as | _ => .fail



theorem q_spec_l01CNarrow {P : Program} {g_f : FuncId} {gq0 : FuncId} (h_ : Is_spec_l01CNarrow P g_f gq0) (a : Nat) (b : Nat) (ht : T.ok (fun x_ => x_ = .c .f32 (dn a) (dn b)) (
 T.ob ((VCall P) gq0 [AV.f .f64 a] (AV.f .f32 (fconv .f64 .f32 a)))
 (T.ob ((VCall P) gq0 [AV.f .f64 b] (AV.f .f32 (fconv .f64 .f32 b))) (T.leaf (AV.c .f32 (fconv .f64 .f32 a) (fconv .f64 .f32 b)))))) :
 VCall P g_f [.c .f64 a b] (.c .f32 (dn a) (dn b)) := h_.call_of ps_spec_l01CNarrow ⟨oc_spec_l01CNarrow a b, fun _ _ => none⟩ (by kernel_rfl) ht

-- END spec_l01CNarrow
-- FN spec_l01Mul
def ps_spec_l01Mul : List Nat := [0, 1, 4]
def b_spec_l01Mul (gq0 gq1 gq2 : FuncId) : VCode :=
 (.seq
 (.region false [
 ⟨some 4, .mv, [.k (.c .f32 0 0)], none⟩])
 (.seq
 (.region false [
 ⟨some 5, .mv, [.t 0], none⟩,
 ⟨some 6, (.call gq0), [.t 5], none⟩,
 ⟨some 7, .mv, [.t 1], none⟩,
 ⟨some 8, (.call gq0), [.t 7], none⟩,
 ⟨some 9, (.call gq1), [.t 6, .t 8], none⟩,
 ⟨some 10, (.call gq2), [.t 9], none⟩,
 ⟨some 4, .mv, [.t 10], none⟩])
 .ret))

abbrev Is_spec_l01Mul (P : Program) (g_f : FuncId) (gq0 gq1 gq2 : FuncId) : Prop := FnIs P g_f 11 [.t 4] (b_spec_l01Mul gq0 gq1 gq2)

abbrev C_spec_l01Mul (P : Program) (g_f : FuncId) : Prop := ∀ (a : Nat) (b : Nat) (c : Nat) (d : Nat) (hu : fconvOk .f64 .f32 (muU a b c d) = true) (hv : fconvOk .f64 .f32 (muV a b c d) = true), VCall P g_f [.c .f32 a b, .c .f32 c d] (.c .f32 (dn (muU a b c d)) (dn (muV a b c d)))
def oc_spec_l01Mul (a : Nat) (b : Nat) (c : Nat) (d : Nat) (d : Nat) (as : List AV) : T AV := match d with | 6 => oc1_spec_l01Wide as | 8 => oc1_spec_l01Wide as | 9 => oc1_spec_l01WideMul as | 10 => oc1_spec_l01CNarrow as | _ => .fail



theorem q_spec_l01Mul {P : Program} {g_f : FuncId} {gq0 gq1 gq2 : FuncId} (h_ : Is_spec_l01Mul P g_f gq0 gq1 gq2) (a : Nat) (b : Nat) (c : Nat) (d : Nat) (ht : T.ok (fun x_ => x_ = .c .f32 (dn (muU a b c d)) (dn (muV a b c d))) (
 T.ob ((VCall P) gq0 [AV.c .f32 a b] (AV.c .f64 (up a) (up b)))
 (T.ob ((VCall P) gq0 [AV.c .f32 c d] (AV.c .f64 (up c) (up d)))
 (T.ob
 ((VCall P) gq1 [AV.c .f64 (up a) (up b), AV.c .f64 (up c) (up d)]
 (AV.c .f64 (fsub .f64 (fmul .f64 (up a) (up c)) (fmul .f64 (up b) (up d))) (fadd .f64 (fmul .f64 (up a) (up d)) (fmul .f64 (up b) (up c)))))
 (T.ob
 ((VCall P) gq2
 [AV.c .f64 (fsub .f64 (fmul .f64 (up a) (up c)) (fmul .f64 (up b) (up d))) (fadd .f64 (fmul .f64 (up a) (up d)) (fmul .f64 (up b) (up c)))]
 (AV.c .f32 (dn (fsub .f64 (fmul .f64 (up a) (up c)) (fmul .f64 (up b) (up d))))
 (dn (fadd .f64 (fmul .f64 (up a) (up d)) (fmul .f64 (up b) (up c))))))
 (T.leaf
 (AV.c .f32 (dn (fsub .f64 (fmul .f64 (up a) (up c)) (fmul .f64 (up b) (up d))))
 (dn (fadd .f64 (fmul .f64 (up a) (up d)) (fmul .f64 (up b) (up c))))))))))) :
 VCall P g_f [.c .f32 a b, .c .f32 c d] (.c .f32 (dn (muU a b c d)) (dn (muV a b c d))) := h_.call_of ps_spec_l01Mul ⟨oc_spec_l01Mul a b c d, fun _ _ => none⟩ (by kernel_rfl) ht

-- END spec_l01Mul
-- FN spec_l01PowerWide
def ps_spec_l01PowerWide : List Nat := [0, 2, 3, 4]
def b_spec_l01PowerWide : VCode :=
 (.seq
 (.region false [
 ⟨some 2, .mv, [.k (.f .f64 0)], none⟩])
 (.seq
 (.region false [
 ⟨some 5, .mv, [.t 0], none⟩,
 ⟨some 6, .re, [.t 5], none⟩,
 ⟨some 7, (.convF .f64), [.t 6], none⟩,
 ⟨some 3, .mv, [.t 7], none⟩])
 (.seq
 (.region false [
 ⟨some 8, .mv, [.t 0], none⟩,
 ⟨some 9, .im, [.t 8], none⟩,
 ⟨some 10, (.convF .f64), [.t 9], none⟩,
 ⟨some 4, .mv, [.t 10], none⟩])
 (.seq
 (.region false [
 ⟨some 11, .mv, [.t 3], none⟩,
 ⟨some 12, .mv, [.t 3], none⟩,
 ⟨some 13, (.bin .mul), [.t 11, .t 12], none⟩,
 ⟨some 14, .mv, [.t 4], none⟩,
 ⟨some 15, .mv, [.t 4], none⟩,
 ⟨some 16, (.bin .mul), [.t 14, .t 15], none⟩,
 ⟨some 17, (.bin .add), [.t 13, .t 16], none⟩,
 ⟨some 2, .mv, [.t 17], none⟩])
 .ret))))

abbrev Is_spec_l01PowerWide (P : Program) (g_f : FuncId) : Prop := FnIs P g_f 18 [.t 2] (b_spec_l01PowerWide)

abbrev C_spec_l01PowerWide (P : Program) (g_f : FuncId) : Prop := ∀ (a : Nat) (b : Nat), VCall P g_f [.c .f32 a b] (.f .f64 (pwW a b))
def oc1_spec_l01PowerWide (as : List AV) : T AV := match as with | [.c .f32 a b] => .leaf (.f .f64 (pwW a b)) | _ => .fail



theorem q_spec_l01PowerWide {P : Program} {g_f : FuncId} (h_ : Is_spec_l01PowerWide P g_f) (a : Nat) (b : Nat) (ht : T.ok (fun x_ => x_ = .f .f64 (pwW a b)) (
 T.ob (fconvOk .f32 .f64 a = true)
 (T.ob (fconvOk .f32 .f64 b = true)
 (T.leaf
 (AV.f .f64
 (fadd .f64 (fmul .f64 (fconv .f32 .f64 a) (fconv .f32 .f64 a))
 (fmul .f64 (fconv .f32 .f64 b) (fconv .f32 .f64 b)))))))) :
 VCall P g_f [.c .f32 a b] (.f .f64 (pwW a b)) := h_.call_of ps_spec_l01PowerWide ⟨fun _ _ => .fail, fun _ _ => none⟩ (by kernel_rfl) ht

-- END spec_l01PowerWide
-- FN spec_l01Power
def ps_spec_l01Power : List Nat := [0, 2]
def b_spec_l01Power (gq0 gq1 : FuncId) : VCode :=
 (.seq
 (.region false [
 ⟨some 2, .mv, [.k (.f .f32 0)], none⟩])
 (.seq
 (.region false [
 ⟨some 3, .mv, [.t 0], none⟩,
 ⟨some 4, (.call gq0), [.t 3], none⟩,
 ⟨some 5, (.call gq1), [.t 4], none⟩,
 ⟨some 2, .mv, [.t 5], none⟩])
 .ret))

abbrev Is_spec_l01Power (P : Program) (g_f : FuncId) (gq0 gq1 : FuncId) : Prop := FnIs P g_f 6 [.t 2] (b_spec_l01Power gq0 gq1)

abbrev C_spec_l01Power (P : Program) (g_f : FuncId) : Prop := ∀ (a : Nat) (b : Nat) (hp : fconvOk .f64 .f32 (pwW a b) = true), VCall P g_f [.c .f32 a b] (.f .f32 (dn (pwW a b)))
def oc_spec_l01Power (a : Nat) (b : Nat) (d : Nat) (as : List AV) : T AV := match d with | 4 => oc1_spec_l01PowerWide as | 5 => oc1_spec_l01Narrow as | _ => .fail



theorem q_spec_l01Power {P : Program} {g_f : FuncId} {gq0 gq1 : FuncId} (h_ : Is_spec_l01Power P g_f gq0 gq1) (a : Nat) (b : Nat) (ht : T.ok (fun x_ => x_ = .f .f32 (dn (pwW a b))) (
 T.ob ((VCall P) gq0 [AV.c .f32 a b] (AV.f .f64 (pwW a b)))
 (T.ob ((VCall P) gq1 [AV.f .f64 (pwW a b)] (AV.f .f32 (fconv .f64 .f32 (pwW a b)))) (T.leaf (AV.f .f32 (fconv .f64 .f32 (pwW a b))))))) :
 VCall P g_f [.c .f32 a b] (.f .f32 (dn (pwW a b))) := h_.call_of ps_spec_l01Power ⟨oc_spec_l01Power a b, fun _ _ => none⟩ (by kernel_rfl) ht

-- END spec_l01Power

theorem k_impl_parts {P : Program} {f : FuncId} (h : Is_impl_parts P f) : C_impl_parts P f := fun a b => q_impl_parts h a b (T.ok_ob (fconvOk_32_64 _) fun _ => T.ok_ob (fconvOk_32_64 _) fun _ => T.ok_leaf rfl)
theorem k_impl_times {P : Program} {f : FuncId} (h : Is_impl_times P f) : C_impl_times P f := fun a b c d => q_impl_times h a b c d (T.ok_leaf rfl)
theorem k_impl_MulComplex {P : Program} {f g1 g2 : FuncId} (h : Is_impl_MulComplex P f g1 g2) (c1 : C_impl_parts P g1) (c2 : C_impl_times P g2) : C_impl_MulComplex P f := fun a b c d hu hv =>
  q_impl_MulComplex h a b c d (T.ok_ob (c1 _ _) fun _ => T.ok_ob (c1 _ _) fun _ => T.ok_ob (c2 _ _ _ _) fun _ => T.ok_ob hu fun _ => T.ok_ob hv fun _ => T.ok_leaf rfl)
theorem k_impl_power {P : Program} {f g1 : FuncId} (h : Is_impl_power P f g1) (c1 : C_impl_parts P g1) : C_impl_power P f := fun a b => q_impl_power h a b (T.ok_ob (c1 _ _) fun _ => T.ok_leaf rfl)
theorem k_impl_PowerOf {P : Program} {f g1 : FuncId} (h : Is_impl_PowerOf P f g1) (c1 : C_impl_power P g1) : C_impl_PowerOf P f := fun a b hp => q_impl_PowerOf h a b (T.ok_ob (c1 _ _) fun _ => T.ok_ob hp fun _ => T.ok_leaf rfl)
theorem k_impl_ConjugateOf {P : Program} {f : FuncId} (h : Is_impl_ConjugateOf P f) : C_impl_ConjugateOf P f := fun a b => q_impl_ConjugateOf h a b (T.ok_leaf rfl)
theorem k_spec_l01Conj {P : Program} {f : FuncId} (h : Is_spec_l01Conj P f) : C_spec_l01Conj P f := fun a b => q_spec_l01Conj h a b (T.ok_leaf rfl)
theorem k_spec_l01Wide {P : Program} {f : FuncId} (h : Is_spec_l01Wide P f) : C_spec_l01Wide P f := fun a b => q_spec_l01Wide h a b (T.ok_ob (fconvOk_32_64 _) fun _ => T.ok_ob (fconvOk_32_64 _) fun _ => T.ok_leaf rfl)
theorem k_spec_l01WideMul {P : Program} {f : FuncId} (h : Is_spec_l01WideMul P f) : C_spec_l01WideMul P f := fun a b c d => q_spec_l01WideMul h a b c d (T.ok_leaf rfl)
theorem k_spec_l01CNarrow {P : Program} {f g1 : FuncId} (h : Is_spec_l01CNarrow P f g1) (c1 : C_spec_l01Narrow P g1) : C_spec_l01CNarrow P f := fun a b hu hv => q_spec_l01CNarrow h a b (T.ok_ob (c1 _ hu) fun _ => T.ok_ob (c1 _ hv) fun _ => T.ok_leaf rfl)
theorem k_spec_l01Mul {P : Program} {f g1 g2 g3 : FuncId} (h : Is_spec_l01Mul P f g1 g2 g3) (c1 : C_spec_l01Wide P g1) (c2 : C_spec_l01WideMul P g2) (c3 : C_spec_l01CNarrow P g3) : C_spec_l01Mul P f := fun a b c d hu hv =>
  q_spec_l01Mul h a b c d (T.ok_ob (c1 _ _) fun _ => T.ok_ob (c1 _ _) fun _ => T.ok_ob (c2 _ _ _ _) fun _ => T.ok_ob (c3 _ _ hu hv) fun _ => T.ok_leaf rfl)
theorem k_spec_l01PowerWide {P : Program} {f : FuncId} (h : Is_spec_l01PowerWide P f) : C_spec_l01PowerWide P f := fun a b => q_spec_l01PowerWide h a b (T.ok_ob (fconvOk_32_64 _) fun _ => T.ok_ob (fconvOk_32_64 _) fun _ => T.ok_leaf rfl)
theorem k_spec_l01Power {P : Program} {f g1 g2 : FuncId} (h : Is_spec_l01Power P f g1 g2) (c1 : C_spec_l01PowerWide P g1) (c2 : C_spec_l01Narrow P g2) : C_spec_l01Power P f := fun a b hp => q_spec_l01Power h a b (T.ok_ob (c1 _ _) fun _ => T.ok_ob (c2 _ hp) fun _ => T.ok_leaf rfl)

end Go.Proofs.LV
