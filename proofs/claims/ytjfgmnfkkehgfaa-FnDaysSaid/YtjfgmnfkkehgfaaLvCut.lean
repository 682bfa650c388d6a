/- Long functions in pieces: the code is cut along its spine; each piece has its own tree. -/
import Derived.Test.YtjfgmnfkkehgfaaLvEv
namespace Go.Proofs.LV
open Go
set_option linter.unusedVariables false

/-- the first n members of a row of statements -/
def front : Nat → VCode → VCode
  | 0, _ => .skip
  | n + 1, .seq a b => .seq a (front n b)
  | _ + 1, _ => .skip
/-- what follows them -/
def rest : Nat → VCode → VCode
  | 0, c => c
  | n + 1, .seq _ b => rest n b
  | _ + 1, c => c
def hasBlk (id : Nat) : VCode → Bool
  | .seq a b => hasBlk id a || hasBlk id b
  | .cond _ a b => hasBlk id a || hasBlk id b
  | .block i b => i == id || hasBlk id b
  | .loop b => hasBlk id b
  | _ => false

/-- the tree of a piece: it goes on (none) or returns (some) -/
def evS (VC : FuncId → List AV → AV → Prop) (ps : List Nat) (rs : List RV) (r0 : AV) (O : Orc) (c : VCode) (σ : Env) : T (Option AV × Env) :=
  evC VC ps O c σ [] fun e σ _ => match e with
    | .normal => .leaf (none, σ)
    | .exit _ => .fail
    | .ret => match outRs rs σ with | some v => .leaf (some (AV.fin r0 v), []) | none => .fail
theorem evS_of {VC : FuncId → List AV → AV → Prop} {ps : List Nat} {rs : List RV} {r0 : AV} {O : Orc} {c : VCode} {σ : Env} {t : T (Option AV × Env)} {Q : Option AV × Env → Prop}
    (e : evS VC ps rs r0 O c σ = t) (ht : t.ok Q) : (evS VC ps rs r0 O c σ).ok Q := e ▸ ht

theorem front_ok {α : Type} {VC : FuncId → List AV → AV → Prop} {O : Orc} {Q : α → Prop} {ps : List Nat} : ∀ (n : Nat) (c : VCode) {σ : Env} {kn : Kn} {k : Ex → Env → Kn → T α}, (evC VC ps O (front n c) σ kn k).ok Q →
    ∃ e σ' kn', (k e σ' kn').ok Q ∧ (e = .normal → ∀ e2 σ2, Exec VC ps (rest n c) σ' e2 σ2 → Exec VC ps c σ e2 σ2) ∧ (e ≠ .normal → Exec VC ps c σ e σ')
  | 0, c, σ, kn, k, h => ⟨.normal, σ, kn, h, fun _ _ _ h => h, fun h => absurd rfl h⟩
  | n + 1, .seq a b, σ, kn, k, h => by
    unfold front evC at h
    obtain ⟨e, σ1, kn1, h1, h2⟩ := evC_ok h
    cases e with
    | normal =>
      obtain ⟨e', σ2, kn2, h3, h4, h5⟩ := front_ok n b h2
      exact ⟨e', σ2, kn2, h3, fun he e2 σ3 hx => .seq h1 (h4 he e2 σ3 hx), fun he => .seq h1 (h5 he)⟩
    | exit id => exact ⟨.exit id, σ1, kn1, h2, (fun h => by cases h), fun _ => .seqX h1 (by simp)⟩
    | ret => exact ⟨.ret, σ1, kn1, h2, (fun h => by cases h), fun _ => .seqX h1 (by simp)⟩
  | n + 1, .skip, σ, kn, k, h => ⟨.normal, σ, kn, h, fun _ _ _ h => h, fun h => absurd rfl h⟩
  | n + 1, .region _ _, σ, kn, k, h => ⟨.normal, σ, kn, h, fun _ _ _ h => h, fun h => absurd rfl h⟩
  | n + 1, .cond _ _ _, σ, kn, k, h => ⟨.normal, σ, kn, h, fun _ _ _ h => h, fun h => absurd rfl h⟩
  | n + 1, .block _ _, σ, kn, k, h => ⟨.normal, σ, kn, h, fun _ _ _ h => h, fun h => absurd rfl h⟩
  | n + 1, .loop _, σ, kn, k, h => ⟨.normal, σ, kn, h, fun _ _ _ h => h, fun h => absurd rfl h⟩
  | n + 1, .exit _, σ, kn, k, h => ⟨.normal, σ, kn, h, fun _ _ _ h => h, fun h => absurd rfl h⟩
  | n + 1, .ret, σ, kn, k, h => ⟨.normal, σ, kn, h, fun _ _ _ h => h, fun h => absurd rfl h⟩

/-- the code ends with this result -/
def Ends (P : Program) (ps : List Nat) (rs : List RV) (r : AV) (c : VCode) (σ : Env) : Prop :=
  ∃ e σ', Exec (VCall P) ps c σ e σ' ∧ (e = .normal ∨ e = .ret) ∧ ∃ v, outRs rs σ' = some v ∧ AV.fin r v = r

theorem T.ok_itrue {α : Type} {Q : α → Prop} {x y : T α} (h : x.ok Q) : (T.ite true x y).ok Q := ⟨fun _ => h, fun h => nomatch h⟩
theorem T.ok_ifalse {α : Type} {Q : α → Prop} {x y : T α} (h : y.ok Q) : (T.ite false x y).ok Q := ⟨(fun h => nomatch h), fun _ => h⟩
theorem T.ok_go {σ1 : Env} {H : Prop} {r : AV} (h : H) : (T.leaf ((none : Option AV), σ1)).ok (fun x => (x = (none, σ1) ∧ H) ∨ x = (some r, [])) := .inl ⟨rfl, h⟩
theorem T.ok_end {σ1 : Env} {H : Prop} {r a : AV} (h : a = r) : (T.leaf (some a, ([] : Env))).ok (fun x => (x = (none, σ1) ∧ H) ∨ x = (some r, [])) := .inr (by rw [h])
theorem T.ok_endL {r a : AV} (h : a = r) : (T.leaf (some a, ([] : Env))).ok (fun x => x = (some r, [])) := by subst h; rfl

section
variable {P : Program} {ps : List Nat} {rs : List RV} {r : AV} {O : Orc}
/-- one piece: it returns r, or goes on with σ1 and what is known then (H) -/
theorem cut_step {n : Nat} {c : VCode} {σ σ1 : Env} {H : Prop} (h : (evS (VCall P) ps rs r O (front n c) σ).ok (fun x => (x = (none, σ1) ∧ H) ∨ x = (some r, [])))
    (h2 : H → Ends P ps rs r (rest n c) σ1) : Ends P ps rs r c σ := by
  unfold evS at h
  obtain ⟨e, σ', kn', hk, hn, hx⟩ := front_ok n c h
  cases e with
  | normal =>
    rcases hk with ⟨hk, hH⟩ | hk
    · cases hk
      obtain ⟨e2, σ2, he, h3⟩ := h2 hH
      exact ⟨e2, σ2, hn rfl e2 σ2 he, h3⟩
    · cases hk
  | exit id => exact hk.elim
  | ret =>
    have hx := hx (by simp)
    simp only at hk
    split at hk
    · rename_i v hv
      rcases hk with ⟨hk, _⟩ | hk
      · cases hk
      · simp only [Prod.mk.injEq, Option.some.injEq, and_true] at hk
        exact ⟨.ret, σ', hx, .inr rfl, v, hv, hk⟩
    · exact hk.elim
theorem cut_last {c : VCode} {σ : Env} (h : (evS (VCall P) ps rs r O c σ).ok (fun x => x = (some r, []))) : Ends P ps rs r c σ := by
  unfold evS at h
  obtain ⟨e, σ', kn', hx, hk⟩ := evC_ok h
  cases e with
  | normal => cases hk
  | exit id => exact hk.elim
  | ret =>
    simp only at hk
    split at hk
    · rename_i v hv
      simp only [T.ok, Prod.mk.injEq, Option.some.injEq, and_true] at hk
      exact ⟨.ret, σ', hx, .inr rfl, v, hv, hk⟩
    · exact hk.elim
theorem FnIs.call_cut {f : FuncId} {nt : Nat} {vc : VCode} (h : FnIs P f nt rs vc) {args : List AV} (ht : Ends P ps rs r vc (startEnv nt args)) (hM : r.isM = false := by rfl) : VCall P f args r := by
  obtain ⟨fn, c0, hf, hb, hc, hr, hn⟩ := h.has
  subst hn
  obtain ⟨e, σ', hrun, he, v, hv, hvr⟩ := ht
  obtain ⟨a1, a2, a3⟩ := outRs_ok hr hv
  exact vcall_of_exec (rs := fn.results.toList) hf hb hc (by simp) (by rw [a1]; exact h.len) h.enter he hrun a2 (by rw [a3]; exact hvr) hM
end
end Go.Proofs.LV
