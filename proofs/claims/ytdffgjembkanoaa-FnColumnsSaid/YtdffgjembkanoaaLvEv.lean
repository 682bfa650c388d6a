/- The symbolic runner: code in, a tree of cases and debts out; what the tree says holds of a run. -/
import Derived.Test.YtdffgjembkanoaaLvTop
namespace Go.Proofs.LV
open Go Go.RowKit
set_option linter.unusedVariables false
set_option linter.unusedSimpArgs false

def anys (n : Nat) : List AV := List.replicate n .any
/-- cases and debts -/
inductive T (α : Type) where
  | fail
  | leaf (a : α)
  | ite (c : Bool) (x y : T α)
  | ob (p : Prop) (x : T α)
def T.ok {α : Type} (Q : α → Prop) : T α → Prop
  | .fail => False
  | .leaf a => Q a
  | .ite c x y => (c = true → x.ok Q) ∧ (c = false → y.ok Q)
  | .ob p x => p ∧ (p → x.ok Q)

theorem T.ok_ob {α : Type} {Q : α → Prop} {p : Prop} {x : T α} (hp : p) (hx : p → x.ok Q) : (T.ob p x).ok Q := ⟨hp, fun _ => hx hp⟩
theorem T.ok_ite {α : Type} {Q : α → Prop} {c : Bool} {x y : T α} (h1 : c = true → x.ok Q) (h2 : c = false → y.ok Q) : (T.ite c x y).ok Q := ⟨h1, h2⟩
theorem T.ok_leaf {α : Type} {a b : α} (h : a = b) : (T.leaf a).ok (fun x => x = b) := h
def T.bind {α β : Type} (f : α → T β) : T α → T β
  | .fail => .fail
  | .leaf a => f a
  | .ite c x y => .ite c (x.bind f) (y.bind f)
  | .ob p x => .ob p (x.bind f)
theorem T.ok_bind {α β : Type} {f : α → T β} {Q : β → Prop} : ∀ {t : T α}, (t.bind f).ok Q → ∃ a, (f a).ok Q
  | .fail, h => h.elim
  | .leaf a, h => ⟨a, h⟩
  | .ite c x y, h => by
    cases c with
    | true => exact ok_bind (h.1 rfl)
    | false => exact ok_bind (h.2 rfl)
  | .ob p x, h => ok_bind (h.2 h.1)

abbrev Kn := List (Nat × Bool)
def Kn.get (j : Nat) : Kn → Option Bool
  | [] => none
  | (i, x) :: r => bif i == j then some x else Kn.get j r
def Kn.opd (kn : Kn) : Opd → Option Bool
  | .t n => kn.get n
  | .k (.b x) => some x
  | .k _ => none
def Kn.after (s : VStep) (kn : Kn) : Kn :=
  let v := match s.kd, s.opds with
    | .mv, [x] => kn.opd x
    | .not, [x] => (kn.opd x).map (!·)
    | .pick, [c, x, y] => match kn.opd c with | some true => kn.opd x | some false => kn.opd y | none => none
    | _, _ => none
  match s.dst with
  | none => kn
  | some d => match v with
    | some x => (d, x) :: kn
    | none => kn.filter fun p => !(p.1 == d)
def Kn.drop (t : Nat) (kn : Kn) : Kn := kn.filter fun p => !(p.1 == t)
def Kn.keep (ps : List Nat) (kn : Kn) : Kn := kn.filter fun p => ps.contains p.1

/-- what is known ahead: what calls give (by the slot of the result), what loops do (by the block; the slots that live at its head) -/
structure Orc where
  call : Nat → List AV → T AV := fun _ _ => .fail
  loop : Nat → Env → Option (List Nat × T (Ex × Env)) := fun _ _ => none

def callArgs (s : VStep) (σ : Env) : List AV :=
  match s.kd, s.opds.map σ.ev with
  | .callv, .fn _ caps :: vs => AV.viewL [] 0 (vs ++ caps)
  | _, vs => AV.viewL [] 0 vs
def stepC (VC : FuncId → List AV → AV → Prop) (m : Md) (s : VStep) (r : AV) (σ : Env) : Option (Env × Prop) :=
  match m with
  | .d => stepW VC s r σ
  | .t => bif r.isM then (bif isMR s σ then stepMR VC s r σ else stepM VC s r σ) else bif isRA s σ then stepRA s σ else stepW VC s r σ
  | .q N => bif r.isM then (bif (mnames s σ).all (fun n => N.contains n) then stepM VC s r σ else none) else stepW VC s r σ
/-- how a drawn region is run: one call of it may write what it is given -/
def callAt : List VStep → Nat → Option Nat
  | [], _ => none
  | s :: l, i => bif s.kd.isCall then (bif l.any (fun s => s.kd.isCall) then none else some i) else callAt l (i + 1)
def qNs (ss : List VStep) (iy : Nat) (σ : Env) : List Nat :=
  dedup (AV.nmsL ((List.range (iy + 1)).flatMap fun i => bif qFree ss iy i then [] else (ss.getD i .nil).opds.map σ.ev))
def drawMd (ss : List VStep) (σ : Env) : { m : Md // m = .d ∨ ∃ iy N, m = .q N ∧ qOk ss iy N σ = true } :=
  match callAt ss 0 with
  | none => ⟨.d, .inl rfl⟩
  | some iy => if h : (qNs ss iy σ).isEmpty = false ∧ qOk ss iy (qNs ss iy σ) σ = true then ⟨.q (qNs ss iy σ), .inr ⟨iy, _, rfl, h.2⟩⟩ else ⟨.d, .inl rfl⟩

section
variable {α : Type}
def evOp (VC : FuncId → List AV → AV → Prop) (O : Orc) (m : Md) (s : VStep) (σ : Env) (kn : Kn) (k : AV → Env → Kn → T α) : T α :=
  bif s.kd.isCall then
    (O.call (s.dst.getD 0) (callArgs s σ)).bind fun r => match stepC VC m s r σ with
      | some (σ', o) => .ob o (k r σ' (kn.after s))
      | none => .fail
  else match stepC VC m s .any σ with
    | some (σ', o) => bif s.kd.owes then .ob o (k .any σ' (kn.after s)) else k .any σ' (kn.after s)
    | none => .fail

def evOps (VC : FuncId → List AV → AV → Prop) (O : Orc) (m : Md) : List VStep → Env → Kn → (Env → Kn → T α) → T α
  | [], σ, kn, k => k σ kn
  | s :: l, σ, kn, k =>
    match s.guard with
    | none => evOp VC O m s σ kn fun _ σ kn => evOps VC O m l σ kn k
    | some (j, want) => match σ.getD j .any with
      | .b y => match kn.get j with
        | some x => bif y == x then
            (bif x == want then evOp VC O .d s σ kn (fun _ σ kn => evOps VC O m l σ kn k) else evOps VC O m l (σ.put s.dst (.tup [])) kn k)
          else .fail
        | none => .ite y
            (bif true == want then evOp VC O .d s (σ.set j (.b true)) ((j, true) :: kn) (fun _ σ kn => evOps VC O m l σ kn k) else evOps VC O m l (Env.put s.dst (.tup []) (σ.set j (.b true))) ((j, true) :: kn) k)
            (bif false == want then evOp VC O .d s (σ.set j (.b false)) ((j, false) :: kn) (fun _ σ kn => evOps VC O m l σ kn k) else evOps VC O m l (Env.put s.dst (.tup []) (σ.set j (.b false))) ((j, false) :: kn) k)
      | .tup [] => evOps VC O m l (σ.put s.dst (.tup [])) kn k
      | _ => .fail

def evC (VC : FuncId → List AV → AV → Prop) (ps : List Nat) (O : Orc) : VCode → Env → Kn → (Ex → Env → Kn → T α) → T α
  | .skip, σ, kn, k => k .normal σ kn
  | .region true ss, σ, kn, k => match drawMd ss (σ.scrubs (regNames ss)) with
    | ⟨.d, _⟩ => evOps VC O .d ss (σ.scrubs (regNames ss)) kn fun σ' kn' => k .normal (σ'.clear ps) (kn'.keep ps)
    | ⟨.q N, _⟩ => evOps VC O (.q N) ss (σ.scrubs (regNames ss)) kn fun σ' kn' => k .normal (σ'.clear ps) (kn'.keep ps)
    | ⟨.t, _⟩ => .fail
  | .region false ss, σ, kn, k => evOps VC O .t ss σ kn fun σ' kn' => k .normal (σ'.clear ps) (kn'.keep ps)
  | .bad, _, _, _ => .fail
  | .seq a b, σ, kn, k => evC VC ps O a σ kn fun e σ' kn' => match e with
    | .normal => evC VC ps O b σ' kn' k
    | .exit id => k (.exit id) σ' kn'
    | .ret => k .ret σ' kn'
  | .cond c a b, σ, kn, k => match c with
    | .t t => match σ.getD t .any with
      | .b y => match kn.get t with
        | some x => bif y == x then (bif x then evC VC ps O a (σ.set t .any) (kn.drop t) k else evC VC ps O b (σ.set t .any) (kn.drop t) k) else .fail
        | none => .ite y (evC VC ps O a (σ.set t .any) kn k) (evC VC ps O b (σ.set t .any) kn k)
      | _ => .fail
    | .k (.b true) => evC VC ps O a σ kn k
    | .k (.b false) => evC VC ps O b σ kn k
    | _ => .fail
  | .block id b, σ, kn, k => match O.loop id σ with
    | some (qs, t) => t.bind fun x => .ob (Exec VC ps (.block id b) (σ.clear qs) x.1 x.2) (k x.1 x.2 [])
    | none => evC VC ps O b σ kn fun e σ' kn' => k (e.inBlock id) σ' kn'
  | .loop _, _, _, _ => .fail
  | .exit id, σ, kn, k => k (.exit id) σ kn
  | .ret, σ, kn, k => k .ret σ kn
end

section
variable {α : Type} {VC : FuncId → List AV → AV → Prop} {O : Orc} {Q : α → Prop} {ps : List Nat}

theorem evOp_ok {m : Md} {s : VStep} {σ : Env} {kn : Kn} {k : AV → Env → Kn → T α} (h : (evOp VC O m s σ kn k).ok Q) :
    ∃ r σ' o kn', stepC VC m s (bif s.kd.isCall then r else .any) σ = some (σ', o) ∧ (s.kd.owes = true → o) ∧ (k r σ' kn').ok Q := by
  unfold evOp at h
  cases hc : s.kd.isCall with
  | true =>
    rw [hc] at h
    simp only [cond_true] at h ⊢
    obtain ⟨r, h⟩ := T.ok_bind h
    split at h
    · rename_i σ' o hst
      exact ⟨r, σ', o, _, hst, fun _ => h.1, h.2 h.1⟩
    · exact h.elim
  | false =>
    rw [hc] at h
    simp only [cond_false] at h ⊢
    split at h
    · rename_i σ' o hst
      cases ho : s.kd.owes with
      | true => rw [ho] at h; exact ⟨.any, σ', o, _, hst, fun _ => h.1, h.2 h.1⟩
      | false => rw [ho] at h; exact ⟨.any, σ', o, _, hst, (fun h => nomatch h), h⟩
    · exact h.elim

theorem set_same {σ : Env} {j : Nat} {v : AV} (h : σ.getD j .any = v) (hv : v ≠ .any) : σ.set j v = σ := by
  apply List.ext_getElem?
  intro i
  rw [List.getElem?_set]
  split
  · rename_i hij; subst hij
    subst h
    split
    · rename_i hl
      simp [List.getD, hl]
    · rename_i hl
      simp [List.getElem?_eq_none (Nat.le_of_not_lt hl)]
  · rfl

theorem runE_cons_run {m : Md} {s : VStep} {l : List VStep} {σ σ1 σ2 : Env} {r : AV} {o : Prop} {rs : List AV} {os : List Prop} (h1 : stepX VC m s (bif s.kd.isCall then r else .any) σ = some (σ1, o)) (h2 : runX VC m l rs σ1 = some (σ2, os)) :
    runX VC m (s :: l) (bif s.kd.isCall then r :: rs else rs) σ = some (σ2, bif s.kd.owes then o :: os else os) := by
  unfold runX
  cases hc : s.kd.isCall with
  | true => rw [hc] at h1; simp only [cond_true, List.headD_cons, List.tail_cons] at h1 ⊢; rw [h1]; simp only [h2]
  | false => rw [hc] at h1; simp only [cond_false] at h1 ⊢; rw [h1]; simp only [h2]

theorem evOps_ok {m : Md} : ∀ {ss : List VStep} {σ : Env} {kn : Kn} {k : Env → Kn → T α}, (evOps VC O m ss σ kn k).ok Q →
    ∃ rs σ' os kn', runX VC m ss rs σ = some (σ', os) ∧ (∀ o, o ∈ os → o) ∧ (k σ' kn').ok Q
  | [], σ, kn, k, h => ⟨[], σ, [], kn, rfl, by simp, h⟩
  | s :: l, σ, kn, k, h => by
    have run : ∀ {m0 : Md} {σ0 : Env} {kn0 : Kn}, (evOp VC O m0 s σ0 kn0 fun _ σ kn => evOps VC O m l σ kn k).ok Q → (∀ r, stepX VC m s r σ0 = stepC VC m0 s r σ0) →
        ∃ rs σ' os kn', runX VC m (s :: l) rs σ0 = some (σ', os) ∧ (∀ o, o ∈ os → o) ∧ (k σ' kn').ok Q := by
      intro m0 σ0 kn0 h hst
      obtain ⟨r, σ1, o, kn1, h1, ho, h2⟩ := evOp_ok h
      obtain ⟨rs, σ2, os, kn2, hr, hos, hk⟩ := evOps_ok h2
      refine ⟨_, σ2, _, kn2, runE_cons_run (r := r) (by rw [hst]; exact h1) hr, ?_, hk⟩
      intro p hp
      cases how : s.kd.owes with
      | true =>
        rw [how] at hp
        simp only [cond_true, List.mem_cons] at hp
        rcases hp with rfl | hp
        · exact ho how
        · exact hos p hp
      | false => rw [how] at hp; exact hos p hp
    have skip : ∀ {σ0 : Env} {kn0 : Kn}, (evOps VC O m l (σ0.put s.dst (.tup [])) kn0 k).ok Q → (∀ r, stepX VC m s r σ0 = some (σ0.put s.dst (.tup []), True)) →
        ∃ rs σ' os kn', runX VC m (s :: l) rs σ0 = some (σ', os) ∧ (∀ o, o ∈ os → o) ∧ (k σ' kn').ok Q := by
      intro σ0 kn0 h hst
      obtain ⟨rs, σ2, os, kn2, hr, hos, hk⟩ := evOps_ok h
      refine ⟨_, σ2, _, kn2, runE_cons_run (r := .any) (hst _) hr, ?_, hk⟩
      intro p hp
      cases how : s.kd.owes with
      | true =>
        rw [how] at hp
        simp only [cond_true, List.mem_cons] at hp
        rcases hp with rfl | hp
        · trivial
        · exact hos p hp
      | false => rw [how] at hp; exact hos p hp
    unfold evOps at h
    split at h
    · rename_i hg
      exact run h (fun r => by unfold stepX stepC stepE; cases m <;> simp only [hg, Option.isNone_none, Bool.and_true, Bool.true_and])
    · rename_i j want hg
      split at h
      · rename_i y hy
        have hE : ∀ r, stepX VC m s r σ = bif y == want then stepC VC .d s r σ else some (σ.put s.dst (.tup []), True) := fun r => by
          unfold stepX stepC stepE; cases m <;> simp only [hg, Option.isNone_some, Bool.and_false, cond_false, Bool.false_and, hy]
        split at h
        · rename_i x hx
          cases hyx : (y == x) with
          | false => rw [hyx] at h; exact h.elim
          | true =>
            rw [hyx] at h
            have : y = x := by simpa using hyx
            subst this
            simp only [cond_true] at h
            cases hw : (y == want) with
            | true => rw [hw] at h; exact run h (fun r => by rw [hE, hw]; rfl)
            | false => rw [hw] at h; exact skip h (fun r => by rw [hE, hw]; rfl)
        · have hset : σ.set j (.b y) = σ := set_same hy (by simp)
          cases y with
          | true =>
            have h := h.1 rfl
            rw [hset] at h
            cases hw : (true == want) with
            | true => rw [hw] at h; exact run h (fun r => by rw [hE, hw]; rfl)
            | false => rw [hw] at h; exact skip h (fun r => by rw [hE, hw]; rfl)
          | false =>
            have h := h.2 rfl
            rw [hset] at h
            cases hw : (false == want) with
            | true => rw [hw] at h; exact run h (fun r => by rw [hE, hw]; rfl)
            | false => rw [hw] at h; exact skip h (fun r => by rw [hE, hw]; rfl)
      · rename_i hy
        exact skip h (fun r => by unfold stepX stepE; cases m <;> simp only [hg, Option.isNone_some, Bool.and_false, Bool.false_and, cond_false, hy])
      · exact h.elim

theorem evC_ok : ∀ {c : VCode} {σ : Env} {kn : Kn} {k : Ex → Env → Kn → T α}, (evC VC ps O c σ kn k).ok Q →
    ∃ e σ' kn', Exec VC ps c σ e σ' ∧ (k e σ' kn').ok Q
  | .skip, σ, kn, k, h => ⟨.normal, σ, kn, .skip, h⟩
  | .region d ss, σ, kn, k, h => by
    cases d with
    | true =>
      unfold evC at h
      split at h
      · obtain ⟨rs, σ', os, kn', hr, hos, hk⟩ := evOps_ok h
        rw [runX_d] at hr
        exact ⟨.normal, _, _, .regionD hr hos, hk⟩
      · rename_i N hN _
        obtain ⟨rs, σ', os, kn', hr, hos, hk⟩ := evOps_ok h
        rcases hN with hN | ⟨iy, N', hN, hq⟩
        · cases hN
        · cases hN
          exact ⟨.normal, _, _, .regionQ hq hr hos, hk⟩
      · exact h.elim
    | false =>
      unfold evC at h
      obtain ⟨rs, σ', os, kn', hr, hos, hk⟩ := evOps_ok h
      exact ⟨.normal, _, _, .region hr hos, hk⟩
  | .bad, σ, kn, k, h => by unfold evC at h; exact h.elim
  | .seq a b, σ, kn, k, h => by
    unfold evC at h
    obtain ⟨e, σ1, kn1, h1, h2⟩ := evC_ok h
    cases e with
    | normal =>
      obtain ⟨e', σ2, kn2, h3, h4⟩ := evC_ok h2
      exact ⟨e', σ2, kn2, .seq h1 h3, h4⟩
    | exit id => exact ⟨.exit id, σ1, kn1, .seqX h1 (by simp), h2⟩
    | ret => exact ⟨.ret, σ1, kn1, .seqX h1 (by simp), h2⟩
  | .cond c a b, σ, kn, k, h => by
    unfold evC at h
    split at h
    · rename_i t
      split at h
      · rename_i y hy
        have goT : y = true → (∃ kn, (evC VC ps O a (σ.set t .any) kn k).ok Q) → ∃ e σ' kn', Exec VC ps (.cond (.t t) a b) σ e σ' ∧ (k e σ' kn').ok Q := by
          rintro rfl ⟨kn, h⟩
          obtain ⟨e, σ1, kn1, h1, h2⟩ := evC_ok h
          exact ⟨e, σ1, kn1, .condT hy h1, h2⟩
        have goF : y = false → (∃ kn, (evC VC ps O b (σ.set t .any) kn k).ok Q) → ∃ e σ' kn', Exec VC ps (.cond (.t t) a b) σ e σ' ∧ (k e σ' kn').ok Q := by
          rintro rfl ⟨kn, h⟩
          obtain ⟨e, σ1, kn1, h1, h2⟩ := evC_ok h
          exact ⟨e, σ1, kn1, .condF hy h1, h2⟩
        split at h
        · rename_i x hx
          cases hyx : (y == x) with
          | false => rw [hyx] at h; exact h.elim
          | true =>
            rw [hyx] at h
            have : y = x := by simpa using hyx
            subst this
            simp only [cond_true] at h
            cases y with
            | true => exact goT rfl ⟨_, h⟩
            | false => exact goF rfl ⟨_, h⟩
        · cases y with
          | true => exact goT rfl ⟨_, h.1 rfl⟩
          | false => exact goF rfl ⟨_, h.2 rfl⟩
      · exact h.elim
    · obtain ⟨e, σ1, kn1, h1, h2⟩ := evC_ok h
      exact ⟨e, σ1, kn1, .condKT h1, h2⟩
    · obtain ⟨e, σ1, kn1, h1, h2⟩ := evC_ok h
      exact ⟨e, σ1, kn1, .condKF h1, h2⟩
    · exact h.elim
  | .block id b, σ, kn, k, h => by
    unfold evC at h
    split at h
    · rename_i qs t _
      obtain ⟨x, h⟩ := T.ok_bind h
      exact ⟨x.1, x.2, [], .forget qs h.1, h.2 h.1⟩
    · obtain ⟨e, σ1, kn1, h1, h2⟩ := evC_ok h
      exact ⟨e.inBlock id, σ1, kn1, .block h1, h2⟩
  | .loop b, σ, kn, k, h => by unfold evC at h; exact h.elim
  | .exit id, σ, kn, k, h => ⟨.exit id, σ, kn, .exit, h⟩
  | .ret, σ, kn, k, h => ⟨.ret, σ, kn, .ret, h⟩

end

/-- a round of a loop: what lives at its head is told (at a return: the results) -/
def evL (VC : FuncId → List AV → AV → Prop) (ps lv rs : List Nat) (O : Orc) (c : VCode) (σ : Env) : T (Ex × Env) :=
  evC VC ps O c σ [] fun e σ' _ => .leaf (e, σ'.clear (match e with | .ret => rs | _ => lv))
theorem evL_ok {VC : FuncId → List AV → AV → Prop} {ps lv rs : List Nat} {O : Orc} {c : VCode} {σ : Env} {Q : Ex × Env → Prop} (h : (evL VC ps lv rs O c σ).ok Q) : ∃ e σ', Exec VC ps c σ e σ' ∧ Q (e, σ') := by
  obtain ⟨e, σ', kn', h1, h2⟩ := evC_ok h
  exact ⟨e, _, .forgetR _ h1, h2⟩
theorem evL_to {VC : FuncId → List AV → AV → Prop} {ps lv rs : List Nat} {O : Orc} {c : VCode} {σ σ' : Env} {e : Ex} (h : (evL VC ps lv rs O c σ).ok (· = (e, σ'))) : Exec VC ps c σ e σ' := by
  obtain ⟨e', σ'', h1, h2⟩ := evL_ok h
  cases h2; exact h1

theorem evL_of {VC : FuncId → List AV → AV → Prop} {ps lv rs : List Nat} {O : Orc} {c : VCode} {σ σ' : Env} {e : Ex} {t : T (Ex × Env)} (h : evL VC ps lv rs O c σ = t) (ht : t.ok (fun x_ => x_ = (e, σ'))) : Exec VC ps c σ e σ' := evL_to (O := O) (lv := lv) (rs := rs) (h ▸ ht)

/-- a loop that goes on m times and then ends -/
theorem for_loop {VC : FuncId → List AV → AV → Prop} {ps : List Nat} {id : Nat} {b : VCode} {e : Ex} {σe : Env} (m : Nat) (st : Nat → Env) (h : ∀ i, i < m → Exec VC ps b (st i) .normal (st (i + 1)))
    (he : Exec VC ps b (st m) e σe) (hne : e ≠ .normal) : Exec VC ps (.block id (.loop b)) (st 0) (e.inBlock id) σe := by
  refine .block ?_
  have : ∀ k i, i + k = m → Exec VC ps (.loop b) (st i) e σe := by
    intro k
    induction k with
    | zero => intro i hi; have : i = m := by omega
              subst this; exact .loopX he hne
    | succ k ih => intro i hi; exact .loopN (h i (by omega)) (ih (i + 1) (by omega))
  exact this m 0 (by omega)
/-! ## A function -/
inductive RV where
  | t (n : Nat)
  | row (n size : Nat)
def resR (P : Program) : ResultVar → Option RV
  | .tmp t => some (.t t)
  | .cell t ty => if isRowT P ty = true then match P.info? ty with | some i => some (.row t i.size) | none => none else none
def outR (σ : Env) : RV → Option AV
  | .t n => some (σ.getD n .any)
  | .row n size => match σ.getD n .any with | .bx _ cells => if cells.length = size then some (.agg cells) else none | _ => none
def outRs (rs : List RV) (σ : Env) : Option AV :=
  match rs with
  | [x] => outR σ x
  | xs => match allSome (xs.map (outR σ)) with | some vs => some (.tup vs) | none => none

/-- FUNCTION f IS this typed code. -/
structure FnIs (P : Program) (f : FuncId) (nt : Nat) (rs : List RV) (vc : VCode) : Prop where
  has : ∃ fn c0, P.funcs[f]? = some fn ∧ fn.body = some c0 ∧ resC P c0 = some vc ∧ allSome (fn.results.toList.map (resR P)) = some rs ∧ fn.ntmps = nt
  len : 0 ≤ rs.length ∧ rs.length ≤ 4
  enter : ∀ (vs : Array Value) (w : World), (callFunc f vs).run P w = .ok (.enter f vs) w

theorem FnIs.of {P : Program} {f : FuncId} {nt : Nat} {rs : List RV} {vc : VCode} {fn : Func} (hf : P.funcs[f]? = some fn) (hb : (match fn.body with | some c0 => resC P c0 | none => none) = some vc)
    (hr : allSome (fn.results.toList.map (resR P)) = some rs) (hn : fn.ntmps = nt) (hl : 0 ≤ rs.length ∧ rs.length ≤ 4) (he : ∀ (vs : Array Value) (w : World), (callFunc f vs).run P w = .ok (.enter f vs) w) : FnIs P f nt rs vc := by
  cases hbody : fn.body with
  | none => rw [hbody] at hb; cases hb
  | some c0 => rw [hbody] at hb; exact ⟨⟨fn, c0, hf, hbody, hb, hr, hn⟩, hl, he⟩

/-- a function's tree: r0 tells the objects of the result -/
def evF (VC : FuncId → List AV → AV → Prop) (nt : Nat) (rs : List RV) (vc : VCode) (ps : List Nat) (r0 : AV) (O : Orc) (args : List AV) : T AV :=
  evC VC ps O vc (startEnv nt args) [] fun e σ _ => match e with
    | .exit _ => .fail
    | .normal => match outRs rs σ with | some v => .leaf (AV.fin r0 v) | none => .fail
    | .ret => match outRs rs σ with | some v => .leaf (AV.fin r0 v) | none => .fail
/-- the same for one that writes its arguments: 'src' tells where they are read at the end -/
def evFM (VC : FuncId → List AV → AV → Prop) (nt : Nat) (rs : List RV) (vc : VCode) (ps : List Nat) (r0 : AV) (src : List Nat) (O : Orc) (args : List AV) : T (AV × List AV) :=
  evC VC ps O vc (startEnv nt args) [] fun e σ _ => match e with
    | .exit _ => .fail
    | _ => match outRs rs σ with
      | some v => match AV.outsL σ src args with
        | some outs => bif v.nms.all (fun n => decide (n < HI)) then .ob (obsAll (AV.outLensL args outs)) (.leaf (AV.fin r0 v, outs)) else .fail
        | none => .fail
      | none => .fail

section
variable {P : Program}
theorem allSome_cons {α : Type} {x : Option α} {l : List (Option α)} {ys : List α} (h : allSome (x :: l) = some ys) : ∃ y ys', x = some y ∧ allSome l = some ys' ∧ ys = y :: ys' := by
  cases x with
  | none => simp [allSome] at h
  | some y =>
    simp only [allSome] at h
    split at h
    · rename_i ys' hy; cases h; exact ⟨y, ys', rfl, hy, rfl⟩
    · cases h
theorem outR_ok {x : ResultVar} {y : RV} {σ : Env} {v : AV} (h : resR P x = some y) (ho : outR σ y = some v) : resOk P σ x = true ∧ resVar P σ x = v := by
  cases x with
  | tmp t => cases h; cases ho; exact ⟨rfl, rfl⟩
  | cell t ty =>
    simp only [resR] at h
    split at h
    · rename_i hrow
      split at h
      · rename_i i hi; cases h
        simp only [outR] at ho
        split at ho
        · rename_i g cells hg
          split at ho
          · rename_i hlen; cases ho
            refine ⟨by simp only [resOk, hg]; simp [hrow, hi, hlen], by simp only [resVar, hg]; simp [hrow, hi, hlen]⟩
          · cases ho
        · cases ho
      · cases h
    · cases h
theorem outRs_ok {xs : List ResultVar} {rs : List RV} {σ : Env} {v : AV} (h : allSome (xs.map (resR P)) = some rs) (ho : outRs rs σ = some v) : xs.length = rs.length ∧ xs.all (resOk P σ) = true ∧ resOut P xs σ = v := by
  have gen : ∀ {xs : List ResultVar} {rs : List RV} {vs : List AV}, allSome (xs.map (resR P)) = some rs → allSome (rs.map (outR σ)) = some vs → xs.length = rs.length ∧ xs.all (resOk P σ) = true ∧ xs.map (resVar P σ) = vs := by
    intro xs
    induction xs with
    | nil => intro rs vs h1 h2; cases h1; cases h2; exact ⟨rfl, rfl, rfl⟩
    | cons x xs ih =>
      intro rs vs h1 h2
      obtain ⟨y, ys, hy, hys, rfl⟩ := allSome_cons h1
      obtain ⟨u, us, hu, hus, rfl⟩ := allSome_cons h2
      obtain ⟨a1, a2, a3⟩ := ih hys hus
      obtain ⟨b1, b2⟩ := outR_ok hy hu
      exact ⟨by simp [a1], by simp [b1, a2], by simp [b2, a3]⟩
  match xs, h with
  | [], h =>
    cases h
    simp only [outRs, List.map_nil, allSome] at ho; cases ho
    exact ⟨rfl, rfl, rfl⟩
  | [x], h =>
    obtain ⟨y, ys, hy, hys, rfl⟩ := allSome_cons h
    cases hys
    obtain ⟨b1, b2⟩ := outR_ok hy ho
    exact ⟨rfl, by simp [b1], by simp [resOut, b2]⟩
  | x :: x' :: xs, h =>
    obtain ⟨y, ys, hy, hys, rfl⟩ := allSome_cons h
    obtain ⟨y', ys', hy', hys', rfl⟩ := allSome_cons hys
    simp only [outRs] at ho
    split at ho
    · rename_i vs hvs; cases ho
      obtain ⟨a1, a2, a3⟩ := gen h hvs
      exact ⟨a1, a2, by simp only [resOut]; rw [a3]⟩
    · cases ho

/-- FROM THE TREE TO THE CONTRACT -/
theorem FnIs.call {f : FuncId} {nt : Nat} {rs : List RV} {vc : VCode} (h : FnIs P f nt rs vc) (ps : List Nat) (O : Orc) {args : List AV} {r : AV} (ht : (evF (VCall P) nt rs vc ps r O args).ok (· = r)) (hM : r.isM = false := by rfl) : VCall P f args r := by
  obtain ⟨fn, c0, hf, hb, hc, hr, hn⟩ := h.has
  subst hn
  obtain ⟨e, σ', kn', hrun, hk⟩ := evC_ok ht
  have key : (e = .normal ∨ e = .ret) ∧ ∃ v, outRs rs σ' = some v ∧ AV.fin r v = r := by
    cases e with
    | exit id => exact hk.elim
    | normal =>
      simp only at hk
      split at hk
      · rename_i v hv; exact ⟨.inl rfl, v, hv, hk⟩
      · exact hk.elim
    | ret =>
      simp only at hk
      split at hk
      · rename_i v hv; exact ⟨.inr rfl, v, hv, hk⟩
      · exact hk.elim
  obtain ⟨he, v, hv, hvr⟩ := key
  obtain ⟨a1, a2, a3⟩ := outRs_ok hr hv
  exact vcall_of_exec (rs := fn.results.toList) hf hb hc (by simp) (by rw [a1]; exact h.len) h.enter he hrun a2 (by rw [a3]; exact hvr) hM
theorem FnIs.call_of {f : FuncId} {nt : Nat} {rs : List RV} {vc : VCode} (h : FnIs P f nt rs vc) (ps : List Nat) (O : Orc) {args : List AV} {r : AV} {t : T AV} (e : evF (VCall P) nt rs vc ps r O args = t) (ht : t.ok (fun x_ => x_ = r)) (hM : r.isM = false := by rfl) : VCall P f args r :=
  h.call ps O (e ▸ ht) hM
theorem FnIs.callM {f : FuncId} {nt : Nat} {rs : List RV} {vc : VCode} (h : FnIs P f nt rs vc) (ps src : List Nat) (O : Orc) {args : List AV} {r : AV} {outs : List AV}
    (ht : (evFM (VCall P) nt rs vc ps r src O args).ok (· = (r, outs))) : VCall P f args (AV.M r outs) := by
  obtain ⟨fn, c0, hf, hb, hc, hr, hn⟩ := h.has
  subst hn
  obtain ⟨e, σ', kn', hrun, hk⟩ := evC_ok ht
  have key : (e = .normal ∨ e = .ret) ∧ ∃ v, outRs rs σ' = some v ∧ AV.fin r v = r ∧ AV.outsL σ' src args = some outs ∧ obsAll (AV.outLensL args outs) ∧ ∀ n, n ∈ v.nms → n < HI := by
    have gen : ∀ {t : T (AV × List AV)}, t.ok (· = (r, outs)) → (t = match outRs rs σ' with
      | some v => match AV.outsL σ' src args with
        | some outs => bif v.nms.all (fun n => decide (n < HI)) then .ob (obsAll (AV.outLensL args outs)) (.leaf (AV.fin r v, outs)) else .fail
        | none => .fail
      | none => .fail) → ∃ v, outRs rs σ' = some v ∧ AV.fin r v = r ∧ AV.outsL σ' src args = some outs ∧ obsAll (AV.outLensL args outs) ∧ ∀ n, n ∈ v.nms → n < HI := by
      intro t ht he
      subst he
      split at ht
      · rename_i v hv
        split at ht
        · rename_i outs' ho
          cases hb : v.nms.all (fun n => decide (n < HI)) with
          | false => rw [hb] at ht; exact ht.elim
          | true =>
            rw [hb] at ht
            have h2 := ht.2 ht.1
            simp only [T.ok, Prod.mk.injEq] at h2
            obtain ⟨h2, rfl⟩ := h2
            refine ⟨v, hv, h2, ho, ht.1, fun n hn => ?_⟩
            have := (List.all_eq_true.1 hb) n hn
            simpa using this
        · exact ht.elim
      · exact ht.elim
    cases e with
    | exit id => exact hk.elim
    | normal => exact ⟨.inl rfl, gen hk rfl⟩
    | ret => exact ⟨.inr rfl, gen hk rfl⟩
  obtain ⟨he, v, hv, hvr, ho, hol, hlo⟩ := key
  obtain ⟨a1, a2, a3⟩ := outRs_ok hr hv
  exact vcallM_of_exec (rs := fn.results.toList) hf hb hc (by simp) (by rw [a1]; exact h.len) h.enter he hrun a2 (by rw [a3]; exact hvr) (by rw [a3]; exact hlo) ho hol
theorem FnIs.callM_of {f : FuncId} {nt : Nat} {rs : List RV} {vc : VCode} (h : FnIs P f nt rs vc) (ps src : List Nat) (O : Orc) {args : List AV} {r : AV} {outs : List AV} {t : T (AV × List AV)}
    (e : evFM (VCall P) nt rs vc ps r src O args = t) (ht : t.ok (fun x_ => x_ = (r, outs))) : VCall P f args (AV.M r outs) := h.callM ps src O (e ▸ ht)
end
end Go.Proofs.LV
