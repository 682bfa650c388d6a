/- Regions in the order of the text. -/
import Derived.Test.YtdffgjembkanoaaLvMut
import Derived.LoopN
namespace Go.Proofs.LV
open Go Go.RowKit
set_option linter.unusedVariables false
set_option linter.unusedSimpArgs false

/-- may the operation owe anything? -/
def K.owes : K → Bool
  | .mv => false
  | .pick => false
  | .binb _ => false
  | .not => false
  | .neg => false
  | .faddr _ => false
  | .load => false
  | .loadN _ => false
  | .alloc _ => false
  | .lit _ _ => false
  | .nilsl _ => false
  | .len => false
  | .extract _ => false
  | .nilck => false
  | .max => false
  | .min => false
  | .cplx => false
  | .re => false
  | .im => false
  | .mkfn _ => false
  | .build _ _ => false
  | .bin .quo => true
  | .bin .rem => true
  | .bin .shr => true
  | .bin _ => false
  | _ => true
def K.isCall : K → Bool
  | .call _ => true
  | .callv => true
  | _ => false

/-- a region, in the order of the text. 'rs': what its calls are said to give, in order -/
def runE (VC : FuncId → List AV → AV → Prop) : List VStep → List AV → Env → Option (Env × List Prop)
  | [], _, σ => some (σ, [])
  | s :: l, rs, σ =>
    match stepE VC s (bif s.kd.isCall then rs.headD .any else .any) σ with
    | some (σ', o) => match runE VC l (bif s.kd.isCall then rs.tail else rs) σ' with
      | some (σ'', os) => some (σ'', bif s.kd.owes then o :: os else os)
      | none => none
    | none => none
/-- how a region is run: in any order (d), in the text's order (t), in any order with one call that writes objects of N alone (q) -/
inductive Md where
  | d
  | t
  | q (N : List Nat)
/-- an operation, in such a run -/
def stepX (VC : FuncId → List AV → AV → Prop) (m : Md) (s : VStep) (r : AV) (σ : Env) : Option (Env × Prop) :=
  match m with
  | .d => stepE VC s r σ
  | .t => bif r.isM && s.guard.isNone then (bif isMR s σ then stepMR VC s r σ else stepM VC s r σ) else bif s.guard.isNone && isRA s σ then stepRA s σ else stepE VC s r σ
  | .q N => bif r.isM && s.guard.isNone then (bif (mnames s σ).all (fun n => N.contains n) then stepM VC s r σ else none) else stepE VC s r σ
def runX (VC : FuncId → List AV → AV → Prop) (m : Md) : List VStep → List AV → Env → Option (Env × List Prop)
  | [], _, σ => some (σ, [])
  | s :: l, rs, σ =>
    match stepX VC m s (bif s.kd.isCall then rs.headD .any else .any) σ with
    | some (σ', o) => match runX VC m l (bif s.kd.isCall then rs.tail else rs) σ' with
      | some (σ'', os) => some (σ'', bif s.kd.owes then o :: os else os)
      | none => none
    | none => none
theorem runX_d {VC : FuncId → List AV → AV → Prop} : ∀ (ss : List VStep) (rs : List AV) (σ : Env), runX VC .d ss rs σ = runE VC ss rs σ
  | [], rs, σ => rfl
  | s :: l, rs, σ => by
    unfold runX runE
    simp only [stepX]
    split
    · rename_i σ' o h; rw [runX_d l]
    · rfl
def clearFrom (ps : List Nat) : Nat → List AV → List AV
  | _, [] => []
  | j, v :: r => (bif ps.contains j then v else .any) :: clearFrom ps (j + 1) r
def Env.clear (ps : List Nat) (σ : Env) : Env := clearFrom ps 0 σ

theorem owes_bin {op : BinOp} {x y v : AV} {ob : Prop} (h : (K.bin op).owes = false) (he : bin op x y = some (v, ob)) : ob := by
  cases op <;> simp only [K.owes] at h <;> try cases h
  all_goals
    unfold bin at he
    split at he <;> first | (simp at *; done) | (split at he <;> cases he; trivial) | cases he
theorem owes_evalK {d : Nat} {k : K} {vs : List AV} {v : AV} {ns : List Nat} {ob : Prop} (h : k.owes = false) (he : evalK d k vs = some (v, ns, ob)) : ob := by
  cases k <;> simp only [K.owes] at h <;> (try cases h) <;> simp only [evalK] at he
  case mv => unfold eMv at he; split at he <;> cases he; trivial
  case pick => unfold ePick at he; split at he <;> cases he; trivial
  case bin op =>
    unfold eBin at he
    split at he
    · split at he <;> cases he
      rename_i hb
      exact owes_bin h hb
    · cases he
  case binb op => unfold eBinb at he; split at he <;> (try cases he); split at he <;> cases he; trivial
  case not => unfold eNot at he; split at he <;> cases he; trivial
  case neg => unfold eNeg at he; split at he <;> cases he <;> trivial
  case faddr => unfold eFaddr at he; split at he <;> (try cases he); split at he <;> cases he; trivial
  case load => unfold eLoad at he; split at he <;> cases he <;> trivial
  case loadN => unfold eLoadN at he; split at he <;> (try cases he); split at he <;> cases he; trivial
  case alloc => unfold eAlloc at he; split at he <;> cases he; trivial
  case lit => unfold eLit at he; (repeat' split at he) <;> cases he <;> trivial
  case nilsl => unfold eNilsl at he; split at he <;> cases he; trivial
  case len => unfold eLen at he; split at he <;> cases he <;> trivial
  case extract => unfold eExtract at he; split at he <;> (try cases he); split at he <;> cases he; trivial
  case nilck => unfold eNilck at he; split at he <;> cases he; trivial
  case max => unfold eMax at he; split at he <;> (try cases he) <;> split at he <;> cases he <;> trivial
  case min => unfold eMin at he; split at he <;> (try cases he) <;> split at he <;> cases he <;> trivial
  case cplx => unfold eCplx at he; split at he <;> (try cases he); split at he <;> cases he; trivial
  case re => unfold eRe at he; split at he <;> cases he; trivial
  case im => unfold eIm at he; split at he <;> cases he; trivial
  case mkfn => cases he; trivial
  case build => unfold eBuild at he; split at he <;> cases he; trivial

theorem owes_stepW {VC : FuncId → List AV → AV → Prop} {s : VStep} {r : AV} {σ σ' : Env} {ob : Prop} (h : s.kd.owes = false) (he : stepW VC s r σ = some (σ', ob)) : ob := by
  unfold stepW at he
  generalize s.kd = kd at h he
  split at he
  · simp [K.owes] at h
  · simp [K.owes] at h
  · simp [K.owes] at h
  · simp [K.owes] at h
  · simp [K.owes] at h
  · simp [K.owes] at h
  · simp [K.owes] at h
  · simp [K.owes] at h
  · simp [K.owes] at h
  · split at he <;> cases he
    rename_i hev
    exact owes_evalK h hev
theorem owes_stepE {VC : FuncId → List AV → AV → Prop} {s : VStep} {r : AV} {σ σ' : Env} {ob : Prop} (h : s.kd.owes = false) (he : stepE VC s r σ = some (σ', ob)) : ob := by
  unfold stepE at he
  split at he
  · exact owes_stepW h he
  · split at he
    · rename_i x _
      cases hx : (x == _) with
      | true => rw [hx] at he; exact owes_stepW h he
      | false => rw [hx] at he; simp at he; exact he.2
    · cases he; trivial
    · cases he

section
variable {P : Program} {C : Ctx} {VC : FuncId → List AV → AV → Prop}

/-- one operation of a region, with its guard -/
theorem stepE_ok (hVC : ∀ f args r, VC f args r → VCall P f args r) {ops : Array Oper} {o : Oper} {s : VStep} (hres : resOp P ops o = some s) {G : Gh} {σ σ' : Env} {a : Act} {w : World} (hs : Sim C G σ a w) {r : AV} {ob : Prop}
    (he : stepE VC s r σ = some (σ', ob)) (hob : ob) {K : Act → World → Prop} {Q : Exit → Act → World → Prop} (hK : ∀ a' w' G', Sim C G' σ' a' w' → K a' w') :
    if Region.wanted o (yielded ops a.tmps) then o.wp P a w K Q else K (a.put o.dst undef) w := by
  obtain ⟨xs, hk, ho, hg, hd, _⟩ := resOp_inv hres
  unfold stepE at he
  unfold resG at hg
  split at hg
  · rename_i hguard
    simp only [Option.some.injEq] at hg
    rw [← hg] at he
    simp only [Region.wanted, hguard, if_true]
    exact stepW_ok hVC hres hs he hob hK
  · rename_i j want hguard
    split at hg <;> simp only [Option.some.injEq, reduceCtorEq] at hg
    rename_i d hdst
    rw [← hg] at he
    simp only at he
    have hsd := hs.ev d
    split at he
    · rename_i x hx
      rw [hx] at hsd
      have hv : a.tmps.getD d undef = .bool x := hsd
      have hy : yielded ops a.tmps j = some x := by
        have hlt : d < a.tmps.size := by
          rcases Nat.lt_or_ge d a.tmps.size with h | h
          · exact h
          · simp [Array.getD, Nat.not_lt.2 h, undef] at hv
        have : a.tmps[d]? = some (.bool x) := by
          simp only [Array.getD, hlt, dite_true] at hv
          rw [Array.getElem?_eq_getElem hlt, ← hv]; rfl
        simp [yielded, hdst, this]
      cases hxw : (x == want) with
      | true =>
        rw [hxw] at he
        have : x = want := by simpa using hxw
        subst this
        simp only [Region.wanted, hguard, hy, beq_self_eq_true, if_true]
        exact stepW_ok hVC hres hs he hob hK
      | false =>
        rw [hxw] at he
        simp only [cond_false, Option.some.injEq, Prod.mk.injEq] at he
        have hne : (some x == some want) = false := by simpa using hxw
        simp only [Region.wanted, hguard, hy, hne, Bool.false_eq_true, if_false]
        rw [← hd]
        refine hK _ _ G ?_
        rw [← he.1]
        exact hs.skip _
    · rename_i hx
      rw [hx] at hsd
      obtain ⟨vs, hv, hl⟩ := hsd
      have hv0 : vs.toList = [] := by simpa [VL] using hl
      have hv : a.tmps.getD d undef = .tuple vs := hv
      have hy : yielded ops a.tmps j ≠ some want := by
        intro h
        simp only [yielded, hdst, Option.bind_some] at h
        split at h
        · rename_i b' hb
          have : a.tmps.getD d undef = .bool b' := by simp [Array.getD_eq_getD_getElem?, hb]
          rw [hv] at this; cases this
        · cases h
      simp only [Option.some.injEq, Prod.mk.injEq] at he
      have hne : (yielded ops a.tmps j == some want) = false := by simpa using hy
      simp only [Region.wanted, hguard, hne, Bool.false_eq_true, if_false]
      rw [← hd]
      refine hK _ _ G ?_
      rw [← he.1]
      exact hs.skip _
    · cases he

theorem clearFrom_len (ps : List Nat) : ∀ (j : Nat) (σ : List AV), (clearFrom ps j σ).length = σ.length
  | _, [] => rfl
  | j, v :: r => by simp [clearFrom, clearFrom_len ps (j + 1) r]
theorem clearFrom_get (ps : List Nat) : ∀ (σ : List AV) (j s : Nat), (clearFrom ps j σ).getD s .any = .any ∨ (clearFrom ps j σ).getD s .any = σ.getD s .any
  | [], j, s => .inl (by simp [clearFrom])
  | v :: r, j, 0 => by
    simp only [clearFrom, List.getD_cons_zero]
    cases ps.contains j
    · exact .inl rfl
    · exact .inr rfl
  | v :: r, j, s + 1 => by simpa only [clearFrom, List.getD_cons_succ] using clearFrom_get ps r (j + 1) s
theorem Sim.clear {G : Gh} {σ : Env} {a : Act} {w : World} (hs : Sim C G σ a w) (ps : List Nat) : Sim C G (σ.clear ps) a w := by
  refine ⟨hs.g, hs.defers, by simpa [Env.clear, clearFrom_len] using hs.size, fun s hsl => ?_, hs.hi⟩
  rcases clearFrom_get ps σ 0 s with h | h
  · show VR G w ((clearFrom ps 0 σ).getD s .any) _
    rw [h]; simp [VR]
  · show VR G w ((clearFrom ps 0 σ).getD s .any) _
    rw [h]; exact hs.ev s

theorem stepX_ok (hVC : ∀ f args r, VC f args r → VCall P f args r) {m : Md} {ops : Array Oper} {o : Oper} {s : VStep} (hres : resOp P ops o = some s) {G : Gh} {σ σ' : Env} {a : Act} {w : World} (hs : Sim C G σ a w) {r : AV} {ob : Prop}
    (he : stepX VC m s r σ = some (σ', ob)) (hob : ob) {K : Act → World → Prop} {Q : Exit → Act → World → Prop} (hK : ∀ a' w' G', Sim C G' σ' a' w' → K a' w') :
    if Region.wanted o (yielded ops a.tmps) then o.wp P a w K Q else K (a.put o.dst undef) w := by
  have unguarded : s.guard = none → o.guard = none := by
    intro h
    obtain ⟨xs, hk, ho, hg, hd, _⟩ := resOp_inv hres
    rw [h] at hg
    unfold resG at hg
    split at hg
    · assumption
    · split at hg <;> cases hg
  cases m with
  | d => exact stepE_ok hVC hres hs he hob hK
  | t =>
    simp only [stepX] at he
    cases hc : r.isM && s.guard.isNone with
    | false =>
      rw [hc] at he
      simp only [cond_false] at he
      cases hc2 : s.guard.isNone && isRA s σ with
      | false => rw [hc2] at he; exact stepE_ok hVC hres hs he hob hK
      | true =>
        rw [hc2] at he
        simp only [cond_true] at he
        simp only [Bool.and_eq_true, Option.isNone_iff_eq_none] at hc2
        simp only [Region.wanted, unguarded hc2.1, if_true]
        exact stepRA_ok hres hs he hob hK
    | true =>
      rw [hc] at he
      simp only [cond_true] at he
      simp only [Bool.and_eq_true, Option.isNone_iff_eq_none] at hc
      simp only [Region.wanted, unguarded hc.2, if_true]
      cases hr : isMR s σ with
      | true => rw [hr] at he; exact stepMR_ok hVC hres hs he hob hK
      | false => rw [hr] at he; exact stepM_ok hVC hres hs he hob hK
  | q N =>
    simp only [stepX] at he
    cases hc : r.isM && s.guard.isNone with
    | false => rw [hc] at he; exact stepE_ok hVC hres hs he hob hK
    | true =>
      rw [hc] at he
      simp only [cond_true] at he
      simp only [Bool.and_eq_true, Option.isNone_iff_eq_none] at hc
      simp only [Region.wanted, unguarded hc.2, if_true]
      cases hr : (mnames s σ).all (fun n => N.contains n) with
      | true => rw [hr] at he; exact stepM_ok hVC hres hs he hob hK
      | false => rw [hr] at he; cases he
theorem owes_stepM {s : VStep} {r : AV} {σ σ' : Env} {ob : Prop} (h : s.kd.owes = false) (he : stepM VC s r σ = some (σ', ob)) : ob := by
  unfold stepM at he
  split at he
  · rename_i hkd; rw [hkd] at h; simp [K.owes] at h
  · cases he
theorem owes_stepX {m : Md} {s : VStep} {r : AV} {σ σ' : Env} {ob : Prop} (h : s.kd.owes = false) (he : stepX VC m s r σ = some (σ', ob)) : ob := by
  cases m with
  | d => exact owes_stepE h he
  | t =>
    simp only [stepX] at he
    cases hc : r.isM && s.guard.isNone with
    | false =>
      rw [hc] at he
      simp only [cond_false] at he
      cases hc2 : s.guard.isNone && isRA s σ with
      | false => rw [hc2] at he; exact owes_stepE h he
      | true =>
        rw [hc2] at he
        simp only [cond_true] at he
        unfold stepRA at he
        split at he
        · rename_i hkd _; rw [hkd] at h; simp [K.owes] at h
        · rename_i hkd _; rw [hkd] at h; simp [K.owes] at h
        · rename_i hkd _; rw [hkd] at h; simp [K.owes] at h
        · (repeat' split at he) <;> cases he <;> trivial
        · cases he
    | true =>
      rw [hc] at he
      simp only [cond_true] at he
      cases hr : isMR s σ with
      | true =>
        rw [hr] at he
        simp only [cond_true] at he
        unfold stepMR at he
        split at he
        · rename_i hkd _; rw [hkd] at h; simp [K.owes] at h
        · cases he
      | false => rw [hr] at he; exact owes_stepM h he
  | q N =>
    simp only [stepX] at he
    cases hc : r.isM && s.guard.isNone with
    | false => rw [hc] at he; exact owes_stepE h he
    | true =>
      rw [hc] at he
      simp only [cond_true] at he
      cases hr : (mnames s σ).all (fun n => N.contains n) with
      | true => rw [hr] at he; exact owes_stepM h he
      | false => rw [hr] at he; cases he

theorem wpList_run (hVC : ∀ f args r, VC f args r → VCall P f args r) {m : Md} {ops : Array Oper} {Q : Exit → Act → World → Prop} : ∀ (l : List Oper) (ss : List VStep) (rs : List AV) {G : Gh} {σ σ' : Env} {a : Act} {w : World} {os : List Prop},
    allSome (l.map (resOp P ops)) = some ss → Sim C G σ a w → runX VC m ss rs σ = some (σ', os) → (∀ p, p ∈ os → p) → (∀ a' w' G', Sim C G' σ' a' w' → Q .normal a' w') → wpList P ops Q l a w
  | [], ss, rs, G, σ, σ', a, w, os, hss, hs, hr, hos, hQ => by
    simp only [List.map_nil, allSome] at hss; cases hss
    simp only [runX] at hr; cases hr
    exact hQ _ _ _ hs
  | o :: l, ss, rs, G, σ, σ', a, w, os, hss, hs, hr, hos, hQ => by
    simp only [List.map_cons, allSome] at hss
    cases ho : resOp P ops o with
    | none => simp [ho, allSome] at hss
    | some s =>
      simp only [ho, allSome] at hss
      cases hl : allSome (l.map (resOp P ops)) with
      | none => simp [hl] at hss
      | some ss' =>
        simp [hl] at hss; subst hss
        simp only [runX] at hr
        split at hr
        · rename_i σ1 o1 h1
          split at hr
          · rename_i σ2 os2 h2
            simp only [Option.some.injEq, Prod.mk.injEq] at hr
            obtain ⟨rfl, rfl⟩ := hr
            have hob : o1 := by
              cases howes : s.kd.owes with
              | false => exact owes_stepX howes h1
              | true => exact hos o1 (by simp [howes])
            refine wpList_step fun K hK => ?_
            refine stepX_ok hVC ho hs h1 hob (fun a' w' G' hs' => hK _ _ ?_)
            exact wpList_run hVC l ss' _ hl hs' h2 (fun p hp => hos p (by cases howes : s.kd.owes <;> simp [hp])) hQ
          · cases hr
        · cases hr
end
end Go.Proofs.LV
