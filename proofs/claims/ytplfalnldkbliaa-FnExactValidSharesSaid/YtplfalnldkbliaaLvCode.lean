/- Regions in the order of the text, and whole bodies: big-step runs of the typed code, and what they say of the program's code. -/
import Derived.Test.YtplfalnldkbliaaLvReg
import Derived.LoopN
namespace Go.Proofs.LV
open Go Go.RowKit
set_option linter.unusedVariables false
set_option linter.unusedSimpArgs false

/-- may the operation owe anything? -/
def K.owes : K → Bool
  | .mv => false
  | .pick => false
  | .binb _ => false
  | .not => false
  | .neg => false
  | .faddr _ => false
  | .load => false
  | .loadN _ => false
  | .alloc _ => false
  | .lit _ _ => false
  | .nilsl _ => false
  | .len => false
  | .extract _ => false
  | .nilck => false
  | .max => false
  | .min => false
  | .cplx => false
  | .re => false
  | .im => false
  | .mkfn _ => false
  | .bin .quo => true
  | .bin .rem => true
  | .bin _ => false
  | _ => true
def K.isCall : K → Bool
  | .call _ => true
  | .callv => true
  | _ => false

/-- a region, in the order of the text. 'rs': what its calls are said to give, in order -/
def runE (VC : FuncId → List AV → AV → Prop) : List VStep → List AV → Env → Option (Env × List Prop)
  | [], _, σ => some (σ, [])
  | s :: l, rs, σ =>
    match stepE VC s (bif s.kd.isCall then rs.headD .any else .any) σ with
    | some (σ', o) => match runE VC l (bif s.kd.isCall then rs.tail else rs) σ' with
      | some (σ'', os) => some (σ'', bif s.kd.owes then o :: os else os)
      | none => none
    | none => none
def Env.clear (ps : List Nat) (σ : Env) : Env := σ.mapIdx fun j v => if ps.contains j then v else .any

theorem owes_bin {op : BinOp} {x y v : AV} {ob : Prop} (h : (K.bin op).owes = false) (he : bin op x y = some (v, ob)) : ob := by
  cases op <;> simp only [K.owes] at h <;> try cases h
  all_goals
    unfold bin at he
    split at he <;> first | (simp at *; done) | (split at he <;> cases he; trivial) | cases he
theorem owes_evalK {d : Nat} {k : K} {vs : List AV} {v : AV} {ns : List Nat} {ob : Prop} (h : k.owes = false) (he : evalK d k vs = some (v, ns, ob)) : ob := by
  cases k <;> simp only [K.owes] at h <;> (try cases h) <;> simp only [evalK] at he
  case mv => unfold eMv at he; split at he <;> cases he; trivial
  case pick => unfold ePick at he; split at he <;> cases he; trivial
  case bin op =>
    unfold eBin at he
    split at he
    · split at he <;> cases he
      rename_i hb
      exact owes_bin h hb
    · cases he
  case binb op => unfold eBinb at he; split at he <;> (try cases he); split at he <;> cases he; trivial
  case not => unfold eNot at he; split at he <;> cases he; trivial
  case neg => unfold eNeg at he; split at he <;> cases he <;> trivial
  case faddr => unfold eFaddr at he; split at he <;> (try cases he); split at he <;> cases he; trivial
  case load => unfold eLoad at he; split at he <;> cases he <;> trivial
  case loadN => unfold eLoadN at he; split at he <;> (try cases he); split at he <;> cases he; trivial
  case alloc => unfold eAlloc at he; split at he <;> cases he; trivial
  case lit => unfold eLit at he; split at he <;> cases he; trivial
  case nilsl => unfold eNilsl at he; split at he <;> cases he; trivial
  case len => unfold eLen at he; split at he <;> cases he; trivial
  case extract => unfold eExtract at he; split at he <;> (try cases he); split at he <;> cases he; trivial
  case nilck => unfold eNilck at he; split at he <;> cases he; trivial
  case max => unfold eMax at he; split at he <;> (try cases he) <;> split at he <;> cases he <;> trivial
  case min => unfold eMin at he; split at he <;> (try cases he); split at he <;> cases he; trivial
  case cplx => unfold eCplx at he; split at he <;> (try cases he); split at he <;> cases he; trivial
  case re => unfold eRe at he; split at he <;> cases he; trivial
  case im => unfold eIm at he; split at he <;> cases he; trivial
  case mkfn => cases he; trivial

theorem owes_stepW {VC : FuncId → List AV → AV → Prop} {s : VStep} {r : AV} {σ σ' : Env} {ob : Prop} (h : s.kd.owes = false) (he : stepW VC s r σ = some (σ', ob)) : ob := by
  unfold stepW at he
  generalize s.kd = kd at h he
  split at he
  · simp [K.owes] at h
  · simp [K.owes] at h
  · simp [K.owes] at h
  · simp [K.owes] at h
  · simp [K.owes] at h
  · split at he <;> cases he
    rename_i hev
    exact owes_evalK h hev
theorem owes_stepE {VC : FuncId → List AV → AV → Prop} {s : VStep} {r : AV} {σ σ' : Env} {ob : Prop} (h : s.kd.owes = false) (he : stepE VC s r σ = some (σ', ob)) : ob := by
  unfold stepE at he
  split at he
  · exact owes_stepW h he
  · split at he
    · rename_i x _
      cases hx : (x == _) with
      | true => rw [hx] at he; exact owes_stepW h he
      | false => rw [hx] at he; simp at he; exact he.2
    · cases he

section
variable {P : Program} {C : Ctx} {VC : FuncId → List AV → AV → Prop}

/-- one operation of a region, with its guard -/
theorem stepE_ok (hVC : ∀ f args r, VC f args r → VCall P f args r) {ops : Array Oper} {o : Oper} {s : VStep} (hres : resOp P ops o = some s) {G : Gh} {σ σ' : Env} {a : Act} {w : World} (hs : Sim C G σ a w) {r : AV} {ob : Prop}
    (he : stepE VC s r σ = some (σ', ob)) (hob : ob) {K : Act → World → Prop} {Q : Exit → Act → World → Prop} (hK : ∀ a' w' G', Sim C G' σ' a' w' → K a' w') :
    if Region.wanted o (yielded ops a.tmps) then o.wp P a w K Q else K (a.put o.dst undef) w := by
  obtain ⟨xs, hk, ho, hg, hd⟩ := resOp_inv hres
  unfold stepE at he
  unfold resG at hg
  split at hg
  · rename_i hguard
    simp only [Option.some.injEq] at hg
    rw [← hg] at he
    simp only [Region.wanted, hguard, if_true]
    exact stepW_ok hVC hres hs he hob hK
  · rename_i j want hguard
    split at hg <;> simp only [Option.some.injEq, reduceCtorEq] at hg
    rename_i d hdst
    rw [← hg] at he
    simp only at he
    have hsd := hs.ev d
    split at he
    · rename_i x hx
      rw [hx] at hsd
      have hv : a.tmps.getD d undef = .bool x := hsd
      have hy : yielded ops a.tmps j = some x := by
        have hlt : d < a.tmps.size := by
          rcases Nat.lt_or_ge d a.tmps.size with h | h
          · exact h
          · simp [Array.getD, Nat.not_lt.2 h, undef] at hv
        have : a.tmps[d]? = some (.bool x) := by
          simp only [Array.getD, hlt, dite_true] at hv
          rw [Array.getElem?_eq_getElem hlt, ← hv]; rfl
        simp [yielded, hdst, this]
      cases hxw : (x == want) with
      | true =>
        rw [hxw] at he
        have : x = want := by simpa using hxw
        subst this
        simp only [Region.wanted, hguard, hy, beq_self_eq_true, if_true]
        exact stepW_ok hVC hres hs he hob hK
      | false =>
        rw [hxw] at he
        simp only [cond_false, Option.some.injEq, Prod.mk.injEq] at he
        have hne : (some x == some want) = false := by simpa using hxw
        simp only [Region.wanted, hguard, hy, hne, Bool.false_eq_true, if_false]
        rw [← hd]
        refine hK _ _ G ?_
        rw [← he.1]
        exact hs.forget _ _
    · cases he

theorem Sim.clear {G : Gh} {σ : Env} {a : Act} {w : World} (hs : Sim C G σ a w) (ps : List Nat) : Sim C G (σ.clear ps) a w := by
  refine ⟨hs.g, hs.defers, by simpa [Env.clear] using hs.size, fun s hsl => ?_⟩
  have hsl' : s < σ.length := by simpa [Env.clear] using hsl
  have : (σ.clear ps).getD s .any = if ps.contains s then σ.getD s .any else .any := by
    simp [Env.clear, List.getD, List.getElem?_mapIdx, hsl']
  rw [this]
  split
  · exact hs.ev s
  · simp [VR]

theorem wpList_run (hVC : ∀ f args r, VC f args r → VCall P f args r) {ops : Array Oper} {Q : Exit → Act → World → Prop} : ∀ (l : List Oper) (ss : List VStep) (rs : List AV) {G : Gh} {σ σ' : Env} {a : Act} {w : World} {os : List Prop},
    allSome (l.map (resOp P ops)) = some ss → Sim C G σ a w → runE VC ss rs σ = some (σ', os) → (∀ p, p ∈ os → p) → (∀ a' w' G', Sim C G' σ' a' w' → Q .normal a' w') → wpList P ops Q l a w
  | [], ss, rs, G, σ, σ', a, w, os, hss, hs, hr, hos, hQ => by
    simp only [List.map_nil, allSome] at hss; cases hss
    simp only [runE] at hr; cases hr
    exact hQ _ _ _ hs
  | o :: l, ss, rs, G, σ, σ', a, w, os, hss, hs, hr, hos, hQ => by
    simp only [List.map_cons, allSome] at hss
    cases ho : resOp P ops o with
    | none => simp [ho, allSome] at hss
    | some s =>
      simp only [ho, allSome] at hss
      cases hl : allSome (l.map (resOp P ops)) with
      | none => simp [hl] at hss
      | some ss' =>
        simp [hl] at hss; subst hss
        simp only [runE] at hr
        split at hr
        · rename_i σ1 o1 h1
          split at hr
          · rename_i σ2 os2 h2
            simp only [Option.some.injEq, Prod.mk.injEq] at hr
            obtain ⟨rfl, rfl⟩ := hr
            have hob : o1 := by
              cases howes : s.kd.owes with
              | false => exact owes_stepE howes h1
              | true => exact hos o1 (by simp [howes])
            refine wpList_step fun K hK => ?_
            refine stepE_ok hVC ho hs h1 hob (fun a' w' G' hs' => hK _ _ ?_)
            exact wpList_run hVC l ss' _ hl hs' h2 (fun p hp => hos p (by cases howes : s.kd.owes <;> simp [hp])) hQ
          · cases hr
        · cases hr
end

/-! ## Code -/
def resC (P : Program) : Code → Option VCode
  | .skip => some .skip
  | .region _ ops d => if d then none else match allSome (ops.toList.map (resOp P ops)) with | some ss => some (.region false ss) | none => none
  | .seq a b => match resC P a, resC P b with | some x, some y => some (.seq x y) | _, _ => none
  | .cond c a b => match c, resC P a, resC P b with | .tmp t, some x, some y => some (.cond (.t t) x y) | _, _, _ => none
  | .block id b => match resC P b with | some x => some (.block id x) | none => none
  | .loop b => match resC P b with | some x => some (.loop x) | none => none
  | .exit id => some (.exit id)
  | .ret => some .ret
  | _ => none

inductive Ex where
  | normal
  | exit (id : Nat)
  | ret
def Ex.to : Ex → Exit
  | .normal => .normal
  | .exit id => .exit id
  | .ret => .ret
def Ex.inBlock (id : Nat) : Ex → Ex
  | .exit j => if j = id then .normal else .exit j
  | e => e

/-- a run of the typed code: from an environment to an ending and an environment -/
inductive Exec (VC : FuncId → List AV → AV → Prop) (ps : List Nat) : VCode → Env → Ex → Env → Prop where
  | skip {σ} : Exec VC ps .skip σ .normal σ
  | region {ss rs σ σ' os} : runE VC ss rs σ = some (σ', os) → (∀ p, p ∈ os → p) → Exec VC ps (.region false ss) σ .normal (σ'.clear ps)
  | seq {a b σ σ' e σ''} : Exec VC ps a σ .normal σ' → Exec VC ps b σ' e σ'' → Exec VC ps (.seq a b) σ e σ''
  | seqX {a b σ e σ'} : Exec VC ps a σ e σ' → e ≠ .normal → Exec VC ps (.seq a b) σ e σ'
  | condT {t a b σ e σ'} : σ.getD t .any = .b true → Exec VC ps a σ e σ' → Exec VC ps (.cond (.t t) a b) σ e σ'
  | condF {t a b σ e σ'} : σ.getD t .any = .b false → Exec VC ps b σ e σ' → Exec VC ps (.cond (.t t) a b) σ e σ'
  | block {id b σ e σ'} : Exec VC ps b σ e σ' → Exec VC ps (.block id b) σ (e.inBlock id) σ'
  | loopX {b σ e σ'} : Exec VC ps b σ e σ' → e ≠ .normal → Exec VC ps (.loop b) σ e σ'
  | loopN {b σ σ' e σ''} : Exec VC ps b σ .normal σ' → Exec VC ps (.loop b) σ' e σ'' → Exec VC ps (.loop b) σ e σ''
  | exit {id σ} : Exec VC ps (.exit id) σ (.exit id) σ
  | ret {σ} : Exec VC ps .ret σ .ret σ

section
variable {P : Program} {C : Ctx} {VC : FuncId → List AV → AV → Prop} {ps : List Nat}

/-- from an environment the code runs to an ending and an environment -/
def Goes (P : Program) (C : Ctx) (σ : Env) (e : Ex) (σ' : Env) (F : (Exit → Act → World → Prop) → Act → World → Prop) : Prop :=
  ∀ {G : Gh} {a : Act} {w : World} {Q : Exit → Act → World → Prop}, Sim C G σ a w → (∀ a' w' G', Sim C G' σ' a' w' → Q e.to a' w') → F Q a w

theorem resC_skip {c0 : Code} (h : resC P c0 = some .skip) : c0 = .skip := by
  cases c0 <;> simp only [resC] at h <;> first | rfl | ((repeat' split at h) <;> cases h)
theorem resC_region {c0 : Code} {d : Bool} {ss : List VStep} (h : resC P c0 = some (.region d ss)) : ∃ id ops, c0 = .region id ops false ∧ allSome (ops.toList.map (resOp P ops)) = some ss ∧ d = false := by
  cases c0 <;> simp only [resC] at h
  case region id ops dd =>
    split at h
    · cases h
    · rename_i hd
      split at h <;> cases h
      rename_i hss
      have hdf : dd = false := by simpa using hd
      subst hdf
      exact ⟨id, ops, rfl, hss, rfl⟩
  all_goals (repeat' split at h) <;> cases h
theorem resC_seq {c0 : Code} {x y : VCode} (h : resC P c0 = some (.seq x y)) : ∃ x0 y0, c0 = .seq x0 y0 ∧ resC P x0 = some x ∧ resC P y0 = some y := by
  cases c0 <;> simp only [resC] at h
  case seq x0 y0 => split at h <;> cases h; exact ⟨x0, y0, rfl, by assumption, by assumption⟩
  all_goals (repeat' split at h) <;> cases h
theorem resC_cond {c0 : Code} {c : Opd} {x y : VCode} (h : resC P c0 = some (.cond c x y)) : ∃ t x0 y0, c = .t t ∧ c0 = .cond (.tmp t) x0 y0 ∧ resC P x0 = some x ∧ resC P y0 = some y := by
  cases c0 <;> simp only [resC] at h
  case cond c0 x0 y0 => split at h <;> cases h; exact ⟨_, x0, y0, rfl, rfl, by assumption, by assumption⟩
  all_goals (repeat' split at h) <;> cases h
theorem resC_block {c0 : Code} {id : Nat} {x : VCode} (h : resC P c0 = some (.block id x)) : ∃ x0, c0 = .block id x0 ∧ resC P x0 = some x := by
  cases c0 <;> simp only [resC] at h
  case block id0 x0 => split at h <;> cases h; exact ⟨x0, rfl, by assumption⟩
  all_goals (repeat' split at h) <;> cases h
theorem resC_loop {c0 : Code} {x : VCode} (h : resC P c0 = some (.loop x)) : ∃ x0, c0 = .loop x0 ∧ resC P x0 = some x := by
  cases c0 <;> simp only [resC] at h
  case loop x0 => split at h <;> cases h; exact ⟨x0, rfl, by assumption⟩
  all_goals (repeat' split at h) <;> cases h
theorem resC_exit {c0 : Code} {id : Nat} (h : resC P c0 = some (.exit id)) : c0 = .exit id := by
  cases c0 <;> simp only [resC] at h <;> first | (cases h; rfl) | ((repeat' split at h) <;> cases h)
theorem resC_ret {c0 : Code} (h : resC P c0 = some .ret) : c0 = .ret := by
  cases c0 <;> simp only [resC] at h <;> first | rfl | ((repeat' split at h) <;> cases h)

theorem exec_ok (hVC : ∀ f args r, VC f args r → VCall P f args r) {c : VCode} {σ : Env} {e : Ex} {σ' : Env} (h : Exec VC ps c σ e σ') :
    (∀ c0, resC P c0 = some c → Goes P C σ e σ' (c0.wp P)) ∧ (∀ b b0, c = .loop b → resC P b0 = some b → ∃ n, Goes P C σ e σ' (fun Q => Code.rounds P b0 Q n)) := by
  induction h with
  | @skip σ => exact ⟨fun c0 hc G a w Q hs hQ => by rw [resC_skip hc]; exact wp_skip (hQ _ _ _ hs), fun b b0 h => by cases h⟩
  | @region ss rs σ σ' os hr hos =>
    refine ⟨fun c0 hc G a w Q hs hQ => ?_, fun b b0 h => by cases h⟩
    obtain ⟨id, ops, rfl, hss, _⟩ := resC_region hc
    exact wp_region_list (wpList_run hVC ops.toList _ rs hss hs hr hos (fun a' w' G' hs' => hQ _ _ _ (hs'.clear ps)))
  | @seq x y σ σ1 e σ2 h1 h2 ih1 ih2 =>
    refine ⟨fun c0 hc G a w Q hs hQ => ?_, fun b b0 h => by cases h⟩
    obtain ⟨x0, y0, rfl, hx, hy⟩ := resC_seq hc
    exact wp_seq (ih1.1 x0 hx hs (fun a' w' G' hs' => ih2.1 y0 hy hs' hQ))
  | @seqX x y σ e σ1 h1 hne ih1 =>
    refine ⟨fun c0 hc G a w Q hs hQ => ?_, fun b b0 h => by cases h⟩
    obtain ⟨x0, y0, rfl, hx, hy⟩ := resC_seq hc
    refine wp_seq (ih1.1 x0 hx hs (fun a' w' G' hs' => ?_))
    cases e with
    | normal => exact absurd rfl hne
    | exit id => exact hQ _ _ _ hs'
    | ret => exact hQ _ _ _ hs'
  | @condT t x y σ e σ1 ht h1 ih1 =>
    refine ⟨fun c0 hc G a w Q hs hQ => ?_, fun b b0 h => by cases h⟩
    obtain ⟨t', x0, y0, ht', rfl, hx, hy⟩ := resC_cond hc
    cases ht'
    have := hs.ev t; rw [ht] at this
    exact wp_cond_true this (ih1.1 x0 hx hs hQ)
  | @condF t x y σ e σ1 ht h1 ih1 =>
    refine ⟨fun c0 hc G a w Q hs hQ => ?_, fun b b0 h => by cases h⟩
    obtain ⟨t', x0, y0, ht', rfl, hx, hy⟩ := resC_cond hc
    cases ht'
    have := hs.ev t; rw [ht] at this
    exact wp_cond_false this (ih1.1 y0 hy hs hQ)
  | @block id b σ e σ1 h1 ih1 =>
    refine ⟨fun c0 hc G a w Q hs hQ => ?_, fun b b0 h => by cases h⟩
    obtain ⟨b0, rfl, hb⟩ := resC_block hc
    refine wp_block (ih1.1 b0 hb hs (fun a' w' G' hs' => ?_))
    have := hQ _ _ _ hs'
    cases e with
    | normal => exact this
    | exit j =>
      simp only [Ex.inBlock] at this
      by_cases hj : j = id
      · simp only [hj, if_true] at this
        simp only [Ex.to, Exit.inBlock, hj, if_true]; exact this
      · simp only [hj, if_false] at this
        simp only [Ex.to, Exit.inBlock, hj, if_false]; exact this
    | ret => exact this
  | @loopX b σ e σ1 h1 hne ih1 =>
    have key : ∀ b0, resC P b0 = some b → Goes P C σ e σ1 (fun Q => Code.rounds P b0 Q 1) := by
      intro b0 hb G a w Q hs hQ
      show Code.rounds P b0 Q 1 a w
      rw [rounds_succ]
      refine ih1.1 b0 hb hs (fun a' w' G' hs' => ?_)
      cases e with
      | normal => exact absurd rfl hne
      | exit id => exact hQ _ _ _ hs'
      | ret => exact hQ _ _ _ hs'
    refine ⟨fun c0 hc G a w Q hs hQ => ?_, fun b' b0 h hb => by cases h; exact ⟨1, key b0 hb⟩⟩
    obtain ⟨b0, rfl, hb⟩ := resC_loop hc
    exact wp_loop_rounds 1 (key b0 hb hs hQ)
  | @loopN b σ σ1 e σ2 h1 h2 ih1 ih2 =>
    have key : ∀ b0, resC P b0 = some b → ∃ n, Goes P C σ e σ2 (fun Q => Code.rounds P b0 Q n) := by
      intro b0 hb
      obtain ⟨n, hn⟩ := ih2.2 b b0 rfl hb
      refine ⟨n + 1, fun {G a w Q} hs hQ => ?_⟩
      show Code.rounds P b0 Q (n + 1) a w
      rw [rounds_succ]
      exact ih1.1 b0 hb hs (fun a' w' G' hs' => hn hs' hQ)
    refine ⟨fun c0 hc G a w Q hs hQ => ?_, fun b' b0 h hb => by cases h; exact key b0 hb⟩
    obtain ⟨b0, rfl, hb⟩ := resC_loop hc
    obtain ⟨n, hn⟩ := key b0 hb
    exact wp_loop_rounds n (hn hs hQ)
  | @exit id σ => exact ⟨fun c0 hc G a w Q hs hQ => by rw [resC_exit hc]; exact wp_exit (hQ _ _ _ hs), fun b b0 h => by cases h⟩
  | @ret σ => exact ⟨fun c0 hc G a w Q hs hQ => by rw [resC_ret hc]; exact wp_ret (hQ _ _ _ hs), fun b b0 h => by cases h⟩
end
end Go.Proofs.LV
