/- Whole bodies: big-step runs of the typed code, and what they say of the program's code. -/
import Derived.Test.YtdffgjembkanoaaLvDrawQ
import Derived.LoopN
namespace Go.Proofs.LV
open Go Go.RowKit
set_option linter.unusedVariables false
set_option linter.unusedSimpArgs false

/-! ## Code -/
def resC (P : Program) : Code → Option VCode
  | .skip => some .skip
  | .region _ ops d => match allSome (ops.toList.map (resOp P ops)) with
    | some ss => if d = true then (if P.follows .mixedOrders = true ∧ drawOk ops ss = true then some (.region true ss) else some .bad) else some (.region false ss)
    | none => some .bad
  | .seq a b => match resC P a, resC P b with | some x, some y => some (.seq x y) | _, _ => none
  | .cond c a b => match c, resC P a, resC P b with | .tmp t, some x, some y => some (.cond (.t t) x y) | .const (.bool v), some x, some y => some (.cond (.k (.b v)) x y) | _, _, _ => some .bad
  | .block id b => match resC P b with | some x => some (.block id x) | none => none
  | .loop b => match resC P b with | some x => some (.loop x) | none => none
  | .exit id => some (.exit id)
  | .ret => some .ret
  | _ => some .bad

inductive Ex where
  | normal
  | exit (id : Nat)
  | ret
def Ex.to : Ex → Exit
  | .normal => .normal
  | .exit id => .exit id
  | .ret => .ret
def Ex.inBlock (id : Nat) : Ex → Ex
  | .exit j => if j = id then .normal else .exit j
  | e => e

/-- a run of the typed code: from an environment to an ending and an environment -/
inductive Exec (VC : FuncId → List AV → AV → Prop) (ps : List Nat) : VCode → Env → Ex → Env → Prop where
  | skip {σ} : Exec VC ps .skip σ .normal σ
  | region {ss rs σ σ' os} : runX VC .t ss rs σ = some (σ', os) → (∀ p, p ∈ os → p) → Exec VC ps (.region false ss) σ .normal (σ'.clear ps)
  | regionD {ss rs σ σ' os} : runE VC ss rs (σ.scrubs (regNames ss)) = some (σ', os) → (∀ p, p ∈ os → p) → Exec VC ps (.region true ss) σ .normal (σ'.clear ps)
  | regionQ {ss rs σ σ' os iy N} : qOk ss iy N (σ.scrubs (regNames ss)) = true → runX VC (.q N) ss rs (σ.scrubs (regNames ss)) = some (σ', os) → (∀ p, p ∈ os → p) → Exec VC ps (.region true ss) σ .normal (σ'.clear ps)
  | seq {a b σ σ' e σ''} : Exec VC ps a σ .normal σ' → Exec VC ps b σ' e σ'' → Exec VC ps (.seq a b) σ e σ''
  | seqX {a b σ e σ'} : Exec VC ps a σ e σ' → e ≠ .normal → Exec VC ps (.seq a b) σ e σ'
  | condT {t a b σ e σ'} : σ.getD t .any = .b true → Exec VC ps a (σ.set t .any) e σ' → Exec VC ps (.cond (.t t) a b) σ e σ'
  | condF {t a b σ e σ'} : σ.getD t .any = .b false → Exec VC ps b (σ.set t .any) e σ' → Exec VC ps (.cond (.t t) a b) σ e σ'
  | condKT {a b σ e σ'} : Exec VC ps a σ e σ' → Exec VC ps (.cond (.k (.b true)) a b) σ e σ'
  | condKF {a b σ e σ'} : Exec VC ps b σ e σ' → Exec VC ps (.cond (.k (.b false)) a b) σ e σ'
  | block {id b σ e σ'} : Exec VC ps b σ e σ' → Exec VC ps (.block id b) σ (e.inBlock id) σ'
  | loopX {b σ e σ'} : Exec VC ps b σ e σ' → e ≠ .normal → Exec VC ps (.loop b) σ e σ'
  | loopN {b σ σ' e σ''} : Exec VC ps b σ .normal σ' → Exec VC ps (.loop b) σ' e σ'' → Exec VC ps (.loop b) σ e σ''
  | exit {id σ} : Exec VC ps (.exit id) σ (.exit id) σ
  | ret {σ} : Exec VC ps .ret σ .ret σ
  | forgetR {c σ e σ'} (qs : List Nat) : Exec VC ps c σ e σ' → Exec VC ps c σ e (σ'.clear qs)
  | renameR {c σ e σ'} (n m : Nat) : n < HI → m < HI → Exec VC ps c σ e σ' → Exec VC ps c σ e (σ'.rnm n m)
  | forget {c σ e σ'} (qs : List Nat) : Exec VC ps c (σ.clear qs) e σ' → Exec VC ps c σ e σ'

section
variable {P : Program} {C : Ctx} {VC : FuncId → List AV → AV → Prop} {ps : List Nat}

/-- from an environment the code runs to an ending and an environment -/
def Goes (P : Program) (C : Ctx) (σ : Env) (e : Ex) (σ' : Env) (F : (Exit → Act → World → Prop) → Act → World → Prop) : Prop :=
  ∀ {G : Gh} {a : Act} {w : World} {Q : Exit → Act → World → Prop}, Sim C G σ a w → (∀ a' w' G', Sim C G' σ' a' w' → Q e.to a' w') → F Q a w

theorem Sim.unset {G : Gh} {σ : Env} {a : Act} {w : World} (hs : Sim C G σ a w) (t : Nat) : Sim C G (σ.set t .any) a w := by
  refine ⟨hs.g, hs.defers, by simpa using hs.size, fun s hsl => ?_, hs.hi⟩
  by_cases h : t = s
  · subst h
    have : (σ.set t .any).getD t .any = .any := by
      simp only [List.getD, List.getElem?_set]
      split <;> (try split) <;> simp_all
    rw [this]; simp [VR]
  · have : (σ.set t .any).getD s .any = σ.getD s .any := by simp only [List.getD, List.getElem?_set_ne h]
    rw [this]; exact hs.ev s

theorem resC_skip {c0 : Code} (h : resC P c0 = some .skip) : c0 = .skip := by
  cases c0 <;> simp only [resC] at h <;> first | rfl | ((repeat' split at h) <;> cases h)
theorem resC_region {c0 : Code} {d : Bool} {ss : List VStep} (h : resC P c0 = some (.region d ss)) : ∃ id ops, c0 = .region id ops d ∧ allSome (ops.toList.map (resOp P ops)) = some ss ∧ (d = true → P.follows .mixedOrders = true ∧ drawOk ops ss = true) := by
  cases c0 <;> simp only [resC] at h <;> (try cases h)
  case region id ops d' =>
    split at h
    · rename_i ss' hss
      cases d' with
      | true =>
        simp only [if_true] at h
        split at h
        · rename_i hm; cases h; exact ⟨id, ops, rfl, hss, fun _ => hm⟩
        · cases h
      | false => simp only [Bool.false_eq_true, if_false] at h; cases h; exact ⟨id, ops, rfl, hss, fun h => nomatch h⟩
    · cases h
  all_goals ((repeat' split at h) <;> cases h)
theorem resC_seq {c0 : Code} {x y : VCode} (h : resC P c0 = some (.seq x y)) : ∃ x0 y0, c0 = .seq x0 y0 ∧ resC P x0 = some x ∧ resC P y0 = some y := by
  cases c0 <;> simp only [resC] at h
  case seq x0 y0 => split at h <;> cases h; exact ⟨x0, y0, rfl, by assumption, by assumption⟩
  all_goals (repeat' split at h) <;> cases h
theorem resC_cond {c0 : Code} {t : Nat} {x y : VCode} (h : resC P c0 = some (.cond (.t t) x y)) : ∃ x0 y0, c0 = .cond (.tmp t) x0 y0 ∧ resC P x0 = some x ∧ resC P y0 = some y := by
  cases c0 <;> simp only [resC] at h
  case cond c0 x0 y0 => split at h <;> cases h; exact ⟨x0, y0, rfl, by assumption, by assumption⟩
  all_goals (repeat' split at h) <;> cases h
theorem resC_condK {c0 : Code} {v : Bool} {x y : VCode} (h : resC P c0 = some (.cond (.k (.b v)) x y)) : ∃ x0 y0, c0 = .cond (.const (.bool v)) x0 y0 ∧ resC P x0 = some x ∧ resC P y0 = some y := by
  cases c0 <;> simp only [resC] at h
  case cond c0 x0 y0 => split at h <;> cases h; exact ⟨x0, y0, rfl, by assumption, by assumption⟩
  all_goals (repeat' split at h) <;> cases h
theorem resC_block {c0 : Code} {id : Nat} {x : VCode} (h : resC P c0 = some (.block id x)) : ∃ x0, c0 = .block id x0 ∧ resC P x0 = some x := by
  cases c0 <;> simp only [resC] at h
  case block id0 x0 => split at h <;> cases h; exact ⟨x0, rfl, by assumption⟩
  all_goals (repeat' split at h) <;> cases h
theorem resC_loop {c0 : Code} {x : VCode} (h : resC P c0 = some (.loop x)) : ∃ x0, c0 = .loop x0 ∧ resC P x0 = some x := by
  cases c0 <;> simp only [resC] at h
  case loop x0 => split at h <;> cases h; exact ⟨x0, rfl, by assumption⟩
  all_goals (repeat' split at h) <;> cases h
theorem resC_exit {c0 : Code} {id : Nat} (h : resC P c0 = some (.exit id)) : c0 = .exit id := by
  cases c0 <;> simp only [resC] at h <;> first | (cases h; rfl) | ((repeat' split at h) <;> cases h)
theorem resC_ret {c0 : Code} (h : resC P c0 = some .ret) : c0 = .ret := by
  cases c0 <;> simp only [resC] at h <;> first | rfl | ((repeat' split at h) <;> cases h)

theorem exec_ok (hVC : ∀ f args r, VC f args r → VCall P f args r) {c : VCode} {σ : Env} {e : Ex} {σ' : Env} (h : Exec VC ps c σ e σ') :
    (∀ c0, resC P c0 = some c → Goes P C σ e σ' (c0.wp P)) ∧ (∀ b b0, c = .loop b → resC P b0 = some b → ∃ n, Goes P C σ e σ' (fun Q => Code.rounds P b0 Q n)) := by
  induction h with
  | @skip σ => exact ⟨fun c0 hc G a w Q hs hQ => by rw [resC_skip hc]; exact wp_skip (hQ _ _ _ hs), fun b b0 h => by cases h⟩
  | @region ss rs σ σ' os hr hos =>
    refine ⟨fun c0 hc G a w Q hs hQ => ?_, fun b b0 h => by cases h⟩
    obtain ⟨id, ops, rfl, hss, _⟩ := resC_region hc
    exact wp_region_list (wpList_run hVC ops.toList _ rs hss hs hr hos (fun a' w' G' hs' => hQ _ _ _ (hs'.clear ps)))
  | @regionD ss rs σ σ' os hr hos =>
    refine ⟨fun c0 hc G a w Q hs hQ => ?_, fun b b0 h => by cases h⟩
    obtain ⟨id, ops, rfl, hss, hd⟩ := resC_region hc
    exact draw_ok hVC (hd rfl).1 hss (hd rfl).2 hs hr hos (fun a' w' G' hs' => hQ _ _ _ (hs'.clear ps))
  | @regionQ ss rs σ σ' os iy N hq hr hos =>
    refine ⟨fun c0 hc G a w Q hs hQ => ?_, fun b b0 h => by cases h⟩
    obtain ⟨id, ops, rfl, hss, hd⟩ := resC_region hc
    exact drawQ_ok hVC (hd rfl).1 hss (hd rfl).2 hs hq hr hos (fun a' w' G' hs' => hQ _ _ _ (hs'.clear ps))
  | @seq x y σ σ1 e σ2 h1 h2 ih1 ih2 =>
    refine ⟨fun c0 hc G a w Q hs hQ => ?_, fun b b0 h => by cases h⟩
    obtain ⟨x0, y0, rfl, hx, hy⟩ := resC_seq hc
    exact wp_seq (ih1.1 x0 hx hs (fun a' w' G' hs' => ih2.1 y0 hy hs' hQ))
  | @seqX x y σ e σ1 h1 hne ih1 =>
    refine ⟨fun c0 hc G a w Q hs hQ => ?_, fun b b0 h => by cases h⟩
    obtain ⟨x0, y0, rfl, hx, hy⟩ := resC_seq hc
    refine wp_seq (ih1.1 x0 hx hs (fun a' w' G' hs' => ?_))
    cases e with
    | normal => exact absurd rfl hne
    | exit id => exact hQ _ _ _ hs'
    | ret => exact hQ _ _ _ hs'
  | @condT t x y σ e σ1 ht h1 ih1 =>
    refine ⟨fun c0 hc G a w Q hs hQ => ?_, fun b b0 h => by cases h⟩
    obtain ⟨x0, y0, rfl, hx, hy⟩ := resC_cond hc
    have := hs.ev t; rw [ht] at this
    exact wp_cond_true this (ih1.1 x0 hx (hs.unset t) hQ)
  | @condF t x y σ e σ1 ht h1 ih1 =>
    refine ⟨fun c0 hc G a w Q hs hQ => ?_, fun b b0 h => by cases h⟩
    obtain ⟨x0, y0, rfl, hx, hy⟩ := resC_cond hc
    have := hs.ev t; rw [ht] at this
    exact wp_cond_false this (ih1.1 y0 hy (hs.unset t) hQ)
  | @condKT x y σ e σ1 h1 ih1 =>
    refine ⟨fun c0 hc G a w Q hs hQ => ?_, fun b b0 h => by cases h⟩
    obtain ⟨x0, y0, rfl, hx, hy⟩ := resC_condK hc
    exact wp_cond_true rfl (ih1.1 x0 hx hs hQ)
  | @condKF x y σ e σ1 h1 ih1 =>
    refine ⟨fun c0 hc G a w Q hs hQ => ?_, fun b b0 h => by cases h⟩
    obtain ⟨x0, y0, rfl, hx, hy⟩ := resC_condK hc
    exact wp_cond_false rfl (ih1.1 y0 hy hs hQ)
  | @block id b σ e σ1 h1 ih1 =>
    refine ⟨fun c0 hc G a w Q hs hQ => ?_, fun b b0 h => by cases h⟩
    obtain ⟨b0, rfl, hb⟩ := resC_block hc
    refine wp_block (ih1.1 b0 hb hs (fun a' w' G' hs' => ?_))
    have := hQ _ _ _ hs'
    cases e with
    | normal => exact this
    | exit j =>
      simp only [Ex.inBlock] at this
      by_cases hj : j = id
      · simp only [hj, if_true] at this
        simp only [Ex.to, Exit.inBlock, hj, if_true]; exact this
      · simp only [hj, if_false] at this
        simp only [Ex.to, Exit.inBlock, hj, if_false]; exact this
    | ret => exact this
  | @loopX b σ e σ1 h1 hne ih1 =>
    have key : ∀ b0, resC P b0 = some b → Goes P C σ e σ1 (fun Q => Code.rounds P b0 Q 1) := by
      intro b0 hb G a w Q hs hQ
      show Code.rounds P b0 Q 1 a w
      rw [rounds_succ]
      refine ih1.1 b0 hb hs (fun a' w' G' hs' => ?_)
      cases e with
      | normal => exact absurd rfl hne
      | exit id => exact hQ _ _ _ hs'
      | ret => exact hQ _ _ _ hs'
    refine ⟨fun c0 hc G a w Q hs hQ => ?_, fun b' b0 h hb => by cases h; exact ⟨1, key b0 hb⟩⟩
    obtain ⟨b0, rfl, hb⟩ := resC_loop hc
    exact wp_loop_rounds 1 (key b0 hb hs hQ)
  | @loopN b σ σ1 e σ2 h1 h2 ih1 ih2 =>
    have key : ∀ b0, resC P b0 = some b → ∃ n, Goes P C σ e σ2 (fun Q => Code.rounds P b0 Q n) := by
      intro b0 hb
      obtain ⟨n, hn⟩ := ih2.2 b b0 rfl hb
      refine ⟨n + 1, fun {G a w Q} hs hQ => ?_⟩
      show Code.rounds P b0 Q (n + 1) a w
      rw [rounds_succ]
      exact ih1.1 b0 hb hs (fun a' w' G' hs' => hn hs' hQ)
    refine ⟨fun c0 hc G a w Q hs hQ => ?_, fun b' b0 h hb => by cases h; exact key b0 hb⟩
    obtain ⟨b0, rfl, hb⟩ := resC_loop hc
    obtain ⟨n, hn⟩ := key b0 hb
    exact wp_loop_rounds n (hn hs hQ)
  | @exit id σ => exact ⟨fun c0 hc G a w Q hs hQ => by rw [resC_exit hc]; exact wp_exit (hQ _ _ _ hs), fun b b0 h => by cases h⟩
  | @forgetR c σ e σ1 qs h1 ih1 =>
    refine ⟨fun c0 hc G a w Q hs hQ => ih1.1 c0 hc hs (fun a' w' G' hs' => hQ _ _ _ (hs'.clear qs)), fun b b0 h hb => ?_⟩
    obtain ⟨n, hn⟩ := ih1.2 b b0 h hb
    exact ⟨n, fun {G a w Q} hs hQ => hn hs (fun a' w' G' hs' => hQ _ _ _ (hs'.clear qs))⟩
  | @renameR c σ e σ1 n m hn hm h1 ih1 =>
    refine ⟨fun c0 hc G a w Q hs hQ => ih1.1 c0 hc hs (fun a' w' G' hs' => hQ _ _ _ (hs'.rnm hn hm)), fun b b0 h hb => ?_⟩
    obtain ⟨k, hk⟩ := ih1.2 b b0 h hb
    exact ⟨k, fun {G a w Q} hs hQ => hk hs (fun a' w' G' hs' => hQ _ _ _ (hs'.rnm hn hm))⟩
  | @forget c σ e σ1 qs h1 ih1 =>
    refine ⟨fun c0 hc G a w Q hs hQ => ih1.1 c0 hc (hs.clear qs) hQ, fun b b0 h hb => ?_⟩
    obtain ⟨n, hn⟩ := ih1.2 b b0 h hb
    exact ⟨n, fun {G a w Q} hs hQ => hn (hs.clear qs) hQ⟩
  | @ret σ => exact ⟨fun c0 hc G a w Q hs hQ => by rw [resC_ret hc]; exact wp_ret (hQ _ _ _ hs), fun b b0 h => by cases h⟩
end
end Go.Proofs.LV
