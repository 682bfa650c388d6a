/- Texts that belong together. -/
import Derived.Test.YtdffgjembkanoaaLvRun
import Derived.Test.YtdffgjembkanoaaLvDraw
import Derived.LoopN
namespace Go.Proofs.LV
open Go Go.RowKit
set_option linter.unusedVariables false
set_option linter.unusedSimpArgs false

/-! ## to the front -/
def Disj (a b : VStep) : Prop := ∀ n, n ∈ a.names → n ∉ b.names
def disjB (a b : VStep) : Bool := a.names.all fun n => !b.names.contains n
theorem disj_of {a b : VStep} (h : disjB a b = true) : Disj a b := by
  intro n hn hb
  unfold disjB at h
  have := List.all_eq_true.1 h n hn
  simp at this
  exact this hb

theorem to_front {VC : FuncId → List AV → AV → Prop} {x : VStep × AV} {l2 : List (VStep × AV)} {Q : Env → Prop} : ∀ (l1 : List (VStep × AV)) (σ : Env), (∀ y, y ∈ l1 → swapOk y.1 x.1 = true) → (∀ y, y ∈ l1 → y.1.clean = true) → x.1.clean = true →
    (∀ y, y ∈ l1 → Fresh y.1 σ) → Fresh x.1 σ → l1.Pairwise (fun a b => Disj b.1 a.1) → (∀ y, y ∈ l1 → Disj x.1 y.1) → RunTo VC (l1 ++ x :: l2) σ Q → RunTo VC (x :: (l1 ++ l2)) σ Q
  | [], σ, _, _, _, _, _, _, _, h => h
  | y :: l1, σ, hs, hc, hx, hf, hfx, hp, hd, h => by
    obtain ⟨σ1, o, h1, ho, h2⟩ := h
    have hcy := hc y (by simp)
    have hp' := List.pairwise_cons.1 hp
    have ih := to_front l1 σ1 (fun z hz => hs z (by simp [hz])) (fun z hz => hc z (by simp [hz])) hx
      (fun z hz n hn => step_keeps hcy h1 (hp'.1 z hz n hn) (hf z (by simp [hz]) n hn))
      (fun n hn => step_keeps hcy h1 (hd y (by simp) n hn) (hfx n hn)) hp'.2 (fun z hz => hd z (by simp [hz])) h2
    obtain ⟨sy, ry⟩ := y
    obtain ⟨sx, rx⟩ := x
    exact swap_one (hs (sy, ry) (by simp)) hcy hx (hf (sy, ry) (by simp)) hfx ⟨σ1, o, h1, ho, ih⟩

/-! ## the check -/
def VStep.nil : VStep := ⟨none, .mv, [], none⟩
def depsOf (o : Oper) : List Nat := o.after.toList.filterMap fun e => if Region.binds .any e = true then some e.on else none
/-- what goes ahead, through others too -/
def closeD : List (List Nat) → List (List Nat) → List (List Nat)
  | acc, [] => acc
  | acc, d :: r => closeD (acc ++ [(d ++ d.flatMap fun k => acc.getD k []).eraseDups]) r
def drawOk (ops : Array Oper) (ss : List VStep) : Bool :=
  let D := ops.toList.map depsOf
  let A := closeD [] D
  ((List.range ops.size).all fun i =>
    (D.getD i []).all (fun k => decide (k < i)) &&
    (A.getD i []).all (fun x => (D.getD i []).contains x || (D.getD i []).any fun k => (A.getD k []).contains x) &&
    (List.range i).all (fun x => (A.getD i []).contains x || swapOk (ss.getD x .nil) (ss.getD i .nil)) &&
    (List.range i).all (fun x => disjB (ss.getD x .nil) (ss.getD i .nil) && disjB (ss.getD i .nil) (ss.getD x .nil)) &&
    (ss.getD i .nil).clean)

def zipR : List VStep → List AV → List (VStep × AV)
  | [], _ => []
  | s :: l, rs => (s, bif s.kd.isCall then rs.headD .any else .any) :: zipR l (bif s.kd.isCall then rs.tail else rs)

theorem zipR_len : ∀ (ss : List VStep) (rs : List AV), (zipR ss rs).length = ss.length
  | [], _ => rfl
  | s :: l, rs => by simp [zipR, zipR_len l]
theorem zipR_fst : ∀ (ss : List VStep) (rs : List AV) (i : Nat), ((zipR ss rs)[i]?).map (·.1) = ss[i]?
  | [], _, i => by simp [zipR]
  | s :: l, rs, 0 => by simp [zipR]
  | s :: l, rs, i + 1 => by simp [zipR, zipR_fst l]

theorem runTo_of_runE {VC : FuncId → List AV → AV → Prop} : ∀ {ss : List VStep} {rs : List AV} {σ σ' : Env} {os : List Prop}, runE VC ss rs σ = some (σ', os) → (∀ p, p ∈ os → p) → RunTo VC (zipR ss rs) σ (· = σ')
  | [], rs, σ, σ', os, h, _ => by simp only [runE] at h; cases h; rfl
  | s :: l, rs, σ, σ', os, h, hos => by
    unfold runE at h
    split at h
    · rename_i σ1 o h1
      split at h
      · rename_i σ2 os2 h2
        cases h
        refine ⟨σ1, o, h1, ?_, runTo_of_runE h2 fun p hp => hos p ?_⟩
        · cases how : s.kd.owes with
          | true => exact hos o (by simp [how])
          | false => exact owes_stepE how h1
        · cases s.kd.owes <;> simp [hp]
      · cases h
    · cases h

/-! ## any order -/
def rem (n : Nat) (listed : Array Bool) : List Nat := (List.range n).filter fun i => !listed.getD i true

theorem rem_mem {n i : Nat} {listed : Array Bool} : i ∈ rem n listed ↔ i < n ∧ listed.getD i true = false := by
  simp [rem]
theorem rem_split {n i : Nat} {listed : Array Bool} (hn : listed.size = n) (hi : i ∈ rem n listed) :
    ∃ l1 l2, rem n listed = l1 ++ i :: l2 ∧ rem n (listed.setIfInBounds i true) = l1 ++ l2 ∧ (∀ x, x ∈ l1 → x < i) := by
  obtain ⟨hlt, hl⟩ := rem_mem.1 hi
  have hr : List.range n = List.range i ++ i :: (List.range (n - i - 1)).map (i + 1 + ·) := by
    have h1 : n = i + (1 + (n - i - 1)) := by omega
    rw [h1, List.range_add, List.range_add]
    simp [Function.comp_def]
    intro a _
    omega
  refine ⟨(List.range i).filter (fun i => !listed.getD i true), ((List.range (n - i - 1)).map (i + 1 + ·)).filter (fun i => !listed.getD i true), ?_, ?_, ?_⟩
  · rw [rem, hr, List.filter_append, List.filter_cons]
    simp [hl]
  · rw [rem, hr, List.filter_append, List.filter_cons]
    have h0 : (listed.setIfInBounds i true).getD i true = true := by simp [show i < listed.size by omega]
    rw [h0]
    congr 1
    · apply List.filter_congr
      intro x hx
      rw [getD_set_ne true (by have := List.mem_range.1 hx; omega)]
    · simp only [Bool.not_true, Bool.false_eq_true, if_false]
      apply List.filter_congr
      intro x hx
      obtain ⟨y, _, rfl⟩ := List.mem_map.1 hx
      rw [getD_set_ne true (by omega)]
  · intro x hx
    exact List.mem_range.1 (List.mem_filter.1 hx).1

section
variable {P : Program} {C : Ctx} {VC : FuncId → List AV → AV → Prop}

theorem allSome_get {α : Type} : ∀ {l : List (Option α)} {xs : List α} {i : Nat}, allSome l = some xs → l[i]? = xs[i]?.map some
  | [], xs, i, h => by cases h; simp
  | none :: l, xs, i, h => by simp [allSome] at h
  | some x :: l, xs, i, h => by
    simp only [allSome] at h
    split at h
    · rename_i ys hy; cases h
      cases i with
      | zero => simp
      | succ i => simpa using allSome_get (i := i) hy
    · cases h
theorem allSome_len {α : Type} : ∀ {l : List (Option α)} {xs : List α}, allSome l = some xs → l.length = xs.length
  | [], xs, h => by cases h; rfl
  | none :: l, xs, h => by simp [allSome] at h
  | some x :: l, xs, h => by
    simp only [allSome] at h
    split at h
    · rename_i ys hy; cases h
      simp [allSome_len hy]
    · cases h

theorem any_order (hVC : ∀ f args r, VC f args r → VCall P f args r) {ops : Array Oper} {ss : List VStep} {rs : List AV} {Q : Exit → Act → World → Prop} {σ' : Env}
    (hss : allSome (ops.toList.map (resOp P ops)) = some ss) (hok : drawOk ops ss = true) (hQ : ∀ a' w' G', Sim C G' σ' a' w' → Q .normal a' w') :
    ∀ (fuel : Nat) (listed : Array Bool) (G : Gh) (σ : Env) (a : Act) (w : World), listed.size = ops.size → (rem ops.size listed).length ≤ fuel →
      (∀ i x, listed.getD i true = true → i < ops.size → x ∈ (closeD [] (ops.toList.map depsOf)).getD i [] → listed.getD x false = true) →
      Sim C G σ a w → (∀ i, i ∈ rem ops.size listed → Fresh (ss.getD i .nil) σ) →
      RunTo VC ((rem ops.size listed).filterMap fun i => (zipR ss rs)[i]?) σ (· = σ') → wpAny P .any ops Q fuel listed a w := by
  have hlen : ss.length = ops.size := by have := allSome_len hss; simpa using this.symm
  unfold drawOk at hok
  simp only [List.all_eq_true, List.mem_range, Bool.and_eq_true, decide_eq_true_eq, Bool.or_eq_true, List.any_eq_true, List.contains_iff_mem] at hok
  have hD : ∀ (i : Nat) (o : Oper), ops[i]? = some o → (ops.toList.map depsOf).getD i [] = depsOf o := by
    intro i o ho
    have : ops.toList[i]? = some o := by simpa using ho
    simp [List.getD, this]
  have hready : ∀ (i : Nat) (listed : Array Bool), i ∈ Region.ready .any ops listed → i < ops.size ∧ listed.getD i true = false ∧ ∀ k, k ∈ (ops.toList.map depsOf).getD i [] → listed.getD k false = true := by
    intro i listed h
    obtain ⟨h0, o, ho, hall⟩ := mem_ready.1 h
    refine ⟨(Array.getElem?_eq_some_iff.1 ho).1, h0, fun k hk => ?_⟩
    rw [hD i o ho] at hk
    unfold depsOf at hk
    obtain ⟨e, he, hek⟩ := List.mem_filterMap.1 hk
    split at hek
    · rename_i hb; cases hek
      exact hall e (by simpa using he) hb
    · cases hek
  have first : ∀ (listed : Array Bool), listed.size = ops.size → Region.ready .any ops listed = [] → rem ops.size listed = [] := by
    intro listed hsz hr
    cases hrem : rem ops.size listed with
    | nil => rfl
    | cons i r =>
      exfalso
      have hi : i ∈ rem ops.size listed := by rw [hrem]; simp
      obtain ⟨hlt, hl⟩ := rem_mem.1 hi
      have : i ∈ Region.ready .any ops listed := by
        refine mem_ready.2 ⟨hl, ops[i], Array.getElem?_eq_getElem hlt, fun e he hb => ?_⟩
        have hk : e.on ∈ (ops.toList.map depsOf).getD i [] := by
          rw [hD i ops[i] (Array.getElem?_eq_getElem hlt)]
          unfold depsOf
          exact List.mem_filterMap.2 ⟨e, by simpa using he, by simp [hb]⟩
        have hki := (hok i hlt).1.1.1.1 _ hk
        cases hle : listed.getD e.on true with
        | true =>
          have : e.on < listed.size := by omega
          simp [this] at hle ⊢; exact hle
        | false =>
          obtain ⟨l1, l2, h1, _, h3⟩ := rem_split hsz (rem_mem.2 ⟨by omega, hle⟩ : e.on ∈ rem ops.size listed)
          have hge : ∀ x, x ∈ rem ops.size listed → i ≤ x := by
            intro x hx
            have hs : (rem ops.size listed).Pairwise (· < ·) := List.Pairwise.filter _ List.pairwise_lt_range
            rw [hrem] at hs hx
            rcases List.mem_cons.1 hx with rfl | hx
            · exact Nat.le_refl _
            · exact Nat.le_of_lt ((List.pairwise_cons.1 hs).1 x hx)
          have := hge e.on (rem_mem.2 ⟨by omega, hle⟩)
          omega
      rw [hr] at this; cases this
  intro fuel
  induction fuel with
  | zero =>
    intro listed G σ a w hsz hf hcl hs hfr hrun
    have hnil : rem ops.size listed = [] := List.length_eq_zero_iff.1 (by omega)
    refine ⟨?_, ?_⟩
    · cases hr : Region.ready .any ops listed with
      | nil => rfl
      | cons i r =>
        have := hready i listed (by rw [hr]; simp)
        have hi := rem_mem.2 ⟨this.1, this.2.1⟩
        rw [hnil] at hi; cases hi
    · rw [hnil] at hrun
      simp only [List.filterMap_nil, RunTo] at hrun
      subst hrun
      exact hQ _ _ _ hs
  | succ fuel ih =>
    intro listed G σ a w hsz hf hcl hs hfr hrun
    refine ⟨fun hr => ?_, fun i hi => ?_⟩
    · rw [first listed hsz hr] at hrun
      simp only [List.filterMap_nil, RunTo] at hrun
      subst hrun
      exact hQ _ _ _ hs
    · obtain ⟨hlt, hl, hdeps⟩ := hready i listed hi
      have hir := rem_mem.2 ⟨hlt, hl⟩
      obtain ⟨l1, l2, h1, h2, h3⟩ := rem_split hsz hir
      obtain ⟨⟨⟨⟨c1, c2⟩, c3⟩, c4⟩, c5⟩ := hok i hlt
      have hanc : ∀ x, x ∈ (closeD [] (ops.toList.map depsOf)).getD i [] → listed.getD x false = true := by
        intro x hx
        rcases c2 x hx with h | ⟨k, hk, hkx⟩
        · exact hdeps x h
        · have hkl := hdeps k hk
          have hk' : k < ops.size := Nat.lt_trans (c1 k hk) hlt
          refine hcl k x ?_ hk' hkx
          have : k < listed.size := by omega
          simp [this] at hkl ⊢; exact hkl
      have hzip : ∀ x, x < ops.size → ∃ p, (zipR ss rs)[x]? = some p ∧ p.1 = ss.getD x .nil := by
        intro x hx
        have hx' : x < (zipR ss rs).length := by rw [zipR_len]; omega
        have := zipR_fst ss rs x
        rw [List.getElem?_eq_getElem hx'] at this
        refine ⟨_, List.getElem?_eq_getElem hx', ?_⟩
        simp only [Option.map_some] at this
        simp [List.getD, ← this]
      obtain ⟨p, hp, hpi⟩ := hzip i hlt
      have hl1 : ∀ x, x ∈ l1 → x < i ∧ listed.getD x true = false := by
        intro x hx
        have : x ∈ rem ops.size listed := by rw [h1]; simp [hx]
        exact ⟨h3 x hx, (rem_mem.1 this).2⟩
      have hmem : ∀ q, q ∈ l1.filterMap (fun i => (zipR ss rs)[i]?) → ∃ x, x ∈ l1 ∧ q.1 = ss.getD x .nil := by
        intro q hq
        obtain ⟨x, hx, hxq⟩ := List.mem_filterMap.1 hq
        obtain ⟨p', hp', hpx⟩ := hzip x (Nat.lt_trans (hl1 x hx).1 hlt)
        rw [hp'] at hxq; cases hxq
        exact ⟨x, hx, hpx⟩
      rw [h1, List.filterMap_append, List.filterMap_cons, hp] at hrun
      have hpair : (l1.filterMap fun i => (zipR ss rs)[i]?).Pairwise (fun a b => Disj b.1 a.1) := by
        have hsorted : l1.Pairwise (· < ·) := by
          have hs : (rem ops.size listed).Pairwise (· < ·) := List.Pairwise.filter _ List.pairwise_lt_range
          rw [h1] at hs
          exact (List.pairwise_append.1 hs).1
        refine List.Pairwise.filterMap (R := fun x y => x < y ∧ x < i ∧ y < i) _ ?_ ?_
        · intro x y hxy b hb b' hb'
          obtain ⟨px, hpx, hpx1⟩ := hzip x (by omega)
          obtain ⟨py, hpy, hpy1⟩ := hzip y (by omega)
          rw [hpx] at hb; cases hb
          rw [hpy] at hb'; cases hb'
          rw [hpx1, hpy1]
          exact disj_of ((hok y (by omega)).1.2 x hxy.1).2
        · exact (List.pairwise_iff_forall_sublist.2 fun {x y} hxy => ⟨List.pairwise_iff_forall_sublist.1 hsorted hxy, (hl1 x (hxy.subset (by simp))).1, (hl1 y (hxy.subset (by simp))).1⟩)
      have hfront := to_front (VC := VC) (x := p) (l2 := l2.filterMap fun i => (zipR ss rs)[i]?) (Q := (· = σ')) (l1.filterMap fun i => (zipR ss rs)[i]?) σ
        (fun q hq => by
          obtain ⟨x, hx, hqx⟩ := hmem q hq
          rw [hqx, hpi]
          rcases c3 x (hl1 x hx).1 with h | h
          · have := hanc x h
            have hxl := (hl1 x hx).2
            have hxs : x < listed.size := by have := (hl1 x hx).1; omega
            simp [hxs] at this hxl
            rw [this] at hxl; cases hxl
          · exact h)
        (fun q hq => by
          obtain ⟨x, hx, hqx⟩ := hmem q hq
          rw [hqx]; exact (hok x (Nat.lt_trans (hl1 x hx).1 hlt)).2)
        (by rw [hpi]; exact c5)
        (fun q hq => by
          obtain ⟨x, hx, hqx⟩ := hmem q hq
          rw [hqx]; exact hfr x (by rw [h1]; simp [hx]))
        (by rw [hpi]; exact hfr i hir) hpair
        (fun q hq => by
          obtain ⟨x, hx, hqx⟩ := hmem q hq
          rw [hqx, hpi]; exact disj_of (c4 x (hl1 x hx).1).2) hrun
      rw [← List.filterMap_append, ← h2] at hfront
      obtain ⟨si, ri⟩ := p
      obtain ⟨σ1, ob, hst, hob, hrest⟩ := hfront
      simp only at hpi
      obtain ⟨o, ho⟩ : ∃ o, ops[i]? = some o := ⟨_, Array.getElem?_eq_getElem hlt⟩
      have hres : resOp P ops o = some si := by
        have := allSome_get (i := i) hss
        rw [List.getElem?_map] at this
        have ho' : ops.toList[i]? = some o := by simpa using ho
        rw [ho'] at this
        simp only [Option.map_some] at this
        have hss' : ss[i]? = some si := by
          have hil : i < ss.length := by omega
          rw [List.getElem?_eq_getElem hil]
          simp [List.getD, List.getElem?_eq_getElem hil] at hpi
          rw [hpi]
        rw [hss'] at this
        simpa using this
      have hstep := stepE_ok (C := C) hVC hres hs hst hob (K := wpAny P .any ops Q fuel (listed.setIfInBounds i true)) (Q := Q) (fun a' w' G' hs' => by
        refine ih (listed.setIfInBounds i true) G' σ1 a' w' (by simpa using hsz) ?_ ?_ hs' ?_ hrest
        · rw [h2]; rw [h1] at hf; simp at hf ⊢; omega
        · intro j x hj hjn hx
          by_cases hji : j = i
          · subst hji; exact getD_set_true (hanc x hx)
          · rw [getD_set_ne true (Ne.symm hji)] at hj
            exact getD_set_true (hcl j x hj hjn hx)
        · intro j hj n hn
          have hj' : j ∈ rem ops.size listed := by rw [h1]; rw [h2] at hj; simp at hj ⊢; rcases hj with h | h <;> simp [h]
          have hjlt := (rem_mem.1 hj').1
          have hji : j ≠ i := by
            rintro rfl
            have := (rem_mem.1 hj).2
            have hjs : j < listed.size := by omega
            simp [hjs] at this
          have hdisj : Disj (ss.getD j .nil) si := by
            rw [hpi]
            rcases Nat.lt_or_gt_of_ne hji with h | h
            · exact disj_of (c4 j h).1
            · exact disj_of ((hok j hjlt).1.2 i h).2
          exact step_keeps (by rw [hpi]; exact c5) hst (hdisj n hn) (hfr j hj' n hn))
      show wpOp P ops Q i _ a w
      unfold wpOp
      rw [ho]
      simp only
      split
      · rename_i hw; rw [if_pos hw] at hstep; exact .inl hstep
      · rename_i hw; rw [if_neg hw] at hstep; exact hstep

theorem Sim.drew {G : Gh} {σ : Env} {a : Act} {w : World} (hs : Sim C G σ a w) (n : Nat) : Sim C G σ a { w with drawn := n } := by
  refine ⟨⟨⟨hs.g.kept.os, hs.g.kept.tape, hs.g.kept.output, hs.g.kept.size, hs.g.kept.le, hs.g.kept.block, hs.g.kept.rows⟩, hs.g.names, hs.g.dist, hs.g.imms, hs.g.pars, hs.g.ml, hs.g.pi, hs.g.imI⟩, hs.defers, hs.size, fun s hsl => ?_, hs.hi⟩
  exact VR.mono (G := G) (G' := G) (w := w) (w' := { w with drawn := n }) ⟨fun b o h => ⟨h, rfl⟩, fun h => h⟩ (fun p => ⟨fun b o h => ⟨h, rfl⟩, fun h => h⟩) _ _ (fun n _ => ⟨fun b o h => ⟨h, rfl⟩, fun h => h⟩) (hs.val s hsl)

theorem Sim.scrubs {G : Gh} {σ : Env} {a : Act} {w : World} (hs : Sim C G σ a w) (ns : List Nat) : Sim C G (σ.scrubs ns) a w := by
  refine ⟨hs.g, hs.defers, by simpa [scrubs_len] using hs.size, fun s hsl => ?_, hs.hi⟩
  rcases scrubs_get ns σ s with h | ⟨h, _⟩
  · rw [h]; simp [VR]
  · rw [h]; exact hs.ev s

/-- the names that a region may make -/
def regNames (ss : List VStep) : List Nat := ss.flatMap VStep.names

theorem draw_ok (hVC : ∀ f args r, VC f args r → VCall P f args r) (hm : P.follows .mixedOrders = true) {id : Nat} {ops : Array Oper} {ss : List VStep} {rs : List AV} {Q : Exit → Act → World → Prop} {σ σ' : Env} {os : List Prop} {G : Gh} {a : Act} {w : World}
    (hss : allSome (ops.toList.map (resOp P ops)) = some ss) (hok : drawOk ops ss = true) (hs : Sim C G σ a w) (hr : runE VC ss rs (σ.scrubs (regNames ss)) = some (σ', os)) (hos : ∀ p, p ∈ os → p)
    (hQ : ∀ a' w' G', Sim C G' σ' a' w' → Q .normal a' w') : (Code.region id ops true).wp P Q a w := by
  refine wp_region_any hm ?_
  have hlen : ss.length = ops.size := by have := allSome_len hss; simpa using this.symm
  have hrem : rem ops.size (Array.replicate ops.size false) = List.range ops.size := by
    unfold rem
    apply List.filter_eq_self.2
    intro i hi
    have := List.mem_range.1 hi
    simp [this]
  refine any_order (rs := rs) hVC hss hok hQ ops.size _ G _ a _ (by simp) (by rw [hrem]; simp) ?_ ((hs.scrubs (regNames ss)).drew _) ?_ ?_
  · intro i x hi hin
    simp [hin] at hi
  · intro i hi n hn j
    rcases scrubs_get (regNames ss) σ j with h | ⟨h, h2⟩
    · rw [h]; rfl
    · rw [h]
      refine h2 n ?_
      rw [hrem] at hi
      have hil : i < ss.length := by have := List.mem_range.1 hi; omega
      refine List.mem_flatMap.2 ⟨ss[i], List.getElem_mem hil, ?_⟩
      simpa [List.getD, List.getElem?_eq_getElem hil] using hn
  · rw [hrem]
    have : (List.range ops.size).filterMap (fun i => (zipR ss rs)[i]?) = zipR ss rs := by
      have hl : (zipR ss rs).length = ops.size := by rw [zipR_len, hlen]
      rw [← hl]
      generalize zipR ss rs = l
      apply List.ext_getElem?
      intro i
      rw [show (fun i => l[i]?) = (fun i => l[i]?) from rfl]
      have : ∀ (m : List (VStep × AV)), (List.range m.length).filterMap (fun i => m[i]?) = m := by
        intro m
        induction m with
        | nil => rfl
        | cons x m ih =>
          rw [List.length_cons, List.range_succ_eq_map, List.filterMap_cons]
          simp only [List.getElem?_cons_zero, List.filterMap_map]
          congr 1
      rw [this]
    rw [this]
    exact runTo_of_runE hr hos
end
end Go.Proofs.LV

namespace Go.Proofs.LV
open Go Go.RowKit
set_option linter.unusedVariables false
set_option linter.unusedSimpArgs false

/-! ## Code -/
def resC (P : Program) : Code → Option VCode
  | .skip => some .skip
  | .region _ ops d => match allSome (ops.toList.map (resOp P ops)) with
    | some ss => if d = true then (if P.follows .mixedOrders = true ∧ drawOk ops ss = true then some (.region true ss) else none) else some (.region false ss)
    | none => none
  | .seq a b => match resC P a, resC P b with | some x, some y => some (.seq x y) | _, _ => none
  | .cond c a b => match c, resC P a, resC P b with | .tmp t, some x, some y => some (.cond (.t t) x y) | .const (.bool v), some x, some y => some (.cond (.k (.b v)) x y) | _, _, _ => none
  | .block id b => match resC P b with | some x => some (.block id x) | none => none
  | .loop b => match resC P b with | some x => some (.loop x) | none => none
  | .exit id => some (.exit id)
  | .ret => some .ret
  | _ => none

inductive Ex where
  | normal
  | exit (id : Nat)
  | ret
def Ex.to : Ex → Exit
  | .normal => .normal
  | .exit id => .exit id
  | .ret => .ret
def Ex.inBlock (id : Nat) : Ex → Ex
  | .exit j => if j = id then .normal else .exit j
  | e => e

/-- a run of the typed code: from an environment to an ending and an environment -/
inductive Exec (VC : FuncId → List AV → AV → Prop) (ps : List Nat) : VCode → Env → Ex → Env → Prop where
  | skip {σ} : Exec VC ps .skip σ .normal σ
  | region {ss rs σ σ' os} : runX VC true ss rs σ = some (σ', os) → (∀ p, p ∈ os → p) → Exec VC ps (.region false ss) σ .normal (σ'.clear ps)
  | regionD {ss rs σ σ' os} : runE VC ss rs (σ.scrubs (regNames ss)) = some (σ', os) → (∀ p, p ∈ os → p) → Exec VC ps (.region true ss) σ .normal (σ'.clear ps)
  | seq {a b σ σ' e σ''} : Exec VC ps a σ .normal σ' → Exec VC ps b σ' e σ'' → Exec VC ps (.seq a b) σ e σ''
  | seqX {a b σ e σ'} : Exec VC ps a σ e σ' → e ≠ .normal → Exec VC ps (.seq a b) σ e σ'
  | condT {t a b σ e σ'} : σ.getD t .any = .b true → Exec VC ps a (σ.set t .any) e σ' → Exec VC ps (.cond (.t t) a b) σ e σ'
  | condF {t a b σ e σ'} : σ.getD t .any = .b false → Exec VC ps b (σ.set t .any) e σ' → Exec VC ps (.cond (.t t) a b) σ e σ'
  | condKT {a b σ e σ'} : Exec VC ps a σ e σ' → Exec VC ps (.cond (.k (.b true)) a b) σ e σ'
  | condKF {a b σ e σ'} : Exec VC ps b σ e σ' → Exec VC ps (.cond (.k (.b false)) a b) σ e σ'
  | block {id b σ e σ'} : Exec VC ps b σ e σ' → Exec VC ps (.block id b) σ (e.inBlock id) σ'
  | loopX {b σ e σ'} : Exec VC ps b σ e σ' → e ≠ .normal → Exec VC ps (.loop b) σ e σ'
  | loopN {b σ σ' e σ''} : Exec VC ps b σ .normal σ' → Exec VC ps (.loop b) σ' e σ'' → Exec VC ps (.loop b) σ e σ''
  | exit {id σ} : Exec VC ps (.exit id) σ (.exit id) σ
  | ret {σ} : Exec VC ps .ret σ .ret σ
  | forgetR {c σ e σ'} (qs : List Nat) : Exec VC ps c σ e σ' → Exec VC ps c σ e (σ'.clear qs)
  | renameR {c σ e σ'} (n m : Nat) : n < HI → m < HI → Exec VC ps c σ e σ' → Exec VC ps c σ e (σ'.rnm n m)
  | forget {c σ e σ'} (qs : List Nat) : Exec VC ps c (σ.clear qs) e σ' → Exec VC ps c σ e σ'

section
variable {P : Program} {C : Ctx} {VC : FuncId → List AV → AV → Prop} {ps : List Nat}

/-- from an environment the code runs to an ending and an environment -/
def Goes (P : Program) (C : Ctx) (σ : Env) (e : Ex) (σ' : Env) (F : (Exit → Act → World → Prop) → Act → World → Prop) : Prop :=
  ∀ {G : Gh} {a : Act} {w : World} {Q : Exit → Act → World → Prop}, Sim C G σ a w → (∀ a' w' G', Sim C G' σ' a' w' → Q e.to a' w') → F Q a w

theorem Sim.unset {G : Gh} {σ : Env} {a : Act} {w : World} (hs : Sim C G σ a w) (t : Nat) : Sim C G (σ.set t .any) a w := by
  refine ⟨hs.g, hs.defers, by simpa using hs.size, fun s hsl => ?_, hs.hi⟩
  by_cases h : t = s
  · subst h
    have : (σ.set t .any).getD t .any = .any := by
      simp only [List.getD, List.getElem?_set]
      split <;> (try split) <;> simp_all
    rw [this]; simp [VR]
  · have : (σ.set t .any).getD s .any = σ.getD s .any := by simp only [List.getD, List.getElem?_set_ne h]
    rw [this]; exact hs.ev s

theorem resC_skip {c0 : Code} (h : resC P c0 = some .skip) : c0 = .skip := by
  cases c0 <;> simp only [resC] at h <;> first | rfl | ((repeat' split at h) <;> cases h)
theorem resC_region {c0 : Code} {d : Bool} {ss : List VStep} (h : resC P c0 = some (.region d ss)) : ∃ id ops, c0 = .region id ops d ∧ allSome (ops.toList.map (resOp P ops)) = some ss ∧ (d = true → P.follows .mixedOrders = true ∧ drawOk ops ss = true) := by
  cases c0 <;> simp only [resC] at h <;> (try cases h)
  case region id ops d' =>
    split at h
    · rename_i ss' hss
      cases d' with
      | true =>
        simp only [if_true] at h
        split at h
        · rename_i hm; cases h; exact ⟨id, ops, rfl, hss, fun _ => hm⟩
        · cases h
      | false => simp only [Bool.false_eq_true, if_false] at h; cases h; exact ⟨id, ops, rfl, hss, fun h => nomatch h⟩
    · cases h
  all_goals ((repeat' split at h) <;> cases h)
theorem resC_seq {c0 : Code} {x y : VCode} (h : resC P c0 = some (.seq x y)) : ∃ x0 y0, c0 = .seq x0 y0 ∧ resC P x0 = some x ∧ resC P y0 = some y := by
  cases c0 <;> simp only [resC] at h
  case seq x0 y0 => split at h <;> cases h; exact ⟨x0, y0, rfl, by assumption, by assumption⟩
  all_goals (repeat' split at h) <;> cases h
theorem resC_cond {c0 : Code} {t : Nat} {x y : VCode} (h : resC P c0 = some (.cond (.t t) x y)) : ∃ x0 y0, c0 = .cond (.tmp t) x0 y0 ∧ resC P x0 = some x ∧ resC P y0 = some y := by
  cases c0 <;> simp only [resC] at h
  case cond c0 x0 y0 => split at h <;> cases h; exact ⟨x0, y0, rfl, by assumption, by assumption⟩
  all_goals (repeat' split at h) <;> cases h
theorem resC_condK {c0 : Code} {v : Bool} {x y : VCode} (h : resC P c0 = some (.cond (.k (.b v)) x y)) : ∃ x0 y0, c0 = .cond (.const (.bool v)) x0 y0 ∧ resC P x0 = some x ∧ resC P y0 = some y := by
  cases c0 <;> simp only [resC] at h
  case cond c0 x0 y0 => split at h <;> cases h; exact ⟨x0, y0, rfl, by assumption, by assumption⟩
  all_goals (repeat' split at h) <;> cases h
theorem resC_block {c0 : Code} {id : Nat} {x : VCode} (h : resC P c0 = some (.block id x)) : ∃ x0, c0 = .block id x0 ∧ resC P x0 = some x := by
  cases c0 <;> simp only [resC] at h
  case block id0 x0 => split at h <;> cases h; exact ⟨x0, rfl, by assumption⟩
  all_goals (repeat' split at h) <;> cases h
theorem resC_loop {c0 : Code} {x : VCode} (h : resC P c0 = some (.loop x)) : ∃ x0, c0 = .loop x0 ∧ resC P x0 = some x := by
  cases c0 <;> simp only [resC] at h
  case loop x0 => split at h <;> cases h; exact ⟨x0, rfl, by assumption⟩
  all_goals (repeat' split at h) <;> cases h
theorem resC_exit {c0 : Code} {id : Nat} (h : resC P c0 = some (.exit id)) : c0 = .exit id := by
  cases c0 <;> simp only [resC] at h <;> first | (cases h; rfl) | ((repeat' split at h) <;> cases h)
theorem resC_ret {c0 : Code} (h : resC P c0 = some .ret) : c0 = .ret := by
  cases c0 <;> simp only [resC] at h <;> first | rfl | ((repeat' split at h) <;> cases h)

theorem exec_ok (hVC : ∀ f args r, VC f args r → VCall P f args r) {c : VCode} {σ : Env} {e : Ex} {σ' : Env} (h : Exec VC ps c σ e σ') :
    (∀ c0, resC P c0 = some c → Goes P C σ e σ' (c0.wp P)) ∧ (∀ b b0, c = .loop b → resC P b0 = some b → ∃ n, Goes P C σ e σ' (fun Q => Code.rounds P b0 Q n)) := by
  induction h with
  | @skip σ => exact ⟨fun c0 hc G a w Q hs hQ => by rw [resC_skip hc]; exact wp_skip (hQ _ _ _ hs), fun b b0 h => by cases h⟩
  | @region ss rs σ σ' os hr hos =>
    refine ⟨fun c0 hc G a w Q hs hQ => ?_, fun b b0 h => by cases h⟩
    obtain ⟨id, ops, rfl, hss, _⟩ := resC_region hc
    exact wp_region_list (wpList_run hVC ops.toList _ rs hss hs hr hos (fun a' w' G' hs' => hQ _ _ _ (hs'.clear ps)))
  | @regionD ss rs σ σ' os hr hos =>
    refine ⟨fun c0 hc G a w Q hs hQ => ?_, fun b b0 h => by cases h⟩
    obtain ⟨id, ops, rfl, hss, hd⟩ := resC_region hc
    exact draw_ok hVC (hd rfl).1 hss (hd rfl).2 hs hr hos (fun a' w' G' hs' => hQ _ _ _ (hs'.clear ps))
  | @seq x y σ σ1 e σ2 h1 h2 ih1 ih2 =>
    refine ⟨fun c0 hc G a w Q hs hQ => ?_, fun b b0 h => by cases h⟩
    obtain ⟨x0, y0, rfl, hx, hy⟩ := resC_seq hc
    exact wp_seq (ih1.1 x0 hx hs (fun a' w' G' hs' => ih2.1 y0 hy hs' hQ))
  | @seqX x y σ e σ1 h1 hne ih1 =>
    refine ⟨fun c0 hc G a w Q hs hQ => ?_, fun b b0 h => by cases h⟩
    obtain ⟨x0, y0, rfl, hx, hy⟩ := resC_seq hc
    refine wp_seq (ih1.1 x0 hx hs (fun a' w' G' hs' => ?_))
    cases e with
    | normal => exact absurd rfl hne
    | exit id => exact hQ _ _ _ hs'
    | ret => exact hQ _ _ _ hs'
  | @condT t x y σ e σ1 ht h1 ih1 =>
    refine ⟨fun c0 hc G a w Q hs hQ => ?_, fun b b0 h => by cases h⟩
    obtain ⟨x0, y0, rfl, hx, hy⟩ := resC_cond hc
    have := hs.ev t; rw [ht] at this
    exact wp_cond_true this (ih1.1 x0 hx (hs.unset t) hQ)
  | @condF t x y σ e σ1 ht h1 ih1 =>
    refine ⟨fun c0 hc G a w Q hs hQ => ?_, fun b b0 h => by cases h⟩
    obtain ⟨x0, y0, rfl, hx, hy⟩ := resC_cond hc
    have := hs.ev t; rw [ht] at this
    exact wp_cond_false this (ih1.1 y0 hy (hs.unset t) hQ)
  | @condKT x y σ e σ1 h1 ih1 =>
    refine ⟨fun c0 hc G a w Q hs hQ => ?_, fun b b0 h => by cases h⟩
    obtain ⟨x0, y0, rfl, hx, hy⟩ := resC_condK hc
    exact wp_cond_true rfl (ih1.1 x0 hx hs hQ)
  | @condKF x y σ e σ1 h1 ih1 =>
    refine ⟨fun c0 hc G a w Q hs hQ => ?_, fun b b0 h => by cases h⟩
    obtain ⟨x0, y0, rfl, hx, hy⟩ := resC_condK hc
    exact wp_cond_false rfl (ih1.1 y0 hy hs hQ)
  | @block id b σ e σ1 h1 ih1 =>
    refine ⟨fun c0 hc G a w Q hs hQ => ?_, fun b b0 h => by cases h⟩
    obtain ⟨b0, rfl, hb⟩ := resC_block hc
    refine wp_block (ih1.1 b0 hb hs (fun a' w' G' hs' => ?_))
    have := hQ _ _ _ hs'
    cases e with
    | normal => exact this
    | exit j =>
      simp only [Ex.inBlock] at this
      by_cases hj : j = id
      · simp only [hj, if_true] at this
        simp only [Ex.to, Exit.inBlock, hj, if_true]; exact this
      · simp only [hj, if_false] at this
        simp only [Ex.to, Exit.inBlock, hj, if_false]; exact this
    | ret => exact this
  | @loopX b σ e σ1 h1 hne ih1 =>
    have key : ∀ b0, resC P b0 = some b → Goes P C σ e σ1 (fun Q => Code.rounds P b0 Q 1) := by
      intro b0 hb G a w Q hs hQ
      show Code.rounds P b0 Q 1 a w
      rw [rounds_succ]
      refine ih1.1 b0 hb hs (fun a' w' G' hs' => ?_)
      cases e with
      | normal => exact absurd rfl hne
      | exit id => exact hQ _ _ _ hs'
      | ret => exact hQ _ _ _ hs'
    refine ⟨fun c0 hc G a w Q hs hQ => ?_, fun b' b0 h hb => by cases h; exact ⟨1, key b0 hb⟩⟩
    obtain ⟨b0, rfl, hb⟩ := resC_loop hc
    exact wp_loop_rounds 1 (key b0 hb hs hQ)
  | @loopN b σ σ1 e σ2 h1 h2 ih1 ih2 =>
    have key : ∀ b0, resC P b0 = some b → ∃ n, Goes P C σ e σ2 (fun Q => Code.rounds P b0 Q n) := by
      intro b0 hb
      obtain ⟨n, hn⟩ := ih2.2 b b0 rfl hb
      refine ⟨n + 1, fun {G a w Q} hs hQ => ?_⟩
      show Code.rounds P b0 Q (n + 1) a w
      rw [rounds_succ]
      exact ih1.1 b0 hb hs (fun a' w' G' hs' => hn hs' hQ)
    refine ⟨fun c0 hc G a w Q hs hQ => ?_, fun b' b0 h hb => by cases h; exact key b0 hb⟩
    obtain ⟨b0, rfl, hb⟩ := resC_loop hc
    obtain ⟨n, hn⟩ := key b0 hb
    exact wp_loop_rounds n (hn hs hQ)
  | @exit id σ => exact ⟨fun c0 hc G a w Q hs hQ => by rw [resC_exit hc]; exact wp_exit (hQ _ _ _ hs), fun b b0 h => by cases h⟩
  | @forgetR c σ e σ1 qs h1 ih1 =>
    refine ⟨fun c0 hc G a w Q hs hQ => ih1.1 c0 hc hs (fun a' w' G' hs' => hQ _ _ _ (hs'.clear qs)), fun b b0 h hb => ?_⟩
    obtain ⟨n, hn⟩ := ih1.2 b b0 h hb
    exact ⟨n, fun {G a w Q} hs hQ => hn hs (fun a' w' G' hs' => hQ _ _ _ (hs'.clear qs))⟩
  | @renameR c σ e σ1 n m hn hm h1 ih1 =>
    refine ⟨fun c0 hc G a w Q hs hQ => ih1.1 c0 hc hs (fun a' w' G' hs' => hQ _ _ _ (hs'.rnm hn hm)), fun b b0 h hb => ?_⟩
    obtain ⟨k, hk⟩ := ih1.2 b b0 h hb
    exact ⟨k, fun {G a w Q} hs hQ => hk hs (fun a' w' G' hs' => hQ _ _ _ (hs'.rnm hn hm))⟩
  | @forget c σ e σ1 qs h1 ih1 =>
    refine ⟨fun c0 hc G a w Q hs hQ => ih1.1 c0 hc (hs.clear qs) hQ, fun b b0 h hb => ?_⟩
    obtain ⟨n, hn⟩ := ih1.2 b b0 h hb
    exact ⟨n, fun {G a w Q} hs hQ => hn (hs.clear qs) hQ⟩
  | @ret σ => exact ⟨fun c0 hc G a w Q hs hQ => by rw [resC_ret hc]; exact wp_ret (hQ _ _ _ hs), fun b b0 h => by cases h⟩
end
end Go.Proofs.LV
