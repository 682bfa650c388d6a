/- Regions whose order is drawn: any order that the edges allow ends as the text's order does. -/
import Derived.Test.YtdffgjembkanoaaLvRun
import Derived.Test.YtdffgjembkanoaaLvDraw
namespace Go.Proofs.LV
open Go Go.RowKit
set_option linter.unusedVariables false
set_option linter.unusedSimpArgs false

/-! ## to the front -/
def Disj (a b : VStep) : Prop := ∀ n, n ∈ a.names → n ∉ b.names
def disjB (a b : VStep) : Bool := a.names.all fun n => !b.names.contains n
theorem disj_of {a b : VStep} (h : disjB a b = true) : Disj a b := by
  intro n hn hb
  unfold disjB at h
  have := List.all_eq_true.1 h n hn
  simp at this
  exact this hb

/-- an operation goes to the front; J: what holds of the operations that are left and the environment -/
theorem to_front {St : VStep → AV → Env → Option (Env × Prop)} {e : Nat → VStep × AV} {J : (Nat → Prop) → Env → Prop} {x : Nat} {l2 : List (VStep × AV)} {Q : Env → Prop}
    (pres : ∀ (S : Nat → Prop) (y : Nat) (σ σ1 : Env) (o : Prop), J S σ → S y → (∀ z, S z → z < y → swapOk (e z).1 (e y).1 = true) → St (e y).1 (e y).2 σ = some (σ1, o) → J (fun z => S z ∧ z ≠ y) σ1)
    (swp : ∀ (S : Nat → Prop) (y x : Nat) (σ : Env) (l : List (VStep × AV)), J S σ → S y → S x → y < x → swapOk (e y).1 (e x).1 = true → RunTo St (e y :: e x :: l) σ Q → RunTo St (e x :: e y :: l) σ Q) :
    ∀ (l1 : List Nat) (S : Nat → Prop) (σ : Env), J S σ → (∀ y, y ∈ l1 → S y) → S x → l1.Pairwise (· < ·) → (∀ y, y ∈ l1 → y < x ∧ swapOk (e y).1 (e x).1 = true) → (∀ z, S z → z ∈ l1 ∨ x ≤ z) →
      RunTo St (l1.map e ++ e x :: l2) σ Q → RunTo St (e x :: (l1.map e ++ l2)) σ Q
  | [], S, σ, _, _, _, _, _, _, h => h
  | y :: l1, S, σ, hJ, hS, hx, hp, hs, hz, h => by
    obtain ⟨σ1, o, h1, ho, h2⟩ := h
    have hp' := List.pairwise_cons.1 hp
    have hy := hs y (by simp)
    have hmin : ∀ z, S z → z < y → swapOk (e z).1 (e y).1 = true := by
      intro z hSz hlt
      rcases hz z hSz with h | h
      · rcases List.mem_cons.1 h with rfl | h
        · omega
        · have := hp'.1 z h; omega
      · omega
    have ih := to_front pres swp l1 (fun z => S z ∧ z ≠ y) σ1 (pres S y σ σ1 o hJ (hS y (by simp)) hmin h1) (fun z hzm => ⟨hS z (by simp [hzm]), fun e => by have := hp'.1 z hzm; omega⟩) ⟨hx, by omega⟩ hp'.2 (fun z hzm => hs z (by simp [hzm]))
      (fun z hz' => by
        rcases hz z hz'.1 with h | h
        · rcases List.mem_cons.1 h with h | h
          · exact absurd h hz'.2
          · exact .inl h
        · exact .inr h) h2
    exact swp S y x σ _ hJ (hS y (by simp)) hx hy.1 hy.2 ⟨σ1, o, h1, ho, ih⟩

/-! ## the check -/
def VStep.nil : VStep := ⟨none, .mv, [], none⟩
def depsOf (o : Oper) : List Nat := o.after.toList.filterMap fun e => if Region.binds .any e = true then some e.on else none
/-- what goes ahead, through others too -/
def closeD : List (List Nat) → List (List Nat) → List (List Nat)
  | acc, [] => acc
  | acc, d :: r => closeD (acc ++ [(d ++ d.flatMap fun k => acc.getD k []).eraseDups]) r
def drawOk (ops : Array Oper) (ss : List VStep) : Bool :=
  let D := ops.toList.map depsOf
  let A := closeD [] D
  ((List.range ops.size).all fun i =>
    (D.getD i []).all (fun k => decide (k < i)) &&
    (A.getD i []).all (fun x => (D.getD i []).contains x || (D.getD i []).any fun k => (A.getD k []).contains x) &&
    (List.range i).all (fun x => (A.getD i []).contains x || swapOk (ss.getD x .nil) (ss.getD i .nil)) &&
    (List.range i).all (fun x => disjB (ss.getD x .nil) (ss.getD i .nil) && disjB (ss.getD i .nil) (ss.getD x .nil)) &&
    (ss.getD i .nil).clean)

def zipR : List VStep → List AV → List (VStep × AV)
  | [], _ => []
  | s :: l, rs => (s, bif s.kd.isCall then rs.headD .any else .any) :: zipR l (bif s.kd.isCall then rs.tail else rs)

theorem zipR_len : ∀ (ss : List VStep) (rs : List AV), (zipR ss rs).length = ss.length
  | [], _ => rfl
  | s :: l, rs => by simp [zipR, zipR_len l]
theorem zipR_fst : ∀ (ss : List VStep) (rs : List AV) (i : Nat), ((zipR ss rs)[i]?).map (·.1) = ss[i]?
  | [], _, i => by simp [zipR]
  | s :: l, rs, 0 => by simp [zipR]
  | s :: l, rs, i + 1 => by simp [zipR, zipR_fst l]

theorem runTo_of_run {VC : FuncId → List AV → AV → Prop} {m : Md} : ∀ {ss : List VStep} {rs : List AV} {σ σ' : Env} {os : List Prop}, runX VC m ss rs σ = some (σ', os) → (∀ p, p ∈ os → p) → RunTo (stepX VC m) (zipR ss rs) σ (· = σ')
  | [], rs, σ, σ', os, h, _ => by simp only [runX] at h; cases h; rfl
  | s :: l, rs, σ, σ', os, h, hos => by
    unfold runX at h
    split at h
    · rename_i σ1 o h1
      split at h
      · rename_i σ2 os2 h2
        cases h
        refine ⟨σ1, o, h1, ?_, runTo_of_run h2 fun p hp => hos p ?_⟩
        · cases how : s.kd.owes with
          | true => exact hos o (by simp [how])
          | false => exact owes_stepX how h1
        · cases s.kd.owes <;> simp [hp]
      · cases h
    · cases h

/-! ## any order -/
def rem (n : Nat) (listed : Array Bool) : List Nat := (List.range n).filter fun i => !listed.getD i true

theorem rem_mem {n i : Nat} {listed : Array Bool} : i ∈ rem n listed ↔ i < n ∧ listed.getD i true = false := by
  simp [rem]
theorem rem_split {n i : Nat} {listed : Array Bool} (hn : listed.size = n) (hi : i ∈ rem n listed) :
    ∃ l1 l2, rem n listed = l1 ++ i :: l2 ∧ rem n (listed.setIfInBounds i true) = l1 ++ l2 ∧ (∀ x, x ∈ l1 → x < i) := by
  obtain ⟨hlt, hl⟩ := rem_mem.1 hi
  have hr : List.range n = List.range i ++ i :: (List.range (n - i - 1)).map (i + 1 + ·) := by
    have h1 : n = i + (1 + (n - i - 1)) := by omega
    rw [h1, List.range_add, List.range_add]
    simp [Function.comp_def]
    intro a _
    omega
  refine ⟨(List.range i).filter (fun i => !listed.getD i true), ((List.range (n - i - 1)).map (i + 1 + ·)).filter (fun i => !listed.getD i true), ?_, ?_, ?_⟩
  · rw [rem, hr, List.filter_append, List.filter_cons]
    simp [hl]
  · rw [rem, hr, List.filter_append, List.filter_cons]
    have h0 : (listed.setIfInBounds i true).getD i true = true := by simp [show i < listed.size by omega]
    rw [h0]
    congr 1
    · apply List.filter_congr
      intro x hx
      rw [getD_set_ne true (by have := List.mem_range.1 hx; omega)]
    · simp only [Bool.not_true, Bool.false_eq_true, if_false]
      apply List.filter_congr
      intro x hx
      obtain ⟨y, _, rfl⟩ := List.mem_map.1 hx
      rw [getD_set_ne true (by omega)]
  · intro x hx
    exact List.mem_range.1 (List.mem_filter.1 hx).1

section
variable {P : Program} {C : Ctx} {VC : FuncId → List AV → AV → Prop}

theorem allSome_get {α : Type} : ∀ {l : List (Option α)} {xs : List α} {i : Nat}, allSome l = some xs → l[i]? = xs[i]?.map some
  | [], xs, i, h => by cases h; simp
  | none :: l, xs, i, h => by simp [allSome] at h
  | some x :: l, xs, i, h => by
    simp only [allSome] at h
    split at h
    · rename_i ys hy; cases h
      cases i with
      | zero => simp
      | succ i => simpa using allSome_get (i := i) hy
    · cases h
theorem allSome_len {α : Type} : ∀ {l : List (Option α)} {xs : List α}, allSome l = some xs → l.length = xs.length
  | [], xs, h => by cases h; rfl
  | none :: l, xs, h => by simp [allSome] at h
  | some x :: l, xs, h => by
    simp only [allSome] at h
    split at h
    · rename_i ys hy; cases h
      simp [allSome_len hy]
    · cases h

/-- the operation at a place, with what its call is said to give -/
def entry (ss : List VStep) (rs : List AV) (i : Nat) : VStep × AV := (zipR ss rs).getD i (.nil, .any)
theorem any_order (hVC : ∀ f args r, VC f args r → VCall P f args r) {m : Md} {ops : Array Oper} {ss : List VStep} {rs : List AV} {Q : Exit → Act → World → Prop} {σ' : Env} {J : (Nat → Prop) → Env → Prop}
    (hss : allSome (ops.toList.map (resOp P ops)) = some ss) (hok : drawOk ops ss = true) (hQ : ∀ a' w' G', Sim C G' σ' a' w' → Q .normal a' w')
    (pres : ∀ (S : Nat → Prop) (y : Nat) (σ σ1 : Env) (o : Prop), (∀ z, S z → z < ops.size) → J S σ → S y → (∀ z, S z → z < y → swapOk (entry ss rs z).1 (entry ss rs y).1 = true) → stepX VC m (entry ss rs y).1 (entry ss rs y).2 σ = some (σ1, o) → J (fun z => S z ∧ z ≠ y) σ1)
    (swp : ∀ (S : Nat → Prop) (y x : Nat) (σ : Env) (l : List (VStep × AV)) (Q : Env → Prop), (∀ z, S z → z < ops.size) → J S σ → S y → S x → y < x → swapOk (entry ss rs y).1 (entry ss rs x).1 = true →
      RunTo (stepX VC m) (entry ss rs y :: entry ss rs x :: l) σ Q → RunTo (stepX VC m) (entry ss rs x :: entry ss rs y :: l) σ Q) :
    ∀ (fuel : Nat) (listed : Array Bool) (G : Gh) (σ : Env) (a : Act) (w : World), listed.size = ops.size → (rem ops.size listed).length ≤ fuel →
      (∀ i x, listed.getD i true = true → i < ops.size → x ∈ (closeD [] (ops.toList.map depsOf)).getD i [] → listed.getD x false = true) →
      Sim C G σ a w → J (fun i => i ∈ rem ops.size listed) σ →
      RunTo (stepX VC m) ((rem ops.size listed).map (entry ss rs)) σ (· = σ') → wpAny P .any ops Q fuel listed a w := by
  have hlen : ss.length = ops.size := by have := allSome_len hss; simpa using this.symm
  unfold drawOk at hok
  simp only [List.all_eq_true, List.mem_range, Bool.and_eq_true, decide_eq_true_eq, Bool.or_eq_true, List.any_eq_true, List.contains_iff_mem] at hok
  have hD : ∀ (i : Nat) (o : Oper), ops[i]? = some o → (ops.toList.map depsOf).getD i [] = depsOf o := by
    intro i o ho
    have : ops.toList[i]? = some o := by simpa using ho
    simp [List.getD, this]
  have hready : ∀ (i : Nat) (listed : Array Bool), i ∈ Region.ready .any ops listed → i < ops.size ∧ listed.getD i true = false ∧ ∀ k, k ∈ (ops.toList.map depsOf).getD i [] → listed.getD k false = true := by
    intro i listed h
    obtain ⟨h0, o, ho, hall⟩ := mem_ready.1 h
    refine ⟨(Array.getElem?_eq_some_iff.1 ho).1, h0, fun k hk => ?_⟩
    rw [hD i o ho] at hk
    unfold depsOf at hk
    obtain ⟨e, he, hek⟩ := List.mem_filterMap.1 hk
    split at hek
    · rename_i hb; cases hek
      exact hall e (by simpa using he) hb
    · cases hek
  have first : ∀ (listed : Array Bool), listed.size = ops.size → Region.ready .any ops listed = [] → rem ops.size listed = [] := by
    intro listed hsz hr
    cases hrem : rem ops.size listed with
    | nil => rfl
    | cons i r =>
      exfalso
      have hi : i ∈ rem ops.size listed := by rw [hrem]; simp
      obtain ⟨hlt, hl⟩ := rem_mem.1 hi
      have : i ∈ Region.ready .any ops listed := by
        refine mem_ready.2 ⟨hl, ops[i], Array.getElem?_eq_getElem hlt, fun e he hb => ?_⟩
        have hk : e.on ∈ (ops.toList.map depsOf).getD i [] := by
          rw [hD i ops[i] (Array.getElem?_eq_getElem hlt)]
          unfold depsOf
          exact List.mem_filterMap.2 ⟨e, by simpa using he, by simp [hb]⟩
        have hki := (hok i hlt).1.1.1.1 _ hk
        cases hle : listed.getD e.on true with
        | true =>
          have : e.on < listed.size := by omega
          simp [this] at hle ⊢; exact hle
        | false =>
          obtain ⟨l1, l2, h1, _, h3⟩ := rem_split hsz (rem_mem.2 ⟨by omega, hle⟩ : e.on ∈ rem ops.size listed)
          have hge : ∀ x, x ∈ rem ops.size listed → i ≤ x := by
            intro x hx
            have hs : (rem ops.size listed).Pairwise (· < ·) := List.Pairwise.filter _ List.pairwise_lt_range
            rw [hrem] at hs hx
            rcases List.mem_cons.1 hx with rfl | hx
            · exact Nat.le_refl _
            · exact Nat.le_of_lt ((List.pairwise_cons.1 hs).1 x hx)
          have := hge e.on (rem_mem.2 ⟨by omega, hle⟩)
          omega
      rw [hr] at this; cases this
  intro fuel
  induction fuel with
  | zero =>
    intro listed G σ a w hsz hf hcl hs hJ hrun
    have hnil : rem ops.size listed = [] := List.length_eq_zero_iff.1 (by omega)
    refine ⟨?_, ?_⟩
    · cases hr : Region.ready .any ops listed with
      | nil => rfl
      | cons i r =>
        have := hready i listed (by rw [hr]; simp)
        have hi := rem_mem.2 ⟨this.1, this.2.1⟩
        rw [hnil] at hi; cases hi
    · rw [hnil] at hrun
      simp only [List.map_nil, RunTo] at hrun
      subst hrun
      exact hQ _ _ _ hs
  | succ fuel ih =>
    intro listed G σ a w hsz hf hcl hs hJ hrun
    refine ⟨fun hr => ?_, fun i hi => ?_⟩
    · rw [first listed hsz hr] at hrun
      simp only [List.map_nil, RunTo] at hrun
      subst hrun
      exact hQ _ _ _ hs
    · obtain ⟨hlt, hl, hdeps⟩ := hready i listed hi
      have hir := rem_mem.2 ⟨hlt, hl⟩
      obtain ⟨l1, l2, h1, h2, h3⟩ := rem_split hsz hir
      obtain ⟨⟨⟨⟨c1, c2⟩, c3⟩, c4⟩, c5⟩ := hok i hlt
      have hanc : ∀ x, x ∈ (closeD [] (ops.toList.map depsOf)).getD i [] → listed.getD x false = true := by
        intro x hx
        rcases c2 x hx with h | ⟨k, hk, hkx⟩
        · exact hdeps x h
        · have hkl := hdeps k hk
          have hk' : k < ops.size := Nat.lt_trans (c1 k hk) hlt
          refine hcl k x ?_ hk' hkx
          have : k < listed.size := by omega
          simp [this] at hkl ⊢; exact hkl
      have hent : ∀ x, x < ops.size → (entry ss rs x).1 = ss.getD x .nil := by
        intro x hx
        have hx' : x < (zipR ss rs).length := by rw [zipR_len]; omega
        have := zipR_fst ss rs x
        rw [List.getElem?_eq_getElem hx'] at this
        simp only [Option.map_some] at this
        simp [entry, List.getD, ← this, List.getElem?_eq_getElem hx']
      have hl1 : ∀ x, x ∈ l1 → x < i ∧ listed.getD x true = false := by
        intro x hx
        have : x ∈ rem ops.size listed := by rw [h1]; simp [hx]
        exact ⟨h3 x hx, (rem_mem.1 this).2⟩
      rw [h1, List.map_append, List.map_cons] at hrun
      have hsort : (rem ops.size listed).Pairwise (· < ·) := List.Pairwise.filter _ List.pairwise_lt_range
      have hsorted : l1.Pairwise (· < ·) := by
        have hs := hsort
        rw [h1] at hs
        exact (List.pairwise_append.1 hs).1
      have hafter : ∀ z, z ∈ l2 → i < z := by
        intro z hz
        have hs := hsort
        rw [h1] at hs
        exact (List.pairwise_cons.1 (List.pairwise_append.1 hs).2.1).1 z hz
      have hswap : ∀ z, z ∈ rem ops.size listed → z < i → swapOk (entry ss rs z).1 (entry ss rs i).1 = true := by
        intro x hx hxi
        rw [hent x (by omega), hent i hlt]
        rcases c3 x hxi with h | h
        · have := hanc x h
          have hxl := (rem_mem.1 hx).2
          have hxs : x < listed.size := by omega
          simp [hxs] at this hxl
          rw [this] at hxl; cases hxl
        · exact h
      have hfront := to_front (St := stepX VC m) (e := entry ss rs) (J := fun S σ => (∀ z, S z → z < ops.size) ∧ J S σ) (x := i) (l2 := l2.map (entry ss rs)) (Q := (· = σ'))
        (fun S y σ σ1 o hJ hy hz h => ⟨fun z hz' => hJ.1 z hz'.1, pres S y σ σ1 o hJ.1 hJ.2 hy hz h⟩) (fun S y x σ l hJ hy hx hlt hsw h => swp S y x σ l _ hJ.1 hJ.2 hy hx hlt hsw h)
        l1 (fun i => i ∈ rem ops.size listed) σ ⟨fun z hz => (rem_mem.1 hz).1, hJ⟩ (fun y hy => by rw [h1]; simp [hy]) hir hsorted
        (fun y hy => ⟨(hl1 y hy).1, hswap y (by rw [h1]; simp [hy]) (hl1 y hy).1⟩)
        (fun z hz => by
          rw [h1] at hz
          rcases List.mem_append.1 hz with h | h
          · exact .inl h
          · rcases List.mem_cons.1 h with h | h
            · exact .inr (by omega)
            · have := hafter z h; exact .inr (by omega)) hrun
      rw [← List.map_append, ← h2] at hfront
      have hpi := hent i hlt
      generalize hei : entry ss rs i = ei at hfront hpi
      obtain ⟨si, ri⟩ := ei
      obtain ⟨σ1, ob, hst, hob, hrest⟩ := hfront
      simp only at hpi
      obtain ⟨o, ho⟩ : ∃ o, ops[i]? = some o := ⟨_, Array.getElem?_eq_getElem hlt⟩
      have hres : resOp P ops o = some si := by
        have := allSome_get (i := i) hss
        rw [List.getElem?_map] at this
        have ho' : ops.toList[i]? = some o := by simpa using ho
        rw [ho'] at this
        simp only [Option.map_some] at this
        have hss' : ss[i]? = some si := by
          have hil : i < ss.length := by omega
          rw [List.getElem?_eq_getElem hil]
          simp [List.getD, List.getElem?_eq_getElem hil] at hpi
          rw [hpi]
        rw [hss'] at this
        simpa using this
      have hstep := stepX_ok (C := C) hVC hres hs hst hob (K := wpAny P .any ops Q fuel (listed.setIfInBounds i true)) (Q := Q) (fun a' w' G' hs' => by
        refine ih (listed.setIfInBounds i true) G' σ1 a' w' (by simpa using hsz) ?_ ?_ hs' ?_ hrest
        · rw [h2]; rw [h1] at hf; simp at hf ⊢; omega
        · intro j x hj hjn hx
          by_cases hji : j = i
          · subst hji; exact getD_set_true (hanc x hx)
          · rw [getD_set_ne true (Ne.symm hji)] at hj
            exact getD_set_true (hcl j x hj hjn hx)
        · have := pres (fun i => i ∈ rem ops.size listed) i σ σ1 ob (fun z hz => (rem_mem.1 hz).1) hJ hir (fun z hz hlt => hswap z hz hlt) (by rw [hei]; exact hst)
          have e : (fun z => z ∈ rem ops.size listed ∧ z ≠ i) = fun z => z ∈ rem ops.size (listed.setIfInBounds i true) := by
            funext z
            apply propext
            rw [h1, h2]
            have hni : i ∉ l1 := fun h => by have := (hl1 i h).1; omega
            have hni2 : i ∉ l2 := fun h => by have := hafter i h; omega
            constructor
            · rintro ⟨hz, hne⟩
              rcases List.mem_append.1 hz with h | h
              · exact List.mem_append_left _ h
              · rcases List.mem_cons.1 h with h | h
                · exact absurd h hne
                · exact List.mem_append_right _ h
            · intro hz
              rcases List.mem_append.1 hz with h | h
              · exact ⟨List.mem_append_left _ h, fun e => hni (e ▸ h)⟩
              · exact ⟨List.mem_append_right _ (List.mem_cons_of_mem _ h), fun e => hni2 (e ▸ h)⟩
          rw [e] at this
          exact this)
      show wpOp P ops Q i _ a w
      unfold wpOp
      rw [ho]
      simp only
      split
      · rename_i hw; rw [if_pos hw] at hstep; exact .inl hstep
      · rename_i hw; rw [if_neg hw] at hstep; exact hstep

theorem Sim.drew {G : Gh} {σ : Env} {a : Act} {w : World} (hs : Sim C G σ a w) (n : Nat) : Sim C G σ a { w with drawn := n } := by
  refine ⟨⟨⟨hs.g.kept.os, hs.g.kept.tape, hs.g.kept.output, hs.g.kept.size, hs.g.kept.le, hs.g.kept.block, hs.g.kept.rows⟩, hs.g.names, hs.g.dist, hs.g.imms, hs.g.pars, hs.g.ml, hs.g.pi, hs.g.imI⟩, hs.defers, hs.size, fun s hsl => ?_, hs.hi⟩
  exact VR.mono (G := G) (G' := G) (w := w) (w' := { w with drawn := n }) ⟨fun b o h => ⟨h, rfl⟩, fun h => h⟩ (fun p => ⟨fun b o h => ⟨h, rfl⟩, fun h => h⟩) _ _ (fun n _ => ⟨fun i b o ha h => ⟨⟨ha, h⟩, rfl⟩, fun h => h, rfl⟩) (hs.val s hsl)

theorem Sim.scrubs {G : Gh} {σ : Env} {a : Act} {w : World} (hs : Sim C G σ a w) (ns : List Nat) : Sim C G (σ.scrubs ns) a w := by
  refine ⟨hs.g, hs.defers, by simpa [scrubs_len] using hs.size, fun s hsl => ?_, hs.hi⟩
  rcases scrubs_get ns σ s with h | ⟨h, _⟩
  · rw [h]; simp [VR]
  · rw [h]; exact hs.ev s

/-- the names that a region may make -/
def regNames (ss : List VStep) : List Nat := ss.flatMap VStep.names

theorem scrubs_fresh (ss : List VStep) (σ : Env) (i : Nat) (hi : i < ss.length) : Fresh (ss.getD i .nil) (σ.scrubs (regNames ss)) := by
  intro n hn j
  rcases scrubs_get (regNames ss) σ j with h | ⟨h, h2⟩
  · rw [h]; rfl
  · rw [h]
    refine h2 n ?_
    refine List.mem_flatMap.2 ⟨ss[i], List.getElem_mem hi, ?_⟩
    simpa [List.getD, List.getElem?_eq_getElem hi] using hn
theorem entry_fst {ss : List VStep} {rs : List AV} {i : Nat} (hi : i < ss.length) : (entry ss rs i).1 = ss.getD i .nil := by
  have hx' : i < (zipR ss rs).length := by rw [zipR_len]; omega
  have := zipR_fst ss rs i
  rw [List.getElem?_eq_getElem hx'] at this
  simp only [Option.map_some] at this
  simp [entry, List.getD, ← this, List.getElem?_eq_getElem hx']
/-- what the check says of two operations -/
theorem drawOk_inv {ops : Array Oper} {ss : List VStep} (hok : drawOk ops ss = true) {i : Nat} (hi : i < ops.size) : (ss.getD i .nil).clean = true ∧ ∀ x, x < i → Disj (ss.getD x .nil) (ss.getD i .nil) ∧ Disj (ss.getD i .nil) (ss.getD x .nil) := by
  unfold drawOk at hok
  simp only [List.all_eq_true, List.mem_range, Bool.and_eq_true, decide_eq_true_eq, Bool.or_eq_true, List.any_eq_true, List.contains_iff_mem] at hok
  obtain ⟨⟨⟨⟨_, _⟩, _⟩, c4⟩, c5⟩ := hok i hi
  exact ⟨c5, fun x hx => ⟨disj_of (c4 x hx).1, disj_of (c4 x hx).2⟩⟩
theorem run_entries (ss : List VStep) (rs : List AV) {n : Nat} (hn : ss.length = n) : (List.range n).map (entry ss rs) = zipR ss rs := by
  have hl : (zipR ss rs).length = n := by rw [zipR_len, hn]
  apply List.ext_getElem?
  intro i
  rw [List.getElem?_map]
  rcases Nat.lt_or_ge i n with h | h
  · rw [List.getElem?_range h, Option.map_some, List.getElem?_eq_getElem (by omega)]
    simp [entry, List.getD, List.getElem?_eq_getElem (show i < (zipR ss rs).length by omega)]
  · rw [List.getElem?_eq_none (by simp; omega), List.getElem?_eq_none (by omega)]; rfl
theorem rem_all (n : Nat) : rem n (Array.replicate n false) = List.range n := by
  unfold rem
  apply List.filter_eq_self.2
  intro i hi
  have := List.mem_range.1 hi
  simp [this]

/-- a region whose order is drawn, its calls writing nothing -/
theorem draw_ok (hVC : ∀ f args r, VC f args r → VCall P f args r) (hm : P.follows .mixedOrders = true) {id : Nat} {ops : Array Oper} {ss : List VStep} {rs : List AV} {Q : Exit → Act → World → Prop} {σ σ' : Env} {os : List Prop} {G : Gh} {a : Act} {w : World}
    (hss : allSome (ops.toList.map (resOp P ops)) = some ss) (hok : drawOk ops ss = true) (hs : Sim C G σ a w) (hr : runE VC ss rs (σ.scrubs (regNames ss)) = some (σ', os)) (hos : ∀ p, p ∈ os → p)
    (hQ : ∀ a' w' G', Sim C G' σ' a' w' → Q .normal a' w') : (Code.region id ops true).wp P Q a w := by
  refine wp_region_any hm ?_
  have hlen : ss.length = ops.size := by have := allSome_len hss; simpa using this.symm
  refine any_order (m := .d) (rs := rs) (J := fun S σ => ∀ z, S z → Fresh (ss.getD z .nil) σ) hVC hss hok hQ ?_ ?_ ops.size _ G _ a _ (by simp) (by rw [rem_all]; simp) ?_ ((hs.scrubs (regNames ss)).drew _) ?_ ?_
  · intro S y σ σ1 o hlt hJ hy _ h z hz n hn
    rw [entry_fst (by have := hlt y hy; omega)] at h
    have hzl := hlt z hz.1
    have hyl := hlt y hy
    have hdisj : Disj (ss.getD z .nil) (ss.getD y .nil) := by
      rcases Nat.lt_or_gt_of_ne hz.2 with h | h
      · exact ((drawOk_inv hok hyl).2 z h).1
      · exact ((drawOk_inv hok hzl).2 y h).2
    exact step_keeps (drawOk_inv hok hyl).1 h (hdisj n hn) (hJ z hz.1 n hn)
  · intro S y x σ l Q hlt hJ hy hx hyx hsw h
    have hyl := hlt y hy
    have hxl := hlt x hx
    have ey := entry_fst (rs := rs) (show y < ss.length by omega)
    have ex := entry_fst (rs := rs) (show x < ss.length by omega)
    generalize entry ss rs y = ey' at *
    generalize entry ss rs x = ex' at *
    obtain ⟨sy, ry⟩ := ey'
    obtain ⟨sx, rx⟩ := ex'
    simp only at ey ex
    exact swap_one (VC := VC) (fun _ => rfl) (fun _ => rfl) hsw (by rw [ey]; exact (drawOk_inv hok hyl).1) (by rw [ex]; exact (drawOk_inv hok hxl).1) (by rw [ey]; exact hJ y hy) (by rw [ex]; exact hJ x hx) h
  · intro i x hi hin
    simp [hin] at hi
  · intro i hi
    rw [rem_all] at hi
    exact scrubs_fresh ss σ i (by have := List.mem_range.1 hi; omega)
  · rw [rem_all, run_entries ss rs hlen]
    rw [← runX_d] at hr
    exact runTo_of_run hr hos
end
end Go.Proofs.LV
