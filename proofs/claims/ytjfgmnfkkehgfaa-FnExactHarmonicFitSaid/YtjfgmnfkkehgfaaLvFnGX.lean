/- Texts that belong together. -/
import Derived.Test.YtjfgmnfkkehgfaaLvFnDX
namespace Go.Proofs.LV
open Go
set_option linter.unusedVariables false
set_option linter.unusedSimpArgs false

/-- how many of p, p + per, .. lie below i -/
def cntM (i p per : Nat) : Nat := i / per + (if p < i % per then 1 else 0)
def fsumM (xs : List Nat) (per p n : Nat) : Nat := accN (fun j s => fadd .f32 s (xs.getD (p + j * per) 0)) n 0
def foldM (xs : List Nat) (per : Nat) : List Nat := tab per fun p => fdiv .f32 (fsumM xs per p (cntM xs.length p per)) (fofi .f32 (cntM xs.length p per))
def leftM (xs means : List Nat) : Nat := accN (fun i s => fadd .f32 s (fmul .f32 (fsub .f32 (xs.getD i 0) (means.getD (i % means.length) 0)) (fsub .f32 (xs.getD i 0) (means.getD (i % means.length) 0)))) xs.length 0

theorem cnt_lt (n p per j : Nat) (hp : p < per) : j < cntM n p per ↔ p + j * per < n := by
  have h1 := Nat.div_add_mod n per
  have h2 := Nat.mod_lt n (show per > 0 by omega)
  unfold cntM
  generalize n / per = q at *
  generalize n % per = r at *
  have a := fun (x y : Nat) (h : x ≤ y) => Nat.mul_le_mul_right per h
  have hc := Nat.mul_comm per q
  split
  · constructor
    · intro h
      have := a j q (by omega); omega
    · intro h
      apply Decidable.byContradiction; intro h'
      have := a (q + 1) j (by omega)
      rw [Nat.succ_mul] at this; omega
  · constructor
    · intro h
      have := a (j + 1) q (by omega)
      rw [Nat.succ_mul] at this; omega
    · intro h
      apply Decidable.byContradiction; intro h'
      have := a q j (by omega); omega
theorem cnt_next (i p per : Nat) (hp : p < per) : cntM (i + 1) p per = cntM i p per + (if i % per = p then 1 else 0) := by
  have h1 := Nat.div_add_mod i per
  have h2 := Nat.mod_lt i (show per > 0 by omega)
  unfold cntM
  generalize i / per = q at *
  generalize i % per = r at *
  by_cases h3 : r + 1 < per
  · have e1 : (i + 1) / per = q := by rw [← h1, Nat.add_assoc, Nat.mul_add_div (by omega), Nat.div_eq_of_lt h3, Nat.add_zero]
    have e2 : (i + 1) % per = r + 1 := by rw [← h1, Nat.add_assoc, Nat.mul_add_mod, Nat.mod_eq_of_lt h3]
    rw [e1, e2]
    repeat' split
    all_goals omega
  · have e : i + 1 = per * (q + 1) := by rw [Nat.mul_succ]; omega
    rw [e, Nat.mul_div_cancel_left _ (by omega), Nat.mul_mod_right]
    repeat' split
    all_goals omega
theorem cnt_at (i per : Nat) : i % per + cntM i (i % per) per * per = i := by
  unfold cntM
  rw [if_neg (by omega), Nat.add_zero, Nat.add_comm, Nat.mul_comm]
  exact Nat.div_add_mod i per
theorem cnt_zero (p per : Nat) : cntM 0 p per = 0 := by simp [cntM]
theorem tab_set {α : Type} (n : Nat) (f : Nat → α) (a : Nat) (v : α) : (tab n f).set a v = tab n fun p => if p = a then v else f p := by
  apply List.ext_getElem?
  intro i
  rw [List.getElem?_set]
  simp only [tab, List.length_map, List.length_range, List.getElem?_map]
  by_cases h : i < n
  · rw [List.getElem?_range h]
    by_cases h2 : a = i
    · subst h2; simp [h]
    · have h3 : ¬ (i = a) := fun e => h2 e.symm
      simp [h2, h3]
  · have : (List.range n)[i]? = none := by simp; omega
    rw [this]
    split
    · simp; omega
    · rfl
theorem sum_tab (n : Nat) (f : Nat → Nat) : sumM (tab n f) = accN (fun j s => fadd .f32 s (f j)) n 0 := by
  unfold sumM
  rw [tab_len]
  exact accN_congr fun i x hi => by rw [tab_get _ _ _ _ hi]
theorem mean_tab (n : Nat) (f : Nat → Nat) : meanM (tab n f) = fdiv .f32 (accN (fun j s => fadd .f32 s (f j)) n 0) (fofi .f32 n) := by
  unfold meanM; rw [sum_tab, tab_len]
theorem tmod_nat (a b : Nat) : Int.tmod (a : Int) (b : Int) = ((a % b : Nat) : Int) := rfl
theorem fold_len (xs : List Nat) (per : Nat) : (foldM xs per).length = per := tab_len _ _




def foldOk (xs : List Nat) (per : Int) : Bool := seriesM xs && (inM per 1 xs.length && (finAllM (foldM xs per.toNat) && finM (leftM xs (foldM xs per.toNat))))





def moreM (xs : List Nat) : Bool := xs.all fun x => finM x && fgt .f32 x 0
-- FN impl_areMore_1
/-- impl.areMore$1: slots 11, results [.t 2]; calls [4:g_impl_IsFinite]; names [(x, 0), (x, 1)] -/
def ps_impl_areMore_1 : List Nat := [0, 2]
def b_impl_areMore_1 (g_impl_IsFinite : FuncId) : VCode :=
  (.seq
   (.region false [
    ⟨some 2, .mv, [.k (.b false)], none⟩])
   (.seq
    (.region false [
     ⟨some 3, .mv, [.t 0], none⟩,
     ⟨some 4, (.call g_impl_IsFinite), [.t 3], none⟩,
     ⟨some 5, .not, [.t 4], none⟩,
     ⟨some 6, .mv, [.t 5], none⟩,
     ⟨some 7, .mv, [.t 0], some (6, false)⟩,
     ⟨some 8, (.bin .gtr), [.t 7, .k (.f .f32 0)], some (6, false)⟩,
     ⟨some 9, .not, [.t 8], some (6, false)⟩,
     ⟨some 10, .pick, [.t 6, .k (.b true), .t 9], none⟩,
     ⟨some 2, .mv, [.t 10], none⟩])
    .ret))

abbrev Is_impl_areMore_1 (P : Program) (g_f : FuncId) (g_impl_IsFinite : FuncId) : Prop := FnIs P g_f 11 [.t 2] (b_impl_areMore_1 g_impl_IsFinite)

abbrev C_impl_areMore_1 (P : Program) (g_f : FuncId) : Prop := ∀ (x : Nat), VCall P g_f [.f .f32 x] (.b (!(finM x && fgt .f32 x 0)))
def oc1_impl_areMore_1 (as : List AV) : T AV := match as with | [.f .f32 x] => .leaf (.b (!(finM x && fgt .f32 x 0))) | _ => .fail
def oc_impl_areMore_1 (x : Nat) (d : Nat) (as : List AV) : T AV := match d with | 4 => oc1_impl_IsFinite as | _ => .fail



theorem q_impl_areMore_1 {P : Program} {g_f : FuncId} {g_impl_IsFinite : FuncId} (h_ : Is_impl_areMore_1 P g_f g_impl_IsFinite) (x : Nat) (ht : T.ok (fun x_ => x_ = .b (!(finM x && fgt .f32 x 0))) (
      T.ob ((VCall P) g_impl_IsFinite [AV.f FloatKind.f32 x] (AV.b (finM x))) (T.ite (!finM x) (T.leaf (AV.b true)) (T.leaf (AV.b !fgt FloatKind.f32 x 0))))) :
    VCall P g_f [.f .f32 x] (.b (!(finM x && fgt .f32 x 0))) := h_.call_of ps_impl_areMore_1 ⟨oc_impl_areMore_1 x, fun _ _ => none⟩ (by kernel_rfl) ht

-- END impl_areMore_1

-- FN impl_areMore
/-- impl.areMore: slots 6, results [.t 2]; calls [4:g_slices_ContainsFunc___float32_float32_]; names [(list, 0), (list, 1)] -/
def ps_impl_areMore : List Nat := [0, 2]
def b_impl_areMore (g_slices_ContainsFunc___float32_float32_ g_impl_areMore_1 : FuncId) : VCode :=
  (.seq
   (.region false [
    ⟨some 2, .mv, [.k (.b false)], none⟩])
   (.seq
    (.region false [
     ⟨some 3, .mv, [.t 0], none⟩,
     ⟨some 4, (.call g_slices_ContainsFunc___float32_float32_), [.t 3, .k (.fn g_impl_areMore_1 [])], none⟩,
     ⟨some 5, .not, [.t 4], none⟩,
     ⟨some 2, .mv, [.t 5], none⟩])
    .ret))

abbrev Is_impl_areMore (P : Program) (g_f : FuncId) (g_slices_ContainsFunc___float32_float32_ g_impl_areMore_1 : FuncId) : Prop := FnIs P g_f 6 [.t 2] (b_impl_areMore g_slices_ContainsFunc___float32_float32_ g_impl_areMore_1)

abbrev C_impl_areMore (P : Program) (g_f : FuncId) : Prop := ∀ (xs : List Nat) (hx : xs.length ≤ maxLen), VCall P g_f [PS [0] .f32 xs] (.b (moreM xs))
def oc1_impl_areMore (as : List AV) : T AV := match as with | [.sl _ _ (.f .f32 xs)] => .leaf (.b (moreM xs)) | _ => .fail
def oc_impl_areMore (xs : List Nat) (d : Nat) (as : List AV) : T AV := match d with | 4 => .leaf (.b (xs.any fun x => !(finM x && fgt .f32 x 0))) | _ => .fail



theorem q_impl_areMore {P : Program} {g_f : FuncId} {g_slices_ContainsFunc___float32_float32_ g_impl_areMore_1 : FuncId} (h_ : Is_impl_areMore P g_f g_slices_ContainsFunc___float32_float32_ g_impl_areMore_1) (xs : List Nat) (ht : T.ok (fun x_ => x_ = .b (moreM xs)) (
      T.ob ((VCall P) g_slices_ContainsFunc___float32_float32_ [AV.sl (Tag.par [0]) 0 (Cont.f FloatKind.f32 xs), AV.fn g_impl_areMore_1 []] (AV.b (List.any xs fun (x : Nat) => !(finM x && fgt FloatKind.f32 x 0))))
        (T.leaf (AV.b !List.any xs fun (x : Nat) => !(finM x && fgt FloatKind.f32 x 0))))) :
    VCall P g_f [PS [0] .f32 xs] (.b (moreM xs)) := h_.call_of ps_impl_areMore ⟨oc_impl_areMore xs, fun _ _ => none⟩ (by kernel_rfl) ht

-- END impl_areMore

-- FN spec_l02Above
/-- spec.l02Above: slots 9, results [.t 2]; calls [4:g_spec_l01Finite]; names [(x, 0), (x, 1)] -/
def ps_spec_l02Above : List Nat := [0, 2]
def b_spec_l02Above (g_spec_l01Finite : FuncId) : VCode :=
  (.seq
   (.region false [
    ⟨some 2, .mv, [.k (.b false)], none⟩])
   (.seq
    (.region false [
     ⟨some 3, .mv, [.t 0], none⟩,
     ⟨some 4, (.call g_spec_l01Finite), [.t 3], none⟩,
     ⟨some 5, .mv, [.t 4], none⟩,
     ⟨some 6, .mv, [.t 0], some (5, true)⟩,
     ⟨some 7, (.bin .gtr), [.t 6, .k (.f .f32 0)], some (5, true)⟩,
     ⟨some 8, .pick, [.t 5, .t 7, .k (.b false)], none⟩,
     ⟨some 2, .mv, [.t 8], none⟩])
    .ret))

abbrev Is_spec_l02Above (P : Program) (g_f : FuncId) (g_spec_l01Finite : FuncId) : Prop := FnIs P g_f 9 [.t 2] (b_spec_l02Above g_spec_l01Finite)

abbrev C_spec_l02Above (P : Program) (g_f : FuncId) : Prop := ∀ (x : Nat), VCall P g_f [.f .f32 x] (.b (finM x && fgt .f32 x 0))
def oc1_spec_l02Above (as : List AV) : T AV := match as with | [.f .f32 x] => .leaf (.b (finM x && fgt .f32 x 0)) | _ => .fail
def oc_spec_l02Above (x : Nat) (d : Nat) (as : List AV) : T AV := match d with | 4 => oc1_spec_l01Finite as | _ => .fail



theorem q_spec_l02Above {P : Program} {g_f : FuncId} {g_spec_l01Finite : FuncId} (h_ : Is_spec_l02Above P g_f g_spec_l01Finite) (x : Nat) (ht : T.ok (fun x_ => x_ = .b (finM x && fgt .f32 x 0)) (
      T.ob ((VCall P) g_spec_l01Finite [AV.f FloatKind.f32 x] (AV.b (finM x))) (T.ite (finM x) (T.leaf (AV.b (fgt FloatKind.f32 x 0))) (T.leaf (AV.b false))))) :
    VCall P g_f [.f .f32 x] (.b (finM x && fgt .f32 x 0)) := h_.call_of ps_spec_l02Above ⟨oc_spec_l02Above x, fun _ _ => none⟩ (by kernel_rfl) ht

-- END spec_l02Above

/-- the level and the factors, one number on -/
def tsStep (xs : List Nat) (per s i : Nat) (a : Nat × List Nat) : Nat × List Nat :=
  let l := fadd .f32 a.1 (fmul .f32 s (fsub .f32 (fdiv .f32 (xs.getD i 0) (a.2.getD (i % per) 0)) a.1))
  (l, a.2.set (i % per) (fadd .f32 (a.2.getD (i % per) 0) (fmul .f32 s (fsub .f32 (fdiv .f32 (xs.getD i 0) l) (a.2.getD (i % per) 0)))))
def tsAt (xs : List Nat) (per s j : Nat) : Nat × List Nat := accN (fun j a => tsStep xs per s (per + j) a) j (meanM (xs.take per), tab per fun k => fdiv .f32 (xs.getD k 0) (meanM (xs.take per)))
def tsEnd (xs : List Nat) (per s : Nat) : Nat × List Nat := tsAt xs per s (xs.length - per)
def tsOk (xs : List Nat) (per : Int) (s : Nat) : Bool := seriesM xs && (inM per 1 24 && (decide (per ≤ xs.length) && (moreM xs && (isShareM s && (finAllM (tsEnd xs per.toNat s).2 && finM (tsEnd xs per.toNat s).1)))))



theorem cnt_le (n p per : Nat) (hp : p < per) (hn : n ≤ 96) : cntM n p per ≤ 96 := by
  have := cnt_lt n p per 96 (by omega)
  apply Decidable.byContradiction; intro h'
  have := this.1 (by omega)
  have := Nat.le_mul_of_pos_right 96 (show 0 < per by omega)
  omega
theorem replicate_tab {α : Type} (n : Nat) (x : α) : List.replicate n x = tab n fun _ => x := by
  simp [tab, List.map_const']
theorem tab_getI (n : Nat) (f : Nat → Int) (i : Nat) (h : i < n) : (tab n f).getD i 0 = f i := tab_get _ _ _ _ h
theorem k_impl_areMore_1 {P : Program} {f g_impl_IsFinite : FuncId} (h : Is_impl_areMore_1 P f g_impl_IsFinite) (c1 : C_impl_IsFinite P g_impl_IsFinite) : C_impl_areMore_1 P f := by
  intro x
  refine q_impl_areMore_1 h x ?_
  repeat' (first | with_reducible refine T.ok_ob ?_ (fun _ => ?_) | with_reducible refine T.ok_ite (fun _ => ?_) (fun _ => ?_) | with_reducible refine T.ok_leaf ?_)
  all_goals first | with_reducible rfl | with_reducible assumption | with_reducible exact c1 _ | contradiction | exact fconvOk_32_64 _ | assumption | exact rfl | (simp_all []; done) | (simp_all [T.ok]; omega)

theorem k_spec_l02Above {P : Program} {f g_spec_l01Finite : FuncId} (h : Is_spec_l02Above P f g_spec_l01Finite) (c1 : C_spec_l01Finite P g_spec_l01Finite) : C_spec_l02Above P f := by
  intro x
  refine q_spec_l02Above h x ?_
  repeat' (first | with_reducible refine T.ok_ob ?_ (fun _ => ?_) | with_reducible refine T.ok_ite (fun _ => ?_) (fun _ => ?_) | with_reducible refine T.ok_leaf ?_)
  all_goals first | with_reducible rfl | with_reducible assumption | with_reducible exact c1 _ | contradiction | exact fconvOk_32_64 _ | assumption | exact rfl | (simp_all []; done) | (simp_all [T.ok]; omega)

theorem k_impl_areMore {P : Program} {f g F : FuncId} (h : Is_impl_areMore P f g F) (hg : C_slices_ContainsFunc___float32_float32_ P g) (hF : C_impl_areMore_1 P F) : C_impl_areMore P f := by
  intro xs hx
  refine q_impl_areMore h xs ⟨hg xs F _ hF hx, fun _ => ?_⟩
  show _ = _
  congr 1
  unfold moreM
  rw [← List.not_all_eq_any_not, Bool.not_not]
theorem in_1 {per : Int} {n : Nat} (h : inM per 1 n = true) : 1 ≤ per ∧ per ≤ n := by simpa [inM] using h
theorem per_cond (xs : List Nat) (per : Int) : (seriesM xs && inM per 1 xs.length && decide (per ≤ 24)) = (seriesM xs && (inM per 1 24 && decide (per ≤ xs.length))) := by
  rw [Bool.eq_iff_iff]
  cases seriesM xs <;> simp [inM]
  omega
theorem getD_take {α : Type} (xs : List α) (k i : Nat) (d : α) (h : i < k) : (xs.take k).getD i d = xs.getD i d := by
  simp [List.getD, h]
theorem ts_len (xs : List Nat) (k s : Nat) : ∀ j, (tsAt xs k s j).2.length = k
  | 0 => tab_len _ _
  | j + 1 => by
    have := ts_len xs k s j
    show (tsStep xs k s (k + j) (tsAt xs k s j)).2.length = k
    simp only [tsStep, List.length_set]; exact this
theorem all_allN {p : Nat → Bool} (xs : List Nat) : xs.all p = allN xs.length fun i => p (xs.getD i 0) := by
  have := any_allN (p := fun x => !p x) xs
  rw [← List.not_all_eq_any_not] at this
  simpa using this
end Go.Proofs.LV

namespace Go.Proofs.LV
open Go
set_option linter.unusedVariables false
set_option linter.unusedSimpArgs false

def weighedM (ws a b : List Nat) : Nat := accN (fun i s => fadd .f32 s (fmul .f32 (fmul .f32 (ws.getD i 0) (a.getD i 0)) (b.getD i 0))) ws.length 0
def wfX (x ws : List Nat) : Nat := fdiv .f32 (dotM ws x) (sumM ws)
def wfU (x ws : List Nat) : List Nat := lessOneM x (wfX x ws)
def wfDown (x ws : List Nat) : Nat := weighedM ws (wfU x ws) (wfU x ws)
def wfSlope (x y ws : List Nat) : Nat := fdiv .f32 (weighedM ws (wfU x ws) (wfU y ws)) (wfDown x ws)
def wfBase (x y ws : List Nat) : Nat := fsub .f32 (wfX y ws) (fmul .f32 (wfSlope x y ws) (wfX x ws))
def wfOk (x y ws : List Nat) : Bool := twoM x y && (twoM x ws && (notLessM ws && (fgt .f32 (sumM ws) 0 && (!feq .f32 (wfDown x ws) 0 && (finM (wfBase x y ws) && finM (wfSlope x y ws))))))




/-! ### steps -/
def squaresM (xs : List Nat) : Nat := dotM (lessOneM xs (meanM xs)) (lessOneM xs (meanM xs))
def stepSum (xs : List Nat) (i : Nat) : Nat := fadd .f32 (squaresM (xs.take i)) (squaresM (xs.drop i))
def stepAt (xs : List Nat) : Nat → Nat × Nat
  | 0 => (0, 0)
  | j + 1 => if ((stepAt xs j).1 == 0 || flt .f32 (stepSum xs (j + 1)) (stepAt xs j).2) = true then (j + 1, stepSum xs (j + 1)) else stepAt xs j
def stepBest (xs : List Nat) : Nat := (stepAt xs (xs.length - 1)).1
def stepBy (xs : List Nat) : Nat := fsub .f32 (meanM (xs.drop (stepBest xs))) (meanM (xs.take (stepBest xs)))
def stepFin (xs : List Nat) : Bool := allN (xs.length - 1) fun i => finM (stepSum xs (i + 1))
def stepOk (xs : List Nat) : Bool := seriesM xs && (decide (2 ≤ xs.length) && (stepFin xs && finM (stepBy xs)))







/-! ### seasons -/
def seasonM (xs : List Nat) (per : Nat) : List Nat := lessOneM (foldM xs per) (meanM (foldM xs per))
def seasonOk (xs : List Nat) (per : Int) : Bool := seriesM xs && (inM per 1 xs.length && finAllM (seasonM xs per.toNat))





/-! ### the best period -/
def bpSum (xs : List Nat) (per : Int) : Nat := leftM xs (foldM xs per.toNat)
def bpAt (xs : List Nat) (low : Int) : Nat → Int × Nat
  | 0 => (0, 0)
  | j + 1 => if ((bpAt xs low j).1 == 0 || flt .f32 (bpSum xs (low + j)) (bpAt xs low j).2) = true then (low + j, bpSum xs (low + j)) else bpAt xs low j
def bpN (low top : Int) : Nat := (top + 1 - low).toNat
def bpFin (xs : List Nat) (low top : Int) : Bool := allN (bpN low top) fun j => foldOk xs (low + j)
def bpOk (xs : List Nat) (low top w : Int) : Bool := seriesM xs && (inM low 2 top && (decide (top ≤ (xs.length / 2 : Nat)) && (inM w 1 8 && bpFin xs low top)))




theorem wf_eq {x y ws : List Nat} (h1 : twoM x y = true) (h2 : twoM x ws = true) (h3 : notLessM ws = true) (h4 : fgt .f32 (sumM ws) 0 = true) (h5 : feq .f32 (wfDown x ws) 0 = false) : wfOk x y ws = (finM (wfBase x y ws) && finM (wfSlope x y ws)) := by
  simp [wfOk, h1, h2, h3, h4, h5]
theorem two_eq {x y : List Nat} : twoM x y = (seriesM x && (seriesM y && decide (x.length = y.length))) := by
  unfold twoM
  have : ((x.length : Int) == (y.length : Int)) = decide (x.length = y.length) := by
    rw [Bool.eq_iff_iff, beq_iff_eq, decide_eq_true_eq]; omega
  rw [this, Bool.and_assoc]
theorem step_le (xs : List Nat) : ∀ j, (stepAt xs j).1 ≤ j
  | 0 => Nat.le_refl _
  | j + 1 => by
    have := step_le xs j
    simp only [stepAt]
    split
    · exact Nat.le_refl _
    · omega
theorem step_pos (xs : List Nat) : ∀ j, 1 ≤ j → 1 ≤ (stepAt xs j).1
  | 0, h => by omega
  | j + 1, _ => by
    simp only [stepAt]
    split
    · simp
    · rename_i h
      simp at h; omega
theorem season_len (xs : List Nat) (per : Nat) : (seasonM xs per).length = per := by unfold seasonM; rw [lessOne_len, fold_len]
end Go.Proofs.LV

namespace Go.Proofs.LV
open Go
set_option linter.unusedVariables false
set_option linter.unusedSimpArgs false

abbrev LL := List (List Nat)
abbrev PF (p : List Nat) (xs : LL) : AV := .sl (.par p) 0 (.ff .f32 xs)
/-- the sum of products with those a lag later -/
def delM (a : List Nat) (lag : Nat) : Nat := accN (fun i s => fadd .f32 s (fmul .f32 (a.getD i 0) (a.getD (i + lag) 0))) (a.length - lag) 0
def offM (a : List Nat) : List Nat := lessOneM a (meanM a)
def likesM (a : List Nat) (most : Nat) : List Nat := tab (most + 1) fun lag => fdiv .f32 (delM (offM a) lag) (delM (offM a) 0)
def likesOk (a : List Nat) (most : Int) : Bool := seriesM a && (inM most 0 16 && (decide (most < a.length) && (fgt .f32 (delM (offM a) 0) 0 && finAllM (likesM a most.toNat))))
def likesOut (a : List Nat) (most : Int) : List Nat := if likesOk a most = true then likesM a most.toNat else []





/-- the sum of products with another's numbers a lag later -/
def cdelM (a b : List Nat) (lag : Int) : Nat := accN (fun i s => if 0 ≤ (i : Int) + lag ∧ (i : Int) + lag < b.length then fadd .f32 s (fmul .f32 (a.getD i 0) (b.getD ((i : Int) + lag).toNat 0)) else s) a.length 0



def lsSum (n : Nat) (r : List Nat) : Nat := accN (fun j s => fadd .f32 s (fdiv .f32 (fmul .f32 (r.getD (j + 1) 0) (r.getD (j + 1) 0)) (fofi .f32 (n - (j + 1) : Nat)))) (r.length - 1) 0
def lsM (a r : List Nat) : Nat := fmul .f32 (fmul .f32 (fofi .f32 a.length) (fadd .f32 (fofi .f32 a.length) 1073741824)) (lsSum a.length r)
def lsOk (a : List Nat) (most : Int) : Bool := likesOk a most && finM (lsM a (likesM a most.toNat))



/-! ### guesses ahead -/
def adAt (d : Nat) (n : Nat) : Nat × Nat := accN (fun _ a => (fadd .f32 a.1 (fmul .f32 a.2 d), fmul .f32 a.2 d)) n (d, d)
def adM (l s : Nat) (xs : List Nat) (t : Int) (d : Nat) (n : Nat) : List Nat := tab n fun k => fadd .f32 (fadd .f32 l (fmul .f32 (adAt d k).1 s)) (xs.getD ((t.toNat + k) % xs.length) 0)
def adOk (l s : Nat) (xs : List Nat) (t : Int) (a b c d : Nat) (n : Int) : Bool := validStateM l s xs t && (sharesM a b c d && (inM n 1 32 && finAllM (adM l s xs t d n.toNat)))




/-! ### means of series -/
def meanOk (xs : List Nat) : Bool := seriesM xs && finM (meanM xs)



def msFin (xs : LL) : Bool := allN xs.length fun i => meanOk (xs.getD i [])
def msOk (xs : LL) (w : Int) : Bool := decide (1 ≤ xs.length) && (decide (xs.length ≤ 16) && (inM w 1 8 && msFin xs))
def msM (xs : LL) : List Nat := tab xs.length fun i => meanM (xs.getD i [])



theorem off_len (a : List Nat) : (offM a).length = a.length := lessOne_len _ _
theorem likes_len (a : List Nat) (m : Nat) : (likesM a m).length = m + 1 := tab_len _ _
theorem del_zero (x : List Nat) : dotM x x = delM x 0 := rfl
theorem dot_shift (x : List Nat) (lag : Nat) : dotM (x.take (x.length - lag)) (x.drop lag) = delM x lag := by
  unfold dotM delM
  rw [List.length_take, Nat.min_eq_left (Nat.sub_le _ _)]
  refine accN_congr fun i s hi => ?_
  rw [getD_take _ _ _ _ hi, getD_drop', Nat.add_comm lag i]
theorem cdel_self (b : List Nat) (g : Nat) : cdelM b b g = delM b g := by
  have gen : ∀ n, accN (fun i s => if 0 ≤ (i : Int) + (g : Int) ∧ (i : Int) + (g : Int) < b.length then fadd .f32 s (fmul .f32 (b.getD i 0) (b.getD ((i : Int) + (g : Int)).toNat 0)) else s) n 0 = accN (fun i s => fadd .f32 s (fmul .f32 (b.getD i 0) (b.getD (i + g) 0))) (min n (b.length - g)) 0 := by
    intro n
    induction n with
    | zero => rfl
    | succ n ih =>
      simp only [accN]
      by_cases h1 : n + g < b.length
      · rw [if_pos (by omega), ih, show min (n + 1) (b.length - g) = min n (b.length - g) + 1 by omega]
        simp only [accN]
        rw [show min n (b.length - g) = n by omega, show ((n : Int) + (g : Int)).toNat = n + g by omega]
      · rw [if_neg (by omega), ih, show min (n + 1) (b.length - g) = min n (b.length - g) by omega]
  unfold cdelM
  rw [gen, show min b.length (b.length - g) = b.length - g by omega]; rfl
theorem small_sub : ∀ n : Fin 97, ∀ k : Fin 18, k.val ≤ n.val → fsub .f32 (fofi .f32 (n.val : Int)) (fofi .f32 (k.val : Int)) = fofi .f32 ((n.val - k.val : Nat) : Int) := by decide +kernel
theorem likesOk_in {a : List Nat} {most : Int} (h : likesOk a most = true) : 1 ≤ a.length ∧ a.length ≤ 96 ∧ 0 ≤ most ∧ most ≤ 16 ∧ most < a.length := by
  unfold likesOk at h
  simp only [Bool.and_eq_true, decide_eq_true_eq] at h
  have := series_len h.1
  have : 0 ≤ most ∧ most ≤ 16 := by simpa [inM] using h.2.1
  omega
theorem ad_len (l s : Nat) (xs : List Nat) (t : Int) (d n : Nat) : (adM l s xs t d n).length = n := tab_len _ _
end Go.Proofs.LV
