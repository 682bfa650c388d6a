/- Fits by weights, steps, seasons, the best period, likenesses of a series with itself, guesses ahead. -/
import Derived.Test.YtjfgmnfkkehgfaaLvFnG
namespace Go.Proofs.LV
open Go
set_option linter.unusedVariables false
set_option linter.unusedSimpArgs false

def weighedM (ws a b : List Nat) : Nat := accN (fun i s => fadd .f32 s (fmul .f32 (fmul .f32 (ws.getD i 0) (a.getD i 0)) (b.getD i 0))) ws.length 0
def wfX (x ws : List Nat) : Nat := fdiv .f32 (dotM ws x) (sumM ws)
def wfU (x ws : List Nat) : List Nat := lessOneM x (wfX x ws)
def wfDown (x ws : List Nat) : Nat := weighedM ws (wfU x ws) (wfU x ws)
def wfSlope (x y ws : List Nat) : Nat := fdiv .f32 (weighedM ws (wfU x ws) (wfU y ws)) (wfDown x ws)
def wfBase (x y ws : List Nat) : Nat := fsub .f32 (wfX y ws) (fmul .f32 (wfSlope x y ws) (wfX x ws))
def wfOk (x y ws : List Nat) : Bool := twoM x y && (twoM x ws && (notLessM ws && (fgt .f32 (sumM ws) 0 && (!feq .f32 (wfDown x ws) 0 && (finM (wfBase x y ws) && finM (wfSlope x y ws))))))




/-! ### steps -/
def squaresM (xs : List Nat) : Nat := dotM (lessOneM xs (meanM xs)) (lessOneM xs (meanM xs))
def stepSum (xs : List Nat) (i : Nat) : Nat := fadd .f32 (squaresM (xs.take i)) (squaresM (xs.drop i))
def stepAt (xs : List Nat) : Nat → Nat × Nat
  | 0 => (0, 0)
  | j + 1 => if ((stepAt xs j).1 == 0 || flt .f32 (stepSum xs (j + 1)) (stepAt xs j).2) = true then (j + 1, stepSum xs (j + 1)) else stepAt xs j
def stepBest (xs : List Nat) : Nat := (stepAt xs (xs.length - 1)).1
def stepBy (xs : List Nat) : Nat := fsub .f32 (meanM (xs.drop (stepBest xs))) (meanM (xs.take (stepBest xs)))
def stepFin (xs : List Nat) : Bool := allN (xs.length - 1) fun i => finM (stepSum xs (i + 1))
def stepOk (xs : List Nat) : Bool := seriesM xs && (decide (2 ≤ xs.length) && (stepFin xs && finM (stepBy xs)))







/-! ### seasons -/
def seasonM (xs : List Nat) (per : Nat) : List Nat := lessOneM (foldM xs per) (meanM (foldM xs per))
def seasonOk (xs : List Nat) (per : Int) : Bool := seriesM xs && (inM per 1 xs.length && finAllM (seasonM xs per.toNat))





/-! ### the best period -/
def bpSum (xs : List Nat) (per : Int) : Nat := leftM xs (foldM xs per.toNat)
def bpAt (xs : List Nat) (low : Int) : Nat → Int × Nat
  | 0 => (0, 0)
  | j + 1 => if ((bpAt xs low j).1 == 0 || flt .f32 (bpSum xs (low + j)) (bpAt xs low j).2) = true then (low + j, bpSum xs (low + j)) else bpAt xs low j
def bpN (low top : Int) : Nat := (top + 1 - low).toNat
def bpFin (xs : List Nat) (low top : Int) : Bool := allN (bpN low top) fun j => foldOk xs (low + j)
def bpOk (xs : List Nat) (low top w : Int) : Bool := seriesM xs && (inM low 2 top && (decide (top ≤ (xs.length / 2 : Nat)) && (inM w 1 8 && bpFin xs low top)))

-- FN impl_areWorkers
/-- impl.areWorkers: slots 5, results [.t 2]; calls [4:g_impl_within]; names [(n, 0), (n, 1)] -/
def ps_impl_areWorkers : List Nat := [0, 2]
def b_impl_areWorkers (g_impl_within : FuncId) : VCode :=
  (.seq
   (.region false [
    ⟨some 2, .mv, [.k (.b false)], none⟩])
   (.seq
    (.region false [
     ⟨some 3, .mv, [.t 0], none⟩,
     ⟨some 4, (.call g_impl_within), [.t 3, .k (.i .i64 1), .k (.i .i64 8)], none⟩,
     ⟨some 2, .mv, [.t 4], none⟩])
    .ret))

abbrev Is_impl_areWorkers (P : Program) (g_f : FuncId) (g_impl_within : FuncId) : Prop := FnIs P g_f 5 [.t 2] (b_impl_areWorkers g_impl_within)

abbrev C_impl_areWorkers (P : Program) (g_f : FuncId) : Prop := ∀ (n : Int), VCall P g_f [.i .i64 n] (.b (inM n 1 8))
def oc1_impl_areWorkers (as : List AV) : T AV := match as with | [.i .i64 n] => .leaf (.b (inM n 1 8)) | _ => .fail
def oc_impl_areWorkers (n : Int) (d : Nat) (as : List AV) : T AV := match d with | 4 => oc1_impl_within as | _ => .fail



theorem q_impl_areWorkers {P : Program} {g_f : FuncId} {g_impl_within : FuncId} (h_ : Is_impl_areWorkers P g_f g_impl_within) (n : Int) (ht : T.ok (fun x_ => x_ = .b (inM n 1 8)) (
      T.ob ((VCall P) g_impl_within [AV.i IntKind.i64 n, AV.i IntKind.i64 1, AV.i IntKind.i64 8] (AV.b (inM n 1 8))) (T.leaf (AV.b (inM n 1 8))))) :
    VCall P g_f [.i .i64 n] (.b (inM n 1 8)) := h_.call_of ps_impl_areWorkers ⟨oc_impl_areWorkers n, fun _ _ => none⟩ (by kernel_rfl) ht

-- END impl_areWorkers



theorem wf_eq {x y ws : List Nat} (h1 : twoM x y = true) (h2 : twoM x ws = true) (h3 : notLessM ws = true) (h4 : fgt .f32 (sumM ws) 0 = true) (h5 : feq .f32 (wfDown x ws) 0 = false) : wfOk x y ws = (finM (wfBase x y ws) && finM (wfSlope x y ws)) := by
  simp [wfOk, h1, h2, h3, h4, h5]
theorem two_eq {x y : List Nat} : twoM x y = (seriesM x && (seriesM y && decide (x.length = y.length))) := by
  unfold twoM
  have : ((x.length : Int) == (y.length : Int)) = decide (x.length = y.length) := by
    rw [Bool.eq_iff_iff, beq_iff_eq, decide_eq_true_eq]; omega
  rw [this, Bool.and_assoc]
theorem step_le (xs : List Nat) : ∀ j, (stepAt xs j).1 ≤ j
  | 0 => Nat.le_refl _
  | j + 1 => by
    have := step_le xs j
    simp only [stepAt]
    split
    · exact Nat.le_refl _
    · omega
theorem step_pos (xs : List Nat) : ∀ j, 1 ≤ j → 1 ≤ (stepAt xs j).1
  | 0, h => by omega
  | j + 1, _ => by
    simp only [stepAt]
    split
    · simp
    · rename_i h
      simp at h; omega
theorem season_len (xs : List Nat) (per : Nat) : (seasonM xs per).length = per := by unfold seasonM; rw [lessOne_len, fold_len]
theorem k_impl_areWorkers {P : Program} {f g_impl_within : FuncId} (h : Is_impl_areWorkers P f g_impl_within) (c1 : C_impl_within P g_impl_within) : C_impl_areWorkers P f := by
  intro n
  refine q_impl_areWorkers h n ?_
  repeat' (first | with_reducible refine T.ok_ob ?_ (fun _ => ?_) | with_reducible refine T.ok_ite (fun _ => ?_) (fun _ => ?_) | with_reducible refine T.ok_leaf ?_)
  all_goals first | with_reducible rfl | with_reducible assumption | with_reducible exact c1 _ _ _ | contradiction | exact fconvOk_32_64 _ | assumption | exact rfl | (simp_all []; done) | (simp_all [T.ok]; omega)

end Go.Proofs.LV
