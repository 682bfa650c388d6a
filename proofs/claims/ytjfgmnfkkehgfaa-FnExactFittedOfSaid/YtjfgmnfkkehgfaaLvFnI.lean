/- Fits by weights, steps, seasons, the best period, likenesses of a series with itself, guesses ahead. -/
import Derived.Test.YtjfgmnfkkehgfaaLvFnG
namespace Go.Proofs.LV
open Go
set_option linter.unusedVariables false
set_option linter.unusedSimpArgs false

def weighedM (ws a b : List Nat) : Nat := accN (fun i s => fadd .f32 s (fmul .f32 (fmul .f32 (ws.getD i 0) (a.getD i 0)) (b.getD i 0))) ws.length 0
def wfX (x ws : List Nat) : Nat := fdiv .f32 (dotM ws x) (sumM ws)
def wfU (x ws : List Nat) : List Nat := lessOneM x (wfX x ws)
def wfDown (x ws : List Nat) : Nat := weighedM ws (wfU x ws) (wfU x ws)
def wfSlope (x y ws : List Nat) : Nat := fdiv .f32 (weighedM ws (wfU x ws) (wfU y ws)) (wfDown x ws)
def wfBase (x y ws : List Nat) : Nat := fsub .f32 (wfX y ws) (fmul .f32 (wfSlope x y ws) (wfX x ws))
def wfOk (x y ws : List Nat) : Bool := twoM x y && (twoM x ws && (notLessM ws && (fgt .f32 (sumM ws) 0 && (!feq .f32 (wfDown x ws) 0 && (finM (wfBase x y ws) && finM (wfSlope x y ws))))))




/-! ### steps -/
def squaresM (xs : List Nat) : Nat := dotM (lessOneM xs (meanM xs)) (lessOneM xs (meanM xs))
def stepSum (xs : List Nat) (i : Nat) : Nat := fadd .f32 (squaresM (xs.take i)) (squaresM (xs.drop i))
def stepAt (xs : List Nat) : Nat → Nat × Nat
  | 0 => (0, 0)
  | j + 1 => if ((stepAt xs j).1 == 0 || flt .f32 (stepSum xs (j + 1)) (stepAt xs j).2) = true then (j + 1, stepSum xs (j + 1)) else stepAt xs j
def stepBest (xs : List Nat) : Nat := (stepAt xs (xs.length - 1)).1
def stepBy (xs : List Nat) : Nat := fsub .f32 (meanM (xs.drop (stepBest xs))) (meanM (xs.take (stepBest xs)))
def stepFin (xs : List Nat) : Bool := allN (xs.length - 1) fun i => finM (stepSum xs (i + 1))
def stepOk (xs : List Nat) : Bool := seriesM xs && (decide (2 ≤ xs.length) && (stepFin xs && finM (stepBy xs)))







/-! ### seasons -/
def seasonM (xs : List Nat) (per : Nat) : List Nat := lessOneM (foldM xs per) (meanM (foldM xs per))
def seasonOk (xs : List Nat) (per : Int) : Bool := seriesM xs && (inM per 1 xs.length && finAllM (seasonM xs per.toNat))





/-! ### the best period -/
def bpSum (xs : List Nat) (per : Int) : Nat := leftM xs (foldM xs per.toNat)
def bpAt (xs : List Nat) (low : Int) : Nat → Int × Nat
  | 0 => (0, 0)
  | j + 1 => if ((bpAt xs low j).1 == 0 || flt .f32 (bpSum xs (low + j)) (bpAt xs low j).2) = true then (low + j, bpSum xs (low + j)) else bpAt xs low j
def bpN (low top : Int) : Nat := (top + 1 - low).toNat
def bpFin (xs : List Nat) (low top : Int) : Bool := allN (bpN low top) fun j => foldOk xs (low + j)
def bpOk (xs : List Nat) (low top w : Int) : Bool := seriesM xs && (inM low 2 top && (decide (top ≤ (xs.length / 2 : Nat)) && (inM w 1 8 && bpFin xs low top)))




theorem wf_eq {x y ws : List Nat} (h1 : twoM x y = true) (h2 : twoM x ws = true) (h3 : notLessM ws = true) (h4 : fgt .f32 (sumM ws) 0 = true) (h5 : feq .f32 (wfDown x ws) 0 = false) : wfOk x y ws = (finM (wfBase x y ws) && finM (wfSlope x y ws)) := by
  simp [wfOk, h1, h2, h3, h4, h5]
theorem two_eq {x y : List Nat} : twoM x y = (seriesM x && (seriesM y && decide (x.length = y.length))) := by
  unfold twoM
  have : ((x.length : Int) == (y.length : Int)) = decide (x.length = y.length) := by
    rw [Bool.eq_iff_iff, beq_iff_eq, decide_eq_true_eq]; omega
  rw [this, Bool.and_assoc]
theorem step_le (xs : List Nat) : ∀ j, (stepAt xs j).1 ≤ j
  | 0 => Nat.le_refl _
  | j + 1 => by
    have := step_le xs j
    simp only [stepAt]
    split
    · exact Nat.le_refl _
    · omega
theorem step_pos (xs : List Nat) : ∀ j, 1 ≤ j → 1 ≤ (stepAt xs j).1
  | 0, h => by omega
  | j + 1, _ => by
    simp only [stepAt]
    split
    · simp
    · rename_i h
      simp at h; omega
theorem season_len (xs : List Nat) (per : Nat) : (seasonM xs per).length = per := by unfold seasonM; rw [lessOne_len, fold_len]
end Go.Proofs.LV
