/- Texts that belong together. -/
import Derived.Test.YtjfgmnfkkehgfaaLvAbsX
namespace Go.Proofs.LV
open Go
set_option linter.unusedVariables false
set_option linter.unusedSimpArgs false

def weighedM (ws a b : List Nat) : Nat := accN (fun i s => fadd .f32 s (fmul .f32 (fmul .f32 (ws.getD i 0) (a.getD i 0)) (b.getD i 0))) ws.length 0
def wfX (x ws : List Nat) : Nat := fdiv .f32 (dotM ws x) (sumM ws)
def wfU (x ws : List Nat) : List Nat := lessOneM x (wfX x ws)
def wfDown (x ws : List Nat) : Nat := weighedM ws (wfU x ws) (wfU x ws)
def wfSlope (x y ws : List Nat) : Nat := fdiv .f32 (weighedM ws (wfU x ws) (wfU y ws)) (wfDown x ws)
def wfBase (x y ws : List Nat) : Nat := fsub .f32 (wfX y ws) (fmul .f32 (wfSlope x y ws) (wfX x ws))
def wfOk (x y ws : List Nat) : Bool := twoM x y && (twoM x ws && (notLessM ws && (fgt .f32 (sumM ws) 0 && (!feq .f32 (wfDown x ws) 0 && (finM (wfBase x y ws) && finM (wfSlope x y ws))))))




/-! ### steps -/
def squaresM (xs : List Nat) : Nat := dotM (lessOneM xs (meanM xs)) (lessOneM xs (meanM xs))
def stepSum (xs : List Nat) (i : Nat) : Nat := fadd .f32 (squaresM (xs.take i)) (squaresM (xs.drop i))
def stepAt (xs : List Nat) : Nat → Nat × Nat
  | 0 => (0, 0)
  | j + 1 => if ((stepAt xs j).1 == 0 || flt .f32 (stepSum xs (j + 1)) (stepAt xs j).2) = true then (j + 1, stepSum xs (j + 1)) else stepAt xs j
def stepBest (xs : List Nat) : Nat := (stepAt xs (xs.length - 1)).1
def stepBy (xs : List Nat) : Nat := fsub .f32 (meanM (xs.drop (stepBest xs))) (meanM (xs.take (stepBest xs)))
def stepFin (xs : List Nat) : Bool := allN (xs.length - 1) fun i => finM (stepSum xs (i + 1))
def stepOk (xs : List Nat) : Bool := seriesM xs && (decide (2 ≤ xs.length) && (stepFin xs && finM (stepBy xs)))







/-! ### seasons -/
def seasonM (xs : List Nat) (per : Nat) : List Nat := lessOneM (foldM xs per) (meanM (foldM xs per))
def seasonOk (xs : List Nat) (per : Int) : Bool := seriesM xs && (inM per 1 xs.length && finAllM (seasonM xs per.toNat))





/-! ### the best period -/
def bpSum (xs : List Nat) (per : Int) : Nat := leftM xs (foldM xs per.toNat)
def bpAt (xs : List Nat) (low : Int) : Nat → Int × Nat
  | 0 => (0, 0)
  | j + 1 => if ((bpAt xs low j).1 == 0 || flt .f32 (bpSum xs (low + j)) (bpAt xs low j).2) = true then (low + j, bpSum xs (low + j)) else bpAt xs low j
def bpN (low top : Int) : Nat := (top + 1 - low).toNat
def bpFin (xs : List Nat) (low top : Int) : Bool := allN (bpN low top) fun j => foldOk xs (low + j)
def bpOk (xs : List Nat) (low top w : Int) : Bool := seriesM xs && (inM low 2 top && (decide (top ≤ (xs.length / 2 : Nat)) && (inM w 1 8 && bpFin xs low top)))




theorem wf_eq {x y ws : List Nat} (h1 : twoM x y = true) (h2 : twoM x ws = true) (h3 : notLessM ws = true) (h4 : fgt .f32 (sumM ws) 0 = true) (h5 : feq .f32 (wfDown x ws) 0 = false) : wfOk x y ws = (finM (wfBase x y ws) && finM (wfSlope x y ws)) := by
  simp [wfOk, h1, h2, h3, h4, h5]
theorem two_eq {x y : List Nat} : twoM x y = (seriesM x && (seriesM y && decide (x.length = y.length))) := by
  unfold twoM
  have : ((x.length : Int) == (y.length : Int)) = decide (x.length = y.length) := by
    rw [Bool.eq_iff_iff, beq_iff_eq, decide_eq_true_eq]; omega
  rw [this, Bool.and_assoc]
theorem step_le (xs : List Nat) : ∀ j, (stepAt xs j).1 ≤ j
  | 0 => Nat.le_refl _
  | j + 1 => by
    have := step_le xs j
    simp only [stepAt]
    split
    · exact Nat.le_refl _
    · omega
theorem step_pos (xs : List Nat) : ∀ j, 1 ≤ j → 1 ≤ (stepAt xs j).1
  | 0, h => by omega
  | j + 1, _ => by
    simp only [stepAt]
    split
    · simp
    · rename_i h
      simp at h; omega
theorem season_len (xs : List Nat) (per : Nat) : (seasonM xs per).length = per := by unfold seasonM; rw [lessOne_len, fold_len]
end Go.Proofs.LV

namespace Go.Proofs.LV
open Go
set_option linter.unusedVariables false
set_option linter.unusedSimpArgs false

abbrev LL := List (List Nat)
abbrev PF (p : List Nat) (xs : LL) : AV := .sl (.par p) 0 (.ff .f32 xs)
/-- the sum of products with those a lag later -/
def delM (a : List Nat) (lag : Nat) : Nat := accN (fun i s => fadd .f32 s (fmul .f32 (a.getD i 0) (a.getD (i + lag) 0))) (a.length - lag) 0
def offM (a : List Nat) : List Nat := lessOneM a (meanM a)
def likesM (a : List Nat) (most : Nat) : List Nat := tab (most + 1) fun lag => fdiv .f32 (delM (offM a) lag) (delM (offM a) 0)
def likesOk (a : List Nat) (most : Int) : Bool := seriesM a && (inM most 0 16 && (decide (most < a.length) && (fgt .f32 (delM (offM a) 0) 0 && finAllM (likesM a most.toNat))))
def likesOut (a : List Nat) (most : Int) : List Nat := if likesOk a most = true then likesM a most.toNat else []





/-- the sum of products with another's numbers a lag later -/
def cdelM (a b : List Nat) (lag : Int) : Nat := accN (fun i s => if 0 ≤ (i : Int) + lag ∧ (i : Int) + lag < b.length then fadd .f32 s (fmul .f32 (a.getD i 0) (b.getD ((i : Int) + lag).toNat 0)) else s) a.length 0



def lsSum (n : Nat) (r : List Nat) : Nat := accN (fun j s => fadd .f32 s (fdiv .f32 (fmul .f32 (r.getD (j + 1) 0) (r.getD (j + 1) 0)) (fofi .f32 (n - (j + 1) : Nat)))) (r.length - 1) 0
def lsM (a r : List Nat) : Nat := fmul .f32 (fmul .f32 (fofi .f32 a.length) (fadd .f32 (fofi .f32 a.length) 1073741824)) (lsSum a.length r)
def lsOk (a : List Nat) (most : Int) : Bool := likesOk a most && finM (lsM a (likesM a most.toNat))



/-! ### guesses ahead -/
def adAt (d : Nat) (n : Nat) : Nat × Nat := accN (fun _ a => (fadd .f32 a.1 (fmul .f32 a.2 d), fmul .f32 a.2 d)) n (d, d)
def adM (l s : Nat) (xs : List Nat) (t : Int) (d : Nat) (n : Nat) : List Nat := tab n fun k => fadd .f32 (fadd .f32 l (fmul .f32 (adAt d k).1 s)) (xs.getD ((t.toNat + k) % xs.length) 0)
def adOk (l s : Nat) (xs : List Nat) (t : Int) (a b c d : Nat) (n : Int) : Bool := validStateM l s xs t && (sharesM a b c d && (inM n 1 32 && finAllM (adM l s xs t d n.toNat)))




/-! ### means of series -/
def meanOk (xs : List Nat) : Bool := seriesM xs && finM (meanM xs)



def msFin (xs : LL) : Bool := allN xs.length fun i => meanOk (xs.getD i [])
def msOk (xs : LL) (w : Int) : Bool := decide (1 ≤ xs.length) && (decide (xs.length ≤ 16) && (inM w 1 8 && msFin xs))
def msM (xs : LL) : List Nat := tab xs.length fun i => meanM (xs.getD i [])



theorem off_len (a : List Nat) : (offM a).length = a.length := lessOne_len _ _
theorem likes_len (a : List Nat) (m : Nat) : (likesM a m).length = m + 1 := tab_len _ _
theorem del_zero (x : List Nat) : dotM x x = delM x 0 := rfl
theorem dot_shift (x : List Nat) (lag : Nat) : dotM (x.take (x.length - lag)) (x.drop lag) = delM x lag := by
  unfold dotM delM
  rw [List.length_take, Nat.min_eq_left (Nat.sub_le _ _)]
  refine accN_congr fun i s hi => ?_
  rw [getD_take _ _ _ _ hi, getD_drop', Nat.add_comm lag i]
theorem cdel_self (b : List Nat) (g : Nat) : cdelM b b g = delM b g := by
  have gen : ∀ n, accN (fun i s => if 0 ≤ (i : Int) + (g : Int) ∧ (i : Int) + (g : Int) < b.length then fadd .f32 s (fmul .f32 (b.getD i 0) (b.getD ((i : Int) + (g : Int)).toNat 0)) else s) n 0 = accN (fun i s => fadd .f32 s (fmul .f32 (b.getD i 0) (b.getD (i + g) 0))) (min n (b.length - g)) 0 := by
    intro n
    induction n with
    | zero => rfl
    | succ n ih =>
      simp only [accN]
      by_cases h1 : n + g < b.length
      · rw [if_pos (by omega), ih, show min (n + 1) (b.length - g) = min n (b.length - g) + 1 by omega]
        simp only [accN]
        rw [show min n (b.length - g) = n by omega, show ((n : Int) + (g : Int)).toNat = n + g by omega]
      · rw [if_neg (by omega), ih, show min (n + 1) (b.length - g) = min n (b.length - g) by omega]
  unfold cdelM
  rw [gen, show min b.length (b.length - g) = b.length - g by omega]; rfl
theorem small_sub : ∀ n : Fin 97, ∀ k : Fin 18, k.val ≤ n.val → fsub .f32 (fofi .f32 (n.val : Int)) (fofi .f32 (k.val : Int)) = fofi .f32 ((n.val - k.val : Nat) : Int) := by decide +kernel
theorem likesOk_in {a : List Nat} {most : Int} (h : likesOk a most = true) : 1 ≤ a.length ∧ a.length ≤ 96 ∧ 0 ≤ most ∧ most ≤ 16 ∧ most < a.length := by
  unfold likesOk at h
  simp only [Bool.and_eq_true, decide_eq_true_eq] at h
  have := series_len h.1
  have : 0 ≤ most ∧ most ≤ 16 := by simpa [inM] using h.2.1
  omega
theorem ad_len (l s : Nat) (xs : List Nat) (t : Int) (d n : Nat) : (adM l s xs t d n).length = n := tab_len _ _
end Go.Proofs.LV
