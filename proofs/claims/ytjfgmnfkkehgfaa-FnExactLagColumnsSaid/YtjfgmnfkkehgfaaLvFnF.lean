/- Sums, means, products, places, moving means, lines, folded periods. -/
import Derived.Test.YtjfgmnfkkehgfaaLvFnE
namespace Go.Proofs.LV
open Go
set_option linter.unusedVariables false
set_option linter.unusedSimpArgs false

def sumM (xs : List Nat) : Nat := accN (fun i s => fadd .f32 s (xs.getD i 0)) xs.length 0
def meanM (xs : List Nat) : Nat := fdiv .f32 (sumM xs) (fofi .f32 xs.length)
def dotM (xs ys : List Nat) : Nat := accN (fun i s => fadd .f32 s (fmul .f32 (xs.getD i 0) (ys.getD i 0))) xs.length 0
def lessM (xs ys : List Nat) : List Nat := tab xs.length fun i => fsub .f32 (xs.getD i 0) (ys.getD i 0)
def lessOneM (xs : List Nat) (m : Nat) : List Nat := tab xs.length fun i => fsub .f32 (xs.getD i 0) m
def placesM (n : Nat) : List Nat := tab n fun i => fofi .f32 i
def winM (xs : List Nat) (side i : Nat) : List Nat := (xs.drop (i - side)).take (min xs.length (i + side + 1) - (i - side))
def movM (g : List Nat → Nat) (xs : List Nat) (side : Nat) : List Nat := tab xs.length fun i => g (winM xs side i)













def mmOk (g : List Nat → Nat) (xs : List Nat) (side : Int) : Bool := seriesM xs && (inM side 0 96 && finAllM (movM g xs side.toNat))




def lfMid (xs : List Nat) : Nat := meanM (placesM xs.length)
def lfU (xs : List Nat) : List Nat := lessOneM (placesM xs.length) (lfMid xs)
def lfSlope (xs : List Nat) : Nat := fdiv .f32 (dotM (lfU xs) (lessOneM xs (meanM xs))) (dotM (lfU xs) (lfU xs))
def lfBase (xs : List Nat) : Nat := fsub .f32 (meanM xs) (fmul .f32 (lfSlope xs) (lfMid xs))
def lfOk (xs : List Nat) : Bool := seriesM xs && (decide (2 ≤ xs.length) && (finM (lfBase xs) && finM (lfSlope xs)))

def two1 (x y : Nat) : Nat := if (finM x && finM y) = true then x else 0
def two2 (x y : Nat) : Nat := if (finM x && finM y) = true then y else 0


theorem win_low (i s : Nat) (hi : i ≤ 96) (hs : s ≤ 96) : (bif decide (IntKind.wrap .i64 ((i : Int) - s) > 0) then IntKind.wrap .i64 ((i : Int) - s) else 0) = ((i - s : Nat) : Int) := by
  rw [wrap64_id (by omega) (by omega)]
  by_cases h : (i : Int) - s > 0
  · simp only [h, decide_true, cond_true]; omega
  · simp only [h, decide_false, cond_false]; omega
theorem win_high (n i s : Nat) (hn : n ≤ 96) (hi : i ≤ 96) (hs : s ≤ 96) : (bif decide (IntKind.wrap .i64 (IntKind.wrap .i64 ((i : Int) + s) + 1) < (n : Int)) then IntKind.wrap .i64 (IntKind.wrap .i64 ((i : Int) + s) + 1) else (n : Int)) = ((min n (i + s + 1) : Nat) : Int) := by
  rw [wrap64_id (n := (i : Int) + s) (by omega) (by omega), wrap64_id (by omega) (by omega)]
  by_cases h : (i : Int) + s + 1 < n
  · simp only [h, decide_true, cond_true]; omega
  · simp only [h, decide_false, cond_false]; omega
theorem win_high2 (n i s : Nat) (h1 : 1 ≤ n) (hn : n ≤ 96) (hi : i ≤ 96) (hs : s ≤ 96) : IntKind.wrap .i64 ((bif decide (IntKind.wrap .i64 ((i : Int) + s) < IntKind.wrap .i64 ((n : Int) - 1)) then IntKind.wrap .i64 ((i : Int) + s) else IntKind.wrap .i64 ((n : Int) - 1)) + 1) = ((min n (i + s + 1) : Nat) : Int) := by
  rw [wrap64_id (n := (i : Int) + s) (by omega) (by omega), wrap64_id (n := (n : Int) - 1) (by omega) (by omega)]
  by_cases h : (i : Int) + s < n - 1
  · simp only [h, decide_true, cond_true]; rw [wrap64_id (by omega) (by omega)]; omega
  · simp only [h, decide_false, cond_false]; rw [wrap64_id (by omega) (by omega)]; omega
theorem win_len (xs : List Nat) (s i : Nat) (h : i < xs.length) : 1 ≤ (winM xs s i).length ∧ (winM xs s i).length ≤ xs.length := by
  unfold winM; rw [List.length_take, List.length_drop]; omega
theorem nan_zero : nanB .f32 0 = false := by decide
theorem win_all {Q : Nat → Prop} {xs : List Nat} (hN : ∀ i, Q (xs.getD i 0)) (s i j : Nat) : Q ((winM xs s i).getD j 0) := by
  unfold winM
  by_cases h : j < min xs.length (i + s + 1) - (i - s)
  · rw [getD_sub _ _ _ _ _ h]; exact hN _
  · rw [show (List.take (min xs.length (i + s + 1) - (i - s)) (List.drop (i - s) xs)).getD j 0 = 0 by
      simp only [List.getD]
      rw [List.getElem?_eq_none (by rw [List.length_take]; omega)]; rfl]
    have h0 := hN xs.length
    rw [List.getD_eq_getElem?_getD, List.getElem?_eq_none (Nat.le_refl _)] at h0
    exact h0
theorem win_nan {xs : List Nat} (hN : ∀ i, nanB .f32 (xs.getD i 0) = false) (s i j : Nat) : nanB .f32 ((winM xs s i).getD j 0) = false := win_all (Q := fun x => nanB .f32 x = false) hN s i j
theorem fin_nan0 {x : Nat} (h : finM x = true) : nanB .f32 x = false := by
  cases hr : Ieee.single.read x with
  | nan s t =>
    exfalso
    have e : fsub .f32 x x = fnan .f32 := by
      unfold fsub Ieee.Format.sub
      show (Option.map _ ((Ieee.single.read x).sum (Ieee.single.read x).opposite)).getD _ = _
      rw [hr]; rfl
    unfold finM at h
    rw [e] at h
    revert h; decide
  | infinity s => show (Ieee.single.read x).isNaN = false; rw [hr]; rfl
  | number s m e => show (Ieee.single.read x).isNaN = false; rw [hr]; rfl
theorem series_nan {xs : List Nat} (h : seriesM xs = true) (i : Nat) : nanB .f32 (xs.getD i 0) = false := by
  simp [seriesM, finAllM] at h
  by_cases hi : i < xs.length
  · refine fin_nan0 ?_
    have := h.2.2 xs[i] (List.getElem_mem hi)
    simpa [List.getD, List.getElem?_eq_getElem hi] using this
  · rw [show xs.getD i 0 = 0 by simp [List.getD, List.getElem?_eq_none (Nat.le_of_not_lt hi)]]
    exact nan_zero
theorem mov_len (g : List Nat → Nat) (xs : List Nat) (s : Nat) : (movM g xs s).length = xs.length := tab_len _ _
theorem places_len (n : Nat) : (placesM n).length = n := tab_len _ _
theorem lessOne_len (xs : List Nat) (m : Nat) : (lessOneM xs m).length = xs.length := tab_len _ _
theorem less_len (xs ys : List Nat) : (lessM xs ys).length = xs.length := tab_len _ _
theorem lessOne_get (xs : List Nat) (m i : Nat) (h : i < xs.length) : (lessOneM xs m).getD i 0 = fsub .f32 (xs.getD i 0) m := tab_get _ _ _ _ h
theorem less_get (xs ys : List Nat) (i : Nat) (h : i < xs.length) : (lessM xs ys).getD i 0 = fsub .f32 (xs.getD i 0) (ys.getD i 0) := tab_get _ _ _ _ h
end Go.Proofs.LV
