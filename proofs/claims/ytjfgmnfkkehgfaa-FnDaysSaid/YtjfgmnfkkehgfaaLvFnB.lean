/- Whether all numbers of a list are finite; series; states. -/
import Derived.Test.YtjfgmnfkkehgfaaLvFnA
namespace Go.Proofs.LV
open Go
set_option linter.unusedVariables false
set_option linter.unusedSimpArgs false

/-- an environment of n slots of which only slot s is told -/
abbrev ret1 (n s : Nat) (v : AV) : Env := anys s ++ v :: anys (n - s - 1)
/-- the first place -/
def idxM {α : Type} (p : α → Bool) (xs : List α) : Int := if xs.findIdx p < xs.length then xs.findIdx p else -1
theorem findIdx_not {α : Type} {p : α → Bool} {xs : List α} {i : Nat} (d : α) (h : i < xs.findIdx p) (hl : i < xs.length) : p (xs.getD i d) = false := by
  have := List.not_of_lt_findIdx h
  simpa [List.getD, List.getElem?_eq_getElem hl] using this
theorem findIdx_is {α : Type} {p : α → Bool} {xs : List α} (d : α) (h : xs.findIdx p < xs.length) : p (xs.getD (xs.findIdx p) d) = true := by
  have := List.findIdx_getElem (w := h)
  simpa [List.getD, List.getElem?_eq_getElem h] using this
theorem findIdx_eq {α : Type} {p : α → Bool} {xs : List α} (h : ¬ xs.findIdx p < xs.length) : xs.findIdx p = xs.length := by
  have := List.findIdx_le_length (p := p) (xs := xs); omega
theorem any_findIdx {α : Type} {p : α → Bool} {xs : List α} : xs.any p = decide (xs.findIdx p < xs.length) := by
  rw [Bool.eq_iff_iff]
  simp only [List.any_eq_true, decide_eq_true_eq, List.findIdx_lt_length]
theorem idx_any {α : Type} {p : α → Bool} {xs : List α} : decide (idxM p xs ≥ 0) = xs.any p := by
  rw [any_findIdx]
  unfold idxM
  by_cases hlt : xs.findIdx p < xs.length
  · simp [hlt]
  · simp [hlt]


theorem finAll_findIdx (xs : List Nat) : finAllM xs = !decide (xs.findIdx (fun x => !finM x) < xs.length) := by
  rw [← any_findIdx, ← List.not_all_eq_any_not, Bool.not_not]; rfl


theorem maxLen_eq : maxLen = 9223372036854775807 := rfl
def seriesM (xs : List Nat) : Bool := decide ((xs.length : Int) ≥ 1) && (decide ((xs.length : Int) ≤ 96) && finAllM xs)
def twoM (xs ys : List Nat) : Bool := seriesM xs && seriesM ys && ((xs.length : Int) == (ys.length : Int))
def ifAllM (xs : List Nat) : List Nat := if finAllM xs = true then xs else []
def validStateM (l s : Nat) (xs : List Nat) (t : Int) : Bool := finM l && finM s && inM xs.length 1 24 && finAllM xs && inM t 0 (xs.length - 1)













end Go.Proofs.LV
