/- Columns: what they are, what is fitted to them. -/
import Derived.Test.YtjfgmnfkkehgfaaLvFnGG
namespace Go.Proofs.LV
open Go
set_option linter.unusedVariables false
set_option linter.unusedSimpArgs false

def colP (n : Nat) (c : List Nat) : Bool := seriesM c && (c.length == n)
def colsM (xss : LL) (n : Nat) : Bool := decide (1 ≤ xss.length) && (decide (xss.length ≤ 6) && xss.all (colP n))






/-- the sum at a place, of the first k columns -/
def fitAt (xss : LL) (ts : List Nat) (k j : Nat) : Nat := accN (fun i s => fadd .f32 s (fmul .f32 ((xss.getD i []).getD j 0) (ts.getD i 0))) k 0
def fitM (xss : LL) (ts : List Nat) : List Nat := tab (xss.getD 0 []).length (fitAt xss ts xss.length)
def fitOk (xss : LL) (ts : List Nat) : Bool := colsM xss (xss.getD 0 []).length && (ts.length == xss.length && finAllM ts)
/-- columns that are as long -/
def sameL (xss : LL) : Prop := ∀ i, i < xss.length → (xss.getD i []).length = (xss.getD 0 []).length





theorem allN_all {α : Type} (xs : List α) (d : α) (p : α → Bool) : (allN xs.length fun i => p (xs.getD i d)) = xs.all p := by
  rw [Bool.eq_iff_iff, allN_iff, List.all_eq_true]
  constructor
  · intro h x hx
    obtain ⟨i, hi, rfl⟩ := List.getElem_of_mem hx
    have := h i hi
    simpa [List.getD, hi] using this
  · intro h i hi
    refine h _ ?_
    simp [List.getD, hi]

theorem cols_facts {xss : LL} {n : Nat} (h : colsM xss n = true) : (1 ≤ xss.length ∧ xss.length ≤ 6) ∧ (∀ i, i < xss.length → seriesM (xss.getD i []) = true ∧ (xss.getD i []).length = n) ∧ n ≤ 96 := by
  unfold colsM at h
  simp only [Bool.and_eq_true, decide_eq_true_eq, List.all_eq_true] at h
  have h2 : ∀ i, i < xss.length → seriesM (xss.getD i []) = true ∧ (xss.getD i []).length = n := fun i hi => by
    have := h.2.2 _ (row_mem xss i hi)
    simpa [colP] using this
  refine ⟨⟨h.1, h.2.1⟩, h2, ?_⟩
  have := h2 0 (by omega)
  have hl := series_len this.1
  omega
theorem fit_len (xss : LL) (ts : List Nat) : (fitM xss ts).length = (xss.getD 0 []).length := tab_len _ _

end Go.Proofs.LV
