/- Texts that belong together. -/
import Derived.Test.YtjfgmnfkkehgfaaLvFnDX
import Derived.Test.YtjfgmnfkkehgfaaLvFnHH
import Derived.Test.YtjfgmnfkkehgfaaLvFnMM
namespace Go.Proofs.LV
open Go
set_option linter.unusedVariables false
set_option linter.unusedSimpArgs false

theorem sz_lt (n : Nat) (i : Int) : (szM n i < 0) = (i < n) := by
  unfold szM; split
  · rename_i h; simp [h]
  · rename_i h; simp; omega
theorem sz_val (n : Nat) (i : Int) (h : (n : Int) ≤ i) : szM n i = i - n := by
  unfold szM; rw [if_neg (by omega)]





end Go.Proofs.LV

namespace Go.Proofs.LV
open Go
set_option linter.unusedVariables false
set_option linter.unusedSimpArgs false

theorem szSS_lt (xss : LL) (i : Int) : szSS xss i < 0 ↔ i < xss.length + totN xss xss.length ∨ i < 0 := by
  unfold szSS; split <;> omega
theorem szSS_val {xss : LL} {i : Int} (h : ¬ (i < xss.length + totN xss xss.length)) : szSS xss i = i - (xss.length + totN xss xss.length) := by
  unfold szSS; rw [if_neg h]
theorem rows_le {xss : LL} {n : Nat} (h : totN xss xss.length ≤ n) : ∀ r ∈ xss, r.length ≤ n := by
  intro r hr
  obtain ⟨i, hi, rfl⟩ := List.getElem_of_mem hr
  have := row_tot xss i hi
  simp [List.getD, hi] at this
  omega


theorem fit_out_len (xss : LL) (ts : List Nat) : (if fitOk xss ts = true then ifAllM (fitM xss ts) else []).length ≤ 96 := by
  split
  · rename_i h
    unfold fitOk at h
    simp only [Bool.and_eq_true] at h
    have := (cols_facts h.1).2.2
    unfold ifAllM
    split
    · rw [fit_len]; exact this
    · simp
  · simp
end Go.Proofs.LV

namespace Go.Proofs.LV
open Go
set_option linter.unusedVariables false
set_option linter.unusedSimpArgs false


theorem ft_out_len (xss : LL) (y : List Nat) : (ftOut xss y).length ≤ 96 := by
  unfold ftOut
  split
  · rename_i h
    have := ftOk_facts h
    omega
  · simp
theorem ro_out_len (xss : LL) (y : List Nat) : (if roOk xss y = true then roR xss y else []).length ≤ 96 := by
  split
  · rename_i h
    unfold roOk at h
    simp only [Bool.and_eq_true] at h
    have := ftOk_facts h.1
    rw [roR_len]; omega
  · simp
end Go.Proofs.LV
