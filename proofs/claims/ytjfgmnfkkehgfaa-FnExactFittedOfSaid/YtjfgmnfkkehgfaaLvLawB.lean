/- The laws FnExactSameState, SimpleLevels, ChanceNeeds, SeldomNeeds, DoubleLine, GuessOf. -/
import Derived.Test.YtjfgmnfkkehgfaaLvFnE
namespace Go.Proofs.LV
open Go
set_option linter.unusedVariables false
set_option linter.unusedSimpArgs false

theorem sz_lt (n : Nat) (i : Int) : (szM n i < 0) = (i < n) := by
  unfold szM; split
  · rename_i h; simp [h]
  · rename_i h; simp; omega
theorem sz_val (n : Nat) (i : Int) (h : (n : Int) ≤ i) : szM n i = i - n := by
  unfold szM; rw [if_neg (by omega)]





end Go.Proofs.LV
