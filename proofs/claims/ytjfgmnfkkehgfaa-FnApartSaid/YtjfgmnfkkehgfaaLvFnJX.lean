/- Texts that belong together. -/
import Derived.Test.YtjfgmnfkkehgfaaLvFnI
namespace Go.Proofs.LV
open Go
set_option linter.unusedVariables false
set_option linter.unusedSimpArgs false

def offM (a : List Nat) : List Nat := lessOneM a (meanM a)
/-! ### guesses ahead -/
/-! ### means of series -/
end Go.Proofs.LV

namespace Go.Proofs.LV
open Go
set_option linter.unusedVariables false
set_option linter.unusedSimpArgs false

end Go.Proofs.LV
