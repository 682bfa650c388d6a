/- The law FnExactStartState. -/
import Derived.Test.YtjfgmnfkkehgfaaLvFnL
import Derived.Test.YtjfgmnfkkehgfaaLvLawF
namespace Go.Proofs.LV
open Go
set_option linter.unusedVariables false
set_option linter.unusedSimpArgs false



end Go.Proofs.LV
