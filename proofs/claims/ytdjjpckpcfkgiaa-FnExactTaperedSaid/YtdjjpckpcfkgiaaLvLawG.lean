/- The law FnExactStartState. -/
import Derived.Test.YtdjjpckpcfkgiaaLvFnL
import Derived.Test.YtdjjpckpcfkgiaaLvLawF
namespace Go.Proofs.LV
open Go
set_option linter.unusedVariables false
set_option linter.unusedSimpArgs false



end Go.Proofs.LV
