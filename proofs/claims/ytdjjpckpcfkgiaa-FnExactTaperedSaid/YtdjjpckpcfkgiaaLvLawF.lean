/- The laws FnExactSelfLikes, AheadOf, LikeSum. -/
import Derived.Test.YtdjjpckpcfkgiaaLvFnJ
import Derived.Test.YtdjjpckpcfkgiaaLvLawB
namespace Go.Proofs.LV
open Go
set_option linter.unusedVariables false
set_option linter.unusedSimpArgs false


end Go.Proofs.LV
