/- The laws FnExactSelfLikes, AheadOf, LikeSum. -/
import Derived.Test.YtjfgmnfkkehgfaaLvFnJ
import Derived.Test.YtjfgmnfkkehgfaaLvLawB
namespace Go.Proofs.LV
open Go
set_option linter.unusedVariables false
set_option linter.unusedSimpArgs false


end Go.Proofs.LV
