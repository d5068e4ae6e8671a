/- Programs: great ones, and their own copies: the walks. -/
import Derived.Test.YtelibaobkcokdaaGreatA2Pra
import Derived.Test.YtelibaobkcokdaaGreatA2Cb
namespace Go.Proofs.YtelibaobkcokdaaGreat
set_option linter.unusedVariables false
set_option linter.unusedSimpArgs false
open Go Go.Kx Go.Proofs
end Go.Proofs.YtelibaobkcokdaaGreat
