/- WorkerNone: works; the walk. -/
import Derived.Test.YtelibaobkcokdaaGreatQU2Mxs
namespace Go.Proofs.YtelibaobkcokdaaGreat.Mx
set_option linter.unusedVariables false
set_option linter.unusedSimpArgs false
open Go Go.Kx Go.Proofs Go.Proofs.YtelibaobkcokdaaGreat
set_option maxRecDepth 8000
end Go.Proofs.YtelibaobkcokdaaGreat.Mx
