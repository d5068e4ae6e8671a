/- MachineSums: with the bounds of what comes in. -/
import Derived.Test.YtelibaobkcokdaaGreatB2Mya
namespace Go.Proofs.YtelibaobkcokdaaGreat.Mx
set_option linter.unusedVariables false
set_option linter.unusedSimpArgs false
open Go Go.Kx Go.Proofs Go.Proofs.YtelibaobkcokdaaGreat
theorem GT (x:Int×List (List Ix)) (inp:List Int) (y:Pm) (sc:List (Int×Int)) (h0:x.2.length≤9223372036854775807) (_:inp.length≤9223372036854775807) (_:True) (_:sc.length≤9223372036854775807):FnP Tryz.prog 5 [.agg (Go.Proofs.YtelibaobkcokdaaGreat.aPr x.1 x.2),aInts inp,.agg (aPr y),aPxs sc] fun a=>a=aBool true:=GS x inp y sc h0
end Go.Proofs.YtelibaobkcokdaaGreat.Mx
