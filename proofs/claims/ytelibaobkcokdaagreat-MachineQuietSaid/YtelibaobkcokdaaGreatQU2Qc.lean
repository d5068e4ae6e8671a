/- MachineQuiet: with the bounds of what comes in. -/
import Derived.Test.YtelibaobkcokdaaGreatQU2Qb
import Derived.Test.YtelibaobkcokdaaGreatQU2Mya
namespace Go.Proofs.YtelibaobkcokdaaGreat.Mx
set_option linter.unusedVariables false
set_option linter.unusedSimpArgs false
open Go Go.Kx Go.Proofs Go.Proofs.YtelibaobkcokdaaGreat
theorem J37 (x:Int×List (List Ix)) (inp:List Int) (y:Pm) (sc mo:List (Int×Int)) (h0:x.2.length≤9223372036854775807) (_:inp.length≤9223372036854775807) (_:True) (_:sc.length≤9223372036854775807) (h4:mo.length≤9223372036854775807):FnP Tryz.prog 6 [.agg (Go.Proofs.YtelibaobkcokdaaGreat.aPr x.1 x.2),aInts inp,.agg (aPr y),aPxs sc,aPxs mo] fun a=>a=aBool true:=J36 x inp y sc mo h0 h4
end Go.Proofs.YtelibaobkcokdaaGreat.Mx
