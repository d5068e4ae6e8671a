/- WorkerNone: the walk. -/
import Derived.Test.YtelibaobkcokdaaGreatQU2M5
namespace Go.Proofs.YtelibaobkcokdaaGreat.Mx
set_option linter.unusedVariables false
set_option linter.unusedSimpArgs false
open Go Go.Kx Go.Proofs Go.Proofs.YtelibaobkcokdaaGreat
set_option maxRecDepth 8000
def two:List (List Ix):=[[⟨1,1,7,0⟩,⟨20,1,0,0⟩,⟨0,0,0,0⟩],[⟨17,1,0,0⟩,⟨0,0,0,0⟩]]
def q2:Pm:=⟨1,1,3,4,2,false,false,two⟩
structure XOk (x:WC) (n:Nat):Prop where
 wk:WkOk x.1
 fr:Fr2 x.2
 hl:x.2.held.length≤1000000
 lg:x.2.log.length≤2 * n
 bk:x.2.back.length≤n
theorem XOk.step {x:WC} {n:Nat} (h:XOk x n) (q:Pm) (v:Int):XOk (wkStep q x v) (n+1):=by
 obtain ⟨g,k⟩:=g_wkStep (q:=q) (x:=x) h.wk v
 exact ⟨k,g.fr h.hl h.fr,by rw[g.hl];exact h.hl,by have:=g.lg;have:=h.lg;omega,by have:=g.bk;have:=h.bk;omega⟩
end Go.Proofs.YtelibaobkcokdaaGreat.Mx
