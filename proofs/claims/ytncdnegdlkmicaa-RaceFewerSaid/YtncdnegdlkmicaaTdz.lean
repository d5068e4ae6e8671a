/- Instructions; their targets; right functions. -/
import Derived.Test.YtncdnegdlkmicaaVm
namespace Go.Proofs.Ytncdnegdlkmicaa
set_option linter.unusedVariables false
set_option linter.unusedSimpArgs false
open Go Go.Kx Go.Proofs

structure Ix where
  op : Int
  a : Int
  b : Int
  c : Int
  deriving DecidableEq
def tgtX (x : Ix) : Option Int := if x.op = 18 then some x.a else if x.op = 19 then some x.b else none
def endsX (x : Ix) : Bool := decide (x.op = 0 ∨ x.op = 18 ∨ x.op = 25)
theorem tgt_jump {x : Ix} (h : x.op = 18) : tgtX x = some x.a := by unfold tgtX; rw [if_pos h]

/-- All targets are places. -/
structure Rt (l : List Ix) : Prop where
  pos : 0 < l.length
  tg : ∀ (i : Nat) (x : Ix) (t : Int), l[i]? = some x → tgtX x = some t → 0 ≤ t ∧ t < l.length
  last : ∀ x : Ix, l[l.length - 1]? = some x → endsX x = true

end Go.Proofs.Ytncdnegdlkmicaa
