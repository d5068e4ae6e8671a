/-
  No cell of these rows narrows 'for every input' (looked for: loops, veiled, ifaces, maps, wideKeys, modest, calm, conditions, laid).
  DERIVED. THE GIVEN ROWS OF THIS SEAT. 16 by the template 'for every input the law returns true; each argument reads behind the call as it read before'; 0 by the template 'total and deterministic' (their statements: YtilofhocodbknaaTotals.lean).
  GIVEN WITH THE SEED: the statements are not yours to turn. If you find one false, say at which input.
  Laid BY PROGRAM, IN A SANDBOX (cutbox-rows.mjs): the forced cells as the released guide's own fill.sh prints them over the translation c7c39589f5623c54… (all of the seat's roots in one cut). By AI agents, Wed Nov 11 2026. No macro, syntax, notation, axiom, sorry.
-/
import Derived.Test.YtilofhocodbknaaChecked
import GoSem.Claim
import GoSem.ClaimJoined
import GoSem.ClaimMapViews
import Derived.JoinedTies
import Derived.KernelRfl
namespace Go.Proofs.Ytilofhocodbknaa
/- THE CELL 'sum', in the pinned program and in every row, IS THE sha256 OF THE DUMP (.gsa) THAT YtilofhocodbknaaProg.lean LOADS. Nothing in Lean hashes anything: it is a label: what it is worth is what the hold of that sum in a sandbox is worth. -/
noncomputable def Try.pinned : Pinned := { name := "ytilofhocodbknaa", sum := "c7c39589f5623c54f9e1f1ff6b8097d6a2757afdb044f042523663961420cc77", checked := Try.checked }
namespace Rows
def none {H : Type} : Left H := { results := [], args := [] }

/-- 'forebaylaw24.LogParts': WHATEVER THE INPUT: true; the input reads as it did. -/
def logPartsSpec : ChangeSpec := { name := "logParts", fn := fun _ => fun
  | [d] => { results := [.lit (.bool true)], args := [d] }
  | _ => none }
def logPartsRow : OpenClaim := { program := "ytilofhocodbknaa", sum := "c7c39589f5623c54f9e1f1ff6b8097d6a2757afdb044f042523663961420cc77", func := "forebay/forebaylaw24.LogParts", spec := "logParts", unfollowed := true, recurses := true, apart := false }
def LogPartsSaid : Prop := logPartsRow.holds Try.pinned (OpenSpec.ofChange logPartsSpec)

/-- ITS FALSE NEIGHBOUR: 'it returns false'. Refute it at one input. -/
def logPartsWrong : ChangeSpec := { name := "logParts", fn := fun _ => fun
  | [d] => { results := [.lit (.bool false)], args := [d] }
  | _ => none }
def LogPartsWrongFalsely : Prop := logPartsRow.holds Try.pinned (OpenSpec.ofChange logPartsWrong)

/-- 'forebaylaw40.CompareOrder': WHATEVER THE INPUT: true; the input reads as it did. -/
def compareOrderSpec : ChangeSpec := { name := "compareOrder", fn := fun _ => fun
  | [d1, d2, d3] => { results := [.lit (.bool true)], args := [d1, d2, d3] }
  | _ => none }
def compareOrderRow : OpenClaim := { program := "ytilofhocodbknaa", sum := "c7c39589f5623c54f9e1f1ff6b8097d6a2757afdb044f042523663961420cc77", func := "forebay/forebaylaw40.CompareOrder", spec := "compareOrder", unfollowed := true, recurses := true, apart := false }
def CompareOrderSaid : Prop := compareOrderRow.holds Try.pinned (OpenSpec.ofChange compareOrderSpec)

/-- ITS FALSE NEIGHBOUR: 'it returns false'. Refute it at one input. -/
def compareOrderWrong : ChangeSpec := { name := "compareOrder", fn := fun _ => fun
  | [d1, d2, d3] => { results := [.lit (.bool false)], args := [d1, d2, d3] }
  | _ => none }
def CompareOrderWrongFalsely : Prop := compareOrderRow.holds Try.pinned (OpenSpec.ofChange compareOrderWrong)

/-- 'forebaylaw33.GridEdges': WHATEVER THE INPUT: true; the input reads as it did. -/
def gridEdgesSpec : ChangeSpec := { name := "gridEdges", fn := fun _ => fun
  | [d] => { results := [.lit (.bool true)], args := [d] }
  | _ => none }
def gridEdgesRow : OpenClaim := { program := "ytilofhocodbknaa", sum := "c7c39589f5623c54f9e1f1ff6b8097d6a2757afdb044f042523663961420cc77", func := "forebay/forebaylaw33.GridEdges", spec := "gridEdges", apart := false }
def GridEdgesSaid : Prop := gridEdgesRow.holds Try.pinned (OpenSpec.ofChange gridEdgesSpec)

/-- ITS FALSE NEIGHBOUR: 'it returns false'. Refute it at one input. -/
def gridEdgesWrong : ChangeSpec := { name := "gridEdges", fn := fun _ => fun
  | [d] => { results := [.lit (.bool false)], args := [d] }
  | _ => none }
def GridEdgesWrongFalsely : Prop := gridEdgesRow.holds Try.pinned (OpenSpec.ofChange gridEdgesWrong)

/-- 'forebaylaw33.GridBefore': WHATEVER THE INPUT: true; the input reads as it did. -/
def gridBeforeSpec : ChangeSpec := { name := "gridBefore", fn := fun _ => fun
  | [d1, d2, d3] => { results := [.lit (.bool true)], args := [d1, d2, d3] }
  | _ => none }
def gridBeforeRow : OpenClaim := { program := "ytilofhocodbknaa", sum := "c7c39589f5623c54f9e1f1ff6b8097d6a2757afdb044f042523663961420cc77", func := "forebay/forebaylaw33.GridBefore", spec := "gridBefore", recurses := true, apart := false }
def GridBeforeSaid : Prop := gridBeforeRow.holds Try.pinned (OpenSpec.ofChange gridBeforeSpec)

/-- ITS FALSE NEIGHBOUR: 'it returns false'. Refute it at one input. -/
def gridBeforeWrong : ChangeSpec := { name := "gridBefore", fn := fun _ => fun
  | [d1, d2, d3] => { results := [.lit (.bool false)], args := [d1, d2, d3] }
  | _ => none }
def GridBeforeWrongFalsely : Prop := gridBeforeRow.holds Try.pinned (OpenSpec.ofChange gridBeforeWrong)

/-- 'forebaylaw33.GridForth': WHATEVER THE INPUT: true; the input reads as it did. -/
def gridForthSpec : ChangeSpec := { name := "gridForth", fn := fun _ => fun
  | [d] => { results := [.lit (.bool true)], args := [d] }
  | _ => none }
def gridForthRow : OpenClaim := { program := "ytilofhocodbknaa", sum := "c7c39589f5623c54f9e1f1ff6b8097d6a2757afdb044f042523663961420cc77", func := "forebay/forebaylaw33.GridForth", spec := "gridForth", apart := false }
def GridForthSaid : Prop := gridForthRow.holds Try.pinned (OpenSpec.ofChange gridForthSpec)

/-- ITS FALSE NEIGHBOUR: 'it returns false'. Refute it at one input. -/
def gridForthWrong : ChangeSpec := { name := "gridForth", fn := fun _ => fun
  | [d] => { results := [.lit (.bool false)], args := [d] }
  | _ => none }
def GridForthWrongFalsely : Prop := gridForthRow.holds Try.pinned (OpenSpec.ofChange gridForthWrong)

/-- 'forebaylaw33.GridNodes': WHATEVER THE INPUT: true; the input reads as it did. -/
def gridNodesSpec : ChangeSpec := { name := "gridNodes", fn := fun _ => fun
  | [d1, d2, d3, d4] => { results := [.lit (.bool true)], args := [d1, d2, d3, d4] }
  | _ => none }
def gridNodesRow : OpenClaim := { program := "ytilofhocodbknaa", sum := "c7c39589f5623c54f9e1f1ff6b8097d6a2757afdb044f042523663961420cc77", func := "forebay/forebaylaw33.GridNodes", spec := "gridNodes", apart := false }
def GridNodesSaid : Prop := gridNodesRow.holds Try.pinned (OpenSpec.ofChange gridNodesSpec)

/-- ITS FALSE NEIGHBOUR: 'it returns false'. Refute it at one input. -/
def gridNodesWrong : ChangeSpec := { name := "gridNodes", fn := fun _ => fun
  | [d1, d2, d3, d4] => { results := [.lit (.bool false)], args := [d1, d2, d3, d4] }
  | _ => none }
def GridNodesWrongFalsely : Prop := gridNodesRow.holds Try.pinned (OpenSpec.ofChange gridNodesWrong)

/-- 'forebaylaw31.ReachTells': WHATEVER THE INPUT: true; the input reads as it did. -/
def reachTellsSpec : ChangeSpec := { name := "reachTells", fn := fun _ => fun
  | [d1, d2, d3] => { results := [.lit (.bool true)], args := [d1, d2, d3] }
  | _ => none }
def reachTellsRow : OpenClaim := { program := "ytilofhocodbknaa", sum := "c7c39589f5623c54f9e1f1ff6b8097d6a2757afdb044f042523663961420cc77", func := "forebay/forebaylaw31.ReachTells", spec := "reachTells", recurses := true, apart := false }
def ReachTellsSaid : Prop := reachTellsRow.holds Try.pinned (OpenSpec.ofChange reachTellsSpec)

/-- ITS FALSE NEIGHBOUR: 'it returns false'. Refute it at one input. -/
def reachTellsWrong : ChangeSpec := { name := "reachTells", fn := fun _ => fun
  | [d1, d2, d3] => { results := [.lit (.bool false)], args := [d1, d2, d3] }
  | _ => none }
def ReachTellsWrongFalsely : Prop := reachTellsRow.holds Try.pinned (OpenSpec.ofChange reachTellsWrong)

/-- 'forebaylaw31.ReachThrough': WHATEVER THE INPUT: true; the input reads as it did. -/
def reachThroughSpec : ChangeSpec := { name := "reachThrough", fn := fun _ => fun
  | [d1, d2, d3, d4] => { results := [.lit (.bool true)], args := [d1, d2, d3, d4] }
  | _ => none }
def reachThroughRow : OpenClaim := { program := "ytilofhocodbknaa", sum := "c7c39589f5623c54f9e1f1ff6b8097d6a2757afdb044f042523663961420cc77", func := "forebay/forebaylaw31.ReachThrough", spec := "reachThrough", apart := false }
def ReachThroughSaid : Prop := reachThroughRow.holds Try.pinned (OpenSpec.ofChange reachThroughSpec)

/-- ITS FALSE NEIGHBOUR: 'it returns false'. Refute it at one input. -/
def reachThroughWrong : ChangeSpec := { name := "reachThrough", fn := fun _ => fun
  | [d1, d2, d3, d4] => { results := [.lit (.bool false)], args := [d1, d2, d3, d4] }
  | _ => none }
def ReachThroughWrongFalsely : Prop := reachThroughRow.holds Try.pinned (OpenSpec.ofChange reachThroughWrong)

/-- 'forebaylaw31.ReachOrders': WHATEVER THE INPUT: true; the input reads as it did. -/
def reachOrdersSpec : ChangeSpec := { name := "reachOrders", fn := fun _ => fun
  | [d1, d2] => { results := [.lit (.bool true)], args := [d1, d2] }
  | _ => none }
def reachOrdersRow : OpenClaim := { program := "ytilofhocodbknaa", sum := "c7c39589f5623c54f9e1f1ff6b8097d6a2757afdb044f042523663961420cc77", func := "forebay/forebaylaw31.ReachOrders", spec := "reachOrders", apart := false }
def ReachOrdersSaid : Prop := reachOrdersRow.holds Try.pinned (OpenSpec.ofChange reachOrdersSpec)

/-- ITS FALSE NEIGHBOUR: 'it returns false'. Refute it at one input. -/
def reachOrdersWrong : ChangeSpec := { name := "reachOrders", fn := fun _ => fun
  | [d1, d2] => { results := [.lit (.bool false)], args := [d1, d2] }
  | _ => none }
def ReachOrdersWrongFalsely : Prop := reachOrdersRow.holds Try.pinned (OpenSpec.ofChange reachOrdersWrong)

/-- 'forebaylaw31.ReachLongest': WHATEVER THE INPUT: true; the input reads as it did. -/
def reachLongestSpec : ChangeSpec := { name := "reachLongest", fn := fun _ => fun
  | [d] => { results := [.lit (.bool true)], args := [d] }
  | _ => none }
def reachLongestRow : OpenClaim := { program := "ytilofhocodbknaa", sum := "c7c39589f5623c54f9e1f1ff6b8097d6a2757afdb044f042523663961420cc77", func := "forebay/forebaylaw31.ReachLongest", spec := "reachLongest", apart := false }
def ReachLongestSaid : Prop := reachLongestRow.holds Try.pinned (OpenSpec.ofChange reachLongestSpec)

/-- ITS FALSE NEIGHBOUR: 'it returns false'. Refute it at one input. -/
def reachLongestWrong : ChangeSpec := { name := "reachLongest", fn := fun _ => fun
  | [d] => { results := [.lit (.bool false)], args := [d] }
  | _ => none }
def ReachLongestWrongFalsely : Prop := reachLongestRow.holds Try.pinned (OpenSpec.ofChange reachLongestWrong)

/-- 'forebaylaw41.SpanPlans': WHATEVER THE INPUT: true; the input reads as it did. -/
def spanPlansSpec : ChangeSpec := { name := "spanPlans", fn := fun _ => fun
  | [d1, d2] => { results := [.lit (.bool true)], args := [d1, d2] }
  | _ => none }
def spanPlansRow : OpenClaim := { program := "ytilofhocodbknaa", sum := "c7c39589f5623c54f9e1f1ff6b8097d6a2757afdb044f042523663961420cc77", func := "forebay/forebaylaw41.SpanPlans", spec := "spanPlans", recurses := true, apart := false }
def SpanPlansSaid : Prop := spanPlansRow.holds Try.pinned (OpenSpec.ofChange spanPlansSpec)

/-- ITS FALSE NEIGHBOUR: 'it returns false'. Refute it at one input. -/
def spanPlansWrong : ChangeSpec := { name := "spanPlans", fn := fun _ => fun
  | [d1, d2] => { results := [.lit (.bool false)], args := [d1, d2] }
  | _ => none }
def SpanPlansWrongFalsely : Prop := spanPlansRow.holds Try.pinned (OpenSpec.ofChange spanPlansWrong)

/-- 'forebaylaw41.SpanGreedy': WHATEVER THE INPUT: true; the input reads as it did. -/
def spanGreedySpec : ChangeSpec := { name := "spanGreedy", fn := fun _ => fun
  | [d1, d2] => { results := [.lit (.bool true)], args := [d1, d2] }
  | _ => none }
def spanGreedyRow : OpenClaim := { program := "ytilofhocodbknaa", sum := "c7c39589f5623c54f9e1f1ff6b8097d6a2757afdb044f042523663961420cc77", func := "forebay/forebaylaw41.SpanGreedy", spec := "spanGreedy", apart := false }
def SpanGreedySaid : Prop := spanGreedyRow.holds Try.pinned (OpenSpec.ofChange spanGreedySpec)

/-- ITS FALSE NEIGHBOUR: 'it returns false'. Refute it at one input. -/
def spanGreedyWrong : ChangeSpec := { name := "spanGreedy", fn := fun _ => fun
  | [d1, d2] => { results := [.lit (.bool false)], args := [d1, d2] }
  | _ => none }
def SpanGreedyWrongFalsely : Prop := spanGreedyRow.holds Try.pinned (OpenSpec.ofChange spanGreedyWrong)

/-- 'forebaylaw41.SpanTells': WHATEVER THE INPUT: true; the input reads as it did. -/
def spanTellsSpec : ChangeSpec := { name := "spanTells", fn := fun _ => fun
  | [d1, d2] => { results := [.lit (.bool true)], args := [d1, d2] }
  | _ => none }
def spanTellsRow : OpenClaim := { program := "ytilofhocodbknaa", sum := "c7c39589f5623c54f9e1f1ff6b8097d6a2757afdb044f042523663961420cc77", func := "forebay/forebaylaw41.SpanTells", spec := "spanTells", recurses := true, apart := false }
def SpanTellsSaid : Prop := spanTellsRow.holds Try.pinned (OpenSpec.ofChange spanTellsSpec)

/-- ITS FALSE NEIGHBOUR: 'it returns false'. Refute it at one input. -/
def spanTellsWrong : ChangeSpec := { name := "spanTells", fn := fun _ => fun
  | [d1, d2] => { results := [.lit (.bool false)], args := [d1, d2] }
  | _ => none }
def SpanTellsWrongFalsely : Prop := spanTellsRow.holds Try.pinned (OpenSpec.ofChange spanTellsWrong)

/-- 'forebaylaw30.StrandBuilds': WHATEVER THE INPUT: true; the input reads as it did. -/
def strandBuildsSpec : ChangeSpec := { name := "strandBuilds", fn := fun _ => fun
  | [d] => { results := [.lit (.bool true)], args := [d] }
  | _ => none }
def strandBuildsRow : OpenClaim := { program := "ytilofhocodbknaa", sum := "c7c39589f5623c54f9e1f1ff6b8097d6a2757afdb044f042523663961420cc77", func := "forebay/forebaylaw30.StrandBuilds", spec := "strandBuilds", recurses := true, apart := false }
def StrandBuildsSaid : Prop := strandBuildsRow.holds Try.pinned (OpenSpec.ofChange strandBuildsSpec)

/-- ITS FALSE NEIGHBOUR: 'it returns false'. Refute it at one input. -/
def strandBuildsWrong : ChangeSpec := { name := "strandBuilds", fn := fun _ => fun
  | [d] => { results := [.lit (.bool false)], args := [d] }
  | _ => none }
def StrandBuildsWrongFalsely : Prop := strandBuildsRow.holds Try.pinned (OpenSpec.ofChange strandBuildsWrong)

/-- 'forebaylaw30.StrandAhead': WHATEVER THE INPUT: true; the input reads as it did. -/
def strandAheadSpec : ChangeSpec := { name := "strandAhead", fn := fun _ => fun
  | [d] => { results := [.lit (.bool true)], args := [d] }
  | _ => none }
def strandAheadRow : OpenClaim := { program := "ytilofhocodbknaa", sum := "c7c39589f5623c54f9e1f1ff6b8097d6a2757afdb044f042523663961420cc77", func := "forebay/forebaylaw30.StrandAhead", spec := "strandAhead", apart := false }
def StrandAheadSaid : Prop := strandAheadRow.holds Try.pinned (OpenSpec.ofChange strandAheadSpec)

/-- ITS FALSE NEIGHBOUR: 'it returns false'. Refute it at one input. -/
def strandAheadWrong : ChangeSpec := { name := "strandAhead", fn := fun _ => fun
  | [d] => { results := [.lit (.bool false)], args := [d] }
  | _ => none }
def StrandAheadWrongFalsely : Prop := strandAheadRow.holds Try.pinned (OpenSpec.ofChange strandAheadWrong)

/-- 'forebaylaw30.StrandMany': WHATEVER THE INPUT: true; the input reads as it did. -/
def strandManySpec : ChangeSpec := { name := "strandMany", fn := fun _ => fun
  | [d] => { results := [.lit (.bool true)], args := [d] }
  | _ => none }
def strandManyRow : OpenClaim := { program := "ytilofhocodbknaa", sum := "c7c39589f5623c54f9e1f1ff6b8097d6a2757afdb044f042523663961420cc77", func := "forebay/forebaylaw30.StrandMany", spec := "strandMany", apart := false }
def StrandManySaid : Prop := strandManyRow.holds Try.pinned (OpenSpec.ofChange strandManySpec)

/-- ITS FALSE NEIGHBOUR: 'it returns false'. Refute it at one input. -/
def strandManyWrong : ChangeSpec := { name := "strandMany", fn := fun _ => fun
  | [d] => { results := [.lit (.bool false)], args := [d] }
  | _ => none }
def StrandManyWrongFalsely : Prop := strandManyRow.holds Try.pinned (OpenSpec.ofChange strandManyWrong)

/- THE SECOND FORM. 'bulk': how many values and letters a reading holds, each counted each time it is reached (what is shared counts as often as it is met; a slice's spare places count too). A statement '..UptoSaid' is the law's where the arguments, and the package variables that the reading takes, are together of bulk at most 1048576: NARROWER than '..Said'. Prove '..Said' where nothing that the law and all that it calls make is longer than what came in: it says more and counts as full. Else prove '..UptoSaid'. A law counts once. -/
mutual
def uptoBulk {H : Type} : DataW H → Nat
  | .lit (.string bytes) => bytes.length + 1
  | .lit _ => 1
  | .nil => 1
  | .ptr d => uptoBulk d + 1
  | .slice elems spare => uptoBulkAll elems + uptoBulkAll spare + 1
  | .agg parts => uptoBulkAll parts + 1
  | .iface _ d => uptoBulk d + 1
  | .map entries => uptoBulkEntries entries + 1
  | .held _ => 1
def uptoBulkAll {H : Type} : List (DataW H) → Nat
  | [] => 0
  | d :: r => uptoBulk d + uptoBulkAll r
def uptoBulkEntries {H : Type} : List (Lit × DataW H) → Nat
  | [] => 0
  | x :: r => uptoBulkEntry x + uptoBulkEntries r
def uptoBulkEntry {H : Type} : Lit × DataW H → Nat
  | (.string bytes, d) => bytes.length + uptoBulk d + 1
  | (_, d) => uptoBulk d + 1
 end
def uptoSmall : (H : Type) → List (DataW H) → Bool := fun _ ds => decide (uptoBulkAll ds ≤ 1048576)
def OpenSpec.upto (s : _root_.Go.ChangeSpec) : _root_.Go.OpenSpec := { _root_.Go.OpenSpec.ofChange s with cond := some uptoSmall }

/-- 'forebaylaw24.LogParts', WHERE WHAT IT READS IS OF BULK AT MOST 1048576: true; the input reads as it did. -/
def logPartsUptoRow : OpenClaim := { program := "ytilofhocodbknaa", sum := "c7c39589f5623c54f9e1f1ff6b8097d6a2757afdb044f042523663961420cc77", func := "forebay/forebaylaw24.LogParts", spec := "logParts", unfollowed := true, recurses := true, apart := false, narrowed := true }
def LogPartsUptoSaid : Prop := logPartsUptoRow.holds Try.pinned (OpenSpec.upto logPartsSpec)

/-- 'forebaylaw40.CompareOrder', WHERE WHAT IT READS IS OF BULK AT MOST 1048576: true; the input reads as it did. -/
def compareOrderUptoRow : OpenClaim := { program := "ytilofhocodbknaa", sum := "c7c39589f5623c54f9e1f1ff6b8097d6a2757afdb044f042523663961420cc77", func := "forebay/forebaylaw40.CompareOrder", spec := "compareOrder", unfollowed := true, recurses := true, apart := false, narrowed := true }
def CompareOrderUptoSaid : Prop := compareOrderUptoRow.holds Try.pinned (OpenSpec.upto compareOrderSpec)

/-- 'forebaylaw33.GridEdges', WHERE WHAT IT READS IS OF BULK AT MOST 1048576: true; the input reads as it did. -/
def gridEdgesUptoRow : OpenClaim := { program := "ytilofhocodbknaa", sum := "c7c39589f5623c54f9e1f1ff6b8097d6a2757afdb044f042523663961420cc77", func := "forebay/forebaylaw33.GridEdges", spec := "gridEdges", apart := false, narrowed := true }
def GridEdgesUptoSaid : Prop := gridEdgesUptoRow.holds Try.pinned (OpenSpec.upto gridEdgesSpec)

/-- 'forebaylaw33.GridBefore', WHERE WHAT IT READS IS OF BULK AT MOST 1048576: true; the input reads as it did. -/
def gridBeforeUptoRow : OpenClaim := { program := "ytilofhocodbknaa", sum := "c7c39589f5623c54f9e1f1ff6b8097d6a2757afdb044f042523663961420cc77", func := "forebay/forebaylaw33.GridBefore", spec := "gridBefore", recurses := true, apart := false, narrowed := true }
def GridBeforeUptoSaid : Prop := gridBeforeUptoRow.holds Try.pinned (OpenSpec.upto gridBeforeSpec)

/-- 'forebaylaw33.GridForth', WHERE WHAT IT READS IS OF BULK AT MOST 1048576: true; the input reads as it did. -/
def gridForthUptoRow : OpenClaim := { program := "ytilofhocodbknaa", sum := "c7c39589f5623c54f9e1f1ff6b8097d6a2757afdb044f042523663961420cc77", func := "forebay/forebaylaw33.GridForth", spec := "gridForth", apart := false, narrowed := true }
def GridForthUptoSaid : Prop := gridForthUptoRow.holds Try.pinned (OpenSpec.upto gridForthSpec)

/-- 'forebaylaw33.GridNodes', WHERE WHAT IT READS IS OF BULK AT MOST 1048576: true; the input reads as it did. -/
def gridNodesUptoRow : OpenClaim := { program := "ytilofhocodbknaa", sum := "c7c39589f5623c54f9e1f1ff6b8097d6a2757afdb044f042523663961420cc77", func := "forebay/forebaylaw33.GridNodes", spec := "gridNodes", apart := false, narrowed := true }
def GridNodesUptoSaid : Prop := gridNodesUptoRow.holds Try.pinned (OpenSpec.upto gridNodesSpec)

/-- 'forebaylaw31.ReachTells', WHERE WHAT IT READS IS OF BULK AT MOST 1048576: true; the input reads as it did. -/
def reachTellsUptoRow : OpenClaim := { program := "ytilofhocodbknaa", sum := "c7c39589f5623c54f9e1f1ff6b8097d6a2757afdb044f042523663961420cc77", func := "forebay/forebaylaw31.ReachTells", spec := "reachTells", recurses := true, apart := false, narrowed := true }
def ReachTellsUptoSaid : Prop := reachTellsUptoRow.holds Try.pinned (OpenSpec.upto reachTellsSpec)

/-- 'forebaylaw31.ReachThrough', WHERE WHAT IT READS IS OF BULK AT MOST 1048576: true; the input reads as it did. -/
def reachThroughUptoRow : OpenClaim := { program := "ytilofhocodbknaa", sum := "c7c39589f5623c54f9e1f1ff6b8097d6a2757afdb044f042523663961420cc77", func := "forebay/forebaylaw31.ReachThrough", spec := "reachThrough", apart := false, narrowed := true }
def ReachThroughUptoSaid : Prop := reachThroughUptoRow.holds Try.pinned (OpenSpec.upto reachThroughSpec)

/-- 'forebaylaw31.ReachOrders', WHERE WHAT IT READS IS OF BULK AT MOST 1048576: true; the input reads as it did. -/
def reachOrdersUptoRow : OpenClaim := { program := "ytilofhocodbknaa", sum := "c7c39589f5623c54f9e1f1ff6b8097d6a2757afdb044f042523663961420cc77", func := "forebay/forebaylaw31.ReachOrders", spec := "reachOrders", apart := false, narrowed := true }
def ReachOrdersUptoSaid : Prop := reachOrdersUptoRow.holds Try.pinned (OpenSpec.upto reachOrdersSpec)

/-- 'forebaylaw31.ReachLongest', WHERE WHAT IT READS IS OF BULK AT MOST 1048576: true; the input reads as it did. -/
def reachLongestUptoRow : OpenClaim := { program := "ytilofhocodbknaa", sum := "c7c39589f5623c54f9e1f1ff6b8097d6a2757afdb044f042523663961420cc77", func := "forebay/forebaylaw31.ReachLongest", spec := "reachLongest", apart := false, narrowed := true }
def ReachLongestUptoSaid : Prop := reachLongestUptoRow.holds Try.pinned (OpenSpec.upto reachLongestSpec)

/-- 'forebaylaw41.SpanPlans', WHERE WHAT IT READS IS OF BULK AT MOST 1048576: true; the input reads as it did. -/
def spanPlansUptoRow : OpenClaim := { program := "ytilofhocodbknaa", sum := "c7c39589f5623c54f9e1f1ff6b8097d6a2757afdb044f042523663961420cc77", func := "forebay/forebaylaw41.SpanPlans", spec := "spanPlans", recurses := true, apart := false, narrowed := true }
def SpanPlansUptoSaid : Prop := spanPlansUptoRow.holds Try.pinned (OpenSpec.upto spanPlansSpec)

/-- 'forebaylaw41.SpanGreedy', WHERE WHAT IT READS IS OF BULK AT MOST 1048576: true; the input reads as it did. -/
def spanGreedyUptoRow : OpenClaim := { program := "ytilofhocodbknaa", sum := "c7c39589f5623c54f9e1f1ff6b8097d6a2757afdb044f042523663961420cc77", func := "forebay/forebaylaw41.SpanGreedy", spec := "spanGreedy", apart := false, narrowed := true }
def SpanGreedyUptoSaid : Prop := spanGreedyUptoRow.holds Try.pinned (OpenSpec.upto spanGreedySpec)

/-- 'forebaylaw41.SpanTells', WHERE WHAT IT READS IS OF BULK AT MOST 1048576: true; the input reads as it did. -/
def spanTellsUptoRow : OpenClaim := { program := "ytilofhocodbknaa", sum := "c7c39589f5623c54f9e1f1ff6b8097d6a2757afdb044f042523663961420cc77", func := "forebay/forebaylaw41.SpanTells", spec := "spanTells", recurses := true, apart := false, narrowed := true }
def SpanTellsUptoSaid : Prop := spanTellsUptoRow.holds Try.pinned (OpenSpec.upto spanTellsSpec)

/-- 'forebaylaw30.StrandBuilds', WHERE WHAT IT READS IS OF BULK AT MOST 1048576: true; the input reads as it did. -/
def strandBuildsUptoRow : OpenClaim := { program := "ytilofhocodbknaa", sum := "c7c39589f5623c54f9e1f1ff6b8097d6a2757afdb044f042523663961420cc77", func := "forebay/forebaylaw30.StrandBuilds", spec := "strandBuilds", recurses := true, apart := false, narrowed := true }
def StrandBuildsUptoSaid : Prop := strandBuildsUptoRow.holds Try.pinned (OpenSpec.upto strandBuildsSpec)

/-- 'forebaylaw30.StrandAhead', WHERE WHAT IT READS IS OF BULK AT MOST 1048576: true; the input reads as it did. -/
def strandAheadUptoRow : OpenClaim := { program := "ytilofhocodbknaa", sum := "c7c39589f5623c54f9e1f1ff6b8097d6a2757afdb044f042523663961420cc77", func := "forebay/forebaylaw30.StrandAhead", spec := "strandAhead", apart := false, narrowed := true }
def StrandAheadUptoSaid : Prop := strandAheadUptoRow.holds Try.pinned (OpenSpec.upto strandAheadSpec)

/-- 'forebaylaw30.StrandMany', WHERE WHAT IT READS IS OF BULK AT MOST 1048576: true; the input reads as it did. -/
def strandManyUptoRow : OpenClaim := { program := "ytilofhocodbknaa", sum := "c7c39589f5623c54f9e1f1ff6b8097d6a2757afdb044f042523663961420cc77", func := "forebay/forebaylaw30.StrandMany", spec := "strandMany", apart := false, narrowed := true }
def StrandManyUptoSaid : Prop := strandManyUptoRow.holds Try.pinned (OpenSpec.upto strandManySpec)

end Rows
end Go.Proofs.Ytilofhocodbknaa
