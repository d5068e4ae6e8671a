/-
  No cell of these rows narrows 'for every input' (looked for: loops, veiled, ifaces, maps, wideKeys, modest, calm, conditions, laid).
  DERIVED. THE GIVEN ROWS OF THIS SEAT. 6 by the template 'for every input the law returns true; each argument reads behind the call as it read before'; 0 by the template 'total and deterministic' (their statements: YthgmfjkbgacfaaaTotals.lean).
  GIVEN WITH THE SEED: the statements are not yours to turn. If you find one false, say at which input.
  Laid BY PROGRAM, IN A SANDBOX (cutbox-rows.mjs): the forced cells as the released guide's own fill.sh prints them over the translation ed46708ff83af3fe… (all of the seat's roots in one cut). By AI agents, Wed Nov 11 2026. No macro, syntax, notation, axiom, sorry.
-/
import Derived.Test.YthgmfjkbgacfaaaChecked
import GoSem.Claim
import GoSem.ClaimJoined
import GoSem.ClaimMapViews
import Derived.JoinedTies
import Derived.KernelRfl
namespace Go.Proofs.Ythgmfjkbgacfaaa
/- THE CELL 'sum', in the pinned program and in every row, IS THE sha256 OF THE DUMP (.gsa) THAT YthgmfjkbgacfaaaProg.lean LOADS. Nothing in Lean hashes anything: it is a label: what it is worth is what the hold of that sum in a sandbox is worth. -/
noncomputable def Try.pinned : Pinned := { name := "ythgmfjkbgacfaaa", sum := "ed46708ff83af3fe3310f546e4a38323069dd1866f0d3ea4e888a799c75fa74b", checked := Try.checked }
namespace Rows
def none {H : Type} : Left H := { results := [], args := [] }

/-- 'forebaylaw24.LogParts': WHATEVER THE INPUT: true; the input reads as it did. -/
def logPartsSpec : ChangeSpec := { name := "logParts", fn := fun _ => fun
  | [d] => { results := [.lit (.bool true)], args := [d] }
  | _ => none }
def logPartsRow : OpenClaim := { program := "ythgmfjkbgacfaaa", sum := "ed46708ff83af3fe3310f546e4a38323069dd1866f0d3ea4e888a799c75fa74b", func := "forebay/forebaylaw24.LogParts", spec := "logParts", unfollowed := true, recurses := true, apart := false }
def LogPartsSaid : Prop := logPartsRow.holds Try.pinned (OpenSpec.ofChange logPartsSpec)

/-- ITS FALSE NEIGHBOUR: 'it returns false'. Refute it at one input. -/
def logPartsWrong : ChangeSpec := { name := "logParts", fn := fun _ => fun
  | [d] => { results := [.lit (.bool false)], args := [d] }
  | _ => none }
def LogPartsWrongFalsely : Prop := logPartsRow.holds Try.pinned (OpenSpec.ofChange logPartsWrong)

/-- 'forebaylaw34.TraceChecks': WHATEVER THE INPUT: true; the input reads as it did. -/
def traceChecksSpec : ChangeSpec := { name := "traceChecks", fn := fun _ => fun
  | [d1, d2] => { results := [.lit (.bool true)], args := [d1, d2] }
  | _ => none }
def traceChecksRow : OpenClaim := { program := "ythgmfjkbgacfaaa", sum := "ed46708ff83af3fe3310f546e4a38323069dd1866f0d3ea4e888a799c75fa74b", func := "forebay/forebaylaw34.TraceChecks", spec := "traceChecks", unfollowed := true, recurses := true, apart := false }
def TraceChecksSaid : Prop := traceChecksRow.holds Try.pinned (OpenSpec.ofChange traceChecksSpec)

/-- ITS FALSE NEIGHBOUR: 'it returns false'. Refute it at one input. -/
def traceChecksWrong : ChangeSpec := { name := "traceChecks", fn := fun _ => fun
  | [d1, d2] => { results := [.lit (.bool false)], args := [d1, d2] }
  | _ => none }
def TraceChecksWrongFalsely : Prop := traceChecksRow.holds Try.pinned (OpenSpec.ofChange traceChecksWrong)

/-- 'forebaylaw34.TraceCuts': WHATEVER THE INPUT: true; the input reads as it did. -/
def traceCutsSpec : ChangeSpec := { name := "traceCuts", fn := fun _ => fun
  | [d1, d2, d3] => { results := [.lit (.bool true)], args := [d1, d2, d3] }
  | _ => none }
def traceCutsRow : OpenClaim := { program := "ythgmfjkbgacfaaa", sum := "ed46708ff83af3fe3310f546e4a38323069dd1866f0d3ea4e888a799c75fa74b", func := "forebay/forebaylaw34.TraceCuts", spec := "traceCuts", unfollowed := true, recurses := true, apart := false }
def TraceCutsSaid : Prop := traceCutsRow.holds Try.pinned (OpenSpec.ofChange traceCutsSpec)

/-- ITS FALSE NEIGHBOUR: 'it returns false'. Refute it at one input. -/
def traceCutsWrong : ChangeSpec := { name := "traceCuts", fn := fun _ => fun
  | [d1, d2, d3] => { results := [.lit (.bool false)], args := [d1, d2, d3] }
  | _ => none }
def TraceCutsWrongFalsely : Prop := traceCutsRow.holds Try.pinned (OpenSpec.ofChange traceCutsWrong)

/-- 'forebaylaw42.TidyPrograms': WHATEVER THE INPUT: true; the input reads as it did. -/
def tidyProgramsSpec : ChangeSpec := { name := "tidyPrograms", fn := fun _ => fun
  | [d] => { results := [.lit (.bool true)], args := [d] }
  | _ => none }
def tidyProgramsRow : OpenClaim := { program := "ythgmfjkbgacfaaa", sum := "ed46708ff83af3fe3310f546e4a38323069dd1866f0d3ea4e888a799c75fa74b", func := "forebay/forebaylaw42.TidyPrograms", spec := "tidyPrograms", apart := false }
def TidyProgramsSaid : Prop := tidyProgramsRow.holds Try.pinned (OpenSpec.ofChange tidyProgramsSpec)

/-- ITS FALSE NEIGHBOUR: 'it returns false'. Refute it at one input. -/
def tidyProgramsWrong : ChangeSpec := { name := "tidyPrograms", fn := fun _ => fun
  | [d] => { results := [.lit (.bool false)], args := [d] }
  | _ => none }
def TidyProgramsWrongFalsely : Prop := tidyProgramsRow.holds Try.pinned (OpenSpec.ofChange tidyProgramsWrong)

/-- 'forebaylaw34.TraceFollows': WHATEVER THE INPUT: true; the input reads as it did. -/
def traceFollowsSpec : ChangeSpec := { name := "traceFollows", fn := fun _ => fun
  | [d] => { results := [.lit (.bool true)], args := [d] }
  | _ => none }
def traceFollowsRow : OpenClaim := { program := "ythgmfjkbgacfaaa", sum := "ed46708ff83af3fe3310f546e4a38323069dd1866f0d3ea4e888a799c75fa74b", func := "forebay/forebaylaw34.TraceFollows", spec := "traceFollows", unfollowed := true, recurses := true, apart := false }
def TraceFollowsSaid : Prop := traceFollowsRow.holds Try.pinned (OpenSpec.ofChange traceFollowsSpec)

/-- ITS FALSE NEIGHBOUR: 'it returns false'. Refute it at one input. -/
def traceFollowsWrong : ChangeSpec := { name := "traceFollows", fn := fun _ => fun
  | [d] => { results := [.lit (.bool false)], args := [d] }
  | _ => none }
def TraceFollowsWrongFalsely : Prop := traceFollowsRow.holds Try.pinned (OpenSpec.ofChange traceFollowsWrong)

/-- 'forebaylaw33.GridStrands': WHATEVER THE INPUT: true; the input reads as it did. -/
def gridStrandsSpec : ChangeSpec := { name := "gridStrands", fn := fun _ => fun
  | [d] => { results := [.lit (.bool true)], args := [d] }
  | _ => none }
def gridStrandsRow : OpenClaim := { program := "ythgmfjkbgacfaaa", sum := "ed46708ff83af3fe3310f546e4a38323069dd1866f0d3ea4e888a799c75fa74b", func := "forebay/forebaylaw33.GridStrands", spec := "gridStrands", apart := false }
def GridStrandsSaid : Prop := gridStrandsRow.holds Try.pinned (OpenSpec.ofChange gridStrandsSpec)

/-- ITS FALSE NEIGHBOUR: 'it returns false'. Refute it at one input. -/
def gridStrandsWrong : ChangeSpec := { name := "gridStrands", fn := fun _ => fun
  | [d] => { results := [.lit (.bool false)], args := [d] }
  | _ => none }
def GridStrandsWrongFalsely : Prop := gridStrandsRow.holds Try.pinned (OpenSpec.ofChange gridStrandsWrong)

/- THE SECOND FORM. 'bulk': how many values and letters a reading holds, each counted each time it is reached (what is shared counts as often as it is met; a slice's spare places count too). A statement '..UptoSaid' is the law's where the arguments, and the package variables that the reading takes, are together of bulk at most 1048576: NARROWER than '..Said'. Prove '..Said' where nothing that the law and all that it calls make is longer than what came in: it says more and counts as full. Else prove '..UptoSaid'. A law counts once. -/
mutual
def uptoBulk {H : Type} : DataW H → Nat
  | .lit (.string bytes) => bytes.length + 1
  | .lit _ => 1
  | .nil => 1
  | .ptr d => uptoBulk d + 1
  | .slice elems spare => uptoBulkAll elems + uptoBulkAll spare + 1
  | .agg parts => uptoBulkAll parts + 1
  | .iface _ d => uptoBulk d + 1
  | .map entries => uptoBulkEntries entries + 1
  | .held _ => 1
def uptoBulkAll {H : Type} : List (DataW H) → Nat
  | [] => 0
  | d :: r => uptoBulk d + uptoBulkAll r
def uptoBulkEntries {H : Type} : List (Lit × DataW H) → Nat
  | [] => 0
  | x :: r => uptoBulkEntry x + uptoBulkEntries r
def uptoBulkEntry {H : Type} : Lit × DataW H → Nat
  | (.string bytes, d) => bytes.length + uptoBulk d + 1
  | (_, d) => uptoBulk d + 1
 end
def uptoSmall : (H : Type) → List (DataW H) → Bool := fun _ ds => decide (uptoBulkAll ds ≤ 1048576)
def OpenSpec.upto (s : _root_.Go.ChangeSpec) : _root_.Go.OpenSpec := { _root_.Go.OpenSpec.ofChange s with cond := some uptoSmall }

/-- 'forebaylaw24.LogParts', WHERE WHAT IT READS IS OF BULK AT MOST 1048576: true; the input reads as it did. -/
def logPartsUptoRow : OpenClaim := { program := "ythgmfjkbgacfaaa", sum := "ed46708ff83af3fe3310f546e4a38323069dd1866f0d3ea4e888a799c75fa74b", func := "forebay/forebaylaw24.LogParts", spec := "logParts", unfollowed := true, recurses := true, apart := false, narrowed := true }
def LogPartsUptoSaid : Prop := logPartsUptoRow.holds Try.pinned (OpenSpec.upto logPartsSpec)

/-- 'forebaylaw34.TraceChecks', WHERE WHAT IT READS IS OF BULK AT MOST 1048576: true; the input reads as it did. -/
def traceChecksUptoRow : OpenClaim := { program := "ythgmfjkbgacfaaa", sum := "ed46708ff83af3fe3310f546e4a38323069dd1866f0d3ea4e888a799c75fa74b", func := "forebay/forebaylaw34.TraceChecks", spec := "traceChecks", unfollowed := true, recurses := true, apart := false, narrowed := true }
def TraceChecksUptoSaid : Prop := traceChecksUptoRow.holds Try.pinned (OpenSpec.upto traceChecksSpec)

/-- 'forebaylaw34.TraceCuts', WHERE WHAT IT READS IS OF BULK AT MOST 1048576: true; the input reads as it did. -/
def traceCutsUptoRow : OpenClaim := { program := "ythgmfjkbgacfaaa", sum := "ed46708ff83af3fe3310f546e4a38323069dd1866f0d3ea4e888a799c75fa74b", func := "forebay/forebaylaw34.TraceCuts", spec := "traceCuts", unfollowed := true, recurses := true, apart := false, narrowed := true }
def TraceCutsUptoSaid : Prop := traceCutsUptoRow.holds Try.pinned (OpenSpec.upto traceCutsSpec)

/-- 'forebaylaw42.TidyPrograms', WHERE WHAT IT READS IS OF BULK AT MOST 1048576: true; the input reads as it did. -/
def tidyProgramsUptoRow : OpenClaim := { program := "ythgmfjkbgacfaaa", sum := "ed46708ff83af3fe3310f546e4a38323069dd1866f0d3ea4e888a799c75fa74b", func := "forebay/forebaylaw42.TidyPrograms", spec := "tidyPrograms", apart := false, narrowed := true }
def TidyProgramsUptoSaid : Prop := tidyProgramsUptoRow.holds Try.pinned (OpenSpec.upto tidyProgramsSpec)

/-- 'forebaylaw34.TraceFollows', WHERE WHAT IT READS IS OF BULK AT MOST 1048576: true; the input reads as it did. -/
def traceFollowsUptoRow : OpenClaim := { program := "ythgmfjkbgacfaaa", sum := "ed46708ff83af3fe3310f546e4a38323069dd1866f0d3ea4e888a799c75fa74b", func := "forebay/forebaylaw34.TraceFollows", spec := "traceFollows", unfollowed := true, recurses := true, apart := false, narrowed := true }
def TraceFollowsUptoSaid : Prop := traceFollowsUptoRow.holds Try.pinned (OpenSpec.upto traceFollowsSpec)

/-- 'forebaylaw33.GridStrands', WHERE WHAT IT READS IS OF BULK AT MOST 1048576: true; the input reads as it did. -/
def gridStrandsUptoRow : OpenClaim := { program := "ythgmfjkbgacfaaa", sum := "ed46708ff83af3fe3310f546e4a38323069dd1866f0d3ea4e888a799c75fa74b", func := "forebay/forebaylaw33.GridStrands", spec := "gridStrands", apart := false, narrowed := true }
def GridStrandsUptoSaid : Prop := gridStrandsUptoRow.holds Try.pinned (OpenSpec.upto gridStrandsSpec)

end Rows
end Go.Proofs.Ythgmfjkbgacfaaa
