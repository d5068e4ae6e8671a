/-
  No cell of these rows narrows 'for every input' (looked for: loops, veiled, ifaces, maps, wideKeys, modest, calm, conditions, laid).
  DERIVED. THE GIVEN ROWS OF THIS SEAT. 5 by the template 'for every input the law returns true; each argument reads behind the call as it read before'; 0 by the template 'total and deterministic' (their statements: YtefjlhancibhbaaTotals.lean).
  GIVEN WITH THE SEED: the statements are not yours to turn. If you find one false, say at which input.
  Laid BY PROGRAM, IN A SANDBOX (cutbox-rows.mjs): the forced cells as the released guide's own fill.sh prints them over the translation 41397d4bd5792ff3… (all of the seat's roots in one cut). By AI agents, Wed Nov 11 2026. No macro, syntax, notation, axiom, sorry.
-/
import Derived.Test.YtefjlhancibhbaaChecked
import GoSem.Claim
import GoSem.ClaimJoined
import GoSem.ClaimMapViews
import Derived.JoinedTies
import Derived.KernelRfl
namespace Go.Proofs.Ytefjlhancibhbaa
/- THE CELL 'sum', in the pinned program and in every row, IS THE sha256 OF THE DUMP (.gsa) THAT YtefjlhancibhbaaProg.lean LOADS. Nothing in Lean hashes anything: it is a label: what it is worth is what the hold of that sum in a sandbox is worth. -/
noncomputable def Try.pinned : Pinned := { name := "ytefjlhancibhbaa", sum := "41397d4bd5792ff39b6c9f60b2a3fc1554676135dd6f0d2a2c96ca3ea18fbd0f", checked := Try.checked }
namespace Rows
def none {H : Type} : Left H := { results := [], args := [] }

/-- 'forebaylaw37.AuditLooks': WHATEVER THE INPUT: true; the input reads as it did. -/
def auditLooksSpec : ChangeSpec := { name := "auditLooks", fn := fun _ => fun
  | [d1, d2, d3] => { results := [.lit (.bool true)], args := [d1, d2, d3] }
  | _ => none }
def auditLooksRow : OpenClaim := { program := "ytefjlhancibhbaa", sum := "41397d4bd5792ff39b6c9f60b2a3fc1554676135dd6f0d2a2c96ca3ea18fbd0f", func := "forebay/forebaylaw37.AuditLooks", spec := "auditLooks", unfollowed := true, recurses := true, apart := false }
def AuditLooksSaid : Prop := auditLooksRow.holds Try.pinned (OpenSpec.ofChange auditLooksSpec)

/-- ITS FALSE NEIGHBOUR: 'it returns false'. Refute it at one input. -/
def auditLooksWrong : ChangeSpec := { name := "auditLooks", fn := fun _ => fun
  | [d1, d2, d3] => { results := [.lit (.bool false)], args := [d1, d2, d3] }
  | _ => none }
def AuditLooksWrongFalsely : Prop := auditLooksRow.holds Try.pinned (OpenSpec.ofChange auditLooksWrong)

/-- 'forebaylaw34.TraceChecks': WHATEVER THE INPUT: true; the input reads as it did. -/
def traceChecksSpec : ChangeSpec := { name := "traceChecks", fn := fun _ => fun
  | [d1, d2] => { results := [.lit (.bool true)], args := [d1, d2] }
  | _ => none }
def traceChecksRow : OpenClaim := { program := "ytefjlhancibhbaa", sum := "41397d4bd5792ff39b6c9f60b2a3fc1554676135dd6f0d2a2c96ca3ea18fbd0f", func := "forebay/forebaylaw34.TraceChecks", spec := "traceChecks", unfollowed := true, recurses := true, apart := false }
def TraceChecksSaid : Prop := traceChecksRow.holds Try.pinned (OpenSpec.ofChange traceChecksSpec)

/-- ITS FALSE NEIGHBOUR: 'it returns false'. Refute it at one input. -/
def traceChecksWrong : ChangeSpec := { name := "traceChecks", fn := fun _ => fun
  | [d1, d2] => { results := [.lit (.bool false)], args := [d1, d2] }
  | _ => none }
def TraceChecksWrongFalsely : Prop := traceChecksRow.holds Try.pinned (OpenSpec.ofChange traceChecksWrong)

/-- 'forebaylaw34.TraceCuts': WHATEVER THE INPUT: true; the input reads as it did. -/
def traceCutsSpec : ChangeSpec := { name := "traceCuts", fn := fun _ => fun
  | [d1, d2, d3] => { results := [.lit (.bool true)], args := [d1, d2, d3] }
  | _ => none }
def traceCutsRow : OpenClaim := { program := "ytefjlhancibhbaa", sum := "41397d4bd5792ff39b6c9f60b2a3fc1554676135dd6f0d2a2c96ca3ea18fbd0f", func := "forebay/forebaylaw34.TraceCuts", spec := "traceCuts", unfollowed := true, recurses := true, apart := false }
def TraceCutsSaid : Prop := traceCutsRow.holds Try.pinned (OpenSpec.ofChange traceCutsSpec)

/-- ITS FALSE NEIGHBOUR: 'it returns false'. Refute it at one input. -/
def traceCutsWrong : ChangeSpec := { name := "traceCuts", fn := fun _ => fun
  | [d1, d2, d3] => { results := [.lit (.bool false)], args := [d1, d2, d3] }
  | _ => none }
def TraceCutsWrongFalsely : Prop := traceCutsRow.holds Try.pinned (OpenSpec.ofChange traceCutsWrong)

/-- 'forebaylaw42.TidyPrograms': WHATEVER THE INPUT: true; the input reads as it did. -/
def tidyProgramsSpec : ChangeSpec := { name := "tidyPrograms", fn := fun _ => fun
  | [d] => { results := [.lit (.bool true)], args := [d] }
  | _ => none }
def tidyProgramsRow : OpenClaim := { program := "ytefjlhancibhbaa", sum := "41397d4bd5792ff39b6c9f60b2a3fc1554676135dd6f0d2a2c96ca3ea18fbd0f", func := "forebay/forebaylaw42.TidyPrograms", spec := "tidyPrograms", apart := false }
def TidyProgramsSaid : Prop := tidyProgramsRow.holds Try.pinned (OpenSpec.ofChange tidyProgramsSpec)

/-- ITS FALSE NEIGHBOUR: 'it returns false'. Refute it at one input. -/
def tidyProgramsWrong : ChangeSpec := { name := "tidyPrograms", fn := fun _ => fun
  | [d] => { results := [.lit (.bool false)], args := [d] }
  | _ => none }
def TidyProgramsWrongFalsely : Prop := tidyProgramsRow.holds Try.pinned (OpenSpec.ofChange tidyProgramsWrong)

/-- 'forebaylaw34.TraceFollows': WHATEVER THE INPUT: true; the input reads as it did. -/
def traceFollowsSpec : ChangeSpec := { name := "traceFollows", fn := fun _ => fun
  | [d] => { results := [.lit (.bool true)], args := [d] }
  | _ => none }
def traceFollowsRow : OpenClaim := { program := "ytefjlhancibhbaa", sum := "41397d4bd5792ff39b6c9f60b2a3fc1554676135dd6f0d2a2c96ca3ea18fbd0f", func := "forebay/forebaylaw34.TraceFollows", spec := "traceFollows", unfollowed := true, recurses := true, apart := false }
def TraceFollowsSaid : Prop := traceFollowsRow.holds Try.pinned (OpenSpec.ofChange traceFollowsSpec)

/-- ITS FALSE NEIGHBOUR: 'it returns false'. Refute it at one input. -/
def traceFollowsWrong : ChangeSpec := { name := "traceFollows", fn := fun _ => fun
  | [d] => { results := [.lit (.bool false)], args := [d] }
  | _ => none }
def TraceFollowsWrongFalsely : Prop := traceFollowsRow.holds Try.pinned (OpenSpec.ofChange traceFollowsWrong)

/- THE SECOND FORM. 'bulk': how many values and letters a reading holds, each counted each time it is reached (what is shared counts as often as it is met; a slice's spare places count too). A statement '..UptoSaid' is the law's where the arguments, and the package variables that the reading takes, are together of bulk at most 1048576: NARROWER than '..Said'. Prove '..Said' where nothing that the law and all that it calls make is longer than what came in: it says more and counts as full. Else prove '..UptoSaid'. A law counts once. -/
mutual
def uptoBulk {H : Type} : DataW H → Nat
  | .lit (.string bytes) => bytes.length + 1
  | .lit _ => 1
  | .nil => 1
  | .ptr d => uptoBulk d + 1
  | .slice elems spare => uptoBulkAll elems + uptoBulkAll spare + 1
  | .agg parts => uptoBulkAll parts + 1
  | .iface _ d => uptoBulk d + 1
  | .map entries => uptoBulkEntries entries + 1
  | .held _ => 1
def uptoBulkAll {H : Type} : List (DataW H) → Nat
  | [] => 0
  | d :: r => uptoBulk d + uptoBulkAll r
def uptoBulkEntries {H : Type} : List (Lit × DataW H) → Nat
  | [] => 0
  | x :: r => uptoBulkEntry x + uptoBulkEntries r
def uptoBulkEntry {H : Type} : Lit × DataW H → Nat
  | (.string bytes, d) => bytes.length + uptoBulk d + 1
  | (_, d) => uptoBulk d + 1
 end
def uptoSmall : (H : Type) → List (DataW H) → Bool := fun _ ds => decide (uptoBulkAll ds ≤ 1048576)
def OpenSpec.upto (s : _root_.Go.ChangeSpec) : _root_.Go.OpenSpec := { _root_.Go.OpenSpec.ofChange s with cond := some uptoSmall }

/-- 'forebaylaw37.AuditLooks', WHERE WHAT IT READS IS OF BULK AT MOST 1048576: true; the input reads as it did. -/
def auditLooksUptoRow : OpenClaim := { program := "ytefjlhancibhbaa", sum := "41397d4bd5792ff39b6c9f60b2a3fc1554676135dd6f0d2a2c96ca3ea18fbd0f", func := "forebay/forebaylaw37.AuditLooks", spec := "auditLooks", unfollowed := true, recurses := true, apart := false, narrowed := true }
def AuditLooksUptoSaid : Prop := auditLooksUptoRow.holds Try.pinned (OpenSpec.upto auditLooksSpec)

/-- 'forebaylaw34.TraceChecks', WHERE WHAT IT READS IS OF BULK AT MOST 1048576: true; the input reads as it did. -/
def traceChecksUptoRow : OpenClaim := { program := "ytefjlhancibhbaa", sum := "41397d4bd5792ff39b6c9f60b2a3fc1554676135dd6f0d2a2c96ca3ea18fbd0f", func := "forebay/forebaylaw34.TraceChecks", spec := "traceChecks", unfollowed := true, recurses := true, apart := false, narrowed := true }
def TraceChecksUptoSaid : Prop := traceChecksUptoRow.holds Try.pinned (OpenSpec.upto traceChecksSpec)

/-- 'forebaylaw34.TraceCuts', WHERE WHAT IT READS IS OF BULK AT MOST 1048576: true; the input reads as it did. -/
def traceCutsUptoRow : OpenClaim := { program := "ytefjlhancibhbaa", sum := "41397d4bd5792ff39b6c9f60b2a3fc1554676135dd6f0d2a2c96ca3ea18fbd0f", func := "forebay/forebaylaw34.TraceCuts", spec := "traceCuts", unfollowed := true, recurses := true, apart := false, narrowed := true }
def TraceCutsUptoSaid : Prop := traceCutsUptoRow.holds Try.pinned (OpenSpec.upto traceCutsSpec)

/-- 'forebaylaw42.TidyPrograms', WHERE WHAT IT READS IS OF BULK AT MOST 1048576: true; the input reads as it did. -/
def tidyProgramsUptoRow : OpenClaim := { program := "ytefjlhancibhbaa", sum := "41397d4bd5792ff39b6c9f60b2a3fc1554676135dd6f0d2a2c96ca3ea18fbd0f", func := "forebay/forebaylaw42.TidyPrograms", spec := "tidyPrograms", apart := false, narrowed := true }
def TidyProgramsUptoSaid : Prop := tidyProgramsUptoRow.holds Try.pinned (OpenSpec.upto tidyProgramsSpec)

/-- 'forebaylaw34.TraceFollows', WHERE WHAT IT READS IS OF BULK AT MOST 1048576: true; the input reads as it did. -/
def traceFollowsUptoRow : OpenClaim := { program := "ytefjlhancibhbaa", sum := "41397d4bd5792ff39b6c9f60b2a3fc1554676135dd6f0d2a2c96ca3ea18fbd0f", func := "forebay/forebaylaw34.TraceFollows", spec := "traceFollows", unfollowed := true, recurses := true, apart := false, narrowed := true }
def TraceFollowsUptoSaid : Prop := traceFollowsUptoRow.holds Try.pinned (OpenSpec.upto traceFollowsSpec)

end Rows
end Go.Proofs.Ytefjlhancibhbaa
