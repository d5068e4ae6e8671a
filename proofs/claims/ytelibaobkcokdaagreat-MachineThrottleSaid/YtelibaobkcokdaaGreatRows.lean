/-
  No cell of these rows narrows 'for every input' (looked for: loops, veiled, ifaces, maps, wideKeys, modest, calm, conditions, laid).
  DERIVED. THE GIVEN ROWS OF THIS SEAT. 9 by the template 'for every input the law returns true; each argument reads behind the call as it read before'; 0 by the template 'total and deterministic' (their statements: YtelibaobkcokdaaGreatTotals.lean).
  GIVEN WITH THE SEED: the statements are not yours to turn. If you find one false, say at which input.
  Laid BY PROGRAM, IN A SANDBOX (cutbox-rows.mjs): the forced cells as the released guide's own fill.sh prints them over the translation e513f15c65e11b62… (all of the seat's roots in one cut). By AI agents, Wed Nov 11 2026. No macro, syntax, notation, axiom, sorry.
-/
import Derived.Test.YtelibaobkcokdaaGreatChecked
import GoSem.Claim
import GoSem.ClaimJoined
import GoSem.ClaimMapViews
import Derived.JoinedTies
import Derived.KernelRfl
namespace Go.Proofs.YtelibaobkcokdaaGreat
/- THE CELL 'sum', in the pinned program and in every row, IS THE sha256 OF THE DUMP (.gsa) THAT YtelibaobkcokdaaGreatProg.lean LOADS. Nothing in Lean hashes anything: it is a label: what it is worth is what the hold of that sum in a sandbox is worth. -/
noncomputable def Tryz.pinned : Pinned := { name := "ytelibaobkcokdaagreat", sum := "e513f15c65e11b620f6df06e048c673f0af06b72b80a7b342c3445be69ea9247", checked := Tryz.checked }
namespace Rows
def none {H : Type} : Left H := { results := [], args := [] }

/-- 'forebaylaw26.WorkerNone': WHATEVER THE INPUT: true; the input reads as it did. -/
def workerNoneSpec : ChangeSpec := { name := "workerNone", fn := fun _ => fun
  | [d1, d2, d3] => { results := [.lit (.bool true)], args := [d1, d2, d3] }
  | _ => none }
def workerNoneRow : OpenClaim := { program := "ytelibaobkcokdaagreat", sum := "e513f15c65e11b620f6df06e048c673f0af06b72b80a7b342c3445be69ea9247", func := "forebay/forebaylaw26.WorkerNone", spec := "workerNone", unfollowed := true, recurses := true, apart := false }
def WorkerNoneSaid : Prop := workerNoneRow.holds Tryz.pinned (OpenSpec.ofChange workerNoneSpec)

/-- ITS FALSE NEIGHBOUR: 'it returns false'. Refute it at one input. -/
def workerNoneWrong : ChangeSpec := { name := "workerNone", fn := fun _ => fun
  | [d1, d2, d3] => { results := [.lit (.bool false)], args := [d1, d2, d3] }
  | _ => none }
def WorkerNoneWrongFalsely : Prop := workerNoneRow.holds Tryz.pinned (OpenSpec.ofChange workerNoneWrong)

/-- 'forebaylaw27.MachineThrottle': WHATEVER THE INPUT: true; the input reads as it did. -/
def machineThrottleSpec : ChangeSpec := { name := "machineThrottle", fn := fun _ => fun
  | [d1, d2, d3, d4] => { results := [.lit (.bool true)], args := [d1, d2, d3, d4] }
  | _ => none }
def machineThrottleRow : OpenClaim := { program := "ytelibaobkcokdaagreat", sum := "e513f15c65e11b620f6df06e048c673f0af06b72b80a7b342c3445be69ea9247", func := "forebay/forebaylaw27.MachineThrottle", spec := "machineThrottle", unfollowed := true, recurses := true, apart := false }
def MachineThrottleSaid : Prop := machineThrottleRow.holds Tryz.pinned (OpenSpec.ofChange machineThrottleSpec)

/-- ITS FALSE NEIGHBOUR: 'it returns false'. Refute it at one input. -/
def machineThrottleWrong : ChangeSpec := { name := "machineThrottle", fn := fun _ => fun
  | [d1, d2, d3, d4] => { results := [.lit (.bool false)], args := [d1, d2, d3, d4] }
  | _ => none }
def MachineThrottleWrongFalsely : Prop := machineThrottleRow.holds Tryz.pinned (OpenSpec.ofChange machineThrottleWrong)

/-- 'forebaylaw27.MachineSums': WHATEVER THE INPUT: true; the input reads as it did. -/
def machineSumsSpec : ChangeSpec := { name := "machineSums", fn := fun _ => fun
  | [d1, d2, d3, d4] => { results := [.lit (.bool true)], args := [d1, d2, d3, d4] }
  | _ => none }
def machineSumsRow : OpenClaim := { program := "ytelibaobkcokdaagreat", sum := "e513f15c65e11b620f6df06e048c673f0af06b72b80a7b342c3445be69ea9247", func := "forebay/forebaylaw27.MachineSums", spec := "machineSums", unfollowed := true, recurses := true, apart := false }
def MachineSumsSaid : Prop := machineSumsRow.holds Tryz.pinned (OpenSpec.ofChange machineSumsSpec)

/-- ITS FALSE NEIGHBOUR: 'it returns false'. Refute it at one input. -/
def machineSumsWrong : ChangeSpec := { name := "machineSums", fn := fun _ => fun
  | [d1, d2, d3, d4] => { results := [.lit (.bool false)], args := [d1, d2, d3, d4] }
  | _ => none }
def MachineSumsWrongFalsely : Prop := machineSumsRow.holds Tryz.pinned (OpenSpec.ofChange machineSumsWrong)

/-- 'forebaylaw27.MachineQuiet': WHATEVER THE INPUT: true; the input reads as it did. -/
def machineQuietSpec : ChangeSpec := { name := "machineQuiet", fn := fun _ => fun
  | [d1, d2, d3, d4, d5] => { results := [.lit (.bool true)], args := [d1, d2, d3, d4, d5] }
  | _ => none }
def machineQuietRow : OpenClaim := { program := "ytelibaobkcokdaagreat", sum := "e513f15c65e11b620f6df06e048c673f0af06b72b80a7b342c3445be69ea9247", func := "forebay/forebaylaw27.MachineQuiet", spec := "machineQuiet", unfollowed := true, recurses := true, apart := false }
def MachineQuietSaid : Prop := machineQuietRow.holds Tryz.pinned (OpenSpec.ofChange machineQuietSpec)

/-- ITS FALSE NEIGHBOUR: 'it returns false'. Refute it at one input. -/
def machineQuietWrong : ChangeSpec := { name := "machineQuiet", fn := fun _ => fun
  | [d1, d2, d3, d4, d5] => { results := [.lit (.bool false)], args := [d1, d2, d3, d4, d5] }
  | _ => none }
def MachineQuietWrongFalsely : Prop := machineQuietRow.holds Tryz.pinned (OpenSpec.ofChange machineQuietWrong)

/-- 'forebaylaw27.MachineCounts': WHATEVER THE INPUT: true; the input reads as it did. -/
def machineCountsSpec : ChangeSpec := { name := "machineCounts", fn := fun _ => fun
  | [d1, d2] => { results := [.lit (.bool true)], args := [d1, d2] }
  | _ => none }
def machineCountsRow : OpenClaim := { program := "ytelibaobkcokdaagreat", sum := "e513f15c65e11b620f6df06e048c673f0af06b72b80a7b342c3445be69ea9247", func := "forebay/forebaylaw27.MachineCounts", spec := "machineCounts", unfollowed := true, recurses := true, apart := false }
def MachineCountsSaid : Prop := machineCountsRow.holds Tryz.pinned (OpenSpec.ofChange machineCountsSpec)

/-- ITS FALSE NEIGHBOUR: 'it returns false'. Refute it at one input. -/
def machineCountsWrong : ChangeSpec := { name := "machineCounts", fn := fun _ => fun
  | [d1, d2] => { results := [.lit (.bool false)], args := [d1, d2] }
  | _ => none }
def MachineCountsWrongFalsely : Prop := machineCountsRow.holds Tryz.pinned (OpenSpec.ofChange machineCountsWrong)

/-- 'forebaylaw37.AuditRuns': WHATEVER THE INPUT: true; the input reads as it did. -/
def auditRunsSpec : ChangeSpec := { name := "auditRuns", fn := fun _ => fun
  | [d1, d2, d3, d4] => { results := [.lit (.bool true)], args := [d1, d2, d3, d4] }
  | _ => none }
def auditRunsRow : OpenClaim := { program := "ytelibaobkcokdaagreat", sum := "e513f15c65e11b620f6df06e048c673f0af06b72b80a7b342c3445be69ea9247", func := "forebay/forebaylaw37.AuditRuns", spec := "auditRuns", unfollowed := true, recurses := true, apart := false }
def AuditRunsSaid : Prop := auditRunsRow.holds Tryz.pinned (OpenSpec.ofChange auditRunsSpec)

/-- ITS FALSE NEIGHBOUR: 'it returns false'. Refute it at one input. -/
def auditRunsWrong : ChangeSpec := { name := "auditRuns", fn := fun _ => fun
  | [d1, d2, d3, d4] => { results := [.lit (.bool false)], args := [d1, d2, d3, d4] }
  | _ => none }
def AuditRunsWrongFalsely : Prop := auditRunsRow.holds Tryz.pinned (OpenSpec.ofChange auditRunsWrong)

/-- 'forebaylaw37.AuditBusy': WHATEVER THE INPUT: true; the input reads as it did. -/
def auditBusySpec : ChangeSpec := { name := "auditBusy", fn := fun _ => fun
  | [d1, d2, d3, d4] => { results := [.lit (.bool true)], args := [d1, d2, d3, d4] }
  | _ => none }
def auditBusyRow : OpenClaim := { program := "ytelibaobkcokdaagreat", sum := "e513f15c65e11b620f6df06e048c673f0af06b72b80a7b342c3445be69ea9247", func := "forebay/forebaylaw37.AuditBusy", spec := "auditBusy", unfollowed := true, recurses := true, apart := false }
def AuditBusySaid : Prop := auditBusyRow.holds Tryz.pinned (OpenSpec.ofChange auditBusySpec)

/-- ITS FALSE NEIGHBOUR: 'it returns false'. Refute it at one input. -/
def auditBusyWrong : ChangeSpec := { name := "auditBusy", fn := fun _ => fun
  | [d1, d2, d3, d4] => { results := [.lit (.bool false)], args := [d1, d2, d3, d4] }
  | _ => none }
def AuditBusyWrongFalsely : Prop := auditBusyRow.holds Tryz.pinned (OpenSpec.ofChange auditBusyWrong)

/-- 'forebaylaw29.SerialAlone': WHATEVER THE INPUT: true; the input reads as it did. -/
def serialAloneSpec : ChangeSpec := { name := "serialAlone", fn := fun _ => fun
  | [d1, d2, d3, d4] => { results := [.lit (.bool true)], args := [d1, d2, d3, d4] }
  | _ => none }
def serialAloneRow : OpenClaim := { program := "ytelibaobkcokdaagreat", sum := "e513f15c65e11b620f6df06e048c673f0af06b72b80a7b342c3445be69ea9247", func := "forebay/forebaylaw29.SerialAlone", spec := "serialAlone", unfollowed := true, recurses := true, apart := false }
def SerialAloneSaid : Prop := serialAloneRow.holds Tryz.pinned (OpenSpec.ofChange serialAloneSpec)

/-- ITS FALSE NEIGHBOUR: 'it returns false'. Refute it at one input. -/
def serialAloneWrong : ChangeSpec := { name := "serialAlone", fn := fun _ => fun
  | [d1, d2, d3, d4] => { results := [.lit (.bool false)], args := [d1, d2, d3, d4] }
  | _ => none }
def SerialAloneWrongFalsely : Prop := serialAloneRow.holds Tryz.pinned (OpenSpec.ofChange serialAloneWrong)

/-- 'forebaylaw34.TraceRuns': WHATEVER THE INPUT: true; the input reads as it did. -/
def traceRunsSpec : ChangeSpec := { name := "traceRuns", fn := fun _ => fun
  | [d1, d2, d3, d4] => { results := [.lit (.bool true)], args := [d1, d2, d3, d4] }
  | _ => none }
def traceRunsRow : OpenClaim := { program := "ytelibaobkcokdaagreat", sum := "e513f15c65e11b620f6df06e048c673f0af06b72b80a7b342c3445be69ea9247", func := "forebay/forebaylaw34.TraceRuns", spec := "traceRuns", unfollowed := true, recurses := true, apart := false }
def TraceRunsSaid : Prop := traceRunsRow.holds Tryz.pinned (OpenSpec.ofChange traceRunsSpec)

/-- ITS FALSE NEIGHBOUR: 'it returns false'. Refute it at one input. -/
def traceRunsWrong : ChangeSpec := { name := "traceRuns", fn := fun _ => fun
  | [d1, d2, d3, d4] => { results := [.lit (.bool false)], args := [d1, d2, d3, d4] }
  | _ => none }
def TraceRunsWrongFalsely : Prop := traceRunsRow.holds Tryz.pinned (OpenSpec.ofChange traceRunsWrong)

/- THE SECOND FORM. 'bulk': how many values and letters a reading holds, each counted each time it is reached (what is shared counts as often as it is met; a slice's spare places count too). A statement '..UptoSaid' is the law's where the arguments, and the package variables that the reading takes, are together of bulk at most 1048576: NARROWER than '..Said'. Prove '..Said' where nothing that the law and all that it calls make is longer than what came in: it says more and counts as full. Else prove '..UptoSaid'. A law counts once. -/
mutual
def uptoBulk {H : Type} : DataW H → Nat
  | .lit (.string bytes) => bytes.length + 1
  | .lit _ => 1
  | .nil => 1
  | .ptr d => uptoBulk d + 1
  | .slice elems spare => uptoBulkAll elems + uptoBulkAll spare + 1
  | .agg parts => uptoBulkAll parts + 1
  | .iface _ d => uptoBulk d + 1
  | .map entries => uptoBulkEntries entries + 1
  | .held _ => 1
def uptoBulkAll {H : Type} : List (DataW H) → Nat
  | [] => 0
  | d :: r => uptoBulk d + uptoBulkAll r
def uptoBulkEntries {H : Type} : List (Lit × DataW H) → Nat
  | [] => 0
  | x :: r => uptoBulkEntry x + uptoBulkEntries r
def uptoBulkEntry {H : Type} : Lit × DataW H → Nat
  | (.string bytes, d) => bytes.length + uptoBulk d + 1
  | (_, d) => uptoBulk d + 1
 end
def uptoSmall : (H : Type) → List (DataW H) → Bool := fun _ ds => decide (uptoBulkAll ds ≤ 1048576)
def OpenSpec.upto (s : _root_.Go.ChangeSpec) : _root_.Go.OpenSpec := { _root_.Go.OpenSpec.ofChange s with cond := some uptoSmall }

/-- 'forebaylaw26.WorkerNone', WHERE WHAT IT READS IS OF BULK AT MOST 1048576: true; the input reads as it did. -/
def workerNoneUptoRow : OpenClaim := { program := "ytelibaobkcokdaagreat", sum := "e513f15c65e11b620f6df06e048c673f0af06b72b80a7b342c3445be69ea9247", func := "forebay/forebaylaw26.WorkerNone", spec := "workerNone", unfollowed := true, recurses := true, apart := false, narrowed := true }
def WorkerNoneUptoSaid : Prop := workerNoneUptoRow.holds Tryz.pinned (OpenSpec.upto workerNoneSpec)

/-- 'forebaylaw27.MachineThrottle', WHERE WHAT IT READS IS OF BULK AT MOST 1048576: true; the input reads as it did. -/
def machineThrottleUptoRow : OpenClaim := { program := "ytelibaobkcokdaagreat", sum := "e513f15c65e11b620f6df06e048c673f0af06b72b80a7b342c3445be69ea9247", func := "forebay/forebaylaw27.MachineThrottle", spec := "machineThrottle", unfollowed := true, recurses := true, apart := false, narrowed := true }
def MachineThrottleUptoSaid : Prop := machineThrottleUptoRow.holds Tryz.pinned (OpenSpec.upto machineThrottleSpec)

/-- 'forebaylaw27.MachineSums', WHERE WHAT IT READS IS OF BULK AT MOST 1048576: true; the input reads as it did. -/
def machineSumsUptoRow : OpenClaim := { program := "ytelibaobkcokdaagreat", sum := "e513f15c65e11b620f6df06e048c673f0af06b72b80a7b342c3445be69ea9247", func := "forebay/forebaylaw27.MachineSums", spec := "machineSums", unfollowed := true, recurses := true, apart := false, narrowed := true }
def MachineSumsUptoSaid : Prop := machineSumsUptoRow.holds Tryz.pinned (OpenSpec.upto machineSumsSpec)

/-- 'forebaylaw27.MachineQuiet', WHERE WHAT IT READS IS OF BULK AT MOST 1048576: true; the input reads as it did. -/
def machineQuietUptoRow : OpenClaim := { program := "ytelibaobkcokdaagreat", sum := "e513f15c65e11b620f6df06e048c673f0af06b72b80a7b342c3445be69ea9247", func := "forebay/forebaylaw27.MachineQuiet", spec := "machineQuiet", unfollowed := true, recurses := true, apart := false, narrowed := true }
def MachineQuietUptoSaid : Prop := machineQuietUptoRow.holds Tryz.pinned (OpenSpec.upto machineQuietSpec)

/-- 'forebaylaw27.MachineCounts', WHERE WHAT IT READS IS OF BULK AT MOST 1048576: true; the input reads as it did. -/
def machineCountsUptoRow : OpenClaim := { program := "ytelibaobkcokdaagreat", sum := "e513f15c65e11b620f6df06e048c673f0af06b72b80a7b342c3445be69ea9247", func := "forebay/forebaylaw27.MachineCounts", spec := "machineCounts", unfollowed := true, recurses := true, apart := false, narrowed := true }
def MachineCountsUptoSaid : Prop := machineCountsUptoRow.holds Tryz.pinned (OpenSpec.upto machineCountsSpec)

/-- 'forebaylaw37.AuditRuns', WHERE WHAT IT READS IS OF BULK AT MOST 1048576: true; the input reads as it did. -/
def auditRunsUptoRow : OpenClaim := { program := "ytelibaobkcokdaagreat", sum := "e513f15c65e11b620f6df06e048c673f0af06b72b80a7b342c3445be69ea9247", func := "forebay/forebaylaw37.AuditRuns", spec := "auditRuns", unfollowed := true, recurses := true, apart := false, narrowed := true }
def AuditRunsUptoSaid : Prop := auditRunsUptoRow.holds Tryz.pinned (OpenSpec.upto auditRunsSpec)

/-- 'forebaylaw37.AuditBusy', WHERE WHAT IT READS IS OF BULK AT MOST 1048576: true; the input reads as it did. -/
def auditBusyUptoRow : OpenClaim := { program := "ytelibaobkcokdaagreat", sum := "e513f15c65e11b620f6df06e048c673f0af06b72b80a7b342c3445be69ea9247", func := "forebay/forebaylaw37.AuditBusy", spec := "auditBusy", unfollowed := true, recurses := true, apart := false, narrowed := true }
def AuditBusyUptoSaid : Prop := auditBusyUptoRow.holds Tryz.pinned (OpenSpec.upto auditBusySpec)

/-- 'forebaylaw29.SerialAlone', WHERE WHAT IT READS IS OF BULK AT MOST 1048576: true; the input reads as it did. -/
def serialAloneUptoRow : OpenClaim := { program := "ytelibaobkcokdaagreat", sum := "e513f15c65e11b620f6df06e048c673f0af06b72b80a7b342c3445be69ea9247", func := "forebay/forebaylaw29.SerialAlone", spec := "serialAlone", unfollowed := true, recurses := true, apart := false, narrowed := true }
def SerialAloneUptoSaid : Prop := serialAloneUptoRow.holds Tryz.pinned (OpenSpec.upto serialAloneSpec)

/-- 'forebaylaw34.TraceRuns', WHERE WHAT IT READS IS OF BULK AT MOST 1048576: true; the input reads as it did. -/
def traceRunsUptoRow : OpenClaim := { program := "ytelibaobkcokdaagreat", sum := "e513f15c65e11b620f6df06e048c673f0af06b72b80a7b342c3445be69ea9247", func := "forebay/forebaylaw34.TraceRuns", spec := "traceRuns", unfollowed := true, recurses := true, apart := false, narrowed := true }
def TraceRunsUptoSaid : Prop := traceRunsUptoRow.holds Tryz.pinned (OpenSpec.upto traceRunsSpec)

end Rows
end Go.Proofs.YtelibaobkcokdaaGreat
