/-
  No cell of these rows narrows 'for every input' (looked for: loops, veiled, ifaces, maps, wideKeys, modest, calm, conditions, laid).
  DERIVED. THE GIVEN ROWS OF THIS SEAT. 6 by the template 'for every input the law returns true; each argument reads behind the call as it read before'; 0 by the template 'total and deterministic' (their statements: YtncdnegdlkmicaaTotals.lean).
  GIVEN WITH THE SEED: the statements are not yours to turn. If you find one false, say at which input.
  Laid BY PROGRAM, IN A SANDBOX (cutbox-rows.mjs): the forced cells as the released guide's own fill.sh prints them over the translation 3d91c05175f132de… (all of the seat's roots in one cut). By AI agents, Wed Nov 11 2026. No macro, syntax, notation, axiom, sorry.
-/
import Derived.Test.YtncdnegdlkmicaaChecked
import GoSem.Claim
import GoSem.ClaimJoined
import GoSem.ClaimMapViews
import Derived.JoinedTies
import Derived.KernelRfl
namespace Go.Proofs.Ytncdnegdlkmicaa
/- THE CELL 'sum', in the pinned program and in every row, IS THE sha256 OF THE DUMP (.gsa) THAT YtncdnegdlkmicaaProg.lean LOADS. Nothing in Lean hashes anything: it is a label: what it is worth is what the hold of that sum in a sandbox is worth. -/
noncomputable def Try.pinned : Pinned := { name := "ytncdnegdlkmicaa", sum := "3d91c05175f132de47e3e738afe04bf0a151bf2e9687b326eded4fee15b0bcf9", checked := Try.checked }
namespace Rows
def none {H : Type} : Left H := { results := [], args := [] }

/-- 'forebaylaw29.SerialFuel': WHATEVER THE INPUT: true; the input reads as it did. -/
def serialFuelSpec : ChangeSpec := { name := "serialFuel", fn := fun _ => fun
  | [d1, d2, d3, d4] => { results := [.lit (.bool true)], args := [d1, d2, d3, d4] }
  | _ => none }
def serialFuelRow : OpenClaim := { program := "ytncdnegdlkmicaa", sum := "3d91c05175f132de47e3e738afe04bf0a151bf2e9687b326eded4fee15b0bcf9", func := "forebay/forebaylaw29.SerialFuel", spec := "serialFuel", unfollowed := true, recurses := true, apart := false }
def SerialFuelSaid : Prop := serialFuelRow.holds Try.pinned (OpenSpec.ofChange serialFuelSpec)

/-- ITS FALSE NEIGHBOUR: 'it returns false'. Refute it at one input. -/
def serialFuelWrong : ChangeSpec := { name := "serialFuel", fn := fun _ => fun
  | [d1, d2, d3, d4] => { results := [.lit (.bool false)], args := [d1, d2, d3, d4] }
  | _ => none }
def SerialFuelWrongFalsely : Prop := serialFuelRow.holds Try.pinned (OpenSpec.ofChange serialFuelWrong)

/-- 'forebaylaw42.TidySame': WHATEVER THE INPUT: true; the input reads as it did. -/
def tidySameSpec : ChangeSpec := { name := "tidySame", fn := fun _ => fun
  | [d1, d2, d3] => { results := [.lit (.bool true)], args := [d1, d2, d3] }
  | _ => none }
def tidySameRow : OpenClaim := { program := "ytncdnegdlkmicaa", sum := "3d91c05175f132de47e3e738afe04bf0a151bf2e9687b326eded4fee15b0bcf9", func := "forebay/forebaylaw42.TidySame", spec := "tidySame", unfollowed := true, recurses := true, apart := false }
def TidySameSaid : Prop := tidySameRow.holds Try.pinned (OpenSpec.ofChange tidySameSpec)

/-- ITS FALSE NEIGHBOUR: 'it returns false'. Refute it at one input. -/
def tidySameWrong : ChangeSpec := { name := "tidySame", fn := fun _ => fun
  | [d1, d2, d3] => { results := [.lit (.bool false)], args := [d1, d2, d3] }
  | _ => none }
def TidySameWrongFalsely : Prop := tidySameRow.holds Try.pinned (OpenSpec.ofChange tidySameWrong)

/-- 'forebaylaw30.StrandRuns': WHATEVER THE INPUT: true; the input reads as it did. -/
def strandRunsSpec : ChangeSpec := { name := "strandRuns", fn := fun _ => fun
  | [d1, d2, d3] => { results := [.lit (.bool true)], args := [d1, d2, d3] }
  | _ => none }
def strandRunsRow : OpenClaim := { program := "ytncdnegdlkmicaa", sum := "3d91c05175f132de47e3e738afe04bf0a151bf2e9687b326eded4fee15b0bcf9", func := "forebay/forebaylaw30.StrandRuns", spec := "strandRuns", unfollowed := true, recurses := true, apart := false }
def StrandRunsSaid : Prop := strandRunsRow.holds Try.pinned (OpenSpec.ofChange strandRunsSpec)

/-- ITS FALSE NEIGHBOUR: 'it returns false'. Refute it at one input. -/
def strandRunsWrong : ChangeSpec := { name := "strandRuns", fn := fun _ => fun
  | [d1, d2, d3] => { results := [.lit (.bool false)], args := [d1, d2, d3] }
  | _ => none }
def StrandRunsWrongFalsely : Prop := strandRunsRow.holds Try.pinned (OpenSpec.ofChange strandRunsWrong)

/-- 'forebaylaw32.RaceFinds': WHATEVER THE INPUT: true; the input reads as it did. -/
def raceFindsSpec : ChangeSpec := { name := "raceFinds", fn := fun _ => fun
  | [d1, d2] => { results := [.lit (.bool true)], args := [d1, d2] }
  | _ => none }
def raceFindsRow : OpenClaim := { program := "ytncdnegdlkmicaa", sum := "3d91c05175f132de47e3e738afe04bf0a151bf2e9687b326eded4fee15b0bcf9", func := "forebay/forebaylaw32.RaceFinds", spec := "raceFinds", unfollowed := true, recurses := true, apart := false }
def RaceFindsSaid : Prop := raceFindsRow.holds Try.pinned (OpenSpec.ofChange raceFindsSpec)

/-- ITS FALSE NEIGHBOUR: 'it returns false'. Refute it at one input. -/
def raceFindsWrong : ChangeSpec := { name := "raceFinds", fn := fun _ => fun
  | [d1, d2] => { results := [.lit (.bool false)], args := [d1, d2] }
  | _ => none }
def RaceFindsWrongFalsely : Prop := raceFindsRow.holds Try.pinned (OpenSpec.ofChange raceFindsWrong)

/-- 'forebaylaw32.RaceNone': WHATEVER THE INPUT: true; the input reads as it did. -/
def raceNoneSpec : ChangeSpec := { name := "raceNone", fn := fun _ => fun
  | [d1, d2] => { results := [.lit (.bool true)], args := [d1, d2] }
  | _ => none }
def raceNoneRow : OpenClaim := { program := "ytncdnegdlkmicaa", sum := "3d91c05175f132de47e3e738afe04bf0a151bf2e9687b326eded4fee15b0bcf9", func := "forebay/forebaylaw32.RaceNone", spec := "raceNone", unfollowed := true, recurses := true, apart := false }
def RaceNoneSaid : Prop := raceNoneRow.holds Try.pinned (OpenSpec.ofChange raceNoneSpec)

/-- ITS FALSE NEIGHBOUR: 'it returns false'. Refute it at one input. -/
def raceNoneWrong : ChangeSpec := { name := "raceNone", fn := fun _ => fun
  | [d1, d2] => { results := [.lit (.bool false)], args := [d1, d2] }
  | _ => none }
def RaceNoneWrongFalsely : Prop := raceNoneRow.holds Try.pinned (OpenSpec.ofChange raceNoneWrong)

/-- 'forebaylaw32.RaceFewer': WHATEVER THE INPUT: true; the input reads as it did. -/
def raceFewerSpec : ChangeSpec := { name := "raceFewer", fn := fun _ => fun
  | [d1, d2, d3] => { results := [.lit (.bool true)], args := [d1, d2, d3] }
  | _ => none }
def raceFewerRow : OpenClaim := { program := "ytncdnegdlkmicaa", sum := "3d91c05175f132de47e3e738afe04bf0a151bf2e9687b326eded4fee15b0bcf9", func := "forebay/forebaylaw32.RaceFewer", spec := "raceFewer", unfollowed := true, recurses := true, apart := false }
def RaceFewerSaid : Prop := raceFewerRow.holds Try.pinned (OpenSpec.ofChange raceFewerSpec)

/-- ITS FALSE NEIGHBOUR: 'it returns false'. Refute it at one input. -/
def raceFewerWrong : ChangeSpec := { name := "raceFewer", fn := fun _ => fun
  | [d1, d2, d3] => { results := [.lit (.bool false)], args := [d1, d2, d3] }
  | _ => none }
def RaceFewerWrongFalsely : Prop := raceFewerRow.holds Try.pinned (OpenSpec.ofChange raceFewerWrong)

/- THE SECOND FORM. 'bulk': how many values and letters a reading holds, each counted each time it is reached (what is shared counts as often as it is met; a slice's spare places count too). A statement '..UptoSaid' is the law's where the arguments, and the package variables that the reading takes, are together of bulk at most 1048576: NARROWER than '..Said'. Prove '..Said' where nothing that the law and all that it calls make is longer than what came in: it says more and counts as full. Else prove '..UptoSaid'. A law counts once. -/
mutual
def uptoBulk {H : Type} : DataW H → Nat
  | .lit (.string bytes) => bytes.length + 1
  | .lit _ => 1
  | .nil => 1
  | .ptr d => uptoBulk d + 1
  | .slice elems spare => uptoBulkAll elems + uptoBulkAll spare + 1
  | .agg parts => uptoBulkAll parts + 1
  | .iface _ d => uptoBulk d + 1
  | .map entries => uptoBulkEntries entries + 1
  | .held _ => 1
def uptoBulkAll {H : Type} : List (DataW H) → Nat
  | [] => 0
  | d :: r => uptoBulk d + uptoBulkAll r
def uptoBulkEntries {H : Type} : List (Lit × DataW H) → Nat
  | [] => 0
  | x :: r => uptoBulkEntry x + uptoBulkEntries r
def uptoBulkEntry {H : Type} : Lit × DataW H → Nat
  | (.string bytes, d) => bytes.length + uptoBulk d + 1
  | (_, d) => uptoBulk d + 1
 end
def uptoSmall : (H : Type) → List (DataW H) → Bool := fun _ ds => decide (uptoBulkAll ds ≤ 1048576)
def OpenSpec.upto (s : _root_.Go.ChangeSpec) : _root_.Go.OpenSpec := { _root_.Go.OpenSpec.ofChange s with cond := some uptoSmall }

/-- 'forebaylaw29.SerialFuel', WHERE WHAT IT READS IS OF BULK AT MOST 1048576: true; the input reads as it did. -/
def serialFuelUptoRow : OpenClaim := { program := "ytncdnegdlkmicaa", sum := "3d91c05175f132de47e3e738afe04bf0a151bf2e9687b326eded4fee15b0bcf9", func := "forebay/forebaylaw29.SerialFuel", spec := "serialFuel", unfollowed := true, recurses := true, apart := false, narrowed := true }
def SerialFuelUptoSaid : Prop := serialFuelUptoRow.holds Try.pinned (OpenSpec.upto serialFuelSpec)

/-- 'forebaylaw42.TidySame', WHERE WHAT IT READS IS OF BULK AT MOST 1048576: true; the input reads as it did. -/
def tidySameUptoRow : OpenClaim := { program := "ytncdnegdlkmicaa", sum := "3d91c05175f132de47e3e738afe04bf0a151bf2e9687b326eded4fee15b0bcf9", func := "forebay/forebaylaw42.TidySame", spec := "tidySame", unfollowed := true, recurses := true, apart := false, narrowed := true }
def TidySameUptoSaid : Prop := tidySameUptoRow.holds Try.pinned (OpenSpec.upto tidySameSpec)

/-- 'forebaylaw30.StrandRuns', WHERE WHAT IT READS IS OF BULK AT MOST 1048576: true; the input reads as it did. -/
def strandRunsUptoRow : OpenClaim := { program := "ytncdnegdlkmicaa", sum := "3d91c05175f132de47e3e738afe04bf0a151bf2e9687b326eded4fee15b0bcf9", func := "forebay/forebaylaw30.StrandRuns", spec := "strandRuns", unfollowed := true, recurses := true, apart := false, narrowed := true }
def StrandRunsUptoSaid : Prop := strandRunsUptoRow.holds Try.pinned (OpenSpec.upto strandRunsSpec)

/-- 'forebaylaw32.RaceFinds', WHERE WHAT IT READS IS OF BULK AT MOST 1048576: true; the input reads as it did. -/
def raceFindsUptoRow : OpenClaim := { program := "ytncdnegdlkmicaa", sum := "3d91c05175f132de47e3e738afe04bf0a151bf2e9687b326eded4fee15b0bcf9", func := "forebay/forebaylaw32.RaceFinds", spec := "raceFinds", unfollowed := true, recurses := true, apart := false, narrowed := true }
def RaceFindsUptoSaid : Prop := raceFindsUptoRow.holds Try.pinned (OpenSpec.upto raceFindsSpec)

/-- 'forebaylaw32.RaceNone', WHERE WHAT IT READS IS OF BULK AT MOST 1048576: true; the input reads as it did. -/
def raceNoneUptoRow : OpenClaim := { program := "ytncdnegdlkmicaa", sum := "3d91c05175f132de47e3e738afe04bf0a151bf2e9687b326eded4fee15b0bcf9", func := "forebay/forebaylaw32.RaceNone", spec := "raceNone", unfollowed := true, recurses := true, apart := false, narrowed := true }
def RaceNoneUptoSaid : Prop := raceNoneUptoRow.holds Try.pinned (OpenSpec.upto raceNoneSpec)

/-- 'forebaylaw32.RaceFewer', WHERE WHAT IT READS IS OF BULK AT MOST 1048576: true; the input reads as it did. -/
def raceFewerUptoRow : OpenClaim := { program := "ytncdnegdlkmicaa", sum := "3d91c05175f132de47e3e738afe04bf0a151bf2e9687b326eded4fee15b0bcf9", func := "forebay/forebaylaw32.RaceFewer", spec := "raceFewer", unfollowed := true, recurses := true, apart := false, narrowed := true }
def RaceFewerUptoSaid : Prop := raceFewerUptoRow.holds Try.pinned (OpenSpec.upto raceFewerSpec)

end Rows
end Go.Proofs.Ytncdnegdlkmicaa
