/- The tables: a world that holds them; what a world that fits holds of them. -/
import Derived.Test.YtjdpejggafefjaaDoorV0
import Derived.Test.YtjdpejggafefjaaDoorTie
import Derived.Test.YtjdpejggafefjaaDoorCards
import Derived.Deep.DeepHandedRow
import Derived.ProofKit
import Derived.LaidMore
import Derived.PinnedBridge
import Derived.Shelf.Vars
import Derived.Stop.LaidErr
namespace Go.Proofs.YtjdpejggafefjaaDoor
set_option linter.unusedVariables false
set_option linter.unusedSimpArgs false
open Go Go.Kx Go.Proofs

theorem own : ownKnob Tryd.prog.godebug = none := by kernel_rfl
theorem laidOut : laidOutB Tryd.prog = true := by kernel_rfl
def litV : DataW Unit → Value
  | .lit (.int k z) => .int k z
  | _ => undef
def cellsD : DataW Unit → List Value
  | .agg l => l.flatMap fun d => match d with
    | .agg m => m.map litV
    | d => [litV d]
  | _ => []
def putD (d : DataW Unit) : Obj → Obj
  | .cells _ t fz => .cells (cellsD d).toArray t fz
  | o => o
/-- The settled world, the tables laid. -/
noncomputable def laidWorld (os : Os) : World :=
  { World.holding Tryd.prog os ⟨#[], #[], []⟩ with heap := (((((World.holding Tryd.prog os ⟨#[], #[], []⟩).heap.modify 0 (putD Rows.laid_internal_strconv_uint64pow10)).modify 2 (putD Rows.laid_unicode_utf8_first)).modify 3 (putD Rows.laid_unicode_utf8_acceptRanges)).modify 4 (putD Rows.laid_math_bits_deBruijn32tab)).modify 5 (putD Rows.laid_math_bits_deBruijn64tab) }
def tabs3 : List (String × DataW Unit) := [("math/bits.deBruijn32tab", Rows.laid_math_bits_deBruijn32tab), ("math/bits.deBruijn64tab", Rows.laid_math_bits_deBruijn64tab), ("internal/strconv.uint64pow10", Rows.laid_internal_strconv_uint64pow10)]
def tabs5 : List (String × DataW Unit) := [("math/bits.deBruijn32tab", Rows.laid_math_bits_deBruijn32tab), ("math/bits.deBruijn64tab", Rows.laid_math_bits_deBruijn64tab), ("internal/strconv.uint64pow10", Rows.laid_internal_strconv_uint64pow10), ("unicode/utf8.acceptRanges", Rows.laid_unicode_utf8_acceptRanges), ("unicode/utf8.first", Rows.laid_unicode_utf8_first)]
set_option maxRecDepth 100000 in
theorem met3 (os : Os) (args : Array Value) : laidMetH Tryd.prog tabs3 ((laidWorld os).forCall (fun _ _ => 0) ⟨#[], args, []⟩).memory := by
  rw [MakeChecks.laidMetH_plain _ _ _ (by kernel_rfl)]
  exact laidMet_of_run' 8 (by kernel_rfl) (by kernel_rfl)
set_option maxRecDepth 100000 in
theorem met5 (os : Os) (args : Array Value) : laidMetH Tryd.prog tabs5 ((laidWorld os).forCall (fun _ _ => 0) ⟨#[], args, []⟩).memory := by
  rw [MakeChecks.laidMetH_plain _ _ _ (by kernel_rfl)]
  exact laidMet_of_run' 8 (by kernel_rfl) (by kernel_rfl)
theorem pow_is {W : World} {x y : String × DataW Unit} {rest : List (String × DataW Unit)} (h : laidMet Tryd.prog (x :: y :: ("internal/strconv.uint64pow10", Rows.laid_internal_strconv_uint64pow10) :: rest) W) : Lib.TabIs Tryd.prog W "internal/strconv.uint64pow10" .u64 Lib.pow10Tab := by
  have h2 : laidMet Tryd.prog (("internal/strconv.uint64pow10", Lib.tabData .u64 Lib.pow10Tab) :: rest) W := laidMet.tail (laidMet.tail h)
  exact Lib.tabIs_of_head (g := 0) (t := 145) (e := 131) (n := 20) (by kernel_rfl) (by kernel_rfl) Tryd.underlying145 Tryd.underlying131 (by kernel_rfl) (by kernel_rfl) h2
theorem tab_ok {W : World} (hp : Lib.TabIs Tryd.prog W "internal/strconv.uint64pow10" .u64 Lib.pow10Tab) (hs : W.ShapedOpen Tryd.prog) : TabOk W.heap := by
  constructor
  · have hg : Tryd.prog.globalNamed "internal/strconv.uint64pow10" = some 0 := by kernel_rfl
    unfold Lib.TabIs World.var? at hp
    rw [hg] at hp
    simp only [Option.bind_some] at hp
    split at hp
    · rename_i cs E fz hh
      cases hp
      exact ⟨E, fz, hh⟩
    · cases hp
  · obtain ⟨m, hm⟩ := cell_of_shapedOpen_int (g := 1) (t := 3) (zero := #[.int .i64 0]) (k := .i64) hs (of_decide_eq_true (by kernel_rfl)) (by kernel_rfl) rfl (by kernel_rfl) (by kernel_rfl) Tryd.underlying3
    unfold World.cell? at hm
    split at hm
    · rename_i cs E fz hh
      exact ⟨cs, E, fz, m, hh, by simpa using hm⟩
    · cases hm
theorem tab3 {W : World} (h : laidMetH Tryd.prog tabs3 W) (hs : W.ShapedOpen Tryd.prog) : TabOk W.heap := by
  rw [MakeChecks.laidMetH_plain _ _ _ (by kernel_rfl)] at h
  exact tab_ok (pow_is h) hs
theorem tab5 {W : World} (h : laidMetH Tryd.prog tabs5 W) (hs : W.ShapedOpen Tryd.prog) : TabOk W.heap := by
  rw [MakeChecks.laidMetH_plain _ _ _ (by kernel_rfl)] at h
  exact tab_ok (pow_is h) hs
end Go.Proofs.YtjdpejggafefjaaDoor
