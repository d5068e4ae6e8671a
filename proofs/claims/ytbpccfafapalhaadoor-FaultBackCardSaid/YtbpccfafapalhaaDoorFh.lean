/- forebaylaw23.FaultBack: works, and the law. -/
import Derived.Test.YtbpccfafapalhaaDoorFf
import Derived.Test.YtbpccfafapalhaaDoorFg
namespace Go.Proofs.YtbpccfafapalhaaDoor
set_option linter.unusedVariables false
set_option linter.unusedSimpArgs false
open Go.RowKit Go.Extern.Stop Go.Stop Go.Extern

set_option maxRecDepth 100000 in
set_option maxHeartbeats 8000000 in
theorem works_a (w : World) (hg : w.cell? ⟨0, 0, none⟩ = some (.iface 65 (.agg #[.pointer (some ⟨4, 26, none⟩)]))) :
    Calls Tryd.prog 5 #[] w fun e w' => e = .returned (.bool true) ∧ Below w.heap.size w w' := by
  have HB := Back_hit 2 3 4 1 (by decide) w hg
  have HL := Line_a
  have HN := Name1
  clear hg
  go_enter Tryd.func5, Tryd.ntmps5
  go_wp2_with (first
    | (go_at_call 11; refine HB.mono ?_; clear HB; rintro e w1 ⟨rfl, hb⟩)
    | (go_at_call 6; refine (HN _).mono ?_; rintro e w2 ⟨rfl, rfl⟩)
    | (go_at_call 8; refine (HL _).mono ?_; clear HL; rintro e w2 ⟨rfl, hb2⟩))
  go_ret
  exact ⟨rfl, hb.trans (hb2.mono hb.size)⟩
set_option maxRecDepth 100000 in
set_option maxHeartbeats 8000000 in
theorem law_nil (n p deep : Int) (w : World) (hg : w.cell? ⟨0, 0, none⟩ = some (.iface 65 (.agg #[.pointer (some ⟨4, 26, none⟩)]))) :
    Calls Tryd.prog 4 #[.int .i64 0, .int .i64 n, .int .i64 p, .int .i64 deep] w fun e w' => e = .returned (.bool true) ∧ Below w.heap.size w w' := by
  have hgg : Hid (∀ w1, Below w.heap.size w w1 → w1.cell? ⟨0, 0, none⟩ = some (.iface 65 (.agg #[.pointer (some ⟨4, 26, none⟩)]))) := fun w1 hb => by rw [hb.cell (pos_of _ hg)]; exact hg
  have HW := works_a w hg
  have HB := fun w hg => Back_nil n p deep w hg
  clear hg
  go_enter Tryd.func4, Tryd.ntmps4
  go_wp2_with (first
    | (go_at_call 5; refine HW.mono ?_; clear HW; rintro e w1 ⟨rfl, hb⟩)
    | (go_at_call 11; refine (HB _ (hgg.out _ hb)).mono ?_; clear HB; rintro e w2 ⟨rfl, hb2⟩))
  go_ret
  exact ⟨rfl, hb.trans (hb2.mono hb.size)⟩
end Go.Proofs.YtbpccfafapalhaaDoor
