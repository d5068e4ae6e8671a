/- forebaylaw23.FaultBack: the law, at a fault. -/
import Derived.Test.YtbpccfafapalhaaDoorFh
namespace Go.Proofs.YtbpccfafapalhaaDoor
set_option linter.unusedVariables false
set_option linter.unusedSimpArgs false
open Go.RowKit Go.Extern.Stop Go.Stop Go.Extern

set_option maxRecDepth 100000 in
set_option maxHeartbeats 16000000 in
theorem law_hit (k n p deep : Int) (hk : k ≠ 0) (w : World) (hg : w.cell? ⟨0, 0, none⟩ = some (.iface 65 (.agg #[.pointer (some ⟨4, 26, none⟩)]))) :
    Calls Tryd.prog 4 #[.int .i64 k, .int .i64 n, .int .i64 p, .int .i64 deep] w fun e w' => e = .returned (.bool true) ∧ Below w.heap.size w w' := by
  have hgg : Hid (∀ w1, Below w.heap.size w w1 → w1.cell? ⟨0, 0, none⟩ = some (.iface 65 (.agg #[.pointer (some ⟨4, 26, none⟩)]))) := fun w1 hb => by rw [hb.cell (pos_of _ hg)]; exact hg
  have HW := works_a w hg
  have HB := fun w hg => Back_hit k n p deep hk w hg
  have HO := fun w => Of_hit k n p hk w
  have HA := fun w hg => At_hit w hg k n p 0
  have HA2 := fun w hg => At_no w hg k
  have HK := fun w hg => Kind_hit w hg k n p 0
  have HK2 := fun w hg => Kind_no w hg k
  have HK3 := fun w => Kind_nil w
  have HU := fun w => Unwrap_a k n p w
  have HI := fun w => Is_a k n p w
  simp only [wrp, plc] at HB HO HA HK HU HI
  clear hg
  go_enter Tryd.func4, Tryd.ntmps4
  go_wp2_with (first
    | (go_at_call 5; refine HW.mono ?_; clear HW; rintro e w1 ⟨rfl, hb⟩)
    | (go_at_call 11; refine (HB _ (hgg.out _ hb)).mono ?_; clear HB; rintro e w2 ⟨rfl, hb2⟩; replace hb := hb.trans (hb2.mono hb.size); clear hb2)
    | (go_at_call 10; refine (HO _).mono ?_; clear HO; rintro e w2 ⟨rfl, rfl⟩)
    | (go_at_call 12; refine (HA _ (hgg.out _ hb)).mono ?_; clear HA; rintro e w2 ⟨rfl, hb2⟩; replace hb := hb.trans (hb2.mono hb.size); clear hb2)
    | (go_at_call 13; refine (HU _).mono ?_; clear HU; rintro e w2 ⟨rfl, hb2⟩; replace hb := hb.trans (hb2.mono hb.size); clear hb2)
    | (go_at_call 12; refine (HA2 _ (hgg.out _ hb)).mono ?_; clear HA2; rintro e w2 ⟨rfl, hb2⟩; replace hb := hb.trans (hb2.mono hb.size); clear hb2)
    | (go_at_call 14; refine (HK _ (hgg.out _ hb)).mono ?_; clear HK; rintro e w2 ⟨rfl, hb2⟩; replace hb := hb.trans (hb2.mono hb.size); clear hb2)
    | (go_at_call 14; refine (HK2 _ (hgg.out _ hb)).mono ?_; clear HK2; rintro e w2 ⟨rfl, hb2⟩; replace hb := hb.trans (hb2.mono hb.size); clear hb2)
    | (go_at_call 14; refine (HK3 _).mono ?_; clear HK3; rintro e w2 ⟨rfl, hb2⟩; replace hb := hb.trans (hb2.mono hb.size); clear hb2)
    | (go_at_call 15; refine (HI _).mono ?_; clear HI; rintro e w2 ⟨rfl, hb2⟩; replace hb := hb.trans (hb2.mono hb.size); clear hb2))
  go_ret
  exact ⟨rfl, hb⟩
end Go.Proofs.YtbpccfafapalhaaDoor
