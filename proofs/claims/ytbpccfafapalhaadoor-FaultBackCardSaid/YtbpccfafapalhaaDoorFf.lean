/- fault.Back. -/
import Derived.Test.YtbpccfafapalhaaDoorFe
namespace Go.Proofs.YtbpccfafapalhaaDoor
set_option linter.unusedVariables false
set_option linter.unusedSimpArgs false
open Go.RowKit Go.Extern.Stop Go.Stop Go.Extern

set_option maxRecDepth 100000 in
set_option maxHeartbeats 8000000 in
theorem Back_hit (k n p deep : Int) (hk : k ≠ 0) (w : World) (hg : w.cell? ⟨0, 0, none⟩ = some (.iface 65 (.agg #[.pointer (some ⟨4, 26, none⟩)]))) :
    Calls Tryd.prog 11 #[.int .i64 k, .int .i64 n, .int .i64 p, .int .i64 deep] w fun e w' => e = .returned (.tuple #[.int .i64 k, .int .i64 n, .int .i64 p]) ∧ Below w.heap.size w w' := by
  go_enter Tryd.func11, Tryd.ntmps11
  go_wp2_with (go_at_call 10; refine (Of_hit k n p hk _).mono ?_; rintro e w' ⟨rfl, rfl⟩)
  all_goals
    go_loop [11, 21] (fun e i => ∃ j : Nat, i = .int .i64 j ∧ e = wrp (plc k n p) j ∧ j ≤ 50) (fun _ i => 50 - (intOf i).toNat)
    case atStart => exact ⟨0, rfl, rfl, by omega⟩
    case round =>
      obtain ⟨j, rfl, rfl, hj50⟩ := hrel
      have HA := fun w hg => At_hit w hg k n p j
      have HK := fun w hg => Kind_hit w hg k n p j
      have hs : wrp (plc k n p) (j + 1) = .iface 43 (.agg #[wrp (plc k n p) j]) := rfl
      obtain ⟨ty, v, hj⟩ : ∃ ty v, wrp (plc k n p) j = .iface ty v := by cases j <;> exact ⟨_, _, rfl⟩
      rw [hj] at hs HA HK ⊢
      have HS : Hid (wrp (plc k n p) (j + 1) = .iface 43 (.agg #[.iface ty v])) := hs
      clear hs hj
      have hgg : Hid (∀ w1, Below w'.heap.size w' w1 → w1.cell? ⟨0, 0, none⟩ = some (.iface 65 (.agg #[.pointer (some ⟨4, 26, none⟩)]))) := fun w1 hb => by rw [hb.cell (pos_of _ hg)]; exact hg
      go_wp2_with (first
        | (go_at_call 12; refine (HA _ hg).mono ?_; rintro e w1 ⟨rfl, hb⟩)
        | (go_at_call 14; refine (HK _ (hgg.out _ hb)).mono ?_; rintro e w2 ⟨rfl, hb2⟩))
      all_goals first
        | (go_ret3; exact ⟨rfl, hb.trans (hb2.mono hb.size)⟩)
        | exact ⟨⟨j + 1, rfl, HS.out.symm, by omega⟩, by simp [intOf]; omega⟩
set_option maxRecDepth 100000 in
set_option maxHeartbeats 8000000 in
theorem Back_nil (n p deep : Int) (w : World) (hg : w.cell? ⟨0, 0, none⟩ = some (.iface 65 (.agg #[.pointer (some ⟨4, 26, none⟩)]))) :
    Calls Tryd.prog 11 #[.int .i64 0, .int .i64 n, .int .i64 p, .int .i64 deep] w fun e w' => e = .returned (.tuple #[.int .i64 0, .int .i64 0, .int .i64 0]) ∧ Below w.heap.size w w' := by
  go_enter Tryd.func11, Tryd.ntmps11
  go_wp2_with (go_at_call 10; refine (Of_nil n p _).mono ?_; rintro e w' ⟨rfl, rfl⟩)
  all_goals
    go_loop [11, 21] (fun e i => ∃ j : Nat, i = .int .i64 j ∧ e = .nilIface ∧ j ≤ 50) (fun _ i => 50 - (intOf i).toNat)
    case atStart => exact ⟨0, rfl, rfl, by omega⟩
    case round =>
      obtain ⟨j, rfl, rfl, hj50⟩ := hrel
      go_wp2_with (first
        | (go_at_call 12; refine (At_nil _).mono ?_; rintro e w1 ⟨rfl, hb⟩)
        | (go_at_call 14; refine (Kind_nil _).mono ?_; rintro e w2 ⟨rfl, hb2⟩))
      all_goals first
        | (go_ret3; exact ⟨rfl, hb.trans (hb2.mono hb.size)⟩)
        | exact ⟨⟨j + 1, rfl, rfl, by omega⟩, by simp [intOf]; omega⟩
end Go.Proofs.YtbpccfafapalhaaDoor
