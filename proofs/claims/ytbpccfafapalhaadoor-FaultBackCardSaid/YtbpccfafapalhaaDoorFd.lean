/- fault.Kind and fault.At; errors.Unwrap and errors.Is of a fault. -/
import Derived.Test.YtbpccfafapalhaaDoorFc
import Derived.BigQuiet
namespace Go.Proofs.YtbpccfafapalhaaDoor
set_option linter.unusedVariables false
set_option linter.unusedSimpArgs false
open Go.RowKit Go.Extern.Stop Go.Stop Go.Extern

theorem below_setRow {B : Nat} {a w : World} (h : Below B a w) {g : Nat} (hg : B ≤ g) (c : Array Value) : Below B a (w.setRow g c) :=
  h.trans ⟨rfl, rfl, rfl, by simp [World.setRow], fun k hk => setRow_other w g k c (by omega)⟩
section
variable (w : World) (hg : w.cell? ⟨0, 0, none⟩ = some (.iface 65 (.agg #[.pointer (some ⟨4, 26, none⟩)])))
include hg
theorem pos_of : 0 < w.heap.size := by
  rcases Nat.eq_zero_or_pos w.heap.size with h0 | h
  · simp [World.cell?, h0] at hg
  · exact h
theorem hg_alloc (o : Obj) : (w.alloc o).cell? ⟨0, 0, none⟩ = some (.iface 65 (.agg #[.pointer (some ⟨4, 26, none⟩)])) := by
  rw [World.cell?_alloc_lt _ _ ⟨0, 0, none⟩ (pos_of w hg)]; exact hg
theorem As_new (k n p : Int) (d : Nat) :
    Calls Tryd.prog 17 #[wrp (plc k n p) d, .iface 45 (.pointer (some ⟨w.heap.size, 0, none⟩))] (w.alloc (.cells #[.int .i64 0, .int .i64 0, .int .i64 0] 41)) fun ev w' =>
      ev = .returned (.bool true) ∧ w'.cell? ⟨w.heap.size, 0, none⟩ = some (.int .i64 k) ∧ w'.cell? ⟨w.heap.size, 1, none⟩ = some (.int .i64 n) ∧ w'.cell? ⟨w.heap.size, 2, none⟩ = some (.int .i64 p) ∧ Below w.heap.size w w' := by
  refine (As_hit w.heap.size (w.alloc (.cells #[.int .i64 0, .int .i64 0, .int .i64 0] 41)) (hg_alloc w hg _) k n p d _ _ _ (heap_new _ _)).mono ?_
  rintro ev w' ⟨rfl, w1, hb, rfl⟩
  have h1 : w1.heap[w.heap.size]? = some (.cells #[.int .i64 0, .int .i64 0, .int .i64 0] 41 (0, 0)) := by
    rw [hb.block _ (by rw [heap_size]; omega)]; exact heap_new _ _
  have h2 := setRow_heap w1 w.heap.size _ #[.int .i64 k, .int .i64 n, .int .i64 p] 41 (0, 0) h1
  have h0 : Below w.heap.size w (w.alloc (.cells #[.int .i64 0, .int .i64 0, .int .i64 0] 41)) := (Below.refl _ w).alloc (Nat.le_refl _) _
  exact ⟨rfl, by simp [World.cell?, h2], by simp [World.cell?, h2], by simp [World.cell?, h2], below_setRow (h0.trans (hb.mono (by rw [heap_size]; omega))) (Nat.le_refl _) _⟩
theorem As_no (k : Int) :
    Calls Tryd.prog 17 #[.iface 39 (.int .i64 k), .iface 45 (.pointer (some ⟨w.heap.size, 0, none⟩))] (w.alloc (.cells #[.int .i64 0, .int .i64 0, .int .i64 0] 41)) fun ev w' =>
      ev = .returned (.bool false) ∧ w'.cell? ⟨w.heap.size, 0, none⟩ = some (.int .i64 0) ∧ w'.cell? ⟨w.heap.size, 1, none⟩ = some (.int .i64 0) ∧ w'.cell? ⟨w.heap.size, 2, none⟩ = some (.int .i64 0) ∧ Below w.heap.size w w' := by
  refine (As_miss w.heap.size (w.alloc (.cells #[.int .i64 0, .int .i64 0, .int .i64 0] 41)) (hg_alloc w hg _) k).mono ?_
  rintro ev w' ⟨rfl, hb⟩
  have h1 : w'.heap[w.heap.size]? = some (.cells #[.int .i64 0, .int .i64 0, .int .i64 0] 41 (0, 0)) := by
    rw [hb.block _ (by rw [heap_size]; omega)]; exact heap_new _ _
  have h0 : Below w.heap.size w (w.alloc (.cells #[.int .i64 0, .int .i64 0, .int .i64 0] 41)) := (Below.refl _ w).alloc (Nat.le_refl _) _
  exact ⟨rfl, by simp [World.cell?, h1], by simp [World.cell?, h1], by simp [World.cell?, h1], h0.trans (hb.mono (by rw [heap_size]; omega))⟩
set_option maxRecDepth 100000 in
set_option maxHeartbeats 4000000 in
theorem Kind_hit (k n p : Int) (d : Nat) : Calls Tryd.prog 14 #[wrp (plc k n p) d] w fun ev w' => ev = .returned (.int .i64 k) ∧ Below w.heap.size w w' := by
  obtain ⟨ty, v, hj⟩ : ∃ ty v, wrp (plc k n p) d = .iface ty v := by cases d <;> exact ⟨_, _, rfl⟩
  have HA := As_new w hg k n p d
  rw [hj] at HA ⊢
  clear hj
  go_enter Tryd.func14, Tryd.ntmps14
  go_wp2_with (go_at_call 17; refine HA.mono ?_; clear HA; rintro e w' ⟨rfl, c0, c1, c2, hb⟩)
  go_ret
  exact ⟨rfl, hb⟩
set_option maxRecDepth 100000 in
set_option maxHeartbeats 4000000 in
theorem Kind_no (k : Int) : Calls Tryd.prog 14 #[.iface 39 (.int .i64 k)] w fun ev w' => ev = .returned (.int .i64 0) ∧ Below w.heap.size w w' := by
  have HA := As_no w hg k
  go_enter Tryd.func14, Tryd.ntmps14
  go_wp2_with (go_at_call 17; refine HA.mono ?_; clear HA; rintro e w' ⟨rfl, c0, c1, c2, hb⟩)
  go_ret
  exact ⟨rfl, hb⟩
set_option maxRecDepth 100000 in
set_option maxHeartbeats 4000000 in
theorem At_hit (k n p : Int) (d : Nat) : Calls Tryd.prog 12 #[wrp (plc k n p) d] w fun ev w' => ev = .returned (.tuple #[.int .i64 n, .int .i64 p]) ∧ Below w.heap.size w w' := by
  obtain ⟨ty, v, hj⟩ : ∃ ty v, wrp (plc k n p) d = .iface ty v := by cases d <;> exact ⟨_, _, rfl⟩
  have HA := As_new w hg k n p d
  rw [hj] at HA ⊢
  clear hj
  go_enter Tryd.func12, Tryd.ntmps12
  go_wp2_with (go_at_call 17; refine HA.mono ?_; clear HA; rintro e w' ⟨rfl, c0, c1, c2, hb⟩)
  go_region
  go_wp2
  go_ret2
  exact ⟨rfl, hb.drew⟩
set_option maxRecDepth 100000 in
set_option maxHeartbeats 4000000 in
theorem At_no (k : Int) : Calls Tryd.prog 12 #[.iface 39 (.int .i64 k)] w fun ev w' => ev = .returned (.tuple #[.int .i64 0, .int .i64 0]) ∧ Below w.heap.size w w' := by
  have HA := As_no w hg k
  go_enter Tryd.func12, Tryd.ntmps12
  go_wp2_with (go_at_call 17; refine HA.mono ?_; clear HA; rintro e w' ⟨rfl, c0, c1, c2, hb⟩)
  go_region
  go_wp2
  go_ret2
  exact ⟨rfl, hb.drew⟩
end
theorem Kind_nil (w : World) : Calls Tryd.prog 14 #[.nilIface] w fun ev w' => ev = .returned (.int .i64 0) ∧ Below w.heap.size w w' := by
  go_enter Tryd.func14, Tryd.ntmps14
  go_wp2_with (go_at_call 17; refine (As_nil _ _).mono ?_; rintro e w' ⟨rfl, rfl⟩)
  go_ret
  exact ⟨rfl, (Below.refl _ w).alloc (Nat.le_refl _) _⟩
theorem At_nil (w : World) : Calls Tryd.prog 12 #[.nilIface] w fun ev w' => ev = .returned (.tuple #[.int .i64 0, .int .i64 0]) ∧ Below w.heap.size w w' := by
  go_enter Tryd.func12, Tryd.ntmps12
  go_wp2_with (go_at_call 17; refine (As_nil _ _).mono ?_; rintro e w' ⟨rfl, rfl⟩)
  go_region
  go_wp2
  go_ret2
  exact ⟨rfl, ((Below.refl _ w).alloc (Nat.le_refl _) _).drew⟩
end Go.Proofs.YtbpccfafapalhaaDoor
