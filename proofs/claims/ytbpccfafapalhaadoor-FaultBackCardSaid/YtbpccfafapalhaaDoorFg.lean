/- fault.Line(2, 0, 4). -/
import Derived.Test.YtbpccfafapalhaaDoorFe
namespace Go.Proofs.YtbpccfafapalhaaDoor
set_option linter.unusedVariables false
set_option linter.unusedSimpArgs false
open Go.RowKit Go.Extern.Stop Go.Stop Go.Extern

theorem small0 (w : World) : Calls Tryd.prog 49 #[.int .i64 0] w fun e w' => e = .returned (.string ⟨#[48]⟩) ∧ w' = w := by
  go_enter Tryd.func49, Tryd.ntmps49
  go_wp2
  go_ret
  exact ⟨rfl, rfl⟩
theorem small4 (w : World) : Calls Tryd.prog 49 #[.int .i64 4] w fun e w' => e = .returned (.string ⟨#[52]⟩) ∧ w' = w := by
  go_enter Tryd.func49, Tryd.ntmps49
  go_wp2
  go_ret
  exact ⟨rfl, rfl⟩
set_option maxRecDepth 100000 in
theorem Itoa0 (w : World) : Calls Tryd.prog 46 #[.int .i64 0] w fun e w' => e = .returned (.string ⟨#[48]⟩) ∧ w' = w := by
  have F : ∀ w, Calls Tryd.prog 48 #[.int .i64 0, .int .i64 10] w fun e w' => e = .returned (.string ⟨#[48]⟩) ∧ w' = w := fun w => by
    go_enter Tryd.func48, Tryd.ntmps48
    go_wp2_with (go_at_call 49; refine (small0 _).mono ?_; rintro e w' ⟨rfl, rfl⟩)
    go_ret
    exact ⟨rfl, rfl⟩
  have G : ∀ w, Calls Tryd.prog 47 #[.int .i64 0] w fun e w' => e = .returned (.string ⟨#[48]⟩) ∧ w' = w := fun w => by
    go_enter Tryd.func47, Tryd.ntmps47
    go_wp2_with (go_at_call 48; refine (F _).mono ?_; rintro e w' ⟨rfl, rfl⟩)
    go_ret
    exact ⟨rfl, rfl⟩
  clear F
  go_enter Tryd.func46, Tryd.ntmps46
  go_wp2_with (go_at_call 47; refine (G _).mono ?_; rintro e w' ⟨rfl, rfl⟩)
  go_ret
  exact ⟨rfl, rfl⟩
set_option maxRecDepth 100000 in
theorem Itoa4 (w : World) : Calls Tryd.prog 46 #[.int .i64 4] w fun e w' => e = .returned (.string ⟨#[52]⟩) ∧ w' = w := by
  have F : ∀ w, Calls Tryd.prog 48 #[.int .i64 4, .int .i64 10] w fun e w' => e = .returned (.string ⟨#[52]⟩) ∧ w' = w := fun w => by
    go_enter Tryd.func48, Tryd.ntmps48
    go_wp2_with (go_at_call 49; refine (small4 _).mono ?_; rintro e w' ⟨rfl, rfl⟩)
    go_ret
    exact ⟨rfl, rfl⟩
  have G : ∀ w, Calls Tryd.prog 47 #[.int .i64 4] w fun e w' => e = .returned (.string ⟨#[52]⟩) ∧ w' = w := fun w => by
    go_enter Tryd.func47, Tryd.ntmps47
    go_wp2_with (go_at_call 48; refine (F _).mono ?_; rintro e w' ⟨rfl, rfl⟩)
    go_ret
    exact ⟨rfl, rfl⟩
  clear F
  go_enter Tryd.func46, Tryd.ntmps46
  go_wp2_with (go_at_call 47; refine (G _).mono ?_; rintro e w' ⟨rfl, rfl⟩)
  go_ret
  exact ⟨rfl, rfl⟩
theorem Name1 (w : World) : Calls Tryd.prog 6 #[.int .i64 1] w fun e w' => e = .returned (.string ⟨#[100, 105, 118, 105, 100, 101]⟩) ∧ w' = w := by
  go_enter Tryd.func6, Tryd.ntmps6
  go_wp2
  go_ret
  exact ⟨rfl, rfl⟩
theorem Name2 (w : World) : Calls Tryd.prog 6 #[.int .i64 2] w fun e w' => e = .returned (.string ⟨#[98, 111, 117, 110, 100, 115]⟩) ∧ w' = w := by
  go_enter Tryd.func6, Tryd.ntmps6
  go_wp2
  go_ret
  exact ⟨rfl, rfl⟩
set_option maxRecDepth 100000 in
set_option maxHeartbeats 4000000 in
theorem Error_a (w : World) : Calls Tryd.prog 44 #[.agg #[.int .i64 2, .int .i64 0, .int .i64 4]] w fun e w' => e = .returned (.string ⟨#[98, 111, 117, 110, 100, 115, 32, 97, 116, 32, 119, 111, 114, 107, 101, 114, 32, 48, 32, 112, 99, 32, 52]⟩) ∧ Below w.heap.size w w' := by
  go_enter Tryd.func44, Tryd.ntmps44
  go_wp2
  go_quiet (first | (go_at_call 6; exact Calls.quiet_of_same (Name2 _)) | (go_at_call 46; exact Calls.quiet_of_same (Itoa0 _)) | (go_at_call 46; exact Calls.quiet_of_same (Itoa4 _)))
  go_wp2
  go_ret
  exact ⟨rfl, ((Below.refl _ w).alloc (Nat.le_refl _) _).trans ⟨rfl, rfl, rfl, Nat.le_refl _, fun _ _ => rfl⟩⟩
theorem Fa.methodError (v : Value) (w : World) : (Go.method 224 41 v "Error").run Tryd.prog w = .ok (44, v) w := by kernel_rfl
set_option maxRecDepth 100000 in
set_option maxHeartbeats 4000000 in
theorem Line_a (w : World) : Calls Tryd.prog 8 #[.int .i64 2, .int .i64 0, .int .i64 4] w fun e w' => e = .returned (.string ⟨#[98, 111, 117, 110, 100, 115, 32, 97, 116, 32, 119, 111, 114, 107, 101, 114, 32, 48, 32, 112, 99, 32, 52]⟩) ∧ Below w.heap.size w w' := by
  have mE := Fa.methodError
  have HO := fun w => Of_hit 2 0 4 (by decide) w
  unfold plc at HO
  go_enter Tryd.func8, Tryd.ntmps8
  go_wp2_with (first | (go_at_call 10; refine (HO _).mono ?_; rintro e w' ⟨rfl, rfl⟩) | (go_at_call 44; refine (Error_a _).mono ?_; rintro e w' ⟨rfl, hb⟩))
  go_ret
  exact ⟨rfl, hb⟩
end Go.Proofs.YtbpccfafapalhaaDoor
