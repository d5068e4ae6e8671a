/- fault.Of, Back; errors.Unwrap and errors.Is of a fault; fault.Line where its numbers are below 100. -/
import Derived.Test.YtbpccfafapalhaaDoorFd
namespace Go.Proofs.YtbpccfafapalhaaDoor
set_option linter.unusedVariables false
set_option linter.unusedSimpArgs false
open Go.RowKit Go.Extern.Stop Go.Stop Go.Extern

theorem Of_nil (n p : Int) (w : World) : Calls Tryd.prog 10 #[.int .i64 0, .int .i64 n, .int .i64 p] w fun e w' => e = .returned .nilIface ∧ w' = w := by
  go_enter Tryd.func10, Tryd.ntmps10
  go_wp2
  go_ret
  exact ⟨rfl, rfl⟩
theorem Of_hit (k n p : Int) (hk : k ≠ 0) (w : World) : Calls Tryd.prog 10 #[.int .i64 k, .int .i64 n, .int .i64 p] w fun e w' => e = .returned (plc k n p) ∧ w' = w := by
  unfold plc
  go_enter Tryd.func10, Tryd.ntmps10
  go_wp2
  go_ret
  exact ⟨rfl, rfl⟩
theorem Unwrap_a (k n p : Int) (w : World) : Calls Tryd.prog 13 #[plc k n p] w fun e w' => e = .returned (.iface 39 (.int .i64 k)) ∧ Below w.heap.size w w' := by
  have hU := Fa.hasUnwrap 41 (.inl rfl)
  have mU := Fa.methodUnwrap41
  unfold plc
  go_enter Tryd.func13, Tryd.ntmps13
  go_wp2_with (go_at_call 45; refine (unwrap41 _ _ _ _).mono ?_; rintro e w' ⟨rfl, rfl⟩)
  go_ret
  exact ⟨rfl, (Below.refl _ w).alloc (Nat.le_refl _) _⟩
theorem Fa.methodComparable (h : Value) (w : World) : (Go.method 224 65 (.agg #[h]) "Comparable").run Tryd.prog w = .ok (67, .agg #[h]) w := by kernel_rfl
/-- What the model does at a type's Comparable. -/
def cmpE : Array Value → Sem Value := Extern.ReflectliteType.method fun t => do Extern.Rtype.noPackHeld "Comparable" t; pure (.bool (← typeInfo t).comparable)
theorem Fa.comparable39 (w : World) : (cmpE #[.agg #[.pointer (some ⟨4, 39, none⟩)]]).run Tryd.prog w = .ok (.bool true) w := by kernel_rfl
theorem Fa.eq39 (k : Int) (w : World) : (binOp .eql 26 (.iface 39 (.int .i64 k)) (.iface 39 (.int .i64 k))).run Tryd.prog w = .ok (.bool true) w := by
  have h : (Op.equalIn 10000 26 (.iface 39 (.int .i64 k)) (.iface 39 (.int .i64 k))).run Tryd.prog w = .ok (k == k) w := by kernel_rfl
  simp only [binOp]
  simp [Op.equal, Op.maxDepth, h]
set_option maxRecDepth 100000 in
set_option maxHeartbeats 4000000 in
theorem is_a (k n p : Int) (w : World) : Calls Tryd.prog 19 #[plc k n p, .iface 39 (.int .i64 k), .bool true] w fun e w' => e = .returned (.bool true) ∧ Below w.heap.size w w' := by
  have hU := Fa.hasUnwrap 41 (.inl rfl)
  have mU := Fa.methodUnwrap41
  have nI := Fa.noIs 41 (.inr (.inl rfl))
  have e1 := fun w => run_eql_iface_types (P := Tryd.prog) (ti := 26) 41 39 (.agg #[.int .i64 k, .int .i64 n, .int .i64 p]) (.int .i64 k) Tryd.underlying26 (by decide) w
  have e2 := Fa.eq39 k
  unfold plc
  go_enter Tryd.func19, Tryd.ntmps19
  go_wp2
  refine wp_loop_rounds 2 ?_
  rw [rounds_succ]
  go_wp2_with (go_at_call 45; refine (unwrap41 _ _ _ _).mono ?_; rintro e w' ⟨rfl, rfl⟩)
  rw [rounds_succ]
  go_wp2
  go_ret
  exact ⟨rfl, (Below.refl _ w).alloc (Nat.le_refl _) _⟩
set_option maxRecDepth 100000 in
set_option maxHeartbeats 4000000 in
theorem Is_a (k n p : Int) (w : World) : Calls Tryd.prog 15 #[plc k n p, .iface 39 (.int .i64 k)] w fun e w' => e = .returned (.bool true) ∧ Below w.heap.size w w' := by
  have h18 := @run_callFunc_extern Tryd.prog 18 _ Extern.ReflectliteType.typeOf Tryd.func18 (by kernel_rfl) (by kernel_rfl) (by kernel_rfl) (by kernel_rfl)
  have h67 := @run_callFunc_extern Tryd.prog 67 _ cmpE Tryd.func67 (by kernel_rfl) (by kernel_rfl) (by kernel_rfl) (by kernel_rfl)
  have t39 := Fa.typeOf39
  have mC := Fa.methodComparable
  have c39 := Fa.comparable39
  have HI := is_a k n p w
  unfold plc at *
  go_enter Tryd.func15, Tryd.ntmps15
  go_wp2_with (go_at_call 19; refine HI.mono ?_; clear HI; rintro e w' ⟨rfl, hb⟩)
  go_ret
  exact ⟨rfl, hb⟩
end Go.Proofs.YtbpccfafapalhaaDoor
