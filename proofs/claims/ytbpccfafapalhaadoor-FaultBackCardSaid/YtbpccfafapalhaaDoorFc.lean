/- errors.As whole; fault.Kind and fault.At. -/
import Derived.Test.YtbpccfafapalhaaDoorFb
namespace Go.Proofs.YtbpccfafapalhaaDoor
set_option linter.unusedVariables false
set_option linter.unusedSimpArgs false
open Go.RowKit Go.Extern.Stop Go.Stop Go.Extern

set_option maxRecDepth 100000 in
set_option maxHeartbeats 4000000 in
theorem as_miss (k : Int) (t s : Nat) (w : World) :
    Calls Tryd.prog 23 #[.iface 39 (.int .i64 k), .iface 45 (.pointer (some ⟨t, 0, none⟩)), .agg #[.pointer (some ⟨4, 45, none⟩), .pointer (some ⟨s, 0, none⟩), .int .u64 150], .iface 65 (.agg #[.pointer (some ⟨4, 41, none⟩)])] w fun ev w' =>
      ev = .returned (.bool false) ∧ w' = w.alloc (.cells #[.pointer (some ⟨4, 45, none⟩), .pointer (some ⟨s, 0, none⟩), .int .u64 150] 57) := by
  have h18 := @run_callFunc_extern Tryd.prog 18 _ ReflectliteType.typeOf Tryd.func18 (by kernel_rfl) (by kernel_rfl) (by kernel_rfl) (by kernel_rfl)
  have h66 := @run_callFunc_extern Tryd.prog 66 _ (ReflectliteType.relation "AssignableTo" ReflectliteType.assignableTo) Tryd.func66 (by kernel_rfl) (by kernel_rfl) (by kernel_rfl) (by kernel_rfl)
  have t39 := Fa.typeOf39
  have mA := Fa.methodAssignableTo
  have a39 := Fa.assignable39
  have nA := Fa.noAs 39 (.inl rfl)
  have nU := Fa.noUnwrap39
  have nV := Fa.noUnwraps 39 (.inl rfl)
  go_enter Tryd.func23, Tryd.ntmps23
  go_wp2
  refine wp_loop_rounds 1 ?_
  rw [rounds_succ]
  go_wp2
  go_ret
  exact ⟨rfl, rfl⟩

theorem As_nil (t : Value) (w : World) : Calls Tryd.prog 17 #[.nilIface, t] w fun e w' => e = .returned (.bool false) ∧ w' = w := by
  go_enter Tryd.func17, Tryd.ntmps17
  go_wp2
  go_ret
  exact ⟨rfl, rfl⟩

section
variable (t : Nat) (w : World) (hg : w.cell? ⟨0, 0, none⟩ = some (.iface 65 (.agg #[.pointer (some ⟨4, 26, none⟩)])))
include hg
set_option maxRecDepth 100000 in
set_option maxHeartbeats 4000000 in
theorem As_hit (k n p : Int) (d : Nat) (x y z : Value) (ht : w.heap[t]? = some (.cells #[x, y, z] 41 (0, 0))) :
    Calls Tryd.prog 17 #[wrp (plc k n p) d, .iface 45 (.pointer (some ⟨t, 0, none⟩))] w fun ev w' =>
      ev = .returned (.bool true) ∧ ∃ w1, Below w.heap.size w w1 ∧ w' = w1.setRow t #[.int .i64 k, .int .i64 n, .int .i64 p] := by
  obtain ⟨ty, v, hj⟩ : ∃ ty v, wrp (plc k n p) d = .iface ty v := by cases d <;> exact ⟨_, _, rfl⟩
  have HJ : Hid (wrp (plc k n p) d = .iface ty v) := hj
  rw [hj]
  have h20 := @run_callFunc_extern Tryd.prog 20 _ (fun args => ReflectliteValue.unpack (args.getD 0 (.tuple #[]))) Tryd.func20 (by kernel_rfl) (by kernel_rfl) (by kernel_rfl) (by kernel_rfl)
  have h21 := @run_callFunc_extern Tryd.prog 21 _ (ReflectliteValue.methodAny (ReflectliteValue.valueError "reflectlite.Value.Type" 0) (fun t _ _ _ => ReflectliteType.toType t)) Tryd.func21 (by kernel_rfl) (by kernel_rfl) (by kernel_rfl) (by kernel_rfl)
  have h22 := @run_callFunc_extern Tryd.prog 22 _ (ReflectliteValue.method (ReflectliteValue.valueError "reflectlite.Value.IsNil" 0) ReflectliteValue.isNil) Tryd.func22 (by kernel_rfl) (by kernel_rfl) (by kernel_rfl) (by kernel_rfl)
  have h40 := @run_callFunc_extern Tryd.prog 40 _ (ReflectliteType.abiMethod fun t => do pure (.int .u8 (← Rtype.kind t))) Tryd.func40 (by kernel_rfl) (by kernel_rfl) (by kernel_rfl) (by kernel_rfl)
  have h68 := @run_callFunc_extern Tryd.prog 68 _ (ReflectliteType.method ReflectliteType.elem) Tryd.func68 (by kernel_rfl) (by kernel_rfl) (by kernel_rfl) (by kernel_rfl)
  have h69 := @run_callFunc_extern Tryd.prog 69 _ (ReflectliteType.relation "Implements" ReflectliteType.implements_) Tryd.func69 (by kernel_rfl) (by kernel_rfl) (by kernel_rfl) (by kernel_rfl)
  have f20 := Fa.valueOf45
  have f21 := Fa.type45
  have mK := Fa.methodKind
  have mE := Fa.methodElem
  have mI := Fa.methodImplements
  have k45 := Fa.kind45
  have k41 := Fa.kind41
  have e45 := Fa.elem45
  have i41 := Fa.implements41
  have hlt : 0 < w.heap.size := by
    rcases Nat.eq_zero_or_pos w.heap.size with h0 | h
    · simp [World.cell?, h0] at hg
    · exact h
  have n22 := Fa.isNil45 ⟨w.heap.size, 0, none⟩ ⟨t, 0, none⟩ ((w.alloc (.cells #[.pointer (some ⟨t, 0, none⟩)] 45)).alloc (.cells #[.pointer (some ⟨4, 45, none⟩), .pointer (some ⟨w.heap.size, 0, none⟩), .int .u64 150] 57)) (by simp)
  have hg2 : ((w.alloc (.cells #[.pointer (some ⟨t, 0, none⟩)] 45)).alloc (.cells #[.pointer (some ⟨4, 45, none⟩), .pointer (some ⟨w.heap.size, 0, none⟩), .int .u64 150] 57)).cell? ⟨0, 0, none⟩ = some (.iface 65 (.agg #[.pointer (some ⟨4, 26, none⟩)])) := by
    rw [World.cell?_alloc_lt _ _ ⟨0, 0, none⟩ (by simp), World.cell?_alloc_lt _ _ ⟨0, 0, none⟩ hlt]; exact hg
  have htl : t < w.heap.size := (Array.getElem?_eq_some_iff.1 ht).1
  have ht2 : ((w.alloc (.cells #[.pointer (some ⟨t, 0, none⟩)] 45)).alloc (.cells #[.pointer (some ⟨4, 45, none⟩), .pointer (some ⟨w.heap.size, 0, none⟩), .int .u64 150] 57)).heap[t]? = some (.cells #[x, y, z] 41 (0, 0)) := by
    rw [Below.heap_alloc _ _ _ (by rw [heap_size]; omega), Below.heap_alloc _ _ _ htl]; exact ht
  have hs2 : ((w.alloc (.cells #[.pointer (some ⟨t, 0, none⟩)] 45)).alloc (.cells #[.pointer (some ⟨4, 45, none⟩), .pointer (some ⟨w.heap.size, 0, none⟩), .int .u64 150] 57)).cell? ⟨w.heap.size, 0, none⟩ = some (.pointer (some ⟨t, 0, none⟩)) := by simp
  have HA := as_hit k n p d t x y z w.heap.size _ ht2 hs2
  rw [HJ.out] at HA
  clear hj ht hs2 ht2
  go_enter Tryd.func17, Tryd.ntmps17
  go_wp2_with (go_at_call 23; refine HA.mono ?_; rintro e w' ⟨rfl, w1, hb, rfl⟩)
  go_ret
  refine ⟨rfl, w1, ?_, rfl⟩
  have h1 := ((Below.refl _ w).alloc (Nat.le_refl _) (.cells #[.pointer (some ⟨t, 0, none⟩)] 45)).alloc (by rw [heap_size]; omega) (.cells #[.pointer (some ⟨4, 45, none⟩), .pointer (some ⟨w.heap.size, 0, none⟩), .int .u64 150] 57)
  exact h1.trans (hb.mono (by rw [heap_size, heap_size]; omega))
set_option maxRecDepth 100000 in
set_option maxHeartbeats 4000000 in
theorem As_miss (k : Int) :
    Calls Tryd.prog 17 #[.iface 39 (.int .i64 k), .iface 45 (.pointer (some ⟨t, 0, none⟩))] w fun ev w' =>
      ev = .returned (.bool false) ∧ Below w.heap.size w w' := by
  have h20 := @run_callFunc_extern Tryd.prog 20 _ (fun args => ReflectliteValue.unpack (args.getD 0 (.tuple #[]))) Tryd.func20 (by kernel_rfl) (by kernel_rfl) (by kernel_rfl) (by kernel_rfl)
  have h21 := @run_callFunc_extern Tryd.prog 21 _ (ReflectliteValue.methodAny (ReflectliteValue.valueError "reflectlite.Value.Type" 0) (fun t _ _ _ => ReflectliteType.toType t)) Tryd.func21 (by kernel_rfl) (by kernel_rfl) (by kernel_rfl) (by kernel_rfl)
  have h22 := @run_callFunc_extern Tryd.prog 22 _ (ReflectliteValue.method (ReflectliteValue.valueError "reflectlite.Value.IsNil" 0) ReflectliteValue.isNil) Tryd.func22 (by kernel_rfl) (by kernel_rfl) (by kernel_rfl) (by kernel_rfl)
  have h40 := @run_callFunc_extern Tryd.prog 40 _ (ReflectliteType.abiMethod fun t => do pure (.int .u8 (← Rtype.kind t))) Tryd.func40 (by kernel_rfl) (by kernel_rfl) (by kernel_rfl) (by kernel_rfl)
  have h68 := @run_callFunc_extern Tryd.prog 68 _ (ReflectliteType.method ReflectliteType.elem) Tryd.func68 (by kernel_rfl) (by kernel_rfl) (by kernel_rfl) (by kernel_rfl)
  have h69 := @run_callFunc_extern Tryd.prog 69 _ (ReflectliteType.relation "Implements" ReflectliteType.implements_) Tryd.func69 (by kernel_rfl) (by kernel_rfl) (by kernel_rfl) (by kernel_rfl)
  have f20 := Fa.valueOf45
  have f21 := Fa.type45
  have mK := Fa.methodKind
  have mE := Fa.methodElem
  have mI := Fa.methodImplements
  have k45 := Fa.kind45
  have k41 := Fa.kind41
  have e45 := Fa.elem45
  have i41 := Fa.implements41
  have hlt : 0 < w.heap.size := by
    rcases Nat.eq_zero_or_pos w.heap.size with h0 | h
    · simp [World.cell?, h0] at hg
    · exact h
  have n22 := Fa.isNil45 ⟨w.heap.size, 0, none⟩ ⟨t, 0, none⟩ ((w.alloc (.cells #[.pointer (some ⟨t, 0, none⟩)] 45)).alloc (.cells #[.pointer (some ⟨4, 45, none⟩), .pointer (some ⟨w.heap.size, 0, none⟩), .int .u64 150] 57)) (by simp)
  have hg2 : ((w.alloc (.cells #[.pointer (some ⟨t, 0, none⟩)] 45)).alloc (.cells #[.pointer (some ⟨4, 45, none⟩), .pointer (some ⟨w.heap.size, 0, none⟩), .int .u64 150] 57)).cell? ⟨0, 0, none⟩ = some (.iface 65 (.agg #[.pointer (some ⟨4, 26, none⟩)])) := by
    rw [World.cell?_alloc_lt _ _ ⟨0, 0, none⟩ (by simp), World.cell?_alloc_lt _ _ ⟨0, 0, none⟩ hlt]; exact hg
  go_enter Tryd.func17, Tryd.ntmps17
  go_wp2_with (go_at_call 23; refine (as_miss k t w.heap.size _).mono ?_; rintro e w' ⟨rfl, rfl⟩)
  go_ret
  refine ⟨rfl, ?_⟩
  exact (((Below.refl _ w).alloc (Nat.le_refl _) _).alloc (by rw [heap_size]; omega) _).alloc (by rw [heap_size, heap_size]; omega) _
end
end Go.Proofs.YtbpccfafapalhaaDoor
