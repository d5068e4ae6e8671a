/- errors.As at a target of the type *fault.place: Go's own text of errors.As and errors.as is walked. -/
import Derived.Test.YtbpccfafapalhaaDoorProg
import Derived.WalkKit
import Derived.LaidEql
import Derived.Stop.Asserts
import Derived.RowKitTokens
namespace Go.Proofs.YtbpccfafapalhaaDoor
set_option linter.unusedVariables false
set_option linter.unusedSimpArgs false
open Go.RowKit Go.Extern.Stop Go.Stop Go.Extern

theorem Fa.valueOf45 (t : Addr) (w : World) : (ReflectliteValue.unpack (.iface 45 (.pointer (some t)))).run Tryd.prog w
    = .ok (.agg #[.pointer (some ⟨4, 45, none⟩), .pointer (some ⟨w.heap.size, 0, none⟩), .int .u64 150]) (w.alloc (.cells #[.pointer (some t)] 45)) := by kernel_rfl
theorem Fa.type45 (a : Addr) (w : World) : (ReflectliteValue.methodAny (ReflectliteValue.valueError "reflectlite.Value.Type" 0) (fun t _ _ _ => ReflectliteType.toType t) #[.agg #[.pointer (some ⟨4, 45, none⟩), .pointer (some a), .int .u64 150]]).run Tryd.prog w
    = .ok (.iface 65 (.agg #[.pointer (some ⟨4, 45, none⟩)])) w := by kernel_rfl
theorem Fa.methodKind (h : Value) (w : World) : (Go.method 224 65 (.agg #[h]) "Kind").run Tryd.prog w = .ok (40, h) w := by kernel_rfl
theorem Fa.kind45 (w : World) : ((ReflectliteType.abiMethod fun t => (fun a : Nat => Value.int IntKind.u8 (a : Int)) <$> Rtype.kind t) #[.pointer (some ⟨4, 45, none⟩)]).run Tryd.prog w = .ok (.int .u8 22) w := by kernel_rfl
theorem Fa.kind41 (w : World) : ((ReflectliteType.abiMethod fun t => (fun a : Nat => Value.int IntKind.u8 (a : Int)) <$> Rtype.kind t) #[.pointer (some ⟨4, 41, none⟩)]).run Tryd.prog w = .ok (.int .u8 25) w := by kernel_rfl
theorem rlm (z : Sem Value) (f : TypeId → Addr → Nat → Nat → Sem Value) (v : Value) :
    ReflectliteValue.method z f #[v] = (do match ← ReflectliteValue.parts v with | none => z | some (t, a, fl) => f t a fl (fl % 32)) := rfl
theorem Fa.parts45 (a : Addr) (w : World) : (ReflectliteValue.parts (.agg #[.pointer (some ⟨4, 45, none⟩), .pointer (some a), .int .u64 150])).run Tryd.prog w = .ok (some (45, a, 150)) w := by kernel_rfl
theorem Fa.isNil45 (a p : Addr) (W : World) (ha : W.cell? a = some (.pointer (some p))) :
    (ReflectliteValue.method (ReflectliteValue.valueError "reflectlite.Value.IsNil" 0) ReflectliteValue.isNil #[.agg #[.pointer (some ⟨4, 45, none⟩), .pointer (some a), .int .u64 150]]).run Tryd.prog W = .ok (.bool false) W := by
  rw [rlm]
  simp only [Sem.run_bind, Fa.parts45, Result.andThen]
  simp [ReflectliteValue.isNil, loadVar, isAgg, underlying, Tryd.underlying45, ha, Result.andThen]
theorem Fa.methodElem (h : Value) (w : World) : (Go.method 224 65 (.agg #[h]) "Elem").run Tryd.prog w = .ok (68, .agg #[h]) w := by kernel_rfl
theorem Fa.methodImplements (h : Value) (w : World) : (Go.method 224 65 (.agg #[h]) "Implements").run Tryd.prog w = .ok (69, .agg #[h]) w := by kernel_rfl
theorem Fa.methodAssignableTo (h : Value) (w : World) : (Go.method 224 65 (.agg #[h]) "AssignableTo").run Tryd.prog w = .ok (66, .agg #[h]) w := by kernel_rfl
theorem Fa.elem45 (w : World) : (ReflectliteType.method ReflectliteType.elem #[.agg #[.pointer (some ⟨4, 45, none⟩)]]).run Tryd.prog w = .ok (.iface 65 (.agg #[.pointer (some ⟨4, 41, none⟩)])) w := by kernel_rfl
theorem Fa.implements41 (w : World) : (ReflectliteType.relation "Implements" ReflectliteType.implements_ #[.agg #[.pointer (some ⟨4, 41, none⟩)], .iface 65 (.agg #[.pointer (some ⟨4, 26, none⟩)])]).run Tryd.prog w = .ok (.bool true) w := by kernel_rfl
theorem Fa.typeOf41 (v : Value) (w : World) : (ReflectliteType.typeOf #[.iface 41 v]).run Tryd.prog w = .ok (.iface 65 (.agg #[.pointer (some ⟨4, 41, none⟩)])) w := by kernel_rfl
theorem Fa.typeOf43 (v : Value) (w : World) : (ReflectliteType.typeOf #[.iface 43 v]).run Tryd.prog w = .ok (.iface 65 (.agg #[.pointer (some ⟨4, 43, none⟩)])) w := by kernel_rfl
theorem Fa.typeOf39 (v : Value) (w : World) : (ReflectliteType.typeOf #[.iface 39 v]).run Tryd.prog w = .ok (.iface 65 (.agg #[.pointer (some ⟨4, 39, none⟩)])) w := by kernel_rfl
theorem Fa.assignable41 (w : World) : (ReflectliteType.relation "AssignableTo" ReflectliteType.assignableTo #[.agg #[.pointer (some ⟨4, 41, none⟩)], .iface 65 (.agg #[.pointer (some ⟨4, 41, none⟩)])]).run Tryd.prog w = .ok (.bool true) w := by kernel_rfl
theorem Fa.assignable43 (w : World) : (ReflectliteType.relation "AssignableTo" ReflectliteType.assignableTo #[.agg #[.pointer (some ⟨4, 43, none⟩)], .iface 65 (.agg #[.pointer (some ⟨4, 41, none⟩)])]).run Tryd.prog w = .ok (.bool false) w := by kernel_rfl
theorem Fa.assignable39 (w : World) : (ReflectliteType.relation "AssignableTo" ReflectliteType.assignableTo #[.agg #[.pointer (some ⟨4, 39, none⟩)], .iface 65 (.agg #[.pointer (some ⟨4, 41, none⟩)])]).run Tryd.prog w = .ok (.bool false) w := by kernel_rfl
theorem Fa.valueOf41 (a b c : Value) (w : World) : (ReflectliteValue.unpack (.iface 41 (.agg #[a, b, c]))).run Tryd.prog w
    = .ok (.agg #[.pointer (some ⟨4, 41, none⟩), .pointer (some ⟨w.heap.size, 0, none⟩), .int .u64 153]) (w.alloc (.cells #[a, b, c] 41)) := by kernel_rfl
theorem Fa.elemOf45 (w : World) : (Rtype.elem? 45).run Tryd.prog w = .ok (some 41) w := by kernel_rfl
theorem Fa.mk41 (p : Addr) (w : World) : (ReflectliteValue.mk 41 p ReflectliteValue.flagAddr).run Tryd.prog w = .ok (.agg #[.pointer (some ⟨4, 41, none⟩), .pointer (some p), .int .u64 409]) w := by kernel_rfl
theorem Fa.elemV45 (a p : Addr) (W : World) (ha : W.cell? a = some (.pointer (some p))) :
    (ReflectliteValue.method (ReflectliteValue.valueError "reflectlite.Value.Elem" 0) ReflectliteValue.elem #[.agg #[.pointer (some ⟨4, 45, none⟩), .pointer (some a), .int .u64 150]]).run Tryd.prog W
      = .ok (.agg #[.pointer (some ⟨4, 41, none⟩), .pointer (some p), .int .u64 409]) W := by
  rw [rlm]
  simp only [Sem.run_bind, Fa.parts45, Result.andThen]
  simp [ReflectliteValue.elem, loadVar, isAgg, underlying, Tryd.underlying45, ha, Result.andThen, Fa.elemOf45, Fa.mk41]
theorem Fa.noAs (t : TypeId) (ht : t = 39 ∨ t = 41 ∨ t = 43) (v : Value) (xT : TypeId) (w : World) : (Instr.typeAssert (.iface t v) xT 75 true).run Tryd.prog w = .ok (.tuple #[.nilIface, .bool false]) w := by
  rcases ht with rfl | rfl | rfl <;> exact run_typeAssert_lacksB Tryd.underlying75 (by kernel_rfl) (by kernel_rfl) v xT w
theorem Fa.noIs (t : TypeId) (ht : t = 39 ∨ t = 41 ∨ t = 43) (v : Value) (xT : TypeId) (w : World) : (Instr.typeAssert (.iface t v) xT 67 true).run Tryd.prog w = .ok (.tuple #[.nilIface, .bool false]) w := by
  rcases ht with rfl | rfl | rfl <;> exact run_typeAssert_lacksB Tryd.underlying67 (by kernel_rfl) (by kernel_rfl) v xT w
theorem Fa.noUnwraps (t : TypeId) (ht : t = 39 ∨ t = 41 ∨ t = 43) (v : Value) (xT : TypeId) (w : World) : (Instr.typeAssert (.iface t v) xT 70 true).run Tryd.prog w = .ok (.tuple #[.nilIface, .bool false]) w := by
  rcases ht with rfl | rfl | rfl <;> exact run_typeAssert_lacksB Tryd.underlying70 (by kernel_rfl) (by kernel_rfl) v xT w
theorem Fa.noUnwrap39 (v : Value) (xT : TypeId) (w : World) : (Instr.typeAssert (.iface 39 v) xT 46 true).run Tryd.prog w = .ok (.tuple #[.nilIface, .bool false]) w := run_typeAssert_lacksB Tryd.underlying46 (by kernel_rfl) (by kernel_rfl) v xT w
theorem Fa.hasUnwrap (t : TypeId) (ht : t = 41 ∨ t = 43) (v : Value) (xT : TypeId) (w : World) : (Instr.typeAssert (.iface t v) xT 46 true).run Tryd.prog w = .ok (.tuple #[.iface t v, .bool true]) w := by
  rcases ht with rfl | rfl <;> exact run_typeAssert_hasB Tryd.underlying46 (by kernel_rfl) v xT w
theorem Fa.methodUnwrap41 (v : Value) (w : World) : (Go.method 224 41 v "Unwrap").run Tryd.prog w = .ok (45, v) w := by kernel_rfl
theorem Fa.methodUnwrap43 (v : Value) (w : World) : (Go.method 224 43 v "Unwrap").run Tryd.prog w = .ok (61, v) w := by kernel_rfl
end Go.Proofs.YtbpccfafapalhaaDoor
