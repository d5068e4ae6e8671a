/- errors.As at a target of the type *fault.place: what it finds of a fault that others have wrapped. -/
import Derived.Test.YtbpccfafapalhaaDoorFa
import Derived.Laws.Rows
import Derived.Laws.Tables
import Derived.LoopTactic
import Derived.Below
namespace Go.Proofs.YtbpccfafapalhaaDoor
set_option linter.unusedVariables false
set_option linter.unusedSimpArgs false
open Go.RowKit Go.Extern.Stop Go.Stop Go.Extern

theorem rls (v x : Value) : ReflectliteValue.set #[v, x] = (do
    let (some (dst, a, fl), some (src, b, _)) := (← ReflectliteValue.parts v, ← ReflectliteValue.parts x)
      | unsupported (.noEntry "extern/(internal/reflectlite.Value).Set.zeroValue")
    if fl / ReflectliteValue.flagAddr % 2 == 0 then unsupported (.noEntry "extern/(internal/reflectlite.Value).Set.unaddressable")
    let val ← loadVar src b
    if ← Rtype.directlyAssignable dst src then storeVar dst a val
    else if ← Rtype.implements dst src then
      if (← Rtype.kind src) == 20 then
        match val with
        | .nilIface => unsupported (.noEntry "extern/reflectlite: a nil value of one interface type handed on as a value of another")
        | _ => storeVar dst a val
      else storeVar dst a (.iface src val)
    else panicString ("reflectlite.Set: value of type " ++ (← Rtype.spelt src) ++ " is not assignable to type " ++ (← Rtype.spelt dst))
    pure (.tuple #[])) := rfl
theorem Fa.parts41a (a : Addr) (w : World) : (ReflectliteValue.parts (.agg #[.pointer (some ⟨4, 41, none⟩), .pointer (some a), .int .u64 409])).run Tryd.prog w = .ok (some (41, a, 409)) w := by kernel_rfl
theorem Fa.parts41 (a : Addr) (w : World) : (ReflectliteValue.parts (.agg #[.pointer (some ⟨4, 41, none⟩), .pointer (some a), .int .u64 153])).run Tryd.prog w = .ok (some (41, a, 153)) w := by kernel_rfl
theorem Fa.direct41 (w : World) : (Rtype.directlyAssignable 41 41).run Tryd.prog w = .ok true w := by kernel_rfl
theorem Fa.info41 : (Tryd.prog.info? 41).map (·.size) = some 3 := by kernel_rfl
theorem Fa.u41 : ∃ l, Tryd.prog.underlying 41 = some (.struct l) := ⟨_, Tryd.underlying41⟩
theorem Fa.set41 (t s : Nat) (k n p : Int) (x y z : Value) (W : World) (hb : W.heap[s]? = some (.cells #[.int .i64 k, .int .i64 n, .int .i64 p] 41 (0, 0))) (ht : W.heap[t]? = some (.cells #[x, y, z] 41 (0, 0))) :
    (ReflectliteValue.set #[.agg #[.pointer (some ⟨4, 41, none⟩), .pointer (some ⟨t, 0, none⟩), .int .u64 409], .agg #[.pointer (some ⟨4, 41, none⟩), .pointer (some ⟨s, 0, none⟩), .int .u64 153]]).run Tryd.prog W
      = .ok (.tuple #[]) (W.setRow t #[.int .i64 k, .int .i64 n, .int .i64 p]) := by
  obtain ⟨l, hu⟩ := Fa.u41
  have h1 := run_loadVar_row (P := Tryd.prog) W s 41 41 _ _ _ hb hu rfl Fa.info41
  have h2 := run_storeVar_row (P := Tryd.prog) W t 41 41 _ #[.int .i64 k, .int .i64 n, .int .i64 p] ht Fa.info41 rfl (by simp [Value.oneCell'])
  rw [rls]
  simp only [Sem.run_bind, Fa.parts41a, Fa.parts41, Result.andThen]
  simp [ReflectliteValue.flagAddr, h1, Result.andThen, Fa.direct41, h2]

/-- A fault that others have wrapped so often. -/
def wrp (e : Value) : Nat → Value
  | 0 => e
  | d + 1 => .iface 43 (.agg #[wrp e d])
def plc (k n p : Int) : Value := .iface 41 (.agg #[.int .i64 k, .int .i64 n, .int .i64 p])
/-- How often it is wrapped. -/
def dep : Value → Nat
  | .iface _ (.agg ⟨[v]⟩) => dep v + 1
  | _ => 0
theorem dep_wr (k n p : Int) (d : Nat) : dep (wrp (plc k n p) d) = d := by
  induction d with
  | zero => rfl
  | succ d ih => exact congrArg (· + 1) ih
theorem unwrap43 (v : Value) (w : World) : Calls Tryd.prog 61 #[.agg #[v]] w fun e w' => e = .returned v ∧ w' = w.alloc (.cells #[v] 43) := by
  go_enter Tryd.func61, Tryd.ntmps61
  go_wp2
  go_ret
  exact ⟨rfl, rfl⟩
theorem unwrap41 (k n p : Int) (w : World) : Calls Tryd.prog 45 #[.agg #[.int .i64 k, .int .i64 n, .int .i64 p]] w fun e w' => e = .returned (.iface 39 (.int .i64 k)) ∧ w' = w.alloc (.cells #[.int .i64 k, .int .i64 n, .int .i64 p] 41) := by
  go_enter Tryd.func45, Tryd.ntmps45
  go_wp2
  go_ret
  exact ⟨rfl, rfl⟩

theorem heap_new (w : World) (o : Obj) : (w.alloc o).heap[w.heap.size]? = some o := by
  show (w.heap.push o)[_]? = _
  simp
theorem heap_size (w : World) (o : Obj) : (w.alloc o).heap.size = w.heap.size + 1 := by
  show (w.heap.push o).size = _
  simp
set_option maxRecDepth 100000 in
set_option maxHeartbeats 4000000 in
theorem as_hit (k n p : Int) (d t : Nat) (x y z : Value) (s : Nat) (w : World) (ht : w.heap[t]? = some (.cells #[x, y, z] 41 (0, 0))) (hs : w.cell? ⟨s, 0, none⟩ = some (.pointer (some ⟨t, 0, none⟩))) :
    Calls Tryd.prog 23 #[wrp (plc k n p) d, .iface 45 (.pointer (some ⟨t, 0, none⟩)), .agg #[.pointer (some ⟨4, 45, none⟩), .pointer (some ⟨s, 0, none⟩), .int .u64 150], .iface 65 (.agg #[.pointer (some ⟨4, 41, none⟩)])] w fun ev w' =>
      ev = .returned (.bool true) ∧ ∃ w1, Below w.heap.size w w1 ∧ w' = w1.setRow t #[.int .i64 k, .int .i64 n, .int .i64 p] := by
  have h18 := @run_callFunc_extern Tryd.prog 18 _ ReflectliteType.typeOf Tryd.func18 (by kernel_rfl) (by kernel_rfl) (by kernel_rfl) (by kernel_rfl)
  have h20 := @run_callFunc_extern Tryd.prog 20 _ (fun args => ReflectliteValue.unpack (args.getD 0 (.tuple #[]))) Tryd.func20 (by kernel_rfl) (by kernel_rfl) (by kernel_rfl) (by kernel_rfl)
  have h24 := @run_callFunc_extern Tryd.prog 24 _ (ReflectliteValue.method (ReflectliteValue.valueError "reflectlite.Value.Elem" 0) ReflectliteValue.elem) Tryd.func24 (by kernel_rfl) (by kernel_rfl) (by kernel_rfl) (by kernel_rfl)
  have h25 := @run_callFunc_extern Tryd.prog 25 _ ReflectliteValue.set Tryd.func25 (by kernel_rfl) (by kernel_rfl) (by kernel_rfl) (by kernel_rfl)
  have h66 := @run_callFunc_extern Tryd.prog 66 _ (ReflectliteType.relation "AssignableTo" ReflectliteType.assignableTo) Tryd.func66 (by kernel_rfl) (by kernel_rfl) (by kernel_rfl) (by kernel_rfl)
  have t41 := Fa.typeOf41
  have t43 := Fa.typeOf43
  have mA := Fa.methodAssignableTo
  have a41 := Fa.assignable41
  have a43 := Fa.assignable43
  have nA := Fa.noAs 43 (.inr (.inr rfl))
  have hU := Fa.hasUnwrap 43 (.inr rfl)
  have mU := Fa.methodUnwrap43
  have v41 := Fa.valueOf41
  have htl : t < w.heap.size := (Array.getElem?_eq_some_iff.1 ht).1
  have hsl : s < w.heap.size := by
    rcases Nat.lt_or_ge s w.heap.size with h | h
    · exact h
    · simp [World.cell?, Array.getElem?_eq_none h] at hs
  go_enter Tryd.func23, Tryd.ntmps23
  go_wp2
  go_loopw [0] (fun v W => ∃ j, v = wrp (plc k n p) j ∧ Below (w.heap.size + 1) (w.alloc (.cells #[.pointer (some ⟨4, 45, none⟩), .pointer (some ⟨s, 0, none⟩), .int .u64 150] 57)) W) (fun v _ => dep v)
  case atStart => exact ⟨d, rfl, Below.refl _ _⟩
  case round =>
    obtain ⟨j, rfl, hB⟩ := hrel
    cases j with
    | zero =>
      simp only [wrp, plc]
      have hcs : wr.cell? ⟨s, 0, none⟩ = some (.pointer (some ⟨t, 0, none⟩)) := by
        rw [hB.cell (by show s < _; omega), World.cell?_alloc_lt _ _ ⟨s, 0, none⟩ hsl]; exact hs
      have el := Fa.elemV45 ⟨s, 0, none⟩ ⟨t, 0, none⟩ wr hcs
      have hbx : wr.heap[w.heap.size]? = some (.cells #[.pointer (some ⟨4, 45, none⟩), .pointer (some ⟨s, 0, none⟩), .int .u64 150] 57 (0, 0)) := by
        rw [hB.block _ (by omega)]; exact heap_new _ _
      have c0 : wr.cell? ⟨w.heap.size, 0, none⟩ = some (.pointer (some ⟨4, 45, none⟩)) := by simp [World.cell?, hbx]
      have c1 : wr.cell? ⟨w.heap.size, 1, none⟩ = some (.pointer (some ⟨s, 0, none⟩)) := by simp [World.cell?, hbx]
      have c2 : wr.cell? ⟨w.heap.size, 2, none⟩ = some (.int .u64 150) := by simp [World.cell?, hbx]
      have htw : wr.heap[t]? = some (.cells #[x, y, z] 41 (0, 0)) := by
        rw [hB.block _ (by omega), Below.heap_alloc _ _ _ htl]; exact ht
      have hlw : w.heap.size + 1 ≤ wr.heap.size := by have := hB.size; rw [heap_size] at this; exact this
      have st := Fa.set41 t wr.heap.size k n p x y z (wr.alloc (.cells #[.int .i64 k, .int .i64 n, .int .i64 p] 41)) (heap_new _ _) (by rw [Below.heap_alloc _ _ _ (by omega)]; exact htw)
      clear hcs hbx htw ht hs
      go_wp2
      go_ret
      refine ⟨rfl, _, ?_, rfl⟩
      have h1 : Below w.heap.size w (w.alloc (.cells #[.pointer (some ⟨4, 45, none⟩), .pointer (some ⟨s, 0, none⟩), .int .u64 150] 57)) := (Below.refl _ w).alloc (Nat.le_refl _) _
      exact (h1.trans (hB.mono (by omega))).alloc (by omega) _
    | succ j =>
      simp only [wrp]
      obtain ⟨ty, v, hj⟩ : ∃ ty v, wrp (plc k n p) j = .iface ty v := by cases j <;> exact ⟨_, _, rfl⟩
      have hd := dep_wr k n p j
      rw [hj] at hd ⊢
      have HJ : Hid (wrp (plc k n p) j = .iface ty v) := hj
      have HD : Hid (dep (.iface ty v) = j) := hd
      have hlw : w.heap.size + 1 ≤ wr.heap.size := by have := hB.size; rw [heap_size] at this; exact this
      clear ht hs hj hd
      go_wp2_with (go_at_call 61; refine (unwrap43 _ _).mono ?_; rintro e w' ⟨rfl, rfl⟩)
      go_roundw
      case rel => exact ⟨j, HJ.out.symm, hB.alloc (by omega) _⟩
      case measure =>
        have := HD.out
        show dep (.iface ty v) < dep (.iface ty v) + 1
        omega
end Go.Proofs.YtbpccfafapalhaaDoor
