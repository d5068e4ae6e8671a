/- Own small program logic, part e: a compiled pure operation gives what the model's operation gives. -/
import Derived.Test.YtjdpejggafefjaaDoorKea
namespace Go.Kx
set_option linter.unusedVariables false
set_option linter.unusedSimpArgs false
open Go

theorem real_run {P : Program} {w : World} {ats : Array TypeId} {ty : TypeId} {k : FloatKind} {a b : Nat} : (Builtin.real_ ats ty #[.complex k a b]).run P w = .ok (.float k a) w := rfl
theorem imag_run {P : Program} {w : World} {ats : Array TypeId} {ty : TypeId} {k : FloatKind} {a b : Nat} : (Builtin.imag_ ats ty #[.complex k a b]).run P w = .ok (.float k b) w := rfl
theorem complex_run {P : Program} {w : World} {ats : Array TypeId} {ty : TypeId} {k : FloatKind} {a b : Nat} : (Builtin.complex_ ats ty #[.float k a, .float k b]).run P w = .ok (.complex k a b) w := by
  show (if k = k then (pure (.complex k a b) : Sem Value) else _).run P w = _
  simp

theorem pur_call {P : Program} {c : Call} {f : PF} {xs : List Operand} (hc : compCall P c = some (.pur f xs)) (ρ : Operand → Value) {v : Value} (hv : f.val (xs.map ρ) = some v)
    (dst : Option Tmp) (type : TypeId) (pos : String) (after : Array Edge) (guard : Option (Nat × Bool)) (w : World) : (execOp ρ ⟨dst, .call c, type, pos, after, guard⟩).run P w = .ok (.value v) w := by
  obtain ⟨callee, args, ats⟩ := c
  cases callee with
  | value x => cases x <;> simp only [compCall] at hc <;> (try (split at hc)) <;> simp at hc
  | invoke _ _ => simp [compCall] at hc
  | builtin b =>
    have hargs : ∀ l, args.toList = l → args = l.toArray := by intro l h; rw [← h]
    have hats : ∀ t r, ats.toList = t :: r → ats[0]? = some t := by intro t r h; have := congrArg (·[0]?) h; simpa using this
    simp only [compCall] at hc
    split at hc
    · rename_i x t r ha ht
      have e1 := hargs _ ha
      have e2 := hats _ _ ht
      subst e1
      split at hc <;> simp at hc <;> obtain ⟨rfl, rfl⟩ := hc <;> simp only [List.map_cons, List.map_nil] at hv <;> cases hx : ρ x <;> simp only [hx, PF.val] at hv <;> (try cases hv) <;>
        simp [execOp, resolve, invoke, builtin, Builtin.len_, goInt, hx, e2, run_underlying ‹_ = some _›]
    · rename_i x t r ha ht
      have e1 := hargs _ ha
      have e2 := hats _ _ ht
      subst e1
      split at hc <;> simp at hc
      obtain ⟨rfl, rfl⟩ := hc
      simp only [List.map_cons, List.map_nil] at hv
      cases hx : ρ x <;> simp only [hx, PF.val] at hv <;> cases hv
      simp [execOp, resolve, invoke, builtin, Builtin.cap_, goInt, hx, e2, run_underlying ‹_ = some _›]
    · rename_i x r ha
      have e1 := hargs _ ha
      subst e1
      simp at hc
      obtain ⟨rfl, rfl⟩ := hc
      have := mms_run (P := P) (w := w) (mx := false) _ _ _ (by simpa [PF.val] using hv)
      simp only [Bool.false_eq_true, if_false] at this
      simp [execOp, resolve, invoke, builtin, Builtin.min_, this]
    · rename_i x r ha
      have e1 := hargs _ ha
      subst e1
      simp at hc
      obtain ⟨rfl, rfl⟩ := hc
      have := mms_run (P := P) (w := w) (mx := true) _ _ _ (by simpa [PF.val] using hv)
      simp only [if_true] at this
      simp [execOp, resolve, invoke, builtin, Builtin.max_, this]
    · split at hc <;> simp at hc
    · rename_i r x ha
      have e1 := hargs _ ha
      subst e1
      simp at hc
      obtain ⟨rfl, rfl⟩ := hc
      simp only [List.map_cons, List.map_nil] at hv
      cases hx : ρ x <;> simp only [hx, PF.val] at hv <;> cases hv
      simp [execOp, resolve, invoke, builtin, real_run, hx]
    · rename_i r x ha
      have e1 := hargs _ ha
      subst e1
      simp at hc
      obtain ⟨rfl, rfl⟩ := hc
      simp only [List.map_cons, List.map_nil] at hv
      cases hx : ρ x <;> simp only [hx, PF.val] at hv <;> cases hv
      simp [execOp, resolve, invoke, builtin, imag_run, hx]
    · rename_i r x y ha
      have e1 := hargs _ ha
      subst e1
      simp at hc
      obtain ⟨rfl, rfl⟩ := hc
      simp only [List.map_cons, List.map_nil] at hv
      cases hx : ρ x <;> simp only [hx, PF.val] at hv <;> (try cases hv) <;> cases hy : ρ y <;> simp only [hy] at hv <;> (try cases hv)
      split at hv <;> cases hv
      subst_vars
      simp [execOp, resolve, invoke, builtin, complex_run, hx, hy]
    · (repeat' (split at hc)) <;> simp at hc
    · cases hc

end Go.Kx
