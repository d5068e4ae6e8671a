/- Own small program logic, part c: the pure operations agree with the model. -/
import Derived.Test.YtjdpejggafefjaaDoorKb
namespace Go.Kx
set_option linter.unusedVariables false
set_option linter.unusedSimpArgs false
open Go

theorem intDiv_run {P : Program} {w : World} {op : BinOp} {k : IntKind} {x y : Int} {v : Value} (h : binI op k x y = some v) (ho : op = .quo ∨ op = .rem) : (Op.intDiv op k x y).run P w = .ok v w := by
  rcases ho with rfl | rfl <;> simp only [binI] at h <;> split at h <;> simp_all [Op.intDiv]

theorem binI_run {P : Program} {w : World} {op : BinOp} {t : TypeId} {k : IntKind} {x y : Int} {v : Value} (h : binI op k x y = some v) : (binOp op t (.int k x) (.int k y)).run P w = .ok v w := by
  cases op
  case quo => simpa [binOp] using intDiv_run h (.inl rfl)
  case rem => simpa [binOp] using intDiv_run h (.inr rfl)
  all_goals simp [binI, cmpI] at h <;> (try subst h) <;> simp [binOp, Op.intArith, Op.intBits, Op.intCmp]

theorem shI_run {P : Program} {w : World} {op : BinOp} {t : TypeId} {k k' : IntKind} {x y : Int} {v : Value} (hs : isSh op = true) (h : shI op k x y = some v) : (binOp op t (.int k x) (.int k' y)).run P w = .ok v w := by
  cases op <;> simp [isSh] at hs <;> simp only [shI] at h <;> split at h <;> simp_all [binOp, Op.shift] <;> intro _ <;> omega

theorem binF_run {P : Program} {w : World} {op : BinOp} {t : TypeId} {k : FloatKind} {x y : Nat} {v : Value} (h : binF op k x y = some v) : (binOp op t (.float k x) (.float k y)).run P w = .ok v w := by
  cases op <;> simp [binF] at h <;> (try subst h) <;> (try (obtain ⟨r, hr, rfl⟩ := h)) <;> simp [binOp, Op.floatCmp, Op.floatArith, *]

theorem binC_run {P : Program} {w : World} {op : BinOp} {t : TypeId} {k : FloatKind} {a b c d : Nat} {v : Value} (h : binC op k a b c d = some v) : (binOp op t (.complex k a b) (.complex k c d)).run P w = .ok v w := by
  cases op <;> simp [binC] at h <;> (try subst h) <;> (try (split at h)) <;> (try cases h) <;> simp [binOp, Op.complexOp, Op.Complex.cmp, Op.Complex.arith, Op.floatCmp, Op.floatArith, asBool, *]
  all_goals simp [*, asBool]

theorem binS_run {P : Program} {w : World} {op : BinOp} {t : TypeId} {x y : ByteArray} {v : Value} (h : binS op x y = some v) : (binOp op t (.string x) (.string y)).run P w = .ok v w := by
  cases op <;> simp only [binS] at h <;> (try cases h) <;> (try (split at h)) <;> (try cases h) <;> simp_all [binOp, Op.stringOp]

theorem binV_run {P : Program} {w : World} {op : BinOp} {t : TypeId} {a b : Value} {v : Value} (h : binV op a b = some v) : (binOp op t a b).run P w = .ok v w := by
  unfold binV at h
  split at h
  · split at h
    · exact shI_run ‹_› h
    · split at h
      · subst_vars; exact binI_run h
      · cases h
  · split at h
    · subst_vars; exact binF_run h
    · cases h
  · split at h
    · subst_vars; exact binC_run h
    · cases h
  · exact binS_run h
  · cases h

theorem eqGuard_run {P : Program} {w : World} {op : BinOp} {t : TypeId} {x y : Operand} {a b v : Value} (h : binV op a b = some v) : (eqGuard op t x y a b).run P w = .ok () w := by
  unfold binV at h
  split at h <;> first | (cases h; done) | (cases op <;> rfl)

theorem eqGuard_other {P : Program} {w : World} {op : BinOp} {t : TypeId} {x y : Operand} {a b : Value} (h1 : (a = .nilIface → b = .nilIface → (nilConst x).isSome ∨ (nilConst y).isSome))
    (h2 : ∀ xs ys, a = .agg xs → b = .agg ys → P.eqGuardType P.depth t = false) : (eqGuard op t x y a b).run P w = .ok () w := by
  have key : ∀ (a b : Value) (h1 : (a = .nilIface → b = .nilIface → (nilConst x).isSome ∨ (nilConst y).isSome)) (h2 : ∀ xs ys, a = .agg xs → b = .agg ys → P.eqGuardType P.depth t = false),
      (eqGuard .eql t x y a b).run P w = .ok () w ∧ (eqGuard .neq t x y a b).run P w = .ok () w := by
    intro a b h1 h2
    cases a <;> cases b <;> first | exact ⟨rfl, rfl⟩ | skip
    · rcases h1 rfl rfl with h1 | h1
      · cases x <;> simp [nilConst] at h1
        simp [eqGuard]
      · cases y <;> simp [nilConst] at h1
        simp [eqGuard]
    · have := h2 _ _ rfl rfl
      simp [eqGuard, this]
  cases op <;> first | exact (key a b h1 h2).1 | exact (key a b h1 h2).2 | rfl

end Go.Kx
