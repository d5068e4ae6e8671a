/- Trace: a log of events; the nodes that have begun. -/
import Derived.Test.YthgmfjkbgacfaaaTrd
import Derived.Test.YthgmfjkbgacfaaaYd
namespace Go.Proofs.Ythgmfjkbgacfaaa
set_option linter.unusedVariables false
set_option linter.unusedSimpArgs false
open Go Go.Kx Go.Proofs

theorem trace_of_a (l : List Ev) (hl : l.length ≤ 100000) : FnP Try.prog 53 [aEvs l] fun a => a = aLg l := by
  refine fnP_in K_trace_of mixed rfl (by simp [AV.pureL, aEvs_pure]) ?_
  simp only [S_trace_of]
  simp (maxSteps := 1000000) (implicitDefEqProofs := false) (disch := omega) only [push_cast, ↓reduceIte, Nat.reduceEqDiff, reduceCtorEq, wz]
  refine wpa_callG log_New_a ?_
  rintro a σ ⟨rfl, rfl⟩
  simp (maxSteps := 1000000) (implicitDefEqProofs := false) (disch := omega) only [push_cast, ↓reduceIte, Nat.reduceEqDiff, reduceCtorEq, wz, aEvs, aSlN]
  refine wpa_bl (α := Nat) (I := fun k ε σ => (ε 3 = .ref 0 0 0 ∧ ε 7 = .sl l.length (l.flatMap aEv) .none ∧ ε 8 = .v (.int .i64 l.length) ∧ ε 9 = .v (.int .i64 k)) ∧ k ≤ l.length ∧ EvAt (l.take k) σ)
    (μ := fun k => l.length - k) (Q := fun ε σ => ε 3 = .ref 0 0 0 ∧ EvAt l σ) (x := 0) ?_ ?_ ?_
  · simp (maxSteps := 1000000) (implicitDefEqProofs := false) (disch := omega) only [push_cast, ↓reduceIte, Nat.reduceEqDiff, reduceCtorEq, wz]
    exact ⟨by omega, .nil, [], rfl, .inl ⟨rfl, rfl⟩⟩
  · rintro k ε σ N E ⟨hρ, hk, hσ⟩ hN hE
    simp only [S_trace_of_L1]
    by_cases hlt : k < l.length
    · obtain ⟨e, he⟩ := at_lt hlt
      have hd := flat_drop aEv_len he
      have hc4 : ∀ t : List AV, cellsA (some 4) (aEv e ++ t) = some (.agg (aEv e)) := fun t => by simp [cellsA, aEv]
      have hset : setAtA [AV.v (.int .i64 0), AV.v (.int .i64 0), AV.v (.int .i64 0), AV.v (.int .i64 0)] 0 (aEv e) = aEv e := rfl
      simp (maxSteps := 1000000) (implicitDefEqProofs := false) (disch := omega) only [push_cast, ↓reduceIte, Nat.reduceEqDiff, reduceCtorEq, wz, hρ, hd, hc4]
      refine wpa_new ?_
      simp (maxSteps := 1000000) (implicitDefEqProofs := false) (disch := omega) only [push_cast, ↓reduceIte, Nat.reduceEqDiff, reduceCtorEq, wz]
      refine wpa_stn (cs := [AV.v (.int .i64 0), AV.v (.int .i64 0), AV.v (.int .i64 0), AV.v (.int .i64 0)]) rfl rfl (at_snoc _ _) (by simp) ?_
      rw [hset, set_snoc]
      simp (maxSteps := 1000000) (implicitDefEqProofs := false) (disch := omega) only [push_cast, ↓reduceIte, Nat.reduceEqDiff, reduceCtorEq, wz, hρ, at_snoc, cells4]
      refine wpa_callG (log_Note_a e (l.take k) (EvAt.snoc _ hσ) (by rw [List.length_take]; omega)) ?_
      intro a σ' hσ'
      simp (maxSteps := 1000000) (implicitDefEqProofs := false) (disch := omega) only [push_cast, ↓reduceIte, Nat.reduceEqDiff, reduceCtorEq, wz, hρ]
      refine hN (k + 1) _ _ ?_ (by omega)
      rw [take_succ_at he]
      simp (maxSteps := 1000000) (implicitDefEqProofs := false) (disch := omega) only [push_cast, ↓reduceIte, Nat.reduceEqDiff, reduceCtorEq, wz, hρ]
      exact ⟨by omega, hσ'⟩
    · simp (maxSteps := 1000000) (implicitDefEqProofs := false) (disch := omega) only [push_cast, ↓reduceIte, Nat.reduceEqDiff, reduceCtorEq, wz, hρ]
      obtain rfl : k = l.length := by omega
      rw [List.take_length] at hσ
      exact hE _ _ ⟨by simp (maxSteps := 1000000) (implicitDefEqProofs := false) (disch := omega) only [push_cast, ↓reduceIte, Nat.reduceEqDiff, reduceCtorEq, wz, hρ], hσ⟩
  · rintro ε σ ⟨h3, hσ⟩
    simp (maxSteps := 1000000) (implicitDefEqProofs := false) (disch := omega) only [push_cast, ↓reduceIte, Nat.reduceEqDiff, reduceCtorEq, wz, h3]
    exact fin_res [0] hσ.frz (aLg_pure l)
end Go.Proofs.Ythgmfjkbgacfaaa
