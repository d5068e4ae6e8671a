/- Contracts on annotated values: grid.row, Check. -/
import Derived.Test.YtilofhocodbknaaGrb
namespace Go.Proofs.Ytilofhocodbknaa
set_option linter.unusedVariables false
set_option linter.unusedSimpArgs false
open Go Go.Kx Go.Proofs

theorem grid_row_a (r : List CC) (hr : r.length ≤ 9223372036854775807) : FnP Try.prog 91 [aRow r] fun a => a = aInt (rowE r) := by
  refine fnP_in K_grid_row mixed rfl (by simp [AV.pureL, aRow_pure]) ?_
  simp only [S_grid_row, aRow, aSlN]
  by_cases h1 : 100 < r.length
  · simp (maxSteps := 1000000) (implicitDefEqProofs := false) (disch := omega) only [push_cast, ↓reduceIte, Nat.reduceEqDiff, reduceCtorEq, decide_true, decide_false, Bool.not_true, Bool.not_false, Option.isNone_some, Option.isNone_none, List.drop_zero, List.drop_succ_cons, List.getElem?_cons_zero, List.getElem?_cons_succ, List.length_cons, List.length_nil, List.take_succ_cons, List.take_zero, Nat.mul_one, Nat.zero_add, Nat.add_zero, Nat.one_mul, Nat.zero_mul, List.getElem?_map, List.getElem?_drop, List.getElem?_take, List.length_map, Option.map_some, List.set_cons_zero, List.set_cons_succ, and_true, true_and, List.flatMap_cons, List.flatMap_nil, Bool.not_not, h1]
    exact ⟨[], rfl, by unfold rowE; rw [if_pos h1]; rfl⟩
  have hE : rowE r = rowT r := by unfold rowE; rw [if_neg h1]
  cases r with
  | nil =>
    simp (maxSteps := 1000000) (implicitDefEqProofs := false) (disch := omega) only [push_cast, ↓reduceIte, Nat.reduceEqDiff, reduceCtorEq, decide_true, decide_false, Bool.not_true, Bool.not_false, Option.isNone_some, Option.isNone_none, List.drop_zero, List.drop_succ_cons, List.getElem?_cons_zero, List.getElem?_cons_succ, List.length_cons, List.length_nil, List.take_succ_cons, List.take_zero, Nat.mul_one, Nat.zero_add, Nat.add_zero, Nat.one_mul, Nat.zero_mul, List.getElem?_map, List.getElem?_drop, List.getElem?_take, List.length_map, Option.map_some, List.set_cons_zero, List.set_cons_succ, and_true, true_and, List.flatMap_cons, List.flatMap_nil, Bool.not_not]
    exact ⟨[], rfl, by rw [hE]; rfl⟩
  | cons c cs =>
    simp only [rowT] at hE
    have h0 : ¬ ((c :: cs).length : Int) = 0 := by rw [List.length_cons]; omega
    have h01 : (0 : Int) < ((c :: cs).length : Int) := by rw [List.length_cons]; omega
    have hd0 : ∀ m : List AV, (aCC c ++ m)[0]? = some (.v (.int .i64 c.st)) := fun m => rfl
    have hd1 : ∀ m : List AV, (aCC c ++ m)[1]? = some (.v (.bool c.wt)) := fun m => rfl
    have hz : ((c :: cs).flatMap aCC).drop (Int.toNat 0 * 2) = aCC c ++ cs.flatMap aCC := rfl
    generalize hr' : c :: cs = r at *
    have hr0 : r[0]? = some c := by rw [← hr']; rfl
    have hdr1 : r.drop 1 = cs := by rw [← hr']; rfl
    by_cases h2 : c.st = 0
    · cases h3 : c.wt with
      | true =>
        simp (maxSteps := 1000000) (implicitDefEqProofs := false) (disch := omega) only [push_cast, ↓reduceIte, Nat.reduceEqDiff, reduceCtorEq, decide_true, decide_false, Bool.not_true, Bool.not_false, Option.isNone_some, Option.isNone_none, List.drop_zero, List.drop_succ_cons, List.getElem?_cons_zero, List.getElem?_cons_succ, List.length_cons, List.length_nil, List.take_succ_cons, List.take_zero, Nat.mul_one, Nat.zero_add, Nat.add_zero, Nat.one_mul, Nat.zero_mul, List.getElem?_map, List.getElem?_drop, List.getElem?_take, List.length_map, Option.map_some, List.set_cons_zero, List.set_cons_succ, and_true, true_and, List.flatMap_cons, List.flatMap_nil, Bool.not_not, h1, h0, h01, hz, hd0, hd1, h2, h3]
        exact ⟨[], rfl, by rw [hE, if_pos (.inr h3)]; rfl⟩
      | false =>
        rw [if_neg (by rw [h3]; simp [h2])] at hE
        simp (maxSteps := 1000000) (implicitDefEqProofs := false) (disch := omega) only [push_cast, ↓reduceIte, Nat.reduceEqDiff, reduceCtorEq, decide_true, decide_false, Bool.not_true, Bool.not_false, Option.isNone_some, Option.isNone_none, List.drop_zero, List.drop_succ_cons, List.getElem?_cons_zero, List.getElem?_cons_succ, List.length_cons, List.length_nil, List.take_succ_cons, List.take_zero, Nat.mul_one, Nat.zero_add, Nat.add_zero, Nat.one_mul, Nat.zero_mul, List.getElem?_map, List.getElem?_drop, List.getElem?_take, List.length_map, Option.map_some, List.set_cons_zero, List.set_cons_succ, and_true, true_and, List.flatMap_cons, List.flatMap_nil, Bool.not_not, h1, h0, h01, hz, hd0, hd1, h2, h3]
        refine wpa_bl (α := Nat) (I := fun k ε σ => (ε 0 = .sl r.length (r.flatMap aCC) .none ∧ ε 3 = .v (.int .i64 k)) ∧ 1 ≤ k ∧ k ≤ r.length ∧ ∃ p, r[k - 1]? = some p ∧ incB c.st cs = incB p.st (r.drop k))
          (μ := fun k => r.length - k) (Q := fun _ _ => incB c.st cs = true) (x := 1) ?_ ?_ ?_
        · simp (maxSteps := 1000000) (implicitDefEqProofs := false) (disch := omega) only [push_cast, ↓reduceIte, Nat.reduceEqDiff, reduceCtorEq, decide_true, decide_false, Bool.not_true, Bool.not_false, Option.isNone_some, Option.isNone_none, List.drop_zero, List.drop_succ_cons, List.getElem?_cons_zero, List.getElem?_cons_succ, List.length_cons, List.length_nil, List.take_succ_cons, List.take_zero, Nat.mul_one, Nat.zero_add, Nat.add_zero, Nat.one_mul, Nat.zero_mul, List.getElem?_map, List.getElem?_drop, List.getElem?_take, List.length_map, Option.map_some, List.set_cons_zero, List.set_cons_succ, and_true, true_and, List.flatMap_cons, List.flatMap_nil, Bool.not_not]
          exact ⟨rfl, by omega, by omega, c, hr0, by rw [hdr1]⟩
        · rintro k ε σ N E ⟨hρ, hk1, hk, p, hp, hI⟩ hN hE'
          simp only [S_grid_row_L1]
          by_cases hlt : k < r.length
          · obtain ⟨x, hx⟩ := at_lt hlt
            have hdx := flat_drop aCC_len hx
            have hdp := flat_drop aCC_len hp
            have gx : ∀ (x : CC) (m : List AV), (aCC x ++ m)[0]? = some (.v (.int .i64 x.st)) := fun x m => rfl
            have hdq : (r.flatMap aCC).drop (((k : Int) - 1).toNat * 2) = aCC p ++ (r.drop (k - 1 + 1)).flatMap aCC := by rw [show ((k : Int) - 1).toNat = k - 1 by omega]; exact hdp
            rw [drop_at hx] at hI
            simp only [incB] at hI
            by_cases h5 : x.st ≤ p.st
            · have : incB c.st cs = false := by rw [hI]; simp; intro h; omega
              simp (maxSteps := 1000000) (implicitDefEqProofs := false) (disch := omega) only [push_cast, ↓reduceIte, Nat.reduceEqDiff, reduceCtorEq, decide_true, decide_false, Bool.not_true, Bool.not_false, Option.isNone_some, Option.isNone_none, List.drop_zero, List.drop_succ_cons, List.getElem?_cons_zero, List.getElem?_cons_succ, List.length_cons, List.length_nil, List.take_succ_cons, List.take_zero, Nat.mul_one, Nat.zero_add, Nat.add_zero, Nat.one_mul, Nat.zero_mul, List.getElem?_map, List.getElem?_drop, List.getElem?_take, List.length_map, Option.map_some, List.set_cons_zero, List.set_cons_succ, and_true, true_and, List.flatMap_cons, List.flatMap_nil, Bool.not_not, hρ, hdx, hdq, gx, h5]
              exact ⟨[], rfl, by rw [hE, if_neg (by rw [this]; simp)]; rfl⟩
            · by_cases h6 : 1048575 < x.st
              · have : incB c.st cs = false := by rw [hI]; simp; intro h h'; omega
                simp (maxSteps := 1000000) (implicitDefEqProofs := false) (disch := omega) only [push_cast, ↓reduceIte, Nat.reduceEqDiff, reduceCtorEq, decide_true, decide_false, Bool.not_true, Bool.not_false, Option.isNone_some, Option.isNone_none, List.drop_zero, List.drop_succ_cons, List.getElem?_cons_zero, List.getElem?_cons_succ, List.length_cons, List.length_nil, List.take_succ_cons, List.take_zero, Nat.mul_one, Nat.zero_add, Nat.add_zero, Nat.one_mul, Nat.zero_mul, List.getElem?_map, List.getElem?_drop, List.getElem?_take, List.length_map, Option.map_some, List.set_cons_zero, List.set_cons_succ, and_true, true_and, List.flatMap_cons, List.flatMap_nil, Bool.not_not, hρ, hdx, hdq, gx, h5, h6]
                exact ⟨[], rfl, by rw [hE, if_neg (by rw [this]; simp)]; rfl⟩
              · simp (maxSteps := 1000000) (implicitDefEqProofs := false) (disch := omega) only [push_cast, ↓reduceIte, Nat.reduceEqDiff, reduceCtorEq, decide_true, decide_false, Bool.not_true, Bool.not_false, Option.isNone_some, Option.isNone_none, List.drop_zero, List.drop_succ_cons, List.getElem?_cons_zero, List.getElem?_cons_succ, List.length_cons, List.length_nil, List.take_succ_cons, List.take_zero, Nat.mul_one, Nat.zero_add, Nat.add_zero, Nat.one_mul, Nat.zero_mul, List.getElem?_map, List.getElem?_drop, List.getElem?_take, List.length_map, Option.map_some, List.set_cons_zero, List.set_cons_succ, and_true, true_and, List.flatMap_cons, List.flatMap_nil, Bool.not_not, hρ, hdx, hdq, gx, h5, h6]
                refine hN (k + 1) _ _ ?_ (by omega)
                simp (maxSteps := 1000000) (implicitDefEqProofs := false) (disch := omega) only [push_cast, ↓reduceIte, Nat.reduceEqDiff, reduceCtorEq, decide_true, decide_false, Bool.not_true, Bool.not_false, Option.isNone_some, Option.isNone_none, List.drop_zero, List.drop_succ_cons, List.getElem?_cons_zero, List.getElem?_cons_succ, List.length_cons, List.length_nil, List.take_succ_cons, List.take_zero, Nat.mul_one, Nat.zero_add, Nat.add_zero, Nat.one_mul, Nat.zero_mul, List.getElem?_map, List.getElem?_drop, List.getElem?_take, List.length_map, Option.map_some, List.set_cons_zero, List.set_cons_succ, and_true, true_and, List.flatMap_cons, List.flatMap_nil, Bool.not_not, hρ]
                refine ⟨by omega, by omega, x, by rw [Nat.add_sub_cancel]; exact hx, ?_⟩
                rw [hI]
                have a1 : p.st < x.st := by omega
                have a2 : x.st ≤ 1048575 := by omega
                simp [a1, a2]
          · simp (maxSteps := 1000000) (implicitDefEqProofs := false) (disch := omega) only [push_cast, ↓reduceIte, Nat.reduceEqDiff, reduceCtorEq, decide_true, decide_false, Bool.not_true, Bool.not_false, Option.isNone_some, Option.isNone_none, List.drop_zero, List.drop_succ_cons, List.getElem?_cons_zero, List.getElem?_cons_succ, List.length_cons, List.length_nil, List.take_succ_cons, List.take_zero, Nat.mul_one, Nat.zero_add, Nat.add_zero, Nat.one_mul, Nat.zero_mul, List.getElem?_map, List.getElem?_drop, List.getElem?_take, List.length_map, Option.map_some, List.set_cons_zero, List.set_cons_succ, and_true, true_and, List.flatMap_cons, List.flatMap_nil, Bool.not_not, hρ]
            refine hE' _ _ ?_
            rw [hI, drop_all hlt]; rfl
        · rintro ε σ h
          simp (maxSteps := 1000000) (implicitDefEqProofs := false) (disch := omega) only [push_cast, ↓reduceIte, Nat.reduceEqDiff, reduceCtorEq, decide_true, decide_false, Bool.not_true, Bool.not_false, Option.isNone_some, Option.isNone_none, List.drop_zero, List.drop_succ_cons, List.getElem?_cons_zero, List.getElem?_cons_succ, List.length_cons, List.length_nil, List.take_succ_cons, List.take_zero, Nat.mul_one, Nat.zero_add, Nat.add_zero, Nat.one_mul, Nat.zero_mul, List.getElem?_map, List.getElem?_drop, List.getElem?_take, List.length_map, Option.map_some, List.set_cons_zero, List.set_cons_succ, and_true, true_and, List.flatMap_cons, List.flatMap_nil, Bool.not_not]
          exact ⟨[], rfl, by rw [hE, if_pos h]; rfl⟩
    · simp (maxSteps := 1000000) (implicitDefEqProofs := false) (disch := omega) only [push_cast, ↓reduceIte, Nat.reduceEqDiff, reduceCtorEq, decide_true, decide_false, Bool.not_true, Bool.not_false, Option.isNone_some, Option.isNone_none, List.drop_zero, List.drop_succ_cons, List.getElem?_cons_zero, List.getElem?_cons_succ, List.length_cons, List.length_nil, List.take_succ_cons, List.take_zero, Nat.mul_one, Nat.zero_add, Nat.add_zero, Nat.one_mul, Nat.zero_mul, List.getElem?_map, List.getElem?_drop, List.getElem?_take, List.length_map, Option.map_some, List.set_cons_zero, List.set_cons_succ, and_true, true_and, List.flatMap_cons, List.flatMap_nil, Bool.not_not, h1, h0, h01, hz, hd0, hd1, h2]
      exact ⟨[], rfl, by rw [hE, if_pos (.inl h2)]; rfl⟩
theorem grid_Check_a (l : List (List CC)) (hl : l.length ≤ 9223372036854775807) (hl2 : ∀ r ∈ l, r.length ≤ 9223372036854775807) : FnP Try.prog 33 [aRows l] fun a => a = aInt (gchk l) := by
  refine fnP_in K_grid_Check mixed rfl (by simp [AV.pureL, aRows_pure]) ?_
  simp only [S_grid_Check, aRows, aSl]
  by_cases h1 : 100 < l.length
  · simp (maxSteps := 1000000) (implicitDefEqProofs := false) (disch := omega) only [push_cast, ↓reduceIte, Nat.reduceEqDiff, reduceCtorEq, decide_true, decide_false, Bool.not_true, Bool.not_false, Option.isNone_some, Option.isNone_none, List.drop_zero, List.drop_succ_cons, List.getElem?_cons_zero, List.getElem?_cons_succ, List.length_cons, List.length_nil, List.take_succ_cons, List.take_zero, Nat.mul_one, Nat.zero_add, Nat.add_zero, Nat.one_mul, Nat.zero_mul, List.getElem?_map, List.getElem?_drop, List.getElem?_take, List.length_map, Option.map_some, List.set_cons_zero, List.set_cons_succ, and_true, true_and, List.flatMap_cons, List.flatMap_nil, Bool.not_not, h1]
    exact ⟨[], rfl, by unfold gchk; rw [if_pos h1]; rfl⟩
  have hE : gchk l = rowsE l := by unfold gchk; rw [if_neg h1]
  rw [hE]
  simp (maxSteps := 1000000) (implicitDefEqProofs := false) (disch := omega) only [push_cast, ↓reduceIte, Nat.reduceEqDiff, reduceCtorEq, decide_true, decide_false, Bool.not_true, Bool.not_false, Option.isNone_some, Option.isNone_none, List.drop_zero, List.drop_succ_cons, List.getElem?_cons_zero, List.getElem?_cons_succ, List.length_cons, List.length_nil, List.take_succ_cons, List.take_zero, Nat.mul_one, Nat.zero_add, Nat.add_zero, Nat.one_mul, Nat.zero_mul, List.getElem?_map, List.getElem?_drop, List.getElem?_take, List.length_map, Option.map_some, List.set_cons_zero, List.set_cons_succ, and_true, true_and, List.flatMap_cons, List.flatMap_nil, Bool.not_not, h1]
  refine wpa_bl (α := Nat) (I := fun k ε σ => (ε 9 = .sl l.length (l.map aRow) .none ∧ ε 10 = .v (.int .i64 l.length) ∧ ε 11 = .v (.int .i64 k)) ∧ k ≤ l.length ∧ rowsE l = rowsE (l.drop k))
    (μ := fun k => l.length - k) (Q := fun _ _ => rowsE l = 0) (x := 0) ?_ ?_ ?_
  · simp (maxSteps := 1000000) (implicitDefEqProofs := false) (disch := omega) only [push_cast, ↓reduceIte, Nat.reduceEqDiff, reduceCtorEq, decide_true, decide_false, Bool.not_true, Bool.not_false, Option.isNone_some, Option.isNone_none, List.drop_zero, List.drop_succ_cons, List.getElem?_cons_zero, List.getElem?_cons_succ, List.length_cons, List.length_nil, List.take_succ_cons, List.take_zero, Nat.mul_one, Nat.zero_add, Nat.add_zero, Nat.one_mul, Nat.zero_mul, List.getElem?_map, List.getElem?_drop, List.getElem?_take, List.length_map, Option.map_some, List.set_cons_zero, List.set_cons_succ, and_true, true_and, List.flatMap_cons, List.flatMap_nil, Bool.not_not]
    first | omega | exact ⟨by omega, rfl⟩ | exact ⟨rfl, by omega, rfl⟩
  · rintro k ε σ N E ⟨hρ, hk, hI⟩ hN hE'
    simp only [S_grid_Check_L1]
    by_cases hlt : k < l.length
    · obtain ⟨r, hr⟩ := at_lt hlt
      have hrl := hl2 r (List.mem_of_getElem? hr)
      rw [drop_at hr, rowsE] at hI
      simp (maxSteps := 1000000) (implicitDefEqProofs := false) (disch := omega) only [push_cast, ↓reduceIte, Nat.reduceEqDiff, reduceCtorEq, decide_true, decide_false, Bool.not_true, Bool.not_false, Option.isNone_some, Option.isNone_none, List.drop_zero, List.drop_succ_cons, List.getElem?_cons_zero, List.getElem?_cons_succ, List.length_cons, List.length_nil, List.take_succ_cons, List.take_zero, Nat.mul_one, Nat.zero_add, Nat.add_zero, Nat.one_mul, Nat.zero_mul, List.getElem?_map, List.getElem?_drop, List.getElem?_take, List.length_map, Option.map_some, List.set_cons_zero, List.set_cons_succ, and_true, true_and, List.flatMap_cons, List.flatMap_nil, Bool.not_not, hρ, hr]
      refine wpa_call (grid_row_a r hrl) ?_
      rintro a rfl
      by_cases h0 : rowE r = 0
      · rw [if_neg (by rw [h0]; simp)] at hI
        simp (maxSteps := 1000000) (implicitDefEqProofs := false) (disch := omega) only [push_cast, ↓reduceIte, Nat.reduceEqDiff, reduceCtorEq, decide_true, decide_false, Bool.not_true, Bool.not_false, Option.isNone_some, Option.isNone_none, List.drop_zero, List.drop_succ_cons, List.getElem?_cons_zero, List.getElem?_cons_succ, List.length_cons, List.length_nil, List.take_succ_cons, List.take_zero, Nat.mul_one, Nat.zero_add, Nat.add_zero, Nat.one_mul, Nat.zero_mul, List.getElem?_map, List.getElem?_drop, List.getElem?_take, List.length_map, Option.map_some, List.set_cons_zero, List.set_cons_succ, and_true, true_and, List.flatMap_cons, List.flatMap_nil, Bool.not_not, hρ, aInt, h0]
        refine hN (k + 1) _ _ ?_ (by omega)
        simp (maxSteps := 1000000) (implicitDefEqProofs := false) (disch := omega) only [push_cast, ↓reduceIte, Nat.reduceEqDiff, reduceCtorEq, decide_true, decide_false, Bool.not_true, Bool.not_false, Option.isNone_some, Option.isNone_none, List.drop_zero, List.drop_succ_cons, List.getElem?_cons_zero, List.getElem?_cons_succ, List.length_cons, List.length_nil, List.take_succ_cons, List.take_zero, Nat.mul_one, Nat.zero_add, Nat.add_zero, Nat.one_mul, Nat.zero_mul, List.getElem?_map, List.getElem?_drop, List.getElem?_take, List.length_map, Option.map_some, List.set_cons_zero, List.set_cons_succ, and_true, true_and, List.flatMap_cons, List.flatMap_nil, Bool.not_not, hρ]
        exact ⟨by omega, hI⟩
      · rw [if_pos h0] at hI
        simp (maxSteps := 1000000) (implicitDefEqProofs := false) (disch := omega) only [push_cast, ↓reduceIte, Nat.reduceEqDiff, reduceCtorEq, decide_true, decide_false, Bool.not_true, Bool.not_false, Option.isNone_some, Option.isNone_none, List.drop_zero, List.drop_succ_cons, List.getElem?_cons_zero, List.getElem?_cons_succ, List.length_cons, List.length_nil, List.take_succ_cons, List.take_zero, Nat.mul_one, Nat.zero_add, Nat.add_zero, Nat.one_mul, Nat.zero_mul, List.getElem?_map, List.getElem?_drop, List.getElem?_take, List.length_map, Option.map_some, List.set_cons_zero, List.set_cons_succ, and_true, true_and, List.flatMap_cons, List.flatMap_nil, Bool.not_not, hρ, aInt, h0]
        exact ⟨[], rfl, (congrArg aInt hI).symm⟩
    · simp (maxSteps := 1000000) (implicitDefEqProofs := false) (disch := omega) only [push_cast, ↓reduceIte, Nat.reduceEqDiff, reduceCtorEq, decide_true, decide_false, Bool.not_true, Bool.not_false, Option.isNone_some, Option.isNone_none, List.drop_zero, List.drop_succ_cons, List.getElem?_cons_zero, List.getElem?_cons_succ, List.length_cons, List.length_nil, List.take_succ_cons, List.take_zero, Nat.mul_one, Nat.zero_add, Nat.add_zero, Nat.one_mul, Nat.zero_mul, List.getElem?_map, List.getElem?_drop, List.getElem?_take, List.length_map, Option.map_some, List.set_cons_zero, List.set_cons_succ, and_true, true_and, List.flatMap_cons, List.flatMap_nil, Bool.not_not, hρ]
      refine hE' _ _ ?_
      rw [hI, drop_all hlt]; rfl
  · rintro ε σ h
    simp (maxSteps := 1000000) (implicitDefEqProofs := false) (disch := omega) only [push_cast, ↓reduceIte, Nat.reduceEqDiff, reduceCtorEq, decide_true, decide_false, Bool.not_true, Bool.not_false, Option.isNone_some, Option.isNone_none, List.drop_zero, List.drop_succ_cons, List.getElem?_cons_zero, List.getElem?_cons_succ, List.length_cons, List.length_nil, List.take_succ_cons, List.take_zero, Nat.mul_one, Nat.zero_add, Nat.add_zero, Nat.one_mul, Nat.zero_mul, List.getElem?_map, List.getElem?_drop, List.getElem?_take, List.length_map, Option.map_some, List.set_cons_zero, List.set_cons_succ, and_true, true_and, List.flatMap_cons, List.flatMap_nil, Bool.not_not]
    exact ⟨[], rfl, (congrArg aInt h).symm⟩

/-! ### What right rows are like -/
theorem incB_at : ∀ {r : List CC} {s : Int}, incB s r = true → ∀ {k : Nat} {c : CC}, r[k]? = some c → s < c.st ∧ c.st ≤ 1048575 := by
  intro r
  induction r with
  | nil => intro s _ k c h; simp at h
  | cons d r ih =>
    intro s h k c hc
    simp only [incB, Bool.and_eq_true, decide_eq_true_eq] at h
    cases k with
    | zero => simp at hc; subst hc; exact ⟨h.1.1, h.1.2⟩
    | succ k =>
      have := ih h.2 (k := k) (by simpa using hc)
      exact ⟨by omega, this.2⟩
theorem incB_lt : ∀ {r : List CC} {s : Int}, incB s r = true → ∀ {i j : Nat} {c d : CC}, i < j → r[i]? = some c → r[j]? = some d → c.st < d.st := by
  intro r
  induction r with
  | nil => intro s _ i j c d _ h; simp at h
  | cons e r ih =>
    intro s h i j c d hij hc hd
    simp only [incB, Bool.and_eq_true, decide_eq_true_eq] at h
    obtain ⟨j, rfl⟩ : ∃ j', j = j' + 1 := ⟨j - 1, by omega⟩
    cases i with
    | zero =>
      simp at hc; subst hc
      exact (incB_at h.2 (k := j) (by simpa using hd)).1
    | succ i => exact ih h.2 (i := i) (j := j) (by omega) (by simpa using hc) (by simpa using hd)
/-- A right row. -/
structure RowOk (r : List CC) : Prop where
  len : r.length ≤ 100
  pos : 0 < r.length
  first : ∀ c, r[0]? = some c → c.st = 0 ∧ c.wt = false
  inc : ∀ (i j : Nat) (c d : CC), i < j → r[i]? = some c → r[j]? = some d → c.st < d.st
  bd : ∀ c ∈ r, 0 ≤ c.st ∧ c.st ≤ 1048575
theorem rowE_ok {r : List CC} (h : rowE r = 0) : RowOk r := by
  unfold rowE at h
  split at h
  · omega
  · rename_i hlen
    cases r with
    | nil => simp [rowT] at h
    | cons c cs =>
      simp only [rowT] at h
      split at h
      · omega
      · rename_i h1
        split at h
        · rename_i h2
          have hc0 : c.st = 0 := by
            by_cases e : c.st = 0
            · exact e
            · exact absurd (.inl e) h1
          have hcw : c.wt = false := by
            cases e : c.wt with
            | false => rfl
            | true => exact absurd (.inr e) h1
          have hinc : ∀ (i j : Nat) (x y : CC), i < j → (c :: cs)[i]? = some x → (c :: cs)[j]? = some y → x.st < y.st := by
            intro i j x y hij hx hy
            obtain ⟨j, rfl⟩ : ∃ j', j = j' + 1 := ⟨j - 1, by omega⟩
            have hy' : cs[j]? = some y := by simpa using hy
            cases i with
            | zero => simp at hx; subst hx; exact (incB_at h2 hy').1
            | succ i => exact incB_lt h2 (i := i) (j := j) (by omega) (by simpa using hx) hy'
          refine ⟨by omega, by simp, fun x hx => by simp at hx; subst hx; exact ⟨hc0, hcw⟩, hinc, fun x hx => ?_⟩
          rcases List.mem_cons.1 hx with e | hx
          · subst e; omega
          · obtain ⟨k, hk⟩ := List.mem_iff_getElem?.1 hx
            have := incB_at h2 hk
            omega
        · omega
theorem gchk_ok {l : List (List CC)} (h : gchk l = 0) : l.length ≤ 100 ∧ ∀ r ∈ l, RowOk r := by
  unfold gchk at h
  split at h
  · omega
  · rename_i h1
    refine ⟨by omega, ?_⟩
    clear h1
    induction l with
    | nil => intro r hr; cases hr
    | cons x l ih =>
      simp only [rowsE] at h
      split at h
      · rename_i hx; exact absurd h hx
      · rename_i hx
        have hx : rowE x = 0 := by omega
        intro r hr
        rcases List.mem_cons.1 hr with e | hr
        · subst e; exact rowE_ok hx
        · exact ih h r hr
end Go.Proofs.Ytilofhocodbknaa
