/- Contracts on annotated values: forebayref33.Check. -/
import Derived.Test.YtilofhocodbknaaGrg
namespace Go.Proofs.Ytilofhocodbknaa
set_option linter.unusedVariables false
set_option linter.unusedSimpArgs false
open Go Go.Kx Go.Proofs

/-- What is wrong with a row from its k-th cell on. -/
def rowK (r : List CC) (k : Nat) : Int := if k = 0 then rowT r else if incB (r.getD (k - 1) nc).st (r.drop k) = true then 0 else 4
theorem rowK_end {r : List CC} {k : Nat} (h : ¬ k < r.length) (hr : 0 < r.length) : rowK r k = 0 := by
  unfold rowK
  rw [if_neg (by omega), drop_all h]
  rfl
theorem getD_of {r : List CC} {k : Nat} {c : CC} (h : r[k]? = some c) : r.getD k nc = c := by rw [List.getD_eq_getElem?_getD, h]; rfl
theorem rowK_one {r : List CC} {c : CC} (h : r[0]? = some c) (h1 : c.st = 0) (h2 : c.wt = false) : rowK r 0 = rowK r 1 := by
  cases r with
  | nil => simp at h
  | cons d r =>
    simp at h; subst h
    unfold rowK
    rw [if_pos rfl, if_neg (by omega), rowT, if_neg (by simp [h1, h2])]
    rfl
theorem rowK_succ {r : List CC} {k : Nat} {p c : CC} (h0 : 0 < k) (hp : r[k - 1]? = some p) (hc : r[k]? = some c) : rowK r k = if c.st ≤ p.st ∨ 1048575 < c.st then 4 else rowK r (k + 1) := by
  unfold rowK
  rw [if_neg (c := k = 0) (by omega), if_neg (c := k + 1 = 0) (by omega), Nat.add_sub_cancel, getD_of hc, getD_of hp, drop_at hc, incB]
  by_cases h1 : p.st < c.st
  · by_cases h2 : c.st ≤ 1048575
    · rw [if_neg (c := c.st ≤ p.st ∨ 1048575 < c.st) (by omega)]
      simp [h1, h2]
    · rw [if_pos (c := c.st ≤ p.st ∨ 1048575 < c.st) (by omega)]
      simp [h2]
  · rw [if_pos (c := c.st ≤ p.st ∨ 1048575 < c.st) (by omega)]
    simp [h1]
theorem rowK_bad {r : List CC} {c : CC} (h : r[0]? = some c) (h1 : c.st ≠ 0 ∨ c.wt = true) : rowK r 0 = 4 := by
  cases r with
  | nil => simp at h
  | cons d r =>
    simp at h; subst h
    unfold rowK
    rw [if_pos rfl, rowT, if_pos h1]
set_option maxHeartbeats 1000000 in
theorem ref33_Check_a (l : List (List CC)) (hl : l.length ≤ 9223372036854775807) (hl2 : ∀ r ∈ l, r.length ≤ 9223372036854775807) : FnP Try.prog 32 [aRows l] fun a => a = aInt (gchk l) := by
  refine fnP_in K_forebayref33_Check mixed rfl (by simp [AV.pureL, aRows_pure]) ?_
  simp only [S_forebayref33_Check, aRows, aSl]
  by_cases h1 : 100 < l.length
  · simp (maxSteps := 1000000) (implicitDefEqProofs := false) (disch := omega) only [push_cast, ↓reduceIte, Nat.reduceEqDiff, reduceCtorEq, decide_true, decide_false, Bool.not_true, Bool.not_false, Option.isNone_some, Option.isNone_none, List.drop_zero, List.drop_succ_cons, List.getElem?_cons_zero, List.getElem?_cons_succ, List.length_cons, List.length_nil, List.take_succ_cons, List.take_zero, Nat.mul_one, Nat.zero_add, Nat.add_zero, Nat.one_mul, Nat.zero_mul, List.getElem?_map, List.getElem?_drop, List.getElem?_take, List.length_map, Option.map_some, List.set_cons_zero, List.set_cons_succ, and_true, true_and, List.flatMap_cons, List.flatMap_nil, Bool.not_not, h1]
    exact ⟨[], rfl, by unfold gchk; rw [if_pos h1]; rfl⟩
  have hE : gchk l = rowsE l := by unfold gchk; rw [if_neg h1]
  rw [hE]
  simp (maxSteps := 1000000) (implicitDefEqProofs := false) (disch := omega) only [push_cast, ↓reduceIte, Nat.reduceEqDiff, reduceCtorEq, decide_true, decide_false, Bool.not_true, Bool.not_false, Option.isNone_some, Option.isNone_none, List.drop_zero, List.drop_succ_cons, List.getElem?_cons_zero, List.getElem?_cons_succ, List.length_cons, List.length_nil, List.take_succ_cons, List.take_zero, Nat.mul_one, Nat.zero_add, Nat.add_zero, Nat.one_mul, Nat.zero_mul, List.getElem?_map, List.getElem?_drop, List.getElem?_take, List.length_map, Option.map_some, List.set_cons_zero, List.set_cons_succ, and_true, true_and, List.flatMap_cons, List.flatMap_nil, Bool.not_not, h1]
  refine wpa_bl (α := Nat) (I := fun k ε σ => (ε 0 = .sl l.length (l.map aRow) .none ∧ ε 3 = .v (.int .i64 k)) ∧ k ≤ l.length ∧ rowsE l = rowsE (l.drop k))
    (μ := fun k => l.length - k) (Q := fun _ _ => rowsE l = 0) (x := 0) ?_ ?_ ?_
  · simp (maxSteps := 1000000) (implicitDefEqProofs := false) (disch := omega) only [push_cast, ↓reduceIte, Nat.reduceEqDiff, reduceCtorEq, decide_true, decide_false, Bool.not_true, Bool.not_false, Option.isNone_some, Option.isNone_none, List.drop_zero, List.drop_succ_cons, List.getElem?_cons_zero, List.getElem?_cons_succ, List.length_cons, List.length_nil, List.take_succ_cons, List.take_zero, Nat.mul_one, Nat.zero_add, Nat.add_zero, Nat.one_mul, Nat.zero_mul, List.getElem?_map, List.getElem?_drop, List.getElem?_take, List.length_map, Option.map_some, List.set_cons_zero, List.set_cons_succ, and_true, true_and, List.flatMap_cons, List.flatMap_nil, Bool.not_not]
    first | omega | exact ⟨by omega, rfl⟩ | exact ⟨rfl, by omega, rfl⟩
  · rintro k ε σ N E ⟨hρ, hk, hI⟩ hN hE'
    simp only [S_forebayref33_Check_L1]
    by_cases hlt : k < l.length
    · obtain ⟨r, hr⟩ := at_lt hlt
      have hrl := hl2 r (List.mem_of_getElem? hr)
      rw [drop_at hr, rowsE] at hI
      by_cases h2 : 100 < r.length
      · have hre : rowE r = 9 := by unfold rowE; rw [if_pos h2]
        rw [if_pos (by omega), hre] at hI
        simp (maxSteps := 1000000) (implicitDefEqProofs := false) (disch := omega) only [push_cast, ↓reduceIte, Nat.reduceEqDiff, reduceCtorEq, decide_true, decide_false, Bool.not_true, Bool.not_false, Option.isNone_some, Option.isNone_none, List.drop_zero, List.drop_succ_cons, List.getElem?_cons_zero, List.getElem?_cons_succ, List.length_cons, List.length_nil, List.take_succ_cons, List.take_zero, Nat.mul_one, Nat.zero_add, Nat.add_zero, Nat.one_mul, Nat.zero_mul, List.getElem?_map, List.getElem?_drop, List.getElem?_take, List.length_map, Option.map_some, List.set_cons_zero, List.set_cons_succ, and_true, true_and, List.flatMap_cons, List.flatMap_nil, Bool.not_not, hρ, hr, aRow, aSlN, h2]
        exact ⟨[], rfl, (congrArg aInt hI).symm⟩
      have hre : rowE r = rowT r := by unfold rowE; rw [if_neg h2]
      by_cases h3 : r.length = 0
      · have hrt : rowT r = 7 := by rw [List.length_eq_zero_iff.1 h3]; rfl
        rw [if_pos (by omega), hre, hrt] at hI
        simp (maxSteps := 1000000) (implicitDefEqProofs := false) (disch := omega) only [push_cast, ↓reduceIte, Nat.reduceEqDiff, reduceCtorEq, decide_true, decide_false, Bool.not_true, Bool.not_false, Option.isNone_some, Option.isNone_none, List.drop_zero, List.drop_succ_cons, List.getElem?_cons_zero, List.getElem?_cons_succ, List.length_cons, List.length_nil, List.take_succ_cons, List.take_zero, Nat.mul_one, Nat.zero_add, Nat.add_zero, Nat.one_mul, Nat.zero_mul, List.getElem?_map, List.getElem?_drop, List.getElem?_take, List.length_map, Option.map_some, List.set_cons_zero, List.set_cons_succ, and_true, true_and, List.flatMap_cons, List.flatMap_nil, Bool.not_not, hρ, hr, aRow, aSlN, h2, h3]
        exact ⟨[], rfl, (congrArg aInt hI).symm⟩
      have h3' : ¬ ((r.length : Int) = 0) := by omega
      simp (maxSteps := 1000000) (implicitDefEqProofs := false) (disch := omega) only [push_cast, ↓reduceIte, Nat.reduceEqDiff, reduceCtorEq, decide_true, decide_false, Bool.not_true, Bool.not_false, Option.isNone_some, Option.isNone_none, List.drop_zero, List.drop_succ_cons, List.getElem?_cons_zero, List.getElem?_cons_succ, List.length_cons, List.length_nil, List.take_succ_cons, List.take_zero, Nat.mul_one, Nat.zero_add, Nat.add_zero, Nat.one_mul, Nat.zero_mul, List.getElem?_map, List.getElem?_drop, List.getElem?_take, List.length_map, Option.map_some, List.set_cons_zero, List.set_cons_succ, and_true, true_and, List.flatMap_cons, List.flatMap_nil, Bool.not_not, hρ, hr, aRow, aSlN, h2, h3']
      refine wpa_bl (α := Nat) (I := fun j ε σ => (ε 0 = .sl l.length (l.map aRow) .none ∧ ε 3 = .v (.int .i64 k) ∧ ε 4 = .sl r.length (r.flatMap aCC) .none ∧ ε 5 = .v (.int .i64 j)) ∧ j ≤ r.length ∧ rowT r = rowK r j)
        (μ := fun j => r.length - j) (Q := fun ε σ => (ε 0 = .sl l.length (l.map aRow) .none ∧ ε 3 = .v (.int .i64 k)) ∧ rowT r = 0) (x := 0) ?_ ?_ ?_
      · simp (maxSteps := 1000000) (implicitDefEqProofs := false) (disch := omega) only [push_cast, ↓reduceIte, Nat.reduceEqDiff, reduceCtorEq, decide_true, decide_false, Bool.not_true, Bool.not_false, Option.isNone_some, Option.isNone_none, List.drop_zero, List.drop_succ_cons, List.getElem?_cons_zero, List.getElem?_cons_succ, List.length_cons, List.length_nil, List.take_succ_cons, List.take_zero, Nat.mul_one, Nat.zero_add, Nat.add_zero, Nat.one_mul, Nat.zero_mul, List.getElem?_map, List.getElem?_drop, List.getElem?_take, List.length_map, Option.map_some, List.set_cons_zero, List.set_cons_succ, and_true, true_and, List.flatMap_cons, List.flatMap_nil, Bool.not_not, hρ]
        exact ⟨by omega, rfl⟩
      · clear hρ hN hE' ε
        rintro j ε σ N E ⟨hρ, hj, hJ⟩ hN hE'
        simp only [S_forebayref33_Check_L2]
        by_cases hjl : j < r.length
        · obtain ⟨c, hc⟩ := at_lt hjl
          have hdc := flat_drop aCC_len hc
          have g0 : ∀ (c : CC) (m : List AV), (aCC c ++ m)[0]? = some (.v (.int .i64 c.st)) := fun c m => rfl
          have g1 : ∀ (c : CC) (m : List AV), (aCC c ++ m)[1]? = some (.v (.bool c.wt)) := fun c m => rfl
          have hdone : rowT r ≠ 0 → rowT r = 4 → rowsE l = 4 := by
            intro h h'; rw [hI, if_pos (by rw [hre]; exact h), hre, h']
          by_cases hj0 : j = 0
          · subst hj0
            have hdz : (r.flatMap aCC).drop (Int.toNat 0 * 2) = aCC c ++ (r.drop 1).flatMap aCC := hdc
            by_cases h4 : c.st = 0
            · cases h5 : c.wt with
              | false =>
                rw [rowK_one hc h4 h5] at hJ
                have h6 : ¬ (1048575 < c.st) := by omega
                simp (maxSteps := 1000000) (implicitDefEqProofs := false) (disch := omega) only [push_cast, ↓reduceIte, Nat.reduceEqDiff, reduceCtorEq, decide_true, decide_false, Bool.not_true, Bool.not_false, Option.isNone_some, Option.isNone_none, List.drop_zero, List.drop_succ_cons, List.getElem?_cons_zero, List.getElem?_cons_succ, List.length_cons, List.length_nil, List.take_succ_cons, List.take_zero, Nat.mul_one, Nat.zero_add, Nat.add_zero, Nat.one_mul, Nat.zero_mul, List.getElem?_map, List.getElem?_drop, List.getElem?_take, List.length_map, Option.map_some, List.set_cons_zero, List.set_cons_succ, and_true, true_and, List.flatMap_cons, List.flatMap_nil, Bool.not_not, hρ, hdz, g0, g1, h4, h5]
                refine hN 1 _ _ ?_ (by omega)
                simp (maxSteps := 1000000) (implicitDefEqProofs := false) (disch := omega) only [push_cast, ↓reduceIte, Nat.reduceEqDiff, reduceCtorEq, decide_true, decide_false, Bool.not_true, Bool.not_false, Option.isNone_some, Option.isNone_none, List.drop_zero, List.drop_succ_cons, List.getElem?_cons_zero, List.getElem?_cons_succ, List.length_cons, List.length_nil, List.take_succ_cons, List.take_zero, Nat.mul_one, Nat.zero_add, Nat.add_zero, Nat.one_mul, Nat.zero_mul, List.getElem?_map, List.getElem?_drop, List.getElem?_take, List.length_map, Option.map_some, List.set_cons_zero, List.set_cons_succ, and_true, true_and, List.flatMap_cons, List.flatMap_nil, Bool.not_not, hρ]
                exact ⟨by omega, hJ⟩
              | true =>
                have e : rowT r = 4 := by rw [hJ, rowK_bad hc (.inr h5)]
                simp (maxSteps := 1000000) (implicitDefEqProofs := false) (disch := omega) only [push_cast, ↓reduceIte, Nat.reduceEqDiff, reduceCtorEq, decide_true, decide_false, Bool.not_true, Bool.not_false, Option.isNone_some, Option.isNone_none, List.drop_zero, List.drop_succ_cons, List.getElem?_cons_zero, List.getElem?_cons_succ, List.length_cons, List.length_nil, List.take_succ_cons, List.take_zero, Nat.mul_one, Nat.zero_add, Nat.add_zero, Nat.one_mul, Nat.zero_mul, List.getElem?_map, List.getElem?_drop, List.getElem?_take, List.length_map, Option.map_some, List.set_cons_zero, List.set_cons_succ, and_true, true_and, List.flatMap_cons, List.flatMap_nil, Bool.not_not, hρ, hdz, g0, g1, h4, h5]
                exact ⟨[], rfl, (congrArg aInt (hdone (by omega) e)).symm⟩
            · have e : rowT r = 4 := by rw [hJ, rowK_bad hc (.inl h4)]
              simp (maxSteps := 1000000) (implicitDefEqProofs := false) (disch := omega) only [push_cast, ↓reduceIte, Nat.reduceEqDiff, reduceCtorEq, decide_true, decide_false, Bool.not_true, Bool.not_false, Option.isNone_some, Option.isNone_none, List.drop_zero, List.drop_succ_cons, List.getElem?_cons_zero, List.getElem?_cons_succ, List.length_cons, List.length_nil, List.take_succ_cons, List.take_zero, Nat.mul_one, Nat.zero_add, Nat.add_zero, Nat.one_mul, Nat.zero_mul, List.getElem?_map, List.getElem?_drop, List.getElem?_take, List.length_map, Option.map_some, List.set_cons_zero, List.set_cons_succ, and_true, true_and, List.flatMap_cons, List.flatMap_nil, Bool.not_not, hρ, hdz, g0, g1, h4]
              exact ⟨[], rfl, (congrArg aInt (hdone (by omega) e)).symm⟩
          · obtain ⟨p, hp⟩ := at_lt (l := r) (k := j - 1) (by omega)
            have hdp := flat_drop aCC_len hp
            have hdq : (r.flatMap aCC).drop (((j : Int) - 1).toNat * 2) = aCC p ++ (r.drop (j - 1 + 1)).flatMap aCC := by rw [show ((j : Int) - 1).toNat = j - 1 by omega]; exact hdp
            have hj1 : (0 : Int) < j := by omega
            have hj2 : ¬ ((j : Int) = 0) := by omega
            rw [rowK_succ (by omega) hp hc] at hJ
            by_cases h6 : c.st ≤ p.st
            · rw [if_pos (.inl h6)] at hJ
              simp (maxSteps := 1000000) (implicitDefEqProofs := false) (disch := omega) only [push_cast, ↓reduceIte, Nat.reduceEqDiff, reduceCtorEq, decide_true, decide_false, Bool.not_true, Bool.not_false, Option.isNone_some, Option.isNone_none, List.drop_zero, List.drop_succ_cons, List.getElem?_cons_zero, List.getElem?_cons_succ, List.length_cons, List.length_nil, List.take_succ_cons, List.take_zero, Nat.mul_one, Nat.zero_add, Nat.add_zero, Nat.one_mul, Nat.zero_mul, List.getElem?_map, List.getElem?_drop, List.getElem?_take, List.length_map, Option.map_some, List.set_cons_zero, List.set_cons_succ, and_true, true_and, List.flatMap_cons, List.flatMap_nil, Bool.not_not, hρ, hdc, hdq, g0, g1, hj1, hj2, h6]
              exact ⟨[], rfl, (congrArg aInt (hdone (by omega) hJ)).symm⟩
            · by_cases h7 : 1048575 < c.st
              · rw [if_pos (.inr h7)] at hJ
                simp (maxSteps := 1000000) (implicitDefEqProofs := false) (disch := omega) only [push_cast, ↓reduceIte, Nat.reduceEqDiff, reduceCtorEq, decide_true, decide_false, Bool.not_true, Bool.not_false, Option.isNone_some, Option.isNone_none, List.drop_zero, List.drop_succ_cons, List.getElem?_cons_zero, List.getElem?_cons_succ, List.length_cons, List.length_nil, List.take_succ_cons, List.take_zero, Nat.mul_one, Nat.zero_add, Nat.add_zero, Nat.one_mul, Nat.zero_mul, List.getElem?_map, List.getElem?_drop, List.getElem?_take, List.length_map, Option.map_some, List.set_cons_zero, List.set_cons_succ, and_true, true_and, List.flatMap_cons, List.flatMap_nil, Bool.not_not, hρ, hdc, hdq, g0, g1, hj1, hj2, h6, h7]
                exact ⟨[], rfl, (congrArg aInt (hdone (by omega) hJ)).symm⟩
              · rw [if_neg (by omega)] at hJ
                simp (maxSteps := 1000000) (implicitDefEqProofs := false) (disch := omega) only [push_cast, ↓reduceIte, Nat.reduceEqDiff, reduceCtorEq, decide_true, decide_false, Bool.not_true, Bool.not_false, Option.isNone_some, Option.isNone_none, List.drop_zero, List.drop_succ_cons, List.getElem?_cons_zero, List.getElem?_cons_succ, List.length_cons, List.length_nil, List.take_succ_cons, List.take_zero, Nat.mul_one, Nat.zero_add, Nat.add_zero, Nat.one_mul, Nat.zero_mul, List.getElem?_map, List.getElem?_drop, List.getElem?_take, List.length_map, Option.map_some, List.set_cons_zero, List.set_cons_succ, and_true, true_and, List.flatMap_cons, List.flatMap_nil, Bool.not_not, hρ, hdc, hdq, g0, g1, hj1, hj2, h6, h7]
                refine hN (j + 1) _ _ ?_ (by omega)
                simp (maxSteps := 1000000) (implicitDefEqProofs := false) (disch := omega) only [push_cast, ↓reduceIte, Nat.reduceEqDiff, reduceCtorEq, decide_true, decide_false, Bool.not_true, Bool.not_false, Option.isNone_some, Option.isNone_none, List.drop_zero, List.drop_succ_cons, List.getElem?_cons_zero, List.getElem?_cons_succ, List.length_cons, List.length_nil, List.take_succ_cons, List.take_zero, Nat.mul_one, Nat.zero_add, Nat.add_zero, Nat.one_mul, Nat.zero_mul, List.getElem?_map, List.getElem?_drop, List.getElem?_take, List.length_map, Option.map_some, List.set_cons_zero, List.set_cons_succ, and_true, true_and, List.flatMap_cons, List.flatMap_nil, Bool.not_not, hρ]
                exact ⟨by omega, hJ⟩
        · simp (maxSteps := 1000000) (implicitDefEqProofs := false) (disch := omega) only [push_cast, ↓reduceIte, Nat.reduceEqDiff, reduceCtorEq, decide_true, decide_false, Bool.not_true, Bool.not_false, Option.isNone_some, Option.isNone_none, List.drop_zero, List.drop_succ_cons, List.getElem?_cons_zero, List.getElem?_cons_succ, List.length_cons, List.length_nil, List.take_succ_cons, List.take_zero, Nat.mul_one, Nat.zero_add, Nat.add_zero, Nat.one_mul, Nat.zero_mul, List.getElem?_map, List.getElem?_drop, List.getElem?_take, List.length_map, Option.map_some, List.set_cons_zero, List.set_cons_succ, and_true, true_and, List.flatMap_cons, List.flatMap_nil, Bool.not_not, hρ]
          refine hE' _ _ ?_
          simp (maxSteps := 1000000) (implicitDefEqProofs := false) (disch := omega) only [push_cast, ↓reduceIte, Nat.reduceEqDiff, reduceCtorEq, decide_true, decide_false, Bool.not_true, Bool.not_false, Option.isNone_some, Option.isNone_none, List.drop_zero, List.drop_succ_cons, List.getElem?_cons_zero, List.getElem?_cons_succ, List.length_cons, List.length_nil, List.take_succ_cons, List.take_zero, Nat.mul_one, Nat.zero_add, Nat.add_zero, Nat.one_mul, Nat.zero_mul, List.getElem?_map, List.getElem?_drop, List.getElem?_take, List.length_map, Option.map_some, List.set_cons_zero, List.set_cons_succ, and_true, true_and, List.flatMap_cons, List.flatMap_nil, Bool.not_not, hρ]
          rw [hJ, rowK_end hjl (by omega)]
      · clear hρ ε
        rintro ε σ ⟨hρ, h⟩
        rw [if_neg (by rw [hre, h]; simp)] at hI
        simp (maxSteps := 1000000) (implicitDefEqProofs := false) (disch := omega) only [push_cast, ↓reduceIte, Nat.reduceEqDiff, reduceCtorEq, decide_true, decide_false, Bool.not_true, Bool.not_false, Option.isNone_some, Option.isNone_none, List.drop_zero, List.drop_succ_cons, List.getElem?_cons_zero, List.getElem?_cons_succ, List.length_cons, List.length_nil, List.take_succ_cons, List.take_zero, Nat.mul_one, Nat.zero_add, Nat.add_zero, Nat.one_mul, Nat.zero_mul, List.getElem?_map, List.getElem?_drop, List.getElem?_take, List.length_map, Option.map_some, List.set_cons_zero, List.set_cons_succ, and_true, true_and, List.flatMap_cons, List.flatMap_nil, Bool.not_not, hρ]
        refine hN (k + 1) _ _ ?_ (by omega)
        simp (maxSteps := 1000000) (implicitDefEqProofs := false) (disch := omega) only [push_cast, ↓reduceIte, Nat.reduceEqDiff, reduceCtorEq, decide_true, decide_false, Bool.not_true, Bool.not_false, Option.isNone_some, Option.isNone_none, List.drop_zero, List.drop_succ_cons, List.getElem?_cons_zero, List.getElem?_cons_succ, List.length_cons, List.length_nil, List.take_succ_cons, List.take_zero, Nat.mul_one, Nat.zero_add, Nat.add_zero, Nat.one_mul, Nat.zero_mul, List.getElem?_map, List.getElem?_drop, List.getElem?_take, List.length_map, Option.map_some, List.set_cons_zero, List.set_cons_succ, and_true, true_and, List.flatMap_cons, List.flatMap_nil, Bool.not_not, hρ]
        exact ⟨by omega, hI⟩
    · simp (maxSteps := 1000000) (implicitDefEqProofs := false) (disch := omega) only [push_cast, ↓reduceIte, Nat.reduceEqDiff, reduceCtorEq, decide_true, decide_false, Bool.not_true, Bool.not_false, Option.isNone_some, Option.isNone_none, List.drop_zero, List.drop_succ_cons, List.getElem?_cons_zero, List.getElem?_cons_succ, List.length_cons, List.length_nil, List.take_succ_cons, List.take_zero, Nat.mul_one, Nat.zero_add, Nat.add_zero, Nat.one_mul, Nat.zero_mul, List.getElem?_map, List.getElem?_drop, List.getElem?_take, List.length_map, Option.map_some, List.set_cons_zero, List.set_cons_succ, and_true, true_and, List.flatMap_cons, List.flatMap_nil, Bool.not_not, hρ]
      refine hE' _ _ ?_
      rw [hI, drop_all hlt]; rfl
  · rintro ε σ h
    simp (maxSteps := 1000000) (implicitDefEqProofs := false) (disch := omega) only [push_cast, ↓reduceIte, Nat.reduceEqDiff, reduceCtorEq, decide_true, decide_false, Bool.not_true, Bool.not_false, Option.isNone_some, Option.isNone_none, List.drop_zero, List.drop_succ_cons, List.getElem?_cons_zero, List.getElem?_cons_succ, List.length_cons, List.length_nil, List.take_succ_cons, List.take_zero, Nat.mul_one, Nat.zero_add, Nat.add_zero, Nat.one_mul, Nat.zero_mul, List.getElem?_map, List.getElem?_drop, List.getElem?_take, List.length_map, Option.map_some, List.set_cons_zero, List.set_cons_succ, and_true, true_and, List.flatMap_cons, List.flatMap_nil, Bool.not_not]
    exact ⟨[], rfl, (congrArg aInt h).symm⟩
end Go.Proofs.Ytilofhocodbknaa
