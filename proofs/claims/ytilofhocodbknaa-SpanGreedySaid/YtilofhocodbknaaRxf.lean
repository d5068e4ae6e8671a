/- Contracts on annotated values: reach.Order, forebayref31.Order. -/
import Derived.Test.YtilofhocodbknaaRxe
namespace Go.Proofs.Ytilofhocodbknaa
set_option linter.unusedVariables false
set_option linter.unusedSimpArgs false
open Go Go.Kx Go.Proofs

def ordAt (xss : List (List Int)) (D : List Int) (x : Int) : Bool := decide (0 ≤ x) && decide (x < (xss.length : Int)) && !D.contains x && (xss.getD x.toNat []).all fun p => D.contains p
def ordE (xss : List (List Int)) : List Int → List Int → Bool
  | _, [] => true
  | D, x :: xs => ordAt xss D x && ordE xss (D ++ [x]) xs
/-- Which things are done. -/
def doneB (n : Nat) (D : List Int) : List Bool := (List.range n).map fun i : Nat => D.contains (i : Int)
theorem doneB_len (n : Nat) (D : List Int) : (doneB n D).length = n := by simp [doneB]
theorem doneB_get {n : Nat} {D : List Int} {i : Nat} (h : i < n) : (doneB n D)[i]? = some (D.contains (i : Int)) := by simp [doneB, h]
theorem doneB_set {n : Nat} {D : List Int} {i : Nat} : (doneB n D).set i true = doneB n (D ++ [(i : Int)]) := by
  apply List.ext_getElem?
  intro j
  by_cases hj : j < n
  · rw [doneB_get hj, List.getElem?_set]
    by_cases hij : i = j
    · subst hij; simp [doneB_len, hj]
    · rw [if_neg hij, doneB_get hj]
      have : ¬ j = i := fun e => hij e.symm
      simp [this]
      intro h; omega
  · rw [List.getElem?_eq_none (by simp [doneB_len]; omega), List.getElem?_eq_none (by simp [doneB_len]; omega)]
theorem setB {s : List Bool} {i : Nat} {b : Bool} : (s.map aBool).set i (.v (.bool b)) = (s.set i b).map aBool := by rw [List.map_set]; rfl
theorem doneB_nil (n : Nat) : (doneB n []).map aBool = List.replicate n (.v (.bool false)) := by
  apply List.ext_getElem?
  intro j
  by_cases hj : j < n
  · simp [doneB, hj, aBool]
  · rw [List.getElem?_eq_none (by simp [doneB]; omega), List.getElem?_eq_none (by simp; omega)]
def inDom (n : Nat) (D : List Int) : Prop := ∀ x ∈ D, 0 ≤ x ∧ x < (n : Int)

set_option maxHeartbeats 1000000 in
theorem reach_Order_a (xss : List (List Int)) (l : List Int) (hs : xss.length ≤ 1000000) (hs2 : ∀ l ∈ xss, l.length ≤ 1000000) (hl : l.length ≤ 1000000) :
    FnP Try.prog 55 [aInts2 xss, aInts l] fun a => a = aBool (ordE xss [] l) := by
  refine fnP_in K_reach_Order mixed rfl (by simp [AV.pureL, aInts2_pure, aInts_pure]) ?_
  simp only [S_reach_Order, aInts2, aSl]
  simp (maxSteps := 1000000) (implicitDefEqProofs := false) (disch := omega) only [push_cast, ↓reduceIte, Nat.reduceEqDiff, reduceCtorEq, decide_true, decide_false, Bool.not_true, Bool.not_false, Option.isNone_some, Option.isNone_none, List.drop_zero, List.drop_succ_cons, List.getElem?_cons_zero, List.getElem?_cons_succ, List.length_cons, List.length_nil, List.take_succ_cons, List.take_zero, Nat.mul_one, Nat.zero_add, Nat.add_zero, Nat.one_mul, Nat.zero_mul, List.getElem?_map, List.getElem?_drop, List.getElem?_take, List.length_map, Option.map_some, List.set_cons_zero, List.set_cons_succ, and_true, true_and, List.flatMap_cons, List.flatMap_nil, Bool.not_not]
  refine wpa_mks rfl (by omega) (by omega) ?_
  simp (maxSteps := 1000000) (implicitDefEqProofs := false) (disch := omega) only [push_cast, ↓reduceIte, Nat.reduceEqDiff, reduceCtorEq, decide_true, decide_false, Bool.not_true, Bool.not_false, Option.isNone_some, Option.isNone_none, List.drop_zero, List.drop_succ_cons, List.getElem?_cons_zero, List.getElem?_cons_succ, List.length_cons, List.length_nil, List.take_succ_cons, List.take_zero, Nat.mul_one, Nat.zero_add, Nat.add_zero, Nat.one_mul, Nat.zero_mul, List.getElem?_map, List.getElem?_drop, List.getElem?_take, List.length_map, Option.map_some, List.set_cons_zero, List.set_cons_succ, and_true, true_and, List.flatMap_cons, List.flatMap_nil, Bool.not_not, repA_one, aInts, aSl]
  refine wpa_bl (α := Nat) (I := fun k ε σ => (ε 0 = .sl xss.length (xss.map aInts) .none ∧ ε 13 = .sl l.length (l.map aInt) .none ∧ ε 14 = .v (.int .i64 l.length) ∧ ε 15 = .v (.int .i64 k) ∧ ε 5 = .ms 0 0 0 xss.length 1) ∧ k ≤ l.length ∧
      inDom xss.length (l.take k) ∧ ordE xss [] l = ordE xss (l.take k) (l.drop k) ∧ σ = [.obj 0 ((doneB xss.length (l.take k)).map aBool)])
    (μ := fun k => l.length - k) (Q := fun _ _ => ordE xss [] l = true) (x := 0) ?_ ?_ ?_
  · simp (maxSteps := 1000000) (implicitDefEqProofs := false) (disch := omega) only [push_cast, ↓reduceIte, Nat.reduceEqDiff, reduceCtorEq, decide_true, decide_false, Bool.not_true, Bool.not_false, Option.isNone_some, Option.isNone_none, List.drop_zero, List.drop_succ_cons, List.getElem?_cons_zero, List.getElem?_cons_succ, List.length_cons, List.length_nil, List.take_succ_cons, List.take_zero, Nat.mul_one, Nat.zero_add, Nat.add_zero, Nat.one_mul, Nat.zero_mul, List.getElem?_map, List.getElem?_drop, List.getElem?_take, List.length_map, Option.map_some, List.set_cons_zero, List.set_cons_succ, and_true, true_and, List.flatMap_cons, List.flatMap_nil, Bool.not_not]
    refine ⟨by omega, by intro x hx; simp at hx, ?_⟩
    rw [doneB_nil]
    rfl
  · rintro k ε σ N E ⟨hρ, hk, hdom, hord, rfl⟩ hN hE
    simp only [S_reach_Order_L1]
    by_cases hlt : k < l.length
    · obtain ⟨x, hx⟩ := at_lt hlt
      rw [drop_at hx] at hord
      simp only [ordE] at hord
      have hbad : ordAt xss (l.take k) x = false → ordE xss [] l = false := fun h => by rw [hord, h]; rfl
      by_cases h0 : x < 0
      · simp (maxSteps := 1000000) (implicitDefEqProofs := false) (disch := omega) only [push_cast, ↓reduceIte, Nat.reduceEqDiff, reduceCtorEq, decide_true, decide_false, Bool.not_true, Bool.not_false, Option.isNone_some, Option.isNone_none, List.drop_zero, List.drop_succ_cons, List.getElem?_cons_zero, List.getElem?_cons_succ, List.length_cons, List.length_nil, List.take_succ_cons, List.take_zero, Nat.mul_one, Nat.zero_add, Nat.add_zero, Nat.one_mul, Nat.zero_mul, List.getElem?_map, List.getElem?_drop, List.getElem?_take, List.length_map, Option.map_some, List.set_cons_zero, List.set_cons_succ, and_true, true_and, List.flatMap_cons, List.flatMap_nil, Bool.not_not, hρ, hx, aInt]
        exact fin_v (by rw [hbad (by simp [ordAt] <;> omega)] <;> rfl)
      · obtain ⟨n, rfl⟩ : ∃ n : Nat, x = n := ⟨x.toNat, by omega⟩
        by_cases h1 : n < xss.length
        · have hdn := doneB_get (D := l.take k) h1
          cases hc : (l.take k).contains (n : Int) with
          | true =>
            rw [hc] at hdn
            simp (maxSteps := 1000000) (implicitDefEqProofs := false) (disch := omega) only [push_cast, ↓reduceIte, Nat.reduceEqDiff, reduceCtorEq, decide_true, decide_false, Bool.not_true, Bool.not_false, Option.isNone_some, Option.isNone_none, List.drop_zero, List.drop_succ_cons, List.getElem?_cons_zero, List.getElem?_cons_succ, List.length_cons, List.length_nil, List.take_succ_cons, List.take_zero, Nat.mul_one, Nat.zero_add, Nat.add_zero, Nat.one_mul, Nat.zero_mul, List.getElem?_map, List.getElem?_drop, List.getElem?_take, List.length_map, Option.map_some, List.set_cons_zero, List.set_cons_succ, and_true, true_and, List.flatMap_cons, List.flatMap_nil, Bool.not_not, hρ, hx, aInt, hdn, aBool]
            exact fin_v (by rw [hbad (by unfold ordAt; rw [hc]; simp)] <;> rfl)
          | false =>
            rw [hc] at hdn
            obtain ⟨ps, hps⟩ := at_lt h1
            have hpl := hs2 ps (List.mem_of_getElem? hps)
            simp (maxSteps := 1000000) (implicitDefEqProofs := false) (disch := omega) only [push_cast, ↓reduceIte, Nat.reduceEqDiff, reduceCtorEq, decide_true, decide_false, Bool.not_true, Bool.not_false, Option.isNone_some, Option.isNone_none, List.drop_zero, List.drop_succ_cons, List.getElem?_cons_zero, List.getElem?_cons_succ, List.length_cons, List.length_nil, List.take_succ_cons, List.take_zero, Nat.mul_one, Nat.zero_add, Nat.add_zero, Nat.one_mul, Nat.zero_mul, List.getElem?_map, List.getElem?_drop, List.getElem?_take, List.length_map, Option.map_some, List.set_cons_zero, List.set_cons_succ, and_true, true_and, List.flatMap_cons, List.flatMap_nil, Bool.not_not, hρ, hx, aInt, hdn, aBool, hps, aInts, aSl]
            refine wpa_bl (α := Nat) (I := fun j ε σ => (ε 0 = .sl xss.length (xss.map aInts) .none ∧ ε 13 = .sl l.length (l.map aInt) .none ∧ ε 14 = .v (.int .i64 l.length) ∧ ε 15 = .v (.int .i64 k) ∧ ε 5 = .ms 0 0 0 xss.length 1 ∧
                ε 7 = .v (.int .i64 n) ∧ ε 36 = .sl ps.length (ps.map aInt) .none ∧ ε 37 = .v (.int .i64 ps.length) ∧ ε 38 = .v (.int .i64 j)) ∧ j ≤ ps.length ∧
                (ps.take j).all (fun p => (l.take k).contains p) = true ∧ σ = [.obj 0 ((doneB xss.length (l.take k)).map aBool)])
              (μ := fun j => ps.length - j) (Q := fun ε σ => (ε 0 = .sl xss.length (xss.map aInts) .none ∧ ε 13 = .sl l.length (l.map aInt) .none ∧ ε 14 = .v (.int .i64 l.length) ∧ ε 15 = .v (.int .i64 k) ∧ ε 5 = .ms 0 0 0 xss.length 1 ∧
                ε 7 = .v (.int .i64 n)) ∧ ps.all (fun p => (l.take k).contains p) = true ∧ σ = [.obj 0 ((doneB xss.length (l.take k)).map aBool)]) (x := 0) ?_ ?_ ?_
            · simp (maxSteps := 1000000) (implicitDefEqProofs := false) (disch := omega) only [push_cast, ↓reduceIte, Nat.reduceEqDiff, reduceCtorEq, decide_true, decide_false, Bool.not_true, Bool.not_false, Option.isNone_some, Option.isNone_none, List.drop_zero, List.drop_succ_cons, List.getElem?_cons_zero, List.getElem?_cons_succ, List.length_cons, List.length_nil, List.take_succ_cons, List.take_zero, Nat.mul_one, Nat.zero_add, Nat.add_zero, Nat.one_mul, Nat.zero_mul, List.getElem?_map, List.getElem?_drop, List.getElem?_take, List.length_map, Option.map_some, List.set_cons_zero, List.set_cons_succ, and_true, true_and, List.flatMap_cons, List.flatMap_nil, Bool.not_not, hρ]
              exact ⟨by omega, by simp⟩
            · rintro j ε σ N' E' ⟨hρ, hj, hall, rfl⟩ hN' hE'
              simp only [S_reach_Order_L2]
              by_cases hjl : j < ps.length
              · obtain ⟨p, hp⟩ := at_lt hjl
                have hpm : p ∈ ps := List.mem_of_getElem? hp
                have hbad2 : (l.take k).contains p = false → ordE xss [] l = false := fun h => hbad (by
                  unfold ordAt
                  have : (xss.getD (n : Int).toNat []) = ps := by simp [List.getD_eq_getElem?_getD, hps]
                  rw [this]
                  have h2 : (ps.all fun p => (l.take k).contains p) = false := by
                    rw [List.all_eq_false]; exact ⟨p, hpm, by rw [h]; simp⟩
                  rw [h2]; simp)
                have hnot : (p < 0 ∨ (xss.length : Int) ≤ p) → (l.take k).contains p = false := by
                  intro h
                  rw [← Bool.not_eq_true]
                  intro hm
                  have := hdom p (by simpa using hm)
                  omega
                by_cases hp0 : p < 0
                · simp (maxSteps := 1000000) (implicitDefEqProofs := false) (disch := omega) only [push_cast, ↓reduceIte, Nat.reduceEqDiff, reduceCtorEq, decide_true, decide_false, Bool.not_true, Bool.not_false, Option.isNone_some, Option.isNone_none, List.drop_zero, List.drop_succ_cons, List.getElem?_cons_zero, List.getElem?_cons_succ, List.length_cons, List.length_nil, List.take_succ_cons, List.take_zero, Nat.mul_one, Nat.zero_add, Nat.add_zero, Nat.one_mul, Nat.zero_mul, List.getElem?_map, List.getElem?_drop, List.getElem?_take, List.length_map, Option.map_some, List.set_cons_zero, List.set_cons_succ, and_true, true_and, List.flatMap_cons, List.flatMap_nil, Bool.not_not, hρ, hp, aInt]
                  exact fin_v (by rw [hbad2 (hnot (.inl hp0))] <;> rfl)
                · obtain ⟨q, rfl⟩ : ∃ q : Nat, p = q := ⟨p.toNat, by omega⟩
                  by_cases hp1 : q < xss.length
                  · have hdq := doneB_get (D := l.take k) hp1
                    cases hcq : (l.take k).contains (q : Int) with
                    | false =>
                      rw [hcq] at hdq
                      simp (maxSteps := 1000000) (implicitDefEqProofs := false) (disch := omega) only [push_cast, ↓reduceIte, Nat.reduceEqDiff, reduceCtorEq, decide_true, decide_false, Bool.not_true, Bool.not_false, Option.isNone_some, Option.isNone_none, List.drop_zero, List.drop_succ_cons, List.getElem?_cons_zero, List.getElem?_cons_succ, List.length_cons, List.length_nil, List.take_succ_cons, List.take_zero, Nat.mul_one, Nat.zero_add, Nat.add_zero, Nat.one_mul, Nat.zero_mul, List.getElem?_map, List.getElem?_drop, List.getElem?_take, List.length_map, Option.map_some, List.set_cons_zero, List.set_cons_succ, and_true, true_and, List.flatMap_cons, List.flatMap_nil, Bool.not_not, hρ, hp, aInt, hdq, aBool]
                      exact fin_v (by rw [hbad2 hcq] <;> rfl)
                    | true =>
                      rw [hcq] at hdq
                      simp (maxSteps := 1000000) (implicitDefEqProofs := false) (disch := omega) only [push_cast, ↓reduceIte, Nat.reduceEqDiff, reduceCtorEq, decide_true, decide_false, Bool.not_true, Bool.not_false, Option.isNone_some, Option.isNone_none, List.drop_zero, List.drop_succ_cons, List.getElem?_cons_zero, List.getElem?_cons_succ, List.length_cons, List.length_nil, List.take_succ_cons, List.take_zero, Nat.mul_one, Nat.zero_add, Nat.add_zero, Nat.one_mul, Nat.zero_mul, List.getElem?_map, List.getElem?_drop, List.getElem?_take, List.length_map, Option.map_some, List.set_cons_zero, List.set_cons_succ, and_true, true_and, List.flatMap_cons, List.flatMap_nil, Bool.not_not, hρ, hp, aInt, hdq, aBool]
                      refine hN' (j + 1) _ _ ?_ (by omega)
                      simp (maxSteps := 1000000) (implicitDefEqProofs := false) (disch := omega) only [push_cast, ↓reduceIte, Nat.reduceEqDiff, reduceCtorEq, decide_true, decide_false, Bool.not_true, Bool.not_false, Option.isNone_some, Option.isNone_none, List.drop_zero, List.drop_succ_cons, List.getElem?_cons_zero, List.getElem?_cons_succ, List.length_cons, List.length_nil, List.take_succ_cons, List.take_zero, Nat.mul_one, Nat.zero_add, Nat.add_zero, Nat.one_mul, Nat.zero_mul, List.getElem?_map, List.getElem?_drop, List.getElem?_take, List.length_map, Option.map_some, List.set_cons_zero, List.set_cons_succ, and_true, true_and, List.flatMap_cons, List.flatMap_nil, Bool.not_not, hρ]
                      refine ⟨by omega, ?_⟩
                      rw [take_succ_at hp, List.all_append, hall]
                      simp only [List.all_cons, List.all_nil, Bool.and_true, Bool.true_and]
                      exact hcq
                  · simp (maxSteps := 1000000) (implicitDefEqProofs := false) (disch := omega) only [push_cast, ↓reduceIte, Nat.reduceEqDiff, reduceCtorEq, decide_true, decide_false, Bool.not_true, Bool.not_false, Option.isNone_some, Option.isNone_none, List.drop_zero, List.drop_succ_cons, List.getElem?_cons_zero, List.getElem?_cons_succ, List.length_cons, List.length_nil, List.take_succ_cons, List.take_zero, Nat.mul_one, Nat.zero_add, Nat.add_zero, Nat.one_mul, Nat.zero_mul, List.getElem?_map, List.getElem?_drop, List.getElem?_take, List.length_map, Option.map_some, List.set_cons_zero, List.set_cons_succ, and_true, true_and, List.flatMap_cons, List.flatMap_nil, Bool.not_not, hρ, hp, aInt]
                    exact fin_v (by rw [hbad2 (hnot (.inr (by omega)))] <;> rfl)
              · simp (maxSteps := 1000000) (implicitDefEqProofs := false) (disch := omega) only [push_cast, ↓reduceIte, Nat.reduceEqDiff, reduceCtorEq, decide_true, decide_false, Bool.not_true, Bool.not_false, Option.isNone_some, Option.isNone_none, List.drop_zero, List.drop_succ_cons, List.getElem?_cons_zero, List.getElem?_cons_succ, List.length_cons, List.length_nil, List.take_succ_cons, List.take_zero, Nat.mul_one, Nat.zero_add, Nat.add_zero, Nat.one_mul, Nat.zero_mul, List.getElem?_map, List.getElem?_drop, List.getElem?_take, List.length_map, Option.map_some, List.set_cons_zero, List.set_cons_succ, and_true, true_and, List.flatMap_cons, List.flatMap_nil, Bool.not_not, hρ]
                refine hE' _ _ ?_
                simp (maxSteps := 1000000) (implicitDefEqProofs := false) (disch := omega) only [push_cast, ↓reduceIte, Nat.reduceEqDiff, reduceCtorEq, decide_true, decide_false, Bool.not_true, Bool.not_false, Option.isNone_some, Option.isNone_none, List.drop_zero, List.drop_succ_cons, List.getElem?_cons_zero, List.getElem?_cons_succ, List.length_cons, List.length_nil, List.take_succ_cons, List.take_zero, Nat.mul_one, Nat.zero_add, Nat.add_zero, Nat.one_mul, Nat.zero_mul, List.getElem?_map, List.getElem?_drop, List.getElem?_take, List.length_map, Option.map_some, List.set_cons_zero, List.set_cons_succ, and_true, true_and, List.flatMap_cons, List.flatMap_nil, Bool.not_not, hρ]
                rwa [List.take_of_length_le (by omega)] at hall
            · rintro ε σ ⟨hρ, hall, rfl⟩
              simp (maxSteps := 1000000) (implicitDefEqProofs := false) (disch := omega) only [push_cast, ↓reduceIte, Nat.reduceEqDiff, reduceCtorEq, decide_true, decide_false, Bool.not_true, Bool.not_false, Option.isNone_some, Option.isNone_none, List.drop_zero, List.drop_succ_cons, List.getElem?_cons_zero, List.getElem?_cons_succ, List.length_cons, List.length_nil, List.take_succ_cons, List.take_zero, Nat.mul_one, Nat.zero_add, Nat.add_zero, Nat.one_mul, Nat.zero_mul, List.getElem?_map, List.getElem?_drop, List.getElem?_take, List.length_map, Option.map_some, List.set_cons_zero, List.set_cons_succ, and_true, true_and, List.flatMap_cons, List.flatMap_nil, Bool.not_not, hρ]
              refine wpa_st1 rfl rfl rfl (by simp [doneB_len, h1]) ?_
              simp (maxSteps := 1000000) (implicitDefEqProofs := false) (disch := omega) only [push_cast, ↓reduceIte, Nat.reduceEqDiff, reduceCtorEq, decide_true, decide_false, Bool.not_true, Bool.not_false, Option.isNone_some, Option.isNone_none, List.drop_zero, List.drop_succ_cons, List.getElem?_cons_zero, List.getElem?_cons_succ, List.length_cons, List.length_nil, List.take_succ_cons, List.take_zero, Nat.mul_one, Nat.zero_add, Nat.add_zero, Nat.one_mul, Nat.zero_mul, List.getElem?_map, List.getElem?_drop, List.getElem?_take, List.length_map, Option.map_some, List.set_cons_zero, List.set_cons_succ, and_true, true_and, List.flatMap_cons, List.flatMap_nil, Bool.not_not, hρ, setB]
              refine hN (k + 1) _ _ ?_ (by omega)
              simp (maxSteps := 1000000) (implicitDefEqProofs := false) (disch := omega) only [push_cast, ↓reduceIte, Nat.reduceEqDiff, reduceCtorEq, decide_true, decide_false, Bool.not_true, Bool.not_false, Option.isNone_some, Option.isNone_none, List.drop_zero, List.drop_succ_cons, List.getElem?_cons_zero, List.getElem?_cons_succ, List.length_cons, List.length_nil, List.take_succ_cons, List.take_zero, Nat.mul_one, Nat.zero_add, Nat.add_zero, Nat.one_mul, Nat.zero_mul, List.getElem?_map, List.getElem?_drop, List.getElem?_take, List.length_map, Option.map_some, List.set_cons_zero, List.set_cons_succ, and_true, true_and, List.flatMap_cons, List.flatMap_nil, Bool.not_not, hρ]
              rw [take_succ_at hx]
              refine ⟨by omega, ?_, ?_, by rw [doneB_set]⟩
              · intro y hy
                rcases List.mem_append.1 hy with hy | hy
                · exact hdom y hy
                · simp at hy; subst hy; omega
              · rw [hord]
                have : ordAt xss (l.take k) (n : Int) = true := by
                  unfold ordAt
                  have e : (xss.getD (n : Int).toNat []) = ps := by simp [List.getD_eq_getElem?_getD, hps]
                  rw [e, hall, hc]
                  simp <;> omega
                rw [this]; rfl
        · simp (maxSteps := 1000000) (implicitDefEqProofs := false) (disch := omega) only [push_cast, ↓reduceIte, Nat.reduceEqDiff, reduceCtorEq, decide_true, decide_false, Bool.not_true, Bool.not_false, Option.isNone_some, Option.isNone_none, List.drop_zero, List.drop_succ_cons, List.getElem?_cons_zero, List.getElem?_cons_succ, List.length_cons, List.length_nil, List.take_succ_cons, List.take_zero, Nat.mul_one, Nat.zero_add, Nat.add_zero, Nat.one_mul, Nat.zero_mul, List.getElem?_map, List.getElem?_drop, List.getElem?_take, List.length_map, Option.map_some, List.set_cons_zero, List.set_cons_succ, and_true, true_and, List.flatMap_cons, List.flatMap_nil, Bool.not_not, hρ, hx, aInt]
          exact fin_v (by rw [hbad (by simp [ordAt] <;> omega)] <;> rfl)
    · simp (maxSteps := 1000000) (implicitDefEqProofs := false) (disch := omega) only [push_cast, ↓reduceIte, Nat.reduceEqDiff, reduceCtorEq, decide_true, decide_false, Bool.not_true, Bool.not_false, Option.isNone_some, Option.isNone_none, List.drop_zero, List.drop_succ_cons, List.getElem?_cons_zero, List.getElem?_cons_succ, List.length_cons, List.length_nil, List.take_succ_cons, List.take_zero, Nat.mul_one, Nat.zero_add, Nat.add_zero, Nat.one_mul, Nat.zero_mul, List.getElem?_map, List.getElem?_drop, List.getElem?_take, List.length_map, Option.map_some, List.set_cons_zero, List.set_cons_succ, and_true, true_and, List.flatMap_cons, List.flatMap_nil, Bool.not_not, hρ]
      refine hE _ _ ?_
      rw [hord, List.drop_of_length_le (by omega)]
      rfl
  · intro ε σ ho
    simp (maxSteps := 1000000) (implicitDefEqProofs := false) (disch := omega) only [push_cast, ↓reduceIte, Nat.reduceEqDiff, reduceCtorEq, decide_true, decide_false, Bool.not_true, Bool.not_false, Option.isNone_some, Option.isNone_none, List.drop_zero, List.drop_succ_cons, List.getElem?_cons_zero, List.getElem?_cons_succ, List.length_cons, List.length_nil, List.take_succ_cons, List.take_zero, Nat.mul_one, Nat.zero_add, Nat.add_zero, Nat.one_mul, Nat.zero_mul, List.getElem?_map, List.getElem?_drop, List.getElem?_take, List.length_map, Option.map_some, List.set_cons_zero, List.set_cons_succ, and_true, true_and, List.flatMap_cons, List.flatMap_nil, Bool.not_not]
    exact fin_v (by rw [ho] <;> rfl)
end Go.Proofs.Ytilofhocodbknaa
