/- Contracts on annotated values: span.plan.next. -/
import Derived.Test.YtilofhocodbknaaSpd
namespace Go.Proofs.Ytilofhocodbknaa
set_option linter.unusedVariables false
set_option linter.unusedSimpArgs false
open Go Go.Kx Go.Proofs

theorem rsOk_mono {n : Nat} {D : List Int} {row row' : Int} {rs : List Int} (h : rsOk n D row rs) (hr : row ≤ row') : rsOk n D row' rs :=
  ⟨h.1, fun i hi => by obtain ⟨r, h1, h2, h3, h4⟩ := h.2 i hi; exact ⟨r, h1, h2, by omega, h4⟩⟩
theorem rsOk_set {n : Nat} {D : List Int} {row : Int} {rs : List Int} (h : rsOk n D row rs) {i : Nat} (hi : i < n) (hr : 0 < row) : rsOk n (D ++ [(i : Int)]) row (rs.set i row) := by
  refine ⟨by simp [h.1], fun k hk => ?_⟩
  rw [List.getElem?_set]
  by_cases hik : i = k
  · subst hik
    exact ⟨row, by simp [h.1, hi], by omega, by omega, by simp [hr]⟩
  · rw [if_neg hik]
    obtain ⟨r, h1, h2, h3, h4⟩ := h.2 k hk
    refine ⟨r, h1, h2, h3, h4.trans ?_⟩
    have : ¬ k = i := fun e => hik e.symm
    simp [this]
    intro e; omega
theorem set_self {α : Type} {l : List α} {i : Nat} {a : α} (h : l[i]? = some a) : l.set i a = l := by
  obtain ⟨_, he⟩ := List.getElem?_eq_some_iff.1 h
  rw [← he]; simp

set_option maxHeartbeats 4000000 in
theorem plan_next_g (xss : List (List Int)) (hs : xss.length ≤ 1000) (hs2 : ∀ l ∈ xss, l.length ≤ 1000000) (hok : okB 0 xss = true) (D : List Int) (row n : Nat) (hrow : row ≤ 1000000) (hn : n ≤ 1000000) (rs : List Int) (hrs : rsOk xss.length D row rs)
    (σ : St) (ip j : Nat) (hne : ip ≠ j) (h1 : σ[ip]? = some (.obj 0 [aInts2 xss, .ms j 0 0 xss.length 1])) (h2 : σ[j]? = some (.obj 0 (rs.map aInt))) :
    FnG Try.prog 99 [.ref ip 0 0, aInt row, aInt n] σ fun a σ' => a = aInts (rowD xss n D) ∧ ∃ w rs', rsOk xss.length (D ++ rowD xss n D) (row + 1) rs' ∧ σ' = (σ ++ [Res.tail w]).set j (.obj 0 (rs'.map aInt)) := by
  refine fnGz_in K_span_plan_next mixed rfl ?_
  simp only [S_span_plan_next, aInt]
  have hip : ip < σ.length := (List.getElem?_eq_some_iff.1 h1).1
  have hj : j < σ.length := (List.getElem?_eq_some_iff.1 h2).1
  have h1' : ∀ w, (σ ++ [Res.tail w])[ip]? = some (.obj 0 [aInts2 xss, .ms j 0 0 xss.length 1]) := fun w => by rw [List.getElem?_append_left hip]; exact h1
  have h2' : ∀ w, (σ ++ [Res.tail w])[j]? = some (.obj 0 (rs.map aInt)) := fun w => by rw [List.getElem?_append_left hj]; exact h2
  have h3' : ∀ w, (σ ++ [Res.tail w])[σ.length]? = some (.tail w) := fun w => by simp
  simp (maxSteps := 1000000) (implicitDefEqProofs := false) (disch := omega) only [push_cast, ↓reduceIte, Nat.reduceEqDiff, reduceCtorEq, decide_true, decide_false, Bool.not_true, Bool.not_false, Option.isNone_some, Option.isNone_none, List.drop_zero, List.drop_succ_cons, List.getElem?_cons_zero, List.getElem?_cons_succ, List.length_cons, List.length_nil, List.take_succ_cons, List.take_zero, Nat.mul_one, Nat.zero_add, Nat.add_zero, Nat.one_mul, Nat.zero_mul, List.getElem?_map, List.getElem?_drop, List.getElem?_take, List.length_map, Option.map_some, List.set_cons_zero, List.set_cons_succ, and_true, true_and, List.flatMap_cons, List.flatMap_nil, Bool.not_not, h1, aInts2, aSl]
  refine wpa_blg (GU.tok 7 1 rfl) (α := Nat) (I := fun k ε σ' => (ε 0 = .ref ip 0 0 ∧ ε 1 = .v (.int .i64 row) ∧ ε 2 = .v (.int .i64 n) ∧ ε 15 = .v (.int .i64 xss.length) ∧ ε 16 = .v (.int .i64 k)) ∧ k ≤ xss.length ∧
      ∃ w, ε 7 = .sl (rowK xss n D k).length ((rowK xss n D k).map aInt) (.id σ.length w 1) ∧ σ' = σ ++ [Res.tail w])
    (μ := fun k => xss.length - k) (Q := fun ε σ' => (ε 0 = .ref ip 0 0 ∧ ε 1 = .v (.int .i64 row)) ∧ ∃ w, ε 7 = .sl (rowD xss n D).length ((rowD xss n D).map aInt) (.id σ.length w 1) ∧ σ' = σ ++ [Res.tail w]) (x := 0) ?_ ?_ ?_
  · simp (maxSteps := 1000000) (implicitDefEqProofs := false) (disch := omega) only [push_cast, ↓reduceIte, Nat.reduceEqDiff, reduceCtorEq, decide_true, decide_false, Bool.not_true, Bool.not_false, Option.isNone_some, Option.isNone_none, List.drop_zero, List.drop_succ_cons, List.getElem?_cons_zero, List.getElem?_cons_succ, List.length_cons, List.length_nil, List.take_succ_cons, List.take_zero, Nat.mul_one, Nat.zero_add, Nat.add_zero, Nat.one_mul, Nat.zero_mul, List.getElem?_map, List.getElem?_drop, List.getElem?_take, List.length_map, Option.map_some, List.set_cons_zero, List.set_cons_succ, and_true, true_and, List.flatMap_cons, List.flatMap_nil, Bool.not_not]
    exact ⟨by omega, 0, by rw [rowK_zero]; rfl, rfl⟩
  · rintro k ε σ' N E ⟨hρ, hk, w, h7, rfl⟩ hN hE
    simp only [S_span_plan_next_L1]
    by_cases hlt : k < xss.length
    · have hkl := rowK_len xss n D k
      by_cases hfull : (rowK xss n D k).length < n
      · simp (maxSteps := 1000000) (implicitDefEqProofs := false) (disch := omega) only [push_cast, ↓reduceIte, Nat.reduceEqDiff, reduceCtorEq, decide_true, decide_false, Bool.not_true, Bool.not_false, Option.isNone_some, Option.isNone_none, List.drop_zero, List.drop_succ_cons, List.getElem?_cons_zero, List.getElem?_cons_succ, List.length_cons, List.length_nil, List.take_succ_cons, List.take_zero, Nat.mul_one, Nat.zero_add, Nat.add_zero, Nat.one_mul, Nat.zero_mul, List.getElem?_map, List.getElem?_drop, List.getElem?_take, List.length_map, Option.map_some, List.set_cons_zero, List.set_cons_succ, and_true, true_and, List.flatMap_cons, List.flatMap_nil, Bool.not_not, hρ, h7]
        refine wpa_callG (plan_ready_g xss hs hs2 hok D k hlt row rs hrs (σ ++ [Res.tail w]) ip j (h1' w) (h2' w)) ?_
        rintro a σ' ⟨rfl, rfl⟩
        cases hr : readyD xss D k with
        | true =>
          simp (maxSteps := 1000000) (implicitDefEqProofs := false) (disch := omega) only [push_cast, ↓reduceIte, Nat.reduceEqDiff, reduceCtorEq, decide_true, decide_false, Bool.not_true, Bool.not_false, Option.isNone_some, Option.isNone_none, List.drop_zero, List.drop_succ_cons, List.getElem?_cons_zero, List.getElem?_cons_succ, List.length_cons, List.length_nil, List.take_succ_cons, List.take_zero, Nat.mul_one, Nat.zero_add, Nat.add_zero, Nat.one_mul, Nat.zero_mul, List.getElem?_map, List.getElem?_drop, List.getElem?_take, List.length_map, Option.map_some, List.set_cons_zero, List.set_cons_succ, and_true, true_and, List.flatMap_cons, List.flatMap_nil, Bool.not_not, hρ, h7, aBool]
          refine wpa_bsl (by simp [AV.cells, Value.cells]) (by simp) ?_
          simp (maxSteps := 1000000) (implicitDefEqProofs := false) (disch := omega) only [push_cast, ↓reduceIte, Nat.reduceEqDiff, reduceCtorEq, decide_true, decide_false, Bool.not_true, Bool.not_false, Option.isNone_some, Option.isNone_none, List.drop_zero, List.drop_succ_cons, List.getElem?_cons_zero, List.getElem?_cons_succ, List.length_cons, List.length_nil, List.take_succ_cons, List.take_zero, Nat.mul_one, Nat.zero_add, Nat.add_zero, Nat.one_mul, Nat.zero_mul, List.getElem?_map, List.getElem?_drop, List.getElem?_take, List.length_map, Option.map_some, List.set_cons_zero, List.set_cons_succ, and_true, true_and, List.flatMap_cons, List.flatMap_nil, Bool.not_not, hρ, h7]
          refine wpa_app rfl rfl rfl rfl (by simp) (by omega) (by omega) (h3' w) ?_
          simp (maxSteps := 1000000) (implicitDefEqProofs := false) (disch := omega) only [push_cast, ↓reduceIte, Nat.reduceEqDiff, reduceCtorEq, decide_true, decide_false, Bool.not_true, Bool.not_false, Option.isNone_some, Option.isNone_none, List.drop_zero, List.drop_succ_cons, List.getElem?_cons_zero, List.getElem?_cons_succ, List.length_cons, List.length_nil, List.take_succ_cons, List.take_zero, Nat.mul_one, Nat.zero_add, Nat.add_zero, Nat.one_mul, Nat.zero_mul, List.getElem?_map, List.getElem?_drop, List.getElem?_take, List.length_map, Option.map_some, List.set_cons_zero, List.set_cons_succ, and_true, true_and, List.flatMap_cons, List.flatMap_nil, Bool.not_not, hρ, h7]
          refine hN (k + 1) _ _ ?_ (by omega)
          simp (maxSteps := 1000000) (implicitDefEqProofs := false) (disch := omega) only [push_cast, ↓reduceIte, Nat.reduceEqDiff, reduceCtorEq, decide_true, decide_false, Bool.not_true, Bool.not_false, Option.isNone_some, Option.isNone_none, List.drop_zero, List.drop_succ_cons, List.getElem?_cons_zero, List.getElem?_cons_succ, List.length_cons, List.length_nil, List.take_succ_cons, List.take_zero, Nat.mul_one, Nat.zero_add, Nat.add_zero, Nat.one_mul, Nat.zero_mul, List.getElem?_map, List.getElem?_drop, List.getElem?_take, List.length_map, Option.map_some, List.set_cons_zero, List.set_cons_succ, and_true, true_and, List.flatMap_cons, List.flatMap_nil, Bool.not_not, hρ]
          refine ⟨by omega, w + 1, ?_, by simp⟩
          rw [rowK_yes hr hfull]
          simp [aInt]
        | false =>
          simp (maxSteps := 1000000) (implicitDefEqProofs := false) (disch := omega) only [push_cast, ↓reduceIte, Nat.reduceEqDiff, reduceCtorEq, decide_true, decide_false, Bool.not_true, Bool.not_false, Option.isNone_some, Option.isNone_none, List.drop_zero, List.drop_succ_cons, List.getElem?_cons_zero, List.getElem?_cons_succ, List.length_cons, List.length_nil, List.take_succ_cons, List.take_zero, Nat.mul_one, Nat.zero_add, Nat.add_zero, Nat.one_mul, Nat.zero_mul, List.getElem?_map, List.getElem?_drop, List.getElem?_take, List.length_map, Option.map_some, List.set_cons_zero, List.set_cons_succ, and_true, true_and, List.flatMap_cons, List.flatMap_nil, Bool.not_not, hρ, h7, aBool]
          refine hN (k + 1) _ _ ?_ (by omega)
          simp (maxSteps := 1000000) (implicitDefEqProofs := false) (disch := omega) only [push_cast, ↓reduceIte, Nat.reduceEqDiff, reduceCtorEq, decide_true, decide_false, Bool.not_true, Bool.not_false, Option.isNone_some, Option.isNone_none, List.drop_zero, List.drop_succ_cons, List.getElem?_cons_zero, List.getElem?_cons_succ, List.length_cons, List.length_nil, List.take_succ_cons, List.take_zero, Nat.mul_one, Nat.zero_add, Nat.add_zero, Nat.one_mul, Nat.zero_mul, List.getElem?_map, List.getElem?_drop, List.getElem?_take, List.length_map, Option.map_some, List.set_cons_zero, List.set_cons_succ, and_true, true_and, List.flatMap_cons, List.flatMap_nil, Bool.not_not, hρ]
          exact ⟨by omega, w, by rw [rowK_no hr]; exact h7, rfl⟩
      · simp (maxSteps := 1000000) (implicitDefEqProofs := false) (disch := omega) only [push_cast, ↓reduceIte, Nat.reduceEqDiff, reduceCtorEq, decide_true, decide_false, Bool.not_true, Bool.not_false, Option.isNone_some, Option.isNone_none, List.drop_zero, List.drop_succ_cons, List.getElem?_cons_zero, List.getElem?_cons_succ, List.length_cons, List.length_nil, List.take_succ_cons, List.take_zero, Nat.mul_one, Nat.zero_add, Nat.add_zero, Nat.one_mul, Nat.zero_mul, List.getElem?_map, List.getElem?_drop, List.getElem?_take, List.length_map, Option.map_some, List.set_cons_zero, List.set_cons_succ, and_true, true_and, List.flatMap_cons, List.flatMap_nil, Bool.not_not, hρ, h7]
        refine hN (k + 1) _ _ ?_ (by omega)
        simp (maxSteps := 1000000) (implicitDefEqProofs := false) (disch := omega) only [push_cast, ↓reduceIte, Nat.reduceEqDiff, reduceCtorEq, decide_true, decide_false, Bool.not_true, Bool.not_false, Option.isNone_some, Option.isNone_none, List.drop_zero, List.drop_succ_cons, List.getElem?_cons_zero, List.getElem?_cons_succ, List.length_cons, List.length_nil, List.take_succ_cons, List.take_zero, Nat.mul_one, Nat.zero_add, Nat.add_zero, Nat.one_mul, Nat.zero_mul, List.getElem?_map, List.getElem?_drop, List.getElem?_take, List.length_map, Option.map_some, List.set_cons_zero, List.set_cons_succ, and_true, true_and, List.flatMap_cons, List.flatMap_nil, Bool.not_not, hρ]
        exact ⟨by omega, w, by rw [rowK_full hfull]; exact h7, rfl⟩
    · have : k = xss.length := by omega
      subst this
      simp (maxSteps := 1000000) (implicitDefEqProofs := false) (disch := omega) only [push_cast, ↓reduceIte, Nat.reduceEqDiff, reduceCtorEq, decide_true, decide_false, Bool.not_true, Bool.not_false, Option.isNone_some, Option.isNone_none, List.drop_zero, List.drop_succ_cons, List.getElem?_cons_zero, List.getElem?_cons_succ, List.length_cons, List.length_nil, List.take_succ_cons, List.take_zero, Nat.mul_one, Nat.zero_add, Nat.add_zero, Nat.one_mul, Nat.zero_mul, List.getElem?_map, List.getElem?_drop, List.getElem?_take, List.length_map, Option.map_some, List.set_cons_zero, List.set_cons_succ, and_true, true_and, List.flatMap_cons, List.flatMap_nil, Bool.not_not, hρ]
      refine hE _ _ ?_
      simp (maxSteps := 1000000) (implicitDefEqProofs := false) (disch := omega) only [push_cast, ↓reduceIte, Nat.reduceEqDiff, reduceCtorEq, decide_true, decide_false, Bool.not_true, Bool.not_false, Option.isNone_some, Option.isNone_none, List.drop_zero, List.drop_succ_cons, List.getElem?_cons_zero, List.getElem?_cons_succ, List.length_cons, List.length_nil, List.take_succ_cons, List.take_zero, Nat.mul_one, Nat.zero_add, Nat.add_zero, Nat.one_mul, Nat.zero_mul, List.getElem?_map, List.getElem?_drop, List.getElem?_take, List.length_map, Option.map_some, List.set_cons_zero, List.set_cons_succ, and_true, true_and, List.flatMap_cons, List.flatMap_nil, Bool.not_not, hρ]
      exact ⟨w, h7, rfl⟩
  · rintro ε σ' ⟨hρ, w, h7, rfl⟩
    have hrl : (rowD xss n D).length ≤ xss.length := (rowK_len xss n D _).2
    have hmem := @rowD_mem xss n D
    generalize hrd : rowD xss n D = l at h7 hrl hmem ⊢
    simp (maxSteps := 1000000) (implicitDefEqProofs := false) (disch := omega) only [push_cast, ↓reduceIte, Nat.reduceEqDiff, reduceCtorEq, decide_true, decide_false, Bool.not_true, Bool.not_false, Option.isNone_some, Option.isNone_none, List.drop_zero, List.drop_succ_cons, List.getElem?_cons_zero, List.getElem?_cons_succ, List.length_cons, List.length_nil, List.take_succ_cons, List.take_zero, Nat.mul_one, Nat.zero_add, Nat.add_zero, Nat.one_mul, Nat.zero_mul, List.getElem?_map, List.getElem?_drop, List.getElem?_take, List.length_map, Option.map_some, List.set_cons_zero, List.set_cons_succ, and_true, true_and, List.flatMap_cons, List.flatMap_nil, Bool.not_not, hρ, h7]
    refine wpa_bl (α := Nat) (I := fun t ε σ' => (ε 0 = .ref ip 0 0 ∧ ε 1 = .v (.int .i64 row) ∧ ε 7 = .sl l.length (l.map aInt) (.id σ.length w 1) ∧ ε 34 = .sl l.length (l.map aInt) (.id σ.length w 1) ∧ ε 35 = .v (.int .i64 l.length) ∧ ε 36 = .v (.int .i64 t)) ∧ t ≤ l.length ∧
        ∃ rs', rsOk xss.length (D ++ l.take t) (row + 1) rs' ∧ σ' = (σ ++ [Res.tail w]).set j (.obj 0 (rs'.map aInt)))
      (μ := fun t => l.length - t) (Q := fun ε σ' => ε 7 = .sl l.length (l.map aInt) (.id σ.length w 1) ∧ ∃ rs', rsOk xss.length (D ++ l) (row + 1) rs' ∧ σ' = (σ ++ [Res.tail w]).set j (.obj 0 (rs'.map aInt))) (x := 0) ?_ ?_ ?_
    · simp (maxSteps := 1000000) (implicitDefEqProofs := false) (disch := omega) only [push_cast, ↓reduceIte, Nat.reduceEqDiff, reduceCtorEq, decide_true, decide_false, Bool.not_true, Bool.not_false, Option.isNone_some, Option.isNone_none, List.drop_zero, List.drop_succ_cons, List.getElem?_cons_zero, List.getElem?_cons_succ, List.length_cons, List.length_nil, List.take_succ_cons, List.take_zero, Nat.mul_one, Nat.zero_add, Nat.add_zero, Nat.one_mul, Nat.zero_mul, List.getElem?_map, List.getElem?_drop, List.getElem?_take, List.length_map, Option.map_some, List.set_cons_zero, List.set_cons_succ, and_true, true_and, List.flatMap_cons, List.flatMap_nil, Bool.not_not, hρ, h7]
      exact ⟨by omega, rs, by simpa using rsOk_mono hrs (by omega), by rw [set_self (h2' w)]⟩
    · rintro t ε σ' N E ⟨hρ, ht, rs', hrs', rfl⟩ hN hE
      simp only [S_span_plan_next_L2]
      have h4 : ((σ ++ [Res.tail w]).set j (.obj 0 (rs'.map aInt)))[ip]? = some (.obj 0 [aInts2 xss, .ms j 0 0 xss.length 1]) := by rw [List.getElem?_set_ne (fun e => hne e.symm)]; exact h1' w
      have h5 : ((σ ++ [Res.tail w]).set j (.obj 0 (rs'.map aInt)))[j]? = some (.obj 0 (rs'.map aInt)) := by rw [List.getElem?_set, if_pos rfl, if_pos (by rw [List.length_append]; omega)]
      by_cases htl : t < l.length
      · obtain ⟨p, hp⟩ := at_lt htl
        obtain ⟨i, rfl, hi, _⟩ := hmem (List.mem_of_getElem? hp)
        simp (maxSteps := 1000000) (implicitDefEqProofs := false) (disch := omega) only [push_cast, ↓reduceIte, Nat.reduceEqDiff, reduceCtorEq, decide_true, decide_false, Bool.not_true, Bool.not_false, Option.isNone_some, Option.isNone_none, List.drop_zero, List.drop_succ_cons, List.getElem?_cons_zero, List.getElem?_cons_succ, List.length_cons, List.length_nil, List.take_succ_cons, List.take_zero, Nat.mul_one, Nat.zero_add, Nat.add_zero, Nat.one_mul, Nat.zero_mul, List.getElem?_map, List.getElem?_drop, List.getElem?_take, List.length_map, Option.map_some, List.set_cons_zero, List.set_cons_succ, and_true, true_and, List.flatMap_cons, List.flatMap_nil, Bool.not_not, hρ, hp, h4, h5, aInt]
        refine wpa_st1 (cs := rs'.map aInt) rfl rfl h5 (by simp [hrs'.1, hi]) ?_
        simp (maxSteps := 1000000) (implicitDefEqProofs := false) (disch := omega) only [push_cast, ↓reduceIte, Nat.reduceEqDiff, reduceCtorEq, decide_true, decide_false, Bool.not_true, Bool.not_false, Option.isNone_some, Option.isNone_none, List.drop_zero, List.drop_succ_cons, List.getElem?_cons_zero, List.getElem?_cons_succ, List.length_cons, List.length_nil, List.take_succ_cons, List.take_zero, Nat.mul_one, Nat.zero_add, Nat.add_zero, Nat.one_mul, Nat.zero_mul, List.getElem?_map, List.getElem?_drop, List.getElem?_take, List.length_map, Option.map_some, List.set_cons_zero, List.set_cons_succ, and_true, true_and, List.flatMap_cons, List.flatMap_nil, Bool.not_not, hρ, setI]
        refine hN (t + 1) _ _ ?_ (by omega)
        simp (maxSteps := 1000000) (implicitDefEqProofs := false) (disch := omega) only [push_cast, ↓reduceIte, Nat.reduceEqDiff, reduceCtorEq, decide_true, decide_false, Bool.not_true, Bool.not_false, Option.isNone_some, Option.isNone_none, List.drop_zero, List.drop_succ_cons, List.getElem?_cons_zero, List.getElem?_cons_succ, List.length_cons, List.length_nil, List.take_succ_cons, List.take_zero, Nat.mul_one, Nat.zero_add, Nat.add_zero, Nat.one_mul, Nat.zero_mul, List.getElem?_map, List.getElem?_drop, List.getElem?_take, List.length_map, Option.map_some, List.set_cons_zero, List.set_cons_succ, and_true, true_and, List.flatMap_cons, List.flatMap_nil, Bool.not_not, hρ]
        refine ⟨by omega, rs'.set i (row + 1), ?_, by rw [List.set_set]⟩
        rw [take_succ_at hp, ← List.append_assoc]
        exact rsOk_set hrs' hi (by omega)
      · simp (maxSteps := 1000000) (implicitDefEqProofs := false) (disch := omega) only [push_cast, ↓reduceIte, Nat.reduceEqDiff, reduceCtorEq, decide_true, decide_false, Bool.not_true, Bool.not_false, Option.isNone_some, Option.isNone_none, List.drop_zero, List.drop_succ_cons, List.getElem?_cons_zero, List.getElem?_cons_succ, List.length_cons, List.length_nil, List.take_succ_cons, List.take_zero, Nat.mul_one, Nat.zero_add, Nat.add_zero, Nat.one_mul, Nat.zero_mul, List.getElem?_map, List.getElem?_drop, List.getElem?_take, List.length_map, Option.map_some, List.set_cons_zero, List.set_cons_succ, and_true, true_and, List.flatMap_cons, List.flatMap_nil, Bool.not_not, hρ]
        refine hE _ _ ?_
        rw [List.take_of_length_le (by omega)] at hrs'
        simp (maxSteps := 1000000) (implicitDefEqProofs := false) (disch := omega) only [push_cast, ↓reduceIte, Nat.reduceEqDiff, reduceCtorEq, decide_true, decide_false, Bool.not_true, Bool.not_false, Option.isNone_some, Option.isNone_none, List.drop_zero, List.drop_succ_cons, List.getElem?_cons_zero, List.getElem?_cons_succ, List.length_cons, List.length_nil, List.take_succ_cons, List.take_zero, Nat.mul_one, Nat.zero_add, Nat.add_zero, Nat.one_mul, Nat.zero_mul, List.getElem?_map, List.getElem?_drop, List.getElem?_take, List.length_map, Option.map_some, List.set_cons_zero, List.set_cons_succ, and_true, true_and, List.flatMap_cons, List.flatMap_nil, Bool.not_not, hρ]
        exact ⟨rs', hrs', rfl⟩
    · rintro ε σ' ⟨h7, rs', hrs', rfl⟩
      simp (maxSteps := 1000000) (implicitDefEqProofs := false) (disch := omega) only [push_cast, ↓reduceIte, Nat.reduceEqDiff, reduceCtorEq, decide_true, decide_false, Bool.not_true, Bool.not_false, Option.isNone_some, Option.isNone_none, List.drop_zero, List.drop_succ_cons, List.getElem?_cons_zero, List.getElem?_cons_succ, List.length_cons, List.length_nil, List.take_succ_cons, List.take_zero, Nat.mul_one, Nat.zero_add, Nat.add_zero, Nat.one_mul, Nat.zero_mul, List.getElem?_map, List.getElem?_drop, List.getElem?_take, List.length_map, Option.map_some, List.set_cons_zero, List.set_cons_succ, and_true, true_and, List.flatMap_cons, List.flatMap_nil, Bool.not_not, h7]
      refine ⟨[], aSl_res (aInt_res _) l _, w, rs', hrs', rfl⟩
end Go.Proofs.Ytilofhocodbknaa
