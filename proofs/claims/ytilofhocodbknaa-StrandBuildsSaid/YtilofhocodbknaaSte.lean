/- Contracts on annotated values: strand.fits. -/
import Derived.Test.YtilofhocodbknaaStd
namespace Go.Proofs.Ytilofhocodbknaa
set_option linter.unusedVariables false
set_option linter.unusedSimpArgs false
open Go Go.Kx Go.Proofs

theorem frC_0 (F : Fr) (t : Tk) : (frC F t)[0]? = some (.v (.int .i64 F.kind)) := rfl
theorem frC_1 (F : Fr) (t : Tk) : (frC F t)[1]? = some (.v (.bool F.child)) := rfl
theorem frC_2 (F : Fr) (t : Tk) : (frC F t)[2]? = some (.v (.int .i64 F.now)) := rfl
theorem frC_3 (F : Fr) (t : Tk) : (frC F t)[3]? = some (.sl F.left.length (F.left.map aInt) t.l) := rfl
theorem frC_4 (F : Fr) (t : Tk) : (frC F t)[4]? = some (.v (.int .i64 F.lp)) := rfl
theorem frC_5 (F : Fr) (t : Tk) : (frC F t)[5]? = some (.v (.int .i64 F.it)) := rfl
theorem frC_6 (F : Fr) (t : Tk) : (frC F t)[6]? = some (.v (.int .i64 F.sg)) := rfl
theorem frC_5a (F : Fr) (t : Tk) : (frC F t)[4 + 1]? = some (.v (.int .i64 F.it)) := rfl
theorem frC_6a (F : Fr) (t : Tk) : (frC F t)[4 + 2]? = some (.v (.int .i64 F.sg)) := rfl
theorem frC_7 (F : Fr) (t : Tk) : (frC F t)[7]? = some (.sl F.row.length (F.row.flatMap aSt) t.r) := rfl
theorem frC_8 (F : Fr) (t : Tk) : (frC F t)[8]? = some (.v (.int .i64 F.ser)) := rfl
theorem frC_9 (F : Fr) (t : Tk) : (frC F t)[9]? = some (.v (.int .i64 F.cnt)) := rfl
theorem frC_10 (F : Fr) (t : Tk) : (frC F t)[10]? = some (.sl F.ahead.length (F.ahead.flatMap aSt) t.a) := rfl
theorem frC_11 (F : Fr) (t : Tk) : (frC F t)[11]? = some (.sl F.lasts.length (F.lasts.map aInt) t.s) := rfl
theorem aMk_0 (m : Mk) : (aMk m)[0]? = some (.v (.int .i64 m.k)) := rfl
theorem aMk_1 (m : Mk) : (aMk m)[1]? = some (.v (.int .i64 m.a)) := rfl
theorem aMk_2 (m : Mk) : (aMk m)[2]? = some (.v (.int .i64 m.b)) := rfl
def fitsB (F : Fr) (m : Mk) : Bool :=
  if m.k = 9 then decide (F.kind = 3) && decide (m.a = F.cnt)
  else if m.k = 8 then decide (F.kind = 3) && decide (m.a = F.ser) && decide (0 < F.cnt)
  else if m.k = 5 then F.child
  else if m.k = 10 then decide (F.kind = 2) && decide (m.a = F.it)
  else if m.k = 11 ∨ m.k = 12 then decide (F.kind = 2) && decide (F.sg < m.a)
  else decide (F.kind ≠ 3)
set_option maxHeartbeats 2000000 in
theorem fits_a {σ : St} {i : Nat} {F : Fr} {t : Tk} (H : σ[i]? = some (.obj 0 (frC F t))) (m : Mk) :
    FnG Try.prog 104 [.ref i 0 0, .agg (aMk m)] σ fun a σ' => a = aBool (fitsB F m) ∧ σ' = σ ++ [.obj 0 (aMk m)] := by
  refine fnG_in K_strand_fits mixed rfl ?_
  simp only [S_strand_fits]
  simp (maxSteps := 1000000) (implicitDefEqProofs := false) (disch := omega) only [push_cast, ↓reduceIte, Nat.reduceEqDiff, reduceCtorEq, decide_true, decide_false, Bool.not_true, Bool.not_false, Option.isNone_some, Option.isNone_none, List.drop_zero, List.drop_succ_cons, List.getElem?_cons_zero, List.getElem?_cons_succ, List.length_cons, List.length_nil, List.take_succ_cons, List.take_zero, Nat.mul_one, Nat.zero_add, Nat.add_zero, Nat.one_mul, Nat.zero_mul, List.getElem?_map, List.getElem?_drop, List.getElem?_take, List.length_map, Option.map_some, List.set_cons_zero, List.set_cons_succ, and_true, true_and, List.flatMap_cons, List.flatMap_nil, Bool.not_not]
  refine wpa_box ?_
  have hac : (AV.agg (aMk m)).cells = aMk m := rfl
  rw [hac]
  have ho : (σ ++ [Res.obj 0 (aMk m)])[i]? = some (.obj 0 (frC F t)) := get_app H
  have hb : (σ ++ [Res.obj 0 (aMk m)])[σ.length]? = some (.obj 0 (aMk m)) := at_snoc _ _
  generalize hS : σ ++ [Res.obj 0 (aMk m)] = S at ho hb ⊢
  generalize σ.length = j at hb ⊢
  clear hS H hac
  unfold fitsB
  by_cases h9 : m.k = 9
  · rw [if_pos h9]
    by_cases h1 : F.kind = 3
    · by_cases h2 : m.a = F.cnt
      · rw [decide_eq_true h1, decide_eq_true h2]
        simp (maxSteps := 1000000) (implicitDefEqProofs := false) (disch := omega) only [push_cast, ↓reduceIte, Nat.reduceEqDiff, reduceCtorEq, decide_true, decide_false, Bool.not_true, Bool.not_false, Option.isNone_some, Option.isNone_none, List.drop_zero, List.drop_succ_cons, List.getElem?_cons_zero, List.getElem?_cons_succ, List.length_cons, List.length_nil, List.take_succ_cons, List.take_zero, Nat.mul_one, Nat.zero_add, Nat.add_zero, Nat.one_mul, Nat.zero_mul, List.getElem?_map, List.getElem?_drop, List.getElem?_take, List.length_map, Option.map_some, List.set_cons_zero, List.set_cons_succ, and_true, true_and, List.flatMap_cons, List.flatMap_nil, Bool.not_not, hb, aMk_0, aMk_1, ho, frC_0, frC_9, h9, h1, h2]
        exact rfl
      · rw [decide_eq_true h1, decide_eq_false h2]
        simp (maxSteps := 1000000) (implicitDefEqProofs := false) (disch := omega) only [push_cast, ↓reduceIte, Nat.reduceEqDiff, reduceCtorEq, decide_true, decide_false, Bool.not_true, Bool.not_false, Option.isNone_some, Option.isNone_none, List.drop_zero, List.drop_succ_cons, List.getElem?_cons_zero, List.getElem?_cons_succ, List.length_cons, List.length_nil, List.take_succ_cons, List.take_zero, Nat.mul_one, Nat.zero_add, Nat.add_zero, Nat.one_mul, Nat.zero_mul, List.getElem?_map, List.getElem?_drop, List.getElem?_take, List.length_map, Option.map_some, List.set_cons_zero, List.set_cons_succ, and_true, true_and, List.flatMap_cons, List.flatMap_nil, Bool.not_not, hb, aMk_0, aMk_1, ho, frC_0, frC_9, h9, h1, h2]
        exact rfl
    · rw [decide_eq_false h1]
      simp (maxSteps := 1000000) (implicitDefEqProofs := false) (disch := omega) only [push_cast, ↓reduceIte, Nat.reduceEqDiff, reduceCtorEq, decide_true, decide_false, Bool.not_true, Bool.not_false, Option.isNone_some, Option.isNone_none, List.drop_zero, List.drop_succ_cons, List.getElem?_cons_zero, List.getElem?_cons_succ, List.length_cons, List.length_nil, List.take_succ_cons, List.take_zero, Nat.mul_one, Nat.zero_add, Nat.add_zero, Nat.one_mul, Nat.zero_mul, List.getElem?_map, List.getElem?_drop, List.getElem?_take, List.length_map, Option.map_some, List.set_cons_zero, List.set_cons_succ, and_true, true_and, List.flatMap_cons, List.flatMap_nil, Bool.not_not, hb, aMk_0, ho, frC_0, h9, h1]
      exact rfl
  · rw [if_neg h9]
    by_cases h8 : m.k = 8
    · rw [if_pos h8]
      by_cases h1 : F.kind = 3
      · by_cases h2 : m.a = F.ser
        · by_cases h3 : 0 < F.cnt
          · have h3' : (0 : Int) < (F.cnt : Int) := by omega
            rw [decide_eq_true h1, decide_eq_true h2, decide_eq_true h3]
            simp (maxSteps := 1000000) (implicitDefEqProofs := false) (disch := omega) only [push_cast, ↓reduceIte, Nat.reduceEqDiff, reduceCtorEq, decide_true, decide_false, Bool.not_true, Bool.not_false, Option.isNone_some, Option.isNone_none, List.drop_zero, List.drop_succ_cons, List.getElem?_cons_zero, List.getElem?_cons_succ, List.length_cons, List.length_nil, List.take_succ_cons, List.take_zero, Nat.mul_one, Nat.zero_add, Nat.add_zero, Nat.one_mul, Nat.zero_mul, List.getElem?_map, List.getElem?_drop, List.getElem?_take, List.length_map, Option.map_some, List.set_cons_zero, List.set_cons_succ, and_true, true_and, List.flatMap_cons, List.flatMap_nil, Bool.not_not, hb, aMk_0, aMk_1, ho, frC_0, frC_8, frC_9, h8, h1, h2, h3']
            exact rfl
          · have h3' : ¬ (0 : Int) < (F.cnt : Int) := by omega
            rw [decide_eq_true h1, decide_eq_true h2, decide_eq_false h3]
            simp (maxSteps := 1000000) (implicitDefEqProofs := false) (disch := omega) only [push_cast, ↓reduceIte, Nat.reduceEqDiff, reduceCtorEq, decide_true, decide_false, Bool.not_true, Bool.not_false, Option.isNone_some, Option.isNone_none, List.drop_zero, List.drop_succ_cons, List.getElem?_cons_zero, List.getElem?_cons_succ, List.length_cons, List.length_nil, List.take_succ_cons, List.take_zero, Nat.mul_one, Nat.zero_add, Nat.add_zero, Nat.one_mul, Nat.zero_mul, List.getElem?_map, List.getElem?_drop, List.getElem?_take, List.length_map, Option.map_some, List.set_cons_zero, List.set_cons_succ, and_true, true_and, List.flatMap_cons, List.flatMap_nil, Bool.not_not, hb, aMk_0, aMk_1, ho, frC_0, frC_8, frC_9, h8, h1, h2, h3']
            exact rfl
        · rw [decide_eq_true h1, decide_eq_false h2]
          simp (maxSteps := 1000000) (implicitDefEqProofs := false) (disch := omega) only [push_cast, ↓reduceIte, Nat.reduceEqDiff, reduceCtorEq, decide_true, decide_false, Bool.not_true, Bool.not_false, Option.isNone_some, Option.isNone_none, List.drop_zero, List.drop_succ_cons, List.getElem?_cons_zero, List.getElem?_cons_succ, List.length_cons, List.length_nil, List.take_succ_cons, List.take_zero, Nat.mul_one, Nat.zero_add, Nat.add_zero, Nat.one_mul, Nat.zero_mul, List.getElem?_map, List.getElem?_drop, List.getElem?_take, List.length_map, Option.map_some, List.set_cons_zero, List.set_cons_succ, and_true, true_and, List.flatMap_cons, List.flatMap_nil, Bool.not_not, hb, aMk_0, aMk_1, ho, frC_0, frC_8, h8, h1, h2]
          exact rfl
      · rw [decide_eq_false h1]
        simp (maxSteps := 1000000) (implicitDefEqProofs := false) (disch := omega) only [push_cast, ↓reduceIte, Nat.reduceEqDiff, reduceCtorEq, decide_true, decide_false, Bool.not_true, Bool.not_false, Option.isNone_some, Option.isNone_none, List.drop_zero, List.drop_succ_cons, List.getElem?_cons_zero, List.getElem?_cons_succ, List.length_cons, List.length_nil, List.take_succ_cons, List.take_zero, Nat.mul_one, Nat.zero_add, Nat.add_zero, Nat.one_mul, Nat.zero_mul, List.getElem?_map, List.getElem?_drop, List.getElem?_take, List.length_map, Option.map_some, List.set_cons_zero, List.set_cons_succ, and_true, true_and, List.flatMap_cons, List.flatMap_nil, Bool.not_not, hb, aMk_0, ho, frC_0, h8, h1]
        exact rfl
    · rw [if_neg h8]
      by_cases h5 : m.k = 5
      · rw [if_pos h5]
        simp (maxSteps := 1000000) (implicitDefEqProofs := false) (disch := omega) only [push_cast, ↓reduceIte, Nat.reduceEqDiff, reduceCtorEq, decide_true, decide_false, Bool.not_true, Bool.not_false, Option.isNone_some, Option.isNone_none, List.drop_zero, List.drop_succ_cons, List.getElem?_cons_zero, List.getElem?_cons_succ, List.length_cons, List.length_nil, List.take_succ_cons, List.take_zero, Nat.mul_one, Nat.zero_add, Nat.add_zero, Nat.one_mul, Nat.zero_mul, List.getElem?_map, List.getElem?_drop, List.getElem?_take, List.length_map, Option.map_some, List.set_cons_zero, List.set_cons_succ, and_true, true_and, List.flatMap_cons, List.flatMap_nil, Bool.not_not, hb, aMk_0, ho, frC_1, h5]
        exact rfl
      · rw [if_neg h5]
        by_cases h10 : m.k = 10
        · rw [if_pos h10]
          by_cases h1 : F.kind = 2
          · by_cases h2 : m.a = F.it
            · rw [decide_eq_true h1, decide_eq_true h2]
              simp (maxSteps := 1000000) (implicitDefEqProofs := false) (disch := omega) only [push_cast, ↓reduceIte, Nat.reduceEqDiff, reduceCtorEq, decide_true, decide_false, Bool.not_true, Bool.not_false, Option.isNone_some, Option.isNone_none, List.drop_zero, List.drop_succ_cons, List.getElem?_cons_zero, List.getElem?_cons_succ, List.length_cons, List.length_nil, List.take_succ_cons, List.take_zero, Nat.mul_one, Nat.zero_add, Nat.add_zero, Nat.one_mul, Nat.zero_mul, List.getElem?_map, List.getElem?_drop, List.getElem?_take, List.length_map, Option.map_some, List.set_cons_zero, List.set_cons_succ, and_true, true_and, List.flatMap_cons, List.flatMap_nil, Bool.not_not, hb, aMk_0, aMk_1, ho, frC_0, frC_5a, h10, h1, h2]
              exact rfl
            · rw [decide_eq_true h1, decide_eq_false h2]
              simp (maxSteps := 1000000) (implicitDefEqProofs := false) (disch := omega) only [push_cast, ↓reduceIte, Nat.reduceEqDiff, reduceCtorEq, decide_true, decide_false, Bool.not_true, Bool.not_false, Option.isNone_some, Option.isNone_none, List.drop_zero, List.drop_succ_cons, List.getElem?_cons_zero, List.getElem?_cons_succ, List.length_cons, List.length_nil, List.take_succ_cons, List.take_zero, Nat.mul_one, Nat.zero_add, Nat.add_zero, Nat.one_mul, Nat.zero_mul, List.getElem?_map, List.getElem?_drop, List.getElem?_take, List.length_map, Option.map_some, List.set_cons_zero, List.set_cons_succ, and_true, true_and, List.flatMap_cons, List.flatMap_nil, Bool.not_not, hb, aMk_0, aMk_1, ho, frC_0, frC_5a, h10, h1, h2]
              exact rfl
          · rw [decide_eq_false h1]
            simp (maxSteps := 1000000) (implicitDefEqProofs := false) (disch := omega) only [push_cast, ↓reduceIte, Nat.reduceEqDiff, reduceCtorEq, decide_true, decide_false, Bool.not_true, Bool.not_false, Option.isNone_some, Option.isNone_none, List.drop_zero, List.drop_succ_cons, List.getElem?_cons_zero, List.getElem?_cons_succ, List.length_cons, List.length_nil, List.take_succ_cons, List.take_zero, Nat.mul_one, Nat.zero_add, Nat.add_zero, Nat.one_mul, Nat.zero_mul, List.getElem?_map, List.getElem?_drop, List.getElem?_take, List.length_map, Option.map_some, List.set_cons_zero, List.set_cons_succ, and_true, true_and, List.flatMap_cons, List.flatMap_nil, Bool.not_not, hb, aMk_0, ho, frC_0, h10, h1]
            exact rfl
        · rw [if_neg h10]
          by_cases h11 : m.k = 11 ∨ m.k = 12
          · rw [if_pos h11]
            by_cases h1 : F.kind = 2
            · by_cases h2 : F.sg < m.a
              · rw [decide_eq_true h1, decide_eq_true h2]
                rcases h11 with h11 | h11 <;> (simp (maxSteps := 1000000) (implicitDefEqProofs := false) (disch := omega) only [push_cast, ↓reduceIte, Nat.reduceEqDiff, reduceCtorEq, decide_true, decide_false, Bool.not_true, Bool.not_false, Option.isNone_some, Option.isNone_none, List.drop_zero, List.drop_succ_cons, List.getElem?_cons_zero, List.getElem?_cons_succ, List.length_cons, List.length_nil, List.take_succ_cons, List.take_zero, Nat.mul_one, Nat.zero_add, Nat.add_zero, Nat.one_mul, Nat.zero_mul, List.getElem?_map, List.getElem?_drop, List.getElem?_take, List.length_map, Option.map_some, List.set_cons_zero, List.set_cons_succ, and_true, true_and, List.flatMap_cons, List.flatMap_nil, Bool.not_not, hb, aMk_0, aMk_1, ho, frC_0, frC_6a, h11, h1, h2]; exact rfl)
              · rw [decide_eq_true h1, decide_eq_false h2]
                rcases h11 with h11 | h11 <;> (simp (maxSteps := 1000000) (implicitDefEqProofs := false) (disch := omega) only [push_cast, ↓reduceIte, Nat.reduceEqDiff, reduceCtorEq, decide_true, decide_false, Bool.not_true, Bool.not_false, Option.isNone_some, Option.isNone_none, List.drop_zero, List.drop_succ_cons, List.getElem?_cons_zero, List.getElem?_cons_succ, List.length_cons, List.length_nil, List.take_succ_cons, List.take_zero, Nat.mul_one, Nat.zero_add, Nat.add_zero, Nat.one_mul, Nat.zero_mul, List.getElem?_map, List.getElem?_drop, List.getElem?_take, List.length_map, Option.map_some, List.set_cons_zero, List.set_cons_succ, and_true, true_and, List.flatMap_cons, List.flatMap_nil, Bool.not_not, hb, aMk_0, aMk_1, ho, frC_0, frC_6a, h11, h1, h2]; exact rfl)
            · rw [decide_eq_false h1]
              rcases h11 with h11 | h11 <;> (simp (maxSteps := 1000000) (implicitDefEqProofs := false) (disch := omega) only [push_cast, ↓reduceIte, Nat.reduceEqDiff, reduceCtorEq, decide_true, decide_false, Bool.not_true, Bool.not_false, Option.isNone_some, Option.isNone_none, List.drop_zero, List.drop_succ_cons, List.getElem?_cons_zero, List.getElem?_cons_succ, List.length_cons, List.length_nil, List.take_succ_cons, List.take_zero, Nat.mul_one, Nat.zero_add, Nat.add_zero, Nat.one_mul, Nat.zero_mul, List.getElem?_map, List.getElem?_drop, List.getElem?_take, List.length_map, Option.map_some, List.set_cons_zero, List.set_cons_succ, and_true, true_and, List.flatMap_cons, List.flatMap_nil, Bool.not_not, hb, aMk_0, ho, frC_0, h11, h1]; exact rfl)
          · rw [if_neg h11]
            have e11 : ¬ m.k = 11 := fun h => h11 (.inl h)
            have e12 : ¬ m.k = 12 := fun h => h11 (.inr h)
            by_cases h1 : F.kind = 3
            · rw [decide_eq_false (by simpa using h1)]
              simp (maxSteps := 1000000) (implicitDefEqProofs := false) (disch := omega) only [push_cast, ↓reduceIte, Nat.reduceEqDiff, reduceCtorEq, decide_true, decide_false, Bool.not_true, Bool.not_false, Option.isNone_some, Option.isNone_none, List.drop_zero, List.drop_succ_cons, List.getElem?_cons_zero, List.getElem?_cons_succ, List.length_cons, List.length_nil, List.take_succ_cons, List.take_zero, Nat.mul_one, Nat.zero_add, Nat.add_zero, Nat.one_mul, Nat.zero_mul, List.getElem?_map, List.getElem?_drop, List.getElem?_take, List.length_map, Option.map_some, List.set_cons_zero, List.set_cons_succ, and_true, true_and, List.flatMap_cons, List.flatMap_nil, Bool.not_not, hb, aMk_0, ho, frC_0, h9, h8, h5, h10, e11, e12, h1]
              exact rfl
            · rw [decide_eq_true h1]
              simp (maxSteps := 1000000) (implicitDefEqProofs := false) (disch := omega) only [push_cast, ↓reduceIte, Nat.reduceEqDiff, reduceCtorEq, decide_true, decide_false, Bool.not_true, Bool.not_false, Option.isNone_some, Option.isNone_none, List.drop_zero, List.drop_succ_cons, List.getElem?_cons_zero, List.getElem?_cons_succ, List.length_cons, List.length_nil, List.take_succ_cons, List.take_zero, Nat.mul_one, Nat.zero_add, Nat.add_zero, Nat.one_mul, Nat.zero_mul, List.getElem?_map, List.getElem?_drop, List.getElem?_take, List.length_map, Option.map_some, List.set_cons_zero, List.set_cons_succ, and_true, true_and, List.flatMap_cons, List.flatMap_nil, Bool.not_not, hb, aMk_0, ho, frC_0, h9, h8, h5, h10, e11, e12, h1]
              exact rfl
end Go.Proofs.Ytilofhocodbknaa
