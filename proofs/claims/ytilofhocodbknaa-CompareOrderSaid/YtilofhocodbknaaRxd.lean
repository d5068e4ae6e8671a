/- Contracts on annotated values: what a *Reach answers. -/
import Derived.Test.YtilofhocodbknaaRxc
namespace Go.Proofs.Ytilofhocodbknaa
set_option linter.unusedVariables false
set_option linter.unusedSimpArgs false
open Go Go.Kx Go.Proofs

def aR : Option (List (List Nat)) → AV
  | none => .v (.pointer none)
  | some M => aReach M
theorem aR_pure (o : Option (List (List Nat))) : (aR o).pure = true := by
  cases o with
  | none => rfl
  | some M => exact aReach_pure M
def lenR : Option (List (List Nat)) → Nat
  | none => 0
  | some M => M.length
def inR (o : Option (List (List Nat))) (n : Int) : Bool := decide (0 ≤ n) && decide (n < (lenR o : Int))
def bitR (o : Option (List (List Nat))) (a b : Int) : Bool := (((o.getD []).getD b.toNat []).getD (a.toNat / 64) 0).testBit (a.toNat % 64)
def befR (o : Option (List (List Nat))) (a b : Int) : Bool := inR o a && inR o b && decide (a < b) && bitR o a b
def aparR (o : Option (List (List Nat))) (a b : Int) : Bool := inR o a && inR o b && decide (a ≠ b) && !befR o a b && !befR o b a
def wfR (o : Option (List (List Nat))) : Prop := lenR o ≤ 1000000 ∧ ∀ (i : Nat) (ws : List Nat), (o.getD [])[i]? = some ws → ws.length = i / 64 + 1

theorem Len_a (o : Option (List (List Nat))) : FnP Try.prog 50 [aR o] fun a => a = aInt (lenR o) := by
  refine fnP_in K_reach_Reach_Len mixed rfl (by simp [AV.pureL, aR_pure]) ?_
  simp only [S_reach_Reach_Len]
  cases o with
  | none =>
    simp (maxSteps := 1000000) (implicitDefEqProofs := false) (disch := omega) only [push_cast, ↓reduceIte, Nat.reduceEqDiff, reduceCtorEq, decide_true, decide_false, Bool.not_true, Bool.not_false, Option.isNone_some, Option.isNone_none, List.drop_zero, List.drop_succ_cons, List.getElem?_cons_zero, List.getElem?_cons_succ, List.length_cons, List.length_nil, List.take_succ_cons, List.take_zero, Nat.mul_one, Nat.zero_add, Nat.add_zero, Nat.one_mul, Nat.zero_mul, List.getElem?_map, List.getElem?_drop, List.getElem?_take, List.length_map, Option.map_some, List.set_cons_zero, List.set_cons_succ, and_true, true_and, List.flatMap_cons, List.flatMap_nil, Bool.not_not, aR, Option.isNone_none]
    exact fin_v rfl
  | some M =>
    simp (maxSteps := 1000000) (implicitDefEqProofs := false) (disch := omega) only [push_cast, ↓reduceIte, Nat.reduceEqDiff, reduceCtorEq, decide_true, decide_false, Bool.not_true, Bool.not_false, Option.isNone_some, Option.isNone_none, List.drop_zero, List.drop_succ_cons, List.getElem?_cons_zero, List.getElem?_cons_succ, List.length_cons, List.length_nil, List.take_succ_cons, List.take_zero, Nat.mul_one, Nat.zero_add, Nat.add_zero, Nat.one_mul, Nat.zero_mul, List.getElem?_map, List.getElem?_drop, List.getElem?_take, List.length_map, Option.map_some, List.set_cons_zero, List.set_cons_succ, and_true, true_and, List.flatMap_cons, List.flatMap_nil, Bool.not_not, aR, aReach]
    exact fin_v rfl
theorem is_a (o : Option (List (List Nat))) (n : Int) : FnP Try.prog 96 [aR o, aInt n] fun a => a = aBool (inR o n) := by
  refine fnP_in K_reach_Reach_is mixed rfl (by simp [AV.pureL, aR_pure, aInt, AV.pure]) ?_
  simp only [S_reach_Reach_is]
  by_cases h0 : 0 ≤ n
  · simp (maxSteps := 1000000) (implicitDefEqProofs := false) (disch := omega) only [push_cast, ↓reduceIte, Nat.reduceEqDiff, reduceCtorEq, decide_true, decide_false, Bool.not_true, Bool.not_false, Option.isNone_some, Option.isNone_none, List.drop_zero, List.drop_succ_cons, List.getElem?_cons_zero, List.getElem?_cons_succ, List.length_cons, List.length_nil, List.take_succ_cons, List.take_zero, Nat.mul_one, Nat.zero_add, Nat.add_zero, Nat.one_mul, Nat.zero_mul, List.getElem?_map, List.getElem?_drop, List.getElem?_take, List.length_map, Option.map_some, List.set_cons_zero, List.set_cons_succ, and_true, true_and, List.flatMap_cons, List.flatMap_nil, Bool.not_not, aInt]
    refine wpa_call (Len_a o) ?_
    rintro a rfl
    simp (maxSteps := 1000000) (implicitDefEqProofs := false) (disch := omega) only [push_cast, ↓reduceIte, Nat.reduceEqDiff, reduceCtorEq, decide_true, decide_false, Bool.not_true, Bool.not_false, Option.isNone_some, Option.isNone_none, List.drop_zero, List.drop_succ_cons, List.getElem?_cons_zero, List.getElem?_cons_succ, List.length_cons, List.length_nil, List.take_succ_cons, List.take_zero, Nat.mul_one, Nat.zero_add, Nat.add_zero, Nat.one_mul, Nat.zero_mul, List.getElem?_map, List.getElem?_drop, List.getElem?_take, List.length_map, Option.map_some, List.set_cons_zero, List.set_cons_succ, and_true, true_and, List.flatMap_cons, List.flatMap_nil, Bool.not_not, aInt]
    exact fin_v (by simp [aBool, inR, h0])
  · simp (maxSteps := 1000000) (implicitDefEqProofs := false) (disch := omega) only [push_cast, ↓reduceIte, Nat.reduceEqDiff, reduceCtorEq, decide_true, decide_false, Bool.not_true, Bool.not_false, Option.isNone_some, Option.isNone_none, List.drop_zero, List.drop_succ_cons, List.getElem?_cons_zero, List.getElem?_cons_succ, List.length_cons, List.length_nil, List.take_succ_cons, List.take_zero, Nat.mul_one, Nat.zero_add, Nat.add_zero, Nat.one_mul, Nat.zero_mul, List.getElem?_map, List.getElem?_drop, List.getElem?_take, List.length_map, Option.map_some, List.set_cons_zero, List.set_cons_succ, and_true, true_and, List.flatMap_cons, List.flatMap_nil, Bool.not_not, aInt]
    exact fin_v (by simp [aBool, inR, h0])
theorem Before_a (o : Option (List (List Nat))) (ho : wfR o) (a b : Int) : FnP Try.prog 51 [aR o, aInt a, aInt b] fun r => r = aBool (befR o a b) := by
  refine fnP_in K_reach_Reach_Before mixed rfl (by simp [AV.pureL, aR_pure, aInt, AV.pure]) ?_
  simp only [S_reach_Reach_Before]
  simp (maxSteps := 1000000) (implicitDefEqProofs := false) (disch := omega) only [push_cast, ↓reduceIte, Nat.reduceEqDiff, reduceCtorEq, decide_true, decide_false, Bool.not_true, Bool.not_false, Option.isNone_some, Option.isNone_none, List.drop_zero, List.drop_succ_cons, List.getElem?_cons_zero, List.getElem?_cons_succ, List.length_cons, List.length_nil, List.take_succ_cons, List.take_zero, Nat.mul_one, Nat.zero_add, Nat.add_zero, Nat.one_mul, Nat.zero_mul, List.getElem?_map, List.getElem?_drop, List.getElem?_take, List.length_map, Option.map_some, List.set_cons_zero, List.set_cons_succ, and_true, true_and, List.flatMap_cons, List.flatMap_nil, Bool.not_not]
  refine wpa_call (is_a o a) ?_
  rintro x rfl
  cases ha : inR o a with
  | false =>
    simp (maxSteps := 1000000) (implicitDefEqProofs := false) (disch := omega) only [push_cast, ↓reduceIte, Nat.reduceEqDiff, reduceCtorEq, decide_true, decide_false, Bool.not_true, Bool.not_false, Option.isNone_some, Option.isNone_none, List.drop_zero, List.drop_succ_cons, List.getElem?_cons_zero, List.getElem?_cons_succ, List.length_cons, List.length_nil, List.take_succ_cons, List.take_zero, Nat.mul_one, Nat.zero_add, Nat.add_zero, Nat.one_mul, Nat.zero_mul, List.getElem?_map, List.getElem?_drop, List.getElem?_take, List.length_map, Option.map_some, List.set_cons_zero, List.set_cons_succ, and_true, true_and, List.flatMap_cons, List.flatMap_nil, Bool.not_not, aBool]
    exact fin_v (by simp [befR, ha, aBool])
  | true =>
    simp (maxSteps := 1000000) (implicitDefEqProofs := false) (disch := omega) only [push_cast, ↓reduceIte, Nat.reduceEqDiff, reduceCtorEq, decide_true, decide_false, Bool.not_true, Bool.not_false, Option.isNone_some, Option.isNone_none, List.drop_zero, List.drop_succ_cons, List.getElem?_cons_zero, List.getElem?_cons_succ, List.length_cons, List.length_nil, List.take_succ_cons, List.take_zero, Nat.mul_one, Nat.zero_add, Nat.add_zero, Nat.one_mul, Nat.zero_mul, List.getElem?_map, List.getElem?_drop, List.getElem?_take, List.length_map, Option.map_some, List.set_cons_zero, List.set_cons_succ, and_true, true_and, List.flatMap_cons, List.flatMap_nil, Bool.not_not, aBool]
    refine wpa_call (is_a o b) ?_
    rintro x rfl
    cases hb : inR o b with
    | false =>
      simp (maxSteps := 1000000) (implicitDefEqProofs := false) (disch := omega) only [push_cast, ↓reduceIte, Nat.reduceEqDiff, reduceCtorEq, decide_true, decide_false, Bool.not_true, Bool.not_false, Option.isNone_some, Option.isNone_none, List.drop_zero, List.drop_succ_cons, List.getElem?_cons_zero, List.getElem?_cons_succ, List.length_cons, List.length_nil, List.take_succ_cons, List.take_zero, Nat.mul_one, Nat.zero_add, Nat.add_zero, Nat.one_mul, Nat.zero_mul, List.getElem?_map, List.getElem?_drop, List.getElem?_take, List.length_map, Option.map_some, List.set_cons_zero, List.set_cons_succ, and_true, true_and, List.flatMap_cons, List.flatMap_nil, Bool.not_not, aBool]
      exact fin_v (by simp [befR, ha, hb, aBool])
    | true =>
      by_cases hab : a < b
      · have ha' := ha
        have hb' := hb
        simp only [inR, Bool.and_eq_true, decide_eq_true_eq] at ha' hb'
        cases o with
        | none => simp [lenR] at ha'; omega
        | some M =>
          simp only [lenR] at ha' hb'
          obtain ⟨p, rfl⟩ : ∃ p : Nat, a = p := ⟨a.toNat, by omega⟩
          obtain ⟨q, rfl⟩ : ∃ q : Nat, b = q := ⟨b.toNat, by omega⟩
          obtain ⟨ws, hws⟩ := at_lt (l := M) (k := q) (by omega)
          have hwl := ho.2 q ws hws
          have hlim := ho.1
          simp only [lenR] at hlim
          obtain ⟨w, hw⟩ := at_lt (l := ws) (k := p / 64) (by omega)
          simp (maxSteps := 1000000) (implicitDefEqProofs := false) (disch := omega) only [push_cast, ↓reduceIte, Nat.reduceEqDiff, reduceCtorEq, decide_true, decide_false, Bool.not_true, Bool.not_false, Option.isNone_some, Option.isNone_none, List.drop_zero, List.drop_succ_cons, List.getElem?_cons_zero, List.getElem?_cons_succ, List.length_cons, List.length_nil, List.take_succ_cons, List.take_zero, Nat.mul_one, Nat.zero_add, Nat.add_zero, Nat.one_mul, Nat.zero_mul, List.getElem?_map, List.getElem?_drop, List.getElem?_take, List.length_map, Option.map_some, List.set_cons_zero, List.set_cons_succ, and_true, true_and, List.flatMap_cons, List.flatMap_nil, Bool.not_not, aBool, aInt, aR, aReach, hws, aU64s, aSl, div64, hw, aU64]
          refine fin_v ?_
          rw [mod64, bit_spec]
          simp [befR, ha, hb, aBool, bitR, List.getD_eq_getElem?_getD, hws, hw]
          omega
      · simp (maxSteps := 1000000) (implicitDefEqProofs := false) (disch := omega) only [push_cast, ↓reduceIte, Nat.reduceEqDiff, reduceCtorEq, decide_true, decide_false, Bool.not_true, Bool.not_false, Option.isNone_some, Option.isNone_none, List.drop_zero, List.drop_succ_cons, List.getElem?_cons_zero, List.getElem?_cons_succ, List.length_cons, List.length_nil, List.take_succ_cons, List.take_zero, Nat.mul_one, Nat.zero_add, Nat.add_zero, Nat.one_mul, Nat.zero_mul, List.getElem?_map, List.getElem?_drop, List.getElem?_take, List.length_map, Option.map_some, List.set_cons_zero, List.set_cons_succ, and_true, true_and, List.flatMap_cons, List.flatMap_nil, Bool.not_not, aBool, aInt]
        exact fin_v (by simp [befR, aBool, hab])
theorem Apart_a (o : Option (List (List Nat))) (ho : wfR o) (a b : Int) : FnP Try.prog 52 [aR o, aInt a, aInt b] fun r => r = aBool (aparR o a b) := by
  refine fnP_in K_reach_Reach_Apart mixed rfl (by simp [AV.pureL, aR_pure, aInt, AV.pure]) ?_
  simp only [S_reach_Reach_Apart]
  simp (maxSteps := 1000000) (implicitDefEqProofs := false) (disch := omega) only [push_cast, ↓reduceIte, Nat.reduceEqDiff, reduceCtorEq, decide_true, decide_false, Bool.not_true, Bool.not_false, Option.isNone_some, Option.isNone_none, List.drop_zero, List.drop_succ_cons, List.getElem?_cons_zero, List.getElem?_cons_succ, List.length_cons, List.length_nil, List.take_succ_cons, List.take_zero, Nat.mul_one, Nat.zero_add, Nat.add_zero, Nat.one_mul, Nat.zero_mul, List.getElem?_map, List.getElem?_drop, List.getElem?_take, List.length_map, Option.map_some, List.set_cons_zero, List.set_cons_succ, and_true, true_and, List.flatMap_cons, List.flatMap_nil, Bool.not_not]
  refine wpa_call (is_a o a) ?_
  rintro x rfl
  cases ha : inR o a with
  | false =>
    simp (maxSteps := 1000000) (implicitDefEqProofs := false) (disch := omega) only [push_cast, ↓reduceIte, Nat.reduceEqDiff, reduceCtorEq, decide_true, decide_false, Bool.not_true, Bool.not_false, Option.isNone_some, Option.isNone_none, List.drop_zero, List.drop_succ_cons, List.getElem?_cons_zero, List.getElem?_cons_succ, List.length_cons, List.length_nil, List.take_succ_cons, List.take_zero, Nat.mul_one, Nat.zero_add, Nat.add_zero, Nat.one_mul, Nat.zero_mul, List.getElem?_map, List.getElem?_drop, List.getElem?_take, List.length_map, Option.map_some, List.set_cons_zero, List.set_cons_succ, and_true, true_and, List.flatMap_cons, List.flatMap_nil, Bool.not_not, aBool]
    exact fin_v (by simp [aparR, ha, aBool])
  | true =>
    simp (maxSteps := 1000000) (implicitDefEqProofs := false) (disch := omega) only [push_cast, ↓reduceIte, Nat.reduceEqDiff, reduceCtorEq, decide_true, decide_false, Bool.not_true, Bool.not_false, Option.isNone_some, Option.isNone_none, List.drop_zero, List.drop_succ_cons, List.getElem?_cons_zero, List.getElem?_cons_succ, List.length_cons, List.length_nil, List.take_succ_cons, List.take_zero, Nat.mul_one, Nat.zero_add, Nat.add_zero, Nat.one_mul, Nat.zero_mul, List.getElem?_map, List.getElem?_drop, List.getElem?_take, List.length_map, Option.map_some, List.set_cons_zero, List.set_cons_succ, and_true, true_and, List.flatMap_cons, List.flatMap_nil, Bool.not_not, aBool]
    refine wpa_call (is_a o b) ?_
    rintro x rfl
    cases hb : inR o b with
    | false =>
      simp (maxSteps := 1000000) (implicitDefEqProofs := false) (disch := omega) only [push_cast, ↓reduceIte, Nat.reduceEqDiff, reduceCtorEq, decide_true, decide_false, Bool.not_true, Bool.not_false, Option.isNone_some, Option.isNone_none, List.drop_zero, List.drop_succ_cons, List.getElem?_cons_zero, List.getElem?_cons_succ, List.length_cons, List.length_nil, List.take_succ_cons, List.take_zero, Nat.mul_one, Nat.zero_add, Nat.add_zero, Nat.one_mul, Nat.zero_mul, List.getElem?_map, List.getElem?_drop, List.getElem?_take, List.length_map, Option.map_some, List.set_cons_zero, List.set_cons_succ, and_true, true_and, List.flatMap_cons, List.flatMap_nil, Bool.not_not, aBool]
      exact fin_v (by simp [aparR, ha, hb, aBool])
    | true =>
      by_cases hab : a = b
      · simp (maxSteps := 1000000) (implicitDefEqProofs := false) (disch := omega) only [push_cast, ↓reduceIte, Nat.reduceEqDiff, reduceCtorEq, decide_true, decide_false, Bool.not_true, Bool.not_false, Option.isNone_some, Option.isNone_none, List.drop_zero, List.drop_succ_cons, List.getElem?_cons_zero, List.getElem?_cons_succ, List.length_cons, List.length_nil, List.take_succ_cons, List.take_zero, Nat.mul_one, Nat.zero_add, Nat.add_zero, Nat.one_mul, Nat.zero_mul, List.getElem?_map, List.getElem?_drop, List.getElem?_take, List.length_map, Option.map_some, List.set_cons_zero, List.set_cons_succ, and_true, true_and, List.flatMap_cons, List.flatMap_nil, Bool.not_not, aBool, aInt]
        exact fin_v (by simp [aparR, hab, aBool])
      · simp (maxSteps := 1000000) (implicitDefEqProofs := false) (disch := omega) only [push_cast, ↓reduceIte, Nat.reduceEqDiff, reduceCtorEq, decide_true, decide_false, Bool.not_true, Bool.not_false, Option.isNone_some, Option.isNone_none, List.drop_zero, List.drop_succ_cons, List.getElem?_cons_zero, List.getElem?_cons_succ, List.length_cons, List.length_nil, List.take_succ_cons, List.take_zero, Nat.mul_one, Nat.zero_add, Nat.add_zero, Nat.one_mul, Nat.zero_mul, List.getElem?_map, List.getElem?_drop, List.getElem?_take, List.length_map, Option.map_some, List.set_cons_zero, List.set_cons_succ, and_true, true_and, List.flatMap_cons, List.flatMap_nil, Bool.not_not, aBool, aInt]
        refine wpa_call (Before_a o ho a b) ?_
        rintro x rfl
        cases h1 : befR o a b with
        | true =>
          simp (maxSteps := 1000000) (implicitDefEqProofs := false) (disch := omega) only [push_cast, ↓reduceIte, Nat.reduceEqDiff, reduceCtorEq, decide_true, decide_false, Bool.not_true, Bool.not_false, Option.isNone_some, Option.isNone_none, List.drop_zero, List.drop_succ_cons, List.getElem?_cons_zero, List.getElem?_cons_succ, List.length_cons, List.length_nil, List.take_succ_cons, List.take_zero, Nat.mul_one, Nat.zero_add, Nat.add_zero, Nat.one_mul, Nat.zero_mul, List.getElem?_map, List.getElem?_drop, List.getElem?_take, List.length_map, Option.map_some, List.set_cons_zero, List.set_cons_succ, and_true, true_and, List.flatMap_cons, List.flatMap_nil, Bool.not_not, aBool]
          exact fin_v (by simp [aparR, h1, aBool])
        | false =>
          simp (maxSteps := 1000000) (implicitDefEqProofs := false) (disch := omega) only [push_cast, ↓reduceIte, Nat.reduceEqDiff, reduceCtorEq, decide_true, decide_false, Bool.not_true, Bool.not_false, Option.isNone_some, Option.isNone_none, List.drop_zero, List.drop_succ_cons, List.getElem?_cons_zero, List.getElem?_cons_succ, List.length_cons, List.length_nil, List.take_succ_cons, List.take_zero, Nat.mul_one, Nat.zero_add, Nat.add_zero, Nat.one_mul, Nat.zero_mul, List.getElem?_map, List.getElem?_drop, List.getElem?_take, List.length_map, Option.map_some, List.set_cons_zero, List.set_cons_succ, and_true, true_and, List.flatMap_cons, List.flatMap_nil, Bool.not_not, aBool]
          refine wpa_call (Before_a o ho b a) ?_
          rintro x rfl
          simp (maxSteps := 1000000) (implicitDefEqProofs := false) (disch := omega) only [push_cast, ↓reduceIte, Nat.reduceEqDiff, reduceCtorEq, decide_true, decide_false, Bool.not_true, Bool.not_false, Option.isNone_some, Option.isNone_none, List.drop_zero, List.drop_succ_cons, List.getElem?_cons_zero, List.getElem?_cons_succ, List.length_cons, List.length_nil, List.take_succ_cons, List.take_zero, Nat.mul_one, Nat.zero_add, Nat.add_zero, Nat.one_mul, Nat.zero_mul, List.getElem?_map, List.getElem?_drop, List.getElem?_take, List.length_map, Option.map_some, List.set_cons_zero, List.set_cons_succ, and_true, true_and, List.flatMap_cons, List.flatMap_nil, Bool.not_not, aBool]
          exact fin_v (by simp [aparR, ha, hb, hab, h1, aBool])
end Go.Proofs.Ytilofhocodbknaa
