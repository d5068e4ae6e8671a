/- Contracts on annotated values: sink.Differ, compare.same, alike. -/
import Derived.Test.YtilofhocodbknaaRxl
import Derived.Test.YtilofhocodbknaaVk
import Derived.Test.YtilofhocodbknaaCCmp
namespace Go.Proofs.Ytilofhocodbknaa
set_option linter.unusedVariables false
set_option linter.unusedSimpArgs false
open Go Go.Kx Go.Proofs

@[push_cast] theorem app_nil3 {α : Type} (l : List α) : [] ++ l = l := rfl
@[push_cast] theorem app_cons3 {α : Type} (a : α) (k l : List α) : a :: k ++ l = a :: (k ++ l) := rfl

@[push_cast] theorem av_eqs2 (ng : Bool) (k k' : IntKind) (a b c d : Int) : PF.av (.eqs ng [.int k, .int k']) [.agg [.v (.int k a), .v (.int k' b)], .agg [.v (.int k c), .v (.int k' d)]] = some (.v (.bool (if ng then !(decide (a = c) && decide (b = d)) else (decide (a = c) && decide (b = d))))) := by
  have h : eqCs [.int k, .int k'] [.int k a, .int k' b] [.int k c, .int k' d] = some (decide (a = c) && decide (b = d)) := by
    simp only [eqCs, eqC, if_true]
    by_cases h1 : a = c
    · by_cases h2 : b = d
      · simp [h1, h2]
      · have : (b == d) = false := by simpa using h2
        simp [h1, h2, this]
    · have : (a == c) = false := by simpa using h1
      simp [h1, this]
  show ((PF.val (.eqs ng [.int k, .int k']) [.agg [.int k a, .int k' b].toArray, .agg [.int k c, .int k' d].toArray]).map AV.v) = _
  simp only [PF.val]
  simp [h]

set_option maxHeartbeats 1000000 in
theorem sink_Differ_a (a b : List Int) (ha : a.length ≤ 1000000) (hb : b.length ≤ 1000000) : FnP Try.prog 126 [aInts a, aInts b] fun r => ∃ i : Int, r = .tup [aInt i, aBool (!(a == b))] := by
  refine fnP_in K_sink_Differ mixed rfl (by simp [AV.pureL, aInts_pure]) ?_
  simp only [S_sink_Differ, aInts, aSl]
  obtain ⟨m, hm⟩ : ∃ m : Nat, min (a.length : Int) b.length = m := ⟨min a.length b.length, by omega⟩
  simp (maxSteps := 1000000) (implicitDefEqProofs := false) (disch := omega) only [push_cast, ↓reduceIte, Nat.reduceEqDiff, reduceCtorEq, decide_true, decide_false, Bool.not_true, Bool.not_false, Option.isNone_some, Option.isNone_none, List.drop_zero, List.drop_succ_cons, List.getElem?_cons_zero, List.getElem?_cons_succ, List.length_cons, List.length_nil, List.take_succ_cons, List.take_zero, Nat.mul_one, Nat.zero_add, Nat.add_zero, Nat.one_mul, Nat.zero_mul, List.getElem?_map, List.getElem?_drop, List.getElem?_take, List.length_map, Option.map_some, List.set_cons_zero, List.set_cons_succ, and_true, true_and, List.flatMap_cons, List.flatMap_nil, Bool.not_not, hm]
  refine wpa_bl (α := Nat) (I := fun t ε σ => (ε 0 = .sl a.length (a.map aInt) .none ∧ ε 1 = .sl b.length (b.map aInt) .none ∧ ε 11 = .v (.int .i64 m) ∧ ε 12 = .v (.int .i64 t)) ∧ t ≤ m ∧ a.take t = b.take t)
    (μ := fun t => m - t) (Q := fun ε _ => (ε 0 = .sl a.length (a.map aInt) .none ∧ ε 1 = .sl b.length (b.map aInt) .none) ∧ a.take m = b.take m) (x := 0) ?_ ?_ ?_
  · simp (maxSteps := 1000000) (implicitDefEqProofs := false) (disch := omega) only [push_cast, ↓reduceIte, Nat.reduceEqDiff, reduceCtorEq, decide_true, decide_false, Bool.not_true, Bool.not_false, Option.isNone_some, Option.isNone_none, List.drop_zero, List.drop_succ_cons, List.getElem?_cons_zero, List.getElem?_cons_succ, List.length_cons, List.length_nil, List.take_succ_cons, List.take_zero, Nat.mul_one, Nat.zero_add, Nat.add_zero, Nat.one_mul, Nat.zero_mul, List.getElem?_map, List.getElem?_drop, List.getElem?_take, List.length_map, Option.map_some, List.set_cons_zero, List.set_cons_succ, and_true, true_and, List.flatMap_cons, List.flatMap_nil, Bool.not_not]
    omega
  · rintro t ε σ N E ⟨hρ, ht, heq⟩ hN hE
    simp only [S_sink_Differ_L1]
    by_cases hlt : t < m
    · obtain ⟨x, hx⟩ := at_lt (l := a) (k := t) (by omega)
      obtain ⟨y, hy⟩ := at_lt (l := b) (k := t) (by omega)
      by_cases he : x = y
      · subst he
        simp (maxSteps := 1000000) (implicitDefEqProofs := false) (disch := omega) only [push_cast, ↓reduceIte, Nat.reduceEqDiff, reduceCtorEq, decide_true, decide_false, Bool.not_true, Bool.not_false, Option.isNone_some, Option.isNone_none, List.drop_zero, List.drop_succ_cons, List.getElem?_cons_zero, List.getElem?_cons_succ, List.length_cons, List.length_nil, List.take_succ_cons, List.take_zero, Nat.mul_one, Nat.zero_add, Nat.add_zero, Nat.one_mul, Nat.zero_mul, List.getElem?_map, List.getElem?_drop, List.getElem?_take, List.length_map, Option.map_some, List.set_cons_zero, List.set_cons_succ, and_true, true_and, List.flatMap_cons, List.flatMap_nil, Bool.not_not, hρ, hx, hy, aInt]
        refine hN (t + 1) _ _ ?_ (by omega)
        simp (maxSteps := 1000000) (implicitDefEqProofs := false) (disch := omega) only [push_cast, ↓reduceIte, Nat.reduceEqDiff, reduceCtorEq, decide_true, decide_false, Bool.not_true, Bool.not_false, Option.isNone_some, Option.isNone_none, List.drop_zero, List.drop_succ_cons, List.getElem?_cons_zero, List.getElem?_cons_succ, List.length_cons, List.length_nil, List.take_succ_cons, List.take_zero, Nat.mul_one, Nat.zero_add, Nat.add_zero, Nat.one_mul, Nat.zero_mul, List.getElem?_map, List.getElem?_drop, List.getElem?_take, List.length_map, Option.map_some, List.set_cons_zero, List.set_cons_succ, and_true, true_and, List.flatMap_cons, List.flatMap_nil, Bool.not_not, hρ]
        exact ⟨by omega, by rw [take_succ_at hx, take_succ_at hy, heq]⟩
      · simp (maxSteps := 1000000) (implicitDefEqProofs := false) (disch := omega) only [push_cast, ↓reduceIte, Nat.reduceEqDiff, reduceCtorEq, decide_true, decide_false, Bool.not_true, Bool.not_false, Option.isNone_some, Option.isNone_none, List.drop_zero, List.drop_succ_cons, List.getElem?_cons_zero, List.getElem?_cons_succ, List.length_cons, List.length_nil, List.take_succ_cons, List.take_zero, Nat.mul_one, Nat.zero_add, Nat.add_zero, Nat.one_mul, Nat.zero_mul, List.getElem?_map, List.getElem?_drop, List.getElem?_take, List.length_map, Option.map_some, List.set_cons_zero, List.set_cons_succ, and_true, true_and, List.flatMap_cons, List.flatMap_nil, Bool.not_not, hρ, hx, hy, aInt, he]
        have : a ≠ b := by
          intro e; subst e; rw [hx] at hy; cases hy; exact he rfl
        exact ⟨[], rfl, (t : Int), by simp [AV.res, AV.resL, aInt, aBool, this]⟩
    · simp (maxSteps := 1000000) (implicitDefEqProofs := false) (disch := omega) only [push_cast, ↓reduceIte, Nat.reduceEqDiff, reduceCtorEq, decide_true, decide_false, Bool.not_true, Bool.not_false, Option.isNone_some, Option.isNone_none, List.drop_zero, List.drop_succ_cons, List.getElem?_cons_zero, List.getElem?_cons_succ, List.length_cons, List.length_nil, List.take_succ_cons, List.take_zero, Nat.mul_one, Nat.zero_add, Nat.add_zero, Nat.one_mul, Nat.zero_mul, List.getElem?_map, List.getElem?_drop, List.getElem?_take, List.length_map, Option.map_some, List.set_cons_zero, List.set_cons_succ, and_true, true_and, List.flatMap_cons, List.flatMap_nil, Bool.not_not, hρ]
      refine hE _ _ ?_
      have : t = m := by omega
      subst this
      simp (maxSteps := 1000000) (implicitDefEqProofs := false) (disch := omega) only [push_cast, ↓reduceIte, Nat.reduceEqDiff, reduceCtorEq, decide_true, decide_false, Bool.not_true, Bool.not_false, Option.isNone_some, Option.isNone_none, List.drop_zero, List.drop_succ_cons, List.getElem?_cons_zero, List.getElem?_cons_succ, List.length_cons, List.length_nil, List.take_succ_cons, List.take_zero, Nat.mul_one, Nat.zero_add, Nat.add_zero, Nat.one_mul, Nat.zero_mul, List.getElem?_map, List.getElem?_drop, List.getElem?_take, List.length_map, Option.map_some, List.set_cons_zero, List.set_cons_succ, and_true, true_and, List.flatMap_cons, List.flatMap_nil, Bool.not_not, hρ]
      exact heq
  · rintro ε σ ⟨hρ, heq⟩
    by_cases hl : a.length = b.length
    · have : a = b := by
        rwa [List.take_of_length_le (by omega), List.take_of_length_le (by omega)] at heq
      simp (maxSteps := 1000000) (implicitDefEqProofs := false) (disch := omega) only [push_cast, ↓reduceIte, Nat.reduceEqDiff, reduceCtorEq, decide_true, decide_false, Bool.not_true, Bool.not_false, Option.isNone_some, Option.isNone_none, List.drop_zero, List.drop_succ_cons, List.getElem?_cons_zero, List.getElem?_cons_succ, List.length_cons, List.length_nil, List.take_succ_cons, List.take_zero, Nat.mul_one, Nat.zero_add, Nat.add_zero, Nat.one_mul, Nat.zero_mul, List.getElem?_map, List.getElem?_drop, List.getElem?_take, List.length_map, Option.map_some, List.set_cons_zero, List.set_cons_succ, and_true, true_and, List.flatMap_cons, List.flatMap_nil, Bool.not_not, hρ, hl]
      exact ⟨[], rfl, 0, by simp [AV.res, AV.resL, aInt, aBool, this]⟩
    · have : a ≠ b := by intro e; subst e; exact hl rfl
      simp (maxSteps := 1000000) (implicitDefEqProofs := false) (disch := omega) only [push_cast, ↓reduceIte, Nat.reduceEqDiff, reduceCtorEq, decide_true, decide_false, Bool.not_true, Bool.not_false, Option.isNone_some, Option.isNone_none, List.drop_zero, List.drop_succ_cons, List.getElem?_cons_zero, List.getElem?_cons_succ, List.length_cons, List.length_nil, List.take_succ_cons, List.take_zero, Nat.mul_one, Nat.zero_add, Nat.add_zero, Nat.one_mul, Nat.zero_mul, List.getElem?_map, List.getElem?_drop, List.getElem?_take, List.length_map, Option.map_some, List.set_cons_zero, List.set_cons_succ, and_true, true_and, List.flatMap_cons, List.flatMap_nil, Bool.not_not, hρ, hl, hm]
      exact ⟨[], rfl, (m : Int), by simp [AV.res, AV.resL, aInt, aBool, this]⟩
theorem compare_same_a (a b : List Int) (ha : a.length ≤ 1000000) (hb : b.length ≤ 1000000) : FnP Try.prog 112 [aInts a, aInts b] fun r => r = aBool (a == b) := by
  refine fnP_in K_compare_same mixed rfl (by simp [AV.pureL, aInts_pure]) ?_
  simp only [S_compare_same]
  simp (maxSteps := 1000000) (implicitDefEqProofs := false) (disch := omega) only [push_cast, ↓reduceIte, Nat.reduceEqDiff, reduceCtorEq, decide_true, decide_false, Bool.not_true, Bool.not_false, Option.isNone_some, Option.isNone_none, List.drop_zero, List.drop_succ_cons, List.getElem?_cons_zero, List.getElem?_cons_succ, List.length_cons, List.length_nil, List.take_succ_cons, List.take_zero, Nat.mul_one, Nat.zero_add, Nat.add_zero, Nat.one_mul, Nat.zero_mul, List.getElem?_map, List.getElem?_drop, List.getElem?_take, List.length_map, Option.map_some, List.set_cons_zero, List.set_cons_succ, and_true, true_and, List.flatMap_cons, List.flatMap_nil, Bool.not_not]
  refine wpa_call (sink_Differ_a a b ha hb) ?_
  rintro _ ⟨i, rfl⟩
  simp (maxSteps := 1000000) (implicitDefEqProofs := false) (disch := omega) only [push_cast, ↓reduceIte, Nat.reduceEqDiff, reduceCtorEq, decide_true, decide_false, Bool.not_true, Bool.not_false, Option.isNone_some, Option.isNone_none, List.drop_zero, List.drop_succ_cons, List.getElem?_cons_zero, List.getElem?_cons_succ, List.length_cons, List.length_nil, List.take_succ_cons, List.take_zero, Nat.mul_one, Nat.zero_add, Nat.add_zero, Nat.one_mul, Nat.zero_mul, List.getElem?_map, List.getElem?_drop, List.getElem?_take, List.length_map, Option.map_some, List.set_cons_zero, List.set_cons_succ, and_true, true_and, List.flatMap_cons, List.flatMap_nil, Bool.not_not, aBool, aInt]
  exact ⟨[], rfl⟩

/-- A result: its status, why, output, memory, and what was counted. -/
structure RR where
  st : Int
  wy : Int
  out : List Int
  mem : List Int
  s0 : Int
  s1 : Int
  s2 : Int
  s3 : Int
  s4 : Int
  s5 : Int
  s6 : Int
def aRR (r : RR) : List AV := [.v (.int .i64 r.st), .v (.int .i64 r.wy), aInts r.out, aInts r.mem, .v (.int .i64 r.s0), .v (.int .i64 r.s1), .v (.int .i64 r.s2), .v (.int .i64 r.s3), .v (.int .i64 r.s4), .v (.int .i64 r.s5), .v (.int .i64 r.s6)]
theorem aRR_pure (r : RR) : AV.pureL (aRR r) = true := by simp [aRR, AV.pureL, AV.pure, aInts_pure]
theorem aRR_res (σ : St) (r : RR) : AV.resL σ (aRR r) = aRR r := by simp [aRR, AV.resL, AV.res, aInts_res]
def okR (r : RR) : Prop := r.out.length ≤ 1000000 ∧ r.mem.length ≤ 1000000
def alikeB (a b : RR) : Bool := decide (a.st = b.st) && decide (a.wy = b.wy) && (a.out == b.out) && (a.mem == b.mem)

set_option maxHeartbeats 1000000 in
theorem compare_alike_a (a b : RR) (ha : okR a) (hb : okR b) : FnP Try.prog 88 [.agg (aRR a), .agg (aRR b)] fun r => r = aBool (alikeB a b) := by
  refine fnP_in K_compare_alike mixed rfl (by simp [AV.pureL, AV.pure, aRR_pure]) ?_
  simp only [S_compare_alike]
  simp (maxSteps := 1000000) (implicitDefEqProofs := false) (disch := omega) only [push_cast, ↓reduceIte, Nat.reduceEqDiff, reduceCtorEq, decide_true, decide_false, Bool.not_true, Bool.not_false, Option.isNone_some, Option.isNone_none, List.drop_zero, List.drop_succ_cons, List.getElem?_cons_zero, List.getElem?_cons_succ, List.length_cons, List.length_nil, List.take_succ_cons, List.take_zero, Nat.mul_one, Nat.zero_add, Nat.add_zero, Nat.one_mul, Nat.zero_mul, List.getElem?_map, List.getElem?_drop, List.getElem?_take, List.length_map, Option.map_some, List.set_cons_zero, List.set_cons_succ, and_true, true_and, List.flatMap_cons, List.flatMap_nil, Bool.not_not]
  refine wpa_box ?_
  simp (maxSteps := 1000000) (implicitDefEqProofs := false) (disch := omega) only [push_cast, ↓reduceIte, Nat.reduceEqDiff, reduceCtorEq, decide_true, decide_false, Bool.not_true, Bool.not_false, Option.isNone_some, Option.isNone_none, List.drop_zero, List.drop_succ_cons, List.getElem?_cons_zero, List.getElem?_cons_succ, List.length_cons, List.length_nil, List.take_succ_cons, List.take_zero, Nat.mul_one, Nat.zero_add, Nat.add_zero, Nat.one_mul, Nat.zero_mul, List.getElem?_map, List.getElem?_drop, List.getElem?_take, List.length_map, Option.map_some, List.set_cons_zero, List.set_cons_succ, and_true, true_and, List.flatMap_cons, List.flatMap_nil, Bool.not_not]
  refine wpa_box ?_
  have hf : ∀ x y : Int, fillA [AV.v (.int .i64 0), AV.v (.int .i64 0)] [(0, 1), (1, 1)] [AV.v (.int .i64 x), AV.v (.int .i64 y)] = some [AV.v (.int .i64 x), AV.v (.int .i64 y)] := fun x y => by simp [fillA, AV.cells, Value.cells, setAtA]
  by_cases h1 : a.st = b.st
  · by_cases h2 : a.wy = b.wy
    · simp (maxSteps := 1000000) (implicitDefEqProofs := false) (disch := omega) only [push_cast, ↓reduceIte, Nat.reduceEqDiff, reduceCtorEq, decide_true, decide_false, Bool.not_true, Bool.not_false, Option.isNone_some, Option.isNone_none, List.drop_zero, List.drop_succ_cons, List.getElem?_cons_zero, List.getElem?_cons_succ, List.length_cons, List.length_nil, List.take_succ_cons, List.take_zero, Nat.mul_one, Nat.zero_add, Nat.add_zero, Nat.one_mul, Nat.zero_mul, List.getElem?_map, List.getElem?_drop, List.getElem?_take, List.length_map, Option.map_some, List.set_cons_zero, List.set_cons_succ, and_true, true_and, List.flatMap_cons, List.flatMap_nil, Bool.not_not, AV.cells, aRR, hf, h1, h2, Bool.and_true, Bool.true_and, Bool.and_false]
      refine wpa_call (compare_same_a a.out b.out ha.1 hb.1) ?_
      rintro r rfl
      cases h3 : (a.out == b.out) with
      | true =>
        simp (maxSteps := 1000000) (implicitDefEqProofs := false) (disch := omega) only [push_cast, ↓reduceIte, Nat.reduceEqDiff, reduceCtorEq, decide_true, decide_false, Bool.not_true, Bool.not_false, Option.isNone_some, Option.isNone_none, List.drop_zero, List.drop_succ_cons, List.getElem?_cons_zero, List.getElem?_cons_succ, List.length_cons, List.length_nil, List.take_succ_cons, List.take_zero, Nat.mul_one, Nat.zero_add, Nat.add_zero, Nat.one_mul, Nat.zero_mul, List.getElem?_map, List.getElem?_drop, List.getElem?_take, List.length_map, Option.map_some, List.set_cons_zero, List.set_cons_succ, and_true, true_and, List.flatMap_cons, List.flatMap_nil, Bool.not_not, aBool]
        refine wpa_call (compare_same_a a.mem b.mem ha.2 hb.2) ?_
        rintro r rfl
        simp (maxSteps := 1000000) (implicitDefEqProofs := false) (disch := omega) only [push_cast, ↓reduceIte, Nat.reduceEqDiff, reduceCtorEq, decide_true, decide_false, Bool.not_true, Bool.not_false, Option.isNone_some, Option.isNone_none, List.drop_zero, List.drop_succ_cons, List.getElem?_cons_zero, List.getElem?_cons_succ, List.length_cons, List.length_nil, List.take_succ_cons, List.take_zero, Nat.mul_one, Nat.zero_add, Nat.add_zero, Nat.one_mul, Nat.zero_mul, List.getElem?_map, List.getElem?_drop, List.getElem?_take, List.length_map, Option.map_some, List.set_cons_zero, List.set_cons_succ, and_true, true_and, List.flatMap_cons, List.flatMap_nil, Bool.not_not, aBool]
        exact ⟨[], rfl, by simp [alikeB, h1, h2, h3]⟩
      | false =>
        simp (maxSteps := 1000000) (implicitDefEqProofs := false) (disch := omega) only [push_cast, ↓reduceIte, Nat.reduceEqDiff, reduceCtorEq, decide_true, decide_false, Bool.not_true, Bool.not_false, Option.isNone_some, Option.isNone_none, List.drop_zero, List.drop_succ_cons, List.getElem?_cons_zero, List.getElem?_cons_succ, List.length_cons, List.length_nil, List.take_succ_cons, List.take_zero, Nat.mul_one, Nat.zero_add, Nat.add_zero, Nat.one_mul, Nat.zero_mul, List.getElem?_map, List.getElem?_drop, List.getElem?_take, List.length_map, Option.map_some, List.set_cons_zero, List.set_cons_succ, and_true, true_and, List.flatMap_cons, List.flatMap_nil, Bool.not_not, aBool]
        exact ⟨[], rfl, by simp [alikeB, h3]⟩
    · simp (maxSteps := 1000000) (implicitDefEqProofs := false) (disch := omega) only [push_cast, ↓reduceIte, Nat.reduceEqDiff, reduceCtorEq, decide_true, decide_false, Bool.not_true, Bool.not_false, Option.isNone_some, Option.isNone_none, List.drop_zero, List.drop_succ_cons, List.getElem?_cons_zero, List.getElem?_cons_succ, List.length_cons, List.length_nil, List.take_succ_cons, List.take_zero, Nat.mul_one, Nat.zero_add, Nat.add_zero, Nat.one_mul, Nat.zero_mul, List.getElem?_map, List.getElem?_drop, List.getElem?_take, List.length_map, Option.map_some, List.set_cons_zero, List.set_cons_succ, and_true, true_and, List.flatMap_cons, List.flatMap_nil, Bool.not_not, AV.cells, aRR, hf, h1, h2, Bool.and_true, Bool.true_and, Bool.and_false]
      exact ⟨[], rfl, by simp [alikeB, h2, aBool]⟩
  · simp (maxSteps := 1000000) (implicitDefEqProofs := false) (disch := omega) only [push_cast, ↓reduceIte, Nat.reduceEqDiff, reduceCtorEq, decide_true, decide_false, Bool.not_true, Bool.not_false, Option.isNone_some, Option.isNone_none, List.drop_zero, List.drop_succ_cons, List.getElem?_cons_zero, List.getElem?_cons_succ, List.length_cons, List.length_nil, List.take_succ_cons, List.take_zero, Nat.mul_one, Nat.zero_add, Nat.add_zero, Nat.one_mul, Nat.zero_mul, List.getElem?_map, List.getElem?_drop, List.getElem?_take, List.length_map, Option.map_some, List.set_cons_zero, List.set_cons_succ, and_true, true_and, List.flatMap_cons, List.flatMap_nil, Bool.not_not, AV.cells, aRR, hf, h1, Bool.false_and]
    exact ⟨[], rfl, by simp [alikeB, h1, aBool]⟩
end Go.Proofs.Ytilofhocodbknaa
