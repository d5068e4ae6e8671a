/- Contracts on annotated values: forebaylaw40.works. -/
import Derived.Test.YtilofhocodbknaaCpe
namespace Go.Proofs.Ytilofhocodbknaa
set_option linter.unusedVariables false
set_option linter.unusedSimpArgs false
open Go Go.Kx Go.Proofs

theorem eqCs_cons (k : IntKind) (cs : List CK) (x y : Int) (xs ys : List Value) (d : Bool) (h : eqCs cs xs ys = some d) : eqCs (.int k :: cs) (.int k x :: xs) (.int k y :: ys) = some (decide (x = y) && d) := by
  simp only [eqCs, eqC, if_true, h]
  by_cases e : x = y
  · simp [e]
  · have : (x == y) = false := by simpa using e
    simp [e, this]
theorem av_eqs6 (ng : Bool) (a b c d e f a' b' c' d' e' f' : Int) : PF.av (.eqs ng [.int .i64, .int .i64, .int .i64, .int .i64, .int .i64, .int .i64]) [.agg [.v (.int .i64 a), .v (.int .i64 b), .v (.int .i64 c), .v (.int .i64 d), .v (.int .i64 e), .v (.int .i64 f)], .agg [.v (.int .i64 a'), .v (.int .i64 b'), .v (.int .i64 c'), .v (.int .i64 d'), .v (.int .i64 e'), .v (.int .i64 f')]] =
    some (.v (.bool (if ng then !(decide (a = a') && (decide (b = b') && (decide (c = c') && (decide (d = d') && (decide (e = e') && (decide (f = f') && true)))))) else (decide (a = a') && (decide (b = b') && (decide (c = c') && (decide (d = d') && (decide (e = e') && (decide (f = f') && true))))))))) := by
  have h := eqCs_cons .i64 _ a a' _ _ _ (eqCs_cons .i64 _ b b' _ _ _ (eqCs_cons .i64 _ c c' _ _ _ (eqCs_cons .i64 _ d d' _ _ _ (eqCs_cons .i64 _ e e' _ _ _ (eqCs_cons .i64 [] f f' [] [] true rfl)))))
  show ((PF.val (.eqs ng [.int .i64, .int .i64, .int .i64, .int .i64, .int .i64, .int .i64]) [.agg [.int .i64 a, .int .i64 b, .int .i64 c, .int .i64 d, .int .i64 e, .int .i64 f].toArray, .agg [.int .i64 a', .int .i64 b', .int .i64 c', .int .i64 d', .int .i64 e', .int .i64 f'].toArray]).map AV.v) = _
  simp only [PF.val]
  simp [h]

def rA : RR := ⟨1, 0, [1], [2], 0, 0, 0, 0, 0, 0, 0⟩
def rB : RR := ⟨1, 0, [1], [2], 9, 0, 0, 0, 0, 0, 0⟩
def r0 : RR := ⟨0, 0, [], [], 0, 0, 0, 0, 0, 0, 0⟩
/-- The cells of a result that lies in an object of the code. -/
def cRF (s0 : Int) : List AV := [.v (.int .i64 1), .v (.int .i64 0), .sl 1 [.v (.int .i64 1)] .full, .sl 1 [.v (.int .i64 2)] .full, .v (.int .i64 s0), .v (.int .i64 0), .v (.int .i64 0), .v (.int .i64 0), .v (.int .i64 0), .v (.int .i64 0), .v (.int .i64 0)]
def cOF : List AV := [.v (.int .i64 1), .v (.int .i64 0), .sl 1 [.v (.int .i64 1)] .full, .sl 1 [.v (.int .i64 2)] .full, .v (.int .i64 0), .v (.int .i64 0), .v (.int .i64 0)]
def z7 : List AV := [.v (.int .i64 0), .v (.int .i64 0), .sl 0 [] .nil, .sl 0 [] .nil, .v (.int .i64 0), .v (.int .i64 0), .v (.int .i64 0)]
set_option maxHeartbeats 2000000 in
theorem law40_works_a : FnP Try.prog 24 [] fun a => a = aBool true := by
  refine fnP_in K_forebaylaw40_works mixed rfl rfl ?_
  simp only [S_forebaylaw40_works]
  simp (maxSteps := 1000000) (implicitDefEqProofs := false) (disch := omega) only [push_cast, ↓reduceIte, Nat.reduceEqDiff, reduceCtorEq, decide_true, decide_false, Bool.not_true, Bool.not_false, Option.isNone_some, Option.isNone_none, List.drop_zero, List.drop_succ_cons, List.getElem?_cons_zero, List.getElem?_cons_succ, List.length_cons, List.length_nil, List.take_succ_cons, List.take_zero, Nat.mul_one, Nat.zero_add, Nat.add_zero, Nat.one_mul, Nat.zero_mul, List.getElem?_map, List.getElem?_drop, List.getElem?_take, List.length_map, Option.map_some, List.set_cons_zero, List.set_cons_succ, and_true, true_and, List.flatMap_cons, List.flatMap_nil, Bool.not_not]
  refine wpa_bsl (by simp [AV.cells, Value.cells]) (by simp) ?_
  simp (maxSteps := 1000000) (implicitDefEqProofs := false) (disch := omega) only [push_cast, ↓reduceIte, Nat.reduceEqDiff, reduceCtorEq, decide_true, decide_false, Bool.not_true, Bool.not_false, Option.isNone_some, Option.isNone_none, List.drop_zero, List.drop_succ_cons, List.getElem?_cons_zero, List.getElem?_cons_succ, List.length_cons, List.length_nil, List.take_succ_cons, List.take_zero, Nat.mul_one, Nat.zero_add, Nat.add_zero, Nat.one_mul, Nat.zero_mul, List.getElem?_map, List.getElem?_drop, List.getElem?_take, List.length_map, Option.map_some, List.set_cons_zero, List.set_cons_succ, and_true, true_and, List.flatMap_cons, List.flatMap_nil, Bool.not_not]
  refine wpa_bsl (by simp [AV.cells, Value.cells]) (by simp) ?_
  have hf1 : fillA z11 [(0, 1), (2, 1), (3, 1)] [AV.v (.int .i64 1), .sl 1 [.v (.int .i64 1)] .full, .sl 1 [.v (.int .i64 2)] .full] = some (cRF 0) := by simp [fillA, AV.cells, Value.cells, setAtA, z11, cRF]
  simp only [z11] at hf1
  simp (maxSteps := 1000000) (implicitDefEqProofs := false) (disch := omega) only [push_cast, ↓reduceIte, Nat.reduceEqDiff, reduceCtorEq, decide_true, decide_false, Bool.not_true, Bool.not_false, Option.isNone_some, Option.isNone_none, List.drop_zero, List.drop_succ_cons, List.getElem?_cons_zero, List.getElem?_cons_succ, List.length_cons, List.length_nil, List.take_succ_cons, List.take_zero, Nat.mul_one, Nat.zero_add, Nat.add_zero, Nat.one_mul, Nat.zero_mul, List.getElem?_map, List.getElem?_drop, List.getElem?_take, List.length_map, Option.map_some, List.set_cons_zero, List.set_cons_succ, and_true, true_and, List.flatMap_cons, List.flatMap_nil, Bool.not_not, hf1]
  refine wpa_new ?_
  simp (maxSteps := 1000000) (implicitDefEqProofs := false) (disch := omega) only [push_cast, ↓reduceIte, Nat.reduceEqDiff, reduceCtorEq, decide_true, decide_false, Bool.not_true, Bool.not_false, Option.isNone_some, Option.isNone_none, List.drop_zero, List.drop_succ_cons, List.getElem?_cons_zero, List.getElem?_cons_succ, List.length_cons, List.length_nil, List.take_succ_cons, List.take_zero, Nat.mul_one, Nat.zero_add, Nat.add_zero, Nat.one_mul, Nat.zero_mul, List.getElem?_map, List.getElem?_drop, List.getElem?_take, List.length_map, Option.map_some, List.set_cons_zero, List.set_cons_succ, and_true, true_and, List.flatMap_cons, List.flatMap_nil, Bool.not_not]
  refine wpa_stn (l := cRF 0) rfl rfl rfl (by simp) ?_
  have hs : ∀ x, setAtA z11 0 (cRF x) = cRF x := fun x => rfl
  simp only [z11] at hs
  simp (maxSteps := 1000000) (implicitDefEqProofs := false) (disch := omega) only [push_cast, ↓reduceIte, Nat.reduceEqDiff, reduceCtorEq, decide_true, decide_false, Bool.not_true, Bool.not_false, Option.isNone_some, Option.isNone_none, List.drop_zero, List.drop_succ_cons, List.getElem?_cons_zero, List.getElem?_cons_succ, List.length_cons, List.length_nil, List.take_succ_cons, List.take_zero, Nat.mul_one, Nat.zero_add, Nat.add_zero, Nat.one_mul, Nat.zero_mul, List.getElem?_map, List.getElem?_drop, List.getElem?_take, List.length_map, Option.map_some, List.set_cons_zero, List.set_cons_succ, and_true, true_and, List.flatMap_cons, List.flatMap_nil, Bool.not_not, hs, List.set_cons_zero]
  refine wpa_bsl (by simp [AV.cells, Value.cells]) (by simp) ?_
  simp (maxSteps := 1000000) (implicitDefEqProofs := false) (disch := omega) only [push_cast, ↓reduceIte, Nat.reduceEqDiff, reduceCtorEq, decide_true, decide_false, Bool.not_true, Bool.not_false, Option.isNone_some, Option.isNone_none, List.drop_zero, List.drop_succ_cons, List.getElem?_cons_zero, List.getElem?_cons_succ, List.length_cons, List.length_nil, List.take_succ_cons, List.take_zero, Nat.mul_one, Nat.zero_add, Nat.add_zero, Nat.one_mul, Nat.zero_mul, List.getElem?_map, List.getElem?_drop, List.getElem?_take, List.length_map, Option.map_some, List.set_cons_zero, List.set_cons_succ, and_true, true_and, List.flatMap_cons, List.flatMap_nil, Bool.not_not]
  refine wpa_bsl (by simp [AV.cells, Value.cells]) (by simp) ?_
  have hf7 : fillA [AV.v (.int .i64 0), AV.v (.int .i64 0), AV.v (.int .i64 0), AV.v (.int .i64 0), AV.v (.int .i64 0), AV.v (.int .i64 0), AV.v (.int .i64 0)] [(0, 1)] [AV.v (.int .i64 9)] = some [AV.v (.int .i64 9), AV.v (.int .i64 0), AV.v (.int .i64 0), AV.v (.int .i64 0), AV.v (.int .i64 0), AV.v (.int .i64 0), AV.v (.int .i64 0)] := by simp [fillA, AV.cells, Value.cells, setAtA]
  have hf2 : fillA z11 [(0, 1), (2, 1), (3, 1), (4, 7)] [AV.v (.int .i64 1), .sl 1 [.v (.int .i64 1)] .full, .sl 1 [.v (.int .i64 2)] .full, .agg [AV.v (.int .i64 9), AV.v (.int .i64 0), AV.v (.int .i64 0), AV.v (.int .i64 0), AV.v (.int .i64 0), AV.v (.int .i64 0), AV.v (.int .i64 0)]] = some (cRF 9) := by simp [fillA, AV.cells, Value.cells, setAtA, z11, cRF]
  simp only [z11] at hf2
  simp (maxSteps := 1000000) (implicitDefEqProofs := false) (disch := omega) only [push_cast, ↓reduceIte, Nat.reduceEqDiff, reduceCtorEq, decide_true, decide_false, Bool.not_true, Bool.not_false, Option.isNone_some, Option.isNone_none, List.drop_zero, List.drop_succ_cons, List.getElem?_cons_zero, List.getElem?_cons_succ, List.length_cons, List.length_nil, List.take_succ_cons, List.take_zero, Nat.mul_one, Nat.zero_add, Nat.add_zero, Nat.one_mul, Nat.zero_mul, List.getElem?_map, List.getElem?_drop, List.getElem?_take, List.length_map, Option.map_some, List.set_cons_zero, List.set_cons_succ, and_true, true_and, List.flatMap_cons, List.flatMap_nil, Bool.not_not, hf7, hf2]
  refine wpa_new ?_
  simp (maxSteps := 1000000) (implicitDefEqProofs := false) (disch := omega) only [push_cast, ↓reduceIte, Nat.reduceEqDiff, reduceCtorEq, decide_true, decide_false, Bool.not_true, Bool.not_false, Option.isNone_some, Option.isNone_none, List.drop_zero, List.drop_succ_cons, List.getElem?_cons_zero, List.getElem?_cons_succ, List.length_cons, List.length_nil, List.take_succ_cons, List.take_zero, Nat.mul_one, Nat.zero_add, Nat.add_zero, Nat.one_mul, Nat.zero_mul, List.getElem?_map, List.getElem?_drop, List.getElem?_take, List.length_map, Option.map_some, List.set_cons_zero, List.set_cons_succ, and_true, true_and, List.flatMap_cons, List.flatMap_nil, Bool.not_not]
  refine wpa_stn (l := cRF 9) rfl rfl rfl (by simp) ?_
  simp (maxSteps := 1000000) (implicitDefEqProofs := false) (disch := omega) only [push_cast, ↓reduceIte, Nat.reduceEqDiff, reduceCtorEq, decide_true, decide_false, Bool.not_true, Bool.not_false, Option.isNone_some, Option.isNone_none, List.drop_zero, List.drop_succ_cons, List.getElem?_cons_zero, List.getElem?_cons_succ, List.length_cons, List.length_nil, List.take_succ_cons, List.take_zero, Nat.mul_one, Nat.zero_add, Nat.add_zero, Nat.one_mul, Nat.zero_mul, List.getElem?_map, List.getElem?_drop, List.getElem?_take, List.length_map, Option.map_some, List.set_cons_zero, List.set_cons_succ, and_true, true_and, List.flatMap_cons, List.flatMap_nil, Bool.not_not, hs]
  refine wpa_bsl (by simp [AV.cells, Value.cells]) (by simp) ?_
  simp (maxSteps := 1000000) (implicitDefEqProofs := false) (disch := omega) only [push_cast, ↓reduceIte, Nat.reduceEqDiff, reduceCtorEq, decide_true, decide_false, Bool.not_true, Bool.not_false, Option.isNone_some, Option.isNone_none, List.drop_zero, List.drop_succ_cons, List.getElem?_cons_zero, List.getElem?_cons_succ, List.length_cons, List.length_nil, List.take_succ_cons, List.take_zero, Nat.mul_one, Nat.zero_add, Nat.add_zero, Nat.one_mul, Nat.zero_mul, List.getElem?_map, List.getElem?_drop, List.getElem?_take, List.length_map, Option.map_some, List.set_cons_zero, List.set_cons_succ, and_true, true_and, List.flatMap_cons, List.flatMap_nil, Bool.not_not]
  refine wpa_bsl (by simp [AV.cells, Value.cells]) (by simp) ?_
  have hf3 : fillA z7 [(0, 1), (2, 1), (3, 1)] [AV.v (.int .i64 1), .sl 1 [.v (.int .i64 1)] .full, .sl 1 [.v (.int .i64 2)] .full] = some cOF := by simp [fillA, AV.cells, Value.cells, setAtA, z7, cOF]
  have hs7 : setAtA z7 0 cOF = cOF := rfl
  simp only [z7] at hf3 hs7
  simp (maxSteps := 1000000) (implicitDefEqProofs := false) (disch := omega) only [push_cast, ↓reduceIte, Nat.reduceEqDiff, reduceCtorEq, decide_true, decide_false, Bool.not_true, Bool.not_false, Option.isNone_some, Option.isNone_none, List.drop_zero, List.drop_succ_cons, List.getElem?_cons_zero, List.getElem?_cons_succ, List.length_cons, List.length_nil, List.take_succ_cons, List.take_zero, Nat.mul_one, Nat.zero_add, Nat.add_zero, Nat.one_mul, Nat.zero_mul, List.getElem?_map, List.getElem?_drop, List.getElem?_take, List.length_map, Option.map_some, List.set_cons_zero, List.set_cons_succ, and_true, true_and, List.flatMap_cons, List.flatMap_nil, Bool.not_not, hf3]
  refine wpa_new ?_
  simp (maxSteps := 1000000) (implicitDefEqProofs := false) (disch := omega) only [push_cast, ↓reduceIte, Nat.reduceEqDiff, reduceCtorEq, decide_true, decide_false, Bool.not_true, Bool.not_false, Option.isNone_some, Option.isNone_none, List.drop_zero, List.drop_succ_cons, List.getElem?_cons_zero, List.getElem?_cons_succ, List.length_cons, List.length_nil, List.take_succ_cons, List.take_zero, Nat.mul_one, Nat.zero_add, Nat.add_zero, Nat.one_mul, Nat.zero_mul, List.getElem?_map, List.getElem?_drop, List.getElem?_take, List.length_map, Option.map_some, List.set_cons_zero, List.set_cons_succ, and_true, true_and, List.flatMap_cons, List.flatMap_nil, Bool.not_not]
  refine wpa_stn (l := cOF) rfl rfl rfl (by simp) ?_
  have hst : ∀ a b c : Res, (([a] ++ [b]) ++ [c]) = [a, b, c] := fun a b c => rfl
  have hst2 : ∀ (a b c : Res) (i : Nat) (d : Res), [a, b, c].set 2 d = [a, b, d] := fun a b c i d => rfl
  simp (maxSteps := 1000000) (implicitDefEqProofs := false) (disch := omega) only [push_cast, ↓reduceIte, Nat.reduceEqDiff, reduceCtorEq, decide_true, decide_false, Bool.not_true, Bool.not_false, Option.isNone_some, Option.isNone_none, List.drop_zero, List.drop_succ_cons, List.getElem?_cons_zero, List.getElem?_cons_succ, List.length_cons, List.length_nil, List.take_succ_cons, List.take_zero, Nat.mul_one, Nat.zero_add, Nat.add_zero, Nat.one_mul, Nat.zero_mul, List.getElem?_map, List.getElem?_drop, List.getElem?_take, List.length_map, Option.map_some, List.set_cons_zero, List.set_cons_succ, and_true, true_and, List.flatMap_cons, List.flatMap_nil, Bool.not_not, hs7]
  have hc : ∀ x, cellsA (some 11) (cRF x) = some (.agg (cRF x)) := fun x => rfl
  have hc7 : cellsA (some 7) cOF = some (.agg cOF) := rfl
  simp (maxSteps := 1000000) (implicitDefEqProofs := false) (disch := omega) only [push_cast, ↓reduceIte, Nat.reduceEqDiff, reduceCtorEq, decide_true, decide_false, Bool.not_true, Bool.not_false, Option.isNone_some, Option.isNone_none, List.drop_zero, List.drop_succ_cons, List.getElem?_cons_zero, List.getElem?_cons_succ, List.length_cons, List.length_nil, List.take_succ_cons, List.take_zero, Nat.mul_one, Nat.zero_add, Nat.add_zero, Nat.one_mul, Nat.zero_mul, List.getElem?_map, List.getElem?_drop, List.getElem?_take, List.length_map, Option.map_some, List.set_cons_zero, List.set_cons_succ, and_true, true_and, List.flatMap_cons, List.flatMap_nil, Bool.not_not, hc, hc7]
  refine wpa_bsl (sz := 11) (by intro a ha; simp at ha; rcases ha with rfl | rfl <;> rfl) (by simp) ?_
  have okA : okR rA := ⟨by decide, by decide⟩
  have okB : okR rB := ⟨by decide, by decide⟩
  have ok0 : okR r0 := ⟨by decide, by decide⟩
  simp (maxSteps := 1000000) (implicitDefEqProofs := false) (disch := omega) only [push_cast, ↓reduceIte, Nat.reduceEqDiff, reduceCtorEq, decide_true, decide_false, Bool.not_true, Bool.not_false, Option.isNone_some, Option.isNone_none, List.drop_zero, List.drop_succ_cons, List.getElem?_cons_zero, List.getElem?_cons_succ, List.length_cons, List.length_nil, List.take_succ_cons, List.take_zero, Nat.mul_one, Nat.zero_add, Nat.add_zero, Nat.one_mul, Nat.zero_mul, List.getElem?_map, List.getElem?_drop, List.getElem?_take, List.length_map, Option.map_some, List.set_cons_zero, List.set_cons_succ, and_true, true_and, List.flatMap_cons, List.flatMap_nil, Bool.not_not]
  refine wpa_callw [] [true] (compare_Add_a [rA, rB] (by simp [okA, okB]) (by simp)) (by simp [weak, Go.Kx.freeze, AV.res, AV.resL, aRRs, aSlN, aRR, aInts, aSl, aInt, rA, rB, cRF, AV.cells]) ?_
  rintro a rfl
  have hS : sumA ([rA, rB].length : Nat) [rA, rB] (seenF [rA, rB]).length = [.v (.int .i64 2), .v (.int .i64 2), .v (.int .i64 0), .v (.int .i64 0), .v (.int .i64 0), .v (.int .i64 1)] := by rfl
  have hf6 : fillA [AV.v (.int .i64 0), AV.v (.int .i64 0), AV.v (.int .i64 0), AV.v (.int .i64 0), AV.v (.int .i64 0), AV.v (.int .i64 0)] [(0, 1), (1, 1), (5, 1)] [AV.v (.int .i64 2), AV.v (.int .i64 2), AV.v (.int .i64 1)] = some [AV.v (.int .i64 2), AV.v (.int .i64 2), AV.v (.int .i64 0), AV.v (.int .i64 0), AV.v (.int .i64 0), AV.v (.int .i64 1)] := by simp [fillA, AV.cells, Value.cells, setAtA]
  rw [hS]
  have hfz : ∀ S : St, Go.Kx.freeze [] S = S := fun _ => rfl
  simp (maxSteps := 1000000) (implicitDefEqProofs := false) (disch := omega) only [push_cast, ↓reduceIte, Nat.reduceEqDiff, reduceCtorEq, decide_true, decide_false, Bool.not_true, Bool.not_false, Option.isNone_some, Option.isNone_none, List.drop_zero, List.drop_succ_cons, List.getElem?_cons_zero, List.getElem?_cons_succ, List.length_cons, List.length_nil, List.take_succ_cons, List.take_zero, Nat.mul_one, Nat.zero_add, Nat.add_zero, Nat.one_mul, Nat.zero_mul, List.getElem?_map, List.getElem?_drop, List.getElem?_take, List.length_map, Option.map_some, List.set_cons_zero, List.set_cons_succ, and_true, true_and, List.flatMap_cons, List.flatMap_nil, Bool.not_not, hf6, av_eqs6, hfz, hc, hc7, Bool.and_true]
  have hwO : ∀ (S : St) (x : Int), weak (Go.Kx.freeze [] S) [true, true] [.agg (cRF x), .agg cOF] = [.agg (aRR ⟨1, 0, [1], [2], x, 0, 0, 0, 0, 0, 0⟩), .agg (aOC 1 0 [1] [2] 0 0 0)] := fun S x => by simp [weak, AV.res, AV.resL, aRR, aOC, aInts, aSl, aInt, cRF, cOF]
  refine wpa_callw [] [true, true] (compare_Agrees_a rA 1 0 [1] [2] 0 0 0 okA (by decide) (by decide)) (hwO _ 0) ?_
  rintro a rfl
  have hA : agr rA 1 [1] [2] = 0 := by decide
  rw [hA]
  have hf0 : fillA z11 [] [] = some z11 := rfl
  simp only [z11] at hf0
  simp (maxSteps := 1000000) (implicitDefEqProofs := false) (disch := omega) only [push_cast, ↓reduceIte, Nat.reduceEqDiff, reduceCtorEq, decide_true, decide_false, Bool.not_true, Bool.not_false, Option.isNone_some, Option.isNone_none, List.drop_zero, List.drop_succ_cons, List.getElem?_cons_zero, List.getElem?_cons_succ, List.length_cons, List.length_nil, List.take_succ_cons, List.take_zero, Nat.mul_one, Nat.zero_add, Nat.add_zero, Nat.one_mul, Nat.zero_mul, List.getElem?_map, List.getElem?_drop, List.getElem?_take, List.length_map, Option.map_some, List.set_cons_zero, List.set_cons_succ, and_true, true_and, List.flatMap_cons, List.flatMap_nil, Bool.not_not, aInt, hfz, hf0, hc7]
  refine wpa_callw [] [true, true] (compare_Agrees_a r0 1 0 [1] [2] 0 0 0 ok0 (by decide) (by decide)) (by simp [weak, AV.res, AV.resL, aRR, aOC, aInts, aSl, aInt, r0, cOF]) ?_
  rintro a rfl
  have hA0 : agr r0 1 [1] [2] = 8 := by decide
  rw [hA0]
  simp (maxSteps := 1000000) (implicitDefEqProofs := false) (disch := omega) only [push_cast, ↓reduceIte, Nat.reduceEqDiff, reduceCtorEq, decide_true, decide_false, Bool.not_true, Bool.not_false, Option.isNone_some, Option.isNone_none, List.drop_zero, List.drop_succ_cons, List.getElem?_cons_zero, List.getElem?_cons_succ, List.length_cons, List.length_nil, List.take_succ_cons, List.take_zero, Nat.mul_one, Nat.zero_add, Nat.add_zero, Nat.one_mul, Nat.zero_mul, List.getElem?_map, List.getElem?_drop, List.getElem?_take, List.length_map, Option.map_some, List.set_cons_zero, List.set_cons_succ, and_true, true_and, List.flatMap_cons, List.flatMap_nil, Bool.not_not, aInt, hfz, hc, hc7]
  refine wpa_bsl (sz := 11) (by intro a ha; simp at ha; subst ha; rfl) (by simp) ?_
  simp (maxSteps := 1000000) (implicitDefEqProofs := false) (disch := omega) only [push_cast, ↓reduceIte, Nat.reduceEqDiff, reduceCtorEq, decide_true, decide_false, Bool.not_true, Bool.not_false, Option.isNone_some, Option.isNone_none, List.drop_zero, List.drop_succ_cons, List.getElem?_cons_zero, List.getElem?_cons_succ, List.length_cons, List.length_nil, List.take_succ_cons, List.take_zero, Nat.mul_one, Nat.zero_add, Nat.add_zero, Nat.one_mul, Nat.zero_mul, List.getElem?_map, List.getElem?_drop, List.getElem?_take, List.length_map, Option.map_some, List.set_cons_zero, List.set_cons_succ, and_true, true_and, List.flatMap_cons, List.flatMap_nil, Bool.not_not]
  refine wpa_callw [] [true, true] (compare_Least_a rB 1 0 [1] [2] 0 0 0 okB (by decide) (by decide) (by decide)) (by simp [weak, Go.Kx.freeze, AV.res, AV.resL, aOC, aRRs, aSlN, aRR, aInts, aSl, aInt, rB, cRF, cOF, AV.cells]) ?_
  rintro a rfl
  have hB9 : rB.s0 = 9 := rfl
  rw [hB9]
  simp (maxSteps := 1000000) (implicitDefEqProofs := false) (disch := omega) only [push_cast, ↓reduceIte, Nat.reduceEqDiff, reduceCtorEq, decide_true, decide_false, Bool.not_true, Bool.not_false, Option.isNone_some, Option.isNone_none, List.drop_zero, List.drop_succ_cons, List.getElem?_cons_zero, List.getElem?_cons_succ, List.length_cons, List.length_nil, List.take_succ_cons, List.take_zero, Nat.mul_one, Nat.zero_add, Nat.add_zero, Nat.one_mul, Nat.zero_mul, List.getElem?_map, List.getElem?_drop, List.getElem?_take, List.length_map, Option.map_some, List.set_cons_zero, List.set_cons_succ, and_true, true_and, List.flatMap_cons, List.flatMap_nil, Bool.not_not, aInt, hfz]
  exact ⟨[], rfl, rfl⟩
end Go.Proofs.Ytilofhocodbknaa
