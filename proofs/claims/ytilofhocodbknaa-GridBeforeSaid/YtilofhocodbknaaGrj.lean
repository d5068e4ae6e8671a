/- Contracts on annotated values: forebayref33.Before. -/
import Derived.Test.YtilofhocodbknaaGri
namespace Go.Proofs.Ytilofhocodbknaa
set_option linter.unusedVariables false
set_option linter.unusedSimpArgs false
open Go Go.Kx Go.Proofs

def aP2 (p : Int × Int) : AV := .agg [.v (.int .i64 p.1), .v (.int .i64 p.2)]
theorem aP2_pure (p : Int × Int) : (aP2 p).pure = true := by simp [aP2, AV.pure, AV.pureL]
/-- Backwards from the last edge. -/
def bfR : List Ed → Int × Int → Int × Int → Bool
  | [], _, _ => false
  | e :: l, a, b => if e.2 = b then (decide (e.1 = a) || bfR l a e.1 || bfR l a b) else bfR l a b
theorem bfR_snoc (l : List Ed) (e : Ed) (a b : Int × Int) : bfR (l ++ [e]).reverse a b = if e.2 = b then (decide (e.1 = a) || bfR l.reverse a e.1 || bfR l.reverse a b) else bfR l.reverse a b := by simp [bfR]
theorem bld2 (a b : Int) : fillA [AV.v (.int .i64 0), AV.v (.int .i64 0)] [(0, 1), (1, 1)] [AV.v (.int .i64 a), AV.v (.int .i64 b)] = some [AV.v (.int .i64 a), AV.v (.int .i64 b)] := by
  simp [fillA, AV.cells, Value.cells, setAtA]
theorem eqs2 (n : Bool) (p q : Int × Int) : PF.av (.eqs n [.int .i64, .int .i64]) [.agg [.v (.int .i64 p.1), .v (.int .i64 p.2)], .agg [.v (.int .i64 q.1), .v (.int .i64 q.2)]] = some (.v (.bool (n != decide (p = q)))) := by
  show ((PF.val (.eqs n [.int .i64, .int .i64]) [.agg [.int .i64 p.1, .int .i64 p.2].toArray, .agg [.int .i64 q.1, .int .i64 q.2].toArray]).map AV.v) = _
  have h : (decide (p = q)) = (decide (p.1 = q.1) && decide (p.2 = q.2)) := by rw [Bool.eq_iff_iff]; simp [Prod.ext_iff]
  rw [h]
  have k1 : (p.1 == q.1) = decide (p.1 = q.1) := by rw [Bool.eq_iff_iff]; simp
  have k2 : (p.2 == q.2) = decide (p.2 = q.2) := by rw [Bool.eq_iff_iff]; simp
  by_cases h1 : p.1 = q.1 <;> by_cases h2 : p.2 = q.2 <;> cases n <;> simp [PF.val, eqCs, eqC, k1, k2, h1, h2]
set_option maxHeartbeats 1000000 in
theorem ref33_Before_a (n : Nat) : ∀ (l : List Ed) (a b : Int × Int), l.length = n → n ≤ 100000 → FnP Try.prog 38 [aE4s l, aP2 a, aP2 b] fun x => x = aBool (bfR l.reverse a b) := by
  induction n using Nat.strongRecOn with
  | ind n ih =>
  intro l a b hl hn
  subst hl
  refine fnP_in K_forebayref33_Before mixed rfl (by simp [AV.pureL, aE4s_pure, aP2_pure]) ?_
  simp only [S_forebayref33_Before]
  simp (maxSteps := 1000000) (implicitDefEqProofs := false) (disch := omega) only [push_cast, ↓reduceIte, Nat.reduceEqDiff, reduceCtorEq, decide_true, decide_false, Bool.not_true, Bool.not_false, Option.isNone_some, Option.isNone_none, List.drop_zero, List.drop_succ_cons, List.getElem?_cons_zero, List.getElem?_cons_succ, List.length_cons, List.length_nil, List.take_succ_cons, List.take_zero, Nat.mul_one, Nat.zero_add, Nat.add_zero, Nat.one_mul, Nat.zero_mul, List.getElem?_map, List.getElem?_drop, List.getElem?_take, List.length_map, Option.map_some, List.set_cons_zero, List.set_cons_succ, and_true, true_and, List.flatMap_cons, List.flatMap_nil, Bool.not_not, aP2, aE4s, aSlN]
  refine wpa_box ?_
  simp (maxSteps := 1000000) (implicitDefEqProofs := false) (disch := omega) only [push_cast, ↓reduceIte, Nat.reduceEqDiff, reduceCtorEq, decide_true, decide_false, Bool.not_true, Bool.not_false, Option.isNone_some, Option.isNone_none, List.drop_zero, List.drop_succ_cons, List.getElem?_cons_zero, List.getElem?_cons_succ, List.length_cons, List.length_nil, List.take_succ_cons, List.take_zero, Nat.mul_one, Nat.zero_add, Nat.add_zero, Nat.one_mul, Nat.zero_mul, List.getElem?_map, List.getElem?_drop, List.getElem?_take, List.length_map, Option.map_some, List.set_cons_zero, List.set_cons_succ, and_true, true_and, List.flatMap_cons, List.flatMap_nil, Bool.not_not]
  refine wpa_box ?_
  simp (maxSteps := 1000000) (implicitDefEqProofs := false) (disch := omega) only [push_cast, ↓reduceIte, Nat.reduceEqDiff, reduceCtorEq, decide_true, decide_false, Bool.not_true, Bool.not_false, Option.isNone_some, Option.isNone_none, List.drop_zero, List.drop_succ_cons, List.getElem?_cons_zero, List.getElem?_cons_succ, List.length_cons, List.length_nil, List.take_succ_cons, List.take_zero, Nat.mul_one, Nat.zero_add, Nat.add_zero, Nat.one_mul, Nat.zero_mul, List.getElem?_map, List.getElem?_drop, List.getElem?_take, List.length_map, Option.map_some, List.set_cons_zero, List.set_cons_succ, and_true, true_and, List.flatMap_cons, List.flatMap_nil, Bool.not_not]
  refine wpa_bl (α := Nat) (I := fun k ε σ => (ε 0 = .sl l.length (l.flatMap aE4) .none ∧ ε 4 = .ref 0 0 0 ∧ ε 5 = .ref 1 0 0 ∧ ε 7 = .v (.int .i64 ((k : Int) - 1))) ∧ k ≤ l.length ∧
      σ[0]? = some (.obj 0 [.v (.int .i64 a.1), .v (.int .i64 a.2)]) ∧ σ[1]? = some (.obj 0 [.v (.int .i64 b.1), .v (.int .i64 b.2)]) ∧ bfR l.reverse a b = bfR (l.take k).reverse a b)
    (μ := fun k => k) (Q := fun _ _ => bfR l.reverse a b = false) (x := l.length) ?_ ?_ ?_
  · simp (maxSteps := 1000000) (implicitDefEqProofs := false) (disch := omega) only [push_cast, ↓reduceIte, Nat.reduceEqDiff, reduceCtorEq, decide_true, decide_false, Bool.not_true, Bool.not_false, Option.isNone_some, Option.isNone_none, List.drop_zero, List.drop_succ_cons, List.getElem?_cons_zero, List.getElem?_cons_succ, List.length_cons, List.length_nil, List.take_succ_cons, List.take_zero, Nat.mul_one, Nat.zero_add, Nat.add_zero, Nat.one_mul, Nat.zero_mul, List.getElem?_map, List.getElem?_drop, List.getElem?_take, List.length_map, Option.map_some, List.set_cons_zero, List.set_cons_succ, and_true, true_and, List.flatMap_cons, List.flatMap_nil, Bool.not_not]
    exact ⟨by omega, by rw [List.take_length]⟩
  · rintro k ε σ N E ⟨hρ, hk, hs0, hs1, hB⟩ hN hE
    simp only [S_forebayref33_Before_L1]
    by_cases hk0 : k = 0
    · subst hk0
      simp (maxSteps := 1000000) (implicitDefEqProofs := false) (disch := omega) only [push_cast, ↓reduceIte, Nat.reduceEqDiff, reduceCtorEq, decide_true, decide_false, Bool.not_true, Bool.not_false, Option.isNone_some, Option.isNone_none, List.drop_zero, List.drop_succ_cons, List.getElem?_cons_zero, List.getElem?_cons_succ, List.length_cons, List.length_nil, List.take_succ_cons, List.take_zero, Nat.mul_one, Nat.zero_add, Nat.add_zero, Nat.one_mul, Nat.zero_mul, List.getElem?_map, List.getElem?_drop, List.getElem?_take, List.length_map, Option.map_some, List.set_cons_zero, List.set_cons_succ, and_true, true_and, List.flatMap_cons, List.flatMap_nil, Bool.not_not, hρ]
      refine hE _ _ ?_
      rw [hB]; rfl
    · obtain ⟨j, rfl⟩ : ∃ j, k = j + 1 := ⟨k - 1, by omega⟩
      obtain ⟨e, he⟩ := at_lt (l := l) (k := j) (by omega)
      rw [take_succ_at he, bfR_snoc] at hB
      have hde := flat_drop aE4_len he
      have hcl : ∀ m : List AV, cellsA (some 4) (aE4 e ++ m) = some (.agg (aE4 e)) := fun m => by rw [cellsA_n _ _ (by simp [aE4_len])]; rfl
      have p0 : ∀ x y : AV, [x, y][Int.toNat 0]? = some x := fun _ _ => rfl
      have p1 : ∀ x y : AV, [x, y][Int.toNat 1]? = some y := fun _ _ => rfl
      have e1 : (((j + 1 : Nat) : Int) - 1) = j := by omega
      rw [e1] at hρ
      simp (maxSteps := 1000000) (implicitDefEqProofs := false) (disch := omega) only [push_cast, ↓reduceIte, Nat.reduceEqDiff, reduceCtorEq, decide_true, decide_false, Bool.not_true, Bool.not_false, Option.isNone_some, Option.isNone_none, List.drop_zero, List.drop_succ_cons, List.getElem?_cons_zero, List.getElem?_cons_succ, List.length_cons, List.length_nil, List.take_succ_cons, List.take_zero, Nat.mul_one, Nat.zero_add, Nat.add_zero, Nat.one_mul, Nat.zero_mul, List.getElem?_map, List.getElem?_drop, List.getElem?_take, List.length_map, Option.map_some, List.set_cons_zero, List.set_cons_succ, and_true, true_and, List.flatMap_cons, List.flatMap_nil, Bool.not_not, hρ, hde, hcl]
      refine wpa_new ?_
      simp (maxSteps := 1000000) (implicitDefEqProofs := false) (disch := omega) only [push_cast, ↓reduceIte, Nat.reduceEqDiff, reduceCtorEq, decide_true, decide_false, Bool.not_true, Bool.not_false, Option.isNone_some, Option.isNone_none, List.drop_zero, List.drop_succ_cons, List.getElem?_cons_zero, List.getElem?_cons_succ, List.length_cons, List.length_nil, List.take_succ_cons, List.take_zero, Nat.mul_one, Nat.zero_add, Nat.add_zero, Nat.one_mul, Nat.zero_mul, List.getElem?_map, List.getElem?_drop, List.getElem?_take, List.length_map, Option.map_some, List.set_cons_zero, List.set_cons_succ, and_true, true_and, List.flatMap_cons, List.flatMap_nil, Bool.not_not]
      refine wpa_stn (aE4_len e) (by rfl) (at_snoc _ _) (by simp) ?_
      have hset : setAtA [AV.v (.int .i64 0), AV.v (.int .i64 0), AV.v (.int .i64 0), AV.v (.int .i64 0)] 0 (aE4 e) = aE4 e := rfl
      have f2 : (aE4 e)[Int.toNat 2]? = some (.v (.int .i64 e.2.1)) := rfl
      have f3 : (aE4 e)[Int.toNat 3]? = some (.v (.int .i64 e.2.2)) := rfl
      have f0 : (aE4 e)[Int.toNat 0]? = some (.v (.int .i64 e.1.1)) := rfl
      have f1 : (aE4 e)[Int.toNat 1]? = some (.v (.int .i64 e.1.2)) := rfl
      have hs0' : (σ ++ [Res.obj 0 (aE4 e)])[0]? = some (.obj 0 [.v (.int .i64 a.1), .v (.int .i64 a.2)]) := get_app hs0
      have hs1' : (σ ++ [Res.obj 0 (aE4 e)])[1]? = some (.obj 0 [.v (.int .i64 b.1), .v (.int .i64 b.2)]) := get_app hs1
      have hb1 : (σ ++ [Res.obj 0 (aE4 e)])[σ.length]? = some (.obj 0 (aE4 e)) := at_snoc _ _
      simp (maxSteps := 1000000) (implicitDefEqProofs := false) (disch := omega) only [push_cast, ↓reduceIte, Nat.reduceEqDiff, reduceCtorEq, decide_true, decide_false, Bool.not_true, Bool.not_false, Option.isNone_some, Option.isNone_none, List.drop_zero, List.drop_succ_cons, List.getElem?_cons_zero, List.getElem?_cons_succ, List.length_cons, List.length_nil, List.take_succ_cons, List.take_zero, Nat.mul_one, Nat.zero_add, Nat.add_zero, Nat.one_mul, Nat.zero_mul, List.getElem?_map, List.getElem?_drop, List.getElem?_take, List.length_map, Option.map_some, List.set_cons_zero, List.set_cons_succ, and_true, true_and, List.flatMap_cons, List.flatMap_nil, Bool.not_not, hset]
      generalize hS : σ ++ [Res.obj 0 (aE4 e)] = S at hs0' hs1' hb1 ⊢
      generalize hb : σ.length = i at hb1 ⊢
      clear hS hb hs0 hs1
      by_cases h1 : e.2 = b
      · rw [if_pos h1] at hB
        have h1a : e.2.1 = b.1 := by rw [h1]
        have h1b : e.2.2 = b.2 := by rw [h1]
        simp (maxSteps := 1000000) (implicitDefEqProofs := false) (disch := omega) only [push_cast, ↓reduceIte, Nat.reduceEqDiff, reduceCtorEq, decide_true, decide_false, Bool.not_true, Bool.not_false, Option.isNone_some, Option.isNone_none, List.drop_zero, List.drop_succ_cons, List.getElem?_cons_zero, List.getElem?_cons_succ, List.length_cons, List.length_nil, List.take_succ_cons, List.take_zero, Nat.mul_one, Nat.zero_add, Nat.add_zero, Nat.one_mul, Nat.zero_mul, List.getElem?_map, List.getElem?_drop, List.getElem?_take, List.length_map, Option.map_some, List.set_cons_zero, List.set_cons_succ, and_true, true_and, List.flatMap_cons, List.flatMap_nil, Bool.not_not, hρ, hs1', hb1, f0, f1, f2, f3, p0, p1, h1a, h1b, bld2]
        refine wpa_new ?_
        simp (maxSteps := 1000000) (implicitDefEqProofs := false) (disch := omega) only [push_cast, ↓reduceIte, Nat.reduceEqDiff, reduceCtorEq, decide_true, decide_false, Bool.not_true, Bool.not_false, Option.isNone_some, Option.isNone_none, List.drop_zero, List.drop_succ_cons, List.getElem?_cons_zero, List.getElem?_cons_succ, List.length_cons, List.length_nil, List.take_succ_cons, List.take_zero, Nat.mul_one, Nat.zero_add, Nat.add_zero, Nat.one_mul, Nat.zero_mul, List.getElem?_map, List.getElem?_drop, List.getElem?_take, List.length_map, Option.map_some, List.set_cons_zero, List.set_cons_succ, and_true, true_and, List.flatMap_cons, List.flatMap_nil, Bool.not_not]
        refine wpa_stn (by rfl) (by rfl) (at_snoc _ _) (by simp) ?_
        have hs0 := get_app (τ := [Res.obj 0 [AV.v (.int .i64 e.1.1), AV.v (.int .i64 e.1.2)]]) hs0'
        have hs1 := get_app (τ := [Res.obj 0 [AV.v (.int .i64 e.1.1), AV.v (.int .i64 e.1.2)]]) hs1'
        have hb2 : (S ++ [Res.obj 0 [AV.v (.int .i64 e.1.1), AV.v (.int .i64 e.1.2)]])[S.length]? = some (.obj 0 [AV.v (.int .i64 e.1.1), AV.v (.int .i64 e.1.2)]) := at_snoc _ _
        have hset2 : setAtA [AV.v (.int .i64 0), AV.v (.int .i64 0)] 0 [AV.v (.int .i64 e.1.1), AV.v (.int .i64 e.1.2)] = [AV.v (.int .i64 e.1.1), AV.v (.int .i64 e.1.2)] := rfl
        simp (maxSteps := 1000000) (implicitDefEqProofs := false) (disch := omega) only [push_cast, ↓reduceIte, Nat.reduceEqDiff, reduceCtorEq, decide_true, decide_false, Bool.not_true, Bool.not_false, Option.isNone_some, Option.isNone_none, List.drop_zero, List.drop_succ_cons, List.getElem?_cons_zero, List.getElem?_cons_succ, List.length_cons, List.length_nil, List.take_succ_cons, List.take_zero, Nat.mul_one, Nat.zero_add, Nat.add_zero, Nat.one_mul, Nat.zero_mul, List.getElem?_map, List.getElem?_drop, List.getElem?_take, List.length_map, Option.map_some, List.set_cons_zero, List.set_cons_succ, and_true, true_and, List.flatMap_cons, List.flatMap_nil, Bool.not_not, hset2]
        generalize hS : S ++ [Res.obj 0 [AV.v (.int .i64 e.1.1), AV.v (.int .i64 e.1.2)]] = S2 at hs0 hs1 hb2 ⊢
        generalize hi2 : S.length = i2 at hb2 ⊢
        clear hS hi2
        have c2 : ∀ x y : AV, cellsA (some 2) [x, y] = some (.agg [x, y]) := fun _ _ => rfl
        have hq := eqs2 false e.1 a
        rw [show (false != decide (e.1 = a)) = decide (e.1 = a) from by simp] at hq
        by_cases h2 : e.1 = a
        · rw [decide_eq_true h2] at hq
          rw [decide_eq_true h2] at hB
          simp (maxSteps := 1000000) (implicitDefEqProofs := false) (disch := omega) only [push_cast, ↓reduceIte, Nat.reduceEqDiff, reduceCtorEq, decide_true, decide_false, Bool.not_true, Bool.not_false, Option.isNone_some, Option.isNone_none, List.drop_zero, List.drop_succ_cons, List.getElem?_cons_zero, List.getElem?_cons_succ, List.length_cons, List.length_nil, List.take_succ_cons, List.take_zero, Nat.mul_one, Nat.zero_add, Nat.add_zero, Nat.one_mul, Nat.zero_mul, List.getElem?_map, List.getElem?_drop, List.getElem?_take, List.length_map, Option.map_some, List.set_cons_zero, List.set_cons_succ, and_true, true_and, List.flatMap_cons, List.flatMap_nil, Bool.not_not, hρ, hs0, hb2, c2, hq]
          refine ⟨[], rfl, ?_⟩
          rw [hB]; rfl
        · rw [decide_eq_false h2] at hq
          rw [decide_eq_false h2, Bool.false_or] at hB
          have harg : AV.sl j (List.take (j * 4) (List.flatMap aE4 l)) .none = aE4s (l.take j) := by
            unfold aE4s aSlN
            rw [flat_takeN aE4_len, List.length_take, Nat.min_eq_left (by omega)]
          simp (maxSteps := 1000000) (implicitDefEqProofs := false) (disch := omega) only [push_cast, ↓reduceIte, Nat.reduceEqDiff, reduceCtorEq, decide_true, decide_false, Bool.not_true, Bool.not_false, Option.isNone_some, Option.isNone_none, List.drop_zero, List.drop_succ_cons, List.getElem?_cons_zero, List.getElem?_cons_succ, List.length_cons, List.length_nil, List.take_succ_cons, List.take_zero, Nat.mul_one, Nat.zero_add, Nat.add_zero, Nat.one_mul, Nat.zero_mul, List.getElem?_map, List.getElem?_drop, List.getElem?_take, List.length_map, Option.map_some, List.set_cons_zero, List.set_cons_succ, and_true, true_and, List.flatMap_cons, List.flatMap_nil, Bool.not_not, hρ, hs0, hs1, hb2, c2, hq, harg]
          refine wpa_call (ih j (by omega) (l.take j) a e.1 (by rw [List.length_take]; omega) (by omega)) ?_
          rintro x rfl
          cases h3 : bfR (l.take j).reverse a e.1 with
          | true =>
            rw [h3, Bool.true_or] at hB
            simp (maxSteps := 1000000) (implicitDefEqProofs := false) (disch := omega) only [push_cast, ↓reduceIte, Nat.reduceEqDiff, reduceCtorEq, decide_true, decide_false, Bool.not_true, Bool.not_false, Option.isNone_some, Option.isNone_none, List.drop_zero, List.drop_succ_cons, List.getElem?_cons_zero, List.getElem?_cons_succ, List.length_cons, List.length_nil, List.take_succ_cons, List.take_zero, Nat.mul_one, Nat.zero_add, Nat.add_zero, Nat.one_mul, Nat.zero_mul, List.getElem?_map, List.getElem?_drop, List.getElem?_take, List.length_map, Option.map_some, List.set_cons_zero, List.set_cons_succ, and_true, true_and, List.flatMap_cons, List.flatMap_nil, Bool.not_not, hρ, aBool]
            refine ⟨[], rfl, ?_⟩
            rw [hB]
          | false =>
            rw [h3, Bool.false_or] at hB
            simp (maxSteps := 1000000) (implicitDefEqProofs := false) (disch := omega) only [push_cast, ↓reduceIte, Nat.reduceEqDiff, reduceCtorEq, decide_true, decide_false, Bool.not_true, Bool.not_false, Option.isNone_some, Option.isNone_none, List.drop_zero, List.drop_succ_cons, List.getElem?_cons_zero, List.getElem?_cons_succ, List.length_cons, List.length_nil, List.take_succ_cons, List.take_zero, Nat.mul_one, Nat.zero_add, Nat.add_zero, Nat.one_mul, Nat.zero_mul, List.getElem?_map, List.getElem?_drop, List.getElem?_take, List.length_map, Option.map_some, List.set_cons_zero, List.set_cons_succ, and_true, true_and, List.flatMap_cons, List.flatMap_nil, Bool.not_not, hρ, aBool]
            refine hN j _ _ ?_ (by omega)
            simp (maxSteps := 1000000) (implicitDefEqProofs := false) (disch := omega) only [push_cast, ↓reduceIte, Nat.reduceEqDiff, reduceCtorEq, decide_true, decide_false, Bool.not_true, Bool.not_false, Option.isNone_some, Option.isNone_none, List.drop_zero, List.drop_succ_cons, List.getElem?_cons_zero, List.getElem?_cons_succ, List.length_cons, List.length_nil, List.take_succ_cons, List.take_zero, Nat.mul_one, Nat.zero_add, Nat.add_zero, Nat.one_mul, Nat.zero_mul, List.getElem?_map, List.getElem?_drop, List.getElem?_take, List.length_map, Option.map_some, List.set_cons_zero, List.set_cons_succ, and_true, true_and, List.flatMap_cons, List.flatMap_nil, Bool.not_not, hρ]
            exact ⟨by omega, hs0, hs1, hB⟩
      · rw [if_neg h1] at hB
        have hnext : ∀ ε' σ', ((ε' 0 = .sl l.length (l.flatMap aE4) .none ∧ ε' 4 = .ref 0 0 0 ∧ ε' 5 = .ref 1 0 0 ∧ ε' 7 = .v (.int .i64 ((j : Int) - 1))) ∧
          σ'[0]? = some (.obj 0 [.v (.int .i64 a.1), .v (.int .i64 a.2)]) ∧ σ'[1]? = some (.obj 0 [.v (.int .i64 b.1), .v (.int .i64 b.2)])) → act (N ε' σ') := 
          fun ε' σ' ⟨h1, h2, h3⟩ => hN j ε' σ' ⟨h1, by omega, h2, h3, hB⟩ (by omega)
        by_cases h1a : e.2.1 = b.1
        · have h1b : ¬ e.2.2 = b.2 := fun h => h1 (Prod.ext h1a h)
          simp (maxSteps := 1000000) (implicitDefEqProofs := false) (disch := omega) only [push_cast, ↓reduceIte, Nat.reduceEqDiff, reduceCtorEq, decide_true, decide_false, Bool.not_true, Bool.not_false, Option.isNone_some, Option.isNone_none, List.drop_zero, List.drop_succ_cons, List.getElem?_cons_zero, List.getElem?_cons_succ, List.length_cons, List.length_nil, List.take_succ_cons, List.take_zero, Nat.mul_one, Nat.zero_add, Nat.add_zero, Nat.one_mul, Nat.zero_mul, List.getElem?_map, List.getElem?_drop, List.getElem?_take, List.length_map, Option.map_some, List.set_cons_zero, List.set_cons_succ, and_true, true_and, List.flatMap_cons, List.flatMap_nil, Bool.not_not, hρ, hs1', hb1, f0, f1, f2, f3, p0, p1, h1a, h1b]
          refine hnext _ _ ?_
          simp (maxSteps := 1000000) (implicitDefEqProofs := false) (disch := omega) only [push_cast, ↓reduceIte, Nat.reduceEqDiff, reduceCtorEq, decide_true, decide_false, Bool.not_true, Bool.not_false, Option.isNone_some, Option.isNone_none, List.drop_zero, List.drop_succ_cons, List.getElem?_cons_zero, List.getElem?_cons_succ, List.length_cons, List.length_nil, List.take_succ_cons, List.take_zero, Nat.mul_one, Nat.zero_add, Nat.add_zero, Nat.one_mul, Nat.zero_mul, List.getElem?_map, List.getElem?_drop, List.getElem?_take, List.length_map, Option.map_some, List.set_cons_zero, List.set_cons_succ, and_true, true_and, List.flatMap_cons, List.flatMap_nil, Bool.not_not, hρ]
          exact ⟨hs0', hs1'⟩
        · simp (maxSteps := 1000000) (implicitDefEqProofs := false) (disch := omega) only [push_cast, ↓reduceIte, Nat.reduceEqDiff, reduceCtorEq, decide_true, decide_false, Bool.not_true, Bool.not_false, Option.isNone_some, Option.isNone_none, List.drop_zero, List.drop_succ_cons, List.getElem?_cons_zero, List.getElem?_cons_succ, List.length_cons, List.length_nil, List.take_succ_cons, List.take_zero, Nat.mul_one, Nat.zero_add, Nat.add_zero, Nat.one_mul, Nat.zero_mul, List.getElem?_map, List.getElem?_drop, List.getElem?_take, List.length_map, Option.map_some, List.set_cons_zero, List.set_cons_succ, and_true, true_and, List.flatMap_cons, List.flatMap_nil, Bool.not_not, hρ, hs1', hb1, f0, f1, f2, f3, p0, p1, h1a]
          refine hnext _ _ ?_
          simp (maxSteps := 1000000) (implicitDefEqProofs := false) (disch := omega) only [push_cast, ↓reduceIte, Nat.reduceEqDiff, reduceCtorEq, decide_true, decide_false, Bool.not_true, Bool.not_false, Option.isNone_some, Option.isNone_none, List.drop_zero, List.drop_succ_cons, List.getElem?_cons_zero, List.getElem?_cons_succ, List.length_cons, List.length_nil, List.take_succ_cons, List.take_zero, Nat.mul_one, Nat.zero_add, Nat.add_zero, Nat.one_mul, Nat.zero_mul, List.getElem?_map, List.getElem?_drop, List.getElem?_take, List.length_map, Option.map_some, List.set_cons_zero, List.set_cons_succ, and_true, true_and, List.flatMap_cons, List.flatMap_nil, Bool.not_not, hρ]
          exact ⟨hs0', hs1'⟩
  · rintro ε σ h
    simp (maxSteps := 1000000) (implicitDefEqProofs := false) (disch := omega) only [push_cast, ↓reduceIte, Nat.reduceEqDiff, reduceCtorEq, decide_true, decide_false, Bool.not_true, Bool.not_false, Option.isNone_some, Option.isNone_none, List.drop_zero, List.drop_succ_cons, List.getElem?_cons_zero, List.getElem?_cons_succ, List.length_cons, List.length_nil, List.take_succ_cons, List.take_zero, Nat.mul_one, Nat.zero_add, Nat.add_zero, Nat.one_mul, Nat.zero_mul, List.getElem?_map, List.getElem?_drop, List.getElem?_take, List.length_map, Option.map_some, List.set_cons_zero, List.set_cons_succ, and_true, true_and, List.flatMap_cons, List.flatMap_nil, Bool.not_not]
    exact ⟨[], rfl, by rw [h]; rfl⟩
end Go.Proofs.Ytilofhocodbknaa
