/- SpanTells: the walk: for all predecessors and accesses the call returns true. -/
import Derived.Test.YtilofhocodbknaaSpl
namespace Go.Proofs.Ytilofhocodbknaa
set_option linter.unusedVariables false
set_option linter.unusedSimpArgs false
open Go Go.Kx Go.Proofs

theorem sum_set {l : List Int} : ∀ {i : Nat} {x y : Int}, l[i]? = some x → (l.set i y).sum = l.sum - x + y := by
  induction l with
  | nil => intro i x y h; simp at h
  | cons a l ih =>
    intro i x y h
    cases i with
    | zero => simp at h; subst h; simp; omega
    | succ i =>
      have := ih (i := i) (x := x) (y := y) (by simpa using h)
      simp only [List.set_cons_succ, List.sum_cons, this]; omega
theorem wtL_sum {n : Nat} {l : List Acc} : (∀ a ∈ l, 0 ≤ a.s ∧ a.s < (n : Int)) → (wtL n l).sum = n + l.length := by
  induction l using snoc_ind with
  | h0 =>
    intro _
    rw [wtL_nil]
    have : ∀ k : Nat, (List.replicate k (1 : Int)).sum = k := by
      intro k
      induction k with
      | zero => rfl
      | succ k ih => rw [List.replicate_succ, List.sum_cons, ih]; omega
    rw [this]; simp
  | hs l a ih =>
    intro h
    have h1 := h a (by simp)
    obtain ⟨i, hi⟩ : ∃ i : Nat, a.s = i := ⟨a.s.toNat, by omega⟩
    have h2 := ih fun b hb => h b (by simp [hb])
    obtain ⟨x, hx⟩ := at_lt (l := wtL n l) (k := i) (by rw [wtL_len]; omega)
    rw [← wtL_set hi hx, sum_set hx, h2, List.length_append, List.length_singleton]
    omega
def sumW (w : Nat → Int) (n : Nat) : Int := ((List.range n).map w).sum
theorem sumW_succ (w : Nat → Int) (n : Nat) : sumW w (n + 1) = sumW w n + w n := by simp [sumW, List.range_succ]
theorem sumW_nn {w : Nat → Int} (hw : ∀ k, 0 ≤ w k) (n : Nat) : 0 ≤ sumW w n := by
  induction n with
  | zero => simp [sumW]
  | succ n ih => rw [sumW_succ]; have := hw n; omega
theorem rkF_le_sum {w : Nat → Int} (hw : ∀ k, 0 ≤ w k) (xss : List (List Int)) : ∀ r ∈ rkF w xss, r ≤ sumW w xss.length := by
  induction xss using snoc_ind with
  | h0 => intro r hr; simp [rkF] at hr
  | hs xs l ih =>
    intro r hr
    rw [rkF_snoc, List.mem_append] at hr
    rw [List.length_append, List.length_singleton, sumW_succ]
    have h0 := hw xs.length
    rcases hr with hr | hr
    · have := ih r hr; omega
    · simp only [List.mem_singleton] at hr
      have := rankP_bd (rkF w xs) (sumW w xs.length) (sumW_nn hw _) ih l
      rw [rkF_len] at hr
      omega
theorem sumW_wF (xss : List (List Int)) (l : List Acc) : sumW (wF xss l) xss.length = (wtL xss.length l).sum := by
  unfold sumW
  congr 1
  apply List.ext_getElem?
  intro j
  by_cases hj : j < xss.length
  · rw [wtL_get hj, List.getElem?_map, List.getElem?_range hj]
    simp only [Option.map_some, wF]
    rw [List.getD_eq_getElem?_getD, wtL_get hj]; rfl
  · rw [List.getElem?_eq_none (by simp; omega), List.getElem?_eq_none (by rw [wtL_len]; omega)]
theorem aAcc_one (l : List Acc) : (l.flatMap aAcc).all AV.one = true := by
  rw [List.all_eq_true]
  intro a ha
  obtain ⟨x, _, hx⟩ := List.mem_flatMap.1 ha
  simp only [aAcc, List.mem_cons, List.not_mem_nil, or_false] at hx
  rcases hx with rfl | rfl | rfl <;> rfl
theorem wkDag (σ : St) (xss : List (List Int)) (l : List Acc) (t1 t2 : Tok) : weak (Go.Kx.freeze [] σ) [true] [.agg [.sl xss.length (xss.map aInts) t1, .sl 0 [] .nil, .sl l.length (l.flatMap aAcc) t2]] = [aDag xss l] := by
  simp only [weak, if_true, AV.res, AV.resL, aDag]
  have h1 := aSl_res (aInts_res (Go.Kx.freeze [] σ)) xss t1
  have h2 := aAccs_res (Go.Kx.freeze [] σ) l t2
  simp only [AV.res] at h1 h2
  rw [h1, h2]
  rfl
@[push_cast] theorem ld3_obj (w : Nat) (a b c : AV) : cellsA (some 3) [a, b, c] = some (.agg [a, b, c]) := rfl

set_option maxHeartbeats 4000000 in
theorem SpanTells_a (xss : List (List Int)) (l : List Acc) (hs : xss.length ≤ 9223372036854775807) (hl : l.length ≤ 9223372036854775807) :
    FnP Try.prog 15 [aInts2 xss, aAccs l] fun a => a = aBool true := by
  refine fnP_in K_forebaylaw41_SpanTells mixed rfl (by simp [AV.pureL, aInts2_pure, aAccs_pure]) ?_
  simp only [S_forebaylaw41_SpanTells]
  simp (maxSteps := 1000000) (implicitDefEqProofs := false) (disch := omega) only [push_cast, ↓reduceIte, Nat.reduceEqDiff, reduceCtorEq, decide_true, decide_false, Bool.not_true, Bool.not_false, Option.isNone_some, Option.isNone_none, List.drop_zero, List.drop_succ_cons, List.getElem?_cons_zero, List.getElem?_cons_succ, List.length_cons, List.length_nil, List.take_succ_cons, List.take_zero, Nat.mul_one, Nat.zero_add, Nat.add_zero, Nat.one_mul, Nat.zero_mul, List.getElem?_map, List.getElem?_drop, List.getElem?_take, List.length_map, Option.map_some, List.set_cons_zero, List.set_cons_succ, and_true, true_and, List.flatMap_cons, List.flatMap_nil, Bool.not_not]
  refine wpa_call law41_works_a ?_
  rintro a rfl
  simp (maxSteps := 1000000) (implicitDefEqProofs := false) (disch := omega) only [push_cast, ↓reduceIte, Nat.reduceEqDiff, reduceCtorEq, decide_true, decide_false, Bool.not_true, Bool.not_false, Option.isNone_some, Option.isNone_none, List.drop_zero, List.drop_succ_cons, List.getElem?_cons_zero, List.getElem?_cons_succ, List.length_cons, List.length_nil, List.take_succ_cons, List.take_zero, Nat.mul_one, Nat.zero_add, Nat.add_zero, Nat.one_mul, Nat.zero_mul, List.getElem?_map, List.getElem?_drop, List.getElem?_take, List.length_map, Option.map_some, List.set_cons_zero, List.set_cons_succ, and_true, true_and, List.flatMap_cons, List.flatMap_nil, Bool.not_not, aBool]
  refine wpa_call (law41_great_a xss l (by omega) (by omega)) ?_
  rintro a rfl
  cases hg : greatB xss l with
  | true =>
    simp (maxSteps := 1000000) (implicitDefEqProofs := false) (disch := omega) only [push_cast, ↓reduceIte, Nat.reduceEqDiff, reduceCtorEq, decide_true, decide_false, Bool.not_true, Bool.not_false, Option.isNone_some, Option.isNone_none, List.drop_zero, List.drop_succ_cons, List.getElem?_cons_zero, List.getElem?_cons_succ, List.length_cons, List.length_nil, List.take_succ_cons, List.take_zero, Nat.mul_one, Nat.zero_add, Nat.add_zero, Nat.one_mul, Nat.zero_mul, List.getElem?_map, List.getElem?_drop, List.getElem?_take, List.length_map, Option.map_some, List.set_cons_zero, List.set_cons_succ, and_true, true_and, List.flatMap_cons, List.flatMap_nil, Bool.not_not, aBool]
    exact ⟨[], rfl⟩
  | false =>
    obtain ⟨hg1, hg2, hg3⟩ := greatB_false hg
    have hs' : xss.length ≤ 1000000 := by omega
    have hl' : l.length ≤ 1000000 := by omega
    have hs2 : ∀ l ∈ xss, l.length ≤ 1000000 := fun l hl => by have := hg2 l hl; omega
    simp (maxSteps := 1000000) (implicitDefEqProofs := false) (disch := omega) only [push_cast, ↓reduceIte, Nat.reduceEqDiff, reduceCtorEq, decide_true, decide_false, Bool.not_true, Bool.not_false, Option.isNone_some, Option.isNone_none, List.drop_zero, List.drop_succ_cons, List.getElem?_cons_zero, List.getElem?_cons_succ, List.length_cons, List.length_nil, List.take_succ_cons, List.take_zero, Nat.mul_one, Nat.zero_add, Nat.add_zero, Nat.one_mul, Nat.zero_mul, List.getElem?_map, List.getElem?_drop, List.getElem?_take, List.length_map, Option.map_some, List.set_cons_zero, List.set_cons_succ, and_true, true_and, List.flatMap_cons, List.flatMap_nil, Bool.not_not, aBool]
    refine wpa_call (law41_own_a xss hs' hs2) ?_
    rintro a rfl
    simp (maxSteps := 1000000) (implicitDefEqProofs := false) (disch := omega) only [push_cast, ↓reduceIte, Nat.reduceEqDiff, reduceCtorEq, decide_true, decide_false, Bool.not_true, Bool.not_false, Option.isNone_some, Option.isNone_none, List.drop_zero, List.drop_succ_cons, List.getElem?_cons_zero, List.getElem?_cons_succ, List.length_cons, List.length_nil, List.take_succ_cons, List.take_zero, Nat.mul_one, Nat.zero_add, Nat.add_zero, Nat.one_mul, Nat.zero_mul, List.getElem?_map, List.getElem?_drop, List.getElem?_take, List.length_map, Option.map_some, List.set_cons_zero, List.set_cons_succ, and_true, true_and, List.flatMap_cons, List.flatMap_nil, Bool.not_not]
    refine wpa_bsl (by simp) (by simp) ?_
    simp (maxSteps := 1000000) (implicitDefEqProofs := false) (disch := omega) only [push_cast, ↓reduceIte, Nat.reduceEqDiff, reduceCtorEq, decide_true, decide_false, Bool.not_true, Bool.not_false, Option.isNone_some, Option.isNone_none, List.drop_zero, List.drop_succ_cons, List.getElem?_cons_zero, List.getElem?_cons_succ, List.length_cons, List.length_nil, List.take_succ_cons, List.take_zero, Nat.mul_one, Nat.zero_add, Nat.add_zero, Nat.one_mul, Nat.zero_mul, List.getElem?_map, List.getElem?_drop, List.getElem?_take, List.length_map, Option.map_some, List.set_cons_zero, List.set_cons_succ, and_true, true_and, List.flatMap_cons, List.flatMap_nil, Bool.not_not, aAccs, aSlN]
    refine wpa_app_full0 rfl rfl (aAcc_len l) (aAcc_one l) (by simp) (by omega) (by omega) ?_
    have hf : fillA [AV.sl 0 [] Tok.nil, AV.sl 0 [] Tok.nil, AV.sl 0 [] Tok.nil] [(0, 1), (2, 1)] [AV.sl xss.length (xss.map aInts) .none, AV.sl l.length (l.flatMap aAcc) .none] = some [AV.sl xss.length (xss.map aInts) .none, AV.sl 0 [] Tok.nil, AV.sl l.length (l.flatMap aAcc) .none] := by simp [fillA, AV.cells, setAtA]
    simp (maxSteps := 1000000) (implicitDefEqProofs := false) (disch := omega) only [push_cast, ↓reduceIte, Nat.reduceEqDiff, reduceCtorEq, decide_true, decide_false, Bool.not_true, Bool.not_false, Option.isNone_some, Option.isNone_none, List.drop_zero, List.drop_succ_cons, List.getElem?_cons_zero, List.getElem?_cons_succ, List.length_cons, List.length_nil, List.take_succ_cons, List.take_zero, Nat.mul_one, Nat.zero_add, Nat.add_zero, Nat.one_mul, Nat.zero_mul, List.getElem?_map, List.getElem?_drop, List.getElem?_take, List.length_map, Option.map_some, List.set_cons_zero, List.set_cons_succ, and_true, true_and, List.flatMap_cons, List.flatMap_nil, Bool.not_not, aInts2, aSl, hf]
    refine wpa_new ?_
    simp (maxSteps := 1000000) (implicitDefEqProofs := false) (disch := omega) only [push_cast, ↓reduceIte, Nat.reduceEqDiff, reduceCtorEq, decide_true, decide_false, Bool.not_true, Bool.not_false, Option.isNone_some, Option.isNone_none, List.drop_zero, List.drop_succ_cons, List.getElem?_cons_zero, List.getElem?_cons_succ, List.length_cons, List.length_nil, List.take_succ_cons, List.take_zero, Nat.mul_one, Nat.zero_add, Nat.add_zero, Nat.one_mul, Nat.zero_mul, List.getElem?_map, List.getElem?_drop, List.getElem?_take, List.length_map, Option.map_some, List.set_cons_zero, List.set_cons_succ, and_true, true_and, List.flatMap_cons, List.flatMap_nil, Bool.not_not]
    refine wpa_stn rfl rfl rfl (by simp) ?_
    simp (maxSteps := 1000000) (implicitDefEqProofs := false) (disch := omega) only [push_cast, ↓reduceIte, Nat.reduceEqDiff, reduceCtorEq, decide_true, decide_false, Bool.not_true, Bool.not_false, Option.isNone_some, Option.isNone_none, List.drop_zero, List.drop_succ_cons, List.getElem?_cons_zero, List.getElem?_cons_succ, List.length_cons, List.length_nil, List.take_succ_cons, List.take_zero, Nat.mul_one, Nat.zero_add, Nat.add_zero, Nat.one_mul, Nat.zero_mul, List.getElem?_map, List.getElem?_drop, List.getElem?_take, List.length_map, Option.map_some, List.set_cons_zero, List.set_cons_succ, and_true, true_and, List.flatMap_cons, List.flatMap_nil, Bool.not_not]
    refine wpa_callw [] [true] (span_Weights_a xss l hs' hs2 hl') (wkDag _ _ _ _ _) ?_
    rintro a rfl
    simp (maxSteps := 1000000) (implicitDefEqProofs := false) (disch := omega) only [push_cast, ↓reduceIte, Nat.reduceEqDiff, reduceCtorEq, decide_true, decide_false, Bool.not_true, Bool.not_false, Option.isNone_some, Option.isNone_none, List.drop_zero, List.drop_succ_cons, List.getElem?_cons_zero, List.getElem?_cons_succ, List.length_cons, List.length_nil, List.take_succ_cons, List.take_zero, Nat.mul_one, Nat.zero_add, Nat.add_zero, Nat.one_mul, Nat.zero_mul, List.getElem?_map, List.getElem?_drop, List.getElem?_take, List.length_map, Option.map_some, List.set_cons_zero, List.set_cons_succ, and_true, true_and, List.flatMap_cons, List.flatMap_nil, Bool.not_not]
    refine wpa_callw [] [true] (span_Work_a xss l hs' hs2 hl') (wkDag _ _ _ _ _) ?_
    rintro a rfl
    simp (maxSteps := 1000000) (implicitDefEqProofs := false) (disch := omega) only [push_cast, ↓reduceIte, Nat.reduceEqDiff, reduceCtorEq, decide_true, decide_false, Bool.not_true, Bool.not_false, Option.isNone_some, Option.isNone_none, List.drop_zero, List.drop_succ_cons, List.getElem?_cons_zero, List.getElem?_cons_succ, List.length_cons, List.length_nil, List.take_succ_cons, List.take_zero, Nat.mul_one, Nat.zero_add, Nat.add_zero, Nat.one_mul, Nat.zero_mul, List.getElem?_map, List.getElem?_drop, List.getElem?_take, List.length_map, Option.map_some, List.set_cons_zero, List.set_cons_succ, and_true, true_and, List.flatMap_cons, List.flatMap_nil, Bool.not_not]
    refine wpa_callw [] [true] (span_Span_a xss l hs' hs2 hl') (wkDag _ _ _ _ _) ?_
    rintro a rfl
    simp (maxSteps := 1000000) (implicitDefEqProofs := false) (disch := omega) only [push_cast, ↓reduceIte, Nat.reduceEqDiff, reduceCtorEq, decide_true, decide_false, Bool.not_true, Bool.not_false, Option.isNone_some, Option.isNone_none, List.drop_zero, List.drop_succ_cons, List.getElem?_cons_zero, List.getElem?_cons_succ, List.length_cons, List.length_nil, List.take_succ_cons, List.take_zero, Nat.mul_one, Nat.zero_add, Nat.add_zero, Nat.one_mul, Nat.zero_mul, List.getElem?_map, List.getElem?_drop, List.getElem?_take, List.length_map, Option.map_some, List.set_cons_zero, List.set_cons_succ, and_true, true_and, List.flatMap_cons, List.flatMap_nil, Bool.not_not]
    refine wpa_call (ref41_Weights_a xss l hs' hs2 hl') ?_
    rintro a rfl
    have hwl := (@wsE_len xss l).2
    simp (maxSteps := 1000000) (implicitDefEqProofs := false) (disch := omega) only [push_cast, ↓reduceIte, Nat.reduceEqDiff, reduceCtorEq, decide_true, decide_false, Bool.not_true, Bool.not_false, Option.isNone_some, Option.isNone_none, List.drop_zero, List.drop_succ_cons, List.getElem?_cons_zero, List.getElem?_cons_succ, List.length_cons, List.length_nil, List.take_succ_cons, List.take_zero, Nat.mul_one, Nat.zero_add, Nat.add_zero, Nat.one_mul, Nat.zero_mul, List.getElem?_map, List.getElem?_drop, List.getElem?_take, List.length_map, Option.map_some, List.set_cons_zero, List.set_cons_succ, and_true, true_and, List.flatMap_cons, List.flatMap_nil, Bool.not_not, aInt]
    refine wpa_call (law05_Ints_a (wsE xss l) (wsE xss l) (by omega) (by omega)) ?_
    rintro a rfl
    by_cases hw : wchk xss l = 0
    · obtain ⟨hc, hacc⟩ := wchk_zero hw
      obtain ⟨hk, hok⟩ := chk_zero hc
      have hE : wsE xss l = wtL xss.length l := by unfold wsE; rw [if_pos hw]
      have hSp : spanE xss l = maxL (rkF (wOf (wtL xss.length l)) xss) := by unfold spanE; rw [if_pos hw]; rfl
      have hwb := @wF_bd xss l hl'
      have hsum := wtL_sum hacc
      have hle : maxL (rkF (wOf (wtL xss.length l)) xss) ≤ xss.length + l.length := by
        rw [← hsum, ← sumW_wF]
        exact maxL_le (sumW_nn (fun k => (hwb k).1) _) (rkF_le_sum (fun k => (hwb k).1) xss)
      simp (maxSteps := 1000000) (implicitDefEqProofs := false) (disch := omega) only [push_cast, ↓reduceIte, Nat.reduceEqDiff, reduceCtorEq, decide_true, decide_false, Bool.not_true, Bool.not_false, Option.isNone_some, Option.isNone_none, List.drop_zero, List.drop_succ_cons, List.getElem?_cons_zero, List.getElem?_cons_succ, List.length_cons, List.length_nil, List.take_succ_cons, List.take_zero, Nat.mul_one, Nat.zero_add, Nat.add_zero, Nat.one_mul, Nat.zero_mul, List.getElem?_map, List.getElem?_drop, List.getElem?_take, List.length_map, Option.map_some, List.set_cons_zero, List.set_cons_succ, and_true, true_and, List.flatMap_cons, List.flatMap_nil, Bool.not_not, aBool, aInt, beq_self_eq_true, hw, hE, hSp, hsum]
      refine wpa_call (ref41_Span_a xss (wtL xss.length l) hk hs2 hok (wtL_len _ _) hwb) ?_
      rintro a rfl
      simp (maxSteps := 1000000) (implicitDefEqProofs := false) (disch := omega) only [push_cast, ↓reduceIte, Nat.reduceEqDiff, reduceCtorEq, decide_true, decide_false, Bool.not_true, Bool.not_false, Option.isNone_some, Option.isNone_none, List.drop_zero, List.drop_succ_cons, List.getElem?_cons_zero, List.getElem?_cons_succ, List.length_cons, List.length_nil, List.take_succ_cons, List.take_zero, Nat.mul_one, Nat.zero_add, Nat.add_zero, Nat.one_mul, Nat.zero_mul, List.getElem?_map, List.getElem?_drop, List.getElem?_take, List.length_map, Option.map_some, List.set_cons_zero, List.set_cons_succ, and_true, true_and, List.flatMap_cons, List.flatMap_nil, Bool.not_not, aInt]
      exact ⟨[], rfl⟩
    · have hE : wsE xss l = [] := by unfold wsE; rw [if_neg hw]
      have hSp : spanE xss l = 0 := by unfold spanE; rw [if_neg hw]
      have hz : ([] : List Int).sum = 0 := rfl
      simp (maxSteps := 1000000) (implicitDefEqProofs := false) (disch := omega) only [push_cast, ↓reduceIte, Nat.reduceEqDiff, reduceCtorEq, decide_true, decide_false, Bool.not_true, Bool.not_false, Option.isNone_some, Option.isNone_none, List.drop_zero, List.drop_succ_cons, List.getElem?_cons_zero, List.getElem?_cons_succ, List.length_cons, List.length_nil, List.take_succ_cons, List.take_zero, Nat.mul_one, Nat.zero_add, Nat.add_zero, Nat.one_mul, Nat.zero_mul, List.getElem?_map, List.getElem?_drop, List.getElem?_take, List.length_map, Option.map_some, List.set_cons_zero, List.set_cons_succ, and_true, true_and, List.flatMap_cons, List.flatMap_nil, Bool.not_not, aBool, aInt, beq_self_eq_true, hw, hE, hSp, hz]
      exact ⟨[], rfl⟩
end Go.Proofs.Ytilofhocodbknaa
