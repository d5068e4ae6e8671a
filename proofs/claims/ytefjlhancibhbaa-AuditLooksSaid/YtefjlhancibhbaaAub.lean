/- Contracts on annotated values: audit.Look, Idle, Waiting, Check of nothing. -/
import Derived.Test.YtefjlhancibhbaaAua
namespace Go.Proofs.Ytefjlhancibhbaa
set_option linter.unusedVariables false
set_option linter.unusedSimpArgs false
open Go Go.Kx Go.Proofs

def viewsE (ks : List Int) : List Int → List (Int × Int) → Int × List Int
  | seen, [] => (0, seen)
  | seen, v :: l => if holdE ks seen v ≠ 0 then (holdE ks seen v, seen) else viewsE ks (seen1 seen v.2) l
def dequeE (ks : List Int) : List Int → List Int → Int × List Int
  | seen, [] => (0, seen)
  | seen, x :: l => if takeE ks seen x ≠ 0 then (takeE ks seen x, seen) else dequeE ks (seen ++ [x]) l
def dequesE (ks : List Int) : List Int → List (List Int) → Int
  | _, [] => 0
  | seen, l :: ls => if (dequeE ks seen l).1 ≠ 0 then (dequeE ks seen l).1 else dequesE ks (dequeE ks seen l).2 ls
def lookE (views : List (Int × Int)) (deques : List (List Int)) (ks : List Int) : Int :=
  if (viewsE ks [] views).1 ≠ 0 then (viewsE ks [] views).1 else dequesE ks (viewsE ks [] views).2 deques
def aVws (l : List (Int × Int)) : AV := aSlN aVw l
theorem aVws_pure (l : List (Int × Int)) : (aVws l).pure = true := aSlN_pure (fun v => by simp [aVw, AV.pureL, AV.pure]) l

set_option maxHeartbeats 1000000 in
theorem audit_Look_a (views : List (Int × Int)) (deques : List (List Int)) (ks : List Int) (hv : views.length ≤ 1000000) (hd : deques.length ≤ 1000000) (hd2 : ∀ l ∈ deques, l.length ≤ 1000000) (hn : ks.length ≤ 1000000) :
    FnP Try.prog 9 [aVws views, aInts2 deques, aInts ks] fun a => a = aInt (lookE views deques ks) := by
  refine fnP_in K_audit_Look mixed rfl (by simp [AV.pureL, aVws_pure, aInts2_pure, aInts_pure]) ?_
  simp only [S_audit_Look]
  refine wpa_seqx (fun ε σ => (ε 0 = aVws views ∧ ε 1 = aInts2 deques ∧ ε 2 = aInts ks) ∧ σ = []) ?_ ?_
  · intro N X R hN
    simp (maxSteps := 1000000) (implicitDefEqProofs := false) (disch := omega) only [push_cast, ↓reduceIte, Nat.reduceEqDiff, reduceCtorEq, decide_true, decide_false, Bool.not_true, Bool.not_false, Option.isNone_some, Option.isNone_none, List.drop_zero, List.drop_succ_cons, List.getElem?_cons_zero, List.getElem?_cons_succ, List.length_cons, List.length_nil, List.take_succ_cons, List.take_zero, Nat.mul_one, Nat.zero_add, Nat.add_zero, Nat.one_mul, Nat.zero_mul, List.getElem?_map, List.getElem?_drop, List.getElem?_take, List.length_map, Option.map_some, List.set_cons_zero, List.set_cons_succ, and_true, true_and, List.flatMap_cons, List.flatMap_nil, Bool.not_not]
    refine hN _ _ ?_
    simp (maxSteps := 1000000) (implicitDefEqProofs := false) (disch := omega) only [push_cast, ↓reduceIte, Nat.reduceEqDiff, reduceCtorEq, decide_true, decide_false, Bool.not_true, Bool.not_false, Option.isNone_some, Option.isNone_none, List.drop_zero, List.drop_succ_cons, List.getElem?_cons_zero, List.getElem?_cons_succ, List.length_cons, List.length_nil, List.take_succ_cons, List.take_zero, Nat.mul_one, Nat.zero_add, Nat.add_zero, Nat.one_mul, Nat.zero_mul, List.getElem?_map, List.getElem?_drop, List.getElem?_take, List.length_map, Option.map_some, List.set_cons_zero, List.set_cons_succ, and_true, true_and, List.flatMap_cons, List.flatMap_nil, Bool.not_not]
  rintro ε σ ⟨hρ, rfl⟩
  refine wpa_seqx (fun ε σ => (ε 0 = aVws views ∧ ε 1 = aInts2 deques ∧ ε 7 = .ref 1 0 0) ∧ σ[1]? = some (.obj 0 (hObj ks 0)) ∧ σ[0]? = some (.obj 0 ((seenL ks.length []).map aBool))) ?_ ?_
  · intro N X R hN
    simp (maxSteps := 1000000) (implicitDefEqProofs := false) (disch := omega) only [push_cast, ↓reduceIte, Nat.reduceEqDiff, reduceCtorEq, decide_true, decide_false, Bool.not_true, Bool.not_false, Option.isNone_some, Option.isNone_none, List.drop_zero, List.drop_succ_cons, List.getElem?_cons_zero, List.getElem?_cons_succ, List.length_cons, List.length_nil, List.take_succ_cons, List.take_zero, Nat.mul_one, Nat.zero_add, Nat.add_zero, Nat.one_mul, Nat.zero_mul, List.getElem?_map, List.getElem?_drop, List.getElem?_take, List.length_map, Option.map_some, List.set_cons_zero, List.set_cons_succ, and_true, true_and, List.flatMap_cons, List.flatMap_nil, Bool.not_not, hρ, aInts, aSl]
    refine wpa_mks rfl (by omega) (by omega) ?_
    simp (maxSteps := 1000000) (implicitDefEqProofs := false) (disch := omega) only [push_cast, ↓reduceIte, Nat.reduceEqDiff, reduceCtorEq, decide_true, decide_false, Bool.not_true, Bool.not_false, Option.isNone_some, Option.isNone_none, List.drop_zero, List.drop_succ_cons, List.getElem?_cons_zero, List.getElem?_cons_succ, List.length_cons, List.length_nil, List.take_succ_cons, List.take_zero, Nat.mul_one, Nat.zero_add, Nat.add_zero, Nat.one_mul, Nat.zero_mul, List.getElem?_map, List.getElem?_drop, List.getElem?_take, List.length_map, Option.map_some, List.set_cons_zero, List.set_cons_succ, and_true, true_and, List.flatMap_cons, List.flatMap_nil, Bool.not_not, hρ]
    have hf : fillA [AV.sl 0 [] Tok.nil, AV.sl 0 [] Tok.nil] [(0, 1), (1, 1)] [.sl ks.length (ks.map aInt) .none, .ms 0 0 0 ks.length 1] = some (hObj ks 0) := by simp [fillA, AV.cells, setAtA, hObj, aInts, aSl]
    simp (maxSteps := 1000000) (implicitDefEqProofs := false) (disch := omega) only [push_cast, ↓reduceIte, Nat.reduceEqDiff, reduceCtorEq, decide_true, decide_false, Bool.not_true, Bool.not_false, Option.isNone_some, Option.isNone_none, List.drop_zero, List.drop_succ_cons, List.getElem?_cons_zero, List.getElem?_cons_succ, List.length_cons, List.length_nil, List.take_succ_cons, List.take_zero, Nat.mul_one, Nat.zero_add, Nat.add_zero, Nat.one_mul, Nat.zero_mul, List.getElem?_map, List.getElem?_drop, List.getElem?_take, List.length_map, Option.map_some, List.set_cons_zero, List.set_cons_succ, and_true, true_and, List.flatMap_cons, List.flatMap_nil, Bool.not_not, hρ, hf]
    refine wpa_box ?_
    simp (maxSteps := 1000000) (implicitDefEqProofs := false) (disch := omega) only [push_cast, ↓reduceIte, Nat.reduceEqDiff, reduceCtorEq, decide_true, decide_false, Bool.not_true, Bool.not_false, Option.isNone_some, Option.isNone_none, List.drop_zero, List.drop_succ_cons, List.getElem?_cons_zero, List.getElem?_cons_succ, List.length_cons, List.length_nil, List.take_succ_cons, List.take_zero, Nat.mul_one, Nat.zero_add, Nat.add_zero, Nat.one_mul, Nat.zero_mul, List.getElem?_map, List.getElem?_drop, List.getElem?_take, List.length_map, Option.map_some, List.set_cons_zero, List.set_cons_succ, and_true, true_and, List.flatMap_cons, List.flatMap_nil, Bool.not_not]
    refine hN _ _ ?_
    simp (maxSteps := 1000000) (implicitDefEqProofs := false) (disch := omega) only [push_cast, ↓reduceIte, Nat.reduceEqDiff, reduceCtorEq, decide_true, decide_false, Bool.not_true, Bool.not_false, Option.isNone_some, Option.isNone_none, List.drop_zero, List.drop_succ_cons, List.getElem?_cons_zero, List.getElem?_cons_succ, List.length_cons, List.length_nil, List.take_succ_cons, List.take_zero, Nat.mul_one, Nat.zero_add, Nat.add_zero, Nat.one_mul, Nat.zero_mul, List.getElem?_map, List.getElem?_drop, List.getElem?_take, List.length_map, Option.map_some, List.set_cons_zero, List.set_cons_succ, and_true, true_and, List.flatMap_cons, List.flatMap_nil, Bool.not_not, hρ]
    have hr : repA [abs1 (.bool false)] ks.length = (seenL ks.length []).map aBool := by rw [seenL_nil]; exact repA_one _ _
    rw [← hr]
    rfl
  clear hρ ε
  rintro ε σ ⟨hρ, hs1, hs0⟩
  refine wpa_seq (fun ε σ => (ε 1 = aInts2 deques ∧ ε 7 = .ref 1 0 0) ∧ (viewsE ks [] views).1 = 0 ∧ σ[1]? = some (.obj 0 (hObj ks 0)) ∧ σ[0]? = some (.obj 0 ((seenL ks.length (viewsE ks [] views).2).map aBool))) ?_ ?_
  · intro N hN
    simp (maxSteps := 1000000) (implicitDefEqProofs := false) (disch := omega) only [push_cast, ↓reduceIte, Nat.reduceEqDiff, reduceCtorEq, decide_true, decide_false, Bool.not_true, Bool.not_false, Option.isNone_some, Option.isNone_none, List.drop_zero, List.drop_succ_cons, List.getElem?_cons_zero, List.getElem?_cons_succ, List.length_cons, List.length_nil, List.take_succ_cons, List.take_zero, Nat.mul_one, Nat.zero_add, Nat.add_zero, Nat.one_mul, Nat.zero_mul, List.getElem?_map, List.getElem?_drop, List.getElem?_take, List.length_map, Option.map_some, List.set_cons_zero, List.set_cons_succ, and_true, true_and, List.flatMap_cons, List.flatMap_nil, Bool.not_not, hρ, aVws, aSlN]
    refine wpa_bl (α := Nat × List Int) (I := fun k ε σ => (ε 1 = aInts2 deques ∧ ε 7 = .ref 1 0 0 ∧ ε 23 = .sl views.length (views.flatMap aVw) .none ∧ ε 24 = .v (.int .i64 views.length) ∧ ε 25 = .v (.int .i64 k.1)) ∧ k.1 ≤ views.length ∧
        σ[1]? = some (.obj 0 (hObj ks 0)) ∧ σ[0]? = some (.obj 0 ((seenL ks.length k.2).map aBool)) ∧ viewsE ks [] views = viewsE ks k.2 (views.drop k.1))
      (μ := fun k => views.length - k.1) (Q := fun ε σ => (ε 1 = aInts2 deques ∧ ε 7 = .ref 1 0 0) ∧ (viewsE ks [] views).1 = 0 ∧ σ[1]? = some (.obj 0 (hObj ks 0)) ∧ σ[0]? = some (.obj 0 ((seenL ks.length (viewsE ks [] views).2).map aBool))) (x := (0, [])) ?_ ?_ ?_
    · simp (maxSteps := 1000000) (implicitDefEqProofs := false) (disch := omega) only [push_cast, ↓reduceIte, Nat.reduceEqDiff, reduceCtorEq, decide_true, decide_false, Bool.not_true, Bool.not_false, Option.isNone_some, Option.isNone_none, List.drop_zero, List.drop_succ_cons, List.getElem?_cons_zero, List.getElem?_cons_succ, List.length_cons, List.length_nil, List.take_succ_cons, List.take_zero, Nat.mul_one, Nat.zero_add, Nat.add_zero, Nat.one_mul, Nat.zero_mul, List.getElem?_map, List.getElem?_drop, List.getElem?_take, List.length_map, Option.map_some, List.set_cons_zero, List.set_cons_succ, and_true, true_and, List.flatMap_cons, List.flatMap_nil, Bool.not_not, hρ]
      first | exact ⟨by omega, hs1, hs0, rfl⟩ | exact ⟨hs1, hs0, rfl⟩ | exact ⟨by omega, hs1, hs0⟩ | exact ⟨hs1, hs0⟩
    · rintro ⟨k, seen⟩ ε σ N E ⟨hρ, hk, hs1, hs0, hE0⟩ hN hE
      simp only at hρ hk hs1 hs0 hE0
      simp only [S_audit_Look_L1]
      by_cases hlt : k < views.length
      · obtain ⟨v, hv⟩ := at_lt hlt
        have hd := flat_drop aVw_len hv
        have hcl : ∀ m : List AV, cellsA (some 4) (aVw v ++ m) = some (.agg (aVw v)) := fun m => by rw [cellsA_n _ _ (by simp [aVw_len])]; rfl
        rw [drop_at hv] at hE0
        simp (maxSteps := 1000000) (implicitDefEqProofs := false) (disch := omega) only [push_cast, ↓reduceIte, Nat.reduceEqDiff, reduceCtorEq, decide_true, decide_false, Bool.not_true, Bool.not_false, Option.isNone_some, Option.isNone_none, List.drop_zero, List.drop_succ_cons, List.getElem?_cons_zero, List.getElem?_cons_succ, List.length_cons, List.length_nil, List.take_succ_cons, List.take_zero, Nat.mul_one, Nat.zero_add, Nat.add_zero, Nat.one_mul, Nat.zero_mul, List.getElem?_map, List.getElem?_drop, List.getElem?_take, List.length_map, Option.map_some, List.set_cons_zero, List.set_cons_succ, and_true, true_and, List.flatMap_cons, List.flatMap_nil, Bool.not_not, hρ, hd, hcl]
        refine wpa_new ?_
        simp (maxSteps := 1000000) (implicitDefEqProofs := false) (disch := omega) only [push_cast, ↓reduceIte, Nat.reduceEqDiff, reduceCtorEq, decide_true, decide_false, Bool.not_true, Bool.not_false, Option.isNone_some, Option.isNone_none, List.drop_zero, List.drop_succ_cons, List.getElem?_cons_zero, List.getElem?_cons_succ, List.length_cons, List.length_nil, List.take_succ_cons, List.take_zero, Nat.mul_one, Nat.zero_add, Nat.add_zero, Nat.one_mul, Nat.zero_mul, List.getElem?_map, List.getElem?_drop, List.getElem?_take, List.length_map, Option.map_some, List.set_cons_zero, List.set_cons_succ, and_true, true_and, List.flatMap_cons, List.flatMap_nil, Bool.not_not]
        refine wpa_stn (aVw_len v) (by rfl) (at_snoc _ _) (by simp) ?_
        have hset : setAtA [AV.v (.int .i64 0), AV.v (.int .i64 0), AV.v (.int .i64 0), AV.v (.int .i64 0)] 0 (aVw v) = aVw v := rfl
        have hc0 : cellsA (some 4) (aVw v) = some (.agg (aVw v)) := rfl
        simp (maxSteps := 1000000) (implicitDefEqProofs := false) (disch := omega) only [push_cast, ↓reduceIte, Nat.reduceEqDiff, reduceCtorEq, decide_true, decide_false, Bool.not_true, Bool.not_false, Option.isNone_some, Option.isNone_none, List.drop_zero, List.drop_succ_cons, List.getElem?_cons_zero, List.getElem?_cons_succ, List.length_cons, List.length_nil, List.take_succ_cons, List.take_zero, Nat.mul_one, Nat.zero_add, Nat.add_zero, Nat.one_mul, Nat.zero_mul, List.getElem?_map, List.getElem?_drop, List.getElem?_take, List.length_map, Option.map_some, List.set_cons_zero, List.set_cons_succ, and_true, true_and, List.flatMap_cons, List.flatMap_nil, Bool.not_not, hset, hρ, hc0]
        refine wpa_callG (hands_hold_g ks seen v _ 1 0 hn (get_app hs1) (get_app hs0) (by omega)) ?_
        rintro a σ' ⟨rfl, hfr, hj⟩
        have hs1' := hfr 1 _ (by omega) (get_app hs1)
        by_cases h0 : holdE ks seen v = 0
        · have hj := hj h0
          simp (maxSteps := 1000000) (implicitDefEqProofs := false) (disch := omega) only [push_cast, ↓reduceIte, Nat.reduceEqDiff, reduceCtorEq, decide_true, decide_false, Bool.not_true, Bool.not_false, Option.isNone_some, Option.isNone_none, List.drop_zero, List.drop_succ_cons, List.getElem?_cons_zero, List.getElem?_cons_succ, List.length_cons, List.length_nil, List.take_succ_cons, List.take_zero, Nat.mul_one, Nat.zero_add, Nat.add_zero, Nat.one_mul, Nat.zero_mul, List.getElem?_map, List.getElem?_drop, List.getElem?_take, List.length_map, Option.map_some, List.set_cons_zero, List.set_cons_succ, and_true, true_and, List.flatMap_cons, List.flatMap_nil, Bool.not_not, hρ, aInt, h0]
          refine hN (k + 1, seen1 seen v.2) _ _ ?_ (by simp only; omega)
          simp (maxSteps := 1000000) (implicitDefEqProofs := false) (disch := omega) only [push_cast, ↓reduceIte, Nat.reduceEqDiff, reduceCtorEq, decide_true, decide_false, Bool.not_true, Bool.not_false, Option.isNone_some, Option.isNone_none, List.drop_zero, List.drop_succ_cons, List.getElem?_cons_zero, List.getElem?_cons_succ, List.length_cons, List.length_nil, List.take_succ_cons, List.take_zero, Nat.mul_one, Nat.zero_add, Nat.add_zero, Nat.one_mul, Nat.zero_mul, List.getElem?_map, List.getElem?_drop, List.getElem?_take, List.length_map, Option.map_some, List.set_cons_zero, List.set_cons_succ, and_true, true_and, List.flatMap_cons, List.flatMap_nil, Bool.not_not, hρ]
          refine ⟨by omega, hs1', hj, ?_⟩
          rw [hE0, viewsE, if_neg (by rw [h0]; simp)]
        · simp (maxSteps := 1000000) (implicitDefEqProofs := false) (disch := omega) only [push_cast, ↓reduceIte, Nat.reduceEqDiff, reduceCtorEq, decide_true, decide_false, Bool.not_true, Bool.not_false, Option.isNone_some, Option.isNone_none, List.drop_zero, List.drop_succ_cons, List.getElem?_cons_zero, List.getElem?_cons_succ, List.length_cons, List.length_nil, List.take_succ_cons, List.take_zero, Nat.mul_one, Nat.zero_add, Nat.add_zero, Nat.one_mul, Nat.zero_mul, List.getElem?_map, List.getElem?_drop, List.getElem?_take, List.length_map, Option.map_some, List.set_cons_zero, List.set_cons_succ, and_true, true_and, List.flatMap_cons, List.flatMap_nil, Bool.not_not, hρ, aInt, h0]
          have : lookE views deques ks = holdE ks seen v := by
            have e : (viewsE ks [] views).1 = holdE ks seen v := by rw [hE0, viewsE, if_pos h0]
            unfold lookE
            rw [e, if_pos h0]
          exact ⟨[], rfl, by rw [this]⟩
      · simp (maxSteps := 1000000) (implicitDefEqProofs := false) (disch := omega) only [push_cast, ↓reduceIte, Nat.reduceEqDiff, reduceCtorEq, decide_true, decide_false, Bool.not_true, Bool.not_false, Option.isNone_some, Option.isNone_none, List.drop_zero, List.drop_succ_cons, List.getElem?_cons_zero, List.getElem?_cons_succ, List.length_cons, List.length_nil, List.take_succ_cons, List.take_zero, Nat.mul_one, Nat.zero_add, Nat.add_zero, Nat.one_mul, Nat.zero_mul, List.getElem?_map, List.getElem?_drop, List.getElem?_take, List.length_map, Option.map_some, List.set_cons_zero, List.set_cons_succ, and_true, true_and, List.flatMap_cons, List.flatMap_nil, Bool.not_not, hρ]
        refine hE _ _ ?_
        rw [drop_all hlt, viewsE] at hE0
        simp (maxSteps := 1000000) (implicitDefEqProofs := false) (disch := omega) only [push_cast, ↓reduceIte, Nat.reduceEqDiff, reduceCtorEq, decide_true, decide_false, Bool.not_true, Bool.not_false, Option.isNone_some, Option.isNone_none, List.drop_zero, List.drop_succ_cons, List.getElem?_cons_zero, List.getElem?_cons_succ, List.length_cons, List.length_nil, List.take_succ_cons, List.take_zero, Nat.mul_one, Nat.zero_add, Nat.add_zero, Nat.one_mul, Nat.zero_mul, List.getElem?_map, List.getElem?_drop, List.getElem?_take, List.length_map, Option.map_some, List.set_cons_zero, List.set_cons_succ, and_true, true_and, List.flatMap_cons, List.flatMap_nil, Bool.not_not, hρ]
        rw [hE0]
        exact ⟨rfl, hs1, hs0⟩
    · rintro ε σ h
      exact hN _ _ h
  clear hρ hs1 hs0 ε σ
  rintro ε σ ⟨hρ, hv0, hs1, hs0⟩
  generalize hsn : (viewsE ks [] views).2 = sn at hs0
  have hlk : lookE views deques ks = dequesE ks sn deques := by
    unfold lookE
    rw [if_neg (by rw [hv0]; simp), hsn]
  rw [hlk]
  have hdq : ∀ l ∈ deques, l.length ≤ 1000000 := hd2
  refine wpa_seq (fun ε σ => dequesE ks sn deques = 0) ?_ ?_
  · intro N hN
    simp (maxSteps := 1000000) (implicitDefEqProofs := false) (disch := omega) only [push_cast, ↓reduceIte, Nat.reduceEqDiff, reduceCtorEq, decide_true, decide_false, Bool.not_true, Bool.not_false, Option.isNone_some, Option.isNone_none, List.drop_zero, List.drop_succ_cons, List.getElem?_cons_zero, List.getElem?_cons_succ, List.length_cons, List.length_nil, List.take_succ_cons, List.take_zero, Nat.mul_one, Nat.zero_add, Nat.add_zero, Nat.one_mul, Nat.zero_mul, List.getElem?_map, List.getElem?_drop, List.getElem?_take, List.length_map, Option.map_some, List.set_cons_zero, List.set_cons_succ, and_true, true_and, List.flatMap_cons, List.flatMap_nil, Bool.not_not, hρ, aInts2, aSl]
    refine wpa_bl (α := Nat × List Int) (I := fun k ε σ => (ε 7 = .ref 1 0 0 ∧ ε 36 = .sl deques.length (deques.map aInts) .none ∧ ε 37 = .v (.int .i64 deques.length) ∧ ε 38 = .v (.int .i64 k.1)) ∧ k.1 ≤ deques.length ∧
        σ[1]? = some (.obj 0 (hObj ks 0)) ∧ σ[0]? = some (.obj 0 ((seenL ks.length k.2).map aBool)) ∧ dequesE ks sn deques = dequesE ks k.2 (deques.drop k.1))
      (μ := fun k => deques.length - k.1) (Q := fun ε σ => dequesE ks sn deques = 0) (x := (0, sn)) ?_ ?_ ?_
    · simp (maxSteps := 1000000) (implicitDefEqProofs := false) (disch := omega) only [push_cast, ↓reduceIte, Nat.reduceEqDiff, reduceCtorEq, decide_true, decide_false, Bool.not_true, Bool.not_false, Option.isNone_some, Option.isNone_none, List.drop_zero, List.drop_succ_cons, List.getElem?_cons_zero, List.getElem?_cons_succ, List.length_cons, List.length_nil, List.take_succ_cons, List.take_zero, Nat.mul_one, Nat.zero_add, Nat.add_zero, Nat.one_mul, Nat.zero_mul, List.getElem?_map, List.getElem?_drop, List.getElem?_take, List.length_map, Option.map_some, List.set_cons_zero, List.set_cons_succ, and_true, true_and, List.flatMap_cons, List.flatMap_nil, Bool.not_not, hρ]
      first | exact ⟨by omega, hs1, hs0, rfl⟩ | exact ⟨hs1, hs0, rfl⟩ | exact ⟨by omega, hs1, hs0⟩ | exact ⟨hs1, hs0⟩
    · rintro ⟨k, seen⟩ ε σ N E ⟨hρ, hk, hs1, hs0, hE0⟩ hN hE
      simp only at hρ hk hs1 hs0 hE0
      simp only [S_audit_Look_L2]
      by_cases hlt : k < deques.length
      · obtain ⟨l, hl⟩ := at_lt hlt
        have hll := hdq l (List.mem_of_getElem? hl)
        rw [drop_at hl] at hE0
        simp (maxSteps := 1000000) (implicitDefEqProofs := false) (disch := omega) only [push_cast, ↓reduceIte, Nat.reduceEqDiff, reduceCtorEq, decide_true, decide_false, Bool.not_true, Bool.not_false, Option.isNone_some, Option.isNone_none, List.drop_zero, List.drop_succ_cons, List.getElem?_cons_zero, List.getElem?_cons_succ, List.length_cons, List.length_nil, List.take_succ_cons, List.take_zero, Nat.mul_one, Nat.zero_add, Nat.add_zero, Nat.one_mul, Nat.zero_mul, List.getElem?_map, List.getElem?_drop, List.getElem?_take, List.length_map, Option.map_some, List.set_cons_zero, List.set_cons_succ, and_true, true_and, List.flatMap_cons, List.flatMap_nil, Bool.not_not, hρ, hl, aInts, aSl]
        refine wpa_bl (α := Nat × List Int) (I := fun m ε σ => (ε 7 = .ref 1 0 0 ∧ ε 36 = .sl deques.length (deques.map aInts) .none ∧ ε 37 = .v (.int .i64 deques.length) ∧ ε 38 = .v (.int .i64 k) ∧
            ε 42 = .sl l.length (l.map aInt) .none ∧ ε 43 = .v (.int .i64 l.length) ∧ ε 44 = .v (.int .i64 m.1)) ∧ m.1 ≤ l.length ∧
            σ[1]? = some (.obj 0 (hObj ks 0)) ∧ σ[0]? = some (.obj 0 ((seenL ks.length m.2).map aBool)) ∧ dequeE ks seen l = dequeE ks m.2 (l.drop m.1))
          (μ := fun m => l.length - m.1) (Q := fun ε σ => (ε 7 = .ref 1 0 0 ∧ ε 36 = .sl deques.length (deques.map aInts) .none ∧ ε 37 = .v (.int .i64 deques.length) ∧ ε 38 = .v (.int .i64 k)) ∧
            (dequeE ks seen l).1 = 0 ∧ σ[1]? = some (.obj 0 (hObj ks 0)) ∧ σ[0]? = some (.obj 0 ((seenL ks.length (dequeE ks seen l).2).map aBool))) (x := (0, seen)) ?_ ?_ ?_
        · simp (maxSteps := 1000000) (implicitDefEqProofs := false) (disch := omega) only [push_cast, ↓reduceIte, Nat.reduceEqDiff, reduceCtorEq, decide_true, decide_false, Bool.not_true, Bool.not_false, Option.isNone_some, Option.isNone_none, List.drop_zero, List.drop_succ_cons, List.getElem?_cons_zero, List.getElem?_cons_succ, List.length_cons, List.length_nil, List.take_succ_cons, List.take_zero, Nat.mul_one, Nat.zero_add, Nat.add_zero, Nat.one_mul, Nat.zero_mul, List.getElem?_map, List.getElem?_drop, List.getElem?_take, List.length_map, Option.map_some, List.set_cons_zero, List.set_cons_succ, and_true, true_and, List.flatMap_cons, List.flatMap_nil, Bool.not_not, hρ]
          first | exact ⟨by omega, hs1, hs0, rfl⟩ | exact ⟨hs1, hs0, rfl⟩ | exact ⟨by omega, hs1, hs0⟩ | exact ⟨hs1, hs0⟩
        · rintro ⟨m, see⟩ ε σ N' E' ⟨hρ, hm, hs1, hs0, hF⟩ hN' hE'
          simp only at hρ hm hs1 hs0 hF
          simp only [S_audit_Look_L3]
          by_cases hml : m < l.length
          · obtain ⟨x, hx⟩ := at_lt hml
            rw [drop_at hx] at hF
            simp (maxSteps := 1000000) (implicitDefEqProofs := false) (disch := omega) only [push_cast, ↓reduceIte, Nat.reduceEqDiff, reduceCtorEq, decide_true, decide_false, Bool.not_true, Bool.not_false, Option.isNone_some, Option.isNone_none, List.drop_zero, List.drop_succ_cons, List.getElem?_cons_zero, List.getElem?_cons_succ, List.length_cons, List.length_nil, List.take_succ_cons, List.take_zero, Nat.mul_one, Nat.zero_add, Nat.add_zero, Nat.one_mul, Nat.zero_mul, List.getElem?_map, List.getElem?_drop, List.getElem?_take, List.length_map, Option.map_some, List.set_cons_zero, List.set_cons_succ, and_true, true_and, List.flatMap_cons, List.flatMap_nil, Bool.not_not, hρ, hx, aInt]
            refine wpa_callG (hands_take_g ks see x σ 1 0 hn hs1 hs0 (by omega)) ?_
            rintro a σ' ⟨rfl, hfr, hj⟩
            have hs1' := hfr 1 _ (by omega) hs1
            by_cases h0 : takeE ks see x = 0
            · rw [if_pos h0] at hj
              simp (maxSteps := 1000000) (implicitDefEqProofs := false) (disch := omega) only [push_cast, ↓reduceIte, Nat.reduceEqDiff, reduceCtorEq, decide_true, decide_false, Bool.not_true, Bool.not_false, Option.isNone_some, Option.isNone_none, List.drop_zero, List.drop_succ_cons, List.getElem?_cons_zero, List.getElem?_cons_succ, List.length_cons, List.length_nil, List.take_succ_cons, List.take_zero, Nat.mul_one, Nat.zero_add, Nat.add_zero, Nat.one_mul, Nat.zero_mul, List.getElem?_map, List.getElem?_drop, List.getElem?_take, List.length_map, Option.map_some, List.set_cons_zero, List.set_cons_succ, and_true, true_and, List.flatMap_cons, List.flatMap_nil, Bool.not_not, hρ, aInt, h0]
              refine hN' (m + 1, see ++ [x]) _ _ ?_ (by simp only; omega)
              simp (maxSteps := 1000000) (implicitDefEqProofs := false) (disch := omega) only [push_cast, ↓reduceIte, Nat.reduceEqDiff, reduceCtorEq, decide_true, decide_false, Bool.not_true, Bool.not_false, Option.isNone_some, Option.isNone_none, List.drop_zero, List.drop_succ_cons, List.getElem?_cons_zero, List.getElem?_cons_succ, List.length_cons, List.length_nil, List.take_succ_cons, List.take_zero, Nat.mul_one, Nat.zero_add, Nat.add_zero, Nat.one_mul, Nat.zero_mul, List.getElem?_map, List.getElem?_drop, List.getElem?_take, List.length_map, Option.map_some, List.set_cons_zero, List.set_cons_succ, and_true, true_and, List.flatMap_cons, List.flatMap_nil, Bool.not_not, hρ]
              refine ⟨by omega, hs1', hj, ?_⟩
              rw [hF, dequeE, if_neg (by rw [h0]; simp)]
            · simp (maxSteps := 1000000) (implicitDefEqProofs := false) (disch := omega) only [push_cast, ↓reduceIte, Nat.reduceEqDiff, reduceCtorEq, decide_true, decide_false, Bool.not_true, Bool.not_false, Option.isNone_some, Option.isNone_none, List.drop_zero, List.drop_succ_cons, List.getElem?_cons_zero, List.getElem?_cons_succ, List.length_cons, List.length_nil, List.take_succ_cons, List.take_zero, Nat.mul_one, Nat.zero_add, Nat.add_zero, Nat.one_mul, Nat.zero_mul, List.getElem?_map, List.getElem?_drop, List.getElem?_take, List.length_map, Option.map_some, List.set_cons_zero, List.set_cons_succ, and_true, true_and, List.flatMap_cons, List.flatMap_nil, Bool.not_not, hρ, aInt, h0]
              have e1 : (dequeE ks seen l).1 = takeE ks see x := by rw [hF, dequeE, if_pos h0]
              have : dequesE ks sn deques = takeE ks see x := by rw [hE0, dequesE, e1, if_pos h0]
              exact ⟨[], rfl, by rw [this]⟩
          · simp (maxSteps := 1000000) (implicitDefEqProofs := false) (disch := omega) only [push_cast, ↓reduceIte, Nat.reduceEqDiff, reduceCtorEq, decide_true, decide_false, Bool.not_true, Bool.not_false, Option.isNone_some, Option.isNone_none, List.drop_zero, List.drop_succ_cons, List.getElem?_cons_zero, List.getElem?_cons_succ, List.length_cons, List.length_nil, List.take_succ_cons, List.take_zero, Nat.mul_one, Nat.zero_add, Nat.add_zero, Nat.one_mul, Nat.zero_mul, List.getElem?_map, List.getElem?_drop, List.getElem?_take, List.length_map, Option.map_some, List.set_cons_zero, List.set_cons_succ, and_true, true_and, List.flatMap_cons, List.flatMap_nil, Bool.not_not, hρ]
            refine hE' _ _ ?_
            rw [drop_all hml, dequeE] at hF
            simp (maxSteps := 1000000) (implicitDefEqProofs := false) (disch := omega) only [push_cast, ↓reduceIte, Nat.reduceEqDiff, reduceCtorEq, decide_true, decide_false, Bool.not_true, Bool.not_false, Option.isNone_some, Option.isNone_none, List.drop_zero, List.drop_succ_cons, List.getElem?_cons_zero, List.getElem?_cons_succ, List.length_cons, List.length_nil, List.take_succ_cons, List.take_zero, Nat.mul_one, Nat.zero_add, Nat.add_zero, Nat.one_mul, Nat.zero_mul, List.getElem?_map, List.getElem?_drop, List.getElem?_take, List.length_map, Option.map_some, List.set_cons_zero, List.set_cons_succ, and_true, true_and, List.flatMap_cons, List.flatMap_nil, Bool.not_not, hρ]
            rw [hF]
            exact ⟨rfl, hs1, hs0⟩
        · rintro ε σ ⟨hρ, hz, hs1, hs0⟩
          simp (maxSteps := 1000000) (implicitDefEqProofs := false) (disch := omega) only [push_cast, ↓reduceIte, Nat.reduceEqDiff, reduceCtorEq, decide_true, decide_false, Bool.not_true, Bool.not_false, Option.isNone_some, Option.isNone_none, List.drop_zero, List.drop_succ_cons, List.getElem?_cons_zero, List.getElem?_cons_succ, List.length_cons, List.length_nil, List.take_succ_cons, List.take_zero, Nat.mul_one, Nat.zero_add, Nat.add_zero, Nat.one_mul, Nat.zero_mul, List.getElem?_map, List.getElem?_drop, List.getElem?_take, List.length_map, Option.map_some, List.set_cons_zero, List.set_cons_succ, and_true, true_and, List.flatMap_cons, List.flatMap_nil, Bool.not_not, hρ]
          refine hN (k + 1, (dequeE ks seen l).2) _ _ ?_ (by simp only; omega)
          simp (maxSteps := 1000000) (implicitDefEqProofs := false) (disch := omega) only [push_cast, ↓reduceIte, Nat.reduceEqDiff, reduceCtorEq, decide_true, decide_false, Bool.not_true, Bool.not_false, Option.isNone_some, Option.isNone_none, List.drop_zero, List.drop_succ_cons, List.getElem?_cons_zero, List.getElem?_cons_succ, List.length_cons, List.length_nil, List.take_succ_cons, List.take_zero, Nat.mul_one, Nat.zero_add, Nat.add_zero, Nat.one_mul, Nat.zero_mul, List.getElem?_map, List.getElem?_drop, List.getElem?_take, List.length_map, Option.map_some, List.set_cons_zero, List.set_cons_succ, and_true, true_and, List.flatMap_cons, List.flatMap_nil, Bool.not_not, hρ]
          refine ⟨by omega, hs1, hs0, ?_⟩
          rw [hE0, dequesE, if_neg (by rw [hz]; simp)]
      · simp (maxSteps := 1000000) (implicitDefEqProofs := false) (disch := omega) only [push_cast, ↓reduceIte, Nat.reduceEqDiff, reduceCtorEq, decide_true, decide_false, Bool.not_true, Bool.not_false, Option.isNone_some, Option.isNone_none, List.drop_zero, List.drop_succ_cons, List.getElem?_cons_zero, List.getElem?_cons_succ, List.length_cons, List.length_nil, List.take_succ_cons, List.take_zero, Nat.mul_one, Nat.zero_add, Nat.add_zero, Nat.one_mul, Nat.zero_mul, List.getElem?_map, List.getElem?_drop, List.getElem?_take, List.length_map, Option.map_some, List.set_cons_zero, List.set_cons_succ, and_true, true_and, List.flatMap_cons, List.flatMap_nil, Bool.not_not, hρ]
        refine hE _ _ ?_
        rw [hE0, drop_all hlt, dequesE]
    · rintro ε σ h
      exact hN _ _ h
  rintro ε σ h
  rw [h]
  simp (maxSteps := 1000000) (implicitDefEqProofs := false) (disch := omega) only [push_cast, ↓reduceIte, Nat.reduceEqDiff, reduceCtorEq, decide_true, decide_false, Bool.not_true, Bool.not_false, Option.isNone_some, Option.isNone_none, List.drop_zero, List.drop_succ_cons, List.getElem?_cons_zero, List.getElem?_cons_succ, List.length_cons, List.length_nil, List.take_succ_cons, List.take_zero, Nat.mul_one, Nat.zero_add, Nat.add_zero, Nat.one_mul, Nat.zero_mul, List.getElem?_map, List.getElem?_drop, List.getElem?_take, List.length_map, Option.map_some, List.set_cons_zero, List.set_cons_succ, and_true, true_and, List.flatMap_cons, List.flatMap_nil, Bool.not_not]
  exact ⟨[], rfl, rfl⟩
end Go.Proofs.Ytefjlhancibhbaa
