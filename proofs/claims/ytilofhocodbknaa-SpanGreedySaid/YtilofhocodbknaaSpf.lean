/- Contracts on annotated values: span.Plan, Greedy. -/
import Derived.Test.YtilofhocodbknaaSpe
namespace Go.Proofs.Ytilofhocodbknaa
set_option linter.unusedVariables false
set_option linter.unusedSimpArgs false
open Go Go.Kx Go.Proofs

def planD (xss : List (List Int)) (n : Nat) : Nat → List Int → List (List Int)
  | 0, _ => []
  | f + 1, D => if D.length < xss.length then rowD xss n D :: planD xss n f (D ++ rowD xss n D) else []
def wN (w : Int) : Nat := (min (max w 1) 64).toNat
def planE (xss : List (List Int)) (w : Int) : List (List Int) := if chk xss = 0 then planD xss (wN w) xss.length [] else []
theorem planD_stop {xss : List (List Int)} {n f : Nat} {D : List Int} (h : ¬ D.length < xss.length) : planD xss n f D = [] := by
  cases f with
  | zero => rfl
  | succ f => simp [planD, h]
theorem all_in : ∀ (n : Nat) (D : List Int), (∀ i : Nat, i < n → (i : Int) ∈ D) → n ≤ D.length := by
  intro n
  induction n with
  | zero => intro D _; omega
  | succ n ih =>
    intro D h
    have hm := h n (by omega)
    have := ih (D.erase (n : Int)) fun i hi => (List.mem_erase_of_ne (by omega)).2 (h i (by omega))
    rw [List.length_erase_of_mem hm] at this
    have := List.length_pos_of_mem hm
    omega
theorem rowD_pos {xss : List (List Int)} (hok : okB 0 xss = true) {n : Nat} (hn : 1 ≤ n) {D : List Int} (h : D.length < xss.length) : 1 ≤ (rowD xss n D).length := by
  have hex : ∃ i : Nat, i < xss.length ∧ (i : Int) ∉ D := by
    apply Classical.byContradiction
    intro hno
    have := all_in xss.length D fun i hi => Classical.byContradiction fun hm => hno ⟨i, hi, hm⟩
    omega
  have hmin : ∀ i : Nat, i < xss.length → (i : Int) ∉ D → ∃ k : Nat, k < xss.length ∧ readyD xss D k = true := by
    intro i
    induction i using Nat.strongRecOn with
    | ind i ih =>
      intro hi hm
      by_cases hall : (xss.getD i []).all (fun p => D.contains p) = true
      · exact ⟨i, hi, by unfold readyD; rw [hall]; simp [hm]⟩
      · rw [Bool.not_eq_true, List.all_eq_false] at hall
        obtain ⟨p, hp, hc⟩ := hall
        obtain ⟨l, hl⟩ := at_lt hi
        have hG : xss.getD i [] = l := by simp [List.getD_eq_getElem?_getD, hl]
        rw [hG] at hp
        have hpk := okB_at hok hl p hp
        obtain ⟨q, rfl⟩ : ∃ q : Nat, p = q := ⟨p.toNat, by omega⟩
        exact ih q (by omega) (by omega) (by simpa using hc)
  obtain ⟨i, hi, hm⟩ := hex
  obtain ⟨k, hk, hr⟩ := hmin i hi hm
  unfold rowD rowK
  rw [List.length_map, List.length_take]
  have : 0 < ((List.range xss.length).filter (readyD xss D)).length := List.length_pos_of_mem (a := k) (by simp [hk, hr])
  omega
theorem wN_bd (w : Int) : 1 ≤ wN w ∧ wN w ≤ 64 := by unfold wN; omega
theorem wN_eq (w : Int) : (wN w : Int) = min (max w 1) 64 := by unfold wN; omega

set_option maxHeartbeats 4000000 in
theorem span_Plan_a (xss : List (List Int)) (wk : Int) (hs : xss.length ≤ 1000000) (hs2 : ∀ l ∈ xss, l.length ≤ 1000000) : FnP Try.prog 62 [aInts2 xss, aInt wk] fun a => a = .tup [aInts2 (planE xss wk), aInt (chk xss)] := by
  refine fnP_in K_span_Plan mixed rfl (by simp [AV.pureL, aInts2_pure, aInt_pure]) ?_
  simp only [S_span_Plan]
  simp (maxSteps := 1000000) (implicitDefEqProofs := false) (disch := omega) only [push_cast, ↓reduceIte, Nat.reduceEqDiff, reduceCtorEq, decide_true, decide_false, Bool.not_true, Bool.not_false, Option.isNone_some, Option.isNone_none, List.drop_zero, List.drop_succ_cons, List.getElem?_cons_zero, List.getElem?_cons_succ, List.length_cons, List.length_nil, List.take_succ_cons, List.take_zero, Nat.mul_one, Nat.zero_add, Nat.add_zero, Nat.one_mul, Nat.zero_mul, List.getElem?_map, List.getElem?_drop, List.getElem?_take, List.length_map, Option.map_some, List.set_cons_zero, List.set_cons_succ, and_true, true_and, List.flatMap_cons, List.flatMap_nil, Bool.not_not]
  refine wpa_call (span_right_a xss hs hs2) ?_
  rintro a rfl
  by_cases hc : chk xss = 0
  · obtain ⟨hn, hok⟩ := chk_zero hc
    have hE : planE xss wk = planD xss (wN wk) xss.length [] := by unfold planE; rw [if_pos hc]
    have hw := wN_bd wk
    have hwe := wN_eq wk
    rw [hE]
    generalize wN wk = n at hw hwe ⊢
    simp (maxSteps := 1000000) (implicitDefEqProofs := false) (disch := omega) only [push_cast, ↓reduceIte, Nat.reduceEqDiff, reduceCtorEq, decide_true, decide_false, Bool.not_true, Bool.not_false, Option.isNone_some, Option.isNone_none, List.drop_zero, List.drop_succ_cons, List.getElem?_cons_zero, List.getElem?_cons_succ, List.length_cons, List.length_nil, List.take_succ_cons, List.take_zero, Nat.mul_one, Nat.zero_add, Nat.add_zero, Nat.one_mul, Nat.zero_mul, List.getElem?_map, List.getElem?_drop, List.getElem?_take, List.length_map, Option.map_some, List.set_cons_zero, List.set_cons_succ, and_true, true_and, List.flatMap_cons, List.flatMap_nil, Bool.not_not, aInt, hc, aInts2, aSl]
    refine wpa_mks rfl (by omega) (by omega) ?_
    have hf : fillA [AV.sl 0 [] Tok.nil, AV.sl 0 [] Tok.nil] [(0, 1), (1, 1)] [AV.sl xss.length (xss.map aInts) Tok.none, AV.ms 0 0 0 xss.length 1] = some [AV.sl xss.length (xss.map aInts) Tok.none, AV.ms 0 0 0 xss.length 1] := by simp [fillA, AV.cells, setAtA]
    simp (maxSteps := 1000000) (implicitDefEqProofs := false) (disch := omega) only [push_cast, ↓reduceIte, Nat.reduceEqDiff, reduceCtorEq, decide_true, decide_false, Bool.not_true, Bool.not_false, Option.isNone_some, Option.isNone_none, List.drop_zero, List.drop_succ_cons, List.getElem?_cons_zero, List.getElem?_cons_succ, List.length_cons, List.length_nil, List.take_succ_cons, List.take_zero, Nat.mul_one, Nat.zero_add, Nat.add_zero, Nat.one_mul, Nat.zero_mul, List.getElem?_map, List.getElem?_drop, List.getElem?_take, List.length_map, Option.map_some, List.set_cons_zero, List.set_cons_succ, and_true, true_and, List.flatMap_cons, List.flatMap_nil, Bool.not_not, repA_one, hf]
    refine wpa_box ?_
    simp (maxSteps := 1000000) (implicitDefEqProofs := false) (disch := omega) only [push_cast, ↓reduceIte, Nat.reduceEqDiff, reduceCtorEq, decide_true, decide_false, Bool.not_true, Bool.not_false, Option.isNone_some, Option.isNone_none, List.drop_zero, List.drop_succ_cons, List.getElem?_cons_zero, List.getElem?_cons_succ, List.length_cons, List.length_nil, List.take_succ_cons, List.take_zero, Nat.mul_one, Nat.zero_add, Nat.add_zero, Nat.one_mul, Nat.zero_mul, List.getElem?_map, List.getElem?_drop, List.getElem?_take, List.length_map, Option.map_some, List.set_cons_zero, List.set_cons_succ, and_true, true_and, List.flatMap_cons, List.flatMap_nil, Bool.not_not]
    rw [← hwe]
    refine wpa_blg (GU.tok 9 1 rfl) (α := List (List Int)) (I := fun R ε σ => (ε 0 = .sl xss.length (xss.map aInts) .none ∧ ε 7 = .ref 1 0 0 ∧ ε 8 = .v (.int .i64 n) ∧ ε 10 = .v (.int .i64 R.flatten.length)) ∧
        planD xss n xss.length [] = R ++ planD xss n (xss.length - R.length) R.flatten ∧ R.length ≤ xss.length ∧ R.length ≤ R.flatten.length ∧ R.flatten.length ≤ 2000 ∧
        ∃ w rs τ, rsOk xss.length R.flatten R.length rs ∧ ε 9 = .sl R.length (R.map aInts) (.id 2 w 1) ∧
          σ = .obj 0 (rs.map aInt) :: .obj 0 [.sl xss.length (xss.map aInts) .none, .ms 0 0 0 xss.length 1] :: .tail w :: τ)
      (μ := fun R => xss.length - R.length) (Q := fun ε _ => ∃ w, ε 9 = .sl (planD xss n xss.length []).length ((planD xss n xss.length []).map aInts) (.id 2 w 1)) (x := []) ?_ ?_ ?_
    · simp (maxSteps := 1000000) (implicitDefEqProofs := false) (disch := omega) only [push_cast, ↓reduceIte, Nat.reduceEqDiff, reduceCtorEq, decide_true, decide_false, Bool.not_true, Bool.not_false, Option.isNone_some, Option.isNone_none, List.drop_zero, List.drop_succ_cons, List.getElem?_cons_zero, List.getElem?_cons_succ, List.length_cons, List.length_nil, List.take_succ_cons, List.take_zero, Nat.mul_one, Nat.zero_add, Nat.add_zero, Nat.one_mul, Nat.zero_mul, List.getElem?_map, List.getElem?_drop, List.getElem?_take, List.length_map, Option.map_some, List.set_cons_zero, List.set_cons_succ, and_true, true_and, List.flatMap_cons, List.flatMap_nil, Bool.not_not]
      refine ⟨rfl, by simp, by simp, by simp, by simp, 0, List.replicate xss.length 0, [], ?_, rfl, by simp [aInt]⟩
      exact ⟨by simp, fun i hi => ⟨0, by simp [hi], by omega, by simp, by simp⟩⟩
    · rintro R ε σ N E ⟨hρ, hplan, hR1, hR2, hR3, w, rs, τ, hrs, h9, rfl⟩ hN hE
      simp only [S_span_Plan_L1]
      by_cases hlt : R.flatten.length < xss.length
      · have hpos := rowD_pos hok hw.1 hlt
        have hrl : (rowD xss n R.flatten).length ≤ xss.length := (rowK_len xss n R.flatten xss.length).2
        simp (maxSteps := 1000000) (implicitDefEqProofs := false) (disch := omega) only [push_cast, ↓reduceIte, Nat.reduceEqDiff, reduceCtorEq, decide_true, decide_false, Bool.not_true, Bool.not_false, Option.isNone_some, Option.isNone_none, List.drop_zero, List.drop_succ_cons, List.getElem?_cons_zero, List.getElem?_cons_succ, List.length_cons, List.length_nil, List.take_succ_cons, List.take_zero, Nat.mul_one, Nat.zero_add, Nat.add_zero, Nat.one_mul, Nat.zero_mul, List.getElem?_map, List.getElem?_drop, List.getElem?_take, List.length_map, Option.map_some, List.set_cons_zero, List.set_cons_succ, and_true, true_and, List.flatMap_cons, List.flatMap_nil, Bool.not_not, hρ, h9]
        refine wpa_callG (plan_next_g xss hn hs2 hok R.flatten R.length n (by omega) (by omega) rs hrs _ 1 0 (by omega) (by simp [aInts2, aSl]) rfl) ?_
        rintro a σ' ⟨rfl, w', rs', hrs', rfl⟩
        simp (maxSteps := 1000000) (implicitDefEqProofs := false) (disch := omega) only [push_cast, ↓reduceIte, Nat.reduceEqDiff, reduceCtorEq, decide_true, decide_false, Bool.not_true, Bool.not_false, Option.isNone_some, Option.isNone_none, List.drop_zero, List.drop_succ_cons, List.getElem?_cons_zero, List.getElem?_cons_succ, List.length_cons, List.length_nil, List.take_succ_cons, List.take_zero, Nat.mul_one, Nat.zero_add, Nat.add_zero, Nat.one_mul, Nat.zero_mul, List.getElem?_map, List.getElem?_drop, List.getElem?_take, List.length_map, Option.map_some, List.set_cons_zero, List.set_cons_succ, and_true, true_and, List.flatMap_cons, List.flatMap_nil, Bool.not_not, hρ, h9, aInts, aSl]
        refine wpa_bsl (by simp [AV.cells]) (by simp) ?_
        simp (maxSteps := 1000000) (implicitDefEqProofs := false) (disch := omega) only [push_cast, ↓reduceIte, Nat.reduceEqDiff, reduceCtorEq, decide_true, decide_false, Bool.not_true, Bool.not_false, Option.isNone_some, Option.isNone_none, List.drop_zero, List.drop_succ_cons, List.getElem?_cons_zero, List.getElem?_cons_succ, List.length_cons, List.length_nil, List.take_succ_cons, List.take_zero, Nat.mul_one, Nat.zero_add, Nat.add_zero, Nat.one_mul, Nat.zero_mul, List.getElem?_map, List.getElem?_drop, List.getElem?_take, List.length_map, Option.map_some, List.set_cons_zero, List.set_cons_succ, and_true, true_and, List.flatMap_cons, List.flatMap_nil, Bool.not_not, hρ, h9]
        refine wpa_app rfl rfl rfl rfl (by simp) (by omega) (by omega) rfl ?_
        simp (maxSteps := 1000000) (implicitDefEqProofs := false) (disch := omega) only [push_cast, ↓reduceIte, Nat.reduceEqDiff, reduceCtorEq, decide_true, decide_false, Bool.not_true, Bool.not_false, Option.isNone_some, Option.isNone_none, List.drop_zero, List.drop_succ_cons, List.getElem?_cons_zero, List.getElem?_cons_succ, List.length_cons, List.length_nil, List.take_succ_cons, List.take_zero, Nat.mul_one, Nat.zero_add, Nat.add_zero, Nat.one_mul, Nat.zero_mul, List.getElem?_map, List.getElem?_drop, List.getElem?_take, List.length_map, Option.map_some, List.set_cons_zero, List.set_cons_succ, and_true, true_and, List.flatMap_cons, List.flatMap_nil, Bool.not_not, hρ, h9]
        have hfl : (R ++ [rowD xss n R.flatten]).flatten = R.flatten ++ rowD xss n R.flatten := by simp
        refine hN (R ++ [rowD xss n R.flatten]) _ _ ?_ (by rw [List.length_append, List.length_singleton]; omega)
        rw [hfl]
        simp (maxSteps := 1000000) (implicitDefEqProofs := false) (disch := omega) only [push_cast, ↓reduceIte, Nat.reduceEqDiff, reduceCtorEq, decide_true, decide_false, Bool.not_true, Bool.not_false, Option.isNone_some, Option.isNone_none, List.drop_zero, List.drop_succ_cons, List.getElem?_cons_zero, List.getElem?_cons_succ, List.length_cons, List.length_nil, List.take_succ_cons, List.take_zero, Nat.mul_one, Nat.zero_add, Nat.add_zero, Nat.one_mul, Nat.zero_mul, List.getElem?_map, List.getElem?_drop, List.getElem?_take, List.length_map, Option.map_some, List.set_cons_zero, List.set_cons_succ, and_true, true_and, List.flatMap_cons, List.flatMap_nil, Bool.not_not, hρ]
        have e1 : (R ++ [rowD xss n R.flatten]).length = R.length + 1 := by simp
        have e2 : (R.flatten ++ rowD xss n R.flatten).length = R.flatten.length + (rowD xss n R.flatten).length := List.length_append
        refine ⟨?_, ?_, by rw [e1]; omega, by rw [e1, e2]; omega, by rw [e2]; omega, w + 1, rs', _, by rw [e1]; exact_mod_cast hrs', by simp [aInts, aSl], rfl⟩
        · rw [e2, Int.natCast_add]
        · obtain ⟨f, hf⟩ : ∃ f, xss.length - R.length = f + 1 := ⟨xss.length - R.length - 1, by omega⟩
          rw [hplan, hf, planD, if_pos hlt]
          have : xss.length - (R.length + 1) = f := by omega
          simp [this]
      · rw [planD_stop hlt, List.append_nil] at hplan
        simp (maxSteps := 1000000) (implicitDefEqProofs := false) (disch := omega) only [push_cast, ↓reduceIte, Nat.reduceEqDiff, reduceCtorEq, decide_true, decide_false, Bool.not_true, Bool.not_false, Option.isNone_some, Option.isNone_none, List.drop_zero, List.drop_succ_cons, List.getElem?_cons_zero, List.getElem?_cons_succ, List.length_cons, List.length_nil, List.take_succ_cons, List.take_zero, Nat.mul_one, Nat.zero_add, Nat.add_zero, Nat.one_mul, Nat.zero_mul, List.getElem?_map, List.getElem?_drop, List.getElem?_take, List.length_map, Option.map_some, List.set_cons_zero, List.set_cons_succ, and_true, true_and, List.flatMap_cons, List.flatMap_nil, Bool.not_not, hρ]
        refine hE _ _ ⟨w, ?_⟩
        simp (maxSteps := 1000000) (implicitDefEqProofs := false) (disch := omega) only [push_cast, ↓reduceIte, Nat.reduceEqDiff, reduceCtorEq, decide_true, decide_false, Bool.not_true, Bool.not_false, Option.isNone_some, Option.isNone_none, List.drop_zero, List.drop_succ_cons, List.getElem?_cons_zero, List.getElem?_cons_succ, List.length_cons, List.length_nil, List.take_succ_cons, List.take_zero, Nat.mul_one, Nat.zero_add, Nat.add_zero, Nat.one_mul, Nat.zero_mul, List.getElem?_map, List.getElem?_drop, List.getElem?_take, List.length_map, Option.map_some, List.set_cons_zero, List.set_cons_succ, and_true, true_and, List.flatMap_cons, List.flatMap_nil, Bool.not_not, h9]
        rw [hplan]
    · rintro ε σ ⟨w, h9⟩
      simp (maxSteps := 1000000) (implicitDefEqProofs := false) (disch := omega) only [push_cast, ↓reduceIte, Nat.reduceEqDiff, reduceCtorEq, decide_true, decide_false, Bool.not_true, Bool.not_false, Option.isNone_some, Option.isNone_none, List.drop_zero, List.drop_succ_cons, List.getElem?_cons_zero, List.getElem?_cons_succ, List.length_cons, List.length_nil, List.take_succ_cons, List.take_zero, Nat.mul_one, Nat.zero_add, Nat.add_zero, Nat.one_mul, Nat.zero_mul, List.getElem?_map, List.getElem?_drop, List.getElem?_take, List.length_map, Option.map_some, List.set_cons_zero, List.set_cons_succ, and_true, true_and, List.flatMap_cons, List.flatMap_nil, Bool.not_not, h9]
      refine fin_tup2 [] (c := aInts2 (planD xss n xss.length [])) (d := aInt 0) ?_ ?_ (aInts2_pure _) (aInt_pure _) ?_
      · exact aSl_res (aInts_res _) _ _
      · simp [AV.res, aInt]
      · rfl
  · have hE : planE xss wk = [] := by unfold planE; rw [if_neg hc]
    simp (maxSteps := 1000000) (implicitDefEqProofs := false) (disch := omega) only [push_cast, ↓reduceIte, Nat.reduceEqDiff, reduceCtorEq, decide_true, decide_false, Bool.not_true, Bool.not_false, Option.isNone_some, Option.isNone_none, List.drop_zero, List.drop_succ_cons, List.getElem?_cons_zero, List.getElem?_cons_succ, List.length_cons, List.length_nil, List.take_succ_cons, List.take_zero, Nat.mul_one, Nat.zero_add, Nat.add_zero, Nat.one_mul, Nat.zero_mul, List.getElem?_map, List.getElem?_drop, List.getElem?_take, List.length_map, Option.map_some, List.set_cons_zero, List.set_cons_succ, and_true, true_and, List.flatMap_cons, List.flatMap_nil, Bool.not_not, aInt, hc, hE]
    refine fin_tup2 [] (c := aInts2 []) (d := aInt (chk xss)) ?_ ?_ (aInts2_pure _) (aInt_pure _) ?_
    · simp [AV.res, AV.resL, aInts2, aSl]
    · simp [AV.res, aInt]
    · rfl

theorem span_Greedy_a (xss : List (List Int)) (wk : Int) (hs : xss.length ≤ 1000000) (hs2 : ∀ l ∈ xss, l.length ≤ 1000000) : FnP Try.prog 63 [aInts2 xss, aInt wk] fun a => a = .tup [aInt (planE xss wk).length, aInt (chk xss)] := by
  refine fnP_in K_span_Greedy mixed rfl (by simp [AV.pureL, aInts2_pure, aInt_pure]) ?_
  simp only [S_span_Greedy]
  simp (maxSteps := 1000000) (implicitDefEqProofs := false) (disch := omega) only [push_cast, ↓reduceIte, Nat.reduceEqDiff, reduceCtorEq, decide_true, decide_false, Bool.not_true, Bool.not_false, Option.isNone_some, Option.isNone_none, List.drop_zero, List.drop_succ_cons, List.getElem?_cons_zero, List.getElem?_cons_succ, List.length_cons, List.length_nil, List.take_succ_cons, List.take_zero, Nat.mul_one, Nat.zero_add, Nat.add_zero, Nat.one_mul, Nat.zero_mul, List.getElem?_map, List.getElem?_drop, List.getElem?_take, List.length_map, Option.map_some, List.set_cons_zero, List.set_cons_succ, and_true, true_and, List.flatMap_cons, List.flatMap_nil, Bool.not_not]
  refine wpa_call (span_Plan_a xss wk hs hs2) ?_
  rintro a rfl
  simp (maxSteps := 1000000) (implicitDefEqProofs := false) (disch := omega) only [push_cast, ↓reduceIte, Nat.reduceEqDiff, reduceCtorEq, decide_true, decide_false, Bool.not_true, Bool.not_false, Option.isNone_some, Option.isNone_none, List.drop_zero, List.drop_succ_cons, List.getElem?_cons_zero, List.getElem?_cons_succ, List.length_cons, List.length_nil, List.take_succ_cons, List.take_zero, Nat.mul_one, Nat.zero_add, Nat.add_zero, Nat.one_mul, Nat.zero_mul, List.getElem?_map, List.getElem?_drop, List.getElem?_take, List.length_map, Option.map_some, List.set_cons_zero, List.set_cons_succ, and_true, true_and, List.flatMap_cons, List.flatMap_nil, Bool.not_not, aInts2, aSl]
  exact fin_vv rfl
end Go.Proofs.Ytilofhocodbknaa
