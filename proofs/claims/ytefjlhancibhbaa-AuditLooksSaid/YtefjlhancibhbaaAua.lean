/- Contracts on annotated values: audit.empty, looped, hands.take, hands.hold. -/
import Derived.Test.YtefjlhancibhbaaVm
import Derived.Test.YtefjlhancibhbaaCAud
namespace Go.Proofs.Ytefjlhancibhbaa
set_option linter.unusedVariables false
set_option linter.unusedSimpArgs false
open Go Go.Kx Go.Proofs

theorem mixed : Try.prog.follows .mixedOrders = true := by kernel_rfl

def noneB (s : Int) : Bool := [0, 1, 2, 7, 8, 13, 17, 20].contains s
def loopB (s : Int) : Bool := [18, 19, 21, 22, 23, 24].contains s
theorem noneB_iff (s : Int) : noneB s = true ↔ s = 0 ∨ s = 1 ∨ s = 2 ∨ s = 7 ∨ s = 8 ∨ s = 13 ∨ s = 17 ∨ s = 20 := by simp [noneB]
theorem loopB_iff (s : Int) : loopB s = true ↔ s = 18 ∨ s = 19 ∨ s = 21 ∨ s = 22 ∨ s = 23 ∨ s = 24 := by simp [loopB]
theorem loopB_eq {s : Int} (h1 : s ≤ 24) : loopB s = (decide (18 ≤ s) && !noneB s) := by
  rw [Bool.eq_iff_iff, loopB_iff, Bool.and_eq_true, Bool.not_eq_true', decide_eq_true_eq]
  constructor
  · rintro h
    refine ⟨by omega, ?_⟩
    cases hn : noneB s with
    | false => rfl
    | true => rw [noneB_iff] at hn; omega
  · rintro ⟨h, hn⟩
    have : ¬ noneB s = true := by simp [hn]
    rw [noneB_iff] at this
    omega

theorem audit_empty_a (s : Int) : FnP Try.prog 64 [aInt s] fun a => a = aBool (noneB s) := by
  refine fnP_in K_audit_empty mixed rfl (by simp [AV.pureL, aInt_pure]) ?_
  simp only [S_audit_empty, aInt]
  by_cases h : noneB s = true
  · rw [h]
    rw [noneB_iff] at h
    rcases h with rfl | rfl | rfl | rfl | rfl | rfl | rfl | rfl <;> (simp (maxSteps := 1000000) (implicitDefEqProofs := false) (disch := omega) only [push_cast, ↓reduceIte, Nat.reduceEqDiff, reduceCtorEq, decide_true, decide_false, Bool.not_true, Bool.not_false, Option.isNone_some, Option.isNone_none, List.drop_zero, List.drop_succ_cons, List.getElem?_cons_zero, List.getElem?_cons_succ, List.length_cons, List.length_nil, List.take_succ_cons, List.take_zero, Nat.mul_one, Nat.zero_add, Nat.add_zero, Nat.one_mul, Nat.zero_mul, List.getElem?_map, List.getElem?_drop, List.getElem?_take, List.length_map, Option.map_some, List.set_cons_zero, List.set_cons_succ, and_true, true_and, List.flatMap_cons, List.flatMap_nil, Bool.not_not]; exact ⟨[], rfl, rfl⟩)
  · have h' := h
    rw [noneB_iff] at h
    have : noneB s = false := by simpa using h'
    rw [this]
    have n0 : ¬ s = 0 := by omega
    have n1 : ¬ s = 1 := by omega
    have n2 : ¬ s = 2 := by omega
    have n3 : ¬ s = 7 := by omega
    have n4 : ¬ s = 8 := by omega
    have n5 : ¬ s = 13 := by omega
    have n6 : ¬ s = 17 := by omega
    have n7 : ¬ s = 20 := by omega
    simp (maxSteps := 1000000) (implicitDefEqProofs := false) (disch := omega) only [push_cast, ↓reduceIte, Nat.reduceEqDiff, reduceCtorEq, decide_true, decide_false, Bool.not_true, Bool.not_false, Option.isNone_some, Option.isNone_none, List.drop_zero, List.drop_succ_cons, List.getElem?_cons_zero, List.getElem?_cons_succ, List.length_cons, List.length_nil, List.take_succ_cons, List.take_zero, Nat.mul_one, Nat.zero_add, Nat.add_zero, Nat.one_mul, Nat.zero_mul, List.getElem?_map, List.getElem?_drop, List.getElem?_take, List.length_map, Option.map_some, List.set_cons_zero, List.set_cons_succ, and_true, true_and, List.flatMap_cons, List.flatMap_nil, Bool.not_not, n0, n1, n2, n3, n4, n5, n6, n7]
    exact ⟨[], rfl, rfl⟩
theorem audit_looped_a (s : Int) (hs : s ≤ 24) : FnP Try.prog 65 [aInt s] fun a => a = aBool (loopB s) := by
  refine fnP_in K_audit_looped mixed rfl (by simp [AV.pureL, aInt_pure]) ?_
  simp only [S_audit_looped, aInt]
  rw [loopB_eq hs]
  by_cases h : 18 ≤ s
  · simp (maxSteps := 1000000) (implicitDefEqProofs := false) (disch := omega) only [push_cast, ↓reduceIte, Nat.reduceEqDiff, reduceCtorEq, decide_true, decide_false, Bool.not_true, Bool.not_false, Option.isNone_some, Option.isNone_none, List.drop_zero, List.drop_succ_cons, List.getElem?_cons_zero, List.getElem?_cons_succ, List.length_cons, List.length_nil, List.take_succ_cons, List.take_zero, Nat.mul_one, Nat.zero_add, Nat.add_zero, Nat.one_mul, Nat.zero_mul, List.getElem?_map, List.getElem?_drop, List.getElem?_take, List.length_map, Option.map_some, List.set_cons_zero, List.set_cons_succ, and_true, true_and, List.flatMap_cons, List.flatMap_nil, Bool.not_not, h]
    refine wpa_call (audit_empty_a s) ?_
    rintro a rfl
    simp (maxSteps := 1000000) (implicitDefEqProofs := false) (disch := omega) only [push_cast, ↓reduceIte, Nat.reduceEqDiff, reduceCtorEq, decide_true, decide_false, Bool.not_true, Bool.not_false, Option.isNone_some, Option.isNone_none, List.drop_zero, List.drop_succ_cons, List.getElem?_cons_zero, List.getElem?_cons_succ, List.length_cons, List.length_nil, List.take_succ_cons, List.take_zero, Nat.mul_one, Nat.zero_add, Nat.add_zero, Nat.one_mul, Nat.zero_mul, List.getElem?_map, List.getElem?_drop, List.getElem?_take, List.length_map, Option.map_some, List.set_cons_zero, List.set_cons_succ, and_true, true_and, List.flatMap_cons, List.flatMap_nil, Bool.not_not, aBool]
    exact ⟨[], rfl, by simp [h, aBool]⟩
  · simp (maxSteps := 1000000) (implicitDefEqProofs := false) (disch := omega) only [push_cast, ↓reduceIte, Nat.reduceEqDiff, reduceCtorEq, decide_true, decide_false, Bool.not_true, Bool.not_false, Option.isNone_some, Option.isNone_none, List.drop_zero, List.drop_succ_cons, List.getElem?_cons_zero, List.getElem?_cons_succ, List.length_cons, List.length_nil, List.take_succ_cons, List.take_zero, Nat.mul_one, Nat.zero_add, Nat.add_zero, Nat.one_mul, Nat.zero_mul, List.getElem?_map, List.getElem?_drop, List.getElem?_take, List.length_map, Option.map_some, List.set_cons_zero, List.set_cons_succ, and_true, true_and, List.flatMap_cons, List.flatMap_nil, Bool.not_not, h]
    exact ⟨[], rfl, by simp [h, aBool]⟩

/-- Which of n frames were seen. -/
def seenL (n : Nat) (seen : List Int) : List Bool := (List.range n).map fun i : Nat => seen.contains ((i : Int) + 1)
theorem seenL_len (n : Nat) (seen : List Int) : (seenL n seen).length = n := by simp [seenL]
theorem seenL_get {n : Nat} {seen : List Int} {i : Nat} (h : i < n) : (seenL n seen)[i]? = some (seen.contains ((i : Int) + 1)) := by simp [seenL, h]
theorem seenL_set {n : Nat} {seen : List Int} {i : Nat} : (seenL n seen).set i true = seenL n (seen ++ [(i : Int) + 1]) := by
  apply List.ext_getElem?
  intro j
  rw [List.getElem?_set]
  by_cases hj : j < n
  · rw [seenL_get hj, seenL_get hj, seenL_len]
    by_cases e : i = j
    · subst e
      rw [if_pos rfl, if_pos hj]
      simp
    · rw [if_neg e]
      congr 1
      rw [Bool.eq_iff_iff]
      simp only [List.contains_iff_mem, List.mem_append, List.mem_singleton]
      exact ⟨.inl, fun h => h.elim id fun h => by omega⟩
  · have h1 : (seenL n seen)[j]? = none := List.getElem?_eq_none (by rw [seenL_len]; omega)
    have h2 : (seenL n (seen ++ [(i : Int) + 1]))[j]? = none := List.getElem?_eq_none (by rw [seenL_len]; omega)
    rw [h1, h2, seenL_len]
    split
    · rw [if_neg (by omega)]
    · rfl
theorem seenL_nil (n : Nat) : (seenL n []).map aBool = List.replicate n (.v (.bool false)) := by
  simp only [seenL, List.map_map]
  apply List.ext_getElem?
  intro j
  by_cases h : j < n <;> simp [h, aBool]
def takeE (ks seen : List Int) (id : Int) : Int := if id < 1 ∨ (ks.length : Int) < id ∨ ks.getD (id - 1).toNat 0 = 0 then 7 else if seen.contains id then 10 else 0
def hObj (ks : List Int) (j : Nat) : List AV := [aInts ks, .ms j 0 0 ks.length 1]

set_option maxHeartbeats 1000000 in
theorem hands_take_g (ks seen : List Int) (id : Int) (σ : St) (i j : Nat) (hn : ks.length ≤ 1000000) (hi : σ[i]? = some (.obj 0 (hObj ks j))) (hj : σ[j]? = some (.obj 0 ((seenL ks.length seen).map aBool))) (hij : j ≠ i) :
    FnG Try.prog 37 [.ref i 0 0, aInt id] σ fun a σ' => a = .tup [aInt (if takeE ks seen id = 0 then ks.getD (id - 1).toNat 0 else 0), aInt (takeE ks seen id)] ∧
      (∀ (k : Nat) (r : Res), k ≠ j → σ[k]? = some r → σ'[k]? = some r) ∧ σ'[j]? = some (.obj 0 ((seenL ks.length (if takeE ks seen id = 0 then seen ++ [id] else seen)).map aBool)) := by
  refine fnG_in K_audit_hands_take mixed rfl ?_
  simp only [S_audit_hands_take, aInt]
  by_cases h1 : id < 1
  · have e : takeE ks seen id = 7 := by simp [takeE, h1]
    simp (maxSteps := 1000000) (implicitDefEqProofs := false) (disch := omega) only [push_cast, ↓reduceIte, Nat.reduceEqDiff, reduceCtorEq, decide_true, decide_false, Bool.not_true, Bool.not_false, Option.isNone_some, Option.isNone_none, List.drop_zero, List.drop_succ_cons, List.getElem?_cons_zero, List.getElem?_cons_succ, List.length_cons, List.length_nil, List.take_succ_cons, List.take_zero, Nat.mul_one, Nat.zero_add, Nat.add_zero, Nat.one_mul, Nat.zero_mul, List.getElem?_map, List.getElem?_drop, List.getElem?_take, List.length_map, Option.map_some, List.set_cons_zero, List.set_cons_succ, and_true, true_and, List.flatMap_cons, List.flatMap_nil, Bool.not_not, h1]
    rw [e]
    first | exact ⟨rfl, fun _ _ _ h => h, hj⟩ | exact ⟨rfl, fun _ _ _ h => h, rfl⟩
  by_cases h2 : (ks.length : Int) < id
  · have e : takeE ks seen id = 7 := by simp [takeE, h2]
    simp (maxSteps := 1000000) (implicitDefEqProofs := false) (disch := omega) only [push_cast, ↓reduceIte, Nat.reduceEqDiff, reduceCtorEq, decide_true, decide_false, Bool.not_true, Bool.not_false, Option.isNone_some, Option.isNone_none, List.drop_zero, List.drop_succ_cons, List.getElem?_cons_zero, List.getElem?_cons_succ, List.length_cons, List.length_nil, List.take_succ_cons, List.take_zero, Nat.mul_one, Nat.zero_add, Nat.add_zero, Nat.one_mul, Nat.zero_mul, List.getElem?_map, List.getElem?_drop, List.getElem?_take, List.length_map, Option.map_some, List.set_cons_zero, List.set_cons_succ, and_true, true_and, List.flatMap_cons, List.flatMap_nil, Bool.not_not, h1, h2, hi, hObj, aInts, aSl]
    rw [e]
    first | exact ⟨rfl, fun _ _ _ h => h, hj⟩ | exact ⟨rfl, fun _ _ _ h => h, rfl⟩
  obtain ⟨m, rfl⟩ : ∃ m : Nat, id = (m : Int) + 1 := ⟨(id - 1).toNat, by omega⟩
  obtain ⟨x, hx⟩ := at_lt (l := ks) (k := m) (by omega)
  have e1 : ((m : Int) + 1 - 1) = m := by omega
  have hgd : ks.getD m 0 = x := by rw [List.getD_eq_getElem?_getD, hx]; rfl
  have hsg := seenL_get (n := ks.length) (seen := seen) (i := m) (by omega)
  by_cases h3 : x = 0
  · have e : takeE ks seen (m + 1) = 7 := by unfold takeE; rw [if_pos (by rw [e1, Int.toNat_natCast, hgd]; omega)]
    simp (maxSteps := 1000000) (implicitDefEqProofs := false) (disch := omega) only [push_cast, ↓reduceIte, Nat.reduceEqDiff, reduceCtorEq, decide_true, decide_false, Bool.not_true, Bool.not_false, Option.isNone_some, Option.isNone_none, List.drop_zero, List.drop_succ_cons, List.getElem?_cons_zero, List.getElem?_cons_succ, List.length_cons, List.length_nil, List.take_succ_cons, List.take_zero, Nat.mul_one, Nat.zero_add, Nat.add_zero, Nat.one_mul, Nat.zero_mul, List.getElem?_map, List.getElem?_drop, List.getElem?_take, List.length_map, Option.map_some, List.set_cons_zero, List.set_cons_succ, and_true, true_and, List.flatMap_cons, List.flatMap_nil, Bool.not_not, h1, h2, hi, hObj, aInts, aSl, e1, hx, aInt, h3]
    rw [e]
    first | exact ⟨rfl, fun _ _ _ h => h, hj⟩ | exact ⟨rfl, fun _ _ _ h => h, rfl⟩
  cases h4 : seen.contains ((m : Int) + 1) with
  | true =>
    have e : takeE ks seen (m + 1) = 10 := by unfold takeE; rw [if_neg (by rw [e1, Int.toNat_natCast, hgd]; omega), if_pos h4]
    simp (maxSteps := 1000000) (implicitDefEqProofs := false) (disch := omega) only [push_cast, ↓reduceIte, Nat.reduceEqDiff, reduceCtorEq, decide_true, decide_false, Bool.not_true, Bool.not_false, Option.isNone_some, Option.isNone_none, List.drop_zero, List.drop_succ_cons, List.getElem?_cons_zero, List.getElem?_cons_succ, List.length_cons, List.length_nil, List.take_succ_cons, List.take_zero, Nat.mul_one, Nat.zero_add, Nat.add_zero, Nat.one_mul, Nat.zero_mul, List.getElem?_map, List.getElem?_drop, List.getElem?_take, List.length_map, Option.map_some, List.set_cons_zero, List.set_cons_succ, and_true, true_and, List.flatMap_cons, List.flatMap_nil, Bool.not_not, h1, h2, hi, hj, hObj, aInts, aSl, e1, hx, aInt, h3, hsg, h4, aBool]
    rw [e]
    first | exact ⟨rfl, fun _ _ _ h => h, hj⟩ | exact ⟨rfl, fun _ _ _ h => h, rfl⟩
  | false =>
    have e : takeE ks seen (m + 1) = 0 := by unfold takeE; rw [if_neg (by rw [e1, Int.toNat_natCast, hgd]; omega), if_neg (by rw [h4]; simp)]
    simp (maxSteps := 1000000) (implicitDefEqProofs := false) (disch := omega) only [push_cast, ↓reduceIte, Nat.reduceEqDiff, reduceCtorEq, decide_true, decide_false, Bool.not_true, Bool.not_false, Option.isNone_some, Option.isNone_none, List.drop_zero, List.drop_succ_cons, List.getElem?_cons_zero, List.getElem?_cons_succ, List.length_cons, List.length_nil, List.take_succ_cons, List.take_zero, Nat.mul_one, Nat.zero_add, Nat.add_zero, Nat.one_mul, Nat.zero_mul, List.getElem?_map, List.getElem?_drop, List.getElem?_take, List.length_map, Option.map_some, List.set_cons_zero, List.set_cons_succ, and_true, true_and, List.flatMap_cons, List.flatMap_nil, Bool.not_not, h1, h2, hi, hj, hObj, aInts, aSl, e1, hx, aInt, h3, hsg, h4, aBool]
    refine wpa_st1 (cs := (seenL ks.length seen).map aBool) rfl rfl hj (by rw [List.length_map, seenL_len]; omega) ?_
    rw [setBm, seenL_set]
    have hi2 : (σ.set j (.obj 0 ((seenL ks.length (seen ++ [(m : Int) + 1])).map aBool)))[i]? = some (.obj 0 [.sl ks.length (ks.map aInt) .none, .ms j 0 0 ks.length 1]) := get_set_ne hij hi
    have hj2 : (σ.set j (.obj 0 ((seenL ks.length (seen ++ [(m : Int) + 1])).map aBool)))[j]? = some (.obj 0 ((seenL ks.length (seen ++ [(m : Int) + 1])).map aBool)) := get_set_eq hj
    have hfr : ∀ (k : Nat) (r : Res), k ≠ j → σ[k]? = some r → (σ.set j (.obj 0 ((seenL ks.length (seen ++ [(m : Int) + 1])).map aBool)))[k]? = some r := fun k r hk h => get_set_ne (by omega) h
    generalize σ.set j (.obj 0 ((seenL ks.length (seen ++ [(m : Int) + 1])).map aBool)) = S at hi2 hj2 hfr ⊢
    simp (maxSteps := 1000000) (implicitDefEqProofs := false) (disch := omega) only [push_cast, ↓reduceIte, Nat.reduceEqDiff, reduceCtorEq, decide_true, decide_false, Bool.not_true, Bool.not_false, Option.isNone_some, Option.isNone_none, List.drop_zero, List.drop_succ_cons, List.getElem?_cons_zero, List.getElem?_cons_succ, List.length_cons, List.length_nil, List.take_succ_cons, List.take_zero, Nat.mul_one, Nat.zero_add, Nat.add_zero, Nat.one_mul, Nat.zero_mul, List.getElem?_map, List.getElem?_drop, List.getElem?_take, List.length_map, Option.map_some, List.set_cons_zero, List.set_cons_succ, and_true, true_and, List.flatMap_cons, List.flatMap_nil, Bool.not_not, hi2, e1, hx, aInt]
    have hgd2 : ks.getD ((m : Int) + 1 - 1).toNat 0 = x := by rw [e1, Int.toNat_natCast, hgd]
    rw [e, hgd]
    exact ⟨rfl, hfr, hj2⟩

/-- A worker's view. -/
def aVw (v : Int × Int) : List AV := [.v (.int .i64 v.1), .v (.int .i64 v.2), .v (.int .i64 0), .v (.int .i64 0)]
theorem aVw_len (v : Int × Int) : (aVw v).length = 4 := rfl
def holdE (ks seen : List Int) (v : Int × Int) : Int :=
  if v.1 < 0 ∨ 24 < v.1 then 3
  else if (v.2 ≠ 0 ∧ noneB v.1 = true) ∨ (v.2 = 0 ∧ noneB v.1 = false ∧ v.1 ≠ 3) then 8
  else if v.2 = 0 then 0
  else if takeE ks seen v.2 ≠ 0 then takeE ks seen v.2
  else if v.1 ≠ 3 ∧ loopB v.1 ≠ decide (ks.getD (v.2 - 1).toNat 0 = 3) then 5 else 0
def seen1 (seen : List Int) (id : Int) : List Int := if id = 0 then seen else seen ++ [id]

set_option maxHeartbeats 1000000 in
theorem hands_hold_g (ks seen : List Int) (v : Int × Int) (σ : St) (i j : Nat) (hn : ks.length ≤ 1000000) (hi : σ[i]? = some (.obj 0 (hObj ks j))) (hj : σ[j]? = some (.obj 0 ((seenL ks.length seen).map aBool))) (hij : j ≠ i) :
    FnG Try.prog 36 [.ref i 0 0, .agg (aVw v)] σ fun a σ' => a = aInt (holdE ks seen v) ∧ (∀ (k : Nat) (r : Res), k ≠ j → σ[k]? = some r → σ'[k]? = some r) ∧
      (holdE ks seen v = 0 → σ'[j]? = some (.obj 0 ((seenL ks.length (seen1 seen v.2)).map aBool))) := by
  refine fnG_in K_audit_hands_hold mixed rfl ?_
  simp only [S_audit_hands_hold]
  obtain ⟨s, id⟩ := v
  simp only
  simp (maxSteps := 1000000) (implicitDefEqProofs := false) (disch := omega) only [push_cast, ↓reduceIte, Nat.reduceEqDiff, reduceCtorEq, decide_true, decide_false, Bool.not_true, Bool.not_false, Option.isNone_some, Option.isNone_none, List.drop_zero, List.drop_succ_cons, List.getElem?_cons_zero, List.getElem?_cons_succ, List.length_cons, List.length_nil, List.take_succ_cons, List.take_zero, Nat.mul_one, Nat.zero_add, Nat.add_zero, Nat.one_mul, Nat.zero_mul, List.getElem?_map, List.getElem?_drop, List.getElem?_take, List.length_map, Option.map_some, List.set_cons_zero, List.set_cons_succ, and_true, true_and, List.flatMap_cons, List.flatMap_nil, Bool.not_not]
  refine wpa_box ?_
  have hi1 : (σ ++ [Res.obj 0 (AV.agg (aVw (s, id))).cells])[i]? = some (.obj 0 (hObj ks j)) := get_app hi
  have hj1 : (σ ++ [Res.obj 0 (AV.agg (aVw (s, id))).cells])[j]? = some (.obj 0 ((seenL ks.length seen).map aBool)) := get_app hj
  have hb1 : (σ ++ [Res.obj 0 (AV.agg (aVw (s, id))).cells])[σ.length]? = some (.obj 0 (aVw (s, id))) := at_snoc _ _
  have hli := lt_at hi
  have hlj := lt_at hj
  have hfr : ∀ (k : Nat) (r : Res), k ≠ j → σ[k]? = some r → (σ ++ [Res.obj 0 (AV.agg (aVw (s, id))).cells])[k]? = some r := fun k r _ h => get_app h
  generalize hS : (σ ++ [Res.obj 0 (AV.agg (aVw (s, id))).cells]) = S at hi1 hj1 hb1 hfr ⊢
  have hSl : S.length = σ.length + 1 := by rw [← hS]; simp
  generalize σ.length = b at *
  clear hS
  by_cases h1 : s < 0
  · have e : holdE ks seen (s, id) = 3 := by simp [holdE, h1]
    simp (maxSteps := 1000000) (implicitDefEqProofs := false) (disch := omega) only [push_cast, ↓reduceIte, Nat.reduceEqDiff, reduceCtorEq, decide_true, decide_false, Bool.not_true, Bool.not_false, Option.isNone_some, Option.isNone_none, List.drop_zero, List.drop_succ_cons, List.getElem?_cons_zero, List.getElem?_cons_succ, List.length_cons, List.length_nil, List.take_succ_cons, List.take_zero, Nat.mul_one, Nat.zero_add, Nat.add_zero, Nat.one_mul, Nat.zero_mul, List.getElem?_map, List.getElem?_drop, List.getElem?_take, List.length_map, Option.map_some, List.set_cons_zero, List.set_cons_succ, and_true, true_and, List.flatMap_cons, List.flatMap_nil, Bool.not_not, hb1, aVw, h1]
    rw [e]
    exact ⟨rfl, hfr, fun h => by omega⟩
  by_cases h2 : 24 < s
  · have e : holdE ks seen (s, id) = 3 := by simp [holdE, h2]
    simp (maxSteps := 1000000) (implicitDefEqProofs := false) (disch := omega) only [push_cast, ↓reduceIte, Nat.reduceEqDiff, reduceCtorEq, decide_true, decide_false, Bool.not_true, Bool.not_false, Option.isNone_some, Option.isNone_none, List.drop_zero, List.drop_succ_cons, List.getElem?_cons_zero, List.getElem?_cons_succ, List.length_cons, List.length_nil, List.take_succ_cons, List.take_zero, Nat.mul_one, Nat.zero_add, Nat.add_zero, Nat.one_mul, Nat.zero_mul, List.getElem?_map, List.getElem?_drop, List.getElem?_take, List.length_map, Option.map_some, List.set_cons_zero, List.set_cons_succ, and_true, true_and, List.flatMap_cons, List.flatMap_nil, Bool.not_not, hb1, aVw, h1, h2]
    rw [e]
    exact ⟨rfl, hfr, fun h => by omega⟩
  by_cases h3 : id = 0
  · subst h3
    simp (maxSteps := 1000000) (implicitDefEqProofs := false) (disch := omega) only [push_cast, ↓reduceIte, Nat.reduceEqDiff, reduceCtorEq, decide_true, decide_false, Bool.not_true, Bool.not_false, Option.isNone_some, Option.isNone_none, List.drop_zero, List.drop_succ_cons, List.getElem?_cons_zero, List.getElem?_cons_succ, List.length_cons, List.length_nil, List.take_succ_cons, List.take_zero, Nat.mul_one, Nat.zero_add, Nat.add_zero, Nat.one_mul, Nat.zero_mul, List.getElem?_map, List.getElem?_drop, List.getElem?_take, List.length_map, Option.map_some, List.set_cons_zero, List.set_cons_succ, and_true, true_and, List.flatMap_cons, List.flatMap_nil, Bool.not_not, hb1, aVw, h1, h2]
    refine wpa_call (audit_empty_a s) ?_
    rintro a rfl
    cases h4 : noneB s with
    | true =>
      have e : holdE ks seen (s, 0) = 0 := by simp [holdE, h1, h2, h4]
      simp (maxSteps := 1000000) (implicitDefEqProofs := false) (disch := omega) only [push_cast, ↓reduceIte, Nat.reduceEqDiff, reduceCtorEq, decide_true, decide_false, Bool.not_true, Bool.not_false, Option.isNone_some, Option.isNone_none, List.drop_zero, List.drop_succ_cons, List.getElem?_cons_zero, List.getElem?_cons_succ, List.length_cons, List.length_nil, List.take_succ_cons, List.take_zero, Nat.mul_one, Nat.zero_add, Nat.add_zero, Nat.one_mul, Nat.zero_mul, List.getElem?_map, List.getElem?_drop, List.getElem?_take, List.length_map, Option.map_some, List.set_cons_zero, List.set_cons_succ, and_true, true_and, List.flatMap_cons, List.flatMap_nil, Bool.not_not, hb1, aVw, h1, h2, aBool]
      rw [e]
      exact ⟨rfl, hfr, fun _ => hj1⟩
    | false =>
      by_cases h5 : s = 3
      · have e : holdE ks seen (s, 0) = 0 := by simp [holdE, h5]
        simp (maxSteps := 1000000) (implicitDefEqProofs := false) (disch := omega) only [push_cast, ↓reduceIte, Nat.reduceEqDiff, reduceCtorEq, decide_true, decide_false, Bool.not_true, Bool.not_false, Option.isNone_some, Option.isNone_none, List.drop_zero, List.drop_succ_cons, List.getElem?_cons_zero, List.getElem?_cons_succ, List.length_cons, List.length_nil, List.take_succ_cons, List.take_zero, Nat.mul_one, Nat.zero_add, Nat.add_zero, Nat.one_mul, Nat.zero_mul, List.getElem?_map, List.getElem?_drop, List.getElem?_take, List.length_map, Option.map_some, List.set_cons_zero, List.set_cons_succ, and_true, true_and, List.flatMap_cons, List.flatMap_nil, Bool.not_not, hb1, aVw, h1, h2, aBool, h5]
        rw [h5] at e
        rw [e]
        exact ⟨rfl, hfr, fun _ => hj1⟩
      · have e : holdE ks seen (s, 0) = 8 := by simp [holdE, h1, h2, h4, h5]
        simp (maxSteps := 1000000) (implicitDefEqProofs := false) (disch := omega) only [push_cast, ↓reduceIte, Nat.reduceEqDiff, reduceCtorEq, decide_true, decide_false, Bool.not_true, Bool.not_false, Option.isNone_some, Option.isNone_none, List.drop_zero, List.drop_succ_cons, List.getElem?_cons_zero, List.getElem?_cons_succ, List.length_cons, List.length_nil, List.take_succ_cons, List.take_zero, Nat.mul_one, Nat.zero_add, Nat.add_zero, Nat.one_mul, Nat.zero_mul, List.getElem?_map, List.getElem?_drop, List.getElem?_take, List.length_map, Option.map_some, List.set_cons_zero, List.set_cons_succ, and_true, true_and, List.flatMap_cons, List.flatMap_nil, Bool.not_not, hb1, aVw, h1, h2, aBool, h5]
        rw [e]
        exact ⟨rfl, hfr, fun h => by omega⟩
  simp (maxSteps := 1000000) (implicitDefEqProofs := false) (disch := omega) only [push_cast, ↓reduceIte, Nat.reduceEqDiff, reduceCtorEq, decide_true, decide_false, Bool.not_true, Bool.not_false, Option.isNone_some, Option.isNone_none, List.drop_zero, List.drop_succ_cons, List.getElem?_cons_zero, List.getElem?_cons_succ, List.length_cons, List.length_nil, List.take_succ_cons, List.take_zero, Nat.mul_one, Nat.zero_add, Nat.add_zero, Nat.one_mul, Nat.zero_mul, List.getElem?_map, List.getElem?_drop, List.getElem?_take, List.length_map, Option.map_some, List.set_cons_zero, List.set_cons_succ, and_true, true_and, List.flatMap_cons, List.flatMap_nil, Bool.not_not, hb1, aVw, h1, h2, h3]
  refine wpa_call (audit_empty_a s) ?_
  rintro a rfl
  cases h4 : noneB s with
  | true =>
    have e : holdE ks seen (s, id) = 8 := by simp [holdE, h1, h2, h3, h4]
    simp (maxSteps := 1000000) (implicitDefEqProofs := false) (disch := omega) only [push_cast, ↓reduceIte, Nat.reduceEqDiff, reduceCtorEq, decide_true, decide_false, Bool.not_true, Bool.not_false, Option.isNone_some, Option.isNone_none, List.drop_zero, List.drop_succ_cons, List.getElem?_cons_zero, List.getElem?_cons_succ, List.length_cons, List.length_nil, List.take_succ_cons, List.take_zero, Nat.mul_one, Nat.zero_add, Nat.add_zero, Nat.one_mul, Nat.zero_mul, List.getElem?_map, List.getElem?_drop, List.getElem?_take, List.length_map, Option.map_some, List.set_cons_zero, List.set_cons_succ, and_true, true_and, List.flatMap_cons, List.flatMap_nil, Bool.not_not, hb1, aVw, h1, h2, h3, aBool]
    rw [e]
    exact ⟨rfl, hfr, fun h => by omega⟩
  | false =>
    simp (maxSteps := 1000000) (implicitDefEqProofs := false) (disch := omega) only [push_cast, ↓reduceIte, Nat.reduceEqDiff, reduceCtorEq, decide_true, decide_false, Bool.not_true, Bool.not_false, Option.isNone_some, Option.isNone_none, List.drop_zero, List.drop_succ_cons, List.getElem?_cons_zero, List.getElem?_cons_succ, List.length_cons, List.length_nil, List.take_succ_cons, List.take_zero, Nat.mul_one, Nat.zero_add, Nat.add_zero, Nat.one_mul, Nat.zero_mul, List.getElem?_map, List.getElem?_drop, List.getElem?_take, List.length_map, Option.map_some, List.set_cons_zero, List.set_cons_succ, and_true, true_and, List.flatMap_cons, List.flatMap_nil, Bool.not_not, hb1, aVw, h1, h2, h3, aBool]
    refine wpa_callG (hands_take_g ks seen id S i j hn hi1 hj1 hij) ?_
    rintro a σ' ⟨rfl, hf2, hj2⟩
    have hb2 := hf2 b _ (by omega) hb1
    have hfr2 : ∀ (k : Nat) (r : Res), k ≠ j → σ[k]? = some r → σ'[k]? = some r := fun k r hk h => hf2 k r hk (hfr k r hk h)
    by_cases h5 : takeE ks seen id = 0
    · have es : seen1 seen id = seen ++ [id] := by unfold seen1; rw [if_neg h3]
      rw [if_pos h5] at hj2
      by_cases h6 : s = 3
      · have e : holdE ks seen (s, id) = 0 := by subst h6; simp [holdE, h3, h4, h5]
        simp (maxSteps := 1000000) (implicitDefEqProofs := false) (disch := omega) only [push_cast, ↓reduceIte, Nat.reduceEqDiff, reduceCtorEq, decide_true, decide_false, Bool.not_true, Bool.not_false, Option.isNone_some, Option.isNone_none, List.drop_zero, List.drop_succ_cons, List.getElem?_cons_zero, List.getElem?_cons_succ, List.length_cons, List.length_nil, List.take_succ_cons, List.take_zero, Nat.mul_one, Nat.zero_add, Nat.add_zero, Nat.one_mul, Nat.zero_mul, List.getElem?_map, List.getElem?_drop, List.getElem?_take, List.length_map, Option.map_some, List.set_cons_zero, List.set_cons_succ, and_true, true_and, List.flatMap_cons, List.flatMap_nil, Bool.not_not, hb2, aVw, h5, aInt, h6]
        rw [h6] at e
        rw [e, es]
        exact ⟨rfl, hfr2, fun _ => hj2⟩
      · simp (maxSteps := 1000000) (implicitDefEqProofs := false) (disch := omega) only [push_cast, ↓reduceIte, Nat.reduceEqDiff, reduceCtorEq, decide_true, decide_false, Bool.not_true, Bool.not_false, Option.isNone_some, Option.isNone_none, List.drop_zero, List.drop_succ_cons, List.getElem?_cons_zero, List.getElem?_cons_succ, List.length_cons, List.length_nil, List.take_succ_cons, List.take_zero, Nat.mul_one, Nat.zero_add, Nat.add_zero, Nat.one_mul, Nat.zero_mul, List.getElem?_map, List.getElem?_drop, List.getElem?_take, List.length_map, Option.map_some, List.set_cons_zero, List.set_cons_succ, and_true, true_and, List.flatMap_cons, List.flatMap_nil, Bool.not_not, hb2, aVw, h5, aInt, h6]
        refine wpa_call (audit_looped_a s (by omega)) ?_
        rintro a rfl
        generalize hx : ks.getD (id - 1).toNat 0 = x
        by_cases h7 : loopB s = decide (x = 3)
        · have e : holdE ks seen (s, id) = 0 := by
            unfold holdE; simp only
            rw [if_neg (by omega), if_neg (by rw [h4]; simp [h3]), if_neg h3, if_neg (by rw [h5]; simp), if_neg (by rw [hx]; simp [h7])]
          simp (maxSteps := 1000000) (implicitDefEqProofs := false) (disch := omega) only [push_cast, ↓reduceIte, Nat.reduceEqDiff, reduceCtorEq, decide_true, decide_false, Bool.not_true, Bool.not_false, Option.isNone_some, Option.isNone_none, List.drop_zero, List.drop_succ_cons, List.getElem?_cons_zero, List.getElem?_cons_succ, List.length_cons, List.length_nil, List.take_succ_cons, List.take_zero, Nat.mul_one, Nat.zero_add, Nat.add_zero, Nat.one_mul, Nat.zero_mul, List.getElem?_map, List.getElem?_drop, List.getElem?_take, List.length_map, Option.map_some, List.set_cons_zero, List.set_cons_succ, and_true, true_and, List.flatMap_cons, List.flatMap_nil, Bool.not_not, aBool, h7, beq_self_eq_true, Bool.not_true]
          rw [e, es]
          exact ⟨rfl, hfr2, fun _ => hj2⟩
        · have e : holdE ks seen (s, id) = 5 := by
            unfold holdE; simp only
            rw [if_neg (by omega), if_neg (by rw [h4]; simp [h3]), if_neg h3, if_neg (by rw [h5]; simp), if_pos (by rw [hx]; exact ⟨h6, h7⟩)]
          have hb : (loopB s == decide (x = 3)) = false := by simpa using h7
          simp (maxSteps := 1000000) (implicitDefEqProofs := false) (disch := omega) only [push_cast, ↓reduceIte, Nat.reduceEqDiff, reduceCtorEq, decide_true, decide_false, Bool.not_true, Bool.not_false, Option.isNone_some, Option.isNone_none, List.drop_zero, List.drop_succ_cons, List.getElem?_cons_zero, List.getElem?_cons_succ, List.length_cons, List.length_nil, List.take_succ_cons, List.take_zero, Nat.mul_one, Nat.zero_add, Nat.add_zero, Nat.one_mul, Nat.zero_mul, List.getElem?_map, List.getElem?_drop, List.getElem?_take, List.length_map, Option.map_some, List.set_cons_zero, List.set_cons_succ, and_true, true_and, List.flatMap_cons, List.flatMap_nil, Bool.not_not, aBool, hb, Bool.not_false]
          rw [e]
          exact ⟨rfl, hfr2, fun h => by omega⟩
    · have e : holdE ks seen (s, id) = takeE ks seen id := by
        unfold holdE; simp only
        rw [if_neg (by omega), if_neg (by rw [h4]; simp [h3]), if_neg h3, if_pos h5]
      simp (maxSteps := 1000000) (implicitDefEqProofs := false) (disch := omega) only [push_cast, ↓reduceIte, Nat.reduceEqDiff, reduceCtorEq, decide_true, decide_false, Bool.not_true, Bool.not_false, Option.isNone_some, Option.isNone_none, List.drop_zero, List.drop_succ_cons, List.getElem?_cons_zero, List.getElem?_cons_succ, List.length_cons, List.length_nil, List.take_succ_cons, List.take_zero, Nat.mul_one, Nat.zero_add, Nat.add_zero, Nat.one_mul, Nat.zero_mul, List.getElem?_map, List.getElem?_drop, List.getElem?_take, List.length_map, Option.map_some, List.set_cons_zero, List.set_cons_succ, and_true, true_and, List.flatMap_cons, List.flatMap_nil, Bool.not_not, hb2, aVw, h5, aInt]
      rw [e]
      exact ⟨rfl, hfr2, fun h => absurd h h5⟩
end Go.Proofs.Ytefjlhancibhbaa
