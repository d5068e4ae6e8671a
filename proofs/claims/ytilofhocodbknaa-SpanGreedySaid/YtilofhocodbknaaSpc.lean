/- Contracts on annotated values: span.Levels, Widest. -/
import Derived.Test.YtilofhocodbknaaSpb
import Derived.Test.YtilofhocodbknaaRxs
namespace Go.Proofs.Ytilofhocodbknaa
set_option linter.unusedVariables false
set_option linter.unusedSimpArgs false
open Go Go.Kx Go.Proofs

def lvls (xss : List (List Int)) : List Int := (ranks xss).map (· - 1)
def lvlE (xss : List (List Int)) : List Int := if chk xss = 0 then lvls xss else []
theorem lvls_len (xss : List (List Int)) : (lvls xss).length = xss.length := by rw [lvls, List.length_map, ranks, rkF_len]
theorem lvls_snoc (xss : List (List Int)) (l : List Int) : lvls (xss ++ [l]) = lvls xss ++ [rankP (ranks xss) l] := by
  unfold lvls
  rw [ranks, rkF_snoc, List.map_append]
  simp only [List.map_cons, List.map_nil]
  rw [Int.add_sub_cancel]; rfl
theorem lvls_get {xss : List (List Int)} {q : Nat} {r : Int} (h : (ranks xss)[q]? = some r) : (lvls xss)[q]? = some (r - 1) := by simp [lvls, h]
theorem lvlE_len (xss : List (List Int)) : (lvlE xss).length ≤ 1000 := by
  unfold lvlE
  split
  · rename_i h; rw [lvls_len]; exact (chk_zero h).1
  · simp
theorem lvlE_bd {xss : List (List Int)} : ∀ x ∈ lvlE xss, 0 ≤ x ∧ x < ((lvlE xss).length : Int) := by
  intro x hx
  unfold lvlE at hx ⊢
  split at hx
  · rename_i h
    rw [if_pos h, lvls_len]
    simp only [lvls, List.mem_map] at hx
    obtain ⟨r, hr, rfl⟩ := hx
    have := ranks_bd xss r hr
    omega
  · cases hx

set_option maxHeartbeats 2000000 in
theorem span_Levels_a (xss : List (List Int)) (hs : xss.length ≤ 1000000) (hs2 : ∀ l ∈ xss, l.length ≤ 1000000) : FnP Try.prog 59 [aInts2 xss] fun a => a = .tup [aInts (lvlE xss), aInt (chk xss)] := by
  refine fnP_in K_span_Levels mixed rfl (by simp [AV.pureL, aInts2_pure]) ?_
  simp only [S_span_Levels]
  simp (maxSteps := 1000000) (implicitDefEqProofs := false) (disch := omega) only [push_cast, ↓reduceIte, Nat.reduceEqDiff, reduceCtorEq, decide_true, decide_false, Bool.not_true, Bool.not_false, Option.isNone_some, Option.isNone_none, List.drop_zero, List.drop_succ_cons, List.getElem?_cons_zero, List.getElem?_cons_succ, List.length_cons, List.length_nil, List.take_succ_cons, List.take_zero, Nat.mul_one, Nat.zero_add, Nat.add_zero, Nat.one_mul, Nat.zero_mul, List.getElem?_map, List.getElem?_drop, List.getElem?_take, List.length_map, Option.map_some, List.set_cons_zero, List.set_cons_succ, and_true, true_and, List.flatMap_cons, List.flatMap_nil, Bool.not_not]
  refine wpa_call (span_right_a xss hs hs2) ?_
  rintro a rfl
  by_cases hc : chk xss = 0
  · obtain ⟨hn, hok⟩ := chk_zero hc
    have hE : lvlE xss = lvls xss := by unfold lvlE; rw [if_pos hc]
    simp (maxSteps := 1000000) (implicitDefEqProofs := false) (disch := omega) only [push_cast, ↓reduceIte, Nat.reduceEqDiff, reduceCtorEq, decide_true, decide_false, Bool.not_true, Bool.not_false, Option.isNone_some, Option.isNone_none, List.drop_zero, List.drop_succ_cons, List.getElem?_cons_zero, List.getElem?_cons_succ, List.length_cons, List.length_nil, List.take_succ_cons, List.take_zero, Nat.mul_one, Nat.zero_add, Nat.add_zero, Nat.one_mul, Nat.zero_mul, List.getElem?_map, List.getElem?_drop, List.getElem?_take, List.length_map, Option.map_some, List.set_cons_zero, List.set_cons_succ, and_true, true_and, List.flatMap_cons, List.flatMap_nil, Bool.not_not, aInt, aInts2, aSl, hc, hE]
    refine wpa_mks rfl (by omega) (by omega) ?_
    simp (maxSteps := 1000000) (implicitDefEqProofs := false) (disch := omega) only [push_cast, ↓reduceIte, Nat.reduceEqDiff, reduceCtorEq, decide_true, decide_false, Bool.not_true, Bool.not_false, Option.isNone_some, Option.isNone_none, List.drop_zero, List.drop_succ_cons, List.getElem?_cons_zero, List.getElem?_cons_succ, List.length_cons, List.length_nil, List.take_succ_cons, List.take_zero, Nat.mul_one, Nat.zero_add, Nat.add_zero, Nat.one_mul, Nat.zero_mul, List.getElem?_map, List.getElem?_drop, List.getElem?_take, List.length_map, Option.map_some, List.set_cons_zero, List.set_cons_succ, and_true, true_and, List.flatMap_cons, List.flatMap_nil, Bool.not_not, repA_one]
    refine wpa_bl (α := Nat) (I := fun k ε σ => (ε 5 = .ms 0 0 0 xss.length 1 ∧ ε 18 = .sl xss.length (xss.map aInts) .none ∧ ε 19 = .v (.int .i64 xss.length) ∧ ε 20 = .v (.int .i64 k)) ∧ k ≤ xss.length ∧
        σ = [.obj 0 ((lvls (xss.take k) ++ List.replicate (xss.length - k) 0).map aInt)])
      (μ := fun k => xss.length - k) (Q := fun ε σ => ε 5 = .ms 0 0 0 xss.length 1 ∧ σ = [.obj 0 ((lvls xss).map aInt)]) (x := 0) ?_ ?_ ?_
    · simp (maxSteps := 1000000) (implicitDefEqProofs := false) (disch := omega) only [push_cast, ↓reduceIte, Nat.reduceEqDiff, reduceCtorEq, decide_true, decide_false, Bool.not_true, Bool.not_false, Option.isNone_some, Option.isNone_none, List.drop_zero, List.drop_succ_cons, List.getElem?_cons_zero, List.getElem?_cons_succ, List.length_cons, List.length_nil, List.take_succ_cons, List.take_zero, Nat.mul_one, Nat.zero_add, Nat.add_zero, Nat.one_mul, Nat.zero_mul, List.getElem?_map, List.getElem?_drop, List.getElem?_take, List.length_map, Option.map_some, List.set_cons_zero, List.set_cons_succ, and_true, true_and, List.flatMap_cons, List.flatMap_nil, Bool.not_not]
      exact ⟨by omega, by simp [lvls, ranks, rkF, aInt]⟩
    · rintro k ε σ N E ⟨hρ, hk, rfl⟩ hN hE
      simp only [S_span_Levels_L1]
      by_cases hlt : k < xss.length
      · obtain ⟨l, hl⟩ := at_lt hlt
        have hll := hs2 l (List.mem_of_getElem? hl)
        have hrl : (ranks (xss.take k)).length = k := by rw [ranks, rkF_len]; simp; omega
        have hvl : (lvls (xss.take k)).length = k := by rw [lvls_len]; simp; omega
        have hrb := ranks_bd (xss.take k)
        simp only [List.length_take, Nat.min_eq_left hk] at hrb
        have hpb := fun l' => rankP_bd (ranks (xss.take k)) k (by omega) (fun r hr => (hrb r hr).2) l'
        simp (maxSteps := 1000000) (implicitDefEqProofs := false) (disch := omega) only [push_cast, ↓reduceIte, Nat.reduceEqDiff, reduceCtorEq, decide_true, decide_false, Bool.not_true, Bool.not_false, Option.isNone_some, Option.isNone_none, List.drop_zero, List.drop_succ_cons, List.getElem?_cons_zero, List.getElem?_cons_succ, List.length_cons, List.length_nil, List.take_succ_cons, List.take_zero, Nat.mul_one, Nat.zero_add, Nat.add_zero, Nat.one_mul, Nat.zero_mul, List.getElem?_map, List.getElem?_drop, List.getElem?_take, List.length_map, Option.map_some, List.set_cons_zero, List.set_cons_succ, and_true, true_and, List.flatMap_cons, List.flatMap_nil, Bool.not_not, hρ, hl, aInts, aSl]
        rw [rep_split _ _ _ hlt]
        refine wpa_bl (α := Nat) (I := fun j ε σ => (ε 5 = .ms 0 0 0 xss.length 1 ∧ ε 18 = .sl xss.length (xss.map aInts) .none ∧ ε 19 = .v (.int .i64 xss.length) ∧ ε 20 = .v (.int .i64 k) ∧
            ε 6 = .v (.int .i64 k) ∧ ε 25 = .sl l.length (l.map aInt) .none ∧ ε 26 = .v (.int .i64 l.length) ∧ ε 27 = .v (.int .i64 j)) ∧ j ≤ l.length ∧
            σ = [.obj 0 ((lvls (xss.take k) ++ rankP (ranks (xss.take k)) (l.take j) :: List.replicate (xss.length - (k + 1)) 0).map aInt)])
          (μ := fun j => l.length - j) (Q := fun ε σ => (ε 5 = .ms 0 0 0 xss.length 1 ∧ ε 18 = .sl xss.length (xss.map aInts) .none ∧ ε 19 = .v (.int .i64 xss.length) ∧ ε 20 = .v (.int .i64 k)) ∧
            σ = [.obj 0 ((lvls (xss.take k) ++ rankP (ranks (xss.take k)) l :: List.replicate (xss.length - (k + 1)) 0).map aInt)]) (x := 0) ?_ ?_ ?_
        · simp (maxSteps := 1000000) (implicitDefEqProofs := false) (disch := omega) only [push_cast, ↓reduceIte, Nat.reduceEqDiff, reduceCtorEq, decide_true, decide_false, Bool.not_true, Bool.not_false, Option.isNone_some, Option.isNone_none, List.drop_zero, List.drop_succ_cons, List.getElem?_cons_zero, List.getElem?_cons_succ, List.length_cons, List.length_nil, List.take_succ_cons, List.take_zero, Nat.mul_one, Nat.zero_add, Nat.add_zero, Nat.one_mul, Nat.zero_mul, List.getElem?_map, List.getElem?_drop, List.getElem?_take, List.length_map, Option.map_some, List.set_cons_zero, List.set_cons_succ, and_true, true_and, List.flatMap_cons, List.flatMap_nil, Bool.not_not, hρ]
          exact ⟨by omega, by simp [rankP]⟩
        · rintro j ε σ N' E' ⟨hρ, hj, rfl⟩ hN' hE'
          simp only [S_span_Levels_L2]
          by_cases hjl : j < l.length
          · obtain ⟨p, hp⟩ := at_lt hjl
            have hpk := okB_at hok hl p (List.mem_of_getElem? hp)
            obtain ⟨q, rfl⟩ : ∃ q : Nat, p = q := ⟨p.toNat, by omega⟩
            have hqk : q < k := by omega
            obtain ⟨m, hm⟩ := at_lt (l := ranks (xss.take k)) (k := q) (by omega)
            have hmb := hrb m (List.mem_of_getElem? hm)
            have e1 := get_mid (A := lvls (xss.take k)) (B := List.replicate (xss.length - (k + 1)) 0) (x := rankP (ranks (xss.take k)) (l.take j)) hvl.symm
            have e2 : (lvls (xss.take k) ++ rankP (ranks (xss.take k)) (l.take j) :: List.replicate (xss.length - (k + 1)) 0)[q]? = some (m - 1) := by rw [get_left (by omega), lvls_get hm]
            simp (maxSteps := 1000000) (implicitDefEqProofs := false) (disch := omega) only [push_cast, ↓reduceIte, Nat.reduceEqDiff, reduceCtorEq, decide_true, decide_false, Bool.not_true, Bool.not_false, Option.isNone_some, Option.isNone_none, List.drop_zero, List.drop_succ_cons, List.getElem?_cons_zero, List.getElem?_cons_succ, List.length_cons, List.length_nil, List.take_succ_cons, List.take_zero, Nat.mul_one, Nat.zero_add, Nat.add_zero, Nat.one_mul, Nat.zero_mul, List.getElem?_map, List.getElem?_drop, List.getElem?_take, List.length_map, Option.map_some, List.set_cons_zero, List.set_cons_succ, and_true, true_and, List.flatMap_cons, List.flatMap_nil, Bool.not_not, hρ, hp, aInt, e1, e2]
            refine wpa_st1 rfl rfl rfl (by simp; omega) ?_
            simp (maxSteps := 1000000) (implicitDefEqProofs := false) (disch := omega) only [push_cast, ↓reduceIte, Nat.reduceEqDiff, reduceCtorEq, decide_true, decide_false, Bool.not_true, Bool.not_false, Option.isNone_some, Option.isNone_none, List.drop_zero, List.drop_succ_cons, List.getElem?_cons_zero, List.getElem?_cons_succ, List.length_cons, List.length_nil, List.take_succ_cons, List.take_zero, Nat.mul_one, Nat.zero_add, Nat.add_zero, Nat.one_mul, Nat.zero_mul, List.getElem?_map, List.getElem?_drop, List.getElem?_take, List.length_map, Option.map_some, List.set_cons_zero, List.set_cons_succ, and_true, true_and, List.flatMap_cons, List.flatMap_nil, Bool.not_not, hρ]
            refine hN' (j + 1) _ _ ?_ (by omega)
            simp (maxSteps := 1000000) (implicitDefEqProofs := false) (disch := omega) only [push_cast, ↓reduceIte, Nat.reduceEqDiff, reduceCtorEq, decide_true, decide_false, Bool.not_true, Bool.not_false, Option.isNone_some, Option.isNone_none, List.drop_zero, List.drop_succ_cons, List.getElem?_cons_zero, List.getElem?_cons_succ, List.length_cons, List.length_nil, List.take_succ_cons, List.take_zero, Nat.mul_one, Nat.zero_add, Nat.add_zero, Nat.one_mul, Nat.zero_mul, List.getElem?_map, List.getElem?_drop, List.getElem?_take, List.length_map, Option.map_some, List.set_cons_zero, List.set_cons_succ, and_true, true_and, List.flatMap_cons, List.flatMap_nil, Bool.not_not, hρ]
            refine ⟨by omega, ?_⟩
            have e3 : (ranks (xss.take k)).getD ((q : Int).toNat) 0 = m := by simp [List.getD_eq_getElem?_getD, hm]
            rw [take_succ_at hp, rankP_snoc, e3, set_midI hvl.symm, Int.sub_add_cancel]
          · simp (maxSteps := 1000000) (implicitDefEqProofs := false) (disch := omega) only [push_cast, ↓reduceIte, Nat.reduceEqDiff, reduceCtorEq, decide_true, decide_false, Bool.not_true, Bool.not_false, Option.isNone_some, Option.isNone_none, List.drop_zero, List.drop_succ_cons, List.getElem?_cons_zero, List.getElem?_cons_succ, List.length_cons, List.length_nil, List.take_succ_cons, List.take_zero, Nat.mul_one, Nat.zero_add, Nat.add_zero, Nat.one_mul, Nat.zero_mul, List.getElem?_map, List.getElem?_drop, List.getElem?_take, List.length_map, Option.map_some, List.set_cons_zero, List.set_cons_succ, and_true, true_and, List.flatMap_cons, List.flatMap_nil, Bool.not_not, hρ]
            refine hE' _ _ ?_
            simp (maxSteps := 1000000) (implicitDefEqProofs := false) (disch := omega) only [push_cast, ↓reduceIte, Nat.reduceEqDiff, reduceCtorEq, decide_true, decide_false, Bool.not_true, Bool.not_false, Option.isNone_some, Option.isNone_none, List.drop_zero, List.drop_succ_cons, List.getElem?_cons_zero, List.getElem?_cons_succ, List.length_cons, List.length_nil, List.take_succ_cons, List.take_zero, Nat.mul_one, Nat.zero_add, Nat.add_zero, Nat.one_mul, Nat.zero_mul, List.getElem?_map, List.getElem?_drop, List.getElem?_take, List.length_map, Option.map_some, List.set_cons_zero, List.set_cons_succ, and_true, true_and, List.flatMap_cons, List.flatMap_nil, Bool.not_not, hρ]
            rw [List.take_of_length_le (l := l) (by omega)]
        · rintro ε σ ⟨hρ, rfl⟩
          simp (maxSteps := 1000000) (implicitDefEqProofs := false) (disch := omega) only [push_cast, ↓reduceIte, Nat.reduceEqDiff, reduceCtorEq, decide_true, decide_false, Bool.not_true, Bool.not_false, Option.isNone_some, Option.isNone_none, List.drop_zero, List.drop_succ_cons, List.getElem?_cons_zero, List.getElem?_cons_succ, List.length_cons, List.length_nil, List.take_succ_cons, List.take_zero, Nat.mul_one, Nat.zero_add, Nat.add_zero, Nat.one_mul, Nat.zero_mul, List.getElem?_map, List.getElem?_drop, List.getElem?_take, List.length_map, Option.map_some, List.set_cons_zero, List.set_cons_succ, and_true, true_and, List.flatMap_cons, List.flatMap_nil, Bool.not_not, hρ]
          refine hN (k + 1) _ _ ?_ (by omega)
          simp (maxSteps := 1000000) (implicitDefEqProofs := false) (disch := omega) only [push_cast, ↓reduceIte, Nat.reduceEqDiff, reduceCtorEq, decide_true, decide_false, Bool.not_true, Bool.not_false, Option.isNone_some, Option.isNone_none, List.drop_zero, List.drop_succ_cons, List.getElem?_cons_zero, List.getElem?_cons_succ, List.length_cons, List.length_nil, List.take_succ_cons, List.take_zero, Nat.mul_one, Nat.zero_add, Nat.add_zero, Nat.one_mul, Nat.zero_mul, List.getElem?_map, List.getElem?_drop, List.getElem?_take, List.length_map, Option.map_some, List.set_cons_zero, List.set_cons_succ, and_true, true_and, List.flatMap_cons, List.flatMap_nil, Bool.not_not, hρ]
          rw [take_succ_at hl, lvls_snoc]
          exact ⟨by omega, by simp⟩
      · simp (maxSteps := 1000000) (implicitDefEqProofs := false) (disch := omega) only [push_cast, ↓reduceIte, Nat.reduceEqDiff, reduceCtorEq, decide_true, decide_false, Bool.not_true, Bool.not_false, Option.isNone_some, Option.isNone_none, List.drop_zero, List.drop_succ_cons, List.getElem?_cons_zero, List.getElem?_cons_succ, List.length_cons, List.length_nil, List.take_succ_cons, List.take_zero, Nat.mul_one, Nat.zero_add, Nat.add_zero, Nat.one_mul, Nat.zero_mul, List.getElem?_map, List.getElem?_drop, List.getElem?_take, List.length_map, Option.map_some, List.set_cons_zero, List.set_cons_succ, and_true, true_and, List.flatMap_cons, List.flatMap_nil, Bool.not_not, hρ]
        refine hE _ _ ?_
        simp (maxSteps := 1000000) (implicitDefEqProofs := false) (disch := omega) only [push_cast, ↓reduceIte, Nat.reduceEqDiff, reduceCtorEq, decide_true, decide_false, Bool.not_true, Bool.not_false, Option.isNone_some, Option.isNone_none, List.drop_zero, List.drop_succ_cons, List.getElem?_cons_zero, List.getElem?_cons_succ, List.length_cons, List.length_nil, List.take_succ_cons, List.take_zero, Nat.mul_one, Nat.zero_add, Nat.add_zero, Nat.one_mul, Nat.zero_mul, List.getElem?_map, List.getElem?_drop, List.getElem?_take, List.length_map, Option.map_some, List.set_cons_zero, List.set_cons_succ, and_true, true_and, List.flatMap_cons, List.flatMap_nil, Bool.not_not, hρ]
        have : k = xss.length := by omega
        subst this
        simp
    · rintro ε σ ⟨hρ, rfl⟩
      simp (maxSteps := 1000000) (implicitDefEqProofs := false) (disch := omega) only [push_cast, ↓reduceIte, Nat.reduceEqDiff, reduceCtorEq, decide_true, decide_false, Bool.not_true, Bool.not_false, Option.isNone_some, Option.isNone_none, List.drop_zero, List.drop_succ_cons, List.getElem?_cons_zero, List.getElem?_cons_succ, List.length_cons, List.length_nil, List.take_succ_cons, List.take_zero, Nat.mul_one, Nat.zero_add, Nat.add_zero, Nat.one_mul, Nat.zero_mul, List.getElem?_map, List.getElem?_drop, List.getElem?_take, List.length_map, Option.map_some, List.set_cons_zero, List.set_cons_succ, and_true, true_and, List.flatMap_cons, List.flatMap_nil, Bool.not_not, hρ]
      refine fin_tup2 [0] (c := aInts (lvls xss)) (d := aInt 0) ?_ ?_ (aInts_pure _) (aInt_pure _) ?_
      · rw [freeze_one (i := 0) rfl (by rw [resL_map, List.map_map]; exact List.map_congr_left fun x _ => aInt_res _ x), res_ms rfl (by simp [lvls_len])]
        simp [aInts, aSl, lvls_len]
      · simp [AV.res, aInt]
      · rfl
  · have hE : lvlE xss = [] := by unfold lvlE; rw [if_neg hc]
    simp (maxSteps := 1000000) (implicitDefEqProofs := false) (disch := omega) only [push_cast, ↓reduceIte, Nat.reduceEqDiff, reduceCtorEq, decide_true, decide_false, Bool.not_true, Bool.not_false, Option.isNone_some, Option.isNone_none, List.drop_zero, List.drop_succ_cons, List.getElem?_cons_zero, List.getElem?_cons_succ, List.length_cons, List.length_nil, List.take_succ_cons, List.take_zero, Nat.mul_one, Nat.zero_add, Nat.add_zero, Nat.one_mul, Nat.zero_mul, List.getElem?_map, List.getElem?_drop, List.getElem?_take, List.length_map, Option.map_some, List.set_cons_zero, List.set_cons_succ, and_true, true_and, List.flatMap_cons, List.flatMap_nil, Bool.not_not, aInt, hc, hE]
    refine fin_tup2 [] (c := aInts []) (d := aInt (chk xss)) ?_ ?_ (aInts_pure _) (aInt_pure _) ?_
    · simp [AV.res, AV.resL, aInts, aSl]
    · simp [AV.res, aInt]
    · rfl

/-! ### Widest -/
def cntL (n : Nat) (l : List Int) : List Int := (List.range n).map fun i : Nat => (l.count (i : Int) : Int)
theorem cntL_len (n : Nat) (l : List Int) : (cntL n l).length = n := by simp [cntL]
theorem cntL_get {n : Nat} {l : List Int} {i : Nat} (h : i < n) : (cntL n l)[i]? = some (l.count (i : Int) : Int) := by simp [cntL, h]
theorem cntL_nil (n : Nat) : cntL n [] = List.replicate n 0 := by
  apply List.ext_getElem?
  intro j
  by_cases hj : j < n
  · rw [cntL_get hj]; simp [hj]
  · rw [List.getElem?_eq_none (by rw [cntL_len]; omega), List.getElem?_eq_none (by simp; omega)]
theorem cntL_set {n : Nat} {l : List Int} {i : Nat} (hi : i < n) : (cntL n l).set i ((l.count (i : Int) : Int) + 1) = cntL n (l ++ [(i : Int)]) := by
  apply List.ext_getElem?
  intro j
  by_cases hj : j < n
  · rw [cntL_get hj, List.getElem?_set, List.count_append]
    by_cases hij : i = j
    · subst hij
      simp [cntL_len, hi]
    · rw [if_neg hij, cntL_get hj, List.count_singleton]
      have : ¬ ((i : Int) = (j : Int)) := by omega
      simp [this]
  · rw [List.getElem?_eq_none (by simp [cntL_len]; omega), List.getElem?_eq_none (by simp [cntL_len]; omega)]
def wdL (l : List Int) : Int := maxL (l.map fun x => (l.count x : Int))
theorem maxL_le {l : List Int} {B : Int} (h0 : 0 ≤ B) (h : ∀ x ∈ l, x ≤ B) : maxL l ≤ B := by
  rcases maxL_ex l with e | e
  · omega
  · exact h _ e
theorem wdL_snoc (l : List Int) (x : Int) : wdL (l ++ [x]) = max (wdL l) ((l.count x : Int) + 1) := by
  have hx : ((l ++ [x]).count x : Int) = (l.count x : Int) + 1 := by rw [List.count_append]; simp
  apply Int.le_antisymm
  · refine maxL_le (by have := maxL_nn (l.map fun x => (l.count x : Int)); unfold wdL; omega) ?_
    intro c hc
    simp only [List.mem_map] at hc
    obtain ⟨y, hy, rfl⟩ := hc
    by_cases hyx : y = x
    · subst hyx; rw [hx]; omega
    · have hyl : y ∈ l := by simpa [hyx] using hy
      have e : (l ++ [x]).count y = l.count y := by rw [List.count_append, List.count_singleton]; have : ¬ x = y := fun e => hyx e.symm; simp [this]
      rw [e]
      have : (l.count y : Int) ≤ wdL l := maxL_ge (by simp only [List.mem_map]; exact ⟨y, hyl, rfl⟩)
      omega
  · refine Int.max_le.2 ⟨maxL_le (maxL_nn _) ?_, ?_⟩
    · intro c hc
      simp only [List.mem_map] at hc
      obtain ⟨y, hy, rfl⟩ := hc
      have h1 : ((l ++ [x]).count y : Int) ≤ wdL (l ++ [x]) := maxL_ge (by simp only [List.mem_map]; exact ⟨y, by simp [hy], rfl⟩)
      have h2 : l.count y ≤ (l ++ [x]).count y := by rw [List.count_append]; omega
      omega
    · rw [← hx]
      exact maxL_ge (by simp only [List.mem_map]; exact ⟨x, by simp, rfl⟩)
theorem wdL_bd (l : List Int) : 0 ≤ wdL l ∧ wdL l ≤ l.length := by
  refine ⟨maxL_nn _, maxL_le (by omega) ?_⟩
  intro c hc
  simp only [List.mem_map] at hc
  obtain ⟨y, hy, rfl⟩ := hc
  have : l.count y ≤ l.length := List.count_le_length
  omega

set_option maxHeartbeats 2000000 in
theorem span_Widest_a (xss : List (List Int)) (hs : xss.length ≤ 1000000) (hs2 : ∀ l ∈ xss, l.length ≤ 1000000) : FnP Try.prog 61 [aInts2 xss] fun a => a = .tup [aInt (wdL (lvlE xss)), aInt (chk xss)] := by
  refine fnP_in K_span_Widest mixed rfl (by simp [AV.pureL, aInts2_pure]) ?_
  simp only [S_span_Widest]
  simp (maxSteps := 1000000) (implicitDefEqProofs := false) (disch := omega) only [push_cast, ↓reduceIte, Nat.reduceEqDiff, reduceCtorEq, decide_true, decide_false, Bool.not_true, Bool.not_false, Option.isNone_some, Option.isNone_none, List.drop_zero, List.drop_succ_cons, List.getElem?_cons_zero, List.getElem?_cons_succ, List.length_cons, List.length_nil, List.take_succ_cons, List.take_zero, Nat.mul_one, Nat.zero_add, Nat.add_zero, Nat.one_mul, Nat.zero_mul, List.getElem?_map, List.getElem?_drop, List.getElem?_take, List.length_map, Option.map_some, List.set_cons_zero, List.set_cons_succ, and_true, true_and, List.flatMap_cons, List.flatMap_nil, Bool.not_not]
  refine wpa_call (span_Levels_a xss hs hs2) ?_
  rintro a rfl
  have hb := @lvlE_bd xss
  have hn := lvlE_len xss
  generalize lvlE xss = ls at hb hn ⊢
  simp (maxSteps := 1000000) (implicitDefEqProofs := false) (disch := omega) only [push_cast, ↓reduceIte, Nat.reduceEqDiff, reduceCtorEq, decide_true, decide_false, Bool.not_true, Bool.not_false, Option.isNone_some, Option.isNone_none, List.drop_zero, List.drop_succ_cons, List.getElem?_cons_zero, List.getElem?_cons_succ, List.length_cons, List.length_nil, List.take_succ_cons, List.take_zero, Nat.mul_one, Nat.zero_add, Nat.add_zero, Nat.one_mul, Nat.zero_mul, List.getElem?_map, List.getElem?_drop, List.getElem?_take, List.length_map, Option.map_some, List.set_cons_zero, List.set_cons_succ, and_true, true_and, List.flatMap_cons, List.flatMap_nil, Bool.not_not, aInts, aSl]
  refine wpa_mks rfl (by omega) (by omega) ?_
  simp (maxSteps := 1000000) (implicitDefEqProofs := false) (disch := omega) only [push_cast, ↓reduceIte, Nat.reduceEqDiff, reduceCtorEq, decide_true, decide_false, Bool.not_true, Bool.not_false, Option.isNone_some, Option.isNone_none, List.drop_zero, List.drop_succ_cons, List.getElem?_cons_zero, List.getElem?_cons_succ, List.length_cons, List.length_nil, List.take_succ_cons, List.take_zero, Nat.mul_one, Nat.zero_add, Nat.add_zero, Nat.one_mul, Nat.zero_mul, List.getElem?_map, List.getElem?_drop, List.getElem?_take, List.length_map, Option.map_some, List.set_cons_zero, List.set_cons_succ, and_true, true_and, List.flatMap_cons, List.flatMap_nil, Bool.not_not, repA_one]
  refine wpa_bl (α := Nat) (I := fun k ε σ => (ε 5 = aInt (chk xss) ∧ ε 6 = .ms 0 0 0 ls.length 1 ∧ ε 18 = .sl ls.length (ls.map aInt) .none ∧ ε 19 = .v (.int .i64 ls.length) ∧ ε 20 = .v (.int .i64 k) ∧ ε 7 = .v (.int .i64 (wdL (ls.take k)))) ∧ k ≤ ls.length ∧
      σ = [.obj 0 ((cntL ls.length (ls.take k)).map aInt)])
    (μ := fun k => ls.length - k) (Q := fun ε _ => ε 5 = aInt (chk xss) ∧ ε 7 = .v (.int .i64 (wdL ls))) (x := 0) ?_ ?_ ?_
  · simp (maxSteps := 1000000) (implicitDefEqProofs := false) (disch := omega) only [push_cast, ↓reduceIte, Nat.reduceEqDiff, reduceCtorEq, decide_true, decide_false, Bool.not_true, Bool.not_false, Option.isNone_some, Option.isNone_none, List.drop_zero, List.drop_succ_cons, List.getElem?_cons_zero, List.getElem?_cons_succ, List.length_cons, List.length_nil, List.take_succ_cons, List.take_zero, Nat.mul_one, Nat.zero_add, Nat.add_zero, Nat.one_mul, Nat.zero_mul, List.getElem?_map, List.getElem?_drop, List.getElem?_take, List.length_map, Option.map_some, List.set_cons_zero, List.set_cons_succ, and_true, true_and, List.flatMap_cons, List.flatMap_nil, Bool.not_not]
    exact ⟨rfl, by omega, by simp [cntL_nil, aInt]⟩
  · rintro k ε σ N E ⟨hρ, hk, rfl⟩ hN hE
    simp only [S_span_Widest_L1]
    by_cases hlt : k < ls.length
    · obtain ⟨x, hx⟩ := at_lt hlt
      have h1 := hb x (List.mem_of_getElem? hx)
      obtain ⟨i, rfl⟩ : ∃ i : Nat, x = i := ⟨x.toNat, by omega⟩
      have hi : i < ls.length := by omega
      have e1 := cntL_get (l := ls.take k) hi
      have e2 : (ls.take k).count (i : Int) ≤ k := by
        have : (ls.take k).count (i : Int) ≤ (ls.take k).length := List.count_le_length
        rw [List.length_take] at this; omega
      have e3 := wdL_bd (ls.take k)
      rw [List.length_take] at e3
      simp (maxSteps := 1000000) (implicitDefEqProofs := false) (disch := omega) only [push_cast, ↓reduceIte, Nat.reduceEqDiff, reduceCtorEq, decide_true, decide_false, Bool.not_true, Bool.not_false, Option.isNone_some, Option.isNone_none, List.drop_zero, List.drop_succ_cons, List.getElem?_cons_zero, List.getElem?_cons_succ, List.length_cons, List.length_nil, List.take_succ_cons, List.take_zero, Nat.mul_one, Nat.zero_add, Nat.add_zero, Nat.one_mul, Nat.zero_mul, List.getElem?_map, List.getElem?_drop, List.getElem?_take, List.length_map, Option.map_some, List.set_cons_zero, List.set_cons_succ, and_true, true_and, List.flatMap_cons, List.flatMap_nil, Bool.not_not, hρ, hx, aInt, e1]
      refine wpa_st1 rfl rfl rfl (by simp [cntL_len]; omega) ?_
      have e4 := cntL_set (l := ls.take k) hi
      have e5 : (cntL ls.length (ls.take k ++ [(i : Int)]))[i]? = some (((ls.take k).count (i : Int) : Int) + 1) := by rw [cntL_get hi, List.count_append]; simp
      simp (maxSteps := 1000000) (implicitDefEqProofs := false) (disch := omega) only [push_cast, ↓reduceIte, Nat.reduceEqDiff, reduceCtorEq, decide_true, decide_false, Bool.not_true, Bool.not_false, Option.isNone_some, Option.isNone_none, List.drop_zero, List.drop_succ_cons, List.getElem?_cons_zero, List.getElem?_cons_succ, List.length_cons, List.length_nil, List.take_succ_cons, List.take_zero, Nat.mul_one, Nat.zero_add, Nat.add_zero, Nat.one_mul, Nat.zero_mul, List.getElem?_map, List.getElem?_drop, List.getElem?_take, List.length_map, Option.map_some, List.set_cons_zero, List.set_cons_succ, and_true, true_and, List.flatMap_cons, List.flatMap_nil, Bool.not_not, hρ, hx, aInt, setI, e4, e5]
      refine hN (k + 1) _ _ ?_ (by omega)
      simp (maxSteps := 1000000) (implicitDefEqProofs := false) (disch := omega) only [push_cast, ↓reduceIte, Nat.reduceEqDiff, reduceCtorEq, decide_true, decide_false, Bool.not_true, Bool.not_false, Option.isNone_some, Option.isNone_none, List.drop_zero, List.drop_succ_cons, List.getElem?_cons_zero, List.getElem?_cons_succ, List.length_cons, List.length_nil, List.take_succ_cons, List.take_zero, Nat.mul_one, Nat.zero_add, Nat.add_zero, Nat.one_mul, Nat.zero_mul, List.getElem?_map, List.getElem?_drop, List.getElem?_take, List.length_map, Option.map_some, List.set_cons_zero, List.set_cons_succ, and_true, true_and, List.flatMap_cons, List.flatMap_nil, Bool.not_not, hρ]
      rw [take_succ_at hx, wdL_snoc]
      exact ⟨rfl, by omega, rfl⟩
    · simp (maxSteps := 1000000) (implicitDefEqProofs := false) (disch := omega) only [push_cast, ↓reduceIte, Nat.reduceEqDiff, reduceCtorEq, decide_true, decide_false, Bool.not_true, Bool.not_false, Option.isNone_some, Option.isNone_none, List.drop_zero, List.drop_succ_cons, List.getElem?_cons_zero, List.getElem?_cons_succ, List.length_cons, List.length_nil, List.take_succ_cons, List.take_zero, Nat.mul_one, Nat.zero_add, Nat.add_zero, Nat.one_mul, Nat.zero_mul, List.getElem?_map, List.getElem?_drop, List.getElem?_take, List.length_map, Option.map_some, List.set_cons_zero, List.set_cons_succ, and_true, true_and, List.flatMap_cons, List.flatMap_nil, Bool.not_not, hρ]
      refine hE _ _ ?_
      simp (maxSteps := 1000000) (implicitDefEqProofs := false) (disch := omega) only [push_cast, ↓reduceIte, Nat.reduceEqDiff, reduceCtorEq, decide_true, decide_false, Bool.not_true, Bool.not_false, Option.isNone_some, Option.isNone_none, List.drop_zero, List.drop_succ_cons, List.getElem?_cons_zero, List.getElem?_cons_succ, List.length_cons, List.length_nil, List.take_succ_cons, List.take_zero, Nat.mul_one, Nat.zero_add, Nat.add_zero, Nat.one_mul, Nat.zero_mul, List.getElem?_map, List.getElem?_drop, List.getElem?_take, List.length_map, Option.map_some, List.set_cons_zero, List.set_cons_succ, and_true, true_and, List.flatMap_cons, List.flatMap_nil, Bool.not_not, hρ]
      rw [List.take_of_length_le (by omega)]
  · intro ε σ hρ
    simp (maxSteps := 1000000) (implicitDefEqProofs := false) (disch := omega) only [push_cast, ↓reduceIte, Nat.reduceEqDiff, reduceCtorEq, decide_true, decide_false, Bool.not_true, Bool.not_false, Option.isNone_some, Option.isNone_none, List.drop_zero, List.drop_succ_cons, List.getElem?_cons_zero, List.getElem?_cons_succ, List.length_cons, List.length_nil, List.take_succ_cons, List.take_zero, Nat.mul_one, Nat.zero_add, Nat.add_zero, Nat.one_mul, Nat.zero_mul, List.getElem?_map, List.getElem?_drop, List.getElem?_take, List.length_map, Option.map_some, List.set_cons_zero, List.set_cons_succ, and_true, true_and, List.flatMap_cons, List.flatMap_nil, Bool.not_not, hρ]
    exact fin_vv rfl
end Go.Proofs.Ytilofhocodbknaa
