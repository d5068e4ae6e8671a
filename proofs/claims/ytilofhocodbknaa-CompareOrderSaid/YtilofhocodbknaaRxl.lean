/- Contracts on annotated values: forebayref31.Ahead, row, Longest. -/
import Derived.Test.YtilofhocodbknaaRxe
namespace Go.Proofs.Ytilofhocodbknaa
set_option linter.unusedVariables false
set_option linter.unusedSimpArgs false
open Go Go.Kx Go.Proofs

/-! ### Ahead -/
def markL (o : List Bool) (l : List Int) : List Bool := l.foldl (fun o p => o.set p.toNat true) o
def downE (xss : List (List Int)) : Nat → List Bool → List Bool
  | 0, o => o
  | i + 1, o => downE xss i (if o.getD i false then markL o (xss.getD i []) else o)
def aheadE (xss : List (List Int)) (b : Int) : List Bool :=
  if 0 ≤ b ∧ b < (xss.length : Int) then downE xss b.toNat (markL (List.replicate xss.length false) (xss.getD b.toNat [])) else List.replicate xss.length false
theorem markL_len (o : List Bool) (l : List Int) : (markL o l).length = o.length := by
  unfold markL
  induction l generalizing o with
  | nil => rfl
  | cons p l ih => simp [ih]
theorem markL_snoc (o : List Bool) (l : List Int) (p : Int) : markL o (l ++ [p]) = (markL o l).set p.toNat true := by simp [markL]
theorem setBo {s : List Bool} {i : Nat} {b : Bool} : (s.map aBool).set i (.v (.bool b)) = (s.set i b).map aBool := by rw [List.map_set]; rfl
theorem repBo (n : Nat) : List.replicate n (AV.v (.bool false)) = (List.replicate n false).map aBool := by simp [aBool]
theorem aBools_pure (l : List Bool) : (aSl aBool l).pure = true := aSl_pure aBool_pure l
theorem aBoolL_res (σ : St) (l : List Bool) : AV.resL σ (l.map aBool) = l.map aBool := by
  rw [resL_map, List.map_map]; exact List.map_congr_left fun x _ => aBool_res σ x

set_option maxHeartbeats 2000000 in
theorem ref31_Ahead_a (xss : List (List Int)) (b : Int) (hs : xss.length ≤ 1000000) (hs2 : ∀ l ∈ xss, l.length ≤ 1000000) (hok : okB 0 xss = true) :
    FnP Try.prog 54 [aInts2 xss, aInt b] fun a => a = aSl aBool (aheadE xss b) := by
  refine fnP_in K_forebayref31_Ahead mixed rfl (by simp [AV.pureL, aInts2_pure, aInt_pure]) ?_
  simp only [S_forebayref31_Ahead, aInts2, aSl, aInt]
  simp (maxSteps := 1000000) (implicitDefEqProofs := false) (disch := omega) only [push_cast, ↓reduceIte, Nat.reduceEqDiff, reduceCtorEq, decide_true, decide_false, Bool.not_true, Bool.not_false, Option.isNone_some, Option.isNone_none, List.drop_zero, List.drop_succ_cons, List.getElem?_cons_zero, List.getElem?_cons_succ, List.length_cons, List.length_nil, List.take_succ_cons, List.take_zero, Nat.mul_one, Nat.zero_add, Nat.add_zero, Nat.one_mul, Nat.zero_mul, List.getElem?_map, List.getElem?_drop, List.getElem?_take, List.length_map, Option.map_some, List.set_cons_zero, List.set_cons_succ, and_true, true_and, List.flatMap_cons, List.flatMap_nil, Bool.not_not]
  refine wpa_mks rfl (by omega) (by omega) ?_
  simp (maxSteps := 1000000) (implicitDefEqProofs := false) (disch := omega) only [push_cast, ↓reduceIte, Nat.reduceEqDiff, reduceCtorEq, decide_true, decide_false, Bool.not_true, Bool.not_false, Option.isNone_some, Option.isNone_none, List.drop_zero, List.drop_succ_cons, List.getElem?_cons_zero, List.getElem?_cons_succ, List.length_cons, List.length_nil, List.take_succ_cons, List.take_zero, Nat.mul_one, Nat.zero_add, Nat.add_zero, Nat.one_mul, Nat.zero_mul, List.getElem?_map, List.getElem?_drop, List.getElem?_take, List.length_map, Option.map_some, List.set_cons_zero, List.set_cons_succ, and_true, true_and, List.flatMap_cons, List.flatMap_nil, Bool.not_not, repA_one]
  have fin : ∀ o : List Bool, o = aheadE xss b → o.length = xss.length → act (∃ is, (AV.res (Go.Kx.freeze is [.obj 0 (o.map aBool)]) (.ms 0 0 0 xss.length 1)).pure = true ∧
      AV.res (Go.Kx.freeze is [.obj 0 (o.map aBool)]) (.ms 0 0 0 xss.length 1) = .sl (aheadE xss b).length ((aheadE xss b).map aBool) .none) := by
    rintro o rfl hl
    refine fin_res [0] ?_ (aBools_pure _)
    rw [freeze_one (i := 0) rfl (aBoolL_res _ _), res_ms rfl (by simp [hl]), hl]
  by_cases hb : 0 ≤ b ∧ b < (xss.length : Int)
  · obtain ⟨n, rfl⟩ : ∃ n : Nat, b = n := ⟨b.toNat, by omega⟩
    obtain ⟨l, hl⟩ := at_lt (l := xss) (k := n) (by omega)
    have hll := hs2 l (List.mem_of_getElem? hl)
    simp (maxSteps := 1000000) (implicitDefEqProofs := false) (disch := omega) only [push_cast, ↓reduceIte, Nat.reduceEqDiff, reduceCtorEq, decide_true, decide_false, Bool.not_true, Bool.not_false, Option.isNone_some, Option.isNone_none, List.drop_zero, List.drop_succ_cons, List.getElem?_cons_zero, List.getElem?_cons_succ, List.length_cons, List.length_nil, List.take_succ_cons, List.take_zero, Nat.mul_one, Nat.zero_add, Nat.add_zero, Nat.one_mul, Nat.zero_mul, List.getElem?_map, List.getElem?_drop, List.getElem?_take, List.length_map, Option.map_some, List.set_cons_zero, List.set_cons_succ, and_true, true_and, List.flatMap_cons, List.flatMap_nil, Bool.not_not]
    rw [repBo]
    refine wpa_bl (α := Nat) (I := fun t ε σ => (ε 0 = .sl xss.length (xss.map aInts) .none ∧ ε 1 = .v (.int .i64 n) ∧ ε 5 = .ms 0 0 0 xss.length 1 ∧ ε 6 = .v (.int .i64 t)) ∧ t ≤ l.length ∧ σ = [.obj 0 ((markL (List.replicate xss.length false) (l.take t)).map aBool)])
      (μ := fun t => l.length - t) (Q := fun ε σ => (ε 0 = .sl xss.length (xss.map aInts) .none ∧ ε 1 = .v (.int .i64 n) ∧ ε 5 = .ms 0 0 0 xss.length 1) ∧ σ = [.obj 0 ((markL (List.replicate xss.length false) l).map aBool)]) (x := 0) ?_ ?_ ?_
    · simp (maxSteps := 1000000) (implicitDefEqProofs := false) (disch := omega) only [push_cast, ↓reduceIte, Nat.reduceEqDiff, reduceCtorEq, decide_true, decide_false, Bool.not_true, Bool.not_false, Option.isNone_some, Option.isNone_none, List.drop_zero, List.drop_succ_cons, List.getElem?_cons_zero, List.getElem?_cons_succ, List.length_cons, List.length_nil, List.take_succ_cons, List.take_zero, Nat.mul_one, Nat.zero_add, Nat.add_zero, Nat.one_mul, Nat.zero_mul, List.getElem?_map, List.getElem?_drop, List.getElem?_take, List.length_map, Option.map_some, List.set_cons_zero, List.set_cons_succ, and_true, true_and, List.flatMap_cons, List.flatMap_nil, Bool.not_not]
      exact ⟨by omega, rfl⟩
    · rintro t ε σ N E ⟨hρ, ht, rfl⟩ hN hE
      simp only [S_forebayref31_Ahead_L1]
      by_cases htl : t < l.length
      · obtain ⟨p, hp⟩ := at_lt htl
        have hpk := okB_at hok hl p (List.mem_of_getElem? hp)
        obtain ⟨q, rfl⟩ : ∃ q : Nat, p = q := ⟨p.toNat, by omega⟩
        have hqn : q < n := by omega
        simp (maxSteps := 1000000) (implicitDefEqProofs := false) (disch := omega) only [push_cast, ↓reduceIte, Nat.reduceEqDiff, reduceCtorEq, decide_true, decide_false, Bool.not_true, Bool.not_false, Option.isNone_some, Option.isNone_none, List.drop_zero, List.drop_succ_cons, List.getElem?_cons_zero, List.getElem?_cons_succ, List.length_cons, List.length_nil, List.take_succ_cons, List.take_zero, Nat.mul_one, Nat.zero_add, Nat.add_zero, Nat.one_mul, Nat.zero_mul, List.getElem?_map, List.getElem?_drop, List.getElem?_take, List.length_map, Option.map_some, List.set_cons_zero, List.set_cons_succ, and_true, true_and, List.flatMap_cons, List.flatMap_nil, Bool.not_not, hρ, hl, hp, aInts, aSl, aInt]
        refine wpa_st1 rfl rfl rfl (by simp [markL_len]; omega) ?_
        simp (maxSteps := 1000000) (implicitDefEqProofs := false) (disch := omega) only [push_cast, ↓reduceIte, Nat.reduceEqDiff, reduceCtorEq, decide_true, decide_false, Bool.not_true, Bool.not_false, Option.isNone_some, Option.isNone_none, List.drop_zero, List.drop_succ_cons, List.getElem?_cons_zero, List.getElem?_cons_succ, List.length_cons, List.length_nil, List.take_succ_cons, List.take_zero, Nat.mul_one, Nat.zero_add, Nat.add_zero, Nat.one_mul, Nat.zero_mul, List.getElem?_map, List.getElem?_drop, List.getElem?_take, List.length_map, Option.map_some, List.set_cons_zero, List.set_cons_succ, and_true, true_and, List.flatMap_cons, List.flatMap_nil, Bool.not_not, hρ, setBo]
        refine hN (t + 1) _ _ ?_ (by omega)
        simp (maxSteps := 1000000) (implicitDefEqProofs := false) (disch := omega) only [push_cast, ↓reduceIte, Nat.reduceEqDiff, reduceCtorEq, decide_true, decide_false, Bool.not_true, Bool.not_false, Option.isNone_some, Option.isNone_none, List.drop_zero, List.drop_succ_cons, List.getElem?_cons_zero, List.getElem?_cons_succ, List.length_cons, List.length_nil, List.take_succ_cons, List.take_zero, Nat.mul_one, Nat.zero_add, Nat.add_zero, Nat.one_mul, Nat.zero_mul, List.getElem?_map, List.getElem?_drop, List.getElem?_take, List.length_map, Option.map_some, List.set_cons_zero, List.set_cons_succ, and_true, true_and, List.flatMap_cons, List.flatMap_nil, Bool.not_not, hρ]
        exact ⟨by omega, by rw [take_succ_at hp, markL_snoc]; rfl⟩
      · simp (maxSteps := 1000000) (implicitDefEqProofs := false) (disch := omega) only [push_cast, ↓reduceIte, Nat.reduceEqDiff, reduceCtorEq, decide_true, decide_false, Bool.not_true, Bool.not_false, Option.isNone_some, Option.isNone_none, List.drop_zero, List.drop_succ_cons, List.getElem?_cons_zero, List.getElem?_cons_succ, List.length_cons, List.length_nil, List.take_succ_cons, List.take_zero, Nat.mul_one, Nat.zero_add, Nat.add_zero, Nat.one_mul, Nat.zero_mul, List.getElem?_map, List.getElem?_drop, List.getElem?_take, List.length_map, Option.map_some, List.set_cons_zero, List.set_cons_succ, and_true, true_and, List.flatMap_cons, List.flatMap_nil, Bool.not_not, hρ, hl, aInts, aSl]
        refine hE _ _ ?_
        simp (maxSteps := 1000000) (implicitDefEqProofs := false) (disch := omega) only [push_cast, ↓reduceIte, Nat.reduceEqDiff, reduceCtorEq, decide_true, decide_false, Bool.not_true, Bool.not_false, Option.isNone_some, Option.isNone_none, List.drop_zero, List.drop_succ_cons, List.getElem?_cons_zero, List.getElem?_cons_succ, List.length_cons, List.length_nil, List.take_succ_cons, List.take_zero, Nat.mul_one, Nat.zero_add, Nat.add_zero, Nat.one_mul, Nat.zero_mul, List.getElem?_map, List.getElem?_drop, List.getElem?_take, List.length_map, Option.map_some, List.set_cons_zero, List.set_cons_succ, and_true, true_and, List.flatMap_cons, List.flatMap_nil, Bool.not_not, hρ]
        rw [List.take_of_length_le (by omega)]
    · rintro ε σ ⟨hρ, rfl⟩
      simp (maxSteps := 1000000) (implicitDefEqProofs := false) (disch := omega) only [push_cast, ↓reduceIte, Nat.reduceEqDiff, reduceCtorEq, decide_true, decide_false, Bool.not_true, Bool.not_false, Option.isNone_some, Option.isNone_none, List.drop_zero, List.drop_succ_cons, List.getElem?_cons_zero, List.getElem?_cons_succ, List.length_cons, List.length_nil, List.take_succ_cons, List.take_zero, Nat.mul_one, Nat.zero_add, Nat.add_zero, Nat.one_mul, Nat.zero_mul, List.getElem?_map, List.getElem?_drop, List.getElem?_take, List.length_map, Option.map_some, List.set_cons_zero, List.set_cons_succ, and_true, true_and, List.flatMap_cons, List.flatMap_nil, Bool.not_not, hρ]
      have hG : (xss.getD n []) = l := by simp [List.getD_eq_getElem?_getD, hl]
      have hA : aheadE xss n = downE xss n (markL (List.replicate xss.length false) l) := by
        unfold aheadE; rw [if_pos hb, Int.toNat_natCast, hG]
      refine wpa_bl (α := Nat) (I := fun i ε σ => (ε 0 = .sl xss.length (xss.map aInts) .none ∧ ε 5 = .ms 0 0 0 xss.length 1 ∧ ε 7 = .v (.int .i64 ((i : Int) - 1))) ∧ i ≤ n ∧
          ∃ o : List Bool, o.length = xss.length ∧ aheadE xss n = downE xss i o ∧ σ = [.obj 0 (o.map aBool)])
        (μ := fun i => i) (Q := fun ε σ => ε 5 = .ms 0 0 0 xss.length 1 ∧ ∃ o : List Bool, o.length = xss.length ∧ o = aheadE xss n ∧ σ = [.obj 0 (o.map aBool)]) (x := n) ?_ ?_ ?_
      · simp (maxSteps := 1000000) (implicitDefEqProofs := false) (disch := omega) only [push_cast, ↓reduceIte, Nat.reduceEqDiff, reduceCtorEq, decide_true, decide_false, Bool.not_true, Bool.not_false, Option.isNone_some, Option.isNone_none, List.drop_zero, List.drop_succ_cons, List.getElem?_cons_zero, List.getElem?_cons_succ, List.length_cons, List.length_nil, List.take_succ_cons, List.take_zero, Nat.mul_one, Nat.zero_add, Nat.add_zero, Nat.one_mul, Nat.zero_mul, List.getElem?_map, List.getElem?_drop, List.getElem?_take, List.length_map, Option.map_some, List.set_cons_zero, List.set_cons_succ, and_true, true_and, List.flatMap_cons, List.flatMap_nil, Bool.not_not, hρ]
        exact ⟨by omega, _, by simp [markL_len], hA, rfl⟩
      · rintro i ε σ N E ⟨hρ, hi, o, hol, hod, rfl⟩ hN hE
        simp only [S_forebayref31_Ahead_L2]
        cases i with
        | zero =>
          have e0 : ((0 : Nat) : Int) - 1 = -1 := by omega
          rw [e0] at hρ
          simp (maxSteps := 1000000) (implicitDefEqProofs := false) (disch := omega) only [push_cast, ↓reduceIte, Nat.reduceEqDiff, reduceCtorEq, decide_true, decide_false, Bool.not_true, Bool.not_false, Option.isNone_some, Option.isNone_none, List.drop_zero, List.drop_succ_cons, List.getElem?_cons_zero, List.getElem?_cons_succ, List.length_cons, List.length_nil, List.take_succ_cons, List.take_zero, Nat.mul_one, Nat.zero_add, Nat.add_zero, Nat.one_mul, Nat.zero_mul, List.getElem?_map, List.getElem?_drop, List.getElem?_take, List.length_map, Option.map_some, List.set_cons_zero, List.set_cons_succ, and_true, true_and, List.flatMap_cons, List.flatMap_nil, Bool.not_not, hρ]
          refine hE _ _ ?_
          simp (maxSteps := 1000000) (implicitDefEqProofs := false) (disch := omega) only [push_cast, ↓reduceIte, Nat.reduceEqDiff, reduceCtorEq, decide_true, decide_false, Bool.not_true, Bool.not_false, Option.isNone_some, Option.isNone_none, List.drop_zero, List.drop_succ_cons, List.getElem?_cons_zero, List.getElem?_cons_succ, List.length_cons, List.length_nil, List.take_succ_cons, List.take_zero, Nat.mul_one, Nat.zero_add, Nat.add_zero, Nat.one_mul, Nat.zero_mul, List.getElem?_map, List.getElem?_drop, List.getElem?_take, List.length_map, Option.map_some, List.set_cons_zero, List.set_cons_succ, and_true, true_and, List.flatMap_cons, List.flatMap_nil, Bool.not_not, hρ]
          exact ⟨o, hol, hod.symm, rfl⟩
        | succ j =>
          have e0 : ((j + 1 : Nat) : Int) - 1 = (j : Int) := by omega
          rw [e0] at hρ
          obtain ⟨m, hm⟩ := at_lt (l := xss) (k := j) (by omega)
          have hml := hs2 m (List.mem_of_getElem? hm)
          have hmG : (xss.getD j []) = m := by simp [List.getD_eq_getElem?_getD, hm]
          obtain ⟨c, hc⟩ := at_lt (l := o) (k := j) (by omega)
          have hcG : o.getD j false = c := by simp [List.getD_eq_getElem?_getD, hc]
          simp only [downE, hmG, hcG] at hod
          cases c with
          | false =>
            simp (maxSteps := 1000000) (implicitDefEqProofs := false) (disch := omega) only [push_cast, ↓reduceIte, Nat.reduceEqDiff, reduceCtorEq, decide_true, decide_false, Bool.not_true, Bool.not_false, Option.isNone_some, Option.isNone_none, List.drop_zero, List.drop_succ_cons, List.getElem?_cons_zero, List.getElem?_cons_succ, List.length_cons, List.length_nil, List.take_succ_cons, List.take_zero, Nat.mul_one, Nat.zero_add, Nat.add_zero, Nat.one_mul, Nat.zero_mul, List.getElem?_map, List.getElem?_drop, List.getElem?_take, List.length_map, Option.map_some, List.set_cons_zero, List.set_cons_succ, and_true, true_and, List.flatMap_cons, List.flatMap_nil, Bool.not_not, hρ, hc, aBool]
            refine hN j _ _ ?_ (by omega)
            simp (maxSteps := 1000000) (implicitDefEqProofs := false) (disch := omega) only [push_cast, ↓reduceIte, Nat.reduceEqDiff, reduceCtorEq, decide_true, decide_false, Bool.not_true, Bool.not_false, Option.isNone_some, Option.isNone_none, List.drop_zero, List.drop_succ_cons, List.getElem?_cons_zero, List.getElem?_cons_succ, List.length_cons, List.length_nil, List.take_succ_cons, List.take_zero, Nat.mul_one, Nat.zero_add, Nat.add_zero, Nat.one_mul, Nat.zero_mul, List.getElem?_map, List.getElem?_drop, List.getElem?_take, List.length_map, Option.map_some, List.set_cons_zero, List.set_cons_succ, and_true, true_and, List.flatMap_cons, List.flatMap_nil, Bool.not_not, hρ]
            exact ⟨by omega, o, hol, by simpa using hod, rfl⟩
          | true =>
            simp (maxSteps := 1000000) (implicitDefEqProofs := false) (disch := omega) only [push_cast, ↓reduceIte, Nat.reduceEqDiff, reduceCtorEq, decide_true, decide_false, Bool.not_true, Bool.not_false, Option.isNone_some, Option.isNone_none, List.drop_zero, List.drop_succ_cons, List.getElem?_cons_zero, List.getElem?_cons_succ, List.length_cons, List.length_nil, List.take_succ_cons, List.take_zero, Nat.mul_one, Nat.zero_add, Nat.add_zero, Nat.one_mul, Nat.zero_mul, List.getElem?_map, List.getElem?_drop, List.getElem?_take, List.length_map, Option.map_some, List.set_cons_zero, List.set_cons_succ, and_true, true_and, List.flatMap_cons, List.flatMap_nil, Bool.not_not, hρ, hc, aBool]
            refine wpa_bl (α := Nat) (I := fun t ε σ => (ε 0 = .sl xss.length (xss.map aInts) .none ∧ ε 5 = .ms 0 0 0 xss.length 1 ∧ ε 7 = .v (.int .i64 j) ∧ ε 8 = .v (.int .i64 t)) ∧ t ≤ m.length ∧ σ = [.obj 0 ((markL o (m.take t)).map aBool)])
              (μ := fun t => m.length - t) (Q := fun ε σ => (ε 0 = .sl xss.length (xss.map aInts) .none ∧ ε 5 = .ms 0 0 0 xss.length 1 ∧ ε 7 = .v (.int .i64 j)) ∧ σ = [.obj 0 ((markL o m).map aBool)]) (x := 0) ?_ ?_ ?_
            · simp (maxSteps := 1000000) (implicitDefEqProofs := false) (disch := omega) only [push_cast, ↓reduceIte, Nat.reduceEqDiff, reduceCtorEq, decide_true, decide_false, Bool.not_true, Bool.not_false, Option.isNone_some, Option.isNone_none, List.drop_zero, List.drop_succ_cons, List.getElem?_cons_zero, List.getElem?_cons_succ, List.length_cons, List.length_nil, List.take_succ_cons, List.take_zero, Nat.mul_one, Nat.zero_add, Nat.add_zero, Nat.one_mul, Nat.zero_mul, List.getElem?_map, List.getElem?_drop, List.getElem?_take, List.length_map, Option.map_some, List.set_cons_zero, List.set_cons_succ, and_true, true_and, List.flatMap_cons, List.flatMap_nil, Bool.not_not, hρ]
              exact ⟨by omega, rfl⟩
            · rintro t ε σ N' E' ⟨hρ, ht, rfl⟩ hN' hE'
              simp only [S_forebayref31_Ahead_L3]
              by_cases htl : t < m.length
              · obtain ⟨p, hp⟩ := at_lt htl
                have hpk := okB_at hok hm p (List.mem_of_getElem? hp)
                obtain ⟨q, rfl⟩ : ∃ q : Nat, p = q := ⟨p.toNat, by omega⟩
                have hqn : q < j := by omega
                simp (maxSteps := 1000000) (implicitDefEqProofs := false) (disch := omega) only [push_cast, ↓reduceIte, Nat.reduceEqDiff, reduceCtorEq, decide_true, decide_false, Bool.not_true, Bool.not_false, Option.isNone_some, Option.isNone_none, List.drop_zero, List.drop_succ_cons, List.getElem?_cons_zero, List.getElem?_cons_succ, List.length_cons, List.length_nil, List.take_succ_cons, List.take_zero, Nat.mul_one, Nat.zero_add, Nat.add_zero, Nat.one_mul, Nat.zero_mul, List.getElem?_map, List.getElem?_drop, List.getElem?_take, List.length_map, Option.map_some, List.set_cons_zero, List.set_cons_succ, and_true, true_and, List.flatMap_cons, List.flatMap_nil, Bool.not_not, hρ, hm, hp, aInts, aSl, aInt]
                refine wpa_st1 rfl rfl rfl (by simp [markL_len]; omega) ?_
                simp (maxSteps := 1000000) (implicitDefEqProofs := false) (disch := omega) only [push_cast, ↓reduceIte, Nat.reduceEqDiff, reduceCtorEq, decide_true, decide_false, Bool.not_true, Bool.not_false, Option.isNone_some, Option.isNone_none, List.drop_zero, List.drop_succ_cons, List.getElem?_cons_zero, List.getElem?_cons_succ, List.length_cons, List.length_nil, List.take_succ_cons, List.take_zero, Nat.mul_one, Nat.zero_add, Nat.add_zero, Nat.one_mul, Nat.zero_mul, List.getElem?_map, List.getElem?_drop, List.getElem?_take, List.length_map, Option.map_some, List.set_cons_zero, List.set_cons_succ, and_true, true_and, List.flatMap_cons, List.flatMap_nil, Bool.not_not, hρ, setBo]
                refine hN' (t + 1) _ _ ?_ (by omega)
                simp (maxSteps := 1000000) (implicitDefEqProofs := false) (disch := omega) only [push_cast, ↓reduceIte, Nat.reduceEqDiff, reduceCtorEq, decide_true, decide_false, Bool.not_true, Bool.not_false, Option.isNone_some, Option.isNone_none, List.drop_zero, List.drop_succ_cons, List.getElem?_cons_zero, List.getElem?_cons_succ, List.length_cons, List.length_nil, List.take_succ_cons, List.take_zero, Nat.mul_one, Nat.zero_add, Nat.add_zero, Nat.one_mul, Nat.zero_mul, List.getElem?_map, List.getElem?_drop, List.getElem?_take, List.length_map, Option.map_some, List.set_cons_zero, List.set_cons_succ, and_true, true_and, List.flatMap_cons, List.flatMap_nil, Bool.not_not, hρ]
                exact ⟨by omega, by rw [take_succ_at hp, markL_snoc]; rfl⟩
              · simp (maxSteps := 1000000) (implicitDefEqProofs := false) (disch := omega) only [push_cast, ↓reduceIte, Nat.reduceEqDiff, reduceCtorEq, decide_true, decide_false, Bool.not_true, Bool.not_false, Option.isNone_some, Option.isNone_none, List.drop_zero, List.drop_succ_cons, List.getElem?_cons_zero, List.getElem?_cons_succ, List.length_cons, List.length_nil, List.take_succ_cons, List.take_zero, Nat.mul_one, Nat.zero_add, Nat.add_zero, Nat.one_mul, Nat.zero_mul, List.getElem?_map, List.getElem?_drop, List.getElem?_take, List.length_map, Option.map_some, List.set_cons_zero, List.set_cons_succ, and_true, true_and, List.flatMap_cons, List.flatMap_nil, Bool.not_not, hρ, hm, aInts, aSl]
                refine hE' _ _ ?_
                simp (maxSteps := 1000000) (implicitDefEqProofs := false) (disch := omega) only [push_cast, ↓reduceIte, Nat.reduceEqDiff, reduceCtorEq, decide_true, decide_false, Bool.not_true, Bool.not_false, Option.isNone_some, Option.isNone_none, List.drop_zero, List.drop_succ_cons, List.getElem?_cons_zero, List.getElem?_cons_succ, List.length_cons, List.length_nil, List.take_succ_cons, List.take_zero, Nat.mul_one, Nat.zero_add, Nat.add_zero, Nat.one_mul, Nat.zero_mul, List.getElem?_map, List.getElem?_drop, List.getElem?_take, List.length_map, Option.map_some, List.set_cons_zero, List.set_cons_succ, and_true, true_and, List.flatMap_cons, List.flatMap_nil, Bool.not_not, hρ]
                rw [List.take_of_length_le (by omega)]
            · rintro ε σ ⟨hρ, rfl⟩
              simp (maxSteps := 1000000) (implicitDefEqProofs := false) (disch := omega) only [push_cast, ↓reduceIte, Nat.reduceEqDiff, reduceCtorEq, decide_true, decide_false, Bool.not_true, Bool.not_false, Option.isNone_some, Option.isNone_none, List.drop_zero, List.drop_succ_cons, List.getElem?_cons_zero, List.getElem?_cons_succ, List.length_cons, List.length_nil, List.take_succ_cons, List.take_zero, Nat.mul_one, Nat.zero_add, Nat.add_zero, Nat.one_mul, Nat.zero_mul, List.getElem?_map, List.getElem?_drop, List.getElem?_take, List.length_map, Option.map_some, List.set_cons_zero, List.set_cons_succ, and_true, true_and, List.flatMap_cons, List.flatMap_nil, Bool.not_not, hρ]
              refine hN j _ _ ?_ (by omega)
              simp (maxSteps := 1000000) (implicitDefEqProofs := false) (disch := omega) only [push_cast, ↓reduceIte, Nat.reduceEqDiff, reduceCtorEq, decide_true, decide_false, Bool.not_true, Bool.not_false, Option.isNone_some, Option.isNone_none, List.drop_zero, List.drop_succ_cons, List.getElem?_cons_zero, List.getElem?_cons_succ, List.length_cons, List.length_nil, List.take_succ_cons, List.take_zero, Nat.mul_one, Nat.zero_add, Nat.add_zero, Nat.one_mul, Nat.zero_mul, List.getElem?_map, List.getElem?_drop, List.getElem?_take, List.length_map, Option.map_some, List.set_cons_zero, List.set_cons_succ, and_true, true_and, List.flatMap_cons, List.flatMap_nil, Bool.not_not, hρ]
              exact ⟨by omega, _, by rw [markL_len, hol], by simpa using hod, rfl⟩
      · rintro ε σ ⟨hρ, o, hol, ho, rfl⟩
        simp (maxSteps := 1000000) (implicitDefEqProofs := false) (disch := omega) only [push_cast, ↓reduceIte, Nat.reduceEqDiff, reduceCtorEq, decide_true, decide_false, Bool.not_true, Bool.not_false, Option.isNone_some, Option.isNone_none, List.drop_zero, List.drop_succ_cons, List.getElem?_cons_zero, List.getElem?_cons_succ, List.length_cons, List.length_nil, List.take_succ_cons, List.take_zero, Nat.mul_one, Nat.zero_add, Nat.add_zero, Nat.one_mul, Nat.zero_mul, List.getElem?_map, List.getElem?_drop, List.getElem?_take, List.length_map, Option.map_some, List.set_cons_zero, List.set_cons_succ, and_true, true_and, List.flatMap_cons, List.flatMap_nil, Bool.not_not, hρ]
        exact fin o ho hol
  · by_cases hb0 : b < 0
    · simp (maxSteps := 1000000) (implicitDefEqProofs := false) (disch := omega) only [push_cast, ↓reduceIte, Nat.reduceEqDiff, reduceCtorEq, decide_true, decide_false, Bool.not_true, Bool.not_false, Option.isNone_some, Option.isNone_none, List.drop_zero, List.drop_succ_cons, List.getElem?_cons_zero, List.getElem?_cons_succ, List.length_cons, List.length_nil, List.take_succ_cons, List.take_zero, Nat.mul_one, Nat.zero_add, Nat.add_zero, Nat.one_mul, Nat.zero_mul, List.getElem?_map, List.getElem?_drop, List.getElem?_take, List.length_map, Option.map_some, List.set_cons_zero, List.set_cons_succ, and_true, true_and, List.flatMap_cons, List.flatMap_nil, Bool.not_not]
      rw [repBo]
      exact fin _ (by unfold aheadE; rw [if_neg hb]) (by simp)
    · simp (maxSteps := 1000000) (implicitDefEqProofs := false) (disch := omega) only [push_cast, ↓reduceIte, Nat.reduceEqDiff, reduceCtorEq, decide_true, decide_false, Bool.not_true, Bool.not_false, Option.isNone_some, Option.isNone_none, List.drop_zero, List.drop_succ_cons, List.getElem?_cons_zero, List.getElem?_cons_succ, List.length_cons, List.length_nil, List.take_succ_cons, List.take_zero, Nat.mul_one, Nat.zero_add, Nat.add_zero, Nat.one_mul, Nat.zero_mul, List.getElem?_map, List.getElem?_drop, List.getElem?_take, List.length_map, Option.map_some, List.set_cons_zero, List.set_cons_succ, and_true, true_and, List.flatMap_cons, List.flatMap_nil, Bool.not_not]
      rw [repBo]
      exact fin _ (by unfold aheadE; rw [if_neg hb]) (by simp)

/-! ### Longest -/
theorem rkF_take (w : Nat → Int) (xss : List (List Int)) : ∀ k, (rkF w xss).take k = rkF w (xss.take k) := by
  induction xss using snoc_ind with
  | h0 => intro k; simp [rkF]
  | hs xs l ih =>
    intro k
    by_cases hk : k ≤ xs.length
    · rw [rkF_snoc, List.take_append_of_le_length (by rw [rkF_len]; exact hk), ih, List.take_append_of_le_length hk]
    · rw [List.take_of_length_le (by rw [rkF_len]; simp; omega), List.take_of_length_le (l := xs ++ [l]) (by simp; omega)]
theorem rankP_congr {rs rs' : List Int} {l : List Int} (h : ∀ p ∈ l, rs.getD p.toNat 0 = rs'.getD p.toNat 0) : rankP rs l = rankP rs' l := by
  unfold rankP
  suffices H : ∀ (l : List Int), (∀ p ∈ l, rs.getD p.toNat 0 = rs'.getD p.toNat 0) → ∀ a, l.foldl (fun m p => max m (rs.getD p.toNat 0)) a = l.foldl (fun m p => max m (rs'.getD p.toNat 0)) a from H l h 0
  intro l
  induction l with
  | nil => intro _ a; rfl
  | cons p l ih =>
    intro h a
    simp only [List.foldl_cons]
    rw [h p (by simp)]
    exact ih (fun q hq => h q (by simp [hq])) _
theorem getD_take {α : Type} (l : List α) (k i : Nat) (d : α) (h : i < k) : (l.take k).getD i d = l.getD i d := by
  simp [List.getD_eq_getElem?_getD, List.getElem?_take, h]
/-- The weight of a thing's greatest row by those of what is ahead. -/
theorem rkF_at (w : Nat → Int) {xss : List (List Int)} (hok : okB 0 xss = true) {k : Nat} {l : List Int} (hl : xss[k]? = some l) : (rkF w xss).getD k 0 = rankP (rkF w xss) l + w k := by
  have hk : k < xss.length := (List.getElem?_eq_some_iff.1 hl).1
  have h1 : (rkF w xss).getD k 0 = (rkF w (xss.take (k + 1))).getD k 0 := by rw [← rkF_take, getD_take _ _ _ _ (by omega)]
  rw [h1, take_succ_at hl, rkF_snoc]
  have hlen : (rkF w (xss.take k)).length = k := by rw [rkF_len]; simp; omega
  have h2 : rankP (rkF w (xss.take k)) l = rankP (rkF w xss) l := by
    refine rankP_congr fun p hp => ?_
    have := okB_at hok hl p hp
    rw [← rkF_take, getD_take _ _ _ _ (by omega)]
  rw [List.getD_eq_getElem?_getD, List.getElem?_append_right (by omega), hlen, Nat.sub_self, h2]
  rfl
def memoOk (w : Nat → Int) (xss : List (List Int)) (ks : List Int) : Prop := ks.length = xss.length ∧ ∀ j, j < xss.length → ks.getD j 0 = 0 ∨ ks.getD j 0 = (rkF w xss).getD j 0
theorem memoOk.set {w : Nat → Int} {xss : List (List Int)} {ks : List Int} (h : memoOk w xss ks) {k : Nat} {x : Int} (hx : x = (rkF w xss).getD k 0) : memoOk w xss (ks.set k x) := by
  refine ⟨by simpa using h.1, fun j hj => ?_⟩
  simp only [List.getD_eq_getElem?_getD, List.getElem?_set]
  by_cases hk : k = j
  · subst hk
    have : k < ks.length := by rw [h.1]; exact hj
    simp only [if_true, this, Option.getD_some]
    right; rw [hx, List.getD_eq_getElem?_getD]
  · rw [if_neg hk]
    have := h.2 j hj
    simpa [List.getD_eq_getElem?_getD] using this
theorem setI {s : List Int} {i : Nat} {x : Int} : (s.map aInt).set i (.v (.int .i64 x)) = (s.set i x).map aInt := by rw [List.map_set]; rfl

set_option maxHeartbeats 2000000 in
theorem ref31_row_a (xss : List (List Int)) (hs : xss.length ≤ 1000) (hs2 : ∀ l ∈ xss, l.length ≤ 1000000) (hok : okB 0 xss = true) : ∀ (b : Nat), b < xss.length → ∀ (i w : Nat) (σ : St) (ks : List Int), memoOk (fun _ => 1) xss ks → σ[i]? = some (.obj w (ks.map aInt)) →
    FnG Try.prog 95 [aInts2 xss, aInt b, .ms i w 0 xss.length 1] σ fun a σ' => a = aInt ((ranks xss).getD b 0) ∧ ∃ ks', memoOk (fun _ => 1) xss ks' ∧ σ' = σ.set i (.obj w (ks'.map aInt)) := by
  intro b
  induction b using Nat.strongRecOn with
  | ind b ih =>
    intro hb i w σ ks hks hi
    obtain ⟨l, hl⟩ := at_lt hb
    have hll := hs2 l (List.mem_of_getElem? hl)
    have hil : i < σ.length := (List.getElem?_eq_some_iff.1 hi).1
    have hat := rkF_at (fun _ => 1) hok hl
    have hbd := rankP_bd (ranks xss) xss.length (by omega) (fun r hr => (ranks_bd xss r hr).2)
    refine fnG_in K_forebayref31_row mixed rfl ?_
    simp only [S_forebayref31_row]
    obtain ⟨x, hx⟩ := at_lt (l := ks) (k := b) (by rw [hks.1]; exact hb)
    have hxG : ks.getD b 0 = x := by simp [List.getD_eq_getElem?_getD, hx]
    have hmm := hks.2 b hb
    rw [hxG] at hmm
    by_cases hpos : 0 < x
    · simp (maxSteps := 1000000) (implicitDefEqProofs := false) (disch := omega) only [push_cast, ↓reduceIte, Nat.reduceEqDiff, reduceCtorEq, decide_true, decide_false, Bool.not_true, Bool.not_false, Option.isNone_some, Option.isNone_none, List.drop_zero, List.drop_succ_cons, List.getElem?_cons_zero, List.getElem?_cons_succ, List.length_cons, List.length_nil, List.take_succ_cons, List.take_zero, Nat.mul_one, Nat.zero_add, Nat.add_zero, Nat.one_mul, Nat.zero_mul, List.getElem?_map, List.getElem?_drop, List.getElem?_take, List.length_map, Option.map_some, List.set_cons_zero, List.set_cons_succ, and_true, true_and, List.flatMap_cons, List.flatMap_nil, Bool.not_not, aInt, hi, hx]
      have : x = (ranks xss).getD b 0 := by rcases hmm with h | h <;> first | omega | exact h
      refine ⟨by rw [this], ks, hks, ?_⟩
      have hself : σ.set i (.obj w (ks.map aInt)) = σ := by
        obtain ⟨_, he⟩ := List.getElem?_eq_some_iff.1 hi
        rw [← he]; simp
      exact hself.symm
    · simp (maxSteps := 1000000) (implicitDefEqProofs := false) (disch := omega) only [push_cast, ↓reduceIte, Nat.reduceEqDiff, reduceCtorEq, decide_true, decide_false, Bool.not_true, Bool.not_false, Option.isNone_some, Option.isNone_none, List.drop_zero, List.drop_succ_cons, List.getElem?_cons_zero, List.getElem?_cons_succ, List.length_cons, List.length_nil, List.take_succ_cons, List.take_zero, Nat.mul_one, Nat.zero_add, Nat.add_zero, Nat.one_mul, Nat.zero_mul, List.getElem?_map, List.getElem?_drop, List.getElem?_take, List.length_map, Option.map_some, List.set_cons_zero, List.set_cons_succ, and_true, true_and, List.flatMap_cons, List.flatMap_nil, Bool.not_not, aInt, hi, hx]
      refine wpa_bl (α := Nat) (I := fun t ε σ' => (ε 0 = aInts2 xss ∧ ε 1 = .v (.int .i64 b) ∧ ε 2 = .ms i w 0 xss.length 1 ∧ ε 8 = .v (.int .i64 t) ∧ ε 7 = .v (.int .i64 (rankP (ranks xss) (l.take t)))) ∧ t ≤ l.length ∧
          ∃ ks', memoOk (fun _ => 1) xss ks' ∧ σ' = σ.set i (.obj w (ks'.map aInt)))
        (μ := fun t => l.length - t) (Q := fun ε σ' => (ε 1 = .v (.int .i64 b) ∧ ε 2 = .ms i w 0 xss.length 1 ∧ ε 7 = .v (.int .i64 (rankP (ranks xss) l))) ∧ ∃ ks', memoOk (fun _ => 1) xss ks' ∧ σ' = σ.set i (.obj w (ks'.map aInt))) (x := 0) ?_ ?_ ?_
      · simp (maxSteps := 1000000) (implicitDefEqProofs := false) (disch := omega) only [push_cast, ↓reduceIte, Nat.reduceEqDiff, reduceCtorEq, decide_true, decide_false, Bool.not_true, Bool.not_false, Option.isNone_some, Option.isNone_none, List.drop_zero, List.drop_succ_cons, List.getElem?_cons_zero, List.getElem?_cons_succ, List.length_cons, List.length_nil, List.take_succ_cons, List.take_zero, Nat.mul_one, Nat.zero_add, Nat.add_zero, Nat.one_mul, Nat.zero_mul, List.getElem?_map, List.getElem?_drop, List.getElem?_take, List.length_map, Option.map_some, List.set_cons_zero, List.set_cons_succ, and_true, true_and, List.flatMap_cons, List.flatMap_nil, Bool.not_not]
        refine ⟨by simp [rankP], by omega, ks, hks, ?_⟩
        obtain ⟨_, he⟩ := List.getElem?_eq_some_iff.1 hi
        rw [← he]; simp
      · rintro t ε σ' N E ⟨hρ, ht, ks', hks', rfl⟩ hN hE
        simp only [S_forebayref31_row_L1]
        by_cases htl : t < l.length
        · obtain ⟨p, hp⟩ := at_lt htl
          have hpk := okB_at hok hl p (List.mem_of_getElem? hp)
          obtain ⟨q, rfl⟩ : ∃ q : Nat, p = q := ⟨p.toNat, by omega⟩
          have hqb : q < b := by omega
          simp (maxSteps := 1000000) (implicitDefEqProofs := false) (disch := omega) only [push_cast, ↓reduceIte, Nat.reduceEqDiff, reduceCtorEq, decide_true, decide_false, Bool.not_true, Bool.not_false, Option.isNone_some, Option.isNone_none, List.drop_zero, List.drop_succ_cons, List.getElem?_cons_zero, List.getElem?_cons_succ, List.length_cons, List.length_nil, List.take_succ_cons, List.take_zero, Nat.mul_one, Nat.zero_add, Nat.add_zero, Nat.one_mul, Nat.zero_mul, List.getElem?_map, List.getElem?_drop, List.getElem?_take, List.length_map, Option.map_some, List.set_cons_zero, List.set_cons_succ, and_true, true_and, List.flatMap_cons, List.flatMap_nil, Bool.not_not, hρ, aInts2, aSl, hl, hp, aInts, aInt]
          refine wpa_callG (ih q hqb (by omega) i w _ ks' hks' (by simp [hil])) ?_
          rintro a σ'' ⟨rfl, ks'', hks'', rfl⟩
          simp (maxSteps := 1000000) (implicitDefEqProofs := false) (disch := omega) only [push_cast, ↓reduceIte, Nat.reduceEqDiff, reduceCtorEq, decide_true, decide_false, Bool.not_true, Bool.not_false, Option.isNone_some, Option.isNone_none, List.drop_zero, List.drop_succ_cons, List.getElem?_cons_zero, List.getElem?_cons_succ, List.length_cons, List.length_nil, List.take_succ_cons, List.take_zero, Nat.mul_one, Nat.zero_add, Nat.add_zero, Nat.one_mul, Nat.zero_mul, List.getElem?_map, List.getElem?_drop, List.getElem?_take, List.length_map, Option.map_some, List.set_cons_zero, List.set_cons_succ, and_true, true_and, List.flatMap_cons, List.flatMap_nil, Bool.not_not, hρ, aInt]
          refine hN (t + 1) _ _ ?_ (by omega)
          simp (maxSteps := 1000000) (implicitDefEqProofs := false) (disch := omega) only [push_cast, ↓reduceIte, Nat.reduceEqDiff, reduceCtorEq, decide_true, decide_false, Bool.not_true, Bool.not_false, Option.isNone_some, Option.isNone_none, List.drop_zero, List.drop_succ_cons, List.getElem?_cons_zero, List.getElem?_cons_succ, List.length_cons, List.length_nil, List.take_succ_cons, List.take_zero, Nat.mul_one, Nat.zero_add, Nat.add_zero, Nat.one_mul, Nat.zero_mul, List.getElem?_map, List.getElem?_drop, List.getElem?_take, List.length_map, Option.map_some, List.set_cons_zero, List.set_cons_succ, and_true, true_and, List.flatMap_cons, List.flatMap_nil, Bool.not_not, hρ]
          refine ⟨?_, by omega, ks'', hks'', by simp⟩
          rw [take_succ_at hp, rankP_snoc] <;> rfl
        · simp (maxSteps := 1000000) (implicitDefEqProofs := false) (disch := omega) only [push_cast, ↓reduceIte, Nat.reduceEqDiff, reduceCtorEq, decide_true, decide_false, Bool.not_true, Bool.not_false, Option.isNone_some, Option.isNone_none, List.drop_zero, List.drop_succ_cons, List.getElem?_cons_zero, List.getElem?_cons_succ, List.length_cons, List.length_nil, List.take_succ_cons, List.take_zero, Nat.mul_one, Nat.zero_add, Nat.add_zero, Nat.one_mul, Nat.zero_mul, List.getElem?_map, List.getElem?_drop, List.getElem?_take, List.length_map, Option.map_some, List.set_cons_zero, List.set_cons_succ, and_true, true_and, List.flatMap_cons, List.flatMap_nil, Bool.not_not, hρ, aInts2, aSl, hl, aInts]
          refine hE _ _ ?_
          simp (maxSteps := 1000000) (implicitDefEqProofs := false) (disch := omega) only [push_cast, ↓reduceIte, Nat.reduceEqDiff, reduceCtorEq, decide_true, decide_false, Bool.not_true, Bool.not_false, Option.isNone_some, Option.isNone_none, List.drop_zero, List.drop_succ_cons, List.getElem?_cons_zero, List.getElem?_cons_succ, List.length_cons, List.length_nil, List.take_succ_cons, List.take_zero, Nat.mul_one, Nat.zero_add, Nat.add_zero, Nat.one_mul, Nat.zero_mul, List.getElem?_map, List.getElem?_drop, List.getElem?_take, List.length_map, Option.map_some, List.set_cons_zero, List.set_cons_succ, and_true, true_and, List.flatMap_cons, List.flatMap_nil, Bool.not_not, hρ]
          rw [List.take_of_length_le (by omega)]
          exact ⟨rfl, ks', hks', rfl⟩
      · rintro ε σ' ⟨hρ, ks', hks', rfl⟩
        have hb2 := hbd l
        simp (maxSteps := 1000000) (implicitDefEqProofs := false) (disch := omega) only [push_cast, ↓reduceIte, Nat.reduceEqDiff, reduceCtorEq, decide_true, decide_false, Bool.not_true, Bool.not_false, Option.isNone_some, Option.isNone_none, List.drop_zero, List.drop_succ_cons, List.getElem?_cons_zero, List.getElem?_cons_succ, List.length_cons, List.length_nil, List.take_succ_cons, List.take_zero, Nat.mul_one, Nat.zero_add, Nat.add_zero, Nat.one_mul, Nat.zero_mul, List.getElem?_map, List.getElem?_drop, List.getElem?_take, List.length_map, Option.map_some, List.set_cons_zero, List.set_cons_succ, and_true, true_and, List.flatMap_cons, List.flatMap_nil, Bool.not_not, hρ]
        refine wpa_st1 (cs := ks'.map aInt) rfl rfl (by simp [hil]) (by simp [hks'.1]; omega) ?_
        simp (maxSteps := 1000000) (implicitDefEqProofs := false) (disch := omega) only [push_cast, ↓reduceIte, Nat.reduceEqDiff, reduceCtorEq, decide_true, decide_false, Bool.not_true, Bool.not_false, Option.isNone_some, Option.isNone_none, List.drop_zero, List.drop_succ_cons, List.getElem?_cons_zero, List.getElem?_cons_succ, List.length_cons, List.length_nil, List.take_succ_cons, List.take_zero, Nat.mul_one, Nat.zero_add, Nat.add_zero, Nat.one_mul, Nat.zero_mul, List.getElem?_map, List.getElem?_drop, List.getElem?_take, List.length_map, Option.map_some, List.set_cons_zero, List.set_cons_succ, and_true, true_and, List.flatMap_cons, List.flatMap_nil, Bool.not_not, hρ, setI]
        have hres : rankP (ranks xss) l + 1 = (ranks xss).getD b 0 := hat.symm
        refine ⟨by rw [hres], _, hks'.set hres, by simp⟩

set_option maxHeartbeats 1000000 in
theorem ref31_Longest_a (xss : List (List Int)) (hs : xss.length ≤ 1000000) (hs2 : ∀ l ∈ xss, l.length ≤ 1000000) :
    FnP Try.prog 49 [aInts2 xss] fun a => a = if chk xss = 0 then .tup [aInt (maxL (ranks xss)), aInt 0] else .tup [aInt 0, aInt (chk xss)] := by
  refine fnP_in K_forebayref31_Longest mixed rfl (by simp [AV.pureL, aInts2_pure]) ?_
  simp only [S_forebayref31_Longest]
  simp (maxSteps := 1000000) (implicitDefEqProofs := false) (disch := omega) only [push_cast, ↓reduceIte, Nat.reduceEqDiff, reduceCtorEq, decide_true, decide_false, Bool.not_true, Bool.not_false, Option.isNone_some, Option.isNone_none, List.drop_zero, List.drop_succ_cons, List.getElem?_cons_zero, List.getElem?_cons_succ, List.length_cons, List.length_nil, List.take_succ_cons, List.take_zero, Nat.mul_one, Nat.zero_add, Nat.add_zero, Nat.one_mul, Nat.zero_mul, List.getElem?_map, List.getElem?_drop, List.getElem?_take, List.length_map, Option.map_some, List.set_cons_zero, List.set_cons_succ, and_true, true_and, List.flatMap_cons, List.flatMap_nil, Bool.not_not]
  refine wpa_call (ref31_Check_a xss hs hs2) ?_
  rintro a rfl
  by_cases hc : chk xss = 0
  · obtain ⟨hl, hok⟩ := chk_zero hc
    simp (maxSteps := 1000000) (implicitDefEqProofs := false) (disch := omega) only [push_cast, ↓reduceIte, Nat.reduceEqDiff, reduceCtorEq, decide_true, decide_false, Bool.not_true, Bool.not_false, Option.isNone_some, Option.isNone_none, List.drop_zero, List.drop_succ_cons, List.getElem?_cons_zero, List.getElem?_cons_succ, List.length_cons, List.length_nil, List.take_succ_cons, List.take_zero, Nat.mul_one, Nat.zero_add, Nat.add_zero, Nat.one_mul, Nat.zero_mul, List.getElem?_map, List.getElem?_drop, List.getElem?_take, List.length_map, Option.map_some, List.set_cons_zero, List.set_cons_succ, and_true, true_and, List.flatMap_cons, List.flatMap_nil, Bool.not_not, aInt, aInts2, aSl, hc]
    refine wpa_mks rfl (by omega) (by omega) ?_
    simp (maxSteps := 1000000) (implicitDefEqProofs := false) (disch := omega) only [push_cast, ↓reduceIte, Nat.reduceEqDiff, reduceCtorEq, decide_true, decide_false, Bool.not_true, Bool.not_false, Option.isNone_some, Option.isNone_none, List.drop_zero, List.drop_succ_cons, List.getElem?_cons_zero, List.getElem?_cons_succ, List.length_cons, List.length_nil, List.take_succ_cons, List.take_zero, Nat.mul_one, Nat.zero_add, Nat.add_zero, Nat.one_mul, Nat.zero_mul, List.getElem?_map, List.getElem?_drop, List.getElem?_take, List.length_map, Option.map_some, List.set_cons_zero, List.set_cons_succ, and_true, true_and, List.flatMap_cons, List.flatMap_nil, Bool.not_not, repA_one]
    refine wpa_bl (α := Nat) (I := fun k ε σ => (ε 0 = aInts2 xss ∧ ε 7 = .v (.int .i64 k) ∧ ε 5 = .ms 0 0 0 xss.length 1 ∧ ε 6 = .v (.int .i64 (maxL ((ranks xss).take k)))) ∧ k ≤ xss.length ∧ ∃ ks, memoOk (fun _ => 1) xss ks ∧ σ = [.obj 0 (ks.map aInt)])
      (μ := fun k => xss.length - k) (Q := fun ε _ => ε 6 = .v (.int .i64 (maxL (ranks xss)))) (x := 0) ?_ ?_ ?_
    · simp (maxSteps := 1000000) (implicitDefEqProofs := false) (disch := omega) only [push_cast, ↓reduceIte, Nat.reduceEqDiff, reduceCtorEq, decide_true, decide_false, Bool.not_true, Bool.not_false, Option.isNone_some, Option.isNone_none, List.drop_zero, List.drop_succ_cons, List.getElem?_cons_zero, List.getElem?_cons_succ, List.length_cons, List.length_nil, List.take_succ_cons, List.take_zero, Nat.mul_one, Nat.zero_add, Nat.add_zero, Nat.one_mul, Nat.zero_mul, List.getElem?_map, List.getElem?_drop, List.getElem?_take, List.length_map, Option.map_some, List.set_cons_zero, List.set_cons_succ, and_true, true_and, List.flatMap_cons, List.flatMap_nil, Bool.not_not]
      refine ⟨⟨rfl, rfl⟩, by omega, List.replicate xss.length 0, ⟨by simp, fun j hj => .inl (by simp [List.getD_eq_getElem?_getD, hj])⟩, ?_⟩
      simp [aInt]
    · rintro k ε σ N E ⟨hρ, hk, ks, hks, rfl⟩ hN hE
      simp only [S_forebayref31_Longest_L1]
      by_cases hlt : k < xss.length
      · simp (maxSteps := 1000000) (implicitDefEqProofs := false) (disch := omega) only [push_cast, ↓reduceIte, Nat.reduceEqDiff, reduceCtorEq, decide_true, decide_false, Bool.not_true, Bool.not_false, Option.isNone_some, Option.isNone_none, List.drop_zero, List.drop_succ_cons, List.getElem?_cons_zero, List.getElem?_cons_succ, List.length_cons, List.length_nil, List.take_succ_cons, List.take_zero, Nat.mul_one, Nat.zero_add, Nat.add_zero, Nat.one_mul, Nat.zero_mul, List.getElem?_map, List.getElem?_drop, List.getElem?_take, List.length_map, Option.map_some, List.set_cons_zero, List.set_cons_succ, and_true, true_and, List.flatMap_cons, List.flatMap_nil, Bool.not_not, hρ, aInts2, aSl]
        refine wpa_callG (ref31_row_a xss hl hs2 hok k hlt 0 0 _ ks hks rfl) ?_
        rintro a σ' ⟨rfl, ks', hks', rfl⟩
        simp (maxSteps := 1000000) (implicitDefEqProofs := false) (disch := omega) only [push_cast, ↓reduceIte, Nat.reduceEqDiff, reduceCtorEq, decide_true, decide_false, Bool.not_true, Bool.not_false, Option.isNone_some, Option.isNone_none, List.drop_zero, List.drop_succ_cons, List.getElem?_cons_zero, List.getElem?_cons_succ, List.length_cons, List.length_nil, List.take_succ_cons, List.take_zero, Nat.mul_one, Nat.zero_add, Nat.add_zero, Nat.one_mul, Nat.zero_mul, List.getElem?_map, List.getElem?_drop, List.getElem?_take, List.length_map, Option.map_some, List.set_cons_zero, List.set_cons_succ, and_true, true_and, List.flatMap_cons, List.flatMap_nil, Bool.not_not, hρ, aInt]
        refine hN (k + 1) _ _ ?_ (by omega)
        simp (maxSteps := 1000000) (implicitDefEqProofs := false) (disch := omega) only [push_cast, ↓reduceIte, Nat.reduceEqDiff, reduceCtorEq, decide_true, decide_false, Bool.not_true, Bool.not_false, Option.isNone_some, Option.isNone_none, List.drop_zero, List.drop_succ_cons, List.getElem?_cons_zero, List.getElem?_cons_succ, List.length_cons, List.length_nil, List.take_succ_cons, List.take_zero, Nat.mul_one, Nat.zero_add, Nat.add_zero, Nat.one_mul, Nat.zero_mul, List.getElem?_map, List.getElem?_drop, List.getElem?_take, List.length_map, Option.map_some, List.set_cons_zero, List.set_cons_succ, and_true, true_and, List.flatMap_cons, List.flatMap_nil, Bool.not_not, hρ]
        obtain ⟨r, hr⟩ := at_lt (l := ranks xss) (k := k) (by rw [ranks, rkF_len]; exact hlt)
        refine ⟨?_, by omega, ks', hks', rfl⟩
        rw [take_succ_at hr, maxL_snoc, List.getD_eq_getElem?_getD, hr] <;> rfl
      · simp (maxSteps := 1000000) (implicitDefEqProofs := false) (disch := omega) only [push_cast, ↓reduceIte, Nat.reduceEqDiff, reduceCtorEq, decide_true, decide_false, Bool.not_true, Bool.not_false, Option.isNone_some, Option.isNone_none, List.drop_zero, List.drop_succ_cons, List.getElem?_cons_zero, List.getElem?_cons_succ, List.length_cons, List.length_nil, List.take_succ_cons, List.take_zero, Nat.mul_one, Nat.zero_add, Nat.add_zero, Nat.one_mul, Nat.zero_mul, List.getElem?_map, List.getElem?_drop, List.getElem?_take, List.length_map, Option.map_some, List.set_cons_zero, List.set_cons_succ, and_true, true_and, List.flatMap_cons, List.flatMap_nil, Bool.not_not, hρ, aInts2, aSl]
        refine hE _ _ ?_
        simp (maxSteps := 1000000) (implicitDefEqProofs := false) (disch := omega) only [push_cast, ↓reduceIte, Nat.reduceEqDiff, reduceCtorEq, decide_true, decide_false, Bool.not_true, Bool.not_false, Option.isNone_some, Option.isNone_none, List.drop_zero, List.drop_succ_cons, List.getElem?_cons_zero, List.getElem?_cons_succ, List.length_cons, List.length_nil, List.take_succ_cons, List.take_zero, Nat.mul_one, Nat.zero_add, Nat.add_zero, Nat.one_mul, Nat.zero_mul, List.getElem?_map, List.getElem?_drop, List.getElem?_take, List.length_map, Option.map_some, List.set_cons_zero, List.set_cons_succ, and_true, true_and, List.flatMap_cons, List.flatMap_nil, Bool.not_not, hρ]
        rw [List.take_of_length_le (by rw [ranks, rkF_len]; omega)]
    · rintro ε σ hρ
      simp (maxSteps := 1000000) (implicitDefEqProofs := false) (disch := omega) only [push_cast, ↓reduceIte, Nat.reduceEqDiff, reduceCtorEq, decide_true, decide_false, Bool.not_true, Bool.not_false, Option.isNone_some, Option.isNone_none, List.drop_zero, List.drop_succ_cons, List.getElem?_cons_zero, List.getElem?_cons_succ, List.length_cons, List.length_nil, List.take_succ_cons, List.take_zero, Nat.mul_one, Nat.zero_add, Nat.add_zero, Nat.one_mul, Nat.zero_mul, List.getElem?_map, List.getElem?_drop, List.getElem?_take, List.length_map, Option.map_some, List.set_cons_zero, List.set_cons_succ, and_true, true_and, List.flatMap_cons, List.flatMap_nil, Bool.not_not, hρ]
      exact fin_vv rfl
  · simp (maxSteps := 1000000) (implicitDefEqProofs := false) (disch := omega) only [push_cast, ↓reduceIte, Nat.reduceEqDiff, reduceCtorEq, decide_true, decide_false, Bool.not_true, Bool.not_false, Option.isNone_some, Option.isNone_none, List.drop_zero, List.drop_succ_cons, List.getElem?_cons_zero, List.getElem?_cons_succ, List.length_cons, List.length_nil, List.take_succ_cons, List.take_zero, Nat.mul_one, Nat.zero_add, Nat.add_zero, Nat.one_mul, Nat.zero_mul, List.getElem?_map, List.getElem?_drop, List.getElem?_take, List.length_map, Option.map_some, List.set_cons_zero, List.set_cons_succ, and_true, true_and, List.flatMap_cons, List.flatMap_nil, Bool.not_not, aInt, hc]
    exact fin_vv rfl
end Go.Proofs.Ytilofhocodbknaa
