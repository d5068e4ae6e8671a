/- Contracts on annotated values: slices.Concat; strand.builder's strand, top, pop; strand.fits. -/
import Derived.Test.YtilofhocodbknaaStc
namespace Go.Proofs.Ytilofhocodbknaa
set_option linter.unusedVariables false
set_option linter.unusedSimpArgs false
open Go Go.Kx Go.Proofs

theorem app_ms_flat (xs ys : List Int) : (xs.map aInt).take (xs.length * 1) ++ ys.map aInt = (xs ++ ys).map aInt := by
  rw [List.take_of_length_le (by simp), List.map_append]
set_option maxHeartbeats 1000000 in
theorem concat_a (ls : List (List Int)) (h0 : 0 < ls.flatten.length) (hn : ls.flatten.length ≤ 1000000) (hl : ls.length ≤ 1000000) : FnP Try.prog 116 [aInts2 ls] fun a => a = aInts ls.flatten := by
  refine fnP_in K_slices_Concat_int_int mixed rfl (by simp [AV.pureL, aInts2_pure]) ?_
  simp only [S_slices_Concat_int_int]
  have hsum : ∀ k, (ls.take k).flatten.length ≤ ls.flatten.length := by
    intro k
    conv => rhs; rw [← List.take_append_drop k ls]
    rw [List.flatten_append, List.length_append]; omega
  have hone : ∀ k (r : List Int), ls[k]? = some r → (ls.take (k + 1)).flatten = (ls.take k).flatten ++ r := by
    intro k r hr
    rw [take_succ_at hr]; simp
  simp (maxSteps := 1000000) (implicitDefEqProofs := false) (disch := omega) only [push_cast, ↓reduceIte, Nat.reduceEqDiff, reduceCtorEq, decide_true, decide_false, Bool.not_true, Bool.not_false, Option.isNone_some, Option.isNone_none, List.drop_zero, List.drop_succ_cons, List.getElem?_cons_zero, List.getElem?_cons_succ, List.length_cons, List.length_nil, List.take_succ_cons, List.take_zero, Nat.mul_one, Nat.zero_add, Nat.add_zero, Nat.one_mul, Nat.zero_mul, List.getElem?_map, List.getElem?_drop, List.getElem?_take, List.length_map, Option.map_some, List.set_cons_zero, List.set_cons_succ, and_true, true_and, List.flatMap_cons, List.flatMap_nil, Bool.not_not, aInts2, aSl]
  refine wpa_bl (α := Nat) (I := fun k ε σ => (ε 0 = aInts2 ls ∧ ε 3 = .v (.int .i64 ((ls.take k).flatten.length : Nat)) ∧ ε 9 = .sl ls.length (ls.map aInts) .none ∧ ε 10 = .v (.int .i64 ls.length) ∧ ε 11 = .v (.int .i64 k)) ∧ k ≤ ls.length ∧ σ = [])
    (μ := fun k => ls.length - k) (Q := fun ε σ => (ε 0 = aInts2 ls ∧ ε 3 = .v (.int .i64 (ls.flatten.length : Nat))) ∧ σ = []) (x := 0) ?_ ?_ ?_
  · simp (maxSteps := 1000000) (implicitDefEqProofs := false) (disch := omega) only [push_cast, ↓reduceIte, Nat.reduceEqDiff, reduceCtorEq, decide_true, decide_false, Bool.not_true, Bool.not_false, Option.isNone_some, Option.isNone_none, List.drop_zero, List.drop_succ_cons, List.getElem?_cons_zero, List.getElem?_cons_succ, List.length_cons, List.length_nil, List.take_succ_cons, List.take_zero, Nat.mul_one, Nat.zero_add, Nat.add_zero, Nat.one_mul, Nat.zero_mul, List.getElem?_map, List.getElem?_drop, List.getElem?_take, List.length_map, Option.map_some, List.set_cons_zero, List.set_cons_succ, and_true, true_and, List.flatMap_cons, List.flatMap_nil, Bool.not_not]
    exact ⟨⟨rfl, rfl⟩, by omega⟩
  · rintro k ε σ N E ⟨hρ, hk, rfl⟩ hN hE
    simp only [S_slices_Concat_int_int_L1]
    by_cases hlt : k < ls.length
    · obtain ⟨r, hr⟩ := at_lt hlt
      have h1 := hone k r hr
      have h2 := hsum (k + 1)
      rw [h1, List.length_append] at h2
      have h3 : ¬ ((((ls.take k).flatten.length : Nat) : Int) + (r.length : Int) < 0) := by omega
      have hN1 := hN (k + 1)
      rw [h1, List.length_append] at hN1
      generalize (ls.take k).flatten.length = s at hρ h2 h3 hN1
      simp (maxSteps := 1000000) (implicitDefEqProofs := false) (disch := omega) only [push_cast, ↓reduceIte, Nat.reduceEqDiff, reduceCtorEq, decide_true, decide_false, Bool.not_true, Bool.not_false, Option.isNone_some, Option.isNone_none, List.drop_zero, List.drop_succ_cons, List.getElem?_cons_zero, List.getElem?_cons_succ, List.length_cons, List.length_nil, List.take_succ_cons, List.take_zero, Nat.mul_one, Nat.zero_add, Nat.add_zero, Nat.one_mul, Nat.zero_mul, List.getElem?_map, List.getElem?_drop, List.getElem?_take, List.length_map, Option.map_some, List.set_cons_zero, List.set_cons_succ, and_true, true_and, List.flatMap_cons, List.flatMap_nil, Bool.not_not, hρ, hr, aInts, aSl, h3]
      refine hN1 _ _ ?_ (by omega)
      simp (maxSteps := 1000000) (implicitDefEqProofs := false) (disch := omega) only [push_cast, ↓reduceIte, Nat.reduceEqDiff, reduceCtorEq, decide_true, decide_false, Bool.not_true, Bool.not_false, Option.isNone_some, Option.isNone_none, List.drop_zero, List.drop_succ_cons, List.getElem?_cons_zero, List.getElem?_cons_succ, List.length_cons, List.length_nil, List.take_succ_cons, List.take_zero, Nat.mul_one, Nat.zero_add, Nat.add_zero, Nat.one_mul, Nat.zero_mul, List.getElem?_map, List.getElem?_drop, List.getElem?_take, List.length_map, Option.map_some, List.set_cons_zero, List.set_cons_succ, and_true, true_and, List.flatMap_cons, List.flatMap_nil, Bool.not_not, hρ]
      omega
    · simp (maxSteps := 1000000) (implicitDefEqProofs := false) (disch := omega) only [push_cast, ↓reduceIte, Nat.reduceEqDiff, reduceCtorEq, decide_true, decide_false, Bool.not_true, Bool.not_false, Option.isNone_some, Option.isNone_none, List.drop_zero, List.drop_succ_cons, List.getElem?_cons_zero, List.getElem?_cons_succ, List.length_cons, List.length_nil, List.take_succ_cons, List.take_zero, Nat.mul_one, Nat.zero_add, Nat.add_zero, Nat.one_mul, Nat.zero_mul, List.getElem?_map, List.getElem?_drop, List.getElem?_take, List.length_map, Option.map_some, List.set_cons_zero, List.set_cons_succ, and_true, true_and, List.flatMap_cons, List.flatMap_nil, Bool.not_not, hρ]
      refine hE _ _ ?_
      rw [List.take_of_length_le (by omega)] at hρ
      simp (maxSteps := 1000000) (implicitDefEqProofs := false) (disch := omega) only [push_cast, ↓reduceIte, Nat.reduceEqDiff, reduceCtorEq, decide_true, decide_false, Bool.not_true, Bool.not_false, Option.isNone_some, Option.isNone_none, List.drop_zero, List.drop_succ_cons, List.getElem?_cons_zero, List.getElem?_cons_succ, List.length_cons, List.length_nil, List.take_succ_cons, List.take_zero, Nat.mul_one, Nat.zero_add, Nat.add_zero, Nat.one_mul, Nat.zero_mul, List.getElem?_map, List.getElem?_drop, List.getElem?_take, List.length_map, Option.map_some, List.set_cons_zero, List.set_cons_succ, and_true, true_and, List.flatMap_cons, List.flatMap_nil, Bool.not_not, hρ]
  · rintro ε σ ⟨hρ, rfl⟩
    simp (maxSteps := 1000000) (implicitDefEqProofs := false) (disch := omega) only [push_cast, ↓reduceIte, Nat.reduceEqDiff, reduceCtorEq, decide_true, decide_false, Bool.not_true, Bool.not_false, Option.isNone_some, Option.isNone_none, List.drop_zero, List.drop_succ_cons, List.getElem?_cons_zero, List.getElem?_cons_succ, List.length_cons, List.length_nil, List.take_succ_cons, List.take_zero, Nat.mul_one, Nat.zero_add, Nat.add_zero, Nat.one_mul, Nat.zero_mul, List.getElem?_map, List.getElem?_drop, List.getElem?_take, List.length_map, Option.map_some, List.set_cons_zero, List.set_cons_succ, and_true, true_and, List.flatMap_cons, List.flatMap_nil, Bool.not_not, hρ]
    refine wpa_callG (grow_a ls.flatten.length [] h0 hn) ?_
    rintro a σ ⟨rfl, rfl⟩
    simp (maxSteps := 1000000) (implicitDefEqProofs := false) (disch := omega) only [push_cast, ↓reduceIte, Nat.reduceEqDiff, reduceCtorEq, decide_true, decide_false, Bool.not_true, Bool.not_false, Option.isNone_some, Option.isNone_none, List.drop_zero, List.drop_succ_cons, List.getElem?_cons_zero, List.getElem?_cons_succ, List.length_cons, List.length_nil, List.take_succ_cons, List.take_zero, Nat.mul_one, Nat.zero_add, Nat.add_zero, Nat.one_mul, Nat.zero_mul, List.getElem?_map, List.getElem?_drop, List.getElem?_take, List.length_map, Option.map_some, List.set_cons_zero, List.set_cons_succ, and_true, true_and, List.flatMap_cons, List.flatMap_nil, Bool.not_not, hρ, aInts2, aSl]
    refine wpa_bl (α := Nat) (I := fun k ε σ => (ε 25 = .sl ls.length (ls.map aInts) .none ∧ ε 26 = .v (.int .i64 ls.length) ∧ ε 27 = .v (.int .i64 k)) ∧ k ≤ ls.length ∧ ∃ w, ε 6 = .ms 0 w 0 (ls.take k).flatten.length 1 ∧ σ[0]? = some (.obj w ((ls.take k).flatten.map aInt)))
      (μ := fun k => ls.length - k) (Q := fun ε σ => ∃ w, ε 6 = .ms 0 w 0 ls.flatten.length 1 ∧ σ[0]? = some (.obj w (ls.flatten.map aInt))) (x := 0) ?_ ?_ ?_
    · simp (maxSteps := 1000000) (implicitDefEqProofs := false) (disch := omega) only [push_cast, ↓reduceIte, Nat.reduceEqDiff, reduceCtorEq, decide_true, decide_false, Bool.not_true, Bool.not_false, Option.isNone_some, Option.isNone_none, List.drop_zero, List.drop_succ_cons, List.getElem?_cons_zero, List.getElem?_cons_succ, List.length_cons, List.length_nil, List.take_succ_cons, List.take_zero, Nat.mul_one, Nat.zero_add, Nat.add_zero, Nat.one_mul, Nat.zero_mul, List.getElem?_map, List.getElem?_drop, List.getElem?_take, List.length_map, Option.map_some, List.set_cons_zero, List.set_cons_succ, and_true, true_and, List.flatMap_cons, List.flatMap_nil, Bool.not_not]
      exact ⟨by omega, 0, rfl, rfl⟩
    · clear hρ ε
      rintro k ε σ N E ⟨hρ, hk, w, h6, hs⟩ hN hE
      simp only [S_slices_Concat_int_int_L2]
      by_cases hlt : k < ls.length
      · obtain ⟨r, hr⟩ := at_lt hlt
        have h1 := hone k r hr
        have h2 := hsum (k + 1)
        rw [h1, List.length_append] at h2
        have hN1 := hN (k + 1)
        rw [h1] at hN1
        generalize (ls.take k).flatten = s at hs h6 h2 hN1
        simp (maxSteps := 1000000) (implicitDefEqProofs := false) (disch := omega) only [push_cast, ↓reduceIte, Nat.reduceEqDiff, reduceCtorEq, decide_true, decide_false, Bool.not_true, Bool.not_false, Option.isNone_some, Option.isNone_none, List.drop_zero, List.drop_succ_cons, List.getElem?_cons_zero, List.getElem?_cons_succ, List.length_cons, List.length_nil, List.take_succ_cons, List.take_zero, Nat.mul_one, Nat.zero_add, Nat.add_zero, Nat.one_mul, Nat.zero_mul, List.getElem?_map, List.getElem?_drop, List.getElem?_take, List.length_map, Option.map_some, List.set_cons_zero, List.set_cons_succ, and_true, true_and, List.flatMap_cons, List.flatMap_nil, Bool.not_not, hρ, hr, h6, aInts, aSl]
        refine wpa_app_ms (m := r.length) rfl rfl (by simp) (by rw [List.all_map]; exact List.all_eq_true.2 fun x _ => rfl) (by simp) (by omega) (by omega) hs ?_
        simp (maxSteps := 1000000) (implicitDefEqProofs := false) (disch := omega) only [push_cast, ↓reduceIte, Nat.reduceEqDiff, reduceCtorEq, decide_true, decide_false, Bool.not_true, Bool.not_false, Option.isNone_some, Option.isNone_none, List.drop_zero, List.drop_succ_cons, List.getElem?_cons_zero, List.getElem?_cons_succ, List.length_cons, List.length_nil, List.take_succ_cons, List.take_zero, Nat.mul_one, Nat.zero_add, Nat.add_zero, Nat.one_mul, Nat.zero_mul, List.getElem?_map, List.getElem?_drop, List.getElem?_take, List.length_map, Option.map_some, List.set_cons_zero, List.set_cons_succ, and_true, true_and, List.flatMap_cons, List.flatMap_nil, Bool.not_not, hρ]
        refine hN1 _ _ ?_ (by omega)
        simp (maxSteps := 1000000) (implicitDefEqProofs := false) (disch := omega) only [push_cast, ↓reduceIte, Nat.reduceEqDiff, reduceCtorEq, decide_true, decide_false, Bool.not_true, Bool.not_false, Option.isNone_some, Option.isNone_none, List.drop_zero, List.drop_succ_cons, List.getElem?_cons_zero, List.getElem?_cons_succ, List.length_cons, List.length_nil, List.take_succ_cons, List.take_zero, Nat.mul_one, Nat.zero_add, Nat.add_zero, Nat.one_mul, Nat.zero_mul, List.getElem?_map, List.getElem?_drop, List.getElem?_take, List.length_map, Option.map_some, List.set_cons_zero, List.set_cons_succ, and_true, true_and, List.flatMap_cons, List.flatMap_nil, Bool.not_not, hρ]
        refine ⟨by omega, w + 1, by rw [List.length_append], ?_⟩
        rw [get_set_eq hs]
        have := app_ms_flat s r
        rw [Nat.mul_one] at this
        rw [this]
      · simp (maxSteps := 1000000) (implicitDefEqProofs := false) (disch := omega) only [push_cast, ↓reduceIte, Nat.reduceEqDiff, reduceCtorEq, decide_true, decide_false, Bool.not_true, Bool.not_false, Option.isNone_some, Option.isNone_none, List.drop_zero, List.drop_succ_cons, List.getElem?_cons_zero, List.getElem?_cons_succ, List.length_cons, List.length_nil, List.take_succ_cons, List.take_zero, Nat.mul_one, Nat.zero_add, Nat.add_zero, Nat.one_mul, Nat.zero_mul, List.getElem?_map, List.getElem?_drop, List.getElem?_take, List.length_map, Option.map_some, List.set_cons_zero, List.set_cons_succ, and_true, true_and, List.flatMap_cons, List.flatMap_nil, Bool.not_not, hρ]
        refine hE _ _ ⟨w, ?_⟩
        rw [List.take_of_length_le (by omega)] at hs h6
        simp (maxSteps := 1000000) (implicitDefEqProofs := false) (disch := omega) only [push_cast, ↓reduceIte, Nat.reduceEqDiff, reduceCtorEq, decide_true, decide_false, Bool.not_true, Bool.not_false, Option.isNone_some, Option.isNone_none, List.drop_zero, List.drop_succ_cons, List.getElem?_cons_zero, List.getElem?_cons_succ, List.length_cons, List.length_nil, List.take_succ_cons, List.take_zero, Nat.mul_one, Nat.zero_add, Nat.add_zero, Nat.one_mul, Nat.zero_mul, List.getElem?_map, List.getElem?_drop, List.getElem?_take, List.length_map, Option.map_some, List.set_cons_zero, List.set_cons_succ, and_true, true_and, List.flatMap_cons, List.flatMap_nil, Bool.not_not, h6]
        exact hs
    · rintro ε σ ⟨w, h6, hs⟩
      simp (maxSteps := 1000000) (implicitDefEqProofs := false) (disch := omega) only [push_cast, ↓reduceIte, Nat.reduceEqDiff, reduceCtorEq, decide_true, decide_false, Bool.not_true, Bool.not_false, Option.isNone_some, Option.isNone_none, List.drop_zero, List.drop_succ_cons, List.getElem?_cons_zero, List.getElem?_cons_succ, List.length_cons, List.length_nil, List.take_succ_cons, List.take_zero, Nat.mul_one, Nat.zero_add, Nat.add_zero, Nat.one_mul, Nat.zero_mul, List.getElem?_map, List.getElem?_drop, List.getElem?_take, List.length_map, Option.map_some, List.set_cons_zero, List.set_cons_succ, and_true, true_and, List.flatMap_cons, List.flatMap_nil, Bool.not_not, h6]
      have hr : AV.resL σ (ls.flatten.map aInt) = ls.flatten.map aInt := by
        rw [resL_map, List.map_map]
        exact List.map_congr_left fun x _ => by simp [aInt, AV.res]
      refine fin_res [0] ?_ (aInts_pure _)
      rw [freeze_one hs hr, res_ms (get_set_eq hs) (by rw [List.length_map, Nat.mul_one])]
      rfl

/-! ### The builder -/
theorem aholds_lde {d : Nat} {n : Option Nat} {x : Operand} {ε : AEnv} {σ : St} (h : ldA n (evA ε x) σ = some (ε d) ∧ (ε d).exact = true) : SItem.aholds ⟨some d, none, .ld n x⟩ ε σ := .inl ⟨trivial, ε d, h.1, h.2, fun e he' => by cases he'; rfl⟩
theorem BR.stp {S : Role → Prop} {σ σ' : St} {lab lab' : Nat → Role} {ib il vl : Nat} {B : Bd} {is : List Nat} (h : BR σ lab ib il vl B is) (k : Stp S σ lab σ' lab') (hS : ∀ r, S r → r = (0, 0)) : BR σ' lab' ib il vl B is := by
  obtain ⟨⟨t, h1⟩, h2, h3, h5⟩ := h
  obtain ⟨a, b⟩ := k.get h1.obj (fun e => by have := hS _ e; rw [h1.li] at this; cases this)
  refine ⟨⟨t, a, b.trans h1.li, h1.p.stp k (fun e => absurd (hS _ e) (by simp)), h1.n.stp k (fun e => absurd (hS _ e) (by simp)), h1.a.stp k (fun e => absurd (hS _ e) (by simp))⟩, h2.stp k (fun e => absurd (hS _ e) (by simp)), h3.stp k fun q d hq _ e => ?_, h5.stp k fun e => absurd (hS _ e) (by simp)⟩
  have := congrArg Prod.fst (hS _ e)
  simp only at this
  omega
def isB (r : Role) : Prop := r.2 = 0 ∧ 1 ≤ r.1 ∧ r.1 ≤ 5 ∧ r.1 ≠ 2
def Bd.begin (B : Bd) (n : Nd) (ps : List Int) : Int × Bd := if B.preds.length = 1000 then (0, { B with full := true }) else ((B.preds.length : Int), { B with preds := B.preds ++ [ps], nodes := B.nodes ++ [n] })
theorem bdC_0 (B : Bd) (t : Tb) (ms : AV) : (bdC B t ms)[0]? = some (.sl B.preds.length (B.preds.map aInts) t.p) := rfl
theorem bdC_1 (B : Bd) (t : Tb) (ms : AV) : (bdC B t ms)[1]? = some (.sl B.nodes.length (B.nodes.flatMap aNd) t.n) := rfl
theorem bdC_2 (B : Bd) (t : Tb) (ms : AV) : (bdC B t ms)[2]? = some (.sl B.accs.length (B.accs.flatMap aAc) t.a) := rfl
theorem bdC_3 (B : Bd) (t : Tb) (ms : AV) : (bdC B t ms)[3]? = some ms := rfl
theorem bdC_4 (B : Bd) (t : Tb) (ms : AV) : (bdC B t ms)[4]? = some (.v (.bool B.full)) := rfl
theorem BdAt.preds {σ σ1 : St} {lab lab1 : Nat → Role} {ib : Nat} {B : Bd} {t : Tb} {ms : AV} {t1 : Tok} (h : BdAt σ lab ib B t ms) (k : Stp (· = (3, 0)) σ lab σ1 lab1) (ps : List Int) (ht : TokOk σ1 lab1 (3, 0) t1 (B.preds.length + 1) 1) :
    BdAt (σ1.set ib (.obj 0 (bdC { B with preds := B.preds ++ [ps] } { t with p := t1 } ms))) lab1 ib { B with preds := B.preds ++ [ps] } { t with p := t1 } ms ∧
      Stp isB σ lab (σ1.set ib (.obj 0 (bdC { B with preds := B.preds ++ [ps] } { t with p := t1 } ms))) lab1 := by
  obtain ⟨a, b⟩ := k.get h.obj (by rw [h.li]; simp)
  have hl := b.trans h.li
  have k2 := stp_set (σ := σ1) (x := .obj 0 (bdC { B with preds := B.preds ++ [ps] } { t with p := t1 } ms)) hl
  refine ⟨⟨get_set_eq a, hl, ?_, (h.n.stp k (by simp)).stp k2 (by simp), (h.a.stp k (by simp)).stp k2 (by simp)⟩, k.trans k2 (fun r e => by subst e; simp [isB]) (fun r e => by subst e; simp [isB])⟩
  have := ht.stp k2 (by simp)
  rw [show ({ B with preds := B.preds ++ [ps] } : Bd).preds.length = B.preds.length + 1 by simp]
  exact this
theorem BdAt.nodes {σ σ1 : St} {lab lab1 : Nat → Role} {ib : Nat} {B : Bd} {t : Tb} {ms : AV} {t1 : Tok} (h : BdAt σ lab ib B t ms) (k : Stp (· = (4, 0)) σ lab σ1 lab1) (n : Nd) (ht : TokOk σ1 lab1 (4, 0) t1 (B.nodes.length + 1) 3) :
    BdAt (σ1.set ib (.obj 0 (bdC { B with nodes := B.nodes ++ [n] } { t with n := t1 } ms))) lab1 ib { B with nodes := B.nodes ++ [n] } { t with n := t1 } ms ∧
      Stp isB σ lab (σ1.set ib (.obj 0 (bdC { B with nodes := B.nodes ++ [n] } { t with n := t1 } ms))) lab1 := by
  obtain ⟨a, b⟩ := k.get h.obj (by rw [h.li]; simp)
  have hl := b.trans h.li
  have k2 := stp_set (σ := σ1) (x := .obj 0 (bdC { B with nodes := B.nodes ++ [n] } { t with n := t1 } ms)) hl
  refine ⟨⟨get_set_eq a, hl, (h.p.stp k (by simp)).stp k2 (by simp), ?_, (h.a.stp k (by simp)).stp k2 (by simp)⟩, k.trans k2 (fun r e => by subst e; simp [isB]) (fun r e => by subst e; simp [isB])⟩
  have := ht.stp k2 (by simp)
  rw [show ({ B with nodes := B.nodes ++ [n] } : Bd).nodes.length = B.nodes.length + 1 by simp]
  exact this
theorem BdAt.accs {σ σ1 : St} {lab lab1 : Nat → Role} {ib : Nat} {B : Bd} {t : Tb} {ms : AV} {t1 : Tok} (h : BdAt σ lab ib B t ms) (k : Stp (· = (5, 0)) σ lab σ1 lab1) (c : Ac) (ht : TokOk σ1 lab1 (5, 0) t1 (B.accs.length + 1) 3) :
    BdAt (σ1.set ib (.obj 0 (bdC { B with accs := B.accs ++ [c] } { t with a := t1 } ms))) lab1 ib { B with accs := B.accs ++ [c] } { t with a := t1 } ms ∧
      Stp isB σ lab (σ1.set ib (.obj 0 (bdC { B with accs := B.accs ++ [c] } { t with a := t1 } ms))) lab1 := by
  obtain ⟨a, b⟩ := k.get h.obj (by rw [h.li]; simp)
  have hl := b.trans h.li
  have k2 := stp_set (σ := σ1) (x := .obj 0 (bdC { B with accs := B.accs ++ [c] } { t with a := t1 } ms)) hl
  refine ⟨⟨get_set_eq a, hl, (h.p.stp k (by simp)).stp k2 (by simp), (h.n.stp k (by simp)).stp k2 (by simp), ?_⟩, k.trans k2 (fun r e => by subst e; simp [isB]) (fun r e => by subst e; simp [isB])⟩
  have := ht.stp k2 (by simp)
  rw [show ({ B with accs := B.accs ++ [c] } : Bd).accs.length = B.accs.length + 1 by simp]
  exact this
/-- Whatever else the builder says: as it was held. -/
theorem BdAt.put {σ : St} {lab : Nat → Role} {ib : Nat} {B B' : Bd} {t : Tb} {ms ms' : AV} (h : BdAt σ lab ib B t ms) (hp : B'.preds = B.preds) (hn : B'.nodes = B.nodes) (ha : B'.accs = B.accs) :
    BdAt (σ.set ib (.obj 0 (bdC B' t ms'))) lab ib B' t ms' ∧ Stp (· = (1, 0)) σ lab (σ.set ib (.obj 0 (bdC B' t ms'))) lab := by
  have k2 := stp_set (σ := σ) (x := .obj 0 (bdC B' t ms')) h.li
  exact ⟨⟨get_set_eq h.obj, h.li, by rw [hp]; exact h.p.stp k2 (by simp), by rw [hn]; exact h.n.stp k2 (by simp), by rw [ha]; exact h.a.stp k2 (by simp)⟩, k2⟩
theorem isB_frs {σ σ' : St} {lab lab' : Nat → Role} {is : List Nat} {fs : List Fr} (h : Frs σ lab is fs) (k : Stp isB σ lab σ' lab') : Frs σ' lab' is fs :=
  h.stp k fun q d hq _ e => by have := e.2.2.1; simp only at this; omega
set_option maxHeartbeats 1000000 in
theorem strand_g {σ : St} {lab : Nat → Role} {ib : Nat} {B : Bd} {t0 : Tb} {ms : AV} (H : BdAt σ lab ib B t0 ms) (hp : B.preds.length ≤ 1000) (hn : B.nodes.length = B.preds.length) (n : Nd) (ps : List Int) :
    FnG Try.prog 102 [.ref ib 0 0, .agg (aNd n), aInts ps] σ fun a σ' => a = aInt (B.begin n ps).1 ∧ ∃ lab' t', BdAt σ' lab' ib (B.begin n ps).2 t' ms ∧ Stp isB σ lab σ' lab' := by
  refine fnG_in K_strand_builder_strand mixed rfl ?_
  simp only [S_strand_builder_strand]
  simp (maxSteps := 1000000) (implicitDefEqProofs := false) (disch := omega) only [push_cast, ↓reduceIte, Nat.reduceEqDiff, reduceCtorEq, decide_true, decide_false, Bool.not_true, Bool.not_false, Option.isNone_some, Option.isNone_none, List.drop_zero, List.drop_succ_cons, List.getElem?_cons_zero, List.getElem?_cons_succ, List.length_cons, List.length_nil, List.take_succ_cons, List.take_zero, Nat.mul_one, Nat.zero_add, Nat.add_zero, Nat.one_mul, Nat.zero_mul, List.getElem?_map, List.getElem?_drop, List.getElem?_take, List.length_map, Option.map_some, List.set_cons_zero, List.set_cons_succ, and_true, true_and, List.flatMap_cons, List.flatMap_nil, Bool.not_not]
  refine wpa_box ?_
  have k0 : Stp isB σ lab (σ ++ [.obj 0 (AV.cells (.agg (aNd n)))]) (labN σ lab (0, 0)) := stp_new (0, 0)
  have H0 := H.stp (stp_new (S := fun _ => False) (x := .obj 0 (AV.cells (.agg (aNd n)))) (0, 0)) fun _ _ h => h
  have hbx : (σ ++ [Res.obj 0 (AV.cells (.agg (aNd n)))])[σ.length]? = some (.obj 0 (aNd n)) := at_snoc _ _
  have hlx : labN σ lab (0, 0) σ.length = (0, 0) := labN_self _ _ _
  generalize σ ++ [Res.obj 0 (AV.cells (.agg (aNd n)))] = σ0 at k0 H0 hbx ⊢
  generalize labN σ lab (0, 0) = lab0 at k0 H0 hlx
  generalize σ.length = bx at hbx hlx
  obtain ⟨t, h1⟩ : ∃ t, BdAt σ0 lab0 ib B t ms := ⟨t0, H0⟩
  have ho := h1.obj
  by_cases h1000 : B.preds.length = 1000
  · have hb : B.begin n ps = (0, { B with full := true }) := if_pos h1000
    rw [hb]
    have h1000' : ((B.preds.length : Nat) : Int) = 1000 := by omega
    simp (maxSteps := 1000000) (implicitDefEqProofs := false) (disch := omega) only [push_cast, ↓reduceIte, Nat.reduceEqDiff, reduceCtorEq, decide_true, decide_false, Bool.not_true, Bool.not_false, Option.isNone_some, Option.isNone_none, List.drop_zero, List.drop_succ_cons, List.getElem?_cons_zero, List.getElem?_cons_succ, List.length_cons, List.length_nil, List.take_succ_cons, List.take_zero, Nat.mul_one, Nat.zero_add, Nat.add_zero, Nat.one_mul, Nat.zero_mul, List.getElem?_map, List.getElem?_drop, List.getElem?_take, List.length_map, Option.map_some, List.set_cons_zero, List.set_cons_succ, and_true, true_and, List.flatMap_cons, List.flatMap_nil, Bool.not_not, ho, bdC_0, h1000']
    refine wpa_st1 rfl rfl ho (by simp [bdC]) ?_
    obtain ⟨m1, m2⟩ := h1.put (B' := { B with full := true }) (ms' := ms) rfl rfl rfl
    have e1 : (bdC B t ms).set 4 (.v (.bool true)) = bdC { B with full := true } t ms := rfl
    rw [e1]
    simp (maxSteps := 1000000) (implicitDefEqProofs := false) (disch := omega) only [push_cast, ↓reduceIte, Nat.reduceEqDiff, reduceCtorEq, decide_true, decide_false, Bool.not_true, Bool.not_false, Option.isNone_some, Option.isNone_none, List.drop_zero, List.drop_succ_cons, List.getElem?_cons_zero, List.getElem?_cons_succ, List.length_cons, List.length_nil, List.take_succ_cons, List.take_zero, Nat.mul_one, Nat.zero_add, Nat.add_zero, Nat.one_mul, Nat.zero_mul, List.getElem?_map, List.getElem?_drop, List.getElem?_take, List.length_map, Option.map_some, List.set_cons_zero, List.set_cons_succ, and_true, true_and, List.flatMap_cons, List.flatMap_nil, Bool.not_not]
    refine ⟨rfl, lab0, t, m1, k0.trans m2 (fun _ h => h) fun r e => by subst e; simp [isB]⟩
  · have hb : B.begin n ps = ((B.preds.length : Int), { B with preds := B.preds ++ [ps], nodes := B.nodes ++ [n] }) := if_neg h1000
    rw [hb]
    have h1000' : ¬ ((B.preds.length : Int) = 1000) := by omega
    simp (maxSteps := 1000000) (implicitDefEqProofs := false) (disch := omega) only [push_cast, ↓reduceIte, Nat.reduceEqDiff, reduceCtorEq, decide_true, decide_false, Bool.not_true, Bool.not_false, Option.isNone_some, Option.isNone_none, List.drop_zero, List.drop_succ_cons, List.getElem?_cons_zero, List.getElem?_cons_succ, List.length_cons, List.length_nil, List.take_succ_cons, List.take_zero, Nat.mul_one, Nat.zero_add, Nat.add_zero, Nat.one_mul, Nat.zero_mul, List.getElem?_map, List.getElem?_drop, List.getElem?_take, List.length_map, Option.map_some, List.set_cons_zero, List.set_cons_succ, and_true, true_and, List.flatMap_cons, List.flatMap_nil, Bool.not_not, ho, bdC_0, h1000']
    refine wpa_bsl (sz := 1) (by intro a ha; simp at ha; subst ha; rfl) (by simp) ?_
    simp (maxSteps := 1000000) (implicitDefEqProofs := false) (disch := omega) only [push_cast, ↓reduceIte, Nat.reduceEqDiff, reduceCtorEq, decide_true, decide_false, Bool.not_true, Bool.not_false, Option.isNone_some, Option.isNone_none, List.drop_zero, List.drop_succ_cons, List.getElem?_cons_zero, List.getElem?_cons_succ, List.length_cons, List.length_nil, List.take_succ_cons, List.take_zero, Nat.mul_one, Nat.zero_add, Nat.add_zero, Nat.one_mul, Nat.zero_mul, List.getElem?_map, List.getElem?_drop, List.getElem?_take, List.length_map, Option.map_some, List.set_cons_zero, List.set_cons_succ, and_true, true_and, List.flatMap_cons, List.flatMap_nil, Bool.not_not]
    refine wpa_app_t (m := 1) rfl h1.p rfl rfl rfl (by simp) (by omega) (by omega) ?_
    intro σ1 lab1 t1 k1 ht1
    have ho1 := (k1.get ho (by rw [h1.li]; simp)).1
    obtain ⟨m1, m2⟩ := h1.preds k1 ps ht1
    simp (maxSteps := 1000000) (implicitDefEqProofs := false) (disch := omega) only [push_cast, ↓reduceIte, Nat.reduceEqDiff, reduceCtorEq, decide_true, decide_false, Bool.not_true, Bool.not_false, Option.isNone_some, Option.isNone_none, List.drop_zero, List.drop_succ_cons, List.getElem?_cons_zero, List.getElem?_cons_succ, List.length_cons, List.length_nil, List.take_succ_cons, List.take_zero, Nat.mul_one, Nat.zero_add, Nat.add_zero, Nat.one_mul, Nat.zero_mul, List.getElem?_map, List.getElem?_drop, List.getElem?_take, List.length_map, Option.map_some, List.set_cons_zero, List.set_cons_succ, and_true, true_and, List.flatMap_cons, List.flatMap_nil, Bool.not_not]
    refine wpa_st1 rfl rfl ho1 (by simp [bdC]) ?_
    have e1 : (bdC B t ms).set 0 (.sl (B.preds.length + 1) (B.preds.map aInts ++ ((aInts ps).cells ++ [])) t1) = bdC { B with preds := B.preds ++ [ps] } { t with p := t1 } ms := by
      have e2 : B.preds.map aInts ++ ((aInts ps).cells ++ []) = (B.preds ++ [ps]).map aInts := by simp [aInts, aSl, AV.cells]
      rw [e2]
      simp [bdC]
    rw [e1]
    have hbx1 := m2.get hbx (by rw [hlx]; simp [isB])
    have k3 := k0.trans m2 (U := isB) (fun _ h => h) fun _ h => h
    generalize σ1.set ib (.obj 0 (bdC { B with preds := B.preds ++ [ps] } { t with p := t1 } ms)) = σ2 at m1 m2 hbx1 k3 ⊢
    obtain ⟨hbx1, hlx1⟩ := hbx1
    clear e1 ho1 ho k1 ht1 h1 m2 k0 hbx
    have ho2 := m1.obj
    have hcl : ∀ n, cellsA (some 3) (aNd n) = some (.agg (aNd n)) := fun _ => rfl
    simp (maxSteps := 1000000) (implicitDefEqProofs := false) (disch := omega) only [push_cast, ↓reduceIte, Nat.reduceEqDiff, reduceCtorEq, decide_true, decide_false, Bool.not_true, Bool.not_false, Option.isNone_some, Option.isNone_none, List.drop_zero, List.drop_succ_cons, List.getElem?_cons_zero, List.getElem?_cons_succ, List.length_cons, List.length_nil, List.take_succ_cons, List.take_zero, Nat.mul_one, Nat.zero_add, Nat.add_zero, Nat.one_mul, Nat.zero_mul, List.getElem?_map, List.getElem?_drop, List.getElem?_take, List.length_map, Option.map_some, List.set_cons_zero, List.set_cons_succ, and_true, true_and, List.flatMap_cons, List.flatMap_nil, Bool.not_not, ho2, bdC_1, hbx1, hcl]
    refine wpa_bsl (sz := 3) (by intro a ha; simp at ha; subst ha; rfl) (by simp) ?_
    have hac : (AV.agg (aNd n)).cells = aNd n := rfl
    simp (maxSteps := 1000000) (implicitDefEqProofs := false) (disch := omega) only [push_cast, ↓reduceIte, Nat.reduceEqDiff, reduceCtorEq, decide_true, decide_false, Bool.not_true, Bool.not_false, Option.isNone_some, Option.isNone_none, List.drop_zero, List.drop_succ_cons, List.getElem?_cons_zero, List.getElem?_cons_succ, List.length_cons, List.length_nil, List.take_succ_cons, List.take_zero, Nat.mul_one, Nat.zero_add, Nat.add_zero, Nat.one_mul, Nat.zero_mul, List.getElem?_map, List.getElem?_drop, List.getElem?_take, List.length_map, Option.map_some, List.set_cons_zero, List.set_cons_succ, and_true, true_and, List.flatMap_cons, List.flatMap_nil, Bool.not_not, ho2, bdC_1, hac]
    refine ⟨aholds_lde (by simp (maxSteps := 1000000) (implicitDefEqProofs := false) (disch := omega) only [push_cast, ↓reduceIte, Nat.reduceEqDiff, reduceCtorEq, decide_true, decide_false, Bool.not_true, Bool.not_false, Option.isNone_some, Option.isNone_none, List.drop_zero, List.drop_succ_cons, List.getElem?_cons_zero, List.getElem?_cons_succ, List.length_cons, List.length_nil, List.take_succ_cons, List.take_zero, Nat.mul_one, Nat.zero_add, Nat.add_zero, Nat.one_mul, Nat.zero_mul, List.getElem?_map, List.getElem?_drop, List.getElem?_take, List.length_map, Option.map_some, List.set_cons_zero, List.set_cons_succ, and_true, true_and, List.flatMap_cons, List.flatMap_nil, Bool.not_not, ho2, bdC_1, m1.n.exact]), ?_⟩
    refine wpa_app_t (m := 1) rfl m1.n rfl rfl rfl (flat_len aNd_len _) (by omega) (by omega) ?_
    intro σ3 lab3 t3 k5 ht5
    have ho3 := (k5.get ho2 (by rw [m1.li]; simp)).1
    obtain ⟨n1, n2⟩ := m1.nodes k5 n ht5
    simp (maxSteps := 1000000) (implicitDefEqProofs := false) (disch := omega) only [push_cast, ↓reduceIte, Nat.reduceEqDiff, reduceCtorEq, decide_true, decide_false, Bool.not_true, Bool.not_false, Option.isNone_some, Option.isNone_none, List.drop_zero, List.drop_succ_cons, List.getElem?_cons_zero, List.getElem?_cons_succ, List.length_cons, List.length_nil, List.take_succ_cons, List.take_zero, Nat.mul_one, Nat.zero_add, Nat.add_zero, Nat.one_mul, Nat.zero_mul, List.getElem?_map, List.getElem?_drop, List.getElem?_take, List.length_map, Option.map_some, List.set_cons_zero, List.set_cons_succ, and_true, true_and, List.flatMap_cons, List.flatMap_nil, Bool.not_not]
    refine wpa_st1 rfl rfl ho3 (by simp [bdC]) ?_
    have e3 : (bdC { B with preds := B.preds ++ [ps] } { t with p := t1 } ms).set 1 (.sl (B.nodes.length + 1) (B.nodes.flatMap aNd ++ (aNd n ++ [])) t3) = bdC { B with preds := B.preds ++ [ps], nodes := B.nodes ++ [n] } { t with p := t1, n := t3 } ms := by
      have e2 : B.nodes.flatMap aNd ++ (aNd n ++ []) = (B.nodes ++ [n]).flatMap aNd := by simp
      rw [e2]
      simp [bdC]
    rw [e3]
    have k4 := k3.trans n2 (U := isB) (fun _ h => h) fun _ h => h
    generalize σ3.set ib (.obj 0 (bdC { B with preds := B.preds ++ [ps], nodes := B.nodes ++ [n] } { t with p := t1, n := t3 } ms)) = σ4 at n1 n2 k4 ⊢
    have ho4 := n1.obj
    simp (maxSteps := 1000000) (implicitDefEqProofs := false) (disch := omega) only [push_cast, ↓reduceIte, Nat.reduceEqDiff, reduceCtorEq, decide_true, decide_false, Bool.not_true, Bool.not_false, Option.isNone_some, Option.isNone_none, List.drop_zero, List.drop_succ_cons, List.getElem?_cons_zero, List.getElem?_cons_succ, List.length_cons, List.length_nil, List.take_succ_cons, List.take_zero, Nat.mul_one, Nat.zero_add, Nat.add_zero, Nat.one_mul, Nat.zero_mul, List.getElem?_map, List.getElem?_drop, List.getElem?_take, List.length_map, Option.map_some, List.set_cons_zero, List.set_cons_succ, and_true, true_and, List.flatMap_cons, List.flatMap_nil, Bool.not_not, ho4, bdC_0]
    refine ⟨?_, lab3, _, n1, k4⟩
    simp [aInt]
    rw [IntKind.wrap_i64]; omega
theorem begin_fs (B : Bd) (n : Nd) (ps : List Int) : (B.begin n ps).2.fs = B.fs := by unfold Bd.begin; split <;> rfl
theorem strand_a {σ : St} {lab : Nat → Role} {ib il vl : Nat} {B : Bd} {is : List Nat} (H : BR σ lab ib il vl B is) (hp : B.preds.length ≤ 1000) (hn : B.nodes.length = B.preds.length) (n : Nd) (ps : List Int) :
    FnG Try.prog 102 [.ref ib 0 0, .agg (aNd n), aInts ps] σ fun a σ' => a = aInt (B.begin n ps).1 ∧ ∃ lab', BR σ' lab' ib il vl (B.begin n ps).2 is ∧ Stp isB σ lab σ' lab' := by
  obtain ⟨⟨t, h1⟩, h2, h3, h5⟩ := H
  refine (strand_g h1 hp hn n ps).mono ?_
  rintro a σ' ⟨rfl, lab', t', h4, k⟩
  exact ⟨rfl, lab', ⟨⟨t', h4⟩, h2.stp k (by simp [isB]), by rw [begin_fs]; exact isB_frs h3 k, h5.stp k (by simp [isB])⟩, k⟩
theorem isB_10 : isB (1, 0) := ⟨rfl, by decide, by decide, by decide⟩
theorem top_a {σ : St} {lab : Nat → Role} {ib il vl i : Nat} {B : Bd} {is : List Nat} (H : BR σ lab ib il vl B (i :: is)) (hb : is.length ≤ 1000000) :
    FnG Try.prog 103 [.ref ib 0 0] σ fun a σ' => a = .ref i 0 0 ∧ σ' = σ := by
  refine fnG_in K_strand_builder_top mixed rfl ?_
  simp only [S_strand_builder_top]
  obtain ⟨⟨t, h1⟩, h2, h3, h5⟩ := H
  have ho := h1.obj
  obtain ⟨cells, hc, ht⟩ := h2.top
  have e1 : ((is.length : Int) + 1 - 1).toNat = is.length := by omega
  have e2 : (i :: is).length = is.length + 1 := rfl
  rw [e2] at ho
  simp (maxSteps := 1000000) (implicitDefEqProofs := false) (disch := omega) only [push_cast, ↓reduceIte, Nat.reduceEqDiff, reduceCtorEq, decide_true, decide_false, Bool.not_true, Bool.not_false, Option.isNone_some, Option.isNone_none, List.drop_zero, List.drop_succ_cons, List.getElem?_cons_zero, List.getElem?_cons_succ, List.length_cons, List.length_nil, List.take_succ_cons, List.take_zero, Nat.mul_one, Nat.zero_add, Nat.add_zero, Nat.one_mul, Nat.zero_mul, List.getElem?_map, List.getElem?_drop, List.getElem?_take, List.length_map, Option.map_some, List.set_cons_zero, List.set_cons_succ, and_true, true_and, List.flatMap_cons, List.flatMap_nil, Bool.not_not, ho, bdC_3, hc, ht, e1]
  exact True.intro
theorem pop_a {σ : St} {lab : Nat → Role} {ib il vl i : Nat} {B : Bd} {is : List Nat} (H : BR σ lab ib il vl B (i :: is)) (hb : is.length ≤ 1000000) {F : Fr} {fs : List Fr} (hF : B.fs = F :: fs) :
    FnG Try.prog 115 [.ref ib 0 0] σ fun a σ' => a = .ref i 0 0 ∧ BR σ' lab ib il vl { B with fs := fs } is ∧ Stp (· = (1, 0)) σ lab σ' lab := by
  refine fnG_in K_strand_builder_pop mixed rfl ?_
  simp only [S_strand_builder_pop]
  simp (maxSteps := 1000000) (implicitDefEqProofs := false) (disch := omega) only [push_cast, ↓reduceIte, Nat.reduceEqDiff, reduceCtorEq, decide_true, decide_false, Bool.not_true, Bool.not_false, Option.isNone_some, Option.isNone_none, List.drop_zero, List.drop_succ_cons, List.getElem?_cons_zero, List.getElem?_cons_succ, List.length_cons, List.length_nil, List.take_succ_cons, List.take_zero, Nat.mul_one, Nat.zero_add, Nat.add_zero, Nat.one_mul, Nat.zero_mul, List.getElem?_map, List.getElem?_drop, List.getElem?_take, List.length_map, Option.map_some, List.set_cons_zero, List.set_cons_succ, and_true, true_and, List.flatMap_cons, List.flatMap_nil, Bool.not_not]
  refine wpa_callG (top_a H hb) ?_
  rintro a _ ⟨rfl, rfl⟩
  obtain ⟨⟨t, h1⟩, h2, h3, h5⟩ := H
  have ho := h1.obj
  have e1 : ((is.length : Int) + 1 - 1).toNat = is.length := by omega
  have e2 : (i :: is).length = is.length + 1 := rfl
  rw [e2] at ho
  obtain ⟨m1, m2⟩ := h1.put (B' := { B with fs := fs }) (ms' := .ms il vl 0 is.length 1) rfl rfl rfl
  simp (maxSteps := 1000000) (implicitDefEqProofs := false) (disch := omega) only [push_cast, ↓reduceIte, Nat.reduceEqDiff, reduceCtorEq, decide_true, decide_false, Bool.not_true, Bool.not_false, Option.isNone_some, Option.isNone_none, List.drop_zero, List.drop_succ_cons, List.getElem?_cons_zero, List.getElem?_cons_succ, List.length_cons, List.length_nil, List.take_succ_cons, List.take_zero, Nat.mul_one, Nat.zero_add, Nat.add_zero, Nat.one_mul, Nat.zero_mul, List.getElem?_map, List.getElem?_drop, List.getElem?_take, List.length_map, Option.map_some, List.set_cons_zero, List.set_cons_succ, and_true, true_and, List.flatMap_cons, List.flatMap_nil, Bool.not_not, ho, bdC_3, e1]
  refine wpa_st1 rfl rfl ho (by simp [bdC]) ?_
  have e3 : (bdC B t (.ms il vl 0 (is.length + 1) 1)).set 3 (.ms il vl 0 is.length 1) = bdC { B with fs := fs } t (.ms il vl 0 is.length 1) := rfl
  rw [e3]
  simp (maxSteps := 1000000) (implicitDefEqProofs := false) (disch := omega) only [push_cast, ↓reduceIte, Nat.reduceEqDiff, reduceCtorEq, decide_true, decide_false, Bool.not_true, Bool.not_false, Option.isNone_some, Option.isNone_none, List.drop_zero, List.drop_succ_cons, List.getElem?_cons_zero, List.getElem?_cons_succ, List.length_cons, List.length_nil, List.take_succ_cons, List.take_zero, Nat.mul_one, Nat.zero_add, Nat.add_zero, Nat.one_mul, Nat.zero_mul, List.getElem?_map, List.getElem?_drop, List.getElem?_take, List.length_map, Option.map_some, List.set_cons_zero, List.set_cons_succ, and_true, true_and, List.flatMap_cons, List.flatMap_nil, Bool.not_not]
  rw [hF] at h3
  exact ⟨⟨⟨t, m1⟩, h2.pop.stp m2 (by simp), isB_frs h3.2 (m2.mono fun r e => by subst e; exact isB_10), h5.stp m2 (by simp)⟩, m2⟩
end Go.Proofs.Ytilofhocodbknaa
