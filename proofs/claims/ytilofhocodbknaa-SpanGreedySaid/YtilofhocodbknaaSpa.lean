/- Contracts on annotated values: span.right, Weights, Work. -/
import Derived.Test.YtilofhocodbknaaRxl
import Derived.Test.YtilofhocodbknaaVk
import Derived.Test.YtilofhocodbknaaCSpan
namespace Go.Proofs.Ytilofhocodbknaa
set_option linter.unusedVariables false
set_option linter.unusedSimpArgs false
open Go Go.Kx Go.Proofs

@[push_cast] theorem app_nil2 {α : Type} (l : List α) : [] ++ l = l := rfl
@[push_cast] theorem app_cons2 {α : Type} (a : α) (k l : List α) : a :: k ++ l = a :: (k ++ l) := rfl

@[push_cast] theorem cellsA_3 (a b c : AV) (l : List AV) : cellsA (some 3) (a :: b :: c :: l) = some (.agg [a, b, c]) := by rw [cellsA_n _ _ (by simp)]; rfl

structure Acc where
  s : Int
  w : Int
  wr : Bool
def aAcc (a : Acc) : List AV := [.v (.int .i64 a.s), .v (.int .i64 a.w), .v (.bool a.wr)]
def aAccs (l : List Acc) : AV := aSlN aAcc l
theorem aAcc_res (σ : St) (a : Acc) : AV.resL σ (aAcc a) = aAcc a := by simp [aAcc, AV.resL, AV.res]
theorem aAcc_pure (a : Acc) : AV.pureL (aAcc a) = true := by simp [aAcc, AV.pureL, AV.pure]
theorem aAccs_res (σ : St) (l : List Acc) (t : Tok) : (AV.sl l.length (l.flatMap aAcc) t).res σ = aAccs l := aSlN_res (aAcc_res σ) l t
theorem aAccs_pure (l : List Acc) : (aAccs l).pure = true := aSlN_pure aAcc_pure l
theorem aAcc_len (l : List Acc) : (l.flatMap aAcc).length = l.length * 3 := by
  induction l with
  | nil => rfl
  | cons a l ih => simp only [List.flatMap_cons, List.length_append, ih, List.length_cons, Nat.succ_mul]; simp [aAcc]; omega
theorem aAcc_drop {l : List Acc} : ∀ {k : Nat} {a : Acc}, l[k]? = some a → (l.flatMap aAcc).drop (k * 3) = aAcc a ++ (l.drop (k + 1)).flatMap aAcc := by
  induction l with
  | nil => intro k a h; simp at h
  | cons b l ih =>
    intro k a h
    cases k with
    | zero => simp at h; subst h; simp
    | succ k =>
      have := ih (k := k) (a := a) (by simpa using h)
      have e : (k + 1) * 3 = 3 + k * 3 := by omega
      rw [e, List.flatMap_cons, ← List.drop_drop]
      have e2 : (aAcc b ++ l.flatMap aAcc).drop 3 = l.flatMap aAcc := by simp [aAcc]
      rw [e2, this]
      simp
def aDag (xss : List (List Int)) (l : List Acc) : AV := .agg [aInts2 xss, .sl 0 [] .none, aAccs l]
theorem aDag_pure (xss : List (List Int)) (l : List Acc) : (aDag xss l).pure = true := by simp [aDag, AV.pure, AV.pureL, aInts2_pure, aAccs_pure]

theorem span_right_a (xss : List (List Int)) (hs : xss.length ≤ 1000000) (hs2 : ∀ l ∈ xss, l.length ≤ 1000000) : FnP Try.prog 98 [aInts2 xss] fun a => a = aInt (chk xss) := by
  refine fnP_in K_span_right mixed rfl (by simp [AV.pureL, aInts2_pure]) ?_
  simp only [S_span_right]
  simp (maxSteps := 1000000) (implicitDefEqProofs := false) (disch := omega) only [push_cast, ↓reduceIte, Nat.reduceEqDiff, reduceCtorEq, decide_true, decide_false, Bool.not_true, Bool.not_false, Option.isNone_some, Option.isNone_none, List.drop_zero, List.drop_succ_cons, List.getElem?_cons_zero, List.getElem?_cons_succ, List.length_cons, List.length_nil, List.take_succ_cons, List.take_zero, Nat.mul_one, Nat.zero_add, Nat.add_zero, Nat.one_mul, Nat.zero_mul, List.getElem?_map, List.getElem?_drop, List.getElem?_take, List.length_map, Option.map_some, List.set_cons_zero, List.set_cons_succ, and_true, true_and, List.flatMap_cons, List.flatMap_nil, Bool.not_not]
  refine wpa_call (reach_Longest_a xss hs hs2) ?_
  rintro a rfl
  by_cases hc : chk xss = 0
  · simp (maxSteps := 1000000) (implicitDefEqProofs := false) (disch := omega) only [push_cast, ↓reduceIte, Nat.reduceEqDiff, reduceCtorEq, decide_true, decide_false, Bool.not_true, Bool.not_false, Option.isNone_some, Option.isNone_none, List.drop_zero, List.drop_succ_cons, List.getElem?_cons_zero, List.getElem?_cons_succ, List.length_cons, List.length_nil, List.take_succ_cons, List.take_zero, Nat.mul_one, Nat.zero_add, Nat.add_zero, Nat.one_mul, Nat.zero_mul, List.getElem?_map, List.getElem?_drop, List.getElem?_take, List.length_map, Option.map_some, List.set_cons_zero, List.set_cons_succ, and_true, true_and, List.flatMap_cons, List.flatMap_nil, Bool.not_not, hc]
    exact fin_res [] (by simp [aInt, AV.res]) (aInt_pure _)
  · simp (maxSteps := 1000000) (implicitDefEqProofs := false) (disch := omega) only [push_cast, ↓reduceIte, Nat.reduceEqDiff, reduceCtorEq, decide_true, decide_false, Bool.not_true, Bool.not_false, Option.isNone_some, Option.isNone_none, List.drop_zero, List.drop_succ_cons, List.getElem?_cons_zero, List.getElem?_cons_succ, List.length_cons, List.length_nil, List.take_succ_cons, List.take_zero, Nat.mul_one, Nat.zero_add, Nat.add_zero, Nat.one_mul, Nat.zero_mul, List.getElem?_map, List.getElem?_drop, List.getElem?_take, List.length_map, Option.map_some, List.set_cons_zero, List.set_cons_succ, and_true, true_and, List.flatMap_cons, List.flatMap_nil, Bool.not_not, hc]
    exact fin_res [] (by simp [aInt, AV.res]) (aInt_pure _)

/-- How much each strand is. -/
def wtL (n : Nat) (l : List Acc) : List Int := (List.range n).map fun i : Nat => 1 + ((l.countP fun a => decide (a.s = (i : Int))) : Int)
theorem wtL_len (n : Nat) (l : List Acc) : (wtL n l).length = n := by simp [wtL]
theorem wtL_get {n : Nat} {l : List Acc} {i : Nat} (h : i < n) : (wtL n l)[i]? = some (1 + ((l.countP fun a => decide (a.s = (i : Int))) : Int)) := by simp [wtL, h]
theorem wtL_nil (n : Nat) : wtL n [] = List.replicate n 1 := by
  apply List.ext_getElem?
  intro j
  by_cases hj : j < n
  · rw [wtL_get hj]; simp [hj]
  · rw [List.getElem?_eq_none (by rw [wtL_len]; omega), List.getElem?_eq_none (by simp; omega)]
theorem wtL_set {n : Nat} {l : List Acc} {a : Acc} {i : Nat} {x : Int} (ha : a.s = (i : Int)) (hx : (wtL n l)[i]? = some x) : (wtL n l).set i (x + 1) = wtL n (l ++ [a]) := by
  have hi : i < n := by have := (List.getElem?_eq_some_iff.1 hx).1; rwa [wtL_len] at this
  apply List.ext_getElem?
  intro j
  by_cases hj : j < n
  · rw [wtL_get hj, List.getElem?_set, List.countP_append]
    by_cases hij : i = j
    · subst hij
      rw [wtL_get hi] at hx
      cases hx
      simp [wtL_len, hi, ha]
      omega
    · have h2 : ¬ a.s = (j : Int) := by omega
      rw [if_neg hij, wtL_get hj]
      simp [h2]
  · rw [List.getElem?_eq_none (by simp [wtL_len]; omega), List.getElem?_eq_none (by simp [wtL_len]; omega)]
theorem wtL_bd {n : Nat} {l : List Acc} {i : Nat} {x : Int} (hx : (wtL n l)[i]? = some x) : 1 ≤ x ∧ x ≤ (l.length : Int) + 1 := by
  have hi : i < n := by have := (List.getElem?_eq_some_iff.1 hx).1; rwa [wtL_len] at this
  rw [wtL_get hi] at hx
  cases hx
  have : l.countP (fun a => decide (a.s = (i : Int))) ≤ l.length := List.countP_le_length
  omega
def accIn (n : Nat) (a : Acc) : Bool := decide (0 ≤ a.s) && decide (a.s < (n : Int))
/-- What is wrong with strands. -/
def wchk (xss : List (List Int)) (l : List Acc) : Int := if chk xss = 0 then (if l.all (accIn xss.length) then 0 else 3) else chk xss
/-- How much strands are, as it comes back. -/
def wsE (xss : List (List Int)) (l : List Acc) : List Int := if wchk xss l = 0 then wtL xss.length l else []
def wtG (xss : List (List Int)) (l : List Acc) (a : AV) (σ : St) : Prop :=
  (wchk xss l = 0 ∧ a = .tup [.ms 1 0 0 xss.length 1, aInt 0] ∧ ∃ o τ, σ = o :: .obj 0 ((wtL xss.length l).map aInt) :: τ) ∨ (wchk xss l ≠ 0 ∧ a = .tup [.sl 0 [] .nil, aInt (wchk xss l)])
theorem wtR_bad {xss : List (List Int)} {l : List Acc} {k : Nat} {a : Acc} (hc : chk xss = 0) (ha : l[k]? = some a) (hb : ¬ (0 ≤ a.s ∧ a.s < (xss.length : Int))) : wchk xss l = 3 := by
  unfold wchk
  rw [if_pos hc, if_neg]
  rw [List.all_eq_true]
  intro h
  have := h a (List.mem_of_getElem? ha)
  simp [accIn] at this
  omega

set_option maxHeartbeats 2000000 in
theorem span_Weights_g (xss : List (List Int)) (l : List Acc) (hs : xss.length ≤ 1000000) (hs2 : ∀ l ∈ xss, l.length ≤ 1000000) (hl : l.length ≤ 1000000) : FnG Try.prog 68 [aDag xss l] [] (wtG xss l) := by
  refine fnG_in K_span_Weights mixed rfl ?_
  simp only [S_span_Weights, aDag]
  simp (maxSteps := 1000000) (implicitDefEqProofs := false) (disch := omega) only [push_cast, ↓reduceIte, Nat.reduceEqDiff, reduceCtorEq, decide_true, decide_false, Bool.not_true, Bool.not_false, Option.isNone_some, Option.isNone_none, List.drop_zero, List.drop_succ_cons, List.getElem?_cons_zero, List.getElem?_cons_succ, List.length_cons, List.length_nil, List.take_succ_cons, List.take_zero, Nat.mul_one, Nat.zero_add, Nat.add_zero, Nat.one_mul, Nat.zero_mul, List.getElem?_map, List.getElem?_drop, List.getElem?_take, List.length_map, Option.map_some, List.set_cons_zero, List.set_cons_succ, and_true, true_and, List.flatMap_cons, List.flatMap_nil, Bool.not_not]
  refine wpa_box ?_
  simp (maxSteps := 1000000) (implicitDefEqProofs := false) (disch := omega) only [push_cast, ↓reduceIte, Nat.reduceEqDiff, reduceCtorEq, decide_true, decide_false, Bool.not_true, Bool.not_false, Option.isNone_some, Option.isNone_none, List.drop_zero, List.drop_succ_cons, List.getElem?_cons_zero, List.getElem?_cons_succ, List.length_cons, List.length_nil, List.take_succ_cons, List.take_zero, Nat.mul_one, Nat.zero_add, Nat.add_zero, Nat.one_mul, Nat.zero_mul, List.getElem?_map, List.getElem?_drop, List.getElem?_take, List.length_map, Option.map_some, List.set_cons_zero, List.set_cons_succ, and_true, true_and, List.flatMap_cons, List.flatMap_nil, Bool.not_not]
  refine wpa_call (span_right_a xss hs hs2) ?_
  rintro a rfl
  by_cases hc : chk xss = 0
  · obtain ⟨hk, hok⟩ := chk_zero hc
    simp (maxSteps := 1000000) (implicitDefEqProofs := false) (disch := omega) only [push_cast, ↓reduceIte, Nat.reduceEqDiff, reduceCtorEq, decide_true, decide_false, Bool.not_true, Bool.not_false, Option.isNone_some, Option.isNone_none, List.drop_zero, List.drop_succ_cons, List.getElem?_cons_zero, List.getElem?_cons_succ, List.length_cons, List.length_nil, List.take_succ_cons, List.take_zero, Nat.mul_one, Nat.zero_add, Nat.add_zero, Nat.one_mul, Nat.zero_mul, List.getElem?_map, List.getElem?_drop, List.getElem?_take, List.length_map, Option.map_some, List.set_cons_zero, List.set_cons_succ, and_true, true_and, List.flatMap_cons, List.flatMap_nil, Bool.not_not, aInt, hc, aInts2, aSl]
    refine wpa_mks rfl (by omega) (by omega) ?_
    simp (maxSteps := 1000000) (implicitDefEqProofs := false) (disch := omega) only [push_cast, ↓reduceIte, Nat.reduceEqDiff, reduceCtorEq, decide_true, decide_false, Bool.not_true, Bool.not_false, Option.isNone_some, Option.isNone_none, List.drop_zero, List.drop_succ_cons, List.getElem?_cons_zero, List.getElem?_cons_succ, List.length_cons, List.length_nil, List.take_succ_cons, List.take_zero, Nat.mul_one, Nat.zero_add, Nat.add_zero, Nat.one_mul, Nat.zero_mul, List.getElem?_map, List.getElem?_drop, List.getElem?_take, List.length_map, Option.map_some, List.set_cons_zero, List.set_cons_succ, and_true, true_and, List.flatMap_cons, List.flatMap_nil, Bool.not_not, repA_one]
    have e0 : ∀ k, k ≤ xss.length → (List.replicate k (AV.v (.int .i64 1)) ++ List.replicate (xss.length - k) (AV.v (.int .i64 0))).length = xss.length := by
      intro k hk; simp; omega
    refine wpa_bl (α := Nat) (I := fun k ε σ => (ε 1 = .ref 0 0 0 ∧ ε 5 = .ms 1 0 0 xss.length 1 ∧ ε 20 = .v (.int .i64 xss.length) ∧ ε 21 = .v (.int .i64 k)) ∧ k ≤ xss.length ∧
        σ = [.obj 0 [aInts2 xss, .sl 0 [] .none, aAccs l], .obj 0 (List.replicate k (AV.v (.int .i64 1)) ++ List.replicate (xss.length - k) (AV.v (.int .i64 0)))])
      (μ := fun k => xss.length - k) (Q := fun ε σ => (ε 1 = .ref 0 0 0 ∧ ε 5 = .ms 1 0 0 xss.length 1) ∧ σ = [.obj 0 [aInts2 xss, .sl 0 [] .none, aAccs l], .obj 0 ((wtL xss.length []).map aInt)]) (x := 0) ?_ ?_ ?_
    · simp (maxSteps := 1000000) (implicitDefEqProofs := false) (disch := omega) only [push_cast, ↓reduceIte, Nat.reduceEqDiff, reduceCtorEq, decide_true, decide_false, Bool.not_true, Bool.not_false, Option.isNone_some, Option.isNone_none, List.drop_zero, List.drop_succ_cons, List.getElem?_cons_zero, List.getElem?_cons_succ, List.length_cons, List.length_nil, List.take_succ_cons, List.take_zero, Nat.mul_one, Nat.zero_add, Nat.add_zero, Nat.one_mul, Nat.zero_mul, List.getElem?_map, List.getElem?_drop, List.getElem?_take, List.length_map, Option.map_some, List.set_cons_zero, List.set_cons_succ, and_true, true_and, List.flatMap_cons, List.flatMap_nil, Bool.not_not]
      exact ⟨by omega, by simp [aInts2, aSl]⟩
    · rintro k ε σ N E ⟨hρ, hk, rfl⟩ hN hE
      simp only [S_span_Weights_L1]
      by_cases hlt : k < xss.length
      · have := e0 k (by omega)
        simp (maxSteps := 1000000) (implicitDefEqProofs := false) (disch := omega) only [push_cast, ↓reduceIte, Nat.reduceEqDiff, reduceCtorEq, decide_true, decide_false, Bool.not_true, Bool.not_false, Option.isNone_some, Option.isNone_none, List.drop_zero, List.drop_succ_cons, List.getElem?_cons_zero, List.getElem?_cons_succ, List.length_cons, List.length_nil, List.take_succ_cons, List.take_zero, Nat.mul_one, Nat.zero_add, Nat.add_zero, Nat.one_mul, Nat.zero_mul, List.getElem?_map, List.getElem?_drop, List.getElem?_take, List.length_map, Option.map_some, List.set_cons_zero, List.set_cons_succ, and_true, true_and, List.flatMap_cons, List.flatMap_nil, Bool.not_not, hρ]
        refine wpa_st1 rfl rfl rfl (by rw [this]; omega) ?_
        simp (maxSteps := 1000000) (implicitDefEqProofs := false) (disch := omega) only [push_cast, ↓reduceIte, Nat.reduceEqDiff, reduceCtorEq, decide_true, decide_false, Bool.not_true, Bool.not_false, Option.isNone_some, Option.isNone_none, List.drop_zero, List.drop_succ_cons, List.getElem?_cons_zero, List.getElem?_cons_succ, List.length_cons, List.length_nil, List.take_succ_cons, List.take_zero, Nat.mul_one, Nat.zero_add, Nat.add_zero, Nat.one_mul, Nat.zero_mul, List.getElem?_map, List.getElem?_drop, List.getElem?_take, List.length_map, Option.map_some, List.set_cons_zero, List.set_cons_succ, and_true, true_and, List.flatMap_cons, List.flatMap_nil, Bool.not_not, hρ]
        refine hN (k + 1) _ _ ?_ (by omega)
        simp (maxSteps := 1000000) (implicitDefEqProofs := false) (disch := omega) only [push_cast, ↓reduceIte, Nat.reduceEqDiff, reduceCtorEq, decide_true, decide_false, Bool.not_true, Bool.not_false, Option.isNone_some, Option.isNone_none, List.drop_zero, List.drop_succ_cons, List.getElem?_cons_zero, List.getElem?_cons_succ, List.length_cons, List.length_nil, List.take_succ_cons, List.take_zero, Nat.mul_one, Nat.zero_add, Nat.add_zero, Nat.one_mul, Nat.zero_mul, List.getElem?_map, List.getElem?_drop, List.getElem?_take, List.length_map, Option.map_some, List.set_cons_zero, List.set_cons_succ, and_true, true_and, List.flatMap_cons, List.flatMap_nil, Bool.not_not, hρ]
        refine ⟨by omega, ?_⟩
        congr 3
        rw [rep_split _ _ _ hlt, set_mid (by simp), List.replicate_succ', List.append_assoc]
        rfl
      · simp (maxSteps := 1000000) (implicitDefEqProofs := false) (disch := omega) only [push_cast, ↓reduceIte, Nat.reduceEqDiff, reduceCtorEq, decide_true, decide_false, Bool.not_true, Bool.not_false, Option.isNone_some, Option.isNone_none, List.drop_zero, List.drop_succ_cons, List.getElem?_cons_zero, List.getElem?_cons_succ, List.length_cons, List.length_nil, List.take_succ_cons, List.take_zero, Nat.mul_one, Nat.zero_add, Nat.add_zero, Nat.one_mul, Nat.zero_mul, List.getElem?_map, List.getElem?_drop, List.getElem?_take, List.length_map, Option.map_some, List.set_cons_zero, List.set_cons_succ, and_true, true_and, List.flatMap_cons, List.flatMap_nil, Bool.not_not, hρ]
        refine hE _ _ ?_
        simp (maxSteps := 1000000) (implicitDefEqProofs := false) (disch := omega) only [push_cast, ↓reduceIte, Nat.reduceEqDiff, reduceCtorEq, decide_true, decide_false, Bool.not_true, Bool.not_false, Option.isNone_some, Option.isNone_none, List.drop_zero, List.drop_succ_cons, List.getElem?_cons_zero, List.getElem?_cons_succ, List.length_cons, List.length_nil, List.take_succ_cons, List.take_zero, Nat.mul_one, Nat.zero_add, Nat.add_zero, Nat.one_mul, Nat.zero_mul, List.getElem?_map, List.getElem?_drop, List.getElem?_take, List.length_map, Option.map_some, List.set_cons_zero, List.set_cons_succ, and_true, true_and, List.flatMap_cons, List.flatMap_nil, Bool.not_not, hρ]
        have : k = xss.length := by omega
        subst this
        simp [wtL_nil, aInt]
    · rintro ε σ ⟨hρ, rfl⟩
      simp (maxSteps := 1000000) (implicitDefEqProofs := false) (disch := omega) only [push_cast, ↓reduceIte, Nat.reduceEqDiff, reduceCtorEq, decide_true, decide_false, Bool.not_true, Bool.not_false, Option.isNone_some, Option.isNone_none, List.drop_zero, List.drop_succ_cons, List.getElem?_cons_zero, List.getElem?_cons_succ, List.length_cons, List.length_nil, List.take_succ_cons, List.take_zero, Nat.mul_one, Nat.zero_add, Nat.add_zero, Nat.one_mul, Nat.zero_mul, List.getElem?_map, List.getElem?_drop, List.getElem?_take, List.length_map, Option.map_some, List.set_cons_zero, List.set_cons_succ, and_true, true_and, List.flatMap_cons, List.flatMap_nil, Bool.not_not, hρ, aAccs, aSlN]
      refine wpa_bl (α := Nat) (I := fun k ε σ => (ε 5 = .ms 1 0 0 xss.length 1 ∧ ε 29 = .sl l.length (l.flatMap aAcc) .none ∧ ε 30 = .v (.int .i64 l.length) ∧ ε 31 = .v (.int .i64 k)) ∧ k ≤ l.length ∧ (l.take k).all (accIn xss.length) = true ∧
          ∃ o τ, σ = o :: .obj 0 ((wtL xss.length (l.take k)).map aInt) :: τ)
        (μ := fun k => l.length - k) (Q := fun ε σ => ε 5 = .ms 1 0 0 xss.length 1 ∧ l.all (accIn xss.length) = true ∧ ∃ o τ, σ = o :: .obj 0 ((wtL xss.length l).map aInt) :: τ) (x := 0) ?_ ?_ ?_
      · simp (maxSteps := 1000000) (implicitDefEqProofs := false) (disch := omega) only [push_cast, ↓reduceIte, Nat.reduceEqDiff, reduceCtorEq, decide_true, decide_false, Bool.not_true, Bool.not_false, Option.isNone_some, Option.isNone_none, List.drop_zero, List.drop_succ_cons, List.getElem?_cons_zero, List.getElem?_cons_succ, List.length_cons, List.length_nil, List.take_succ_cons, List.take_zero, Nat.mul_one, Nat.zero_add, Nat.add_zero, Nat.one_mul, Nat.zero_mul, List.getElem?_map, List.getElem?_drop, List.getElem?_take, List.length_map, Option.map_some, List.set_cons_zero, List.set_cons_succ, and_true, true_and, List.flatMap_cons, List.flatMap_nil, Bool.not_not, hρ]
        exact ⟨by omega, by simp, _, [], rfl⟩
      · rintro k ε σ N E ⟨hρ, hk, hall, o, τ, rfl⟩ hN hE
        simp only [S_span_Weights_L2]
        by_cases hlt : k < l.length
        · obtain ⟨a, ha⟩ := at_lt hlt
          simp (maxSteps := 1000000) (implicitDefEqProofs := false) (disch := omega) only [push_cast, ↓reduceIte, Nat.reduceEqDiff, reduceCtorEq, decide_true, decide_false, Bool.not_true, Bool.not_false, Option.isNone_some, Option.isNone_none, List.drop_zero, List.drop_succ_cons, List.getElem?_cons_zero, List.getElem?_cons_succ, List.length_cons, List.length_nil, List.take_succ_cons, List.take_zero, Nat.mul_one, Nat.zero_add, Nat.add_zero, Nat.one_mul, Nat.zero_mul, List.getElem?_map, List.getElem?_drop, List.getElem?_take, List.length_map, Option.map_some, List.set_cons_zero, List.set_cons_succ, and_true, true_and, List.flatMap_cons, List.flatMap_nil, Bool.not_not, hρ, aAcc_drop ha, aAcc, app_cons1, app_nil1]
          refine wpa_new ?_
          simp (maxSteps := 1000000) (implicitDefEqProofs := false) (disch := omega) only [push_cast, ↓reduceIte, Nat.reduceEqDiff, reduceCtorEq, decide_true, decide_false, Bool.not_true, Bool.not_false, Option.isNone_some, Option.isNone_none, List.drop_zero, List.drop_succ_cons, List.getElem?_cons_zero, List.getElem?_cons_succ, List.length_cons, List.length_nil, List.take_succ_cons, List.take_zero, Nat.mul_one, Nat.zero_add, Nat.add_zero, Nat.one_mul, Nat.zero_mul, List.getElem?_map, List.getElem?_drop, List.getElem?_take, List.length_map, Option.map_some, List.set_cons_zero, List.set_cons_succ, and_true, true_and, List.flatMap_cons, List.flatMap_nil, Bool.not_not, hρ]
          refine wpa_stn rfl rfl (by simp only [List.getElem?_cons_succ, at_snoc]; rfl) (by simp) ?_
          simp (maxSteps := 1000000) (implicitDefEqProofs := false) (disch := omega) only [push_cast, ↓reduceIte, Nat.reduceEqDiff, reduceCtorEq, decide_true, decide_false, Bool.not_true, Bool.not_false, Option.isNone_some, Option.isNone_none, List.drop_zero, List.drop_succ_cons, List.getElem?_cons_zero, List.getElem?_cons_succ, List.length_cons, List.length_nil, List.take_succ_cons, List.take_zero, Nat.mul_one, Nat.zero_add, Nat.add_zero, Nat.one_mul, Nat.zero_mul, List.getElem?_map, List.getElem?_drop, List.getElem?_take, List.length_map, Option.map_some, List.set_cons_zero, List.set_cons_succ, and_true, true_and, List.flatMap_cons, List.flatMap_nil, Bool.not_not, hρ]
          by_cases h0 : a.s < 0
          · simp (maxSteps := 1000000) (implicitDefEqProofs := false) (disch := omega) only [push_cast, ↓reduceIte, Nat.reduceEqDiff, reduceCtorEq, decide_true, decide_false, Bool.not_true, Bool.not_false, Option.isNone_some, Option.isNone_none, List.drop_zero, List.drop_succ_cons, List.getElem?_cons_zero, List.getElem?_cons_succ, List.length_cons, List.length_nil, List.take_succ_cons, List.take_zero, Nat.mul_one, Nat.zero_add, Nat.add_zero, Nat.one_mul, Nat.zero_mul, List.getElem?_map, List.getElem?_drop, List.getElem?_take, List.length_map, Option.map_some, List.set_cons_zero, List.set_cons_succ, and_true, true_and, List.flatMap_cons, List.flatMap_nil, Bool.not_not, hρ]
            exact .inr (by have := wtR_bad hc ha (by omega); simp [this, aInt])
          · obtain ⟨i, hi⟩ : ∃ i : Nat, a.s = i := ⟨a.s.toNat, by omega⟩
            by_cases h1 : i < xss.length
            · obtain ⟨x, hx⟩ := at_lt (l := wtL xss.length (l.take k)) (k := i) (by rw [wtL_len]; exact h1)
              have hb := wtL_bd hx
              have htl : (l.take k).length ≤ k := by simp; omega
              simp (maxSteps := 1000000) (implicitDefEqProofs := false) (disch := omega) only [push_cast, ↓reduceIte, Nat.reduceEqDiff, reduceCtorEq, decide_true, decide_false, Bool.not_true, Bool.not_false, Option.isNone_some, Option.isNone_none, List.drop_zero, List.drop_succ_cons, List.getElem?_cons_zero, List.getElem?_cons_succ, List.length_cons, List.length_nil, List.take_succ_cons, List.take_zero, Nat.mul_one, Nat.zero_add, Nat.add_zero, Nat.one_mul, Nat.zero_mul, List.getElem?_map, List.getElem?_drop, List.getElem?_take, List.length_map, Option.map_some, List.set_cons_zero, List.set_cons_succ, and_true, true_and, List.flatMap_cons, List.flatMap_nil, Bool.not_not, hρ, hi, hx, aInt]
              refine wpa_st1 (cs := (wtL xss.length (l.take k)).map aInt) rfl rfl rfl (by simp [wtL_len, h1]) ?_
              simp (maxSteps := 1000000) (implicitDefEqProofs := false) (disch := omega) only [push_cast, ↓reduceIte, Nat.reduceEqDiff, reduceCtorEq, decide_true, decide_false, Bool.not_true, Bool.not_false, Option.isNone_some, Option.isNone_none, List.drop_zero, List.drop_succ_cons, List.getElem?_cons_zero, List.getElem?_cons_succ, List.length_cons, List.length_nil, List.take_succ_cons, List.take_zero, Nat.mul_one, Nat.zero_add, Nat.add_zero, Nat.one_mul, Nat.zero_mul, List.getElem?_map, List.getElem?_drop, List.getElem?_take, List.length_map, Option.map_some, List.set_cons_zero, List.set_cons_succ, and_true, true_and, List.flatMap_cons, List.flatMap_nil, Bool.not_not, hρ]
              refine hN (k + 1) _ _ ?_ (by omega)
              simp (maxSteps := 1000000) (implicitDefEqProofs := false) (disch := omega) only [push_cast, ↓reduceIte, Nat.reduceEqDiff, reduceCtorEq, decide_true, decide_false, Bool.not_true, Bool.not_false, Option.isNone_some, Option.isNone_none, List.drop_zero, List.drop_succ_cons, List.getElem?_cons_zero, List.getElem?_cons_succ, List.length_cons, List.length_nil, List.take_succ_cons, List.take_zero, Nat.mul_one, Nat.zero_add, Nat.add_zero, Nat.one_mul, Nat.zero_mul, List.getElem?_map, List.getElem?_drop, List.getElem?_take, List.length_map, Option.map_some, List.set_cons_zero, List.set_cons_succ, and_true, true_and, List.flatMap_cons, List.flatMap_nil, Bool.not_not, hρ]
              refine ⟨by omega, ?_, o, ?_⟩
              · rw [take_succ_at ha, List.all_append, hall]
                simp [accIn]; omega
              · apply Exists.intro
                rw [take_succ_at ha, ← wtL_set hi hx, List.map_set]
                rfl
            · simp (maxSteps := 1000000) (implicitDefEqProofs := false) (disch := omega) only [push_cast, ↓reduceIte, Nat.reduceEqDiff, reduceCtorEq, decide_true, decide_false, Bool.not_true, Bool.not_false, Option.isNone_some, Option.isNone_none, List.drop_zero, List.drop_succ_cons, List.getElem?_cons_zero, List.getElem?_cons_succ, List.length_cons, List.length_nil, List.take_succ_cons, List.take_zero, Nat.mul_one, Nat.zero_add, Nat.add_zero, Nat.one_mul, Nat.zero_mul, List.getElem?_map, List.getElem?_drop, List.getElem?_take, List.length_map, Option.map_some, List.set_cons_zero, List.set_cons_succ, and_true, true_and, List.flatMap_cons, List.flatMap_nil, Bool.not_not, hρ, hi]
              exact .inr (by have := wtR_bad hc ha (by omega); simp [this, aInt])
        · simp (maxSteps := 1000000) (implicitDefEqProofs := false) (disch := omega) only [push_cast, ↓reduceIte, Nat.reduceEqDiff, reduceCtorEq, decide_true, decide_false, Bool.not_true, Bool.not_false, Option.isNone_some, Option.isNone_none, List.drop_zero, List.drop_succ_cons, List.getElem?_cons_zero, List.getElem?_cons_succ, List.length_cons, List.length_nil, List.take_succ_cons, List.take_zero, Nat.mul_one, Nat.zero_add, Nat.add_zero, Nat.one_mul, Nat.zero_mul, List.getElem?_map, List.getElem?_drop, List.getElem?_take, List.length_map, Option.map_some, List.set_cons_zero, List.set_cons_succ, and_true, true_and, List.flatMap_cons, List.flatMap_nil, Bool.not_not, hρ]
          refine hE _ _ ?_
          simp (maxSteps := 1000000) (implicitDefEqProofs := false) (disch := omega) only [push_cast, ↓reduceIte, Nat.reduceEqDiff, reduceCtorEq, decide_true, decide_false, Bool.not_true, Bool.not_false, Option.isNone_some, Option.isNone_none, List.drop_zero, List.drop_succ_cons, List.getElem?_cons_zero, List.getElem?_cons_succ, List.length_cons, List.length_nil, List.take_succ_cons, List.take_zero, Nat.mul_one, Nat.zero_add, Nat.add_zero, Nat.one_mul, Nat.zero_mul, List.getElem?_map, List.getElem?_drop, List.getElem?_take, List.length_map, Option.map_some, List.set_cons_zero, List.set_cons_succ, and_true, true_and, List.flatMap_cons, List.flatMap_nil, Bool.not_not, hρ]
          rw [List.take_of_length_le (by omega)] at hall ⊢
          exact ⟨hall, o, τ, rfl⟩
      · rintro ε σ ⟨hρ, hall, o, τ, rfl⟩
        simp (maxSteps := 1000000) (implicitDefEqProofs := false) (disch := omega) only [push_cast, ↓reduceIte, Nat.reduceEqDiff, reduceCtorEq, decide_true, decide_false, Bool.not_true, Bool.not_false, Option.isNone_some, Option.isNone_none, List.drop_zero, List.drop_succ_cons, List.getElem?_cons_zero, List.getElem?_cons_succ, List.length_cons, List.length_nil, List.take_succ_cons, List.take_zero, Nat.mul_one, Nat.zero_add, Nat.add_zero, Nat.one_mul, Nat.zero_mul, List.getElem?_map, List.getElem?_drop, List.getElem?_take, List.length_map, Option.map_some, List.set_cons_zero, List.set_cons_succ, and_true, true_and, List.flatMap_cons, List.flatMap_nil, Bool.not_not, hρ]
        have hw : wchk xss l = 0 := by unfold wchk; rw [if_pos hc, if_pos hall]
        exact .inl ⟨hw, rfl, o, τ, rfl⟩
  · simp (maxSteps := 1000000) (implicitDefEqProofs := false) (disch := omega) only [push_cast, ↓reduceIte, Nat.reduceEqDiff, reduceCtorEq, decide_true, decide_false, Bool.not_true, Bool.not_false, Option.isNone_some, Option.isNone_none, List.drop_zero, List.drop_succ_cons, List.getElem?_cons_zero, List.getElem?_cons_succ, List.length_cons, List.length_nil, List.take_succ_cons, List.take_zero, Nat.mul_one, Nat.zero_add, Nat.add_zero, Nat.one_mul, Nat.zero_mul, List.getElem?_map, List.getElem?_drop, List.getElem?_take, List.length_map, Option.map_some, List.set_cons_zero, List.set_cons_succ, and_true, true_and, List.flatMap_cons, List.flatMap_nil, Bool.not_not, aInt, hc]
    have : wchk xss l = chk xss := by unfold wchk; rw [if_neg hc]
    exact .inr (by rw [this]; exact ⟨hc, rfl⟩)

theorem span_Weights_a (xss : List (List Int)) (l : List Acc) (hs : xss.length ≤ 1000000) (hs2 : ∀ l ∈ xss, l.length ≤ 1000000) (hl : l.length ≤ 1000000) : FnP Try.prog 68 [aDag xss l] fun a => a = .tup [aInts (wsE xss l), aInt (wchk xss l)] := by
  refine ⟨by simp [AV.pureL, aDag_pure], ((span_Weights_g xss l hs hs2 hl).mono ?_).fz⟩
  rintro a σ (⟨hw, rfl, o, τ, rfl⟩ | ⟨hw, rfl⟩)
  · refine ⟨[1], ?_⟩
    have e : AV.res (Go.Kx.freeze [1] (o :: .obj 0 ((wtL xss.length l).map aInt) :: τ)) (.ms 1 0 0 xss.length 1) = aInts (wtL xss.length l) := by
      rw [freeze_one (i := 1) rfl (by rw [resL_map, List.map_map]; exact List.map_congr_left fun x _ => aInt_res _ x), res_ms rfl (by simp [wtL_len])]
      simp [aInts, aSl, wtL_len]
    have e2 : AV.res (Go.Kx.freeze [1] (o :: .obj 0 ((wtL xss.length l).map aInt) :: τ)) (.tup [.ms 1 0 0 xss.length 1, aInt 0]) = .tup [aInts (wtL xss.length l), aInt 0] := by
      show AV.tup [AV.res _ _, AV.res _ _] = _
      rw [e, aInt_res]
    rw [e2, hw, wsE, if_pos hw]
    exact ⟨by simp [AV.pure, AV.pureL, aInts_pure, aInt_pure], rfl⟩
  · refine ⟨[], ?_⟩
    simp only [AV.res, AV.resL, aInt_res, wsE, if_neg hw]
    exact ⟨by simp [AV.pure, AV.pureL, aInt_pure], by simp [aInts, aSl]⟩
end Go.Proofs.Ytilofhocodbknaa
