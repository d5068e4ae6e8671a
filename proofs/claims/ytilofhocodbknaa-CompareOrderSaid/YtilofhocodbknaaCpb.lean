/- Contracts on annotated values: compare.Add$1, slices.IndexFunc and ContainsFunc with it. -/
import Derived.Test.YtilofhocodbknaaCpa
namespace Go.Proofs.Ytilofhocodbknaa
set_option linter.unusedVariables false
set_option linter.unusedSimpArgs false
open Go Go.Kx Go.Proofs

theorem Add_1_a (x r : RR) (hx : okR x) (hr : okR r) : FnP Try.prog 87 [.agg (aRR x), .ep (aRR r)] fun a => a = aBool (alikeB x r) := by
  refine fnP_in K_compare_Add_1 mixed rfl (by simp [AV.pureL, AV.pure, aRR_pure]) ?_
  simp only [S_compare_Add_1]
  simp (maxSteps := 1000000) (implicitDefEqProofs := false) (disch := omega) only [push_cast, ↓reduceIte, Nat.reduceEqDiff, reduceCtorEq, decide_true, decide_false, Bool.not_true, Bool.not_false, Option.isNone_some, Option.isNone_none, List.drop_zero, List.drop_succ_cons, List.getElem?_cons_zero, List.getElem?_cons_succ, List.length_cons, List.length_nil, List.take_succ_cons, List.take_zero, Nat.mul_one, Nat.zero_add, Nat.add_zero, Nat.one_mul, Nat.zero_mul, List.getElem?_map, List.getElem?_drop, List.getElem?_take, List.length_map, Option.map_some, List.set_cons_zero, List.set_cons_succ, and_true, true_and, List.flatMap_cons, List.flatMap_nil, Bool.not_not]
  refine wpa_box ?_
  have hl : ∀ y : RR, cellsA (some 11) (aRR y) = some (.agg (aRR y)) := fun y => rfl
  have hc : ∀ y : RR, (AV.agg (aRR y)).cells = aRR y := fun y => rfl
  simp (maxSteps := 1000000) (implicitDefEqProofs := false) (disch := omega) only [push_cast, ↓reduceIte, Nat.reduceEqDiff, reduceCtorEq, decide_true, decide_false, Bool.not_true, Bool.not_false, Option.isNone_some, Option.isNone_none, List.drop_zero, List.drop_succ_cons, List.getElem?_cons_zero, List.getElem?_cons_succ, List.length_cons, List.length_nil, List.take_succ_cons, List.take_zero, Nat.mul_one, Nat.zero_add, Nat.add_zero, Nat.one_mul, Nat.zero_mul, List.getElem?_map, List.getElem?_drop, List.getElem?_take, List.length_map, Option.map_some, List.set_cons_zero, List.set_cons_succ, and_true, true_and, List.flatMap_cons, List.flatMap_nil, Bool.not_not, hc, hl]
  refine wpa_call (compare_alike_a x r hx hr) ?_
  rintro a rfl
  simp (maxSteps := 1000000) (implicitDefEqProofs := false) (disch := omega) only [push_cast, ↓reduceIte, Nat.reduceEqDiff, reduceCtorEq, decide_true, decide_false, Bool.not_true, Bool.not_false, Option.isNone_some, Option.isNone_none, List.drop_zero, List.drop_succ_cons, List.getElem?_cons_zero, List.getElem?_cons_succ, List.length_cons, List.length_nil, List.take_succ_cons, List.take_zero, Nat.mul_one, Nat.zero_add, Nat.add_zero, Nat.one_mul, Nat.zero_mul, List.getElem?_map, List.getElem?_drop, List.getElem?_take, List.length_map, Option.map_some, List.set_cons_zero, List.set_cons_succ, and_true, true_and, List.flatMap_cons, List.flatMap_nil, Bool.not_not, aBool]
  exact ⟨[], rfl⟩

theorem flat_len {α : Type} {f : α → List AV} {n : Nat} (hf : ∀ x, (f x).length = n) (l : List α) : (l.flatMap f).length = l.length * n := by
  induction l with
  | nil => simp
  | cons a l ih => simp only [List.flatMap_cons, List.length_append, ih, hf, List.length_cons, Nat.succ_mul]; omega
theorem flat_drop {α : Type} {f : α → List AV} {n : Nat} (hf : ∀ x, (f x).length = n) {l : List α} : ∀ {k : Nat} {a : α}, l[k]? = some a → (l.flatMap f).drop (k * n) = f a ++ (l.drop (k + 1)).flatMap f := by
  induction l with
  | nil => intro k a h; simp at h
  | cons b l ih =>
    intro k a h
    cases k with
    | zero => simp at h; subst h; simp
    | succ k =>
      have := ih (k := k) (a := a) (by simpa using h)
      have e : (k + 1) * n = n + k * n := by rw [Nat.succ_mul]; omega
      rw [e, List.flatMap_cons, ← List.drop_drop]
      have e2 : (f b ++ l.flatMap f).drop n = l.flatMap f := by rw [List.drop_append, List.drop_of_length_le (by rw [hf]; omega), hf]; simp
      rw [e2, this]
      simp
theorem aRR_len (r : RR) : (aRR r).length = 11 := rfl
def aRRs (l : List RR) : AV := aSlN aRR l
theorem aRRs_pure (l : List RR) : (aRRs l).pure = true := aSlN_pure aRR_pure l
theorem aRRs_res (σ : St) (l : List RR) (t : Tok) : (AV.sl l.length (l.flatMap aRR) t).res σ = aRRs l := aSlN_res (aRR_res σ) l t

set_option maxHeartbeats 1000000 in
theorem IndexFunc_a (l : List RR) (r : RR) (hl : ∀ x ∈ l, okR x) (hn : l.length ≤ 1000000) (hr : okR r) : FnP Try.prog 113 [aRRs l, .fn (.func 87) 0 [.ep (aRR r)]] fun a => ∃ i : Int, a = aInt i ∧ decide (0 ≤ i) = l.any fun x => alikeB x r := by
  refine fnP_in K_slices_IndexFunc_api_Result_api_Result mixed rfl (by simp [AV.pureL, AV.pure, aRR_pure, aRRs_pure]) ?_
  simp only [S_slices_IndexFunc_api_Result_api_Result, aRRs, aSlN]
  simp (maxSteps := 1000000) (implicitDefEqProofs := false) (disch := omega) only [push_cast, ↓reduceIte, Nat.reduceEqDiff, reduceCtorEq, decide_true, decide_false, Bool.not_true, Bool.not_false, Option.isNone_some, Option.isNone_none, List.drop_zero, List.drop_succ_cons, List.getElem?_cons_zero, List.getElem?_cons_succ, List.length_cons, List.length_nil, List.take_succ_cons, List.take_zero, Nat.mul_one, Nat.zero_add, Nat.add_zero, Nat.one_mul, Nat.zero_mul, List.getElem?_map, List.getElem?_drop, List.getElem?_take, List.length_map, Option.map_some, List.set_cons_zero, List.set_cons_succ, and_true, true_and, List.flatMap_cons, List.flatMap_nil, Bool.not_not]
  refine wpa_bl (α := Nat) (I := fun k ε _ => (ε 0 = .sl l.length (l.flatMap aRR) .none ∧ ε 1 = .fn (.func 87) 0 [.ep (aRR r)] ∧ ε 7 = .v (.int .i64 l.length) ∧ ε 8 = .v (.int .i64 k)) ∧ k ≤ l.length ∧ ((l.take k).any fun x => alikeB x r) = false)
    (μ := fun k => l.length - k) (Q := fun _ _ => (l.any fun x => alikeB x r) = false) (x := 0) ?_ ?_ ?_
  · simp (maxSteps := 1000000) (implicitDefEqProofs := false) (disch := omega) only [push_cast, ↓reduceIte, Nat.reduceEqDiff, reduceCtorEq, decide_true, decide_false, Bool.not_true, Bool.not_false, Option.isNone_some, Option.isNone_none, List.drop_zero, List.drop_succ_cons, List.getElem?_cons_zero, List.getElem?_cons_succ, List.length_cons, List.length_nil, List.take_succ_cons, List.take_zero, Nat.mul_one, Nat.zero_add, Nat.add_zero, Nat.one_mul, Nat.zero_mul, List.getElem?_map, List.getElem?_drop, List.getElem?_take, List.length_map, Option.map_some, List.set_cons_zero, List.set_cons_succ, and_true, true_and, List.flatMap_cons, List.flatMap_nil, Bool.not_not]
    exact ⟨by omega, by simp⟩
  · rintro k ε σ N E ⟨hρ, hk, hno⟩ hN hE
    simp only [S_slices_IndexFunc_api_Result_api_Result_L1]
    by_cases hlt : k < l.length
    · obtain ⟨x, hx⟩ := at_lt hlt
      have hd := flat_drop aRR_len hx
      have hcl : ∀ m : List AV, cellsA (some 11) (aRR x ++ m) = some (.agg (aRR x)) := fun m => by rw [cellsA_n _ _ (by simp [aRR_len])]; rfl
      simp (maxSteps := 1000000) (implicitDefEqProofs := false) (disch := omega) only [push_cast, ↓reduceIte, Nat.reduceEqDiff, reduceCtorEq, decide_true, decide_false, Bool.not_true, Bool.not_false, Option.isNone_some, Option.isNone_none, List.drop_zero, List.drop_succ_cons, List.getElem?_cons_zero, List.getElem?_cons_succ, List.length_cons, List.length_nil, List.take_succ_cons, List.take_zero, Nat.mul_one, Nat.zero_add, Nat.add_zero, Nat.one_mul, Nat.zero_mul, List.getElem?_map, List.getElem?_drop, List.getElem?_take, List.length_map, Option.map_some, List.set_cons_zero, List.set_cons_succ, and_true, true_and, List.flatMap_cons, List.flatMap_nil, Bool.not_not, hρ, hd, hcl]
      refine wpa_callvG (by kernel_rfl) rfl ((Add_1_a x r (hl x (List.mem_of_getElem? hx)) hr).at σ) ?_
      rintro a σ' ⟨rfl, rfl⟩
      cases hb : alikeB x r with
      | true =>
        simp (maxSteps := 1000000) (implicitDefEqProofs := false) (disch := omega) only [push_cast, ↓reduceIte, Nat.reduceEqDiff, reduceCtorEq, decide_true, decide_false, Bool.not_true, Bool.not_false, Option.isNone_some, Option.isNone_none, List.drop_zero, List.drop_succ_cons, List.getElem?_cons_zero, List.getElem?_cons_succ, List.length_cons, List.length_nil, List.take_succ_cons, List.take_zero, Nat.mul_one, Nat.zero_add, Nat.add_zero, Nat.one_mul, Nat.zero_mul, List.getElem?_map, List.getElem?_drop, List.getElem?_take, List.length_map, Option.map_some, List.set_cons_zero, List.set_cons_succ, and_true, true_and, List.flatMap_cons, List.flatMap_nil, Bool.not_not, hρ, aBool]
        exact ⟨[], rfl, (k : Int), rfl, by
          have h1 : (l.any fun x => alikeB x r) = true := List.any_eq_true.2 ⟨x, List.mem_of_getElem? hx, hb⟩
          rw [h1]; simp⟩
      | false =>
        simp (maxSteps := 1000000) (implicitDefEqProofs := false) (disch := omega) only [push_cast, ↓reduceIte, Nat.reduceEqDiff, reduceCtorEq, decide_true, decide_false, Bool.not_true, Bool.not_false, Option.isNone_some, Option.isNone_none, List.drop_zero, List.drop_succ_cons, List.getElem?_cons_zero, List.getElem?_cons_succ, List.length_cons, List.length_nil, List.take_succ_cons, List.take_zero, Nat.mul_one, Nat.zero_add, Nat.add_zero, Nat.one_mul, Nat.zero_mul, List.getElem?_map, List.getElem?_drop, List.getElem?_take, List.length_map, Option.map_some, List.set_cons_zero, List.set_cons_succ, and_true, true_and, List.flatMap_cons, List.flatMap_nil, Bool.not_not, hρ, aBool]
        refine hN (k + 1) _ _ ?_ (by omega)
        simp (maxSteps := 1000000) (implicitDefEqProofs := false) (disch := omega) only [push_cast, ↓reduceIte, Nat.reduceEqDiff, reduceCtorEq, decide_true, decide_false, Bool.not_true, Bool.not_false, Option.isNone_some, Option.isNone_none, List.drop_zero, List.drop_succ_cons, List.getElem?_cons_zero, List.getElem?_cons_succ, List.length_cons, List.length_nil, List.take_succ_cons, List.take_zero, Nat.mul_one, Nat.zero_add, Nat.add_zero, Nat.one_mul, Nat.zero_mul, List.getElem?_map, List.getElem?_drop, List.getElem?_take, List.length_map, Option.map_some, List.set_cons_zero, List.set_cons_succ, and_true, true_and, List.flatMap_cons, List.flatMap_nil, Bool.not_not, hρ]
        refine ⟨by omega, ?_⟩
        rw [take_succ_at hx, List.any_append, hno]
        simp [hb]
    · simp (maxSteps := 1000000) (implicitDefEqProofs := false) (disch := omega) only [push_cast, ↓reduceIte, Nat.reduceEqDiff, reduceCtorEq, decide_true, decide_false, Bool.not_true, Bool.not_false, Option.isNone_some, Option.isNone_none, List.drop_zero, List.drop_succ_cons, List.getElem?_cons_zero, List.getElem?_cons_succ, List.length_cons, List.length_nil, List.take_succ_cons, List.take_zero, Nat.mul_one, Nat.zero_add, Nat.add_zero, Nat.one_mul, Nat.zero_mul, List.getElem?_map, List.getElem?_drop, List.getElem?_take, List.length_map, Option.map_some, List.set_cons_zero, List.set_cons_succ, and_true, true_and, List.flatMap_cons, List.flatMap_nil, Bool.not_not, hρ]
      refine hE _ _ ?_
      rwa [List.take_of_length_le (by omega)] at hno
  · intro ε σ hno
    simp (maxSteps := 1000000) (implicitDefEqProofs := false) (disch := omega) only [push_cast, ↓reduceIte, Nat.reduceEqDiff, reduceCtorEq, decide_true, decide_false, Bool.not_true, Bool.not_false, Option.isNone_some, Option.isNone_none, List.drop_zero, List.drop_succ_cons, List.getElem?_cons_zero, List.getElem?_cons_succ, List.length_cons, List.length_nil, List.take_succ_cons, List.take_zero, Nat.mul_one, Nat.zero_add, Nat.add_zero, Nat.one_mul, Nat.zero_mul, List.getElem?_map, List.getElem?_drop, List.getElem?_take, List.length_map, Option.map_some, List.set_cons_zero, List.set_cons_succ, and_true, true_and, List.flatMap_cons, List.flatMap_nil, Bool.not_not]
    exact ⟨[], rfl, -1, rfl, by rw [hno]; rfl⟩
theorem ContainsFunc_a (l : List RR) (r : RR) (hl : ∀ x ∈ l, okR x) (hn : l.length ≤ 1000000) (hr : okR r) : FnP Try.prog 86 [aRRs l, .fn (.func 87) 0 [.ep (aRR r)]] fun a => a = aBool (l.any fun x => alikeB x r) := by
  refine fnP_in K_slices_ContainsFunc_api_Result_api_Result mixed rfl (by simp [AV.pureL, AV.pure, aRR_pure, aRRs_pure]) ?_
  simp only [S_slices_ContainsFunc_api_Result_api_Result]
  simp (maxSteps := 1000000) (implicitDefEqProofs := false) (disch := omega) only [push_cast, ↓reduceIte, Nat.reduceEqDiff, reduceCtorEq, decide_true, decide_false, Bool.not_true, Bool.not_false, Option.isNone_some, Option.isNone_none, List.drop_zero, List.drop_succ_cons, List.getElem?_cons_zero, List.getElem?_cons_succ, List.length_cons, List.length_nil, List.take_succ_cons, List.take_zero, Nat.mul_one, Nat.zero_add, Nat.add_zero, Nat.one_mul, Nat.zero_mul, List.getElem?_map, List.getElem?_drop, List.getElem?_take, List.length_map, Option.map_some, List.set_cons_zero, List.set_cons_succ, and_true, true_and, List.flatMap_cons, List.flatMap_nil, Bool.not_not]
  refine wpa_call (IndexFunc_a l r hl hn hr) ?_
  rintro _ ⟨i, rfl, hi⟩
  simp (maxSteps := 1000000) (implicitDefEqProofs := false) (disch := omega) only [push_cast, ↓reduceIte, Nat.reduceEqDiff, reduceCtorEq, decide_true, decide_false, Bool.not_true, Bool.not_false, Option.isNone_some, Option.isNone_none, List.drop_zero, List.drop_succ_cons, List.getElem?_cons_zero, List.getElem?_cons_succ, List.length_cons, List.length_nil, List.take_succ_cons, List.take_zero, Nat.mul_one, Nat.zero_add, Nat.add_zero, Nat.one_mul, Nat.zero_mul, List.getElem?_map, List.getElem?_drop, List.getElem?_take, List.length_map, Option.map_some, List.set_cons_zero, List.set_cons_succ, and_true, true_and, List.flatMap_cons, List.flatMap_nil, Bool.not_not, aInt]
  exact ⟨[], rfl, by rw [← hi]; rfl⟩
end Go.Proofs.Ytilofhocodbknaa
