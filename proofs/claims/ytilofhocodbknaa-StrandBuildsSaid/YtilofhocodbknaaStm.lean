/- Contracts on annotated values: forebaylaw05.Ints, forebaylaw30.Marks, works. -/
import Derived.Test.YtilofhocodbknaaStk
import Derived.Test.YtilofhocodbknaaStl
import Derived.Test.YtilofhocodbknaaCSpan
namespace Go.Proofs.Ytilofhocodbknaa
set_option linter.unusedVariables false
set_option linter.unusedSimpArgs false
open Go Go.Kx Go.Proofs

theorem law05_Ints_a (l k : List Int) (hl : l.length ≤ 1000000) (hk : k.length ≤ 1000000) : FnP Try.prog 66 [aInts l, aInts k] fun a => a = aBool (l == k) := by
  refine fnP_in K_forebaylaw05_Ints mixed rfl (by simp [AV.pureL, aInts_pure]) ?_
  simp only [S_forebaylaw05_Ints, aInts, aSl]
  by_cases hle : l.length = k.length
  · simp (maxSteps := 1000000) (implicitDefEqProofs := false) (disch := omega) only [push_cast, ↓reduceIte, Nat.reduceEqDiff, reduceCtorEq, decide_true, decide_false, Bool.not_true, Bool.not_false, Option.isNone_some, Option.isNone_none, List.drop_zero, List.drop_succ_cons, List.getElem?_cons_zero, List.getElem?_cons_succ, List.length_cons, List.length_nil, List.take_succ_cons, List.take_zero, Nat.mul_one, Nat.zero_add, Nat.add_zero, Nat.one_mul, Nat.zero_mul, List.getElem?_map, List.getElem?_drop, List.getElem?_take, List.length_map, Option.map_some, List.set_cons_zero, List.set_cons_succ, and_true, true_and, List.flatMap_cons, List.flatMap_nil, Bool.not_not, hle]
    refine wpa_bl (α := Nat) (I := fun t ε σ => (ε 0 = .sl l.length (l.map aInt) .none ∧ ε 1 = .sl k.length (k.map aInt) .none ∧ ε 5 = .v (.int .i64 t)) ∧ t ≤ l.length ∧ l.take t = k.take t)
      (μ := fun t => l.length - t) (Q := fun _ _ => l = k) (x := 0) ?_ ?_ ?_
    · simp (maxSteps := 1000000) (implicitDefEqProofs := false) (disch := omega) only [push_cast, ↓reduceIte, Nat.reduceEqDiff, reduceCtorEq, decide_true, decide_false, Bool.not_true, Bool.not_false, Option.isNone_some, Option.isNone_none, List.drop_zero, List.drop_succ_cons, List.getElem?_cons_zero, List.getElem?_cons_succ, List.length_cons, List.length_nil, List.take_succ_cons, List.take_zero, Nat.mul_one, Nat.zero_add, Nat.add_zero, Nat.one_mul, Nat.zero_mul, List.getElem?_map, List.getElem?_drop, List.getElem?_take, List.length_map, Option.map_some, List.set_cons_zero, List.set_cons_succ, and_true, true_and, List.flatMap_cons, List.flatMap_nil, Bool.not_not, hle]
      omega
    · rintro t ε σ N E ⟨hρ, ht, heq⟩ hN hE
      simp only [S_forebaylaw05_Ints_L1]
      by_cases hlt : t < l.length
      · obtain ⟨x, hx⟩ := at_lt hlt
        obtain ⟨y, hy⟩ := at_lt (l := k) (k := t) (by omega)
        by_cases he : x = y
        · subst he
          simp (maxSteps := 1000000) (implicitDefEqProofs := false) (disch := omega) only [push_cast, ↓reduceIte, Nat.reduceEqDiff, reduceCtorEq, decide_true, decide_false, Bool.not_true, Bool.not_false, Option.isNone_some, Option.isNone_none, List.drop_zero, List.drop_succ_cons, List.getElem?_cons_zero, List.getElem?_cons_succ, List.length_cons, List.length_nil, List.take_succ_cons, List.take_zero, Nat.mul_one, Nat.zero_add, Nat.add_zero, Nat.one_mul, Nat.zero_mul, List.getElem?_map, List.getElem?_drop, List.getElem?_take, List.length_map, Option.map_some, List.set_cons_zero, List.set_cons_succ, and_true, true_and, List.flatMap_cons, List.flatMap_nil, Bool.not_not, hρ, hx, hy, aInt]
          refine hN (t + 1) _ _ ?_ (by omega)
          simp (maxSteps := 1000000) (implicitDefEqProofs := false) (disch := omega) only [push_cast, ↓reduceIte, Nat.reduceEqDiff, reduceCtorEq, decide_true, decide_false, Bool.not_true, Bool.not_false, Option.isNone_some, Option.isNone_none, List.drop_zero, List.drop_succ_cons, List.getElem?_cons_zero, List.getElem?_cons_succ, List.length_cons, List.length_nil, List.take_succ_cons, List.take_zero, Nat.mul_one, Nat.zero_add, Nat.add_zero, Nat.one_mul, Nat.zero_mul, List.getElem?_map, List.getElem?_drop, List.getElem?_take, List.length_map, Option.map_some, List.set_cons_zero, List.set_cons_succ, and_true, true_and, List.flatMap_cons, List.flatMap_nil, Bool.not_not, hρ]
          exact ⟨by omega, by rw [take_succ_at hx, take_succ_at hy, heq]⟩
        · simp (maxSteps := 1000000) (implicitDefEqProofs := false) (disch := omega) only [push_cast, ↓reduceIte, Nat.reduceEqDiff, reduceCtorEq, decide_true, decide_false, Bool.not_true, Bool.not_false, Option.isNone_some, Option.isNone_none, List.drop_zero, List.drop_succ_cons, List.getElem?_cons_zero, List.getElem?_cons_succ, List.length_cons, List.length_nil, List.take_succ_cons, List.take_zero, Nat.mul_one, Nat.zero_add, Nat.add_zero, Nat.one_mul, Nat.zero_mul, List.getElem?_map, List.getElem?_drop, List.getElem?_take, List.length_map, Option.map_some, List.set_cons_zero, List.set_cons_succ, and_true, true_and, List.flatMap_cons, List.flatMap_nil, Bool.not_not, hρ, hx, hy, aInt, he]
          refine fin_v ?_
          have : l ≠ k := by
            intro e; subst e; rw [hx] at hy; cases hy; exact he rfl
          simp [aBool, this]
      · simp (maxSteps := 1000000) (implicitDefEqProofs := false) (disch := omega) only [push_cast, ↓reduceIte, Nat.reduceEqDiff, reduceCtorEq, decide_true, decide_false, Bool.not_true, Bool.not_false, Option.isNone_some, Option.isNone_none, List.drop_zero, List.drop_succ_cons, List.getElem?_cons_zero, List.getElem?_cons_succ, List.length_cons, List.length_nil, List.take_succ_cons, List.take_zero, Nat.mul_one, Nat.zero_add, Nat.add_zero, Nat.one_mul, Nat.zero_mul, List.getElem?_map, List.getElem?_drop, List.getElem?_take, List.length_map, Option.map_some, List.set_cons_zero, List.set_cons_succ, and_true, true_and, List.flatMap_cons, List.flatMap_nil, Bool.not_not, hρ]
        refine hE _ _ ?_
        rwa [List.take_of_length_le (by omega), List.take_of_length_le (by omega)] at heq
    · intro ε σ h
      simp (maxSteps := 1000000) (implicitDefEqProofs := false) (disch := omega) only [push_cast, ↓reduceIte, Nat.reduceEqDiff, reduceCtorEq, decide_true, decide_false, Bool.not_true, Bool.not_false, Option.isNone_some, Option.isNone_none, List.drop_zero, List.drop_succ_cons, List.getElem?_cons_zero, List.getElem?_cons_succ, List.length_cons, List.length_nil, List.take_succ_cons, List.take_zero, Nat.mul_one, Nat.zero_add, Nat.add_zero, Nat.one_mul, Nat.zero_mul, List.getElem?_map, List.getElem?_drop, List.getElem?_take, List.length_map, Option.map_some, List.set_cons_zero, List.set_cons_succ, and_true, true_and, List.flatMap_cons, List.flatMap_nil, Bool.not_not]
      exact fin_v (by simp [aBool, h])
  · simp (maxSteps := 1000000) (implicitDefEqProofs := false) (disch := omega) only [push_cast, ↓reduceIte, Nat.reduceEqDiff, reduceCtorEq, decide_true, decide_false, Bool.not_true, Bool.not_false, Option.isNone_some, Option.isNone_none, List.drop_zero, List.drop_succ_cons, List.getElem?_cons_zero, List.getElem?_cons_succ, List.length_cons, List.length_nil, List.take_succ_cons, List.take_zero, Nat.mul_one, Nat.zero_add, Nat.add_zero, Nat.one_mul, Nat.zero_mul, List.getElem?_map, List.getElem?_drop, List.getElem?_take, List.length_map, Option.map_some, List.set_cons_zero, List.set_cons_succ, and_true, true_and, List.flatMap_cons, List.flatMap_nil, Bool.not_not, hle]
    refine fin_v ?_
    have : l ≠ k := by intro e; subst e; exact hle rfl
    simp [aBool, this]
theorem aMk_res (σ : St) (m : Mk) : AV.resL σ (aMk m) = aMk m := by simp [aMk, AV.resL, AV.res]
theorem law30_Marks_a (l : List Mk) (hl : l.length ≤ 8000) : FnP Try.prog 74 [aMks l] fun a => a = aMks l := by
  refine fnP_in K_forebaylaw30_Marks mixed rfl (by simp [AV.pureL, aMks_pure]) ?_
  simp only [S_forebaylaw30_Marks, aMks, aSlN]
  simp (maxSteps := 1000000) (implicitDefEqProofs := false) (disch := omega) only [push_cast, ↓reduceIte, Nat.reduceEqDiff, reduceCtorEq, decide_true, decide_false, Bool.not_true, Bool.not_false, Option.isNone_some, Option.isNone_none, List.drop_zero, List.drop_succ_cons, List.getElem?_cons_zero, List.getElem?_cons_succ, List.length_cons, List.length_nil, List.take_succ_cons, List.take_zero, Nat.mul_one, Nat.zero_add, Nat.add_zero, Nat.one_mul, Nat.zero_mul, List.getElem?_map, List.getElem?_drop, List.getElem?_take, List.length_map, Option.map_some, List.set_cons_zero, List.set_cons_succ, and_true, true_and, List.flatMap_cons, List.flatMap_nil, Bool.not_not]
  refine wpa_blg (GU.tok 3 3 rfl) (α := Nat) (I := fun n ε σ => (ε 0 = .sl l.length (l.flatMap aMk) .none ∧ ε 4 = .v (.int .i64 n)) ∧ n ≤ l.length ∧ ∃ w, ε 3 = .sl n ((l.take n).flatMap aMk) (.id 0 w 3) ∧ σ[0]? = some (.tail w))
    (μ := fun n => l.length - n) (Q := fun ε σ => ∃ w, ε 3 = .sl l.length (l.flatMap aMk) (.id 0 w 3)) (x := 0) ?_ ?_ ?_
  · simp (maxSteps := 1000000) (implicitDefEqProofs := false) (disch := omega) only [push_cast, ↓reduceIte, Nat.reduceEqDiff, reduceCtorEq, decide_true, decide_false, Bool.not_true, Bool.not_false, Option.isNone_some, Option.isNone_none, List.drop_zero, List.drop_succ_cons, List.getElem?_cons_zero, List.getElem?_cons_succ, List.length_cons, List.length_nil, List.take_succ_cons, List.take_zero, Nat.mul_one, Nat.zero_add, Nat.add_zero, Nat.one_mul, Nat.zero_mul, List.getElem?_map, List.getElem?_drop, List.getElem?_take, List.length_map, Option.map_some, List.set_cons_zero, List.set_cons_succ, and_true, true_and, List.flatMap_cons, List.flatMap_nil, Bool.not_not]
    exact ⟨by omega, 0, rfl, rfl⟩
  · rintro n ε σ N E ⟨hρ, hn, w, h3, ht⟩ hN hE
    simp only [S_forebaylaw30_Marks_L1]
    by_cases hlt : n < l.length
    · obtain ⟨m, hm⟩ := at_lt hlt
      have hd := flat_drop aMk_len hm
      have g0 : ∀ k : List AV, (aMk m ++ k)[0]? = some (.v (.int .i64 m.k)) := fun _ => rfl
      have g1 : ∀ k : List AV, (aMk m ++ k)[1]? = some (.v (.int .i64 m.a)) := fun _ => rfl
      have g2 : ∀ k : List AV, (aMk m ++ k)[2]? = some (.v (.int .i64 m.b)) := fun _ => rfl
      have bld3 : ∀ a b c : Int, fillA [AV.v (.int .i64 0), AV.v (.int .i64 0), AV.v (.int .i64 0)] [(0, 1), (1, 1), (2, 1)] [AV.v (.int .i64 a), AV.v (.int .i64 b), AV.v (.int .i64 c)] = some (aMk ⟨a, b, c⟩) := fun a b c => by simp [fillA, AV.cells, Value.cells, setAtA, aMk]
      simp (maxSteps := 1000000) (implicitDefEqProofs := false) (disch := omega) only [push_cast, ↓reduceIte, Nat.reduceEqDiff, reduceCtorEq, decide_true, decide_false, Bool.not_true, Bool.not_false, Option.isNone_some, Option.isNone_none, List.drop_zero, List.drop_succ_cons, List.getElem?_cons_zero, List.getElem?_cons_succ, List.length_cons, List.length_nil, List.take_succ_cons, List.take_zero, Nat.mul_one, Nat.zero_add, Nat.add_zero, Nat.one_mul, Nat.zero_mul, List.getElem?_map, List.getElem?_drop, List.getElem?_take, List.length_map, Option.map_some, List.set_cons_zero, List.set_cons_succ, and_true, true_and, List.flatMap_cons, List.flatMap_nil, Bool.not_not, hρ, hd, g0, g1, g2, bld3]
      refine wpa_bsl (sz := 3) (by intro a ha; simp at ha; subst ha; rfl) (by simp) ?_
      have hac : (AV.agg (aMk ⟨m.k, m.a, m.b⟩)).cells = aMk m := rfl
      simp (maxSteps := 1000000) (implicitDefEqProofs := false) (disch := omega) only [push_cast, ↓reduceIte, Nat.reduceEqDiff, reduceCtorEq, decide_true, decide_false, Bool.not_true, Bool.not_false, Option.isNone_some, Option.isNone_none, List.drop_zero, List.drop_succ_cons, List.getElem?_cons_zero, List.getElem?_cons_succ, List.length_cons, List.length_nil, List.take_succ_cons, List.take_zero, Nat.mul_one, Nat.zero_add, Nat.add_zero, Nat.one_mul, Nat.zero_mul, List.getElem?_map, List.getElem?_drop, List.getElem?_take, List.length_map, Option.map_some, List.set_cons_zero, List.set_cons_succ, and_true, true_and, List.flatMap_cons, List.flatMap_nil, Bool.not_not, hac, h3]
      refine wpa_app (m := 1) rfl rfl rfl rfl (by rw [flat_len aMk_len, List.length_take]; omega) (by omega) (by omega) ht ?_
      simp (maxSteps := 1000000) (implicitDefEqProofs := false) (disch := omega) only [push_cast, ↓reduceIte, Nat.reduceEqDiff, reduceCtorEq, decide_true, decide_false, Bool.not_true, Bool.not_false, Option.isNone_some, Option.isNone_none, List.drop_zero, List.drop_succ_cons, List.getElem?_cons_zero, List.getElem?_cons_succ, List.length_cons, List.length_nil, List.take_succ_cons, List.take_zero, Nat.mul_one, Nat.zero_add, Nat.add_zero, Nat.one_mul, Nat.zero_mul, List.getElem?_map, List.getElem?_drop, List.getElem?_take, List.length_map, Option.map_some, List.set_cons_zero, List.set_cons_succ, and_true, true_and, List.flatMap_cons, List.flatMap_nil, Bool.not_not, hρ]
      refine hN (n + 1) _ _ ?_ (by omega)
      simp (maxSteps := 1000000) (implicitDefEqProofs := false) (disch := omega) only [push_cast, ↓reduceIte, Nat.reduceEqDiff, reduceCtorEq, decide_true, decide_false, Bool.not_true, Bool.not_false, Option.isNone_some, Option.isNone_none, List.drop_zero, List.drop_succ_cons, List.getElem?_cons_zero, List.getElem?_cons_succ, List.length_cons, List.length_nil, List.take_succ_cons, List.take_zero, Nat.mul_one, Nat.zero_add, Nat.add_zero, Nat.one_mul, Nat.zero_mul, List.getElem?_map, List.getElem?_drop, List.getElem?_take, List.length_map, Option.map_some, List.set_cons_zero, List.set_cons_succ, and_true, true_and, List.flatMap_cons, List.flatMap_nil, Bool.not_not, hρ]
      refine ⟨by omega, w + 1, ?_, get_set_eq ht⟩
      rw [take_succ_at hm]; simp
    · simp (maxSteps := 1000000) (implicitDefEqProofs := false) (disch := omega) only [push_cast, ↓reduceIte, Nat.reduceEqDiff, reduceCtorEq, decide_true, decide_false, Bool.not_true, Bool.not_false, Option.isNone_some, Option.isNone_none, List.drop_zero, List.drop_succ_cons, List.getElem?_cons_zero, List.getElem?_cons_succ, List.length_cons, List.length_nil, List.take_succ_cons, List.take_zero, Nat.mul_one, Nat.zero_add, Nat.add_zero, Nat.one_mul, Nat.zero_mul, List.getElem?_map, List.getElem?_drop, List.getElem?_take, List.length_map, Option.map_some, List.set_cons_zero, List.set_cons_succ, and_true, true_and, List.flatMap_cons, List.flatMap_nil, Bool.not_not, hρ]
      refine hE _ _ ⟨w, ?_⟩
      have : n = l.length := by omega
      subst this
      rw [List.take_length] at h3
      exact h3
  · rintro ε σ ⟨w, h3⟩
    simp (maxSteps := 1000000) (implicitDefEqProofs := false) (disch := omega) only [push_cast, ↓reduceIte, Nat.reduceEqDiff, reduceCtorEq, decide_true, decide_false, Bool.not_true, Bool.not_false, Option.isNone_some, Option.isNone_none, List.drop_zero, List.drop_succ_cons, List.getElem?_cons_zero, List.getElem?_cons_succ, List.length_cons, List.length_nil, List.take_succ_cons, List.take_zero, Nat.mul_one, Nat.zero_add, Nat.add_zero, Nat.one_mul, Nat.zero_mul, List.getElem?_map, List.getElem?_drop, List.getElem?_take, List.length_map, Option.map_some, List.set_cons_zero, List.set_cons_succ, and_true, true_and, List.flatMap_cons, List.flatMap_nil, Bool.not_not, h3]
    exact fin_res [] (aSlN_res (aMk_res _) l _) (aMks_pure l)
theorem dagC_0 (B : Bd) : (dagC B)[0]? = some (.sl B.preds.length (B.preds.map aInts) .none) := rfl
theorem dagC_1 (B : Bd) : (dagC B)[1]? = some (.sl B.nodes.length (B.nodes.flatMap aNd) .none) := rfl
theorem dagC_2 (B : Bd) : (dagC B)[2]? = some (.sl B.accs.length (B.accs.flatMap aAc) .none) := rfl
def wMks : List Mk := [⟨4, 0, 0⟩, ⟨3, 5, 0⟩, ⟨5, 0, 0⟩, ⟨6, 0, 0⟩]
def wDag : Bd := ⟨[[], [0], [0], [2, 1]], [(0, 0, 0), (0, 0, 0), (0, 0, 0), (0, 0, 0)], [⟨1, -1, true⟩], [⟨1, false, 3, [], 0, 0, 0, [], 0, 0, [], []⟩], false⟩
theorem wBuild : buildR wMks = (0, wDag) := by rfl
set_option maxHeartbeats 1000000 in
theorem law30_works_a : FnP Try.prog 72 [] fun a => a = aBool true := by
  refine fnP_in K_forebaylaw30_works mixed rfl rfl ?_
  simp only [S_forebaylaw30_works]
  have b1 : ∀ a : Int, fillA [AV.v (.int .i64 0), AV.v (.int .i64 0), AV.v (.int .i64 0)] [(0, 1)] [AV.v (.int .i64 a)] = some (aMk ⟨a, 0, 0⟩) := fun a => by simp [fillA, AV.cells, Value.cells, setAtA, aMk]
  have b2 : ∀ a b : Int, fillA [AV.v (.int .i64 0), AV.v (.int .i64 0), AV.v (.int .i64 0)] [(0, 1), (1, 1)] [AV.v (.int .i64 a), AV.v (.int .i64 b)] = some (aMk ⟨a, b, 0⟩) := fun a b => by simp [fillA, AV.cells, Value.cells, setAtA, aMk]
  simp (maxSteps := 1000000) (implicitDefEqProofs := false) (disch := omega) only [push_cast, ↓reduceIte, Nat.reduceEqDiff, reduceCtorEq, decide_true, decide_false, Bool.not_true, Bool.not_false, Option.isNone_some, Option.isNone_none, List.drop_zero, List.drop_succ_cons, List.getElem?_cons_zero, List.getElem?_cons_succ, List.length_cons, List.length_nil, List.take_succ_cons, List.take_zero, Nat.mul_one, Nat.zero_add, Nat.add_zero, Nat.one_mul, Nat.zero_mul, List.getElem?_map, List.getElem?_drop, List.getElem?_take, List.length_map, Option.map_some, List.set_cons_zero, List.set_cons_succ, and_true, true_and, List.flatMap_cons, List.flatMap_nil, Bool.not_not, b1, b2]
  refine wpa_bsl (sz := 3) (by intro a ha; simp at ha; rcases ha with rfl | rfl | rfl | rfl <;> rfl) (by simp) ?_
  simp (maxSteps := 1000000) (implicitDefEqProofs := false) (disch := omega) only [push_cast, ↓reduceIte, Nat.reduceEqDiff, reduceCtorEq, decide_true, decide_false, Bool.not_true, Bool.not_false, Option.isNone_some, Option.isNone_none, List.drop_zero, List.drop_succ_cons, List.getElem?_cons_zero, List.getElem?_cons_succ, List.length_cons, List.length_nil, List.take_succ_cons, List.take_zero, Nat.mul_one, Nat.zero_add, Nat.add_zero, Nat.one_mul, Nat.zero_mul, List.getElem?_map, List.getElem?_drop, List.getElem?_take, List.length_map, Option.map_some, List.set_cons_zero, List.set_cons_succ, and_true, true_and, List.flatMap_cons, List.flatMap_nil, Bool.not_not]
  refine wpa_callw [] [true] (build_a wMks (by decide)) (by
    simp only [weak, if_true]
    have := aSlN_res (aMk_res (Go.Kx.freeze [] ([] : St))) wMks .full
    exact congrArg (fun x => [x]) this) ?_
  rintro a rfl
  rw [fzn, wBuild]
  simp (maxSteps := 1000000) (implicitDefEqProofs := false) (disch := omega) only [push_cast, ↓reduceIte, Nat.reduceEqDiff, reduceCtorEq, decide_true, decide_false, Bool.not_true, Bool.not_false, Option.isNone_some, Option.isNone_none, List.drop_zero, List.drop_succ_cons, List.getElem?_cons_zero, List.getElem?_cons_succ, List.length_cons, List.length_nil, List.take_succ_cons, List.take_zero, Nat.mul_one, Nat.zero_add, Nat.add_zero, Nat.one_mul, Nat.zero_mul, List.getElem?_map, List.getElem?_drop, List.getElem?_take, List.length_map, Option.map_some, List.set_cons_zero, List.set_cons_succ, and_true, true_and, List.flatMap_cons, List.flatMap_nil, Bool.not_not]
  refine wpa_new ?_
  simp (maxSteps := 1000000) (implicitDefEqProofs := false) (disch := omega) only [push_cast, ↓reduceIte, Nat.reduceEqDiff, reduceCtorEq, decide_true, decide_false, Bool.not_true, Bool.not_false, Option.isNone_some, Option.isNone_none, List.drop_zero, List.drop_succ_cons, List.getElem?_cons_zero, List.getElem?_cons_succ, List.length_cons, List.length_nil, List.take_succ_cons, List.take_zero, Nat.mul_one, Nat.zero_add, Nat.add_zero, Nat.one_mul, Nat.zero_mul, List.getElem?_map, List.getElem?_drop, List.getElem?_take, List.length_map, Option.map_some, List.set_cons_zero, List.set_cons_succ, and_true, true_and, List.flatMap_cons, List.flatMap_nil, Bool.not_not]
  refine wpa_stn rfl rfl rfl (by decide) ?_
  have hset : setAtA [AV.sl 0 [] .nil, AV.sl 0 [] .nil, AV.sl 0 [] .nil] 0 (dagC wDag) = dagC wDag := rfl
  have d0 := dagC_0 wDag
  have d1 := dagC_1 wDag
  have d2 := dagC_2 wDag
  have e0 : wDag.preds.length = 4 := rfl
  have e1 : wDag.nodes.length = 4 := rfl
  have e2 : wDag.accs.length = 1 := rfl
  have p3 : wDag.preds[Int.toNat 3]? = some [2, 1] := rfl
  have a0 : cellsA (some 3) (List.drop (Int.toNat 0 * 3) (wDag.accs.flatMap aAc)) = some (.agg (aAc ⟨1, -1, true⟩)) := rfl
  have bA : fillA [AV.v (.int .i64 0), AV.v (.int .i64 0), AV.v (.bool false)] [(0, 1), (1, 1), (2, 1)] [AV.v (.int .i64 1), AV.v (.int .i64 (-1)), AV.v (.bool true)] = some (aAc ⟨1, -1, true⟩) := by simp [fillA, AV.cells, Value.cells, setAtA, aAc]
  have hq : PF.av (.eqs false [.int .i64, .int .i64, .bool]) [.agg (aAc ⟨1, -1, true⟩), .agg (aAc ⟨1, -1, true⟩)] = some (.v (.bool true)) := by rfl
  simp (maxSteps := 1000000) (implicitDefEqProofs := false) (disch := omega) only [push_cast, ↓reduceIte, Nat.reduceEqDiff, reduceCtorEq, decide_true, decide_false, Bool.not_true, Bool.not_false, Option.isNone_some, Option.isNone_none, List.drop_zero, List.drop_succ_cons, List.getElem?_cons_zero, List.getElem?_cons_succ, List.length_cons, List.length_nil, List.take_succ_cons, List.take_zero, Nat.mul_one, Nat.zero_add, Nat.add_zero, Nat.one_mul, Nat.zero_mul, List.getElem?_map, List.getElem?_drop, List.getElem?_take, List.length_map, Option.map_some, List.set_cons_zero, List.set_cons_succ, and_true, true_and, List.flatMap_cons, List.flatMap_nil, Bool.not_not, hset, d0, d1, d2, e0, e1, e2, p3, aInt]
  refine wpa_bsl (sz := 1) (by intro a ha; simp at ha; rcases ha with rfl | rfl <;> rfl) (by simp) ?_
  simp (maxSteps := 1000000) (implicitDefEqProofs := false) (disch := omega) only [push_cast, ↓reduceIte, Nat.reduceEqDiff, reduceCtorEq, decide_true, decide_false, Bool.not_true, Bool.not_false, Option.isNone_some, Option.isNone_none, List.drop_zero, List.drop_succ_cons, List.getElem?_cons_zero, List.getElem?_cons_succ, List.length_cons, List.length_nil, List.take_succ_cons, List.take_zero, Nat.mul_one, Nat.zero_add, Nat.add_zero, Nat.one_mul, Nat.zero_mul, List.getElem?_map, List.getElem?_drop, List.getElem?_take, List.length_map, Option.map_some, List.set_cons_zero, List.set_cons_succ, and_true, true_and, List.flatMap_cons, List.flatMap_nil, Bool.not_not]
  refine wpa_callw [] [false, true] (law05_Ints_a [2, 1] [2, 1] (by decide) (by decide)) ?_ ?_
  · simp only [weak, if_true]
    have := aSl_res (aInt_res (Go.Kx.freeze [] [Res.obj 0 (dagC wDag)])) [2, 1] .full
    exact congrArg (fun x => [aInts [2, 1], x]) this
  rintro a rfl
  rw [fzn, beq_self_eq_true]
  simp (maxSteps := 1000000) (implicitDefEqProofs := false) (disch := omega) only [push_cast, ↓reduceIte, Nat.reduceEqDiff, reduceCtorEq, decide_true, decide_false, Bool.not_true, Bool.not_false, Option.isNone_some, Option.isNone_none, List.drop_zero, List.drop_succ_cons, List.getElem?_cons_zero, List.getElem?_cons_succ, List.length_cons, List.length_nil, List.take_succ_cons, List.take_zero, Nat.mul_one, Nat.zero_add, Nat.add_zero, Nat.one_mul, Nat.zero_mul, List.getElem?_map, List.getElem?_drop, List.getElem?_take, List.length_map, Option.map_some, List.set_cons_zero, List.set_cons_succ, and_true, true_and, List.flatMap_cons, List.flatMap_nil, Bool.not_not, aBool, d2, e2, a0, bA, hq]
  exact ⟨[], rfl⟩
end Go.Proofs.Ytilofhocodbknaa
