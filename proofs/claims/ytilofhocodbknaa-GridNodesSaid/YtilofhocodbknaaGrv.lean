/- Contracts on annotated values: grid.whole, Iter, Stage of any numbers; Mirror, Step. -/
import Derived.Test.YtilofhocodbknaaGru
import Derived.Test.YtilofhocodbknaaGrd
namespace Go.Proofs.Ytilofhocodbknaa
set_option linter.unusedVariables false
set_option linter.unusedSimpArgs false
open Go Go.Kx Go.Proofs

theorem grid_whole_b (w : Nat) : FnP Try.prog 93 [.v (.float .f64 w)] fun a => a = aInt (wholeI w) := by
  refine fnP_in K_grid_whole mixed rfl (by simp [AV.pureL, AV.pure]) ?_
  have h1 : PF.val (.bin .gtr) [.float .f64 w, .float .f64 0] = some (.bool (Ieee.double.order w 0 == some .gt)) := rfl
  have h2 : PF.val (.bin .gtr) [.float .f64 w, .float .f64 4697254411347427328] = some (.bool (Ieee.double.order w 4697254411347427328 == some .gt)) := rfl
  simp only [S_grid_whole]
  by_cases h0 : Ieee.double.order w 0 = some .gt
  · rw [beq_iff_eq.2 h0] at h1
    by_cases hB : Ieee.double.order w 4697254411347427328 = some .gt
    · have hw : wholeI w = 1048576 := wholeI_top (.inl hB)
      rw [beq_iff_eq.2 hB] at h2
      simp (maxSteps := 1000000) (implicitDefEqProofs := false) (disch := omega) only [push_cast, ↓reduceIte, Nat.reduceEqDiff, reduceCtorEq, decide_true, decide_false, Bool.not_true, Bool.not_false, Option.isNone_some, Option.isNone_none, List.drop_zero, List.drop_succ_cons, List.getElem?_cons_zero, List.getElem?_cons_succ, List.length_cons, List.length_nil, List.take_succ_cons, List.take_zero, Nat.mul_one, Nat.zero_add, Nat.add_zero, Nat.one_mul, Nat.zero_mul, List.getElem?_map, List.getElem?_drop, List.getElem?_take, List.length_map, Option.map_some, List.set_cons_zero, List.set_cons_succ, and_true, true_and, List.flatMap_cons, List.flatMap_nil, Bool.not_not, h1, h2]
      exact ⟨[], rfl, by rw [hw]; rfl⟩
    · obtain ⟨_, _, _, _, _, _, _, h3, h4, h5⟩ := wholeI_mid h0 hB
      rw [beq_eq_false_iff_ne.2 hB] at h2
      have h6 : PF.val (.fInt .i64) [.float .f64 w] = some (.int .i64 (wholeI w)) := by
        simp only [PF.val, h3]
        rw [if_pos]
        have e1 : IntKind.min .i64 = -9223372036854775808 := rfl
        have e2 : IntKind.max .i64 = 9223372036854775807 := rfl
        rw [e1, e2]; omega
      simp (maxSteps := 1000000) (implicitDefEqProofs := false) (disch := omega) only [push_cast, ↓reduceIte, Nat.reduceEqDiff, reduceCtorEq, decide_true, decide_false, Bool.not_true, Bool.not_false, Option.isNone_some, Option.isNone_none, List.drop_zero, List.drop_succ_cons, List.getElem?_cons_zero, List.getElem?_cons_succ, List.length_cons, List.length_nil, List.take_succ_cons, List.take_zero, Nat.mul_one, Nat.zero_add, Nat.add_zero, Nat.one_mul, Nat.zero_mul, List.getElem?_map, List.getElem?_drop, List.getElem?_take, List.length_map, Option.map_some, List.set_cons_zero, List.set_cons_succ, and_true, true_and, List.flatMap_cons, List.flatMap_nil, Bool.not_not, h1, h2, h6]
      exact ⟨[], rfl, rfl⟩
  · rw [beq_eq_false_iff_ne.2 h0] at h1
    simp (maxSteps := 1000000) (implicitDefEqProofs := false) (disch := omega) only [push_cast, ↓reduceIte, Nat.reduceEqDiff, reduceCtorEq, decide_true, decide_false, Bool.not_true, Bool.not_false, Option.isNone_some, Option.isNone_none, List.drop_zero, List.drop_succ_cons, List.getElem?_cons_zero, List.getElem?_cons_succ, List.length_cons, List.length_nil, List.take_succ_cons, List.take_zero, Nat.mul_one, Nat.zero_add, Nat.add_zero, Nat.one_mul, Nat.zero_mul, List.getElem?_map, List.getElem?_drop, List.getElem?_take, List.length_map, Option.map_some, List.set_cons_zero, List.set_cons_succ, and_true, true_and, List.flatMap_cons, List.flatMap_nil, Bool.not_not, h1]
    exact ⟨[], rfl, by rw [wholeI_zero h0]; rfl⟩
theorem grid_Iter_b (x y : Nat) : FnP Try.prog 39 [.v (.complex .f64 x y)] fun a => a = aInt (wholeI x) := by
  refine fnP_in K_grid_Iter mixed rfl (by simp [AV.pureL, AV.pure]) ?_
  simp only [S_grid_Iter]
  simp (maxSteps := 1000000) (implicitDefEqProofs := false) (disch := omega) only [push_cast, ↓reduceIte, Nat.reduceEqDiff, reduceCtorEq, decide_true, decide_false, Bool.not_true, Bool.not_false, Option.isNone_some, Option.isNone_none, List.drop_zero, List.drop_succ_cons, List.getElem?_cons_zero, List.getElem?_cons_succ, List.length_cons, List.length_nil, List.take_succ_cons, List.take_zero, Nat.mul_one, Nat.zero_add, Nat.add_zero, Nat.one_mul, Nat.zero_mul, List.getElem?_map, List.getElem?_drop, List.getElem?_take, List.length_map, Option.map_some, List.set_cons_zero, List.set_cons_succ, and_true, true_and, List.flatMap_cons, List.flatMap_nil, Bool.not_not]
  refine wpa_call (grid_whole_b x) ?_
  rintro a rfl
  simp (maxSteps := 1000000) (implicitDefEqProofs := false) (disch := omega) only [push_cast, ↓reduceIte, Nat.reduceEqDiff, reduceCtorEq, decide_true, decide_false, Bool.not_true, Bool.not_false, Option.isNone_some, Option.isNone_none, List.drop_zero, List.drop_succ_cons, List.getElem?_cons_zero, List.getElem?_cons_succ, List.length_cons, List.length_nil, List.take_succ_cons, List.take_zero, Nat.mul_one, Nat.zero_add, Nat.add_zero, Nat.one_mul, Nat.zero_mul, List.getElem?_map, List.getElem?_drop, List.getElem?_take, List.length_map, Option.map_some, List.set_cons_zero, List.set_cons_succ, and_true, true_and, List.flatMap_cons, List.flatMap_nil, Bool.not_not]
  exact ⟨[], rfl, rfl⟩
theorem grid_Stage_b (x y : Nat) : FnP Try.prog 40 [.v (.complex .f64 x y)] fun a => a = aInt (wholeI y) := by
  refine fnP_in K_grid_Stage mixed rfl (by simp [AV.pureL, AV.pure]) ?_
  simp only [S_grid_Stage]
  simp (maxSteps := 1000000) (implicitDefEqProofs := false) (disch := omega) only [push_cast, ↓reduceIte, Nat.reduceEqDiff, reduceCtorEq, decide_true, decide_false, Bool.not_true, Bool.not_false, Option.isNone_some, Option.isNone_none, List.drop_zero, List.drop_succ_cons, List.getElem?_cons_zero, List.getElem?_cons_succ, List.length_cons, List.length_nil, List.take_succ_cons, List.take_zero, Nat.mul_one, Nat.zero_add, Nat.add_zero, Nat.one_mul, Nat.zero_mul, List.getElem?_map, List.getElem?_drop, List.getElem?_take, List.length_map, Option.map_some, List.set_cons_zero, List.set_cons_succ, and_true, true_and, List.flatMap_cons, List.flatMap_nil, Bool.not_not]
  refine wpa_call (grid_whole_b y) ?_
  rintro a rfl
  simp (maxSteps := 1000000) (implicitDefEqProofs := false) (disch := omega) only [push_cast, ↓reduceIte, Nat.reduceEqDiff, reduceCtorEq, decide_true, decide_false, Bool.not_true, Bool.not_false, Option.isNone_some, Option.isNone_none, List.drop_zero, List.drop_succ_cons, List.getElem?_cons_zero, List.getElem?_cons_succ, List.length_cons, List.length_nil, List.take_succ_cons, List.take_zero, Nat.mul_one, Nat.zero_add, Nat.add_zero, Nat.one_mul, Nat.zero_mul, List.getElem?_map, List.getElem?_drop, List.getElem?_take, List.length_map, Option.map_some, List.set_cons_zero, List.set_cons_succ, and_true, true_and, List.flatMap_cons, List.flatMap_nil, Bool.not_not]
  exact ⟨[], rfl, rfl⟩
theorem grid_Mirror_a (p : Int × Int) (h : okP p) : FnP Try.prog 41 [aN p] fun a => a = aN (p.2, p.1) := by
  refine fnP_in K_grid_Mirror mixed rfl (by simp [AV.pureL, AV.pure, aN]) ?_
  simp only [S_grid_Mirror, aN]
  simp (maxSteps := 1000000) (implicitDefEqProofs := false) (disch := omega) only [push_cast, ↓reduceIte, Nat.reduceEqDiff, reduceCtorEq, decide_true, decide_false, Bool.not_true, Bool.not_false, Option.isNone_some, Option.isNone_none, List.drop_zero, List.drop_succ_cons, List.getElem?_cons_zero, List.getElem?_cons_succ, List.length_cons, List.length_nil, List.take_succ_cons, List.take_zero, Nat.mul_one, Nat.zero_add, Nat.add_zero, Nat.one_mul, Nat.zero_mul, List.getElem?_map, List.getElem?_drop, List.getElem?_take, List.length_map, Option.map_some, List.set_cons_zero, List.set_cons_succ, and_true, true_and, List.flatMap_cons, List.flatMap_nil, Bool.not_not]
  refine wpa_call (grid_Stage_a p h) ?_
  rintro a rfl
  simp (maxSteps := 1000000) (implicitDefEqProofs := false) (disch := omega) only [push_cast, ↓reduceIte, Nat.reduceEqDiff, reduceCtorEq, decide_true, decide_false, Bool.not_true, Bool.not_false, Option.isNone_some, Option.isNone_none, List.drop_zero, List.drop_succ_cons, List.getElem?_cons_zero, List.getElem?_cons_succ, List.length_cons, List.length_nil, List.take_succ_cons, List.take_zero, Nat.mul_one, Nat.zero_add, Nat.add_zero, Nat.one_mul, Nat.zero_mul, List.getElem?_map, List.getElem?_drop, List.getElem?_take, List.length_map, Option.map_some, List.set_cons_zero, List.set_cons_succ, and_true, true_and, List.flatMap_cons, List.flatMap_nil, Bool.not_not]
  refine wpa_call (grid_Iter_a p h) ?_
  rintro a rfl
  simp (maxSteps := 1000000) (implicitDefEqProofs := false) (disch := omega) only [push_cast, ↓reduceIte, Nat.reduceEqDiff, reduceCtorEq, decide_true, decide_false, Bool.not_true, Bool.not_false, Option.isNone_some, Option.isNone_none, List.drop_zero, List.drop_succ_cons, List.getElem?_cons_zero, List.getElem?_cons_succ, List.length_cons, List.length_nil, List.take_succ_cons, List.take_zero, Nat.mul_one, Nat.zero_add, Nat.add_zero, Nat.one_mul, Nat.zero_mul, List.getElem?_map, List.getElem?_drop, List.getElem?_take, List.length_map, Option.map_some, List.set_cons_zero, List.set_cons_succ, and_true, true_and, List.flatMap_cons, List.flatMap_nil, Bool.not_not, aInt]
  refine wpa_call (grid_Node_a p.2 p.1) ?_
  rintro a rfl
  rw [heldI_id h.1, heldI_id h.2]
  simp (maxSteps := 1000000) (implicitDefEqProofs := false) (disch := omega) only [push_cast, ↓reduceIte, Nat.reduceEqDiff, reduceCtorEq, decide_true, decide_false, Bool.not_true, Bool.not_false, Option.isNone_some, Option.isNone_none, List.drop_zero, List.drop_succ_cons, List.getElem?_cons_zero, List.getElem?_cons_succ, List.length_cons, List.length_nil, List.take_succ_cons, List.take_zero, Nat.mul_one, Nat.zero_add, Nat.add_zero, Nat.one_mul, Nat.zero_mul, List.getElem?_map, List.getElem?_drop, List.getElem?_take, List.length_map, Option.map_some, List.set_cons_zero, List.set_cons_succ, and_true, true_and, List.flatMap_cons, List.flatMap_nil, Bool.not_not]
  exact ⟨[], rfl, rfl⟩
/-- The next node: one more in the one part. -/
theorem grid_Step_a (p : Int × Int) (h : okP p) (d : Bool) : FnP Try.prog 42 [aN p, aBool d] fun a => ∃ x y : Nat, a = .v (.complex .f64 x y) ∧ wholeI x = (if d then p.1 else heldI (p.1 + 1)) ∧ wholeI y = (if d then heldI (p.2 + 1) else p.2) := by
  refine fnP_in K_grid_Step mixed rfl (by simp [AV.pureL, AV.pure, aN, aBool]) ?_
  obtain ⟨⟨h1, h2⟩, ⟨h3, h4⟩⟩ := h
  have r1 := rep_flI h1 (by omega : p.1 < 2 ^ 52)
  have r2 := rep_flI h3 (by omega : p.2 < 2 ^ 52)
  have q0 : Rep 0 0 := rep_fl0
  have q1 : Rep 4607182418800017408 1 := by have := rep_flI (n := 1) (by omega) (by omega); rwa [fl1] at this
  simp only [S_grid_Step, aN, vN]
  cases d with
  | true =>
    obtain ⟨x, hx, rx⟩ := rep_add r1 q0 (by omega)
    obtain ⟨y, hy, ry⟩ := rep_add r2 q1 (by omega)
    have hv : PF.val (.bin .add) [.complex .f64 (fl p.1) (fl p.2), .complex .f64 0 4607182418800017408] = some (.complex .f64 x y) := by
      show (match Ieee.double.add (fl p.1) 0, Ieee.double.add (fl p.2) 4607182418800017408 with | some a, some b => some (Value.complex .f64 a b) | _, _ => none) = _
      rw [hx, hy]
    simp (maxSteps := 1000000) (implicitDefEqProofs := false) (disch := omega) only [push_cast, ↓reduceIte, Nat.reduceEqDiff, reduceCtorEq, decide_true, decide_false, Bool.not_true, Bool.not_false, Option.isNone_some, Option.isNone_none, List.drop_zero, List.drop_succ_cons, List.getElem?_cons_zero, List.getElem?_cons_succ, List.length_cons, List.length_nil, List.take_succ_cons, List.take_zero, Nat.mul_one, Nat.zero_add, Nat.add_zero, Nat.one_mul, Nat.zero_mul, List.getElem?_map, List.getElem?_drop, List.getElem?_take, List.length_map, Option.map_some, List.set_cons_zero, List.set_cons_succ, and_true, true_and, List.flatMap_cons, List.flatMap_nil, Bool.not_not, aBool, hv]
    refine ⟨[], rfl, x, y, rfl, ?_, ?_⟩
    · rw [wholeI_rep rx]; omega
    · rw [wholeI_rep ry]; unfold heldI; omega
  | false =>
    obtain ⟨x, hx, rx⟩ := rep_add r1 q1 (by omega)
    obtain ⟨y, hy, ry⟩ := rep_add r2 q0 (by omega)
    have hv : PF.val (.bin .add) [.complex .f64 (fl p.1) (fl p.2), .complex .f64 4607182418800017408 0] = some (.complex .f64 x y) := by
      show (match Ieee.double.add (fl p.1) 4607182418800017408, Ieee.double.add (fl p.2) 0 with | some a, some b => some (Value.complex .f64 a b) | _, _ => none) = _
      rw [hx, hy]
    simp (maxSteps := 1000000) (implicitDefEqProofs := false) (disch := omega) only [push_cast, ↓reduceIte, Nat.reduceEqDiff, reduceCtorEq, decide_true, decide_false, Bool.not_true, Bool.not_false, Option.isNone_some, Option.isNone_none, List.drop_zero, List.drop_succ_cons, List.getElem?_cons_zero, List.getElem?_cons_succ, List.length_cons, List.length_nil, List.take_succ_cons, List.take_zero, Nat.mul_one, Nat.zero_add, Nat.add_zero, Nat.one_mul, Nat.zero_mul, List.getElem?_map, List.getElem?_drop, List.getElem?_take, List.length_map, Option.map_some, List.set_cons_zero, List.set_cons_succ, and_true, true_and, List.flatMap_cons, List.flatMap_nil, Bool.not_not, aBool, hv]
    refine ⟨[], rfl, x, y, rfl, ?_, ?_⟩
    · rw [wholeI_rep rx]; unfold heldI; omega
    · rw [wholeI_rep ry]; omega
end Go.Proofs.Ytilofhocodbknaa
