/- StrandMany: the walk: for all marks the call returns true. -/
import Derived.Test.YtilofhocodbknaaStn
namespace Go.Proofs.Ytilofhocodbknaa
set_option linter.unusedVariables false
set_option linter.unusedSimpArgs false
open Go Go.Kx Go.Proofs

theorem part_sum (l : List Mk) : (l.map partM).sum ≤ l.length := by
  induction l with
  | nil => simp
  | cons m l ih =>
    simp only [List.map_cons, List.sum_cons, List.length_cons]
    have : partM m ≤ 1 := by unfold partM; split <;> omega
    omega
theorem word_len (l : List Mk) : (l.flatMap wordM).length ≤ l.length := by
  induction l with
  | nil => simp
  | cons m l ih =>
    rw [List.flatMap_cons, List.length_append, List.length_cons]
    have : (wordM m).length ≤ 1 := by unfold wordM; split; simp; split <;> simp
    omega
def maxS (l : List Ac) : Int := l.foldl (fun a c => max a c.st) 0
theorem maxS_snoc (l : List Ac) (c : Ac) : maxS (l ++ [c]) = max (maxS l) c.st := by simp [maxS]
theorem maxS_lt {n : Nat} (hn : 0 < n) {l : List Ac} (h : ∀ c ∈ l, Rg n c.st) : 0 ≤ maxS l ∧ maxS l < n := by
  induction l using snoc_ind with
  | h0 => exact ⟨by simp [maxS], by simp [maxS]; omega⟩
  | hs l c ih =>
    rw [maxS_snoc]
    have h1 := ih fun x hx => h x (by simp [hx])
    have h2 := h c (by simp)
    unfold Rg at h2
    omega
set_option maxHeartbeats 8000000 in
theorem StrandMany_a (l : List Mk) (hl : l.length ≤ 9223372036854775807) : FnP Try.prog 18 [aMks l] fun a => a = aBool true := by
  refine fnP_in K_forebaylaw30_StrandMany mixed rfl (by simp [AV.pureL, aMks_pure]) ?_
  simp only [S_forebaylaw30_StrandMany]
  simp (maxSteps := 1000000) (implicitDefEqProofs := false) (disch := omega) only [push_cast, ↓reduceIte, Nat.reduceEqDiff, reduceCtorEq, decide_true, decide_false, Bool.not_true, Bool.not_false, Option.isNone_some, Option.isNone_none, List.drop_zero, List.drop_succ_cons, List.getElem?_cons_zero, List.getElem?_cons_succ, List.length_cons, List.length_nil, List.take_succ_cons, List.take_zero, Nat.mul_one, Nat.zero_add, Nat.add_zero, Nat.one_mul, Nat.zero_mul, List.getElem?_map, List.getElem?_drop, List.getElem?_take, List.length_map, Option.map_some, List.set_cons_zero, List.set_cons_succ, and_true, true_and, List.flatMap_cons, List.flatMap_nil, Bool.not_not]
  refine wpa_call law30_works_a ?_
  rintro a rfl
  by_cases h2 : 2000 < l.length
  · simp (maxSteps := 1000000) (implicitDefEqProofs := false) (disch := omega) only [push_cast, ↓reduceIte, Nat.reduceEqDiff, reduceCtorEq, decide_true, decide_false, Bool.not_true, Bool.not_false, Option.isNone_some, Option.isNone_none, List.drop_zero, List.drop_succ_cons, List.getElem?_cons_zero, List.getElem?_cons_succ, List.length_cons, List.length_nil, List.take_succ_cons, List.take_zero, Nat.mul_one, Nat.zero_add, Nat.add_zero, Nat.one_mul, Nat.zero_mul, List.getElem?_map, List.getElem?_drop, List.getElem?_take, List.length_map, Option.map_some, List.set_cons_zero, List.set_cons_succ, and_true, true_and, List.flatMap_cons, List.flatMap_nil, Bool.not_not, aBool, aMks, aSlN, h2]
    exact ⟨[], rfl⟩
  have e9 : AV.sl l.length (l.flatMap aMk) .none = aMks l := rfl
  simp (maxSteps := 1000000) (implicitDefEqProofs := false) (disch := omega) only [push_cast, ↓reduceIte, Nat.reduceEqDiff, reduceCtorEq, decide_true, decide_false, Bool.not_true, Bool.not_false, Option.isNone_some, Option.isNone_none, List.drop_zero, List.drop_succ_cons, List.getElem?_cons_zero, List.getElem?_cons_succ, List.length_cons, List.length_nil, List.take_succ_cons, List.take_zero, Nat.mul_one, Nat.zero_add, Nat.add_zero, Nat.one_mul, Nat.zero_mul, List.getElem?_map, List.getElem?_drop, List.getElem?_take, List.length_map, Option.map_some, List.set_cons_zero, List.set_cons_succ, and_true, true_and, List.flatMap_cons, List.flatMap_nil, Bool.not_not, aBool, aMks, aSlN, h2]
  rw [e9]
  refine wpa_call (law30_Marks_a l (by omega)) ?_
  rintro a rfl
  simp (maxSteps := 1000000) (implicitDefEqProofs := false) (disch := omega) only [push_cast, ↓reduceIte, Nat.reduceEqDiff, reduceCtorEq, decide_true, decide_false, Bool.not_true, Bool.not_false, Option.isNone_some, Option.isNone_none, List.drop_zero, List.drop_succ_cons, List.getElem?_cons_zero, List.getElem?_cons_succ, List.length_cons, List.length_nil, List.take_succ_cons, List.take_zero, Nat.mul_one, Nat.zero_add, Nat.add_zero, Nat.one_mul, Nat.zero_mul, List.getElem?_map, List.getElem?_drop, List.getElem?_take, List.length_map, Option.map_some, List.set_cons_zero, List.set_cons_succ, and_true, true_and, List.flatMap_cons, List.flatMap_nil, Bool.not_not]
  refine wpa_call (build_a l (by omega)) ?_
  rintro a rfl
  simp (maxSteps := 1000000) (implicitDefEqProofs := false) (disch := omega) only [push_cast, ↓reduceIte, Nat.reduceEqDiff, reduceCtorEq, decide_true, decide_false, Bool.not_true, Bool.not_false, Option.isNone_some, Option.isNone_none, List.drop_zero, List.drop_succ_cons, List.getElem?_cons_zero, List.getElem?_cons_succ, List.length_cons, List.length_nil, List.take_succ_cons, List.take_zero, Nat.mul_one, Nat.zero_add, Nat.add_zero, Nat.one_mul, Nat.zero_mul, List.getElem?_map, List.getElem?_drop, List.getElem?_take, List.length_map, Option.map_some, List.set_cons_zero, List.set_cons_succ, and_true, true_and, List.flatMap_cons, List.flatMap_nil, Bool.not_not]
  refine wpa_new ?_
  simp (maxSteps := 1000000) (implicitDefEqProofs := false) (disch := omega) only [push_cast, ↓reduceIte, Nat.reduceEqDiff, reduceCtorEq, decide_true, decide_false, Bool.not_true, Bool.not_false, Option.isNone_some, Option.isNone_none, List.drop_zero, List.drop_succ_cons, List.getElem?_cons_zero, List.getElem?_cons_succ, List.length_cons, List.length_nil, List.take_succ_cons, List.take_zero, Nat.mul_one, Nat.zero_add, Nat.add_zero, Nat.one_mul, Nat.zero_mul, List.getElem?_map, List.getElem?_drop, List.getElem?_take, List.length_map, Option.map_some, List.set_cons_zero, List.set_cons_succ, and_true, true_and, List.flatMap_cons, List.flatMap_nil, Bool.not_not]
  refine wpa_stn rfl rfl rfl (by decide) ?_
  have hset : ∀ D, setAtA [AV.sl 0 [] .nil, AV.sl 0 [] .nil, AV.sl 0 [] .nil] 0 (dagC D) = dagC D := fun _ => rfl
  by_cases h0 : (buildR l).1 = 0
  · have hrun := buildR_ok h0
    obtain ⟨hpi, hnn, hpl, hwd⟩ := pi_run l inv0 pi0 hrun
    obtain ⟨hpp, hid⟩ := pl_run l inv0 pl0 hrun
    have hda := hid.c.a
    have hps := part_sum l
    have hwl := word_len l
    have hb1 : bd0.preds.length = 1 := rfl
    have hb2 : bd0.accs.map Ac.wd = [] := rfl
    rw [hb1] at hpl
    rw [hb2, List.nil_append] at hwd
    generalize (buildR l).2 = D at hpi hnn hset hpp hda hpl hwd ⊢
    have d0 := dagC_0 D
    have d2 := dagC_2 D
    have hne := hpi.c.ne
    simp (maxSteps := 1000000) (implicitDefEqProofs := false) (disch := omega) only [push_cast, ↓reduceIte, Nat.reduceEqDiff, reduceCtorEq, decide_true, decide_false, Bool.not_true, Bool.not_false, Option.isNone_some, Option.isNone_none, List.drop_zero, List.drop_succ_cons, List.getElem?_cons_zero, List.getElem?_cons_succ, List.length_cons, List.length_nil, List.take_succ_cons, List.take_zero, Nat.mul_one, Nat.zero_add, Nat.add_zero, Nat.one_mul, Nat.zero_mul, List.getElem?_map, List.getElem?_drop, List.getElem?_take, List.length_map, Option.map_some, List.set_cons_zero, List.set_cons_succ, and_true, true_and, List.flatMap_cons, List.flatMap_nil, Bool.not_not, hset, aInt, h0, aMks, aSlN]
    refine wpa_blg (GU.tok 6 1 rfl) (α := Nat) (I := fun n ε σ => (ε 0 = .sl l.length (l.flatMap aMk) .none ∧ ε 3 = .ref 0 0 0 ∧ ε 5 = .v (.int .i64 ((1 + ((l.take n).map partM).sum : Nat))) ∧ ε 7 = .sl 0 [] .nil ∧ ε 8 = .v (.int .i64 n)) ∧ n ≤ l.length ∧
        ∃ w, ε 6 = .sl ((l.take n).flatMap wordM).length (((l.take n).flatMap wordM).map aInt) (.id 1 w 1) ∧ σ[0]? = some (.obj 0 (dagC D)) ∧ σ[1]? = some (.tail w))
      (μ := fun n => l.length - n) (Q := fun ε σ => (ε 3 = .ref 0 0 0 ∧ ε 5 = .v (.int .i64 D.preds.length) ∧ ε 7 = .sl 0 [] .nil) ∧ (∃ tt, ε 6 = .sl (l.flatMap wordM).length ((l.flatMap wordM).map aInt) tt) ∧ σ[0]? = some (.obj 0 (dagC D))) (x := 0) ?_ ?_ ?_
    · simp (maxSteps := 1000000) (implicitDefEqProofs := false) (disch := omega) only [push_cast, ↓reduceIte, Nat.reduceEqDiff, reduceCtorEq, decide_true, decide_false, Bool.not_true, Bool.not_false, Option.isNone_some, Option.isNone_none, List.drop_zero, List.drop_succ_cons, List.getElem?_cons_zero, List.getElem?_cons_succ, List.length_cons, List.length_nil, List.take_succ_cons, List.take_zero, Nat.mul_one, Nat.zero_add, Nat.add_zero, Nat.one_mul, Nat.zero_mul, List.getElem?_map, List.getElem?_drop, List.getElem?_take, List.length_map, Option.map_some, List.set_cons_zero, List.set_cons_succ, and_true, true_and, List.flatMap_cons, List.flatMap_nil, Bool.not_not]
      refine ⟨rfl, by omega, 0, ?_⟩
      first | rfl | exact ⟨rfl, rfl⟩ | exact ⟨rfl, rfl, rfl⟩
    · rintro n ε σ N E ⟨hρ, hn, w, h6, hs0, hs1⟩ hN hE
      simp only [S_forebaylaw30_StrandMany_L1]
      by_cases hlt : n < l.length
      · obtain ⟨m, hm⟩ := at_lt hlt
        have hd := flat_drop aMk_len hm
        have g0 : ∀ k : List AV, (aMk m ++ k)[0]? = some (.v (.int .i64 m.k)) := fun _ => rfl
        have g1 : ∀ k : List AV, (aMk m ++ k)[1]? = some (.v (.int .i64 m.a)) := fun _ => rfl
        have hp1 := part_sum (l.take n)
        have hw1 := word_len (l.take n)
        rw [List.length_take] at hp1 hw1
        have hsum : ((l.take (n + 1)).map partM).sum = ((l.take n).map partM).sum + partM m := by rw [take_succ_at hm]; simp
        have hwrd : (l.take (n + 1)).flatMap wordM = (l.take n).flatMap wordM ++ wordM m := by rw [take_succ_at hm]; simp
        have hN1 := hN (n + 1)
        rw [hsum, hwrd] at hN1
        generalize ((l.take n).map partM).sum = s at hρ hp1 hN1
        generalize (l.take n).flatMap wordM = ws at h6 hw1 hN1
        by_cases hpart : m.k = 4 ∨ m.k = 5 ∨ m.k = 6 ∨ m.k = 9 ∨ m.k = 11 ∨ m.k = 12 ∨ m.k = 8
        · have hpm : partM m = 1 := by unfold partM; rw [if_pos hpart]
          have hwm : wordM m = [] := by unfold wordM; rw [if_neg (by omega), if_neg (by omega)]
          rw [hpm, hwm, List.append_nil] at hN1
          rcases hpart with k | k | k | k | k | k | k <;> (
            simp (maxSteps := 1000000) (implicitDefEqProofs := false) (disch := omega) only [push_cast, ↓reduceIte, Nat.reduceEqDiff, reduceCtorEq, decide_true, decide_false, Bool.not_true, Bool.not_false, Option.isNone_some, Option.isNone_none, List.drop_zero, List.drop_succ_cons, List.getElem?_cons_zero, List.getElem?_cons_succ, List.length_cons, List.length_nil, List.take_succ_cons, List.take_zero, Nat.mul_one, Nat.zero_add, Nat.add_zero, Nat.one_mul, Nat.zero_mul, List.getElem?_map, List.getElem?_drop, List.getElem?_take, List.length_map, Option.map_some, List.set_cons_zero, List.set_cons_succ, and_true, true_and, List.flatMap_cons, List.flatMap_nil, Bool.not_not, hρ, hd, g0, k]
            refine hN1 _ _ ?_ (by omega)
            simp (maxSteps := 1000000) (implicitDefEqProofs := false) (disch := omega) only [push_cast, ↓reduceIte, Nat.reduceEqDiff, reduceCtorEq, decide_true, decide_false, Bool.not_true, Bool.not_false, Option.isNone_some, Option.isNone_none, List.drop_zero, List.drop_succ_cons, List.getElem?_cons_zero, List.getElem?_cons_succ, List.length_cons, List.length_nil, List.take_succ_cons, List.take_zero, Nat.mul_one, Nat.zero_add, Nat.add_zero, Nat.one_mul, Nat.zero_mul, List.getElem?_map, List.getElem?_drop, List.getElem?_take, List.length_map, Option.map_some, List.set_cons_zero, List.set_cons_succ, and_true, true_and, List.flatMap_cons, List.flatMap_nil, Bool.not_not, hρ]
            exact ⟨by congr 2, by omega, w, h6, hs0, hs1⟩)
        · have hpm : partM m = 0 := by unfold partM; rw [if_neg hpart]
          rw [hpm] at hN1
          have j4 : ¬ m.k = 4 := by omega
          have j5 : ¬ m.k = 5 := by omega
          have j6 : ¬ m.k = 6 := by omega
          have j9 : ¬ m.k = 9 := by omega
          have j11 : ¬ m.k = 11 := by omega
          have j12 : ¬ m.k = 12 := by omega
          have j8 : ¬ m.k = 8 := by omega
          by_cases k12 : m.k = 1 ∨ m.k = 2
          · have hwm : wordM m = [m.a] := by unfold wordM; rw [if_pos k12]
            rw [hwm] at hN1
            rcases k12 with k | k <;> (
              simp (maxSteps := 1000000) (implicitDefEqProofs := false) (disch := omega) only [push_cast, ↓reduceIte, Nat.reduceEqDiff, reduceCtorEq, decide_true, decide_false, Bool.not_true, Bool.not_false, Option.isNone_some, Option.isNone_none, List.drop_zero, List.drop_succ_cons, List.getElem?_cons_zero, List.getElem?_cons_succ, List.length_cons, List.length_nil, List.take_succ_cons, List.take_zero, Nat.mul_one, Nat.zero_add, Nat.add_zero, Nat.one_mul, Nat.zero_mul, List.getElem?_map, List.getElem?_drop, List.getElem?_take, List.length_map, Option.map_some, List.set_cons_zero, List.set_cons_succ, and_true, true_and, List.flatMap_cons, List.flatMap_nil, Bool.not_not, hρ, hd, g0, g1, k]
              refine wpa_bsl (sz := 1) (by intro a ha; simp at ha; subst ha; rfl) (by simp) ?_
              simp (maxSteps := 1000000) (implicitDefEqProofs := false) (disch := omega) only [push_cast, ↓reduceIte, Nat.reduceEqDiff, reduceCtorEq, decide_true, decide_false, Bool.not_true, Bool.not_false, Option.isNone_some, Option.isNone_none, List.drop_zero, List.drop_succ_cons, List.getElem?_cons_zero, List.getElem?_cons_succ, List.length_cons, List.length_nil, List.take_succ_cons, List.take_zero, Nat.mul_one, Nat.zero_add, Nat.add_zero, Nat.one_mul, Nat.zero_mul, List.getElem?_map, List.getElem?_drop, List.getElem?_take, List.length_map, Option.map_some, List.set_cons_zero, List.set_cons_succ, and_true, true_and, List.flatMap_cons, List.flatMap_nil, Bool.not_not, h6]
              refine wpa_app (m := 1) rfl rfl rfl rfl (by simp) (by omega) (by omega) hs1 ?_
              simp (maxSteps := 1000000) (implicitDefEqProofs := false) (disch := omega) only [push_cast, ↓reduceIte, Nat.reduceEqDiff, reduceCtorEq, decide_true, decide_false, Bool.not_true, Bool.not_false, Option.isNone_some, Option.isNone_none, List.drop_zero, List.drop_succ_cons, List.getElem?_cons_zero, List.getElem?_cons_succ, List.length_cons, List.length_nil, List.take_succ_cons, List.take_zero, Nat.mul_one, Nat.zero_add, Nat.add_zero, Nat.one_mul, Nat.zero_mul, List.getElem?_map, List.getElem?_drop, List.getElem?_take, List.length_map, Option.map_some, List.set_cons_zero, List.set_cons_succ, and_true, true_and, List.flatMap_cons, List.flatMap_nil, Bool.not_not, hρ]
              refine hN1 _ _ ?_ (by omega)
              simp (maxSteps := 1000000) (implicitDefEqProofs := false) (disch := omega) only [push_cast, ↓reduceIte, Nat.reduceEqDiff, reduceCtorEq, decide_true, decide_false, Bool.not_true, Bool.not_false, Option.isNone_some, Option.isNone_none, List.drop_zero, List.drop_succ_cons, List.getElem?_cons_zero, List.getElem?_cons_succ, List.length_cons, List.length_nil, List.take_succ_cons, List.take_zero, Nat.mul_one, Nat.zero_add, Nat.add_zero, Nat.one_mul, Nat.zero_mul, List.getElem?_map, List.getElem?_drop, List.getElem?_take, List.length_map, Option.map_some, List.set_cons_zero, List.set_cons_succ, and_true, true_and, List.flatMap_cons, List.flatMap_nil, Bool.not_not, hρ]
              exact ⟨by omega, w + 1, by simp [aInt], by rw [get_set_ne (by omega) hs0], get_set_eq hs1⟩)
          · have j1 : ¬ m.k = 1 := fun h => k12 (.inl h)
            have j2 : ¬ m.k = 2 := fun h => k12 (.inr h)
            by_cases k3 : m.k = 3
            · have hwm : wordM m = [-1] := by unfold wordM; rw [if_neg k12, if_pos k3]
              rw [hwm] at hN1
              simp (maxSteps := 1000000) (implicitDefEqProofs := false) (disch := omega) only [push_cast, ↓reduceIte, Nat.reduceEqDiff, reduceCtorEq, decide_true, decide_false, Bool.not_true, Bool.not_false, Option.isNone_some, Option.isNone_none, List.drop_zero, List.drop_succ_cons, List.getElem?_cons_zero, List.getElem?_cons_succ, List.length_cons, List.length_nil, List.take_succ_cons, List.take_zero, Nat.mul_one, Nat.zero_add, Nat.add_zero, Nat.one_mul, Nat.zero_mul, List.getElem?_map, List.getElem?_drop, List.getElem?_take, List.length_map, Option.map_some, List.set_cons_zero, List.set_cons_succ, and_true, true_and, List.flatMap_cons, List.flatMap_nil, Bool.not_not, hρ, hd, g0, k3]
              refine wpa_bsl (sz := 1) (by intro a ha; simp at ha; subst ha; rfl) (by simp) ?_
              simp (maxSteps := 1000000) (implicitDefEqProofs := false) (disch := omega) only [push_cast, ↓reduceIte, Nat.reduceEqDiff, reduceCtorEq, decide_true, decide_false, Bool.not_true, Bool.not_false, Option.isNone_some, Option.isNone_none, List.drop_zero, List.drop_succ_cons, List.getElem?_cons_zero, List.getElem?_cons_succ, List.length_cons, List.length_nil, List.take_succ_cons, List.take_zero, Nat.mul_one, Nat.zero_add, Nat.add_zero, Nat.one_mul, Nat.zero_mul, List.getElem?_map, List.getElem?_drop, List.getElem?_take, List.length_map, Option.map_some, List.set_cons_zero, List.set_cons_succ, and_true, true_and, List.flatMap_cons, List.flatMap_nil, Bool.not_not, h6]
              refine wpa_app (m := 1) rfl rfl rfl rfl (by simp) (by omega) (by omega) hs1 ?_
              simp (maxSteps := 1000000) (implicitDefEqProofs := false) (disch := omega) only [push_cast, ↓reduceIte, Nat.reduceEqDiff, reduceCtorEq, decide_true, decide_false, Bool.not_true, Bool.not_false, Option.isNone_some, Option.isNone_none, List.drop_zero, List.drop_succ_cons, List.getElem?_cons_zero, List.getElem?_cons_succ, List.length_cons, List.length_nil, List.take_succ_cons, List.take_zero, Nat.mul_one, Nat.zero_add, Nat.add_zero, Nat.one_mul, Nat.zero_mul, List.getElem?_map, List.getElem?_drop, List.getElem?_take, List.length_map, Option.map_some, List.set_cons_zero, List.set_cons_succ, and_true, true_and, List.flatMap_cons, List.flatMap_nil, Bool.not_not, hρ]
              refine hN1 _ _ ?_ (by omega)
              simp (maxSteps := 1000000) (implicitDefEqProofs := false) (disch := omega) only [push_cast, ↓reduceIte, Nat.reduceEqDiff, reduceCtorEq, decide_true, decide_false, Bool.not_true, Bool.not_false, Option.isNone_some, Option.isNone_none, List.drop_zero, List.drop_succ_cons, List.getElem?_cons_zero, List.getElem?_cons_succ, List.length_cons, List.length_nil, List.take_succ_cons, List.take_zero, Nat.mul_one, Nat.zero_add, Nat.add_zero, Nat.one_mul, Nat.zero_mul, List.getElem?_map, List.getElem?_drop, List.getElem?_take, List.length_map, Option.map_some, List.set_cons_zero, List.set_cons_succ, and_true, true_and, List.flatMap_cons, List.flatMap_nil, Bool.not_not, hρ]
              exact ⟨by omega, w + 1, by simp [aInt], by rw [get_set_ne (by omega) hs0], get_set_eq hs1⟩
            · have hwm : wordM m = [] := by unfold wordM; rw [if_neg k12, if_neg k3]
              rw [hwm, List.append_nil] at hN1
              simp (maxSteps := 1000000) (implicitDefEqProofs := false) (disch := omega) only [push_cast, ↓reduceIte, Nat.reduceEqDiff, reduceCtorEq, decide_true, decide_false, Bool.not_true, Bool.not_false, Option.isNone_some, Option.isNone_none, List.drop_zero, List.drop_succ_cons, List.getElem?_cons_zero, List.getElem?_cons_succ, List.length_cons, List.length_nil, List.take_succ_cons, List.take_zero, Nat.mul_one, Nat.zero_add, Nat.add_zero, Nat.one_mul, Nat.zero_mul, List.getElem?_map, List.getElem?_drop, List.getElem?_take, List.length_map, Option.map_some, List.set_cons_zero, List.set_cons_succ, and_true, true_and, List.flatMap_cons, List.flatMap_nil, Bool.not_not, hρ, hd, g0, j4, j5, j6, j9, j11, j12, j8, j1, j2, k3]
              refine hN1 _ _ ?_ (by omega)
              simp (maxSteps := 1000000) (implicitDefEqProofs := false) (disch := omega) only [push_cast, ↓reduceIte, Nat.reduceEqDiff, reduceCtorEq, decide_true, decide_false, Bool.not_true, Bool.not_false, Option.isNone_some, Option.isNone_none, List.drop_zero, List.drop_succ_cons, List.getElem?_cons_zero, List.getElem?_cons_succ, List.length_cons, List.length_nil, List.take_succ_cons, List.take_zero, Nat.mul_one, Nat.zero_add, Nat.add_zero, Nat.one_mul, Nat.zero_mul, List.getElem?_map, List.getElem?_drop, List.getElem?_take, List.length_map, Option.map_some, List.set_cons_zero, List.set_cons_succ, and_true, true_and, List.flatMap_cons, List.flatMap_nil, Bool.not_not, hρ]
              exact ⟨by omega, w, h6, hs0, hs1⟩
      · simp (maxSteps := 1000000) (implicitDefEqProofs := false) (disch := omega) only [push_cast, ↓reduceIte, Nat.reduceEqDiff, reduceCtorEq, decide_true, decide_false, Bool.not_true, Bool.not_false, Option.isNone_some, Option.isNone_none, List.drop_zero, List.drop_succ_cons, List.getElem?_cons_zero, List.getElem?_cons_succ, List.length_cons, List.length_nil, List.take_succ_cons, List.take_zero, Nat.mul_one, Nat.zero_add, Nat.add_zero, Nat.one_mul, Nat.zero_mul, List.getElem?_map, List.getElem?_drop, List.getElem?_take, List.length_map, Option.map_some, List.set_cons_zero, List.set_cons_succ, and_true, true_and, List.flatMap_cons, List.flatMap_nil, Bool.not_not, hρ]
        refine hE _ _ ?_
        rw [List.take_of_length_le (by omega)] at hρ h6
        rw [← hpl] at hρ
        simp (maxSteps := 1000000) (implicitDefEqProofs := false) (disch := omega) only [push_cast, ↓reduceIte, Nat.reduceEqDiff, reduceCtorEq, decide_true, decide_false, Bool.not_true, Bool.not_false, Option.isNone_some, Option.isNone_none, List.drop_zero, List.drop_succ_cons, List.getElem?_cons_zero, List.getElem?_cons_succ, List.length_cons, List.length_nil, List.take_succ_cons, List.take_zero, Nat.mul_one, Nat.zero_add, Nat.add_zero, Nat.one_mul, Nat.zero_mul, List.getElem?_map, List.getElem?_drop, List.getElem?_take, List.length_map, Option.map_some, List.set_cons_zero, List.set_cons_succ, and_true, true_and, List.flatMap_cons, List.flatMap_nil, Bool.not_not, hρ]
        exact ⟨⟨_, h6⟩, hs0⟩
    · rintro ε σ ⟨hρ, ⟨tt, h6⟩, hs0⟩
      refine wpa_seqx (fun ε σ => (ε 3 = .ref 0 0 0 ∧ ε 5 = .v (.int .i64 D.preds.length) ∧ ε 6 = .sl (l.flatMap wordM).length ((l.flatMap wordM).map aInt) tt ∧ ε 7 = .sl 0 [] .nil ∧ ε 9 = .v (.int .i64 0)) ∧ σ[0]? = some (.obj 0 (dagC D))) ?_ ?_
      · intro N X R hN
        simp (maxSteps := 1000000) (implicitDefEqProofs := false) (disch := omega) only [push_cast, ↓reduceIte, Nat.reduceEqDiff, reduceCtorEq, decide_true, decide_false, Bool.not_true, Bool.not_false, Option.isNone_some, Option.isNone_none, List.drop_zero, List.drop_succ_cons, List.getElem?_cons_zero, List.getElem?_cons_succ, List.length_cons, List.length_nil, List.take_succ_cons, List.take_zero, Nat.mul_one, Nat.zero_add, Nat.add_zero, Nat.one_mul, Nat.zero_mul, List.getElem?_map, List.getElem?_drop, List.getElem?_take, List.length_map, Option.map_some, List.set_cons_zero, List.set_cons_succ, and_true, true_and, List.flatMap_cons, List.flatMap_nil, Bool.not_not]
        refine hN _ _ ?_
        simp (maxSteps := 1000000) (implicitDefEqProofs := false) (disch := omega) only [push_cast, ↓reduceIte, Nat.reduceEqDiff, reduceCtorEq, decide_true, decide_false, Bool.not_true, Bool.not_false, Option.isNone_some, Option.isNone_none, List.drop_zero, List.drop_succ_cons, List.getElem?_cons_zero, List.getElem?_cons_succ, List.length_cons, List.length_nil, List.take_succ_cons, List.take_zero, Nat.mul_one, Nat.zero_add, Nat.add_zero, Nat.one_mul, Nat.zero_mul, List.getElem?_map, List.getElem?_drop, List.getElem?_take, List.length_map, Option.map_some, List.set_cons_zero, List.set_cons_succ, and_true, true_and, List.flatMap_cons, List.flatMap_nil, Bool.not_not, hρ, h6]
        exact hs0
      clear hρ h6 hs0 ε
      rintro ε σ ⟨hρ, hs0⟩
      simp (maxSteps := 1000000) (implicitDefEqProofs := false) (disch := omega) only [push_cast, ↓reduceIte, Nat.reduceEqDiff, reduceCtorEq, decide_true, decide_false, Bool.not_true, Bool.not_false, Option.isNone_some, Option.isNone_none, List.drop_zero, List.drop_succ_cons, List.getElem?_cons_zero, List.getElem?_cons_succ, List.length_cons, List.length_nil, List.take_succ_cons, List.take_zero, Nat.mul_one, Nat.zero_add, Nat.add_zero, Nat.one_mul, Nat.zero_mul, List.getElem?_map, List.getElem?_drop, List.getElem?_take, List.length_map, Option.map_some, List.set_cons_zero, List.set_cons_succ, and_true, true_and, List.flatMap_cons, List.flatMap_nil, Bool.not_not]
      have hlt0 := lt_at hs0
      refine wpa_blg (GU.tok 7 1 (by simp (maxSteps := 1000000) (implicitDefEqProofs := false) (disch := omega) only [push_cast, ↓reduceIte, Nat.reduceEqDiff, reduceCtorEq, decide_true, decide_false, Bool.not_true, Bool.not_false, Option.isNone_some, Option.isNone_none, List.drop_zero, List.drop_succ_cons, List.getElem?_cons_zero, List.getElem?_cons_succ, List.length_cons, List.length_nil, List.take_succ_cons, List.take_zero, Nat.mul_one, Nat.zero_add, Nat.add_zero, Nat.one_mul, Nat.zero_mul, List.getElem?_map, List.getElem?_drop, List.getElem?_take, List.length_map, Option.map_some, List.set_cons_zero, List.set_cons_succ, and_true, true_and, List.flatMap_cons, List.flatMap_nil, Bool.not_not, hρ])) (α := Nat) (I := fun n ε σ => (ε 3 = .ref 0 0 0 ∧ ε 5 = .v (.int .i64 D.preds.length) ∧ ε 6 = .sl (l.flatMap wordM).length ((l.flatMap wordM).map aInt) tt ∧ ε 9 = .v (.int .i64 (maxS (D.accs.take n))) ∧ ε 10 = .v (.int .i64 n)) ∧ n ≤ D.accs.length ∧
          σ[0]? = some (.obj 0 (dagC D)) ∧ ∃ j w, j ≠ 0 ∧ ε 7 = .sl n ((D.accs.take n).map fun a => aInt a.wd) (.id j w 1) ∧ σ[j]? = some (.tail w))
        (μ := fun n => D.accs.length - n) (Q := fun ε σ => (ε 3 = .ref 0 0 0 ∧ ε 5 = .v (.int .i64 D.preds.length) ∧ ε 6 = .sl (l.flatMap wordM).length ((l.flatMap wordM).map aInt) tt ∧ ε 9 = .v (.int .i64 (maxS D.accs))) ∧
          σ[0]? = some (.obj 0 (dagC D)) ∧ ∃ t7, ε 7 = .sl D.accs.length (D.accs.map fun a => aInt a.wd) t7) (x := 0) ?_ ?_ ?_
      · simp (maxSteps := 1000000) (implicitDefEqProofs := false) (disch := omega) only [push_cast, ↓reduceIte, Nat.reduceEqDiff, reduceCtorEq, decide_true, decide_false, Bool.not_true, Bool.not_false, Option.isNone_some, Option.isNone_none, List.drop_zero, List.drop_succ_cons, List.getElem?_cons_zero, List.getElem?_cons_succ, List.length_cons, List.length_nil, List.take_succ_cons, List.take_zero, Nat.mul_one, Nat.zero_add, Nat.add_zero, Nat.one_mul, Nat.zero_mul, List.getElem?_map, List.getElem?_drop, List.getElem?_take, List.length_map, Option.map_some, List.set_cons_zero, List.set_cons_succ, and_true, true_and, List.flatMap_cons, List.flatMap_nil, Bool.not_not, hρ]
        exact ⟨rfl, by omega, get_app hs0, σ.length, 0, by omega, rfl, at_snoc _ _⟩
      · clear hρ hs0 hlt0 ε
        rintro n ε σ N E ⟨hρ, hn, hs0, j, w, hj, h7, hs1⟩ hN hE
        simp only [S_forebaylaw30_StrandMany_L2]
        by_cases hlt : n < D.accs.length
        · obtain ⟨a, ha⟩ := at_lt hlt
          have hd := flat_drop aAc_len ha
          have g0 : ∀ k : List AV, (aAc a ++ k)[0]? = some (.v (.int .i64 a.st)) := fun _ => rfl
          have g1 : ∀ k : List AV, (aAc a ++ k)[1]? = some (.v (.int .i64 a.wd)) := fun _ => rfl
          have hN1 := hN (n + 1)
          rw [take_succ_at ha, maxS_snoc, List.map_append] at hN1
          have hs0' : (σ.set j (.tail (w + 1)))[0]? = some (.obj 0 (dagC D)) := get_set_ne hj hs0
          simp (maxSteps := 1000000) (implicitDefEqProofs := false) (disch := omega) only [push_cast, ↓reduceIte, Nat.reduceEqDiff, reduceCtorEq, decide_true, decide_false, Bool.not_true, Bool.not_false, Option.isNone_some, Option.isNone_none, List.drop_zero, List.drop_succ_cons, List.getElem?_cons_zero, List.getElem?_cons_succ, List.length_cons, List.length_nil, List.take_succ_cons, List.take_zero, Nat.mul_one, Nat.zero_add, Nat.add_zero, Nat.one_mul, Nat.zero_mul, List.getElem?_map, List.getElem?_drop, List.getElem?_take, List.length_map, Option.map_some, List.set_cons_zero, List.set_cons_succ, and_true, true_and, List.flatMap_cons, List.flatMap_nil, Bool.not_not, hρ, hs0, d2, hd, g1, h7]
          refine wpa_bsl (sz := 1) (by intro a ha; simp at ha; subst ha; rfl) (by simp) ?_
          simp (maxSteps := 1000000) (implicitDefEqProofs := false) (disch := omega) only [push_cast, ↓reduceIte, Nat.reduceEqDiff, reduceCtorEq, decide_true, decide_false, Bool.not_true, Bool.not_false, Option.isNone_some, Option.isNone_none, List.drop_zero, List.drop_succ_cons, List.getElem?_cons_zero, List.getElem?_cons_succ, List.length_cons, List.length_nil, List.take_succ_cons, List.take_zero, Nat.mul_one, Nat.zero_add, Nat.add_zero, Nat.one_mul, Nat.zero_mul, List.getElem?_map, List.getElem?_drop, List.getElem?_take, List.length_map, Option.map_some, List.set_cons_zero, List.set_cons_succ, and_true, true_and, List.flatMap_cons, List.flatMap_nil, Bool.not_not, hρ]
          refine wpa_app (m := 1) rfl rfl rfl rfl (by simp; omega) (by omega) (by omega) hs1 ?_
          simp (maxSteps := 1000000) (implicitDefEqProofs := false) (disch := omega) only [push_cast, ↓reduceIte, Nat.reduceEqDiff, reduceCtorEq, decide_true, decide_false, Bool.not_true, Bool.not_false, Option.isNone_some, Option.isNone_none, List.drop_zero, List.drop_succ_cons, List.getElem?_cons_zero, List.getElem?_cons_succ, List.length_cons, List.length_nil, List.take_succ_cons, List.take_zero, Nat.mul_one, Nat.zero_add, Nat.add_zero, Nat.one_mul, Nat.zero_mul, List.getElem?_map, List.getElem?_drop, List.getElem?_take, List.length_map, Option.map_some, List.set_cons_zero, List.set_cons_succ, and_true, true_and, List.flatMap_cons, List.flatMap_nil, Bool.not_not, hρ, hs0', d2, hd, g0]
          refine hN1 _ _ ?_ (by omega)
          simp (maxSteps := 1000000) (implicitDefEqProofs := false) (disch := omega) only [push_cast, ↓reduceIte, Nat.reduceEqDiff, reduceCtorEq, decide_true, decide_false, Bool.not_true, Bool.not_false, Option.isNone_some, Option.isNone_none, List.drop_zero, List.drop_succ_cons, List.getElem?_cons_zero, List.getElem?_cons_succ, List.length_cons, List.length_nil, List.take_succ_cons, List.take_zero, Nat.mul_one, Nat.zero_add, Nat.add_zero, Nat.one_mul, Nat.zero_mul, List.getElem?_map, List.getElem?_drop, List.getElem?_take, List.length_map, Option.map_some, List.set_cons_zero, List.set_cons_succ, and_true, true_and, List.flatMap_cons, List.flatMap_nil, Bool.not_not, hρ]
          exact ⟨by omega, hs0', j, w + 1, hj, by simp [aInt], get_set_eq hs1⟩
        · simp (maxSteps := 1000000) (implicitDefEqProofs := false) (disch := omega) only [push_cast, ↓reduceIte, Nat.reduceEqDiff, reduceCtorEq, decide_true, decide_false, Bool.not_true, Bool.not_false, Option.isNone_some, Option.isNone_none, List.drop_zero, List.drop_succ_cons, List.getElem?_cons_zero, List.getElem?_cons_succ, List.length_cons, List.length_nil, List.take_succ_cons, List.take_zero, Nat.mul_one, Nat.zero_add, Nat.add_zero, Nat.one_mul, Nat.zero_mul, List.getElem?_map, List.getElem?_drop, List.getElem?_take, List.length_map, Option.map_some, List.set_cons_zero, List.set_cons_succ, and_true, true_and, List.flatMap_cons, List.flatMap_nil, Bool.not_not, hρ, hs0, d2]
          refine hE _ _ ?_
          have hnn : n = D.accs.length := by omega
          subst hnn
          rw [List.take_length] at hρ h7
          simp (maxSteps := 1000000) (implicitDefEqProofs := false) (disch := omega) only [push_cast, ↓reduceIte, Nat.reduceEqDiff, reduceCtorEq, decide_true, decide_false, Bool.not_true, Bool.not_false, Option.isNone_some, Option.isNone_none, List.drop_zero, List.drop_succ_cons, List.getElem?_cons_zero, List.getElem?_cons_succ, List.length_cons, List.length_nil, List.take_succ_cons, List.take_zero, Nat.mul_one, Nat.zero_add, Nat.add_zero, Nat.one_mul, Nat.zero_mul, List.getElem?_map, List.getElem?_drop, List.getElem?_take, List.length_map, Option.map_some, List.set_cons_zero, List.set_cons_succ, and_true, true_and, List.flatMap_cons, List.flatMap_nil, Bool.not_not, hρ]
          exact ⟨hs0, _, h7⟩
      · clear hρ hs0 hlt0 ε
        rintro ε σ ⟨hρ, hs0, t7, h7⟩
        have hml := maxS_lt hne hpi.c.ac
        have hwl2 : (D.accs.map fun a => aInt a.wd) = (l.flatMap wordM).map aInt := by rw [← hwd, List.map_map]; rfl
        have hwl3 : D.accs.length = (l.flatMap wordM).length := by rw [← hwd, List.length_map]
        rw [hwl2, hwl3] at h7
        simp (maxSteps := 1000000) (implicitDefEqProofs := false) (disch := omega) only [push_cast, ↓reduceIte, Nat.reduceEqDiff, reduceCtorEq, decide_true, decide_false, Bool.not_true, Bool.not_false, Option.isNone_some, Option.isNone_none, List.drop_zero, List.drop_succ_cons, List.getElem?_cons_zero, List.getElem?_cons_succ, List.length_cons, List.length_nil, List.take_succ_cons, List.take_zero, Nat.mul_one, Nat.zero_add, Nat.add_zero, Nat.one_mul, Nat.zero_mul, List.getElem?_map, List.getElem?_drop, List.getElem?_take, List.length_map, Option.map_some, List.set_cons_zero, List.set_cons_succ, and_true, true_and, List.flatMap_cons, List.flatMap_nil, Bool.not_not, hρ, hs0, d0, h7]
        refine wpa_callw [] [true, true] (law05_Ints_a (l.flatMap wordM) (l.flatMap wordM) (by omega) (by omega)) ?_ ?_
        · simp only [weak, if_true]
          rw [aSl_res (aInt_res _) _ t7, aSl_res (aInt_res _) _ tt]; rfl
        rintro a rfl
        rw [fzn, beq_self_eq_true]
        simp (maxSteps := 1000000) (implicitDefEqProofs := false) (disch := omega) only [push_cast, ↓reduceIte, Nat.reduceEqDiff, reduceCtorEq, decide_true, decide_false, Bool.not_true, Bool.not_false, Option.isNone_some, Option.isNone_none, List.drop_zero, List.drop_succ_cons, List.getElem?_cons_zero, List.getElem?_cons_succ, List.length_cons, List.length_nil, List.take_succ_cons, List.take_zero, Nat.mul_one, Nat.zero_add, Nat.add_zero, Nat.one_mul, Nat.zero_mul, List.getElem?_map, List.getElem?_drop, List.getElem?_take, List.length_map, Option.map_some, List.set_cons_zero, List.set_cons_succ, and_true, true_and, List.flatMap_cons, List.flatMap_nil, Bool.not_not, aBool, hρ]
        exact ⟨[], rfl⟩
  · simp (maxSteps := 1000000) (implicitDefEqProofs := false) (disch := omega) only [push_cast, ↓reduceIte, Nat.reduceEqDiff, reduceCtorEq, decide_true, decide_false, Bool.not_true, Bool.not_false, Option.isNone_some, Option.isNone_none, List.drop_zero, List.drop_succ_cons, List.getElem?_cons_zero, List.getElem?_cons_succ, List.length_cons, List.length_nil, List.take_succ_cons, List.take_zero, Nat.mul_one, Nat.zero_add, Nat.add_zero, Nat.one_mul, Nat.zero_mul, List.getElem?_map, List.getElem?_drop, List.getElem?_take, List.length_map, Option.map_some, List.set_cons_zero, List.set_cons_succ, and_true, true_and, List.flatMap_cons, List.flatMap_nil, Bool.not_not, hset, aInt, h0]
    exact ⟨[], rfl⟩
end Go.Proofs.Ytilofhocodbknaa
