/- TidyPrograms: works; the walk; shapes of what comes in. -/
import Derived.Test.YthgmfjkbgacfaaaTdo
namespace Go.Proofs.Ythgmfjkbgacfaaa
set_option linter.unusedVariables false
set_option linter.unusedSimpArgs false
open Go Go.Kx Go.Proofs

def L0 : List Ix := [⟨18, 2, 0, 0⟩, ⟨17, 1, 0, 0⟩, ⟨18, 3, 0, 0⟩, ⟨0, 0, 0, 0⟩]
def L9 : List Ix := [⟨0, 0, 0, 0⟩]
theorem prg_L0 : prgE 0 [L0] = 0 := by rfl
theorem fix_L0 : fixR L0 = L9 := by rfl
theorem drop_L0 : dropS [L0] = 3 := by rfl
theorem reach_L0 : reachB L0 = [true, false, true, true] := by rfl
theorem us_2 : usL L0 2 = true := by rfl
theorem us_0 : usL L0 0 = false := by rfl
theorem tidy_L0 : tidyA 0 [L0] = .tup [.agg (aPr 0 [L9]), aInt 3, aInt 0] := by
  unfold tidyA tidyM tidyF tidyN
  rw [if_pos prg_L0, if_pos prg_L0, if_pos prg_L0, prg_L0, drop_L0]
  simp only [List.map_cons, List.map_nil, fix_L0]
  rfl
theorem rt_L0 : Rt L0 := ((prg_ok prg_L0).2.2 L0 (by simp)).rt
set_option maxHeartbeats 8000000 in
theorem law42_works_a : FnP Try.prog 25 [] fun a => a = aBool true := by
  refine fnP_in K_forebaylaw42_works mixed rfl (by simp [AV.pureL]) ?_
  simp only [S_forebaylaw42_works]
  have b2 : ∀ o a : Int, fillA [AV.v (.int .i64 0), AV.v (.int .i64 0), AV.v (.int .i64 0), AV.v (.int .i64 0)] [(0, 1), (1, 1)] [AV.v (.int .i64 o), AV.v (.int .i64 a)] = some (aIx ⟨o, a, 0, 0⟩) := fun o a => by simp [fillA, AV.cells, Value.cells, setAtA, aIx]
  have b1 : ∀ o : Int, fillA [AV.v (.int .i64 0), AV.v (.int .i64 0), AV.v (.int .i64 0), AV.v (.int .i64 0)] [(0, 1)] [AV.v (.int .i64 o)] = some (aIx ⟨o, 0, 0, 0⟩) := fun o => by simp [fillA, AV.cells, Value.cells, setAtA, aIx]
  have bp : ∀ c : AV, c.cells = [c] → fillA [AV.v (.int .i64 0), AV.sl 0 [] .nil] [(1, 1)] [c] = some [AV.v (.int .i64 0), c] := fun c hc => by simp [fillA, setAtA, hc]
  have hac : ∀ x : Ix, (AV.agg (aIx x)).cells = aIx x := fun x => rfl
  have hset : setAtA [AV.v (.int .i64 0), AV.sl 0 [] .nil] 0 (aPr 0 [L9]) = aPr 0 [L9] := rfl
  refine wpa_seqx (fun ε σ => σ = []) (fun N X' R' hN => by simp (maxSteps := 1000000) (implicitDefEqProofs := false) (disch := omega) only [push_cast, ↓reduceIte, Nat.reduceEqDiff, reduceCtorEq, wz]; exact hN _ _ (by simp (maxSteps := 1000000) (implicitDefEqProofs := false) (disch := omega) only [push_cast, ↓reduceIte, Nat.reduceEqDiff, reduceCtorEq, wz]; try rfl)) ?_
  rintro ε σ rfl
  refine wpa_seqx (fun ε σ => ε 1 = .sl 4 (L0.flatMap aIx) .full ∧ σ = []) ?_ ?_
  · intro N X R hN
    simp (maxSteps := 1000000) (implicitDefEqProofs := false) (disch := omega) only [push_cast, ↓reduceIte, Nat.reduceEqDiff, reduceCtorEq, wz, b2, b1]
    refine wpa_bsl (sz := 4) (by intro a ha; simp at ha; rcases ha with rfl | rfl | rfl | rfl <;> rfl) (by simp) ?_
    simp (maxSteps := 1000000) (implicitDefEqProofs := false) (disch := omega) only [push_cast, ↓reduceIte, Nat.reduceEqDiff, reduceCtorEq, wz]
    exact hN _ _ ⟨by simp (maxSteps := 1000000) (implicitDefEqProofs := false) (disch := omega) only [push_cast, ↓reduceIte, Nat.reduceEqDiff, reduceCtorEq, wz]; try rfl, rfl⟩
  clear ε
  rintro ε σ ⟨hρ, rfl⟩
  refine wpa_seqx (fun ε σ => (ε 1 = .sl 4 (L0.flatMap aIx) .full ∧ ε 2 = .ref 0 0 0 ∧ ε 3 = .v (.int .i64 3) ∧ ε 4 = .v (.int .i64 0)) ∧ σ = [.obj 0 (aPr 0 [L9])]) ?_ ?_
  · intro N X R hN
    have hw : weak (Go.Kx.freeze [] []) [true] [AV.agg [.v (.int .i64 0), .sl 1 [.sl 4 (L0.flatMap aIx) .full] .full]] = [.agg (aPr 0 [L0])] := rfl
    have bq := bp (.sl 1 [.sl 4 (L0.flatMap aIx) .full] .full) rfl
    simp (maxSteps := 1000000) (implicitDefEqProofs := false) (disch := omega) only [push_cast, ↓reduceIte, Nat.reduceEqDiff, reduceCtorEq, wz, hρ]
    refine wpa_bsl (sz := 1) (by intro a ha; simp at ha; subst ha; rfl) (by simp) ?_
    have hcl : (AV.sl 4 (L0.flatMap aIx) .full).cells = [.sl 4 (L0.flatMap aIx) .full] := rfl
    simp (maxSteps := 1000000) (implicitDefEqProofs := false) (disch := omega) only [push_cast, ↓reduceIte, Nat.reduceEqDiff, reduceCtorEq, wz, hcl, bq]
    refine wpa_callw [] [true] (tidy_Program_a 0 [L0] ⟨by simp, by simp [L0]⟩) hw ?_
    rintro a rfl
    rw [tidy_L0]
    simp (maxSteps := 1000000) (implicitDefEqProofs := false) (disch := omega) only [push_cast, ↓reduceIte, Nat.reduceEqDiff, reduceCtorEq, wz]
    refine wpa_new ?_
    simp (maxSteps := 1000000) (implicitDefEqProofs := false) (disch := omega) only [push_cast, ↓reduceIte, Nat.reduceEqDiff, reduceCtorEq, wz]
    refine wpa_stn (cs := [AV.v (.int .i64 0), AV.sl 0 [] .nil]) rfl rfl rfl (by decide) ?_
    rw [hset]
    simp (maxSteps := 1000000) (implicitDefEqProofs := false) (disch := omega) only [push_cast, ↓reduceIte, Nat.reduceEqDiff, reduceCtorEq, wz]
    exact hN _ _ ⟨by simp (maxSteps := 1000000) (implicitDefEqProofs := false) (disch := omega) only [push_cast, ↓reduceIte, Nat.reduceEqDiff, reduceCtorEq, wz, hρ]; exact ⟨rfl, rfl, rfl⟩, rfl⟩
  clear hρ ε
  rintro ε σ ⟨hρ, rfl⟩
  refine wpa_seqx (fun ε σ => (ε 1 = .sl 4 (L0.flatMap aIx) .full ∧ ε 2 = .ref 0 0 0 ∧ ε 3 = .v (.int .i64 3) ∧ ε 4 = .v (.int .i64 0) ∧ ε 5 = .sl 4 ([true, false, true, true].map aBool) .none ∧ ε 6 = .v (.int .i64 0)) ∧ σ = [.obj 0 (aPr 0 [L9])]) ?_ ?_
  · intro N X R hN
    have hw : weak (Go.Kx.freeze [] [.obj 0 (aPr 0 [L9])]) [true] [AV.sl 4 (L0.flatMap aIx) .full] = [aIxs L0] := rfl
    simp (maxSteps := 1000000) (implicitDefEqProofs := false) (disch := omega) only [push_cast, ↓reduceIte, Nat.reduceEqDiff, reduceCtorEq, wz, hρ]
    refine wpa_callw [] [true] (tidy_Reached_a L0 rt_L0 (by decide)) hw ?_
    rintro a rfl
    rw [reach_L0]
    simp (maxSteps := 1000000) (implicitDefEqProofs := false) (disch := omega) only [push_cast, ↓reduceIte, Nat.reduceEqDiff, reduceCtorEq, wz]
    exact hN _ _ ⟨by simp (maxSteps := 1000000) (implicitDefEqProofs := false) (disch := omega) only [push_cast, ↓reduceIte, Nat.reduceEqDiff, reduceCtorEq, wz, hρ]; try exact ⟨rfl, rfl⟩, rfl⟩
  clear hρ ε
  rintro ε σ ⟨hρ, rfl⟩
  have hw1 : weak (Go.Kx.freeze [] [.obj 0 (aPr 0 [L9])]) [false, true] [.agg (aPr 0 [L9]), AV.agg [.v (.int .i64 0), .sl 1 [.sl 1 (L9.flatMap aIx) .full] .full]] = [.agg (aPr 0 [L9]), .agg (aPr 0 [L9])] := rfl
  have hw2 : ∀ i : Int, weak (Go.Kx.freeze [] [.obj 0 (aPr 0 [L9])]) [true] [AV.sl 4 (L0.flatMap aIx) .full, .v (.int .i64 i)] = [aIxs L0, aInt i] := fun i => rfl
  have bq := bp (.sl 1 [.sl 1 (L9.flatMap aIx) .full] .full) rfl
  have hcl : (AV.sl 1 (L9.flatMap aIx) .full).cells = [.sl 1 (L9.flatMap aIx) .full] := rfl
  have hf1 : [AV.agg (aIx ⟨0, 0, 0, 0⟩)].flatMap AV.cells = L9.flatMap aIx := rfl
  have hb1 : ([true, false, true, true].map aBool)[Int.toNat 1]? = some (.v (.bool false)) := rfl
  simp (maxSteps := 1000000) (implicitDefEqProofs := false) (disch := omega) only [push_cast, ↓reduceIte, Nat.reduceEqDiff, reduceCtorEq, wz, hρ, b1, cellsPr]
  refine wpa_bsl (sz := 4) (by intro a ha; simp at ha; subst ha; rfl) (by simp) ?_
  rw [hf1]
  simp (maxSteps := 1000000) (implicitDefEqProofs := false) (disch := omega) only [push_cast, ↓reduceIte, Nat.reduceEqDiff, reduceCtorEq, wz, hρ]
  refine wpa_bsl (sz := 1) (by intro a ha; simp at ha; subst ha; rfl) (by simp) ?_
  simp (maxSteps := 1000000) (implicitDefEqProofs := false) (disch := omega) only [push_cast, ↓reduceIte, Nat.reduceEqDiff, reduceCtorEq, wz, hcl, bq]
  refine wpa_callw [] [false, true] (ref04_Same_a 0 [L9] ⟨by simp, by simp [L9]⟩) hw1 ?_
  rintro a rfl
  simp (maxSteps := 1000000) (implicitDefEqProofs := false) (disch := omega) only [push_cast, ↓reduceIte, Nat.reduceEqDiff, reduceCtorEq, wz, hρ, aBool, hb1]
  refine wpa_callw [] [true] (tidy_Useless_a L0 2 (by decide) (by decide)) (hw2 2) ?_
  rintro a rfl
  rw [us_2]
  simp (maxSteps := 1000000) (implicitDefEqProofs := false) (disch := omega) only [push_cast, ↓reduceIte, Nat.reduceEqDiff, reduceCtorEq, wz, hρ, aBool]
  refine wpa_callw [] [true] (tidy_Useless_a L0 0 (by decide) (by decide)) (hw2 0) ?_
  rintro a rfl
  rw [us_0]
  simp (maxSteps := 1000000) (implicitDefEqProofs := false) (disch := omega) only [push_cast, ↓reduceIte, Nat.reduceEqDiff, reduceCtorEq, wz, hρ, aBool]
  first | exact ⟨[], rfl, rfl⟩ | exact ⟨[], rfl⟩
end Go.Proofs.Ythgmfjkbgacfaaa
