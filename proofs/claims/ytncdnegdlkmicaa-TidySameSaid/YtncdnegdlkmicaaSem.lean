/- Serial: more fuel: works; lists alike; the law in plain. -/
import Derived.Test.YtncdnegdlkmicaaSel
import Derived.Test.YtncdnegdlkmicaaCL29
namespace Go.Proofs.Ytncdnegdlkmicaa
set_option linter.unusedVariables false
set_option linter.unusedSimpArgs false
open Go Go.Kx Go.Proofs

theorem law05_Ints_a (l k : List Int) (hl : l.length ≤ 1000000) (hk : k.length ≤ 1000000) : FnP Try.prog 14 [aInts l, aInts k] fun a => a = aBool (l == k) := by
  refine fnP_in K_forebaylaw05_Ints mixed rfl (by simp [AV.pureL, aInts_pure]) ?_
  simp only [S_forebaylaw05_Ints, aInts, aSl]
  by_cases hle : l.length = k.length
  · simp (maxSteps := 1000000) (implicitDefEqProofs := false) (disch := omega) only [push_cast, ↓reduceIte, Nat.reduceEqDiff, reduceCtorEq, wz, hle]
    refine wpa_bl (α := Nat) (I := fun t ε σ => (ε 0 = .sl l.length (l.map aInt) .none ∧ ε 1 = .sl k.length (k.map aInt) .none ∧ ε 5 = .v (.int .i64 t)) ∧ t ≤ l.length ∧ l.take t = k.take t)
      (μ := fun t => l.length - t) (Q := fun _ _ => l = k) (x := 0) ?_ ?_ ?_
    · simp (maxSteps := 1000000) (implicitDefEqProofs := false) (disch := omega) only [push_cast, ↓reduceIte, Nat.reduceEqDiff, reduceCtorEq, wz, hle]
      omega
    · rintro t ε σ N E ⟨hρ, ht, heq⟩ hN hE
      simp only [S_forebaylaw05_Ints_L1]
      by_cases hlt : t < l.length
      · obtain ⟨x, hx⟩ := at_lt hlt
        obtain ⟨y, hy⟩ := at_lt (l := k) (k := t) (by omega)
        by_cases he : x = y
        · subst he
          simp (maxSteps := 1000000) (implicitDefEqProofs := false) (disch := omega) only [push_cast, ↓reduceIte, Nat.reduceEqDiff, reduceCtorEq, wz, hρ, hx, hy, aInt]
          refine hN (t + 1) _ _ ?_ (by omega)
          simp (maxSteps := 1000000) (implicitDefEqProofs := false) (disch := omega) only [push_cast, ↓reduceIte, Nat.reduceEqDiff, reduceCtorEq, wz, hρ]
          exact ⟨by omega, by rw [take_succ_at hx, take_succ_at hy, heq]⟩
        · simp (maxSteps := 1000000) (implicitDefEqProofs := false) (disch := omega) only [push_cast, ↓reduceIte, Nat.reduceEqDiff, reduceCtorEq, wz, hρ, hx, hy, aInt, he]
          refine fin_v ?_
          have : l ≠ k := by
            intro e; subst e; rw [hx] at hy; cases hy; exact he rfl
          simp [aBool, this]
      · simp (maxSteps := 1000000) (implicitDefEqProofs := false) (disch := omega) only [push_cast, ↓reduceIte, Nat.reduceEqDiff, reduceCtorEq, wz, hρ]
        refine hE _ _ ?_
        rwa [List.take_of_length_le (by omega), List.take_of_length_le (by omega)] at heq
    · intro ε σ h
      simp (maxSteps := 1000000) (implicitDefEqProofs := false) (disch := omega) only [push_cast, ↓reduceIte, Nat.reduceEqDiff, reduceCtorEq, wz]
      exact fin_v (by simp [aBool, h])
  · simp (maxSteps := 1000000) (implicitDefEqProofs := false) (disch := omega) only [push_cast, ↓reduceIte, Nat.reduceEqDiff, reduceCtorEq, wz, hle]
    refine fin_v ?_
    have : l ≠ k := by intro e; subst e; exact hle rfl
    simp [aBool, this]
/-- What works does. -/
def pw : List (List Ix) := [[⟨1, 1, 7, 0⟩, ⟨20, 1, 0, 0⟩, ⟨0, 0, 0, 0⟩], [⟨17, 1, 0, 0⟩, ⟨0, 0, 0, 0⟩]]
theorem pw_e : runE 1 pw [] = 0 := by kernel_rfl
theorem pw_v : (runV 1 pw [] 99).status = 1 ∧ (runV 1 pw [] 99).out = [7] ∧ (runV 1 pw [] 99).steps = 5 ∧ (runV 1 pw [] 99).frames = 2 ∧ (runV 1 pw [] 99).deepest = 2 ∧ (runV 1 pw [] 99).marks = [(4, 0), (3, 7), (5, 0), (6, 0)] :=
  ⟨by kernel_rfl, by kernel_rfl, by kernel_rfl, by kernel_rfl, by kernel_rfl, by kernel_rfl⟩
def wC : List AV := [.v (.int .i64 1), .sl 2 [.sl 3 (aIx ⟨1, 1, 7, 0⟩ ++ aIx ⟨20, 1, 0, 0⟩ ++ aIx ⟨0, 0, 0, 0⟩) .full, .sl 2 (aIx ⟨17, 1, 0, 0⟩ ++ aIx ⟨0, 0, 0, 0⟩) .full] .full]
theorem pw_ok : okF pw := ⟨by decide, by decide⟩
set_option maxHeartbeats 8000000 in
theorem law29_works_a : FnP Try.prog 9 [] fun a => a = aBool true := by
  refine fnP_in K_forebaylaw29_works mixed rfl rfl ?_
  simp only [S_forebaylaw29_works]
  have b3 : ∀ a b c : Int, fillA [AV.v (.int .i64 0), AV.v (.int .i64 0), AV.v (.int .i64 0), AV.v (.int .i64 0)] [(0, 1), (1, 1), (2, 1)] [.v (.int .i64 a), .v (.int .i64 b), .v (.int .i64 c)] = some (aIx ⟨a, b, c, 0⟩) := fun _ _ _ => rfl
  have b2 : ∀ a b : Int, fillA [AV.v (.int .i64 0), AV.v (.int .i64 0), AV.v (.int .i64 0), AV.v (.int .i64 0)] [(0, 1), (1, 1)] [.v (.int .i64 a), .v (.int .i64 b)] = some (aIx ⟨a, b, 0, 0⟩) := fun _ _ => rfl
  have b1 : ∀ a : Int, fillA [AV.v (.int .i64 0), AV.v (.int .i64 0), AV.v (.int .i64 0), AV.v (.int .i64 0)] [(0, 1)] [.v (.int .i64 a)] = some (aIx ⟨a, 0, 0, 0⟩) := fun _ => rfl
  have hx : ∀ x : Ix, (AV.agg (aIx x)).cells = aIx x := fun _ => rfl
  refine wpa_seqx (fun ε σ => σ = []) ?_ ?_
  · intro N X R hN
    simp (maxSteps := 1000000) (implicitDefEqProofs := false) (disch := omega) only [push_cast, ↓reduceIte, Nat.reduceEqDiff, reduceCtorEq, wz]
    exact hN _ _ rfl
  rintro ε σ rfl
  refine wpa_seqx (fun ε σ => ε 1 = .ref 0 0 0 ∧ σ = [.obj 0 wC]) ?_ ?_
  · intro N X R hN
    simp (maxSteps := 1000000) (implicitDefEqProofs := false) (disch := omega) only [push_cast, ↓reduceIte, Nat.reduceEqDiff, reduceCtorEq, wz, b3, b2, b1]
    refine wpa_bsl (sz := 4) (by intro a ha; simp at ha; rcases ha with rfl | rfl | rfl <;> rfl) (by simp) ?_
    simp (maxSteps := 1000000) (implicitDefEqProofs := false) (disch := omega) only [push_cast, ↓reduceIte, Nat.reduceEqDiff, reduceCtorEq, wz, b3, b2, b1, hx]
    refine wpa_bsl (sz := 4) (by intro a ha; simp at ha; rcases ha with rfl | rfl <;> rfl) (by simp) ?_
    simp (maxSteps := 1000000) (implicitDefEqProofs := false) (disch := omega) only [push_cast, ↓reduceIte, Nat.reduceEqDiff, reduceCtorEq, wz, b3, b2, b1, hx]
    refine wpa_bsl (sz := 1) (by intro a ha; simp at ha; rcases ha with rfl | rfl <;> rfl) (by simp) ?_
    simp (maxSteps := 1000000) (implicitDefEqProofs := false) (disch := omega) only [push_cast, ↓reduceIte, Nat.reduceEqDiff, reduceCtorEq, wz]
    have hb : ∀ a b : AV, fillA [AV.v (.int .i64 0), .sl 0 [] .nil] [(0, 1), (1, 1)] [.v (.int .i64 1), .sl 2 [a, b] .full] = some [.v (.int .i64 1), .sl 2 [a, b] .full] := fun _ _ => rfl
    simp (maxSteps := 1000000) (implicitDefEqProofs := false) (disch := omega) only [push_cast, ↓reduceIte, Nat.reduceEqDiff, reduceCtorEq, wz, AV.cells, hb]
    refine wpa_new ?_
    simp (maxSteps := 1000000) (implicitDefEqProofs := false) (disch := omega) only [push_cast, ↓reduceIte, Nat.reduceEqDiff, reduceCtorEq, wz]
    refine wpa_stn (cs := [AV.v (.int .i64 0), .sl 0 [] .nil]) rfl rfl rfl (by decide) ?_
    simp (maxSteps := 1000000) (implicitDefEqProofs := false) (disch := omega) only [push_cast, ↓reduceIte, Nat.reduceEqDiff, reduceCtorEq, wz]
    exact hN _ _ ⟨by simp (maxSteps := 1000000) (implicitDefEqProofs := false) (disch := omega) only [push_cast, ↓reduceIte, Nat.reduceEqDiff, reduceCtorEq, wz], rfl⟩
  rintro ε σ ⟨hρ, rfl⟩
  have hc2 : cellsA (some 2) wC = some (.agg wC) := rfl
  have hE := Eval_a 1 pw [] 99 pw_ok (by simp)
  have hM := Marks_a 1 pw [] 99 pw_ok (by simp)
  rw [pw_e] at hE
  obtain ⟨v1, v2, v3, v4, v5, v6⟩ := pw_v
  generalize runV 1 pw [] 99 = V at hE hM v1 v2 v3 v4 v5 v6
  rw [v6] at hM
  have hset : ∀ s : Sv, setAtA [AV.v (.int .i64 0), AV.v (.int .i64 0), .sl 0 [] .nil, .sl 0 [] .nil, AV.v (.int .i64 0), AV.v (.int .i64 0), AV.v (.int .i64 0)] 0 (aOc s) = aOc s := fun _ => rfl
  refine wpa_seqx (fun ε σ => (ε 1 = .ref 0 0 0 ∧ ε 2 = .ref 1 0 0 ∧ ε 3 = .v (.int .i64 0)) ∧ σ = [.obj 0 wC, .obj 0 (aOc V)]) ?_ ?_
  · intro N X R hN
    simp (maxSteps := 1000000) (implicitDefEqProofs := false) (disch := omega) only [push_cast, ↓reduceIte, Nat.reduceEqDiff, reduceCtorEq, wz, hρ, hc2]
    refine wpa_callw [] [true, true] hE rfl ?_
    rintro a rfl
    rw [fzn]
    simp (maxSteps := 1000000) (implicitDefEqProofs := false) (disch := omega) only [push_cast, ↓reduceIte, Nat.reduceEqDiff, reduceCtorEq, wz, aInt]
    refine wpa_new ?_
    simp (maxSteps := 1000000) (implicitDefEqProofs := false) (disch := omega) only [push_cast, ↓reduceIte, Nat.reduceEqDiff, reduceCtorEq, wz]
    refine wpa_stn (cs := [AV.v (.int .i64 0), AV.v (.int .i64 0), .sl 0 [] .nil, .sl 0 [] .nil, AV.v (.int .i64 0), AV.v (.int .i64 0), AV.v (.int .i64 0)]) rfl rfl rfl (by decide) ?_
    rw [hset]
    simp (maxSteps := 1000000) (implicitDefEqProofs := false) (disch := omega) only [push_cast, ↓reduceIte, Nat.reduceEqDiff, reduceCtorEq, wz]
    exact hN _ _ ⟨by simp (maxSteps := 1000000) (implicitDefEqProofs := false) (disch := omega) only [push_cast, ↓reduceIte, Nat.reduceEqDiff, reduceCtorEq, wz, hρ], rfl⟩
  clear hρ ε
  rintro ε σ ⟨hρ, rfl⟩
  refine wpa_seqx (fun ε σ => (ε 2 = .ref 1 0 0 ∧ ε 3 = .v (.int .i64 0) ∧ ε 4 = aMks [(4, 0), (3, 7), (5, 0), (6, 0)]) ∧ σ = [.obj 0 wC, .obj 0 (aOc V)]) ?_ ?_
  · intro N X R hN
    simp (maxSteps := 1000000) (implicitDefEqProofs := false) (disch := omega) only [push_cast, ↓reduceIte, Nat.reduceEqDiff, reduceCtorEq, wz, hρ, hc2]
    refine wpa_callw [] [true, true] hM rfl ?_
    rintro a rfl
    rw [fzn]
    simp (maxSteps := 1000000) (implicitDefEqProofs := false) (disch := omega) only [push_cast, ↓reduceIte, Nat.reduceEqDiff, reduceCtorEq, wz]
    exact hN _ _ ⟨by simp (maxSteps := 1000000) (implicitDefEqProofs := false) (disch := omega) only [push_cast, ↓reduceIte, Nat.reduceEqDiff, reduceCtorEq, wz, hρ], rfl⟩
  clear hρ ε
  rintro ε σ ⟨hρ, rfl⟩
  have o0 : (aOc V)[0]? = some (.v (.int .i64 1)) := by rw [← v1]; rfl
  have o2 : (aOc V)[2]? = some (aInts [7]) := by rw [← v2]; rfl
  have o4 : (aOc V)[4]? = some (.v (.int .i64 5)) := by rw [← v3]; rfl
  have o5 : (aOc V)[5]? = some (.v (.int .i64 2)) := by rw [← v4]; rfl
  have o6 : (aOc V)[6]? = some (.v (.int .i64 2)) := by rw [← v5]; rfl
  have hmk : aMks [(4, 0), (3, 7), (5, 0), (6, 0)] = .sl 4 [.v (.int .i64 4), .v (.int .i64 0), .v (.int .i64 0), .v (.int .i64 3), .v (.int .i64 7), .v (.int .i64 0), .v (.int .i64 5), .v (.int .i64 0), .v (.int .i64 0), .v (.int .i64 6), .v (.int .i64 0), .v (.int .i64 0)] .none := rfl
  rw [hmk] at hρ
  have k9 : [AV.v (.int .i64 4), .v (.int .i64 0), .v (.int .i64 0), .v (.int .i64 3), .v (.int .i64 7), .v (.int .i64 0), .v (.int .i64 5), .v (.int .i64 0), .v (.int .i64 0), .v (.int .i64 6), .v (.int .i64 0), .v (.int .i64 0)][Int.toNat 3 * 3]? = some (.v (.int .i64 6)) := rfl
  have k0 : [AV.v (.int .i64 4), .v (.int .i64 0), .v (.int .i64 0), .v (.int .i64 3), .v (.int .i64 7), .v (.int .i64 0), .v (.int .i64 5), .v (.int .i64 0), .v (.int .i64 0), .v (.int .i64 6), .v (.int .i64 0), .v (.int .i64 0)][Int.toNat 0 * 3]? = some (.v (.int .i64 4)) := rfl
  generalize [AV.v (.int .i64 4), .v (.int .i64 0), .v (.int .i64 0), .v (.int .i64 3), .v (.int .i64 7), .v (.int .i64 0), .v (.int .i64 5), .v (.int .i64 0), .v (.int .i64 0), .v (.int .i64 6), .v (.int .i64 0), .v (.int .i64 0)] = ml at hρ k9 k0
  generalize aOc V = oc at o0 o2 o4 o5 o6
  simp (maxSteps := 1000000) (implicitDefEqProofs := false) (disch := omega) only [push_cast, ↓reduceIte, Nat.reduceEqDiff, reduceCtorEq, wz, hρ, o0, o2]
  refine wpa_bsl (sz := 1) (by intro a ha; simp at ha; subst ha; rfl) (by simp) ?_
  simp (maxSteps := 1000000) (implicitDefEqProofs := false) (disch := omega) only [push_cast, ↓reduceIte, Nat.reduceEqDiff, reduceCtorEq, wz]
  refine wpa_callw [] [false, true] (law05_Ints_a [7] [7] (by simp) (by simp)) rfl ?_
  rintro a rfl
  have h77 : (([7] : List Int) == [7]) = true := by decide
  rw [fzn, h77]
  simp (maxSteps := 1000000) (implicitDefEqProofs := false) (disch := omega) only [push_cast, ↓reduceIte, Nat.reduceEqDiff, reduceCtorEq, wz, hρ, aBool, o4, o5, o6, k9, k0]
  first | exact ⟨[], rfl, rfl⟩ | exact ⟨[], rfl⟩
end Go.Proofs.Ytncdnegdlkmicaa
