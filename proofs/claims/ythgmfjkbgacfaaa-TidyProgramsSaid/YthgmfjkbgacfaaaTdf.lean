/- Tidy: programs of their own; great; same. -/
import Derived.Test.YthgmfjkbgacfaaaTde
namespace Go.Proofs.Ythgmfjkbgacfaaa
set_option linter.unusedVariables false
set_option linter.unusedSimpArgs false
open Go Go.Kx Go.Proofs

theorem eqsIx (n : Bool) (x y : Ix) : PF.av (.eqs n [.int .i64, .int .i64, .int .i64, .int .i64]) [.agg (aIx x), .agg (aIx y)] = some (.v (.bool (n != decide (x = y)))) := by
  show ((PF.val (.eqs n [.int .i64, .int .i64, .int .i64, .int .i64]) [.agg [.int .i64 x.op, .int .i64 x.a, .int .i64 x.b, .int .i64 x.c].toArray, .agg [.int .i64 y.op, .int .i64 y.a, .int .i64 y.b, .int .i64 y.c].toArray]).map AV.v) = _
  obtain ⟨p, a, b, c⟩ := x
  obtain ⟨p', a', b', c'⟩ := y
  have h : (decide ((⟨p, a, b, c⟩ : Ix) = ⟨p', a', b', c'⟩)) = (decide (p = p') && (decide (a = a') && (decide (b = b') && decide (c = c')))) := by rw [Bool.eq_iff_iff]; simp
  rw [h]
  simp only [PF.val, eqCs, eqC]
  have k (u v : Int) : (u == v) = decide (u = v) := by rw [Bool.eq_iff_iff]; simp
  simp only [k]
  by_cases h1 : p = p' <;> by_cases h2 : a = a' <;> by_cases h3 : b = b' <;> by_cases h4 : c = c' <;> cases n <;> simp [h1, h2, h3, h4]
set_option maxHeartbeats 8000000 in
theorem law04_Great_a (m : Int) (fs : List (List Ix)) (hl : fs.length ≤ 9223372036854775807) : FnP Try.prog 26 [.agg (aPr m fs)] fun a => ∃ b, a = aBool b ∧ (b = false → okF fs) := by
  refine fnP_in K_forebaylaw04_Great mixed rfl (by simp [AV.pureL, AV.pure, aPr_pure]) ?_
  simp only [S_forebaylaw04_Great]
  have hac : (AV.agg (aPr m fs)).cells = aPr m fs := rfl
  have g1 : (aPr m fs)[1]? = some (.sl fs.length (fs.map aIxs) .none) := rfl
  simp (maxSteps := 1000000) (implicitDefEqProofs := false) (disch := omega) only [push_cast, ↓reduceIte, Nat.reduceEqDiff, reduceCtorEq, wz]
  refine wpa_box ?_
  by_cases h40 : 40 < fs.length
  · simp (maxSteps := 1000000) (implicitDefEqProofs := false) (disch := omega) only [push_cast, ↓reduceIte, Nat.reduceEqDiff, reduceCtorEq, wz, hac, g1, h40]
    exact ⟨[], rfl, true, rfl, by simp⟩
  simp (maxSteps := 1000000) (implicitDefEqProofs := false) (disch := omega) only [push_cast, ↓reduceIte, Nat.reduceEqDiff, reduceCtorEq, wz, hac, g1, h40]
  refine wpa_bl (α := Nat) (I := fun k ε σ => (ε 1 = .ref 0 0 0 ∧ ε 3 = .v (.int .i64 k)) ∧ k ≤ fs.length ∧ σ[0]? = some (.obj 0 (aPr m fs)) ∧ ∀ l ∈ fs.take k, l.length ≤ 300)
    (μ := fun k => fs.length - k) (Q := fun ε σ => ∀ l ∈ fs, l.length ≤ 300) (x := 0) ?_ ?_ ?_
  · simp (maxSteps := 1000000) (implicitDefEqProofs := false) (disch := omega) only [push_cast, ↓reduceIte, Nat.reduceEqDiff, reduceCtorEq, wz]
    first | exact ⟨by omega, rfl, fun l hl => by simp at hl⟩ | exact ⟨by omega, fun l hl => by simp at hl⟩ | exact fun l hl => by simp at hl
  · rintro k ε σ N E ⟨hρ, hk, hs, hall⟩ hN hE
    simp only [S_forebaylaw04_Great_L1]
    by_cases hlt : k < fs.length
    · obtain ⟨l, hl'⟩ := at_lt hlt
      have hIL : aIxs l = .sl l.length (l.flatMap aIx) .none := rfl
      by_cases h300 : 300 < l.length
      · simp (maxSteps := 1000000) (implicitDefEqProofs := false) (disch := omega) only [push_cast, ↓reduceIte, Nat.reduceEqDiff, reduceCtorEq, wz, hρ, hs, g1, hl', hIL, h300]
        exact ⟨[], rfl, true, rfl, by simp⟩
      · simp (maxSteps := 1000000) (implicitDefEqProofs := false) (disch := omega) only [push_cast, ↓reduceIte, Nat.reduceEqDiff, reduceCtorEq, wz, hρ, hs, g1, hl', hIL, h300]
        refine hN (k + 1) _ _ ⟨by simp (maxSteps := 1000000) (implicitDefEqProofs := false) (disch := omega) only [push_cast, ↓reduceIte, Nat.reduceEqDiff, reduceCtorEq, wz, hρ], by omega, hs, fun x hx => ?_⟩ (by omega)
        rw [take_succ_at hl'] at hx
        rcases List.mem_append.1 hx with hx | hx
        · exact hall x hx
        · simp at hx; subst hx; omega
    · simp (maxSteps := 1000000) (implicitDefEqProofs := false) (disch := omega) only [push_cast, ↓reduceIte, Nat.reduceEqDiff, reduceCtorEq, wz, hρ, hs, g1]
      refine hE _ _ ?_
      rw [List.take_of_length_le (by omega)] at hall
      exact hall
  · intro ε σ hall
    simp (maxSteps := 1000000) (implicitDefEqProofs := false) (disch := omega) only [push_cast, ↓reduceIte, Nat.reduceEqDiff, reduceCtorEq, wz]
    exact ⟨[], rfl, false, rfl, fun _ => ⟨by omega, hall⟩⟩
set_option maxHeartbeats 8000000 in
theorem law04_Own_a (m : Int) (fs : List (List Ix)) (hf : okF fs) : FnP Try.prog 28 [.agg (aPr m fs)] fun a => a = .agg (aPr m fs) := by
  refine ⟨by simp [AV.pureL, AV.pure, aPr_pure], FnG.fz ?_⟩
  refine fnG_in2 K2_forebaylaw04_Own mixed rfl ?_
  simp only [S2_forebaylaw04_Own]
  obtain ⟨hf1, hf2⟩ := hf
  have hac : (AV.agg (aPr m fs)).cells = aPr m fs := rfl
  have g0 : (aPr m fs)[0]? = some (.v (.int .i64 m)) := rfl
  have g1 : (aPr m fs)[1]? = some (.sl fs.length (fs.map aIxs) .none) := rfl
  have hb : fillA [AV.v (.int .i64 0), AV.sl 0 [] .nil] [(0, 1)] [AV.v (.int .i64 m)] = some [AV.v (.int .i64 m), AV.sl 0 [] .nil] := by simp [fillA, AV.cells, Value.cells, setAtA]
  refine wpa_seqx (fun ε σ => (ε 1 = .ref 0 0 0 ∧ ε 2 = .ref 1 0 0) ∧ σ = [.obj 0 (aPr m fs), .obj 0 [.v (.int .i64 0), .sl 0 [] .nil]]) ?_ ?_
  · intro N X R hN
    simp (maxSteps := 1000000) (implicitDefEqProofs := false) (disch := omega) only [push_cast, ↓reduceIte, Nat.reduceEqDiff, reduceCtorEq, wz]
    refine wpa_box ?_
    simp (maxSteps := 1000000) (implicitDefEqProofs := false) (disch := omega) only [push_cast, ↓reduceIte, Nat.reduceEqDiff, reduceCtorEq, wz, hac]
    refine wpa_new ?_
    simp (maxSteps := 1000000) (implicitDefEqProofs := false) (disch := omega) only [push_cast, ↓reduceIte, Nat.reduceEqDiff, reduceCtorEq, wz]
    exact hN _ _ (by simp (maxSteps := 1000000) (implicitDefEqProofs := false) (disch := omega) only [push_cast, ↓reduceIte, Nat.reduceEqDiff, reduceCtorEq, wz])
  rintro ε σ ⟨hρ, rfl⟩
  refine wpa_seqx (fun ε σ => (ε 1 = .ref 0 0 0 ∧ ε 2 = .ref 1 0 0 ∧ ε 3 = .ref 2 0 0) ∧ σ = [.obj 0 (aPr m fs), .obj 0 [.v (.int .i64 0), .sl 0 [] .nil], .obj 0 [.v (.int .i64 m), .sl 0 [] .nil]]) ?_ ?_
  · intro N X R hN
    simp (maxSteps := 1000000) (implicitDefEqProofs := false) (disch := omega) only [push_cast, ↓reduceIte, Nat.reduceEqDiff, reduceCtorEq, wz, hρ, g0, hb]
    refine wpa_new ?_
    simp (maxSteps := 1000000) (implicitDefEqProofs := false) (disch := omega) only [push_cast, ↓reduceIte, Nat.reduceEqDiff, reduceCtorEq, wz]
    refine wpa_stn (cs := [AV.v (.int .i64 0), AV.sl 0 [] .nil]) rfl rfl rfl (by decide) ?_
    have hset : setAtA [AV.v (.int .i64 0), AV.sl 0 [] .nil] 0 [AV.v (.int .i64 m), AV.sl 0 [] .nil] = [AV.v (.int .i64 m), AV.sl 0 [] .nil] := rfl
    rw [hset]
    simp (maxSteps := 1000000) (implicitDefEqProofs := false) (disch := omega) only [push_cast, ↓reduceIte, Nat.reduceEqDiff, reduceCtorEq, wz]
    exact hN _ _ (by simp (maxSteps := 1000000) (implicitDefEqProofs := false) (disch := omega) only [push_cast, ↓reduceIte, Nat.reduceEqDiff, reduceCtorEq, wz, hρ])
  clear hρ ε
  rintro ε σ ⟨hρ, rfl⟩
  refine wpa_seqx (fun ε σ => (ε 2 = .ref 1 0 0 ∧ ε 3 = .ref 2 0 0) ∧ ∃ w, σ = [.obj 0 (aPr m fs), .obj 0 [.v (.int .i64 0), .sl 0 [] .nil], .obj 0 [.v (.int .i64 m), .sl fs.length (fs.map aIxs) (.id 3 w 1)], .tail w]) ?_ ?_
  · intro N X R hN
    simp (maxSteps := 1000000) (implicitDefEqProofs := false) (disch := omega) only [push_cast, ↓reduceIte, Nat.reduceEqDiff, reduceCtorEq, wz, hρ]
    refine wpa_blgx (GU.tokO (i := 2) (j := 1) 1 rfl rfl) (α := Nat) (I := fun k ε σ => (ε 1 = .ref 0 0 0 ∧ ε 2 = .ref 1 0 0 ∧ ε 3 = .ref 2 0 0 ∧ ε 4 = .v (.int .i64 k)) ∧ k ≤ fs.length ∧ ∃ w, σ = [.obj 0 (aPr m fs), .obj 0 [.v (.int .i64 0), .sl 0 [] .nil], .obj 0 [.v (.int .i64 m), .sl k ((fs.take k).map aIxs) (.id 3 w 1)], .tail w])
      (μ := fun k => fs.length - k) (Q := fun ε σ => (ε 2 = .ref 1 0 0 ∧ ε 3 = .ref 2 0 0) ∧ ∃ w, σ = [.obj 0 (aPr m fs), .obj 0 [.v (.int .i64 0), .sl 0 [] .nil], .obj 0 [.v (.int .i64 m), .sl fs.length (fs.map aIxs) (.id 3 w 1)], .tail w]) (x := 0) ?_ ?_ hN
    · simp (maxSteps := 1000000) (implicitDefEqProofs := false) (disch := omega) only [push_cast, ↓reduceIte, Nat.reduceEqDiff, reduceCtorEq, wz, hρ]
      exact ⟨by omega, 0, rfl⟩
    · clear hN N X R hρ ε
      rintro k ε σ N E X R ⟨hρ, hk, w, rfl⟩ hN hE
      simp only [S2_forebaylaw04_Own_L1]
      by_cases hlt : k < fs.length
      · obtain ⟨l, hl⟩ := at_lt hlt
        have hll := hf2 l (List.mem_of_getElem? hl)
        have hIL : aIxs l = .sl l.length (l.flatMap aIx) .none := rfl
        have hfl := flat_len aIx_len l
        have hex : (AV.sl k ((fs.take k).map aIxs) (.id 3 w 1)).exact = true := rfl
        have hlk : (fs.take k).length = k := by rw [List.length_take]; omega
        simp (maxSteps := 1000000) (implicitDefEqProofs := false) (disch := omega) only [push_cast, ↓reduceIte, Nat.reduceEqDiff, reduceCtorEq, wz, hρ, g1, hl]
        refine wpa_bsl (sz := 4) (by intro a ha; simp at ha) (by simp) ?_
        simp (maxSteps := 1000000) (implicitDefEqProofs := false) (disch := omega) only [push_cast, ↓reduceIte, Nat.reduceEqDiff, reduceCtorEq, wz, hIL]
        refine wpa_app_full0 (m := l.length) rfl rfl hfl (by rw [List.all_flatMap]; simp only [show ∀ x, (aIx x).all AV.one = true from fun x => rfl]; simp) rfl (by omega) (by omega) ?_
        simp (maxSteps := 1000000) (implicitDefEqProofs := false) (disch := omega) only [push_cast, ↓reduceIte, Nat.reduceEqDiff, reduceCtorEq, wz, hρ]
        refine ⟨aholds_x (by simp (maxSteps := 1000000) (implicitDefEqProofs := false) (disch := omega) only [push_cast, ↓reduceIte, Nat.reduceEqDiff, reduceCtorEq, wz, hρ, hex]), ?_⟩
        refine wpa_bsl (sz := 1) (by intro a ha; simp at ha; subst ha; rfl) (by simp) ?_
        simp (maxSteps := 1000000) (implicitDefEqProofs := false) (disch := omega) only [push_cast, ↓reduceIte, Nat.reduceEqDiff, reduceCtorEq, wz]
        refine ⟨aholds_x (by simp (maxSteps := 1000000) (implicitDefEqProofs := false) (disch := omega) only [push_cast, ↓reduceIte, Nat.reduceEqDiff, reduceCtorEq, wz, hρ, hex]), ?_⟩
        refine wpa_app (m := 1) rfl rfl rfl rfl (by simp; omega) (by omega) (by omega) rfl ?_
        simp (maxSteps := 1000000) (implicitDefEqProofs := false) (disch := omega) only [push_cast, ↓reduceIte, Nat.reduceEqDiff, reduceCtorEq, wz, hρ]
        refine wpa_st1 rfl rfl rfl (by simp) ?_
        simp (maxSteps := 1000000) (implicitDefEqProofs := false) (disch := omega) only [push_cast, ↓reduceIte, Nat.reduceEqDiff, reduceCtorEq, wz, hρ]
        refine hN (k + 1) _ _ ⟨by simp (maxSteps := 1000000) (implicitDefEqProofs := false) (disch := omega) only [push_cast, ↓reduceIte, Nat.reduceEqDiff, reduceCtorEq, wz, hρ], by omega, w + 1, ?_⟩ (by omega)
        rw [take_succ_at hl]
        simp [AV.cells, aIxs, aSlN]
      · simp (maxSteps := 1000000) (implicitDefEqProofs := false) (disch := omega) only [push_cast, ↓reduceIte, Nat.reduceEqDiff, reduceCtorEq, wz, hρ, g1]
        obtain rfl : k = fs.length := by omega
        rw [List.take_length]
        exact hE _ _ ⟨by simp (maxSteps := 1000000) (implicitDefEqProofs := false) (disch := omega) only [push_cast, ↓reduceIte, Nat.reduceEqDiff, reduceCtorEq, wz, hρ], w, rfl⟩
  clear hρ ε
  rintro ε σ ⟨hρ, w, rfl⟩
  have hc2 : cellsA (some 2) [AV.v (.int .i64 m), .sl fs.length (fs.map aIxs) (.id 3 w 1)] = some (.agg [AV.v (.int .i64 m), .sl fs.length (fs.map aIxs) (.id 3 w 1)]) := rfl
  simp (maxSteps := 1000000) (implicitDefEqProofs := false) (disch := omega) only [push_cast, ↓reduceIte, Nat.reduceEqDiff, reduceCtorEq, wz, hρ, hc2]
  refine wpa_stn (cs := [AV.v (.int .i64 0), AV.sl 0 [] .nil]) rfl rfl rfl (by decide) ?_
  have hset : setAtA [AV.v (.int .i64 0), AV.sl 0 [] .nil] 0 [AV.v (.int .i64 m), .sl fs.length (fs.map aIxs) (.id 3 w 1)] = [AV.v (.int .i64 m), .sl fs.length (fs.map aIxs) (.id 3 w 1)] := rfl
  rw [hset]
  simp (maxSteps := 1000000) (implicitDefEqProofs := false) (disch := omega) only [push_cast, ↓reduceIte, Nat.reduceEqDiff, reduceCtorEq, wz, hρ, hc2]
  have hr : ∀ σ, (AV.agg [AV.v (.int .i64 m), .sl fs.length (fs.map aIxs) (.id 3 w 1)]).res σ = .agg (aPr m fs) := fun σ => by
    have h1 := aFs_res σ fs (.id 3 w 1)
    simp only [AV.res, AV.resL] at h1 ⊢
    rw [h1]
    rfl
  refine ⟨[], ?_, ?_⟩
  · rw [hr]; simp [AV.pure, aPr_pure]
  · rw [hr]
set_option maxHeartbeats 8000000 in
theorem ref04_Same_a (m : Int) (fs : List (List Ix)) (hf : okF fs) : FnP Try.prog 30 [.agg (aPr m fs), .agg (aPr m fs)] fun a => a = aBool true := by
  refine fnP_in K_forebayref04_Same mixed rfl (by simp [AV.pureL, AV.pure, aPr_pure]) ?_
  simp only [S_forebayref04_Same]
  obtain ⟨hf1, hf2⟩ := hf
  have hac : (AV.agg (aPr m fs)).cells = aPr m fs := rfl
  have g0 : (aPr m fs)[0]? = some (.v (.int .i64 m)) := rfl
  have g1 : (aPr m fs)[1]? = some (.sl fs.length (fs.map aIxs) .none) := rfl
  simp (maxSteps := 1000000) (implicitDefEqProofs := false) (disch := omega) only [push_cast, ↓reduceIte, Nat.reduceEqDiff, reduceCtorEq, wz]
  refine wpa_box ?_
  simp (maxSteps := 1000000) (implicitDefEqProofs := false) (disch := omega) only [push_cast, ↓reduceIte, Nat.reduceEqDiff, reduceCtorEq, wz]
  refine wpa_box ?_
  simp (maxSteps := 1000000) (implicitDefEqProofs := false) (disch := omega) only [push_cast, ↓reduceIte, Nat.reduceEqDiff, reduceCtorEq, wz, hac, g0, g1]
  refine wpa_bl (α := Nat) (I := fun k ε σ => (ε 2 = .ref 0 0 0 ∧ ε 3 = .ref 1 0 0 ∧ ε 5 = .v (.int .i64 k)) ∧ k ≤ fs.length ∧ σ = [.obj 0 (aPr m fs), .obj 0 (aPr m fs)])
    (μ := fun k => fs.length - k) (Q := fun ε σ => True) (x := 0) ?_ ?_ ?_
  · simp (maxSteps := 1000000) (implicitDefEqProofs := false) (disch := omega) only [push_cast, ↓reduceIte, Nat.reduceEqDiff, reduceCtorEq, wz]
    omega
  · rintro k ε σ N E ⟨hρ, hk, rfl⟩ hN hE
    simp only [S_forebayref04_Same_L1]
    by_cases hlt : k < fs.length
    · obtain ⟨l, hl⟩ := at_lt hlt
      have hll := hf2 l (List.mem_of_getElem? hl)
      have hIL : aIxs l = .sl l.length (l.flatMap aIx) .none := rfl
      simp (maxSteps := 1000000) (implicitDefEqProofs := false) (disch := omega) only [push_cast, ↓reduceIte, Nat.reduceEqDiff, reduceCtorEq, wz, hρ, g1, hl, hIL]
      refine wpa_bl (α := Nat) (I := fun j ε σ => (ε 2 = .ref 0 0 0 ∧ ε 3 = .ref 1 0 0 ∧ ε 5 = .v (.int .i64 k) ∧ ε 6 = .v (.int .i64 j)) ∧ j ≤ l.length ∧ σ = [.obj 0 (aPr m fs), .obj 0 (aPr m fs)])
        (μ := fun j => l.length - j) (Q := fun ε σ => (ε 2 = .ref 0 0 0 ∧ ε 3 = .ref 1 0 0 ∧ ε 5 = .v (.int .i64 k)) ∧ σ = [.obj 0 (aPr m fs), .obj 0 (aPr m fs)]) (x := 0) ?_ ?_ ?_
      · simp (maxSteps := 1000000) (implicitDefEqProofs := false) (disch := omega) only [push_cast, ↓reduceIte, Nat.reduceEqDiff, reduceCtorEq, wz, hρ]
        omega
      · rintro j ε σ N E ⟨hρ, hj, rfl⟩ hN hE
        simp only [S_forebayref04_Same_L2]
        by_cases hlj : j < l.length
        · obtain ⟨x, hx⟩ := at_lt hlj
          have hd := flat_drop aIx_len hx
          have hq := eqsIx true x x
          rw [show (true != decide (x = x)) = false by simp] at hq
          simp (maxSteps := 1000000) (implicitDefEqProofs := false) (disch := omega) only [push_cast, ↓reduceIte, Nat.reduceEqDiff, reduceCtorEq, wz, hρ, g1, hl, hIL, hd, cellsIx, hq]
          exact hN (j + 1) _ _ ⟨by simp (maxSteps := 1000000) (implicitDefEqProofs := false) (disch := omega) only [push_cast, ↓reduceIte, Nat.reduceEqDiff, reduceCtorEq, wz, hρ], by omega, rfl⟩ (by omega)
        · simp (maxSteps := 1000000) (implicitDefEqProofs := false) (disch := omega) only [push_cast, ↓reduceIte, Nat.reduceEqDiff, reduceCtorEq, wz, hρ, g1, hl, hIL]
          exact hE _ _ ⟨by simp (maxSteps := 1000000) (implicitDefEqProofs := false) (disch := omega) only [push_cast, ↓reduceIte, Nat.reduceEqDiff, reduceCtorEq, wz, hρ], rfl⟩
      · rintro ε σ ⟨hρ, rfl⟩
        simp (maxSteps := 1000000) (implicitDefEqProofs := false) (disch := omega) only [push_cast, ↓reduceIte, Nat.reduceEqDiff, reduceCtorEq, wz, hρ]
        exact hN (k + 1) _ _ ⟨by simp (maxSteps := 1000000) (implicitDefEqProofs := false) (disch := omega) only [push_cast, ↓reduceIte, Nat.reduceEqDiff, reduceCtorEq, wz, hρ], by omega, rfl⟩ (by omega)
    · simp (maxSteps := 1000000) (implicitDefEqProofs := false) (disch := omega) only [push_cast, ↓reduceIte, Nat.reduceEqDiff, reduceCtorEq, wz, hρ, g1]
      exact hE _ _ trivial
  · rintro ε σ -
    simp (maxSteps := 1000000) (implicitDefEqProofs := false) (disch := omega) only [push_cast, ↓reduceIte, Nat.reduceEqDiff, reduceCtorEq, wz]
    exact ⟨[], rfl, rfl⟩
end Go.Proofs.Ythgmfjkbgacfaaa
