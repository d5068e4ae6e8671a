/- Tidy: the document's Program: the walk. -/
import Derived.Test.YthgmfjkbgacfaaaTdn
namespace Go.Proofs.Ythgmfjkbgacfaaa
set_option linter.unusedVariables false
set_option linter.unusedSimpArgs false
open Go Go.Kx Go.Proofs

set_option maxHeartbeats 16000000 in
theorem ref42_Program_a (m : Int) (fs : List (List Ix)) (hf : okF fs) : FnP Try.prog 29 [.agg (aPr m fs)] fun a => a = tidyA m fs := by
  refine fnP_in K_forebayref42_Program mixed rfl (by simp [AV.pureL, AV.pure, aPr_pure]) ?_
  simp only [S_forebayref42_Program]
  have hf' := hf
  obtain ⟨hf1, hf2⟩ := hf
  have hac : (AV.agg (aPr m fs)).cells = aPr m fs := rfl
  have g0 : (aPr m fs)[0]? = some (.v (.int .i64 m)) := rfl
  have g1 : (aPr m fs)[1]? = some (.sl fs.length (fs.map aIxs) .none) := rfl
  have hb : fillA [AV.v (.int .i64 0), AV.sl 0 [] .nil] [(0, 1)] [AV.v (.int .i64 m)] = some [AV.v (.int .i64 m), AV.sl 0 [] .nil] := by simp [fillA, AV.cells, Value.cells, setAtA]
  refine wpa_seqx (fun ε σ => (ε 1 = .ref 0 0 0 ∧ ε 2 = .ref 1 0 0) ∧ σ = [.obj 0 (aPr m fs), .obj 0 [.v (.int .i64 0), .sl 0 [] .nil]]) ?_ ?_
  · intro N X R hN
    simp (maxSteps := 1000000) (implicitDefEqProofs := false) (disch := omega) only [push_cast, ↓reduceIte, Nat.reduceEqDiff, reduceCtorEq, wz]
    refine wpa_box ?_
    simp (maxSteps := 1000000) (implicitDefEqProofs := false) (disch := omega) only [push_cast, ↓reduceIte, Nat.reduceEqDiff, reduceCtorEq, wz, hac]
    refine wpa_new ?_
    simp (maxSteps := 1000000) (implicitDefEqProofs := false) (disch := omega) only [push_cast, ↓reduceIte, Nat.reduceEqDiff, reduceCtorEq, wz]
    exact hN _ _ (by simp (maxSteps := 1000000) (implicitDefEqProofs := false) (disch := omega) only [push_cast, ↓reduceIte, Nat.reduceEqDiff, reduceCtorEq, wz])
  rintro ε σ ⟨hρ, rfl⟩
  refine wpa_seqx (fun ε σ => (ε 1 = .ref 0 0 0 ∧ ε 2 = .ref 1 0 0 ∧ ε 5 = .v (.int .i64 (prgE m fs))) ∧ σ = [.obj 0 (aPr m fs), .obj 0 [.v (.int .i64 0), .sl 0 [] .nil]]) ?_ ?_
  · intro N X R hN
    simp (maxSteps := 1000000) (implicitDefEqProofs := false) (disch := omega) only [push_cast, ↓reduceIte, Nat.reduceEqDiff, reduceCtorEq, wz, hρ, cellsPr]
    refine wpa_call (ref04_Check_a m fs hf') ?_
    rintro a rfl
    simp (maxSteps := 1000000) (implicitDefEqProofs := false) (disch := omega) only [push_cast, ↓reduceIte, Nat.reduceEqDiff, reduceCtorEq, wz, aInt]
    exact hN _ _ ⟨by simp (maxSteps := 1000000) (implicitDefEqProofs := false) (disch := omega) only [push_cast, ↓reduceIte, Nat.reduceEqDiff, reduceCtorEq, wz, hρ], rfl⟩
  clear hρ ε
  rintro ε σ ⟨hρ, rfl⟩
  refine wpa_seq (fun ε σ => (ε 1 = .ref 0 0 0 ∧ ε 2 = .ref 1 0 0) ∧ σ = [.obj 0 (aPr m fs), .obj 0 [.v (.int .i64 0), .sl 0 [] .nil]] ∧ prgE m fs = 0) ?_ ?_
  · intro N hN
    by_cases hz : prgE m fs = 0
    · simp (maxSteps := 1000000) (implicitDefEqProofs := false) (disch := omega) only [push_cast, ↓reduceIte, Nat.reduceEqDiff, reduceCtorEq, wz, hρ, hz]
      exact hN _ _ ⟨by simp (maxSteps := 1000000) (implicitDefEqProofs := false) (disch := omega) only [push_cast, ↓reduceIte, Nat.reduceEqDiff, reduceCtorEq, wz, hρ], rfl, hz⟩
    · have hT : tidyA m fs = .tup [.agg (aPr 0 []), aInt 0, aInt (prgE m fs)] := by
        unfold tidyA tidyM tidyF tidyN
        rw [if_neg hz, if_neg hz, if_neg hz]
        rfl
      rw [hT]
      have hb0 : fillA [AV.v (.int .i64 0), AV.sl 0 [] .nil] [] [] = some [AV.v (.int .i64 0), AV.sl 0 [] .nil] := by simp [fillA]
      have hset : setAtA [AV.v (.int .i64 0), AV.sl 0 [] .nil] 0 [AV.v (.int .i64 0), AV.sl 0 [] .nil] = [AV.v (.int .i64 0), AV.sl 0 [] .nil] := rfl
      have hc2 : cellsA (some 2) [AV.v (.int .i64 0), AV.sl 0 [] .nil] = some (.agg [AV.v (.int .i64 0), AV.sl 0 [] .nil]) := rfl
      simp (maxSteps := 1000000) (implicitDefEqProofs := false) (disch := omega) only [push_cast, ↓reduceIte, Nat.reduceEqDiff, reduceCtorEq, wz, hρ, hz, hb0]
      refine wpa_stn (cs := [AV.v (.int .i64 0), AV.sl 0 [] .nil]) rfl rfl rfl (by decide) ?_
      rw [hset]
      simp (maxSteps := 1000000) (implicitDefEqProofs := false) (disch := omega) only [push_cast, ↓reduceIte, Nat.reduceEqDiff, reduceCtorEq, wz, hρ, hc2]
      exact fin_tup3 [] (pr_res _ 0 [] .nil) (res_v _ _) (res_v _ _) (aPr_pure' _ _) rfl rfl rfl
  clear hρ ε
  rintro ε σ ⟨hρ, rfl, hz⟩
  obtain ⟨_, _, hFo⟩ := prg_ok hz
  have hT : tidyA m fs = .tup [.agg (aPr m (fs.map fixR)), aInt (dropS fs : Nat), aInt 0] := by
    unfold tidyA tidyM tidyF tidyN
    rw [if_pos hz, if_pos hz, if_pos hz, hz]
  rw [hT]
  refine wpa_seqx (fun ε σ => (ε 1 = .ref 0 0 0 ∧ ε 2 = .ref 1 0 0 ∧ ε 6 = .ref 2 0 0) ∧ σ = [.obj 0 (aPr m fs), .obj 0 [.v (.int .i64 0), .sl 0 [] .nil], .obj 0 [.v (.int .i64 m), .sl 0 [] .nil]]) ?_ ?_
  · intro N X R hN
    simp (maxSteps := 1000000) (implicitDefEqProofs := false) (disch := omega) only [push_cast, ↓reduceIte, Nat.reduceEqDiff, reduceCtorEq, wz, hρ, g0, hb]
    refine wpa_new ?_
    simp (maxSteps := 1000000) (implicitDefEqProofs := false) (disch := omega) only [push_cast, ↓reduceIte, Nat.reduceEqDiff, reduceCtorEq, wz]
    refine wpa_stn (cs := [AV.v (.int .i64 0), AV.sl 0 [] .nil]) rfl rfl rfl (by decide) ?_
    have hset : setAtA [AV.v (.int .i64 0), AV.sl 0 [] .nil] 0 [AV.v (.int .i64 m), AV.sl 0 [] .nil] = [AV.v (.int .i64 m), AV.sl 0 [] .nil] := rfl
    rw [hset]
    simp (maxSteps := 1000000) (implicitDefEqProofs := false) (disch := omega) only [push_cast, ↓reduceIte, Nat.reduceEqDiff, reduceCtorEq, wz]
    exact hN _ _ (by simp (maxSteps := 1000000) (implicitDefEqProofs := false) (disch := omega) only [push_cast, ↓reduceIte, Nat.reduceEqDiff, reduceCtorEq, wz, hρ])
  clear hρ ε
  rintro ε σ ⟨hρ, rfl⟩
  refine wpa_seqx (fun ε σ => (ε 1 = .ref 0 0 0 ∧ ε 2 = .ref 1 0 0 ∧ ε 6 = .ref 2 0 0 ∧ ε 7 = .v (.int .i64 0)) ∧ σ = [.obj 0 (aPr m fs), .obj 0 [.v (.int .i64 0), .sl 0 [] .nil], .obj 0 [.v (.int .i64 m), .sl 0 [] .nil]]) (fun N X' R' hN => by simp (maxSteps := 1000000) (implicitDefEqProofs := false) (disch := omega) only [push_cast, ↓reduceIte, Nat.reduceEqDiff, reduceCtorEq, wz, hρ]; exact hN _ _ (by simp (maxSteps := 1000000) (implicitDefEqProofs := false) (disch := omega) only [push_cast, ↓reduceIte, Nat.reduceEqDiff, reduceCtorEq, wz, hρ])) ?_
  clear hρ ε
  rintro ε σ ⟨hρ, rfl⟩
  refine wpa_seqx (fun ε σ => (ε 2 = .ref 1 0 0 ∧ ε 6 = .ref 2 0 0 ∧ ε 7 = .v (.int .i64 (dropS fs : Nat))) ∧ ∃ w, σ = [.obj 0 (aPr m fs), .obj 0 [.v (.int .i64 0), .sl 0 [] .nil], .obj 0 [.v (.int .i64 m), .sl fs.length ((fs.map fixR).map aIxs) (.id 3 w 1)], .tail w]) ?_ ?_
  · intro N X R hN
    simp (maxSteps := 1000000) (implicitDefEqProofs := false) (disch := omega) only [push_cast, ↓reduceIte, Nat.reduceEqDiff, reduceCtorEq, wz, hρ, g1]
    refine wpa_blgx (GU.tokO (i := 2) (j := 1) 1 rfl rfl) (α := Nat) (I := fun k ε σ => (ε 1 = .ref 0 0 0 ∧ ε 2 = .ref 1 0 0 ∧ ε 6 = .ref 2 0 0 ∧ ε 7 = .v (.int .i64 (dropS (fs.take k) : Nat)) ∧ ε 8 = .v (.int .i64 k)) ∧ k ≤ fs.length ∧
        ∃ w, σ = [.obj 0 (aPr m fs), .obj 0 [.v (.int .i64 0), .sl 0 [] .nil], .obj 0 [.v (.int .i64 m), .sl k (((fs.take k).map fixR).map aIxs) (.id 3 w 1)], .tail w])
      (μ := fun k => fs.length - k) (Q := fun ε σ => (ε 2 = .ref 1 0 0 ∧ ε 6 = .ref 2 0 0 ∧ ε 7 = .v (.int .i64 (dropS fs : Nat))) ∧ ∃ w, σ = [.obj 0 (aPr m fs), .obj 0 [.v (.int .i64 0), .sl 0 [] .nil], .obj 0 [.v (.int .i64 m), .sl fs.length ((fs.map fixR).map aIxs) (.id 3 w 1)], .tail w]) (x := 0) ?_ ?_ hN
    · simp (maxSteps := 1000000) (implicitDefEqProofs := false) (disch := omega) only [push_cast, ↓reduceIte, Nat.reduceEqDiff, reduceCtorEq, wz, hρ]
      exact ⟨rfl, by omega, 0, rfl⟩
    · clear hN N X R hρ ε
      rintro k ε σ N E X R ⟨hρ, hk, w, rfl⟩ hN hE
      simp only [S_forebayref42_Program_L1]
      by_cases hlt : k < fs.length
      · obtain ⟨l, hl⟩ := at_lt hlt
        have hll := hf2 l (List.mem_of_getElem? hl)
        have hRt := (hFo l (List.mem_of_getElem? hl)).rt
        have hpos := hRt.pos
        obtain ⟨hfx1, hfx2, hfx3⟩ := fixR_spec hRt
        have hIL : aIxs l = .sl l.length (l.flatMap aIx) .none := rfl
        have hFL : aIxs (fixR l) = .sl (fixR l).length ((fixR l).flatMap aIx) .none := rfl
        have hds := dropS_succ hl
        have hdl := dropS_le hf2 k hk
        have hlk : (fs.take k).length = k := by rw [List.length_take]; omega
        have hts := take_succ_at hl
        generalize hD0 : dropS (fs.take k) = D0 at hρ hds hdl
        have hg1 : ([Res.obj 0 (aPr m fs), .obj 0 [.v (.int .i64 0), .sl 0 [] .nil], .obj 0 [.v (.int .i64 m), .sl k (((fs.take k).map fixR).map aIxs) (.id 3 w 1)], .tail w] : Kx.St)[0]? = some (.obj 0 (aPr m fs)) := rfl
        have hg2 : ([Res.obj 0 (aPr m fs), .obj 0 [.v (.int .i64 0), .sl 0 [] .nil], .obj 0 [.v (.int .i64 m), .sl k (((fs.take k).map fixR).map aIxs) (.id 3 w 1)], .tail w] : Kx.St)[2]? = some (.obj 0 [.v (.int .i64 m), .sl k (((fs.take k).map fixR).map aIxs) (.id 3 w 1)]) := rfl
        have hg3 : ([Res.obj 0 (aPr m fs), .obj 0 [.v (.int .i64 0), .sl 0 [] .nil], .obj 0 [.v (.int .i64 m), .sl k (((fs.take k).map fixR).map aIxs) (.id 3 w 1)], .tail w] : Kx.St)[3]? = some (.tail w) := rfl
        have hgs : ∀ (v : AV), ([Res.obj 0 (aPr m fs), .obj 0 [.v (.int .i64 0), .sl 0 [] .nil], .obj 0 [.v (.int .i64 m), .sl k (((fs.take k).map fixR).map aIxs) (.id 3 w 1)], .tail w] : Kx.St).set 3 (.tail (w + 1)) = [Res.obj 0 (aPr m fs), .obj 0 [.v (.int .i64 0), .sl 0 [] .nil], .obj 0 [.v (.int .i64 m), .sl k (((fs.take k).map fixR).map aIxs) (.id 3 w 1)], .tail (w + 1)] := fun _ => rfl
        refine wpa_seq (fun ε' σ' => (ε' 1 = .ref 0 0 0 ∧ ε' 2 = .ref 1 0 0 ∧ ε' 6 = .ref 2 0 0 ∧ ε' 7 = .v (.int .i64 D0) ∧ ε' 8 = .v (.int .i64 k)) ∧ σ' = [.obj 0 (aPr m fs), .obj 0 [.v (.int .i64 0), .sl 0 [] .nil], .obj 0 [.v (.int .i64 m), .sl k (((fs.take k).map fixR).map aIxs) (.id 3 w 1)], .tail w]) ?_ ?_
        · intro N2 hN2
          simp (maxSteps := 1000000) (implicitDefEqProofs := false) (disch := omega) only [push_cast, ↓reduceIte, Nat.reduceEqDiff, reduceCtorEq, wz, hρ, g1]
          exact hN2 _ _ (by simp (maxSteps := 1000000) (implicitDefEqProofs := false) (disch := omega) only [push_cast, ↓reduceIte, Nat.reduceEqDiff, reduceCtorEq, wz, hρ])
        clear hρ ε
        rintro ε σ ⟨hρ, rfl⟩
        refine wpa_seqx (fun ε' σ' => (ε' 1 = .ref 0 0 0 ∧ ε' 2 = .ref 1 0 0 ∧ ε' 6 = .ref 2 0 0 ∧ ε' 7 = .v (.int .i64 (dropS (fs.take (k + 1)) : Nat)) ∧ ε' 8 = .v (.int .i64 k)) ∧ ∃ w, σ' = [.obj 0 (aPr m fs), .obj 0 [.v (.int .i64 0), .sl 0 [] .nil], .obj 0 [.v (.int .i64 m), .sl (k + 1) (((fs.take (k + 1)).map fixR).map aIxs) (.id 3 w 1)], .tail w]) ?_ ?_
        · intro N2 X2 R2 hN2
          refine wpa_blk fun X' _ => ?_
          refine wpa_seqx (fun ε' σ' => (ε' 1 = .ref 0 0 0 ∧ ε' 2 = .ref 1 0 0 ∧ ε' 6 = .ref 2 0 0 ∧ ε' 7 = .v (.int .i64 D0) ∧ ε' 8 = .v (.int .i64 k) ∧ ε' 9 = aIxs l) ∧ σ' = [.obj 0 (aPr m fs), .obj 0 [.v (.int .i64 0), .sl 0 [] .nil], .obj 0 [.v (.int .i64 m), .sl k (((fs.take k).map fixR).map aIxs) (.id 3 w 1)], .tail w]) ?_ ?_
          · intro N3 X3 R3 hN3
            simp (maxSteps := 1000000) (implicitDefEqProofs := false) (disch := omega) only [push_cast, ↓reduceIte, Nat.reduceEqDiff, reduceCtorEq, wz, hρ, hl, g1]
            exact hN3 _ _ (by simp (maxSteps := 1000000) (implicitDefEqProofs := false) (disch := omega) only [push_cast, ↓reduceIte, Nat.reduceEqDiff, reduceCtorEq, wz, hρ])
          clear hρ ε
          rintro ε σ ⟨hρ, rfl⟩
          generalize hS : ([Res.obj 0 (aPr m fs), .obj 0 [.v (.int .i64 0), .sl 0 [] .nil], .obj 0 [.v (.int .i64 m), .sl k (((fs.take k).map fixR).map aIxs) (.id 3 w 1)], .tail w] : Kx.St) = S at hg1 hg2 hg3
          refine wpa_seqx (fun ε' σ' => (ε' 1 = .ref 0 0 0 ∧ ε' 2 = .ref 1 0 0 ∧ ε' 6 = .ref 2 0 0 ∧ ε' 7 = .v (.int .i64 D0) ∧ ε' 8 = .v (.int .i64 k) ∧ ε' 9 = aIxs (fixR l)) ∧ σ' = S) ?_ ?_
          · intro N3 X3 R3 hN3
            simp (maxSteps := 1000000) (implicitDefEqProofs := false) (disch := omega) only [push_cast, ↓reduceIte, Nat.reduceEqDiff, reduceCtorEq, wz]
            refine wpa_blx (α := Nat × List Ix × Bool) (I := fun s ε' σ' => (ε' 1 = .ref 0 0 0 ∧ ε' 2 = .ref 1 0 0 ∧ ε' 6 = .ref 2 0 0 ∧ ε' 7 = .v (.int .i64 D0) ∧ ε' 8 = .v (.int .i64 k) ∧ ε' 9 = aIxs s.2.1 ∧ ε' 10 = .v (.bool s.2.2)) ∧
                  σ' = S ∧ Rt s.2.1 ∧ s.2.1.length ≤ 300 ∧ (s.2.2 = true → muR s.2.1 ≤ s.1 ∧ fixR l = fixN s.1 s.2.1) ∧ (s.2.2 = false → s.2.1 = fixR l))
              (μ := fun s => s.1 + if s.2.2 then 1 else 0) (Q := fun ε' σ' => (ε' 1 = .ref 0 0 0 ∧ ε' 2 = .ref 1 0 0 ∧ ε' 6 = .ref 2 0 0 ∧ ε' 7 = .v (.int .i64 D0) ∧ ε' 8 = .v (.int .i64 k) ∧ ε' 9 = aIxs (fixR l)) ∧ σ' = S) (x := (l.length + 1, l, true)) ?_ ?_ hN3
            · simp (maxSteps := 1000000) (implicitDefEqProofs := false) (disch := omega) only [push_cast, ↓reduceIte, Nat.reduceEqDiff, reduceCtorEq, wz, hρ]
              exact ⟨hRt, hll, fun _ => ⟨muR_le l, rfl⟩, fun h => by cases h⟩
            · clear hN3 N3 X3 R3 hρ ε
              rintro ⟨n, now, g⟩ ε σ N E X R ⟨hρ, rfl, hRn, hnl, hgt, hgf⟩ hN3 hE3
              simp only at hρ hRn hnl hgt hgf
              simp only [S_forebayref42_Program_L2]
              cases g with
              | false =>
                rw [hgf rfl] at hρ
                simp (maxSteps := 1000000) (implicitDefEqProofs := false) (disch := omega) only [push_cast, ↓reduceIte, Nat.reduceEqDiff, reduceCtorEq, wz, hρ]
                exact hE3 _ _ ⟨by simp (maxSteps := 1000000) (implicitDefEqProofs := false) (disch := omega) only [push_cast, ↓reduceIte, Nat.reduceEqDiff, reduceCtorEq, wz, hρ], rfl⟩
              | true =>
                obtain ⟨hmu, hfx⟩ := hgt rfl
                have hrl := rnd_len now
                have hrR := rnd_Rt hRn
                have hlt2 := fun h => muR_lt hRn (h : rnd now ≠ now)
                have hNL : aIxs now = .sl now.length (now.flatMap aIx) .none := rfl
                have hML : aIxs (rnd now) = .sl (rnd now).length ((rnd now).flatMap aIx) .none := rfl
                have fin : ∀ (b : Bool), b = decide (rnd now ≠ now) → ∀ ε' : AEnv, (ε' 1 = .ref 0 0 0 ∧ ε' 2 = .ref 1 0 0 ∧ ε' 6 = .ref 2 0 0 ∧ ε' 7 = .v (.int .i64 D0) ∧ ε' 8 = .v (.int .i64 k) ∧ ε' 9 = aIxs (rnd now) ∧ ε' 10 = .v (.bool b)) → act (N ε' σ) := by
                  intro b hb ε' h1
                  cases b with
                  | true =>
                    have hne : rnd now ≠ now := by simpa using hb.symm
                    have hlt3 := hlt2 hne
                    obtain ⟨n, rfl⟩ : ∃ n', n = n' + 1 := ⟨n - 1, by omega⟩
                    rw [fixN_step hne] at hfx
                    exact hN3 (n, rnd now, true) ε' σ ⟨h1, rfl, hrR, by simp only; omega, fun _ => ⟨by simp only; omega, hfx⟩, fun h => by cases h⟩ (by simp only [if_true]; omega)
                  | false =>
                    have heq : rnd now = now := by simpa using hb.symm
                    rw [fixN_done heq] at hfx
                    exact hN3 (n, rnd now, false) ε' σ ⟨h1, rfl, hrR, by simp only; omega, fun h => (by cases h), fun _ => by simp only; rw [heq, hfx]⟩ (by simp only [if_true, Bool.false_eq_true, if_false]; omega)
                clear hN3 hE3
                simp (maxSteps := 1000000) (implicitDefEqProofs := false) (disch := omega) only [push_cast, ↓reduceIte, Nat.reduceEqDiff, reduceCtorEq, wz, hρ]
                refine wpa_call (ref42_Round_a now hRn hnl) ?_
                rintro a rfl
                have hb0 : ∃ b0 : Bool, b0 = decide (((rnd now).length : Int) ≠ (now.length : Int)) := ⟨_, rfl⟩
                obtain ⟨b0, hb0⟩ := hb0
                simp (maxSteps := 1000000) (implicitDefEqProofs := false) (disch := omega) only [push_cast, ↓reduceIte, Nat.reduceEqDiff, reduceCtorEq, wz, hρ, hNL, hML]
                refine wpa_blx (α := Nat × Bool) (I := fun s ε' σ' => (ε' 1 = .ref 0 0 0 ∧ ε' 2 = .ref 1 0 0 ∧ ε' 6 = .ref 2 0 0 ∧ ε' 7 = .v (.int .i64 D0) ∧ ε' 8 = .v (.int .i64 k) ∧ ε' 9 = aIxs now ∧ ε' 10 = .v (.bool s.2) ∧ ε' 11 = aIxs (rnd now) ∧ ε' 12 = .v (.int .i64 s.1)) ∧ σ' = σ ∧ s.1 ≤ (rnd now).length ∧
                      (s.2 = true → rnd now ≠ now) ∧ (s.2 = false → (rnd now).length = now.length ∧ (rnd now).take s.1 = now.take s.1))
                  (μ := fun s => (rnd now).length - s.1) (Q := fun ε' σ' => ∃ b : Bool, (ε' 1 = .ref 0 0 0 ∧ ε' 2 = .ref 1 0 0 ∧ ε' 6 = .ref 2 0 0 ∧ ε' 7 = .v (.int .i64 D0) ∧ ε' 8 = .v (.int .i64 k) ∧ ε' 10 = .v (.bool b) ∧ ε' 11 = aIxs (rnd now)) ∧ σ' = σ ∧ b = decide (rnd now ≠ now)) (x := (0, b0)) ?_ ?_ ?_
                · refine ⟨?_, rfl, Nat.zero_le _, fun h e => ?_, fun h => ?_⟩
                  · rw [hb0]
                    simp (maxSteps := 1000000) (implicitDefEqProofs := false) (disch := omega) only [push_cast, ↓reduceIte, Nat.reduceEqDiff, reduceCtorEq, wz, hρ, hNL, hML]
                  · rw [hb0, e] at h; simp at h
                  · rw [hb0] at h
                    simp at h
                    exact ⟨by omega, by simp⟩
                · clear fin hb0 b0 hρ ε
                  rintro ⟨j, b⟩ ε τ N E X R ⟨hρ, rfl, hj, hbt, hbf⟩ hN hE
                  simp only at hρ hj hbt hbf
                  simp only [S_forebayref42_Program_L3]
                  cases b with
                  | true =>
                    have hd : true = decide (rnd now ≠ now) := by simpa using hbt rfl
                    by_cases hjl : j < (rnd now).length
                    · simp (maxSteps := 1000000) (implicitDefEqProofs := false) (disch := omega) only [push_cast, ↓reduceIte, Nat.reduceEqDiff, reduceCtorEq, wz, hρ, hML]
                      exact hE _ _ ⟨true, by simp (maxSteps := 1000000) (implicitDefEqProofs := false) (disch := omega) only [push_cast, ↓reduceIte, Nat.reduceEqDiff, reduceCtorEq, wz, hρ, hML], rfl, hd⟩
                    · simp (maxSteps := 1000000) (implicitDefEqProofs := false) (disch := omega) only [push_cast, ↓reduceIte, Nat.reduceEqDiff, reduceCtorEq, wz, hρ, hML]
                      exact hE _ _ ⟨true, by simp (maxSteps := 1000000) (implicitDefEqProofs := false) (disch := omega) only [push_cast, ↓reduceIte, Nat.reduceEqDiff, reduceCtorEq, wz, hρ, hML], rfl, hd⟩
                  | false =>
                    obtain ⟨hlen, hte⟩ := hbf rfl
                    by_cases hjl : j < (rnd now).length
                    · obtain ⟨x, hx⟩ := at_lt hjl
                      obtain ⟨y, hy⟩ := at_lt (l := now) (k := j) (by omega)
                      have hd1 := flat_drop aIx_len hx
                      have hd2 := flat_drop aIx_len hy
                      have hqq := eqsIx true x y
                      by_cases hxy : x = y
                      · rw [show (true != decide (x = y)) = false by simp [hxy]] at hqq
                        simp (maxSteps := 1000000) (implicitDefEqProofs := false) (disch := omega) only [push_cast, ↓reduceIte, Nat.reduceEqDiff, reduceCtorEq, wz, hρ, hML, hNL, hd1, hd2, cellsIx, hqq]
                        refine hN (j + 1, false) _ _ ?_ (by simp only; omega)
                        exact ⟨by simp (maxSteps := 1000000) (implicitDefEqProofs := false) (disch := omega) only [push_cast, ↓reduceIte, Nat.reduceEqDiff, reduceCtorEq, wz, hρ, hML, hNL], rfl, by simp only; omega, fun h => (by cases h), fun _ => ⟨hlen, by simp only; rw [take_succ_at hx, take_succ_at hy, hte, hxy]⟩⟩
                      · rw [show (true != decide (x = y)) = true by simp [hxy]] at hqq
                        have hne : rnd now ≠ now := fun h => by rw [h, hy] at hx; cases hx; exact hxy rfl
                        simp (maxSteps := 1000000) (implicitDefEqProofs := false) (disch := omega) only [push_cast, ↓reduceIte, Nat.reduceEqDiff, reduceCtorEq, wz, hρ, hML, hNL, hd1, hd2, cellsIx, hqq]
                        refine hN (j + 1, true) _ _ ?_ (by simp only; omega)
                        exact ⟨by simp (maxSteps := 1000000) (implicitDefEqProofs := false) (disch := omega) only [push_cast, ↓reduceIte, Nat.reduceEqDiff, reduceCtorEq, wz, hρ, hML, hNL], rfl, by simp only; omega, fun _ => hne, fun h => by cases h⟩
                    · rw [List.take_of_length_le (by omega), List.take_of_length_le (by omega)] at hte
                      simp (maxSteps := 1000000) (implicitDefEqProofs := false) (disch := omega) only [push_cast, ↓reduceIte, Nat.reduceEqDiff, reduceCtorEq, wz, hρ, hML]
                      exact hE _ _ ⟨false, by simp (maxSteps := 1000000) (implicitDefEqProofs := false) (disch := omega) only [push_cast, ↓reduceIte, Nat.reduceEqDiff, reduceCtorEq, wz, hρ, hML], rfl, by simp [hte]⟩
                · clear hρ ε
                  rintro ε τ ⟨b, hρ, rfl, hb⟩
                  simp (maxSteps := 1000000) (implicitDefEqProofs := false) (disch := omega) only [push_cast, ↓reduceIte, Nat.reduceEqDiff, reduceCtorEq, wz, hρ]
                  exact fin b hb _ (by simp (maxSteps := 1000000) (implicitDefEqProofs := false) (disch := omega) only [push_cast, ↓reduceIte, Nat.reduceEqDiff, reduceCtorEq, wz, hρ])
          clear hρ ε
          rintro ε σ ⟨hρ, rfl⟩
          have hsum : ((D0 : Int) + (l.length : Int) - ((fixR l).length : Int)) = ((dropS (fs.take (k + 1)) : Nat) : Int) := by omega
          refine wpa_seqx (fun ε' σ' => (ε' 1 = .ref 0 0 0 ∧ ε' 2 = .ref 1 0 0 ∧ ε' 6 = .ref 2 0 0 ∧ ε' 7 = .v (.int .i64 (dropS (fs.take (k + 1)) : Nat)) ∧ ε' 8 = .v (.int .i64 k) ∧ ε' 9 = aIxs (fixR l)) ∧ σ' = σ) ?_ ?_
          · intro N3 X3 R3 hN3
            rw [← hsum] at hN3
            simp (maxSteps := 1000000) (implicitDefEqProofs := false) (disch := omega) only [push_cast, ↓reduceIte, Nat.reduceEqDiff, reduceCtorEq, wz, hρ, hg1, g1, hl, hIL, hFL]
            rw [hFL] at hN3
            exact hN3 _ _ ⟨by simp (maxSteps := 1000000) (implicitDefEqProofs := false) (disch := omega) only [push_cast, ↓reduceIte, Nat.reduceEqDiff, reduceCtorEq, wz, hρ, hFL], rfl⟩
          clear hρ ε
          rintro ε σ' ⟨hρ, rfl⟩
          subst hS
          simp (maxSteps := 1000000) (implicitDefEqProofs := false) (disch := omega) only [push_cast, ↓reduceIte, Nat.reduceEqDiff, reduceCtorEq, wz, hρ]
          refine wpa_bsl (sz := 1) (by intro a ha; simp at ha; subst ha; rfl) (by simp) ?_
          simp (maxSteps := 1000000) (implicitDefEqProofs := false) (disch := omega) only [push_cast, ↓reduceIte, Nat.reduceEqDiff, reduceCtorEq, wz]
          refine wpa_app (m := 1) rfl rfl rfl rfl (by simp; omega) (by omega) (by omega) rfl ?_
          simp (maxSteps := 1000000) (implicitDefEqProofs := false) (disch := omega) only [push_cast, ↓reduceIte, Nat.reduceEqDiff, reduceCtorEq, wz, hρ]
          refine wpa_st1 rfl rfl rfl (by simp) ?_
          simp (maxSteps := 1000000) (implicitDefEqProofs := false) (disch := omega) only [push_cast, ↓reduceIte, Nat.reduceEqDiff, reduceCtorEq, wz, hρ]
          refine hN2 _ _ ⟨by simp (maxSteps := 1000000) (implicitDefEqProofs := false) (disch := omega) only [push_cast, ↓reduceIte, Nat.reduceEqDiff, reduceCtorEq, wz, hρ], w + 1, ?_⟩
          rw [hts]
          simp [AV.cells, aIxs, aSlN]
        clear hρ ε
        rintro ε σ ⟨hρ, w, rfl⟩
        simp (maxSteps := 1000000) (implicitDefEqProofs := false) (disch := omega) only [push_cast, ↓reduceIte, Nat.reduceEqDiff, reduceCtorEq, wz, hρ]
        refine hN (k + 1) _ _ ?_ (by omega)
        exact ⟨by simp (maxSteps := 1000000) (implicitDefEqProofs := false) (disch := omega) only [push_cast, ↓reduceIte, Nat.reduceEqDiff, reduceCtorEq, wz, hρ], by omega, w, rfl⟩
      · simp (maxSteps := 1000000) (implicitDefEqProofs := false) (disch := omega) only [push_cast, ↓reduceIte, Nat.reduceEqDiff, reduceCtorEq, wz, hρ, g1]
        obtain rfl : k = fs.length := by omega
        rw [List.take_length] at hρ ⊢
        exact hE _ _ ⟨by simp (maxSteps := 1000000) (implicitDefEqProofs := false) (disch := omega) only [push_cast, ↓reduceIte, Nat.reduceEqDiff, reduceCtorEq, wz, hρ], w, rfl⟩
  clear hρ ε
  rintro ε σ ⟨hρ, w, rfl⟩
  have hc2 : cellsA (some 2) [AV.v (.int .i64 m), .sl fs.length ((fs.map fixR).map aIxs) (.id 3 w 1)] = some (.agg [AV.v (.int .i64 m), .sl fs.length ((fs.map fixR).map aIxs) (.id 3 w 1)]) := rfl
  have hset : setAtA [AV.v (.int .i64 0), AV.sl 0 [] .nil] 0 [AV.v (.int .i64 m), .sl fs.length ((fs.map fixR).map aIxs) (.id 3 w 1)] = [AV.v (.int .i64 m), .sl fs.length ((fs.map fixR).map aIxs) (.id 3 w 1)] := rfl
  simp (maxSteps := 1000000) (implicitDefEqProofs := false) (disch := omega) only [push_cast, ↓reduceIte, Nat.reduceEqDiff, reduceCtorEq, wz, hρ, hc2]
  refine wpa_stn (cs := [AV.v (.int .i64 0), AV.sl 0 [] .nil]) rfl rfl rfl (by decide) ?_
  rw [hset]
  simp (maxSteps := 1000000) (implicitDefEqProofs := false) (disch := omega) only [push_cast, ↓reduceIte, Nat.reduceEqDiff, reduceCtorEq, wz, hρ, hc2]
  refine fin_tup3 [] ?_ (res_v _ _) (res_v _ _) (aPr_pure' m (fs.map fixR)) rfl rfl rfl
  have := pr_res [Res.obj 0 (aPr m fs), Res.obj 0 [AV.v (.int .i64 m), .sl fs.length ((fs.map fixR).map aIxs) (.id 3 w 1)], Res.obj 0 [AV.v (.int .i64 m), .sl fs.length ((fs.map fixR).map aIxs) (.id 3 w 1)], Res.tail w] m (fs.map fixR) (.id 3 w 1)
  rw [List.length_map] at this
  exact this
end Go.Proofs.Ythgmfjkbgacfaaa
