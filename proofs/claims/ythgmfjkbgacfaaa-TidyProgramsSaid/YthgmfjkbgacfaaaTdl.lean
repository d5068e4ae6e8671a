/- Tidy: Program: the walk. -/
import Derived.Test.YthgmfjkbgacfaaaTdk
namespace Go.Proofs.Ythgmfjkbgacfaaa
set_option linter.unusedVariables false
set_option linter.unusedSimpArgs false
open Go Go.Kx Go.Proofs

def tidyM (m : Int) (fs : List (List Ix)) : Int := if prgE m fs = 0 then m else 0
def tidyF (m : Int) (fs : List (List Ix)) : List (List Ix) := if prgE m fs = 0 then fs.map fixR else []
def tidyN (m : Int) (fs : List (List Ix)) : Nat := if prgE m fs = 0 then dropS fs else 0
def tidyA (m : Int) (fs : List (List Ix)) : AV := .tup [.agg (aPr (tidyM m fs) (tidyF m fs)), aInt (tidyN m fs : Nat), aInt (prgE m fs)]
theorem pr_res (σ : St) (m : Int) (fs : List (List Ix)) (t : Tok) : (AV.agg [AV.v (.int .i64 m), .sl fs.length (fs.map aIxs) t]).res σ = .agg (aPr m fs) := by
  have h1 := aFs_res σ fs t
  simp only [AV.res, AV.resL] at h1 ⊢
  rw [h1]
  rfl
theorem fin_tup3 {a b c a' b' c' : AV} {σ : St} {e : AV} (is : List Nat) (h1 : a.res (Go.Kx.freeze is σ) = a') (h2 : b.res (Go.Kx.freeze is σ) = b') (h3 : c.res (Go.Kx.freeze is σ) = c') (ha : a'.pure = true) (hb : b'.pure = true) (hc : c'.pure = true) (he : AV.tup [a', b', c'] = e) :
    ∃ is, ((AV.tup [a, b, c]).res (Go.Kx.freeze is σ)).pure = true ∧ (AV.tup [a, b, c]).res (Go.Kx.freeze is σ) = e := by
  subst he
  exact ⟨is, by simp [AV.res, AV.resL, AV.pure, AV.pureL, h1, h2, h3, ha, hb, hc], by simp [AV.res, AV.resL, h1, h2, h3]⟩
theorem aPr_pure' (m : Int) (fs : List (List Ix)) : (AV.agg (aPr m fs)).pure = true := by simp [AV.pure, aPr_pure]
set_option maxHeartbeats 16000000 in
theorem tidy_Program_a (m : Int) (fs : List (List Ix)) (hf : okF fs) : FnP Try.prog 27 [.agg (aPr m fs)] fun a => a = tidyA m fs := by
  refine fnP_in K_tidy_Program mixed rfl (by simp [AV.pureL, AV.pure, aPr_pure]) ?_
  simp only [S_tidy_Program]
  have hf' := hf
  obtain ⟨hf1, hf2⟩ := hf
  have hac : (AV.agg (aPr m fs)).cells = aPr m fs := rfl
  have g0 : (aPr m fs)[0]? = some (.v (.int .i64 m)) := rfl
  have g1 : (aPr m fs)[1]? = some (.sl fs.length (fs.map aIxs) .none) := rfl
  have hb : fillA [AV.v (.int .i64 0), AV.sl 0 [] .nil] [(0, 1)] [AV.v (.int .i64 m)] = some [AV.v (.int .i64 m), AV.sl 0 [] .nil] := by simp [fillA, AV.cells, Value.cells, setAtA]
  refine wpa_seqx (fun ε σ => (ε 1 = .ref 0 0 0 ∧ ε 2 = .ref 1 0 0) ∧ σ = [.obj 0 (aPr m fs), .obj 0 [.v (.int .i64 0), .sl 0 [] .nil]]) ?_ ?_
  · intro N X R hN
    simp (maxSteps := 1000000) (implicitDefEqProofs := false) (disch := omega) only [push_cast, ↓reduceIte, Nat.reduceEqDiff, reduceCtorEq, wz]
    refine wpa_box ?_
    simp (maxSteps := 1000000) (implicitDefEqProofs := false) (disch := omega) only [push_cast, ↓reduceIte, Nat.reduceEqDiff, reduceCtorEq, wz, hac]
    refine wpa_new ?_
    simp (maxSteps := 1000000) (implicitDefEqProofs := false) (disch := omega) only [push_cast, ↓reduceIte, Nat.reduceEqDiff, reduceCtorEq, wz]
    exact hN _ _ (by simp (maxSteps := 1000000) (implicitDefEqProofs := false) (disch := omega) only [push_cast, ↓reduceIte, Nat.reduceEqDiff, reduceCtorEq, wz])
  rintro ε σ ⟨hρ, rfl⟩
  refine wpa_seq (fun ε σ => (ε 1 = .ref 0 0 0 ∧ ε 2 = .ref 1 0 0) ∧ σ = [.obj 0 (aPr m fs), .obj 0 [.v (.int .i64 0), .sl 0 [] .nil]] ∧ prgE m fs = 0) ?_ ?_
  · intro N hN
    simp (maxSteps := 1000000) (implicitDefEqProofs := false) (disch := omega) only [push_cast, ↓reduceIte, Nat.reduceEqDiff, reduceCtorEq, wz, hρ, cellsPr]
    refine wpa_call (prog_Check_a m fs hf') ?_
    rintro a rfl
    by_cases hz : prgE m fs = 0
    · simp (maxSteps := 1000000) (implicitDefEqProofs := false) (disch := omega) only [push_cast, ↓reduceIte, Nat.reduceEqDiff, reduceCtorEq, wz, aInt, hz]
      exact hN _ _ ⟨by simp (maxSteps := 1000000) (implicitDefEqProofs := false) (disch := omega) only [push_cast, ↓reduceIte, Nat.reduceEqDiff, reduceCtorEq, wz, hρ], rfl, hz⟩
    · have hT : tidyA m fs = .tup [.agg (aPr 0 []), aInt 0, aInt (prgE m fs)] := by
        unfold tidyA tidyM tidyF tidyN
        rw [if_neg hz, if_neg hz, if_neg hz]
        rfl
      rw [hT]
      have hb0 : fillA [AV.v (.int .i64 0), AV.sl 0 [] .nil] [] [] = some [AV.v (.int .i64 0), AV.sl 0 [] .nil] := by simp [fillA]
      have hset : setAtA [AV.v (.int .i64 0), AV.sl 0 [] .nil] 0 [AV.v (.int .i64 0), AV.sl 0 [] .nil] = [AV.v (.int .i64 0), AV.sl 0 [] .nil] := rfl
      have hc2 : cellsA (some 2) [AV.v (.int .i64 0), AV.sl 0 [] .nil] = some (.agg [AV.v (.int .i64 0), AV.sl 0 [] .nil]) := rfl
      simp (maxSteps := 1000000) (implicitDefEqProofs := false) (disch := omega) only [push_cast, ↓reduceIte, Nat.reduceEqDiff, reduceCtorEq, wz, aInt, hz, hρ, hb0]
      refine wpa_stn (cs := [AV.v (.int .i64 0), AV.sl 0 [] .nil]) rfl rfl rfl (by decide) ?_
      rw [hset]
      simp (maxSteps := 1000000) (implicitDefEqProofs := false) (disch := omega) only [push_cast, ↓reduceIte, Nat.reduceEqDiff, reduceCtorEq, wz, hρ, hc2]
      exact fin_tup3 [] (pr_res _ 0 [] .nil) (res_v _ _) (res_v _ _) (aPr_pure' _ _) rfl rfl rfl
  clear hρ ε
  rintro ε σ ⟨hρ, rfl, hz⟩
  obtain ⟨_, _, hFo⟩ := prg_ok hz
  have hT : tidyA m fs = .tup [.agg (aPr m (fs.map fixR)), aInt (dropS fs : Nat), aInt 0] := by
    unfold tidyA tidyM tidyF tidyN
    rw [if_pos hz, if_pos hz, if_pos hz, hz]
  rw [hT]
  refine wpa_seqx (fun ε σ => (ε 1 = .ref 0 0 0 ∧ ε 2 = .ref 1 0 0 ∧ ε 6 = .ref 2 0 0 ∧ ε 7 = .v (.int .i64 0)) ∧ σ = [.obj 0 (aPr m fs), .obj 0 [.v (.int .i64 0), .sl 0 [] .nil], .obj 0 [.v (.int .i64 m), .sl 0 [] .nil]]) ?_ ?_
  · intro N X R hN
    simp (maxSteps := 1000000) (implicitDefEqProofs := false) (disch := omega) only [push_cast, ↓reduceIte, Nat.reduceEqDiff, reduceCtorEq, wz, hρ, g0, hb]
    refine wpa_new ?_
    simp (maxSteps := 1000000) (implicitDefEqProofs := false) (disch := omega) only [push_cast, ↓reduceIte, Nat.reduceEqDiff, reduceCtorEq, wz]
    refine wpa_stn (cs := [AV.v (.int .i64 0), AV.sl 0 [] .nil]) rfl rfl rfl (by decide) ?_
    have hset : setAtA [AV.v (.int .i64 0), AV.sl 0 [] .nil] 0 [AV.v (.int .i64 m), AV.sl 0 [] .nil] = [AV.v (.int .i64 m), AV.sl 0 [] .nil] := rfl
    rw [hset]
    simp (maxSteps := 1000000) (implicitDefEqProofs := false) (disch := omega) only [push_cast, ↓reduceIte, Nat.reduceEqDiff, reduceCtorEq, wz]
    exact hN _ _ (by simp (maxSteps := 1000000) (implicitDefEqProofs := false) (disch := omega) only [push_cast, ↓reduceIte, Nat.reduceEqDiff, reduceCtorEq, wz, hρ])
  clear hρ ε
  rintro ε σ ⟨hρ, rfl⟩
  refine wpa_seqx (fun ε σ => (ε 2 = .ref 1 0 0 ∧ ε 6 = .ref 2 0 0 ∧ ε 7 = .v (.int .i64 (dropS fs : Nat))) ∧ ∃ w, σ = [.obj 0 (aPr m fs), .obj 0 [.v (.int .i64 0), .sl 0 [] .nil], .obj 0 [.v (.int .i64 m), .sl fs.length ((fs.map fixR).map aIxs) (.id 3 w 1)], .tail w]) ?_ ?_
  · intro N X R hN
    simp (maxSteps := 1000000) (implicitDefEqProofs := false) (disch := omega) only [push_cast, ↓reduceIte, Nat.reduceEqDiff, reduceCtorEq, wz, hρ, g1]
    refine wpa_blgx (GU.tokO (i := 2) (j := 1) 1 rfl rfl) (α := Nat) (I := fun k ε σ => (ε 2 = .ref 1 0 0 ∧ ε 6 = .ref 2 0 0 ∧ ε 7 = .v (.int .i64 (dropS (fs.take k) : Nat)) ∧ ε 22 = .sl fs.length (fs.map aIxs) .none ∧ ε 23 = .v (.int .i64 fs.length) ∧ ε 24 = .v (.int .i64 k)) ∧ k ≤ fs.length ∧
        ∃ w, σ = [.obj 0 (aPr m fs), .obj 0 [.v (.int .i64 0), .sl 0 [] .nil], .obj 0 [.v (.int .i64 m), .sl k (((fs.take k).map fixR).map aIxs) (.id 3 w 1)], .tail w])
      (μ := fun k => fs.length - k) (Q := fun ε σ => (ε 2 = .ref 1 0 0 ∧ ε 6 = .ref 2 0 0 ∧ ε 7 = .v (.int .i64 (dropS fs : Nat))) ∧ ∃ w, σ = [.obj 0 (aPr m fs), .obj 0 [.v (.int .i64 0), .sl 0 [] .nil], .obj 0 [.v (.int .i64 m), .sl fs.length ((fs.map fixR).map aIxs) (.id 3 w 1)], .tail w]) (x := 0) ?_ ?_ hN
    · simp (maxSteps := 1000000) (implicitDefEqProofs := false) (disch := omega) only [push_cast, ↓reduceIte, Nat.reduceEqDiff, reduceCtorEq, wz, hρ]
      exact ⟨rfl, by omega, 0, rfl⟩
    · clear hN N X R hρ ε
      rintro k ε σ N E X R ⟨hρ, hk, w, rfl⟩ hN hE
      simp only [S_tidy_Program_L1]
      by_cases hlt : k < fs.length
      · obtain ⟨l, hl⟩ := at_lt hlt
        have hll := hf2 l (List.mem_of_getElem? hl)
        have hRt := (hFo l (List.mem_of_getElem? hl)).rt
        have hpos := hRt.pos
        obtain ⟨hfx1, hfx2, hfx3⟩ := fixR_spec hRt
        have hIL : aIxs l = .sl l.length (l.flatMap aIx) .none := rfl
        have hFL : aIxs (fixR l) = .sl (fixR l).length ((fixR l).flatMap aIx) .none := rfl
        have hds := dropS_succ hl
        have hdl := dropS_le hf2 k hk
        have hlk : (fs.take k).length = k := by rw [List.length_take]; omega
        have hts := take_succ_at hl
        generalize hD0 : dropS (fs.take k) = D0 at hρ hds hdl
        refine wpa_seqx (fun ε' σ' => (ε' 2 = .ref 1 0 0 ∧ ε' 6 = .ref 2 0 0 ∧ ε' 7 = .v (.int .i64 D0) ∧ ε' 22 = .sl fs.length (fs.map aIxs) .none ∧ ε' 23 = .v (.int .i64 fs.length) ∧ ε' 24 = .v (.int .i64 k) ∧ ε' 25 = .v (.bool true)) ∧ σ' = [.obj 0 (aPr m fs), .obj 0 [.v (.int .i64 0), .sl 0 [] .nil], .obj 0 [.v (.int .i64 m), .sl k (((fs.take k).map fixR).map aIxs) (.id 3 w 1)], .tail w]) ?_ ?_
        · intro N2 X2 R2 hN2
          simp (maxSteps := 1000000) (implicitDefEqProofs := false) (disch := omega) only [push_cast, ↓reduceIte, Nat.reduceEqDiff, reduceCtorEq, wz, hρ]
          exact hN2 _ _ (by simp (maxSteps := 1000000) (implicitDefEqProofs := false) (disch := omega) only [push_cast, ↓reduceIte, Nat.reduceEqDiff, reduceCtorEq, wz, hρ])
        clear hρ ε
        rintro ε σ ⟨hρ, rfl⟩
        refine wpa_seq (fun ε' σ' => (ε' 2 = .ref 1 0 0 ∧ ε' 6 = .ref 2 0 0 ∧ ε' 7 = .v (.int .i64 D0) ∧ ε' 22 = .sl fs.length (fs.map aIxs) .none ∧ ε' 23 = .v (.int .i64 fs.length) ∧ ε' 24 = .v (.int .i64 k)) ∧ σ' = [.obj 0 (aPr m fs), .obj 0 [.v (.int .i64 0), .sl 0 [] .nil], .obj 0 [.v (.int .i64 m), .sl k (((fs.take k).map fixR).map aIxs) (.id 3 w 1)], .tail w]) ?_ ?_
        · intro N2 hN2
          simp (maxSteps := 1000000) (implicitDefEqProofs := false) (disch := omega) only [push_cast, ↓reduceIte, Nat.reduceEqDiff, reduceCtorEq, wz, hρ]
          exact hN2 _ _ (by simp (maxSteps := 1000000) (implicitDefEqProofs := false) (disch := omega) only [push_cast, ↓reduceIte, Nat.reduceEqDiff, reduceCtorEq, wz, hρ])
        clear hρ ε
        rintro ε σ ⟨hρ, rfl⟩
        refine wpa_seqx (fun ε' σ' => (ε' 2 = .ref 1 0 0 ∧ ε' 6 = .ref 2 0 0 ∧ ε' 7 = .v (.int .i64 (dropS (fs.take (k + 1)) : Nat)) ∧ ε' 22 = .sl fs.length (fs.map aIxs) .none ∧ ε' 23 = .v (.int .i64 fs.length) ∧ ε' 24 = .v (.int .i64 k)) ∧ ∃ w, σ' = [.obj 0 (aPr m fs), .obj 0 [.v (.int .i64 0), .sl 0 [] .nil], .obj 0 [.v (.int .i64 m), .sl (k + 1) (((fs.take (k + 1)).map fixR).map aIxs) (.id 3 w 1)], .tail w]) ?_ ?_
        · intro N2 X2 R2 hN2
          refine wpa_blk fun X' _ => ?_
          refine wpa_seqx (fun ε' σ' => (ε' 2 = .ref 1 0 0 ∧ ε' 6 = .ref 2 0 0 ∧ ε' 7 = .v (.int .i64 D0) ∧ ε' 22 = .sl fs.length (fs.map aIxs) .none ∧ ε' 23 = .v (.int .i64 fs.length) ∧ ε' 24 = .v (.int .i64 k) ∧ ε' 9 = aIxs l) ∧ σ' = [.obj 0 (aPr m fs), .obj 0 [.v (.int .i64 0), .sl 0 [] .nil], .obj 0 [.v (.int .i64 m), .sl k (((fs.take k).map fixR).map aIxs) (.id 3 w 1)], .tail w]) ?_ ?_
          · intro N3 X3 R3 hN3
            simp (maxSteps := 1000000) (implicitDefEqProofs := false) (disch := omega) only [push_cast, ↓reduceIte, Nat.reduceEqDiff, reduceCtorEq, wz, hρ, hl]
            exact hN3 _ _ (by simp (maxSteps := 1000000) (implicitDefEqProofs := false) (disch := omega) only [push_cast, ↓reduceIte, Nat.reduceEqDiff, reduceCtorEq, wz, hρ])
          clear hρ ε
          rintro ε σ ⟨hρ, rfl⟩
          refine wpa_seqx (fun ε' σ' => (ε' 2 = .ref 1 0 0 ∧ ε' 6 = .ref 2 0 0 ∧ ε' 7 = .v (.int .i64 D0) ∧ ε' 22 = .sl fs.length (fs.map aIxs) .none ∧ ε' 23 = .v (.int .i64 fs.length) ∧ ε' 24 = .v (.int .i64 k) ∧ ε' 9 = aIxs l ∧ ε' 10 = aIxs l) ∧ σ' = [.obj 0 (aPr m fs), .obj 0 [.v (.int .i64 0), .sl 0 [] .nil], .obj 0 [.v (.int .i64 m), .sl k (((fs.take k).map fixR).map aIxs) (.id 3 w 1)], .tail w]) ?_ ?_
          · intro N3 X3 R3 hN3
            simp (maxSteps := 1000000) (implicitDefEqProofs := false) (disch := omega) only [push_cast, ↓reduceIte, Nat.reduceEqDiff, reduceCtorEq, wz, hρ]
            refine wpa_call (Clone_a l hpos hll) ?_
            rintro a rfl
            simp (maxSteps := 1000000) (implicitDefEqProofs := false) (disch := omega) only [push_cast, ↓reduceIte, Nat.reduceEqDiff, reduceCtorEq, wz]
            exact hN3 _ _ (by simp (maxSteps := 1000000) (implicitDefEqProofs := false) (disch := omega) only [push_cast, ↓reduceIte, Nat.reduceEqDiff, reduceCtorEq, wz, hρ])
          clear hρ ε
          rintro ε σ ⟨hρ, rfl⟩
          refine wpa_seqx (fun ε' σ' => (ε' 2 = .ref 1 0 0 ∧ ε' 6 = .ref 2 0 0 ∧ ε' 7 = .v (.int .i64 D0) ∧ ε' 22 = .sl fs.length (fs.map aIxs) .none ∧ ε' 23 = .v (.int .i64 fs.length) ∧ ε' 24 = .v (.int .i64 k) ∧ ε' 9 = aIxs l ∧ ε' 10 = aIxs (fixR l)) ∧ σ' = [.obj 0 (aPr m fs), .obj 0 [.v (.int .i64 0), .sl 0 [] .nil], .obj 0 [.v (.int .i64 m), .sl k (((fs.take k).map fixR).map aIxs) (.id 3 w 1)], .tail w]) ?_ ?_
          · intro N3 X3 R3 hN3
            simp (maxSteps := 1000000) (implicitDefEqProofs := false) (disch := omega) only [push_cast, ↓reduceIte, Nat.reduceEqDiff, reduceCtorEq, wz, hρ]
            refine wpa_call (tidy_round_a l hRt hll) ?_
            rintro a rfl
            simp (maxSteps := 1000000) (implicitDefEqProofs := false) (disch := omega) only [push_cast, ↓reduceIte, Nat.reduceEqDiff, reduceCtorEq, wz, hρ]
            refine wpa_blx (α := Nat × List Ix) (I := fun s ε' σ' => (ε' 2 = .ref 1 0 0 ∧ ε' 6 = .ref 2 0 0 ∧ ε' 7 = .v (.int .i64 D0) ∧ ε' 22 = .sl fs.length (fs.map aIxs) .none ∧ ε' 23 = .v (.int .i64 fs.length) ∧ ε' 24 = .v (.int .i64 k) ∧ ε' 9 = aIxs l ∧ ε' 10 = aIxs s.2 ∧ ε' 11 = aIxs (rnd s.2)) ∧
                  σ' = [.obj 0 (aPr m fs), .obj 0 [.v (.int .i64 0), .sl 0 [] .nil], .obj 0 [.v (.int .i64 m), .sl k (((fs.take k).map fixR).map aIxs) (.id 3 w 1)], .tail w] ∧ Rt s.2 ∧ s.2.length ≤ 300 ∧ muR s.2 ≤ s.1 ∧ fixR l = fixN s.1 s.2)
              (μ := fun s => s.1) (Q := fun ε' σ' => (ε' 2 = .ref 1 0 0 ∧ ε' 6 = .ref 2 0 0 ∧ ε' 7 = .v (.int .i64 D0) ∧ ε' 22 = .sl fs.length (fs.map aIxs) .none ∧ ε' 23 = .v (.int .i64 fs.length) ∧ ε' 24 = .v (.int .i64 k) ∧ ε' 9 = aIxs l ∧ ε' 10 = aIxs (fixR l)) ∧ σ' = [.obj 0 (aPr m fs), .obj 0 [.v (.int .i64 0), .sl 0 [] .nil], .obj 0 [.v (.int .i64 m), .sl k (((fs.take k).map fixR).map aIxs) (.id 3 w 1)], .tail w]) (x := (l.length + 1, l)) ?_ ?_ hN3
            · simp (maxSteps := 1000000) (implicitDefEqProofs := false) (disch := omega) only [push_cast, ↓reduceIte, Nat.reduceEqDiff, reduceCtorEq, wz, hρ]
              exact ⟨hRt, hll, muR_le l, rfl⟩
            · clear hN3 N3 X3 R3 hρ ε
              rintro ⟨n, now⟩ ε σ N E X R ⟨hρ, rfl, hRn, hnl, hmu, hfx⟩ hN3 hE3
              simp only at hρ hRn hnl hmu hfx
              simp only [S_tidy_Program_L2]
              have hrl := rnd_len now
              simp (maxSteps := 1000000) (implicitDefEqProofs := false) (disch := omega) only [push_cast, ↓reduceIte, Nat.reduceEqDiff, reduceCtorEq, wz, hρ]
              refine wpa_call (Equal_a now (rnd now) hnl (by omega)) ?_
              rintro a rfl
              by_cases he : now = rnd now
              · rw [show decide (now = rnd now) = true by simp only [decide_eq_true_eq]; exact he]
                rw [fixN_done he.symm] at hfx
                simp (maxSteps := 1000000) (implicitDefEqProofs := false) (disch := omega) only [push_cast, ↓reduceIte, Nat.reduceEqDiff, reduceCtorEq, wz, hρ, aBool]
                exact hE3 _ _ ⟨by simp (maxSteps := 1000000) (implicitDefEqProofs := false) (disch := omega) only [push_cast, ↓reduceIte, Nat.reduceEqDiff, reduceCtorEq, wz, hρ, hfx], rfl⟩
              · rw [show decide (now = rnd now) = false by simp only [decide_eq_false_iff_not]; exact he]
                have hne : rnd now ≠ now := fun h => he h.symm
                have hlt2 := muR_lt hRn hne
                obtain ⟨n, rfl⟩ : ∃ n', n = n' + 1 := ⟨n - 1, by omega⟩
                rw [fixN_step hne] at hfx
                simp (maxSteps := 1000000) (implicitDefEqProofs := false) (disch := omega) only [push_cast, ↓reduceIte, Nat.reduceEqDiff, reduceCtorEq, wz, hρ, aBool]
                refine wpa_call (tidy_round_a (rnd now) (rnd_Rt hRn) (by omega)) ?_
                rintro a rfl
                simp (maxSteps := 1000000) (implicitDefEqProofs := false) (disch := omega) only [push_cast, ↓reduceIte, Nat.reduceEqDiff, reduceCtorEq, wz, hρ]
                refine hN3 (n, rnd now) _ _ ?_ (by simp only; omega)
                exact ⟨by simp (maxSteps := 1000000) (implicitDefEqProofs := false) (disch := omega) only [push_cast, ↓reduceIte, Nat.reduceEqDiff, reduceCtorEq, wz, hρ], rfl, rnd_Rt hRn, by simp only; omega, by simp only; omega, hfx⟩
          clear hρ ε
          rintro ε σ ⟨hρ, rfl⟩
          obtain ⟨D, hD⟩ : ∃ D, D = l.length - (fixR l).length := ⟨_, rfl⟩
          have hsub : ((l.length : Int) - ((fixR l).length : Int)) = (D : Int) := by omega
          rw [← hD] at hds
          have hsum : ((D0 : Int) + (D : Int)) = ((dropS (fs.take (k + 1)) : Nat) : Int) := by omega
          refine wpa_seqx (fun ε' σ' => (ε' 2 = .ref 1 0 0 ∧ ε' 6 = .ref 2 0 0 ∧ ε' 7 = .v (.int .i64 (dropS (fs.take (k + 1)) : Nat)) ∧ ε' 22 = .sl fs.length (fs.map aIxs) .none ∧ ε' 23 = .v (.int .i64 fs.length) ∧ ε' 24 = .v (.int .i64 k) ∧ ε' 10 = aIxs (fixR l)) ∧ σ' = [.obj 0 (aPr m fs), .obj 0 [.v (.int .i64 0), .sl 0 [] .nil], .obj 0 [.v (.int .i64 m), .sl k (((fs.take k).map fixR).map aIxs) (.id 3 w 1)], .tail w]) ?_ ?_
          · intro N3 X3 R3 hN3
            rw [hIL] at hρ
            rw [hFL] at hρ
            rw [← hsum] at hN3
            simp (maxSteps := 1000000) (implicitDefEqProofs := false) (disch := omega) only [push_cast, ↓reduceIte, Nat.reduceEqDiff, reduceCtorEq, wz, hρ, hsub]
            rw [hFL] at hN3
            exact hN3 _ _ ⟨by simp (maxSteps := 1000000) (implicitDefEqProofs := false) (disch := omega) only [push_cast, ↓reduceIte, Nat.reduceEqDiff, reduceCtorEq, wz, hρ, hsub], rfl⟩
          clear hρ ε
          rintro ε σ ⟨hρ, rfl⟩
          have hone : (AV.v (.int .i64 m)).one = true := rfl
          simp (maxSteps := 1000000) (implicitDefEqProofs := false) (disch := omega) only [push_cast, ↓reduceIte, Nat.reduceEqDiff, reduceCtorEq, wz, hρ]
          refine wpa_bsl (sz := 1) (by intro a ha; simp at ha; subst ha; rfl) (by simp) ?_
          simp (maxSteps := 1000000) (implicitDefEqProofs := false) (disch := omega) only [push_cast, ↓reduceIte, Nat.reduceEqDiff, reduceCtorEq, wz]
          refine wpa_app (m := 1) rfl rfl rfl rfl (by simp; omega) (by omega) (by omega) rfl ?_
          simp (maxSteps := 1000000) (implicitDefEqProofs := false) (disch := omega) only [push_cast, ↓reduceIte, Nat.reduceEqDiff, reduceCtorEq, wz, hρ]
          refine wpa_st1 rfl rfl rfl (by simp) ?_
          simp (maxSteps := 1000000) (implicitDefEqProofs := false) (disch := omega) only [push_cast, ↓reduceIte, Nat.reduceEqDiff, reduceCtorEq, wz, hρ]
          refine hN2 _ _ ⟨by simp (maxSteps := 1000000) (implicitDefEqProofs := false) (disch := omega) only [push_cast, ↓reduceIte, Nat.reduceEqDiff, reduceCtorEq, wz, hρ], w + 1, ?_⟩
          rw [hts]
          simp [AV.cells, aIxs, aSlN]
        clear hρ ε
        rintro ε σ ⟨hρ, w, rfl⟩
        simp (maxSteps := 1000000) (implicitDefEqProofs := false) (disch := omega) only [push_cast, ↓reduceIte, Nat.reduceEqDiff, reduceCtorEq, wz, hρ]
        refine hN (k + 1) _ _ ?_ (by omega)
        exact ⟨by simp (maxSteps := 1000000) (implicitDefEqProofs := false) (disch := omega) only [push_cast, ↓reduceIte, Nat.reduceEqDiff, reduceCtorEq, wz, hρ], by omega, w, rfl⟩
      · simp (maxSteps := 1000000) (implicitDefEqProofs := false) (disch := omega) only [push_cast, ↓reduceIte, Nat.reduceEqDiff, reduceCtorEq, wz, hρ]
        obtain rfl : k = fs.length := by omega
        rw [List.take_length] at hρ ⊢
        exact hE _ _ ⟨by simp (maxSteps := 1000000) (implicitDefEqProofs := false) (disch := omega) only [push_cast, ↓reduceIte, Nat.reduceEqDiff, reduceCtorEq, wz, hρ], w, rfl⟩
  clear hρ ε
  rintro ε σ ⟨hρ, w, rfl⟩
  have hc2 : cellsA (some 2) [AV.v (.int .i64 m), .sl fs.length ((fs.map fixR).map aIxs) (.id 3 w 1)] = some (.agg [AV.v (.int .i64 m), .sl fs.length ((fs.map fixR).map aIxs) (.id 3 w 1)]) := rfl
  have hset : setAtA [AV.v (.int .i64 0), AV.sl 0 [] .nil] 0 [AV.v (.int .i64 m), .sl fs.length ((fs.map fixR).map aIxs) (.id 3 w 1)] = [AV.v (.int .i64 m), .sl fs.length ((fs.map fixR).map aIxs) (.id 3 w 1)] := rfl
  simp (maxSteps := 1000000) (implicitDefEqProofs := false) (disch := omega) only [push_cast, ↓reduceIte, Nat.reduceEqDiff, reduceCtorEq, wz, hρ, hc2]
  refine wpa_stn (cs := [AV.v (.int .i64 0), AV.sl 0 [] .nil]) rfl rfl rfl (by decide) ?_
  rw [hset]
  simp (maxSteps := 1000000) (implicitDefEqProofs := false) (disch := omega) only [push_cast, ↓reduceIte, Nat.reduceEqDiff, reduceCtorEq, wz, hρ, hc2]
  refine fin_tup3 [] ?_ (res_v _ _) (res_v _ _) (aPr_pure' m (fs.map fixR)) rfl rfl rfl
  have := pr_res [Res.obj 0 (aPr m fs), Res.obj 0 [AV.v (.int .i64 m), .sl fs.length ((fs.map fixR).map aIxs) (.id 3 w 1)], Res.obj 0 [AV.v (.int .i64 m), .sl fs.length ((fs.map fixR).map aIxs) (.id 3 w 1)], Res.tail w] m (fs.map fixR) (.id 3 w 1)
  rw [List.length_map] at this
  exact this
end Go.Proofs.Ythgmfjkbgacfaaa
