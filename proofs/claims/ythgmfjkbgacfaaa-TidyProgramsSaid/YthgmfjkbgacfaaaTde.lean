/- Tidy: programs checked; their own copy; great; same. -/
import Derived.Test.YthgmfjkbgacfaaaTdd
import Derived.Test.YthgmfjkbgacfaaaVn
namespace Go.Proofs.Ythgmfjkbgacfaaa
set_option linter.unusedVariables false
set_option linter.unusedSimpArgs false
open Go Go.Kx Go.Proofs

def S2_forebaylaw04_Own_L1 : SCode :=
  .seq (.seq (.reg (straight [⟨some 8, none, .pur .mov [.tmp 4]⟩, ⟨some 9, none, .pur (.fla 1) [.tmp 1]⟩, ⟨some 10, none, .ld none (.tmp 9)⟩, ⟨some 11, none, .pur (.len false) [.tmp 10]⟩, ⟨some 12, none, .pur (.bin .lss) [.tmp 8, .tmp 11]⟩]) [12])
  (.cond (.tmp 12) (.skip) (.exit 0)))
  (.seq (.block 1 (.reg (.run ⟨some 15, none, .pur (.fla 1) [.tmp 3]⟩ (.run ⟨some 16, none, .ld none (.tmp 15)⟩ (.run ⟨some 18, none, .pur (.fla 1) [.tmp 1]⟩ (.run ⟨some 19, none, .ld none (.tmp 18)⟩ (.run ⟨some 20, none, .pur .mov [.tmp 4]⟩ (.run ⟨some 21, none, .pur (.ixa 1) [.tmp 19, .tmp 20]⟩ (.run ⟨some 22, none, .ld none (.tmp 21)⟩ (.eff ⟨some 17, none, .eff (.bsl 115 4) []⟩ [] (.eff ⟨some 23, none, .eff (.app 115 4 32 [.int .i64 0, .int .i64 0, .int .i64 0, .int .i64 0]) [.tmp 17, .tmp 22]⟩ [⟨some 16, none, .ld none (.tmp 15)⟩] (.eff ⟨some 24, none, .eff (.bsl 116 1) [.tmp 23]⟩ [⟨some 16, none, .ld none (.tmp 15)⟩] (.eff ⟨some 25, none, .eff (.app 116 1 24 [.slice none 0 0]) [.tmp 16, .tmp 24]⟩ [] (.run ⟨some 26, none, .pur (.fla 1) [.tmp 3]⟩ (.eff ⟨none, none, .eff (.st 1) [.tmp 26, .tmp 25]⟩ [] .done))))))))))))) []))
  (.reg (straight [⟨some 13, none, .pur .mov [.tmp 4]⟩, ⟨some 14, none, .pur (.bin .add) [.tmp 13, .const (.int .i64 1)]⟩, ⟨some 4, none, .pur .mov [.tmp 14]⟩]) [4]))
def S2_forebaylaw04_Own : Fun := ⟨28, [2, 0, 1, 4, 12, 3], [.cell 2 (some 2)],
  .seq (.reg (straight [⟨some 1, none, .eff (.box 55) [.tmp 0]⟩, ⟨some 2, none, .eff (.new 55 [.int .i64 0, .slice none 0 0]) []⟩]) [1, 2])
  (.seq (.reg (straight [⟨some 5, none, .pur (.fla 0) [.tmp 1]⟩, ⟨some 6, none, .ld none (.tmp 5)⟩, ⟨some 7, none, .pur (.bld [.int .i64 0, .slice none 0 0] [(0, 1)]) [.tmp 6]⟩, ⟨some 3, none, .eff (.new 55 [.int .i64 0, .slice none 0 0]) []⟩, ⟨none, none, .eff (.st 2) [.tmp 3, .tmp 7]⟩]) [3])
  (.seq (.seq (.reg (straight [⟨some 4, none, .pur .mov [.const (.int .i64 0)]⟩]) [4])
  (.block 0 (.loop S2_forebaylaw04_Own_L1)))
  (.seq (.reg (straight [⟨some 27, none, .ld (some 2) (.tmp 3)⟩, ⟨none, none, .eff (.st 2) [.tmp 2, .tmp 27]⟩]) [])
  (.ret))))⟩
theorem K2_forebaylaw04_Own : (compF Try.prog 28).map Fun.slim = some S2_forebaylaw04_Own := by kernel_rfl
/-- Small enough. -/
def okF (fs : List (List Ix)) : Prop := fs.length ≤ 40 ∧ ∀ l ∈ fs, l.length ≤ 300
theorem cellsPr (m : Int) (fs : List (List Ix)) : cellsA (some 2) (aPr m fs) = some (.agg (aPr m fs)) := rfl
set_option maxHeartbeats 4000000 in
theorem prog_Check_a (m : Int) (fs : List (List Ix)) (hf : okF fs) : FnP Try.prog 31 [.agg (aPr m fs)] fun a => a = aInt (prgE m fs) := by
  refine fnP_in K_prog_Check mixed rfl (by simp [AV.pureL, AV.pure, aPr_pure]) ?_
  simp only [S_prog_Check]
  obtain ⟨hf1, hf2⟩ := hf
  have hac : (AV.agg (aPr m fs)).cells = aPr m fs := rfl
  have g0 : (aPr m fs)[0]? = some (.v (.int .i64 m)) := rfl
  have g1 : (aPr m fs)[1]? = some (.sl fs.length (fs.map aIxs) .none) := rfl
  refine wpa_seqx (fun ε σ => ε 1 = .ref 0 0 0 ∧ σ[0]? = some (.obj 0 (aPr m fs))) ?_ ?_
  · intro N X R hN
    simp (maxSteps := 1000000) (implicitDefEqProofs := false) (disch := omega) only [push_cast, ↓reduceIte, Nat.reduceEqDiff, reduceCtorEq, wz]
    refine wpa_box ?_
    simp (maxSteps := 1000000) (implicitDefEqProofs := false) (disch := omega) only [push_cast, ↓reduceIte, Nat.reduceEqDiff, reduceCtorEq, wz, hac]
    exact hN _ _ ⟨by simp (maxSteps := 1000000) (implicitDefEqProofs := false) (disch := omega) only [push_cast, ↓reduceIte, Nat.reduceEqDiff, reduceCtorEq, wz], rfl⟩
  rintro ε σ ⟨hρ, hs⟩
  refine wpa_seq (fun ε σ => ε 1 = .ref 0 0 0 ∧ σ[0]? = some (.obj 0 (aPr m fs)) ∧ prgE m fs = fnsE fs.length fs) ?_ ?_
  · intro N hN
    simp (maxSteps := 1000000) (implicitDefEqProofs := false) (disch := omega) only [push_cast, ↓reduceIte, Nat.reduceEqDiff, reduceCtorEq, wz, hρ, hs, g0, g1]
    refine wpa_call (prog_sizes_a m fs.length) ?_
    rintro a rfl
    by_cases hm : m < 0 ∨ 256 < m
    · have e : prgE m fs = 3 := by unfold prgE; rw [if_pos hm]
      rw [if_pos hm, e]
      simp (maxSteps := 1000000) (implicitDefEqProofs := false) (disch := omega) only [push_cast, ↓reduceIte, Nat.reduceEqDiff, reduceCtorEq, wz, aInt]
      first | exact ⟨[], rfl, rfl⟩ | exact ⟨[], rfl⟩
    · rw [if_neg hm]
      by_cases hz : manyE fs.length 16 = 0
      · have e : prgE m fs = fnsE fs.length fs := by unfold prgE; rw [if_neg hm, if_neg (by simp [hz])]
        simp (maxSteps := 1000000) (implicitDefEqProofs := false) (disch := omega) only [push_cast, ↓reduceIte, Nat.reduceEqDiff, reduceCtorEq, wz, aInt, hz]
        exact hN _ _ ⟨by simp (maxSteps := 1000000) (implicitDefEqProofs := false) (disch := omega) only [push_cast, ↓reduceIte, Nat.reduceEqDiff, reduceCtorEq, wz, hρ], hs, e⟩
      · have e : prgE m fs = manyE fs.length 16 := by unfold prgE; rw [if_neg hm, if_pos hz]
        rw [e]
        simp (maxSteps := 1000000) (implicitDefEqProofs := false) (disch := omega) only [push_cast, ↓reduceIte, Nat.reduceEqDiff, reduceCtorEq, wz, aInt, hz]
        first | exact ⟨[], rfl, rfl⟩ | exact ⟨[], rfl⟩
  clear hρ hs ε σ
  rintro ε σ ⟨hρ, hs, hP⟩
  rw [hP]
  refine wpa_seq (fun ε σ => fnsE fs.length fs = 0) ?_ ?_
  · intro N hN
    simp (maxSteps := 1000000) (implicitDefEqProofs := false) (disch := omega) only [push_cast, ↓reduceIte, Nat.reduceEqDiff, reduceCtorEq, wz, hρ, hs, g1]
    refine wpa_bl (α := Nat) (I := fun k ε σ => (ε 1 = .ref 0 0 0 ∧ ε 17 = .sl fs.length (fs.map aIxs) .none ∧ ε 18 = .v (.int .i64 fs.length) ∧ ε 19 = .v (.int .i64 k)) ∧ k ≤ fs.length ∧ σ[0]? = some (.obj 0 (aPr m fs)) ∧ fnsE fs.length fs = fnsE fs.length (fs.drop k))
      (μ := fun k => fs.length - k) (Q := fun ε σ => fnsE fs.length fs = 0) (x := 0) ?_ ?_ hN
    · simp (maxSteps := 1000000) (implicitDefEqProofs := false) (disch := omega) only [push_cast, ↓reduceIte, Nat.reduceEqDiff, reduceCtorEq, wz, hρ]
      exact ⟨by omega, hs⟩
    · clear hN N hρ hs ε σ
      rintro k ε σ N E ⟨hρ, hk, hs, hd⟩ hN hE
      simp only [S_prog_Check_L1]
      by_cases hlt : k < fs.length
      · obtain ⟨l, hl⟩ := at_lt hlt
        rw [drop_at hl] at hd
        simp only [fnsE] at hd
        simp (maxSteps := 1000000) (implicitDefEqProofs := false) (disch := omega) only [push_cast, ↓reduceIte, Nat.reduceEqDiff, reduceCtorEq, wz, hρ, hl, hs, g1]
        refine wpa_call (prog_function_a l fs.length (hf2 l (List.mem_of_getElem? hl))) ?_
        rintro a rfl
        by_cases hz : fnE l fs.length = 0
        · rw [if_neg (by simp [hz])] at hd
          simp (maxSteps := 1000000) (implicitDefEqProofs := false) (disch := omega) only [push_cast, ↓reduceIte, Nat.reduceEqDiff, reduceCtorEq, wz, hρ, aInt, hz]
          exact hN (k + 1) _ _ ⟨by simp (maxSteps := 1000000) (implicitDefEqProofs := false) (disch := omega) only [push_cast, ↓reduceIte, Nat.reduceEqDiff, reduceCtorEq, wz, hρ], by omega, hs, hd⟩ (by omega)
        · rw [if_pos hz] at hd
          rw [hd]
          simp (maxSteps := 1000000) (implicitDefEqProofs := false) (disch := omega) only [push_cast, ↓reduceIte, Nat.reduceEqDiff, reduceCtorEq, wz, hρ, aInt, hz]
          first | exact ⟨[], rfl, rfl⟩ | exact ⟨[], rfl⟩
      · simp (maxSteps := 1000000) (implicitDefEqProofs := false) (disch := omega) only [push_cast, ↓reduceIte, Nat.reduceEqDiff, reduceCtorEq, wz, hρ]
        obtain rfl : k = fs.length := by omega
        rw [List.drop_length] at hd
        exact hE _ _ hd
  rintro ε σ h
  rw [h]
  simp (maxSteps := 1000000) (implicitDefEqProofs := false) (disch := omega) only [push_cast, ↓reduceIte, Nat.reduceEqDiff, reduceCtorEq, wz]
  first | exact ⟨[], rfl, rfl⟩ | exact ⟨[], rfl⟩
set_option maxHeartbeats 16000000 in
theorem ref04_Check_a (m : Int) (fs : List (List Ix)) (hf : okF fs) : FnP Try.prog 64 [.agg (aPr m fs)] fun a => a = aInt (prgE m fs) := by
  refine fnP_in K_forebayref04_Check mixed rfl (by simp [AV.pureL, AV.pure, aPr_pure]) ?_
  simp only [S_forebayref04_Check]
  obtain ⟨hf1, hf2⟩ := hf
  have hac : (AV.agg (aPr m fs)).cells = aPr m fs := rfl
  have g0 : (aPr m fs)[0]? = some (.v (.int .i64 m)) := rfl
  have g1 : (aPr m fs)[1]? = some (.sl fs.length (fs.map aIxs) .none) := rfl
  refine wpa_seqx (fun ε σ => ε 1 = .ref 0 0 0 ∧ σ[0]? = some (.obj 0 (aPr m fs))) ?_ ?_
  · intro N X R hN
    simp (maxSteps := 1000000) (implicitDefEqProofs := false) (disch := omega) only [push_cast, ↓reduceIte, Nat.reduceEqDiff, reduceCtorEq, wz]
    refine wpa_box ?_
    simp (maxSteps := 1000000) (implicitDefEqProofs := false) (disch := omega) only [push_cast, ↓reduceIte, Nat.reduceEqDiff, reduceCtorEq, wz, hac]
    exact hN _ _ ⟨by simp (maxSteps := 1000000) (implicitDefEqProofs := false) (disch := omega) only [push_cast, ↓reduceIte, Nat.reduceEqDiff, reduceCtorEq, wz], rfl⟩
  rintro ε σ ⟨hρ, hs⟩
  refine wpa_seq (fun ε σ => ε 1 = .ref 0 0 0 ∧ σ[0]? = some (.obj 0 (aPr m fs)) ∧ ¬ (m < 0 ∨ 256 < m)) ?_ ?_
  · intro N hN
    by_cases c1 : m < 0
    · have e : prgE m fs = 3 := by unfold prgE; rw [if_pos (.inl c1)]
      rw [e]
      simp (maxSteps := 1000000) (implicitDefEqProofs := false) (disch := omega) only [push_cast, ↓reduceIte, Nat.reduceEqDiff, reduceCtorEq, wz, hρ, hs, g0, c1]
      first | exact ⟨[], rfl, rfl⟩ | exact ⟨[], rfl⟩
    by_cases c2 : 256 < m
    · have e : prgE m fs = 3 := by unfold prgE; rw [if_pos (.inr c2)]
      rw [e]
      simp (maxSteps := 1000000) (implicitDefEqProofs := false) (disch := omega) only [push_cast, ↓reduceIte, Nat.reduceEqDiff, reduceCtorEq, wz, hρ, hs, g0, c1, c2]
      first | exact ⟨[], rfl, rfl⟩ | exact ⟨[], rfl⟩
    simp (maxSteps := 1000000) (implicitDefEqProofs := false) (disch := omega) only [push_cast, ↓reduceIte, Nat.reduceEqDiff, reduceCtorEq, wz, hρ, hs, g0, c1, c2]
    exact hN _ _ ⟨by simp (maxSteps := 1000000) (implicitDefEqProofs := false) (disch := omega) only [push_cast, ↓reduceIte, Nat.reduceEqDiff, reduceCtorEq, wz, hρ], hs, by omega⟩
  clear hρ hs ε σ
  rintro ε σ ⟨hρ, hs, hm⟩
  refine wpa_seqx (fun ε σ => (ε 1 = .ref 0 0 0 ∧ ε 3 = aInt (manyE fs.length 16)) ∧ σ[0]? = some (.obj 0 (aPr m fs))) ?_ ?_
  · intro N X R hN
    simp (maxSteps := 1000000) (implicitDefEqProofs := false) (disch := omega) only [push_cast, ↓reduceIte, Nat.reduceEqDiff, reduceCtorEq, wz, hρ, hs, g1]
    refine wpa_call (ref04_many_a fs.length 16) ?_
    rintro a rfl
    simp (maxSteps := 1000000) (implicitDefEqProofs := false) (disch := omega) only [push_cast, ↓reduceIte, Nat.reduceEqDiff, reduceCtorEq, wz, aInt]
    exact hN _ _ ⟨by simp (maxSteps := 1000000) (implicitDefEqProofs := false) (disch := omega) only [push_cast, ↓reduceIte, Nat.reduceEqDiff, reduceCtorEq, wz, hρ, aInt], hs⟩
  clear hρ hs ε σ
  rintro ε σ ⟨hρ, hs⟩
  refine wpa_seq (fun ε σ => ε 1 = .ref 0 0 0 ∧ σ[0]? = some (.obj 0 (aPr m fs)) ∧ prgE m fs = fnsE fs.length fs) ?_ ?_
  · intro N hN
    by_cases hz : manyE fs.length 16 = 0
    · have e : prgE m fs = fnsE fs.length fs := by unfold prgE; rw [if_neg hm, if_neg (by simp [hz])]
      simp (maxSteps := 1000000) (implicitDefEqProofs := false) (disch := omega) only [push_cast, ↓reduceIte, Nat.reduceEqDiff, reduceCtorEq, wz, hρ, aInt, hz]
      exact hN _ _ ⟨by simp (maxSteps := 1000000) (implicitDefEqProofs := false) (disch := omega) only [push_cast, ↓reduceIte, Nat.reduceEqDiff, reduceCtorEq, wz, hρ], hs, e⟩
    · have e : prgE m fs = manyE fs.length 16 := by unfold prgE; rw [if_neg hm, if_pos hz]
      rw [e]
      simp (maxSteps := 1000000) (implicitDefEqProofs := false) (disch := omega) only [push_cast, ↓reduceIte, Nat.reduceEqDiff, reduceCtorEq, wz, hρ, aInt, hz]
      first | exact ⟨[], rfl, rfl⟩ | exact ⟨[], rfl⟩
  clear hρ hs ε σ
  rintro ε σ ⟨hρ, hs, hP⟩
  rw [hP]
  refine wpa_seq (fun ε σ => fnsE fs.length fs = 0) ?_ ?_
  · intro N hN
    simp (maxSteps := 1000000) (implicitDefEqProofs := false) (disch := omega) only [push_cast, ↓reduceIte, Nat.reduceEqDiff, reduceCtorEq, wz]
    refine wpa_bl (α := Nat) (I := fun k ε σ => (ε 1 = .ref 0 0 0 ∧ ε 4 = .v (.int .i64 k)) ∧ k ≤ fs.length ∧ σ[0]? = some (.obj 0 (aPr m fs)) ∧ fnsE fs.length fs = fnsE fs.length (fs.drop k))
      (μ := fun k => fs.length - k) (Q := fun ε σ => fnsE fs.length fs = 0) (x := 0) ?_ ?_ hN
    · simp (maxSteps := 1000000) (implicitDefEqProofs := false) (disch := omega) only [push_cast, ↓reduceIte, Nat.reduceEqDiff, reduceCtorEq, wz, hρ]
      exact ⟨by omega, hs⟩
    · clear hN N hρ hs ε σ
      rintro k ε σ N E ⟨hρ, hk, hs, hd⟩ hN hE
      simp only [S_forebayref04_Check_L1]
      by_cases hlt : k < fs.length
      · obtain ⟨l, hl⟩ := at_lt hlt
        have hll := hf2 l (List.mem_of_getElem? hl)
        have hIL : aIxs l = .sl l.length (l.flatMap aIx) .none := rfl
        rw [drop_at hl] at hd
        simp only [fnsE] at hd
        have hnext : fnE l fs.length = 0 → ∀ ε' σ', (ε' 1 = .ref 0 0 0 ∧ ε' 4 = .v (.int .i64 (k + 1 : Nat))) → σ'[0]? = some (.obj 0 (aPr m fs)) → act (N ε' σ') := by
          intro hz ε' σ' h1 h2
          rw [if_neg (by simp [hz])] at hd
          exact hN (k + 1) ε' σ' ⟨h1, by omega, h2, hd⟩ (by omega)
        have hbad : ∀ v : Int, v ≠ 0 → fnE l fs.length = v → fnsE fs.length fs = v := by
          intro v hv e
          rw [hd, e, if_pos hv]
        clear hN hE hd
        refine wpa_seq (fun ε σ => (ε 1 = .ref 0 0 0 ∧ ε 4 = .v (.int .i64 k)) ∧ σ[0]? = some (.obj 0 (aPr m fs))) ?_ ?_
        · intro N2 hN2
          simp (maxSteps := 1000000) (implicitDefEqProofs := false) (disch := omega) only [push_cast, ↓reduceIte, Nat.reduceEqDiff, reduceCtorEq, wz, hρ, hs, g1]
          exact hN2 _ _ ⟨by simp (maxSteps := 1000000) (implicitDefEqProofs := false) (disch := omega) only [push_cast, ↓reduceIte, Nat.reduceEqDiff, reduceCtorEq, wz, hρ], hs⟩
        clear hρ hs ε σ
        rintro ε σ ⟨hρ, hs⟩
        refine wpa_seq (fun ε σ => (ε 1 = .ref 0 0 0 ∧ ε 4 = .v (.int .i64 k)) ∧ σ[0]? = some (.obj 0 (aPr m fs)) ∧ fnE l fs.length = 0) ?_ ?_
        · intro N2 hN2
          refine wpa_blk fun X' _ => ?_
          refine wpa_seqx (fun ε σ => (ε 1 = .ref 0 0 0 ∧ ε 4 = .v (.int .i64 k) ∧ ε 5 = aIxs l) ∧ σ[0]? = some (.obj 0 (aPr m fs))) ?_ ?_
          · intro N3 X3 R3 hN3
            simp (maxSteps := 1000000) (implicitDefEqProofs := false) (disch := omega) only [push_cast, ↓reduceIte, Nat.reduceEqDiff, reduceCtorEq, wz, hρ, hs, g1, hl]
            exact hN3 _ _ ⟨by simp (maxSteps := 1000000) (implicitDefEqProofs := false) (disch := omega) only [push_cast, ↓reduceIte, Nat.reduceEqDiff, reduceCtorEq, wz, hρ], hs⟩
          clear hρ hs ε σ
          rintro ε σ ⟨hρ, hs⟩
          refine wpa_seqx (fun ε σ => (ε 1 = .ref 0 0 0 ∧ ε 4 = .v (.int .i64 k) ∧ ε 5 = aIxs l ∧ ε 6 = .v (.int .i64 (manyE l.length 200))) ∧ σ[0]? = some (.obj 0 (aPr m fs))) ?_ ?_
          · intro N3 X3 R3 hN3
            simp (maxSteps := 1000000) (implicitDefEqProofs := false) (disch := omega) only [push_cast, ↓reduceIte, Nat.reduceEqDiff, reduceCtorEq, wz, hρ, hIL]
            refine wpa_call (ref04_many_a l.length 200) ?_
            rintro a rfl
            simp (maxSteps := 1000000) (implicitDefEqProofs := false) (disch := omega) only [push_cast, ↓reduceIte, Nat.reduceEqDiff, reduceCtorEq, wz, aInt]
            exact hN3 _ _ ⟨by simp (maxSteps := 1000000) (implicitDefEqProofs := false) (disch := omega) only [push_cast, ↓reduceIte, Nat.reduceEqDiff, reduceCtorEq, wz, hρ, hIL], hs⟩
          clear hρ hs ε σ
          rintro ε σ ⟨hρ, hs⟩
          refine wpa_seq (fun ε σ => (ε 1 = .ref 0 0 0 ∧ ε 4 = .v (.int .i64 k) ∧ ε 5 = aIxs l) ∧ σ[0]? = some (.obj 0 (aPr m fs)) ∧ manyE l.length 200 = 0) ?_ ?_
          · intro N3 hN3
            by_cases hz : manyE l.length 200 = 0
            · simp (maxSteps := 1000000) (implicitDefEqProofs := false) (disch := omega) only [push_cast, ↓reduceIte, Nat.reduceEqDiff, reduceCtorEq, wz, hρ, hz]
              exact hN3 _ _ ⟨by simp (maxSteps := 1000000) (implicitDefEqProofs := false) (disch := omega) only [push_cast, ↓reduceIte, Nat.reduceEqDiff, reduceCtorEq, wz, hρ], hs, hz⟩
            · rw [hbad (manyE l.length 200) hz (by unfold fnE; rw [if_pos hz])]
              simp (maxSteps := 1000000) (implicitDefEqProofs := false) (disch := omega) only [push_cast, ↓reduceIte, Nat.reduceEqDiff, reduceCtorEq, wz, hρ, hz]
              first | exact ⟨[], rfl, rfl⟩ | exact ⟨[], rfl⟩
          clear hρ hs ε σ
          rintro ε σ ⟨hρ, hs, hz⟩
          have hpos : 0 < l.length := by
            unfold manyE at hz
            rcases Nat.eq_zero_or_pos l.length with h | h
            · rw [h] at hz; simp at hz
            · exact h
          have hF : fnE l fs.length = if scanE l.length fs.length l ≠ 0 then scanE l.length fs.length l else lastE l := by unfold fnE; rw [if_neg (by simp [hz])]
          refine wpa_seq (fun ε σ => (ε 1 = .ref 0 0 0 ∧ ε 4 = .v (.int .i64 k) ∧ ε 5 = aIxs l) ∧ σ[0]? = some (.obj 0 (aPr m fs)) ∧ scanE l.length fs.length l = 0) ?_ ?_
          · intro N3 hN3
            simp (maxSteps := 1000000) (implicitDefEqProofs := false) (disch := omega) only [push_cast, ↓reduceIte, Nat.reduceEqDiff, reduceCtorEq, wz]
            refine wpa_bl (α := Nat) (I := fun j ε σ => (ε 1 = .ref 0 0 0 ∧ ε 4 = .v (.int .i64 k) ∧ ε 5 = aIxs l ∧ ε 7 = .v (.int .i64 j)) ∧ j ≤ l.length ∧ σ[0]? = some (.obj 0 (aPr m fs)) ∧ scanE l.length fs.length l = scanE l.length fs.length (l.drop j))
              (μ := fun j => l.length - j) (Q := fun ε σ => (ε 1 = .ref 0 0 0 ∧ ε 4 = .v (.int .i64 k) ∧ ε 5 = aIxs l) ∧ σ[0]? = some (.obj 0 (aPr m fs)) ∧ scanE l.length fs.length l = 0) (x := 0) ?_ ?_ hN3
            · simp (maxSteps := 1000000) (implicitDefEqProofs := false) (disch := omega) only [push_cast, ↓reduceIte, Nat.reduceEqDiff, reduceCtorEq, wz, hρ, hIL]
              exact ⟨by omega, hs⟩
            · clear hN3 N3 hρ hs ε σ
              rintro j ε σ N E ⟨hρ, hj, hs, hsc⟩ hN hE
              simp only [S_forebayref04_Check_L2]
              by_cases hlj : j < l.length
              · obtain ⟨x, hx⟩ := at_lt hlj
                have hd := flat_drop aIx_len hx
                have hc0 : (l.flatMap aIx)[j * 4]? = some (.v (.int .i64 x.op)) := by
                  have : ((l.flatMap aIx).drop (j * 4))[0]? = some (.v (.int .i64 x.op)) := by rw [hd]; rfl
                  rwa [List.getElem?_drop, Nat.add_zero] at this
                have hc1 : (l.flatMap aIx)[j * 4 + 1]? = some (.v (.int .i64 x.a)) := by rw [← List.getElem?_drop, hd]; rfl
                have hc2 : (l.flatMap aIx)[j * 4 + 2]? = some (.v (.int .i64 x.b)) := by rw [← List.getElem?_drop, hd]; rfl
                rw [drop_at hx] at hsc
                simp only [scanE] at hsc
                refine wpa_seq (fun ε σ => (ε 1 = .ref 0 0 0 ∧ ε 4 = .v (.int .i64 k) ∧ ε 5 = aIxs l ∧ ε 7 = .v (.int .i64 j)) ∧ σ[0]? = some (.obj 0 (aPr m fs))) ?_ ?_
                · intro N4 hN4
                  simp (maxSteps := 1000000) (implicitDefEqProofs := false) (disch := omega) only [push_cast, ↓reduceIte, Nat.reduceEqDiff, reduceCtorEq, wz, hρ, hIL]
                  exact hN4 _ _ ⟨by simp (maxSteps := 1000000) (implicitDefEqProofs := false) (disch := omega) only [push_cast, ↓reduceIte, Nat.reduceEqDiff, reduceCtorEq, wz, hρ, hIL], hs⟩
                clear hρ hs ε σ
                rintro ε σ ⟨hρ, hs⟩
                refine wpa_seq (fun ε σ => (ε 1 = .ref 0 0 0 ∧ ε 4 = .v (.int .i64 k) ∧ ε 5 = aIxs l ∧ ε 7 = .v (.int .i64 j)) ∧ σ[0]? = some (.obj 0 (aPr m fs)) ∧ scanE l.length fs.length l = scanE l.length fs.length (l.drop (j + 1))) ?_ ?_
                · intro N4 hN4
                  refine wpa_blk fun X'' _ => ?_
                  refine wpa_seqx (fun ε σ => (ε 1 = .ref 0 0 0 ∧ ε 4 = .v (.int .i64 k) ∧ ε 5 = aIxs l ∧ ε 7 = .v (.int .i64 j) ∧ ε 8 = .v (.int .i64 (insE x))) ∧ σ[0]? = some (.obj 0 (aPr m fs))) ?_ ?_
                  · intro N3 X3 R3 hN3
                    simp (maxSteps := 1000000) (implicitDefEqProofs := false) (disch := omega) only [push_cast, ↓reduceIte, Nat.reduceEqDiff, reduceCtorEq, wz, hρ, hIL, hd, cellsIx]
                    refine wpa_call (ref03_Check_a x) ?_
                    rintro a rfl
                    simp (maxSteps := 1000000) (implicitDefEqProofs := false) (disch := omega) only [push_cast, ↓reduceIte, Nat.reduceEqDiff, reduceCtorEq, wz, aInt]
                    exact hN3 _ _ ⟨by simp (maxSteps := 1000000) (implicitDefEqProofs := false) (disch := omega) only [push_cast, ↓reduceIte, Nat.reduceEqDiff, reduceCtorEq, wz, hρ, hIL], hs⟩
                  clear hρ hs ε σ
                  rintro ε σ ⟨hρ, hs⟩
                  refine wpa_seq (fun ε σ => (ε 1 = .ref 0 0 0 ∧ ε 4 = .v (.int .i64 k) ∧ ε 5 = aIxs l ∧ ε 7 = .v (.int .i64 j)) ∧ σ[0]? = some (.obj 0 (aPr m fs)) ∧ insE x = 0) ?_ ?_
                  · intro N5 hN5
                    by_cases hi : insE x = 0
                    · simp (maxSteps := 1000000) (implicitDefEqProofs := false) (disch := omega) only [push_cast, ↓reduceIte, Nat.reduceEqDiff, reduceCtorEq, wz, hρ, hi]
                      exact hN5 _ _ ⟨by simp (maxSteps := 1000000) (implicitDefEqProofs := false) (disch := omega) only [push_cast, ↓reduceIte, Nat.reduceEqDiff, reduceCtorEq, wz, hρ], hs, hi⟩
                    · rw [if_pos hi] at hsc
                      rw [hbad (insE x) hi (by rw [hF, hsc, if_pos hi])]
                      simp (maxSteps := 1000000) (implicitDefEqProofs := false) (disch := omega) only [push_cast, ↓reduceIte, Nat.reduceEqDiff, reduceCtorEq, wz, hρ, hi]
                      first | exact ⟨[], rfl, rfl⟩ | exact ⟨[], rfl⟩
                  clear hρ hs ε σ
                  rintro ε σ ⟨hρ, hs, hi⟩
                  rw [if_neg (by simp [hi])] at hsc
                  have hbad2 : leadB x l.length fs.length = false → fnsE fs.length fs = 11 := fun hb => by
                    rw [if_pos hb] at hsc
                    exact hbad 11 (by decide) (by rw [hF, hsc, if_pos (by decide)])
                  have hgood : leadB x l.length fs.length = true → scanE l.length fs.length l = scanE l.length fs.length (l.drop (j + 1)) := fun hb => by
                    rw [if_neg (by simp [hb])] at hsc
                    exact hsc
                  clear hsc
                  by_cases c1 : x.op = 18
                  · have hL : leadB x l.length fs.length = decide (x.a < l.length) := by unfold leadB; rw [if_pos c1]
                    by_cases d : x.a < l.length
                    · simp (maxSteps := 1000000) (implicitDefEqProofs := false) (disch := omega) only [push_cast, ↓reduceIte, Nat.reduceEqDiff, reduceCtorEq, wz, hρ, hIL, hc0, hc1, c1, d]
                      exact hN4 _ _ ⟨by simp (maxSteps := 1000000) (implicitDefEqProofs := false) (disch := omega) only [push_cast, ↓reduceIte, Nat.reduceEqDiff, reduceCtorEq, wz, hρ, hIL], hs, hgood (by rw [hL]; simpa using d)⟩
                    · rw [hbad2 (by rw [hL]; simpa using d)]
                      simp (maxSteps := 1000000) (implicitDefEqProofs := false) (disch := omega) only [push_cast, ↓reduceIte, Nat.reduceEqDiff, reduceCtorEq, wz, hρ, hIL, hc0, hc1, c1, d]
                      first | exact ⟨[], rfl, rfl⟩ | exact ⟨[], rfl⟩
                  by_cases c2 : x.op = 19
                  · have hL : leadB x l.length fs.length = decide (x.b < l.length) := by unfold leadB; rw [if_neg c1, if_pos c2]
                    by_cases d : x.b < l.length
                    · simp (maxSteps := 1000000) (implicitDefEqProofs := false) (disch := omega) only [push_cast, ↓reduceIte, Nat.reduceEqDiff, reduceCtorEq, wz, hρ, hIL, hc0, hc1, hc2, c1, c2, d]
                      exact hN4 _ _ ⟨by simp (maxSteps := 1000000) (implicitDefEqProofs := false) (disch := omega) only [push_cast, ↓reduceIte, Nat.reduceEqDiff, reduceCtorEq, wz, hρ, hIL], hs, hgood (by rw [hL]; simpa using d)⟩
                    · rw [hbad2 (by rw [hL]; simpa using d)]
                      simp (maxSteps := 1000000) (implicitDefEqProofs := false) (disch := omega) only [push_cast, ↓reduceIte, Nat.reduceEqDiff, reduceCtorEq, wz, hρ, hIL, hc0, hc1, hc2, c1, c2, d]
                      first | exact ⟨[], rfl, rfl⟩ | exact ⟨[], rfl⟩
                  by_cases c3 : x.op = 20
                  · have hL : leadB x l.length fs.length = decide (x.a < fs.length) := by unfold leadB; rw [if_neg c1, if_neg c2, if_pos (.inl c3)]
                    by_cases d : x.a < fs.length
                    · simp (maxSteps := 1000000) (implicitDefEqProofs := false) (disch := omega) only [push_cast, ↓reduceIte, Nat.reduceEqDiff, reduceCtorEq, wz, hρ, hIL, hc0, hc1, hc2, c1, c2, c3, d, hs, g1]
                      exact hN4 _ _ ⟨by simp (maxSteps := 1000000) (implicitDefEqProofs := false) (disch := omega) only [push_cast, ↓reduceIte, Nat.reduceEqDiff, reduceCtorEq, wz, hρ, hIL], hs, hgood (by rw [hL]; simpa using d)⟩
                    · rw [hbad2 (by rw [hL]; simpa using d)]
                      simp (maxSteps := 1000000) (implicitDefEqProofs := false) (disch := omega) only [push_cast, ↓reduceIte, Nat.reduceEqDiff, reduceCtorEq, wz, hρ, hIL, hc0, hc1, hc2, c1, c2, c3, d, hs, g1]
                      first | exact ⟨[], rfl, rfl⟩ | exact ⟨[], rfl⟩
                  by_cases c4 : x.op = 22
                  · have hL : leadB x l.length fs.length = decide (x.a < fs.length) := by unfold leadB; rw [if_neg c1, if_neg c2, if_pos (.inr c4)]
                    by_cases d : x.a < fs.length
                    · simp (maxSteps := 1000000) (implicitDefEqProofs := false) (disch := omega) only [push_cast, ↓reduceIte, Nat.reduceEqDiff, reduceCtorEq, wz, hρ, hIL, hc0, hc1, hc2, c1, c2, c3, c4, d, hs, g1]
                      exact hN4 _ _ ⟨by simp (maxSteps := 1000000) (implicitDefEqProofs := false) (disch := omega) only [push_cast, ↓reduceIte, Nat.reduceEqDiff, reduceCtorEq, wz, hρ, hIL], hs, hgood (by rw [hL]; simpa using d)⟩
                    · rw [hbad2 (by rw [hL]; simpa using d)]
                      simp (maxSteps := 1000000) (implicitDefEqProofs := false) (disch := omega) only [push_cast, ↓reduceIte, Nat.reduceEqDiff, reduceCtorEq, wz, hρ, hIL, hc0, hc1, hc2, c1, c2, c3, c4, d, hs, g1]
                      first | exact ⟨[], rfl, rfl⟩ | exact ⟨[], rfl⟩
                  have hL : leadB x l.length fs.length = true := by unfold leadB; rw [if_neg c1, if_neg c2, if_neg (by omega)]
                  simp (maxSteps := 1000000) (implicitDefEqProofs := false) (disch := omega) only [push_cast, ↓reduceIte, Nat.reduceEqDiff, reduceCtorEq, wz, hρ, hIL, hc0, hc1, hc2, c1, c2, c3, c4, hs, g1]
                  exact hN4 _ _ ⟨by simp (maxSteps := 1000000) (implicitDefEqProofs := false) (disch := omega) only [push_cast, ↓reduceIte, Nat.reduceEqDiff, reduceCtorEq, wz, hρ, hIL], hs, hgood hL⟩
                clear hρ hs ε σ
                rintro ε σ ⟨hρ, hs, hsc2⟩
                simp (maxSteps := 1000000) (implicitDefEqProofs := false) (disch := omega) only [push_cast, ↓reduceIte, Nat.reduceEqDiff, reduceCtorEq, wz, hρ]
                exact hN (j + 1) _ _ ⟨by simp (maxSteps := 1000000) (implicitDefEqProofs := false) (disch := omega) only [push_cast, ↓reduceIte, Nat.reduceEqDiff, reduceCtorEq, wz, hρ], by omega, hs, hsc2⟩ (by omega)
              · simp (maxSteps := 1000000) (implicitDefEqProofs := false) (disch := omega) only [push_cast, ↓reduceIte, Nat.reduceEqDiff, reduceCtorEq, wz, hρ, hIL]
                obtain rfl : j = l.length := by omega
                rw [List.drop_length] at hsc
                exact hE _ _ ⟨by simp (maxSteps := 1000000) (implicitDefEqProofs := false) (disch := omega) only [push_cast, ↓reduceIte, Nat.reduceEqDiff, reduceCtorEq, wz, hρ, hIL], hs, hsc⟩
          clear hρ hs ε σ
          rintro ε σ ⟨hρ, hs, hsc⟩
          rw [hsc] at hF
          simp only [ne_eq, not_true_eq_false, if_false] at hF
          obtain ⟨x, hx⟩ := at_lt (l := l) (k := l.length - 1) (by omega)
          have hL : lastE l = if endsX x then 0 else 12 := by unfold lastE; rw [hx]
          have hd := flat_drop aIx_len hx
          have hc0 : (l.flatMap aIx)[(l.length - 1) * 4]? = some (.v (.int .i64 x.op)) := by
            have : ((l.flatMap aIx).drop ((l.length - 1) * 4))[0]? = some (.v (.int .i64 x.op)) := by rw [hd]; rfl
            rwa [List.getElem?_drop, Nat.add_zero] at this
          have tn : ((l.length : Int) - 1).toNat = l.length - 1 := by omega
          by_cases c1 : x.op = 0
          · have e : endsX x = true := by unfold endsX; simp [c1]
            simp (maxSteps := 1000000) (implicitDefEqProofs := false) (disch := omega) only [push_cast, ↓reduceIte, Nat.reduceEqDiff, reduceCtorEq, wz, hρ, hIL, tn, hc0, c1]
            exact hN2 _ _ ⟨by simp (maxSteps := 1000000) (implicitDefEqProofs := false) (disch := omega) only [push_cast, ↓reduceIte, Nat.reduceEqDiff, reduceCtorEq, wz, hρ], hs, by rw [hF, hL, e]; rfl⟩
          by_cases c2 : x.op = 18
          · have e : endsX x = true := by unfold endsX; simp [c2]
            simp (maxSteps := 1000000) (implicitDefEqProofs := false) (disch := omega) only [push_cast, ↓reduceIte, Nat.reduceEqDiff, reduceCtorEq, wz, hρ, hIL, tn, hc0, c1, c2]
            exact hN2 _ _ ⟨by simp (maxSteps := 1000000) (implicitDefEqProofs := false) (disch := omega) only [push_cast, ↓reduceIte, Nat.reduceEqDiff, reduceCtorEq, wz, hρ], hs, by rw [hF, hL, e]; rfl⟩
          by_cases c3 : x.op = 25
          · have e : endsX x = true := by unfold endsX; simp [c3]
            simp (maxSteps := 1000000) (implicitDefEqProofs := false) (disch := omega) only [push_cast, ↓reduceIte, Nat.reduceEqDiff, reduceCtorEq, wz, hρ, hIL, tn, hc0, c1, c2, c3]
            exact hN2 _ _ ⟨by simp (maxSteps := 1000000) (implicitDefEqProofs := false) (disch := omega) only [push_cast, ↓reduceIte, Nat.reduceEqDiff, reduceCtorEq, wz, hρ], hs, by rw [hF, hL, e]; rfl⟩
          have e : endsX x = false := by unfold endsX; simp [c1, c2, c3]
          rw [hbad 12 (by decide) (by rw [hF, hL, e]; rfl)]
          simp (maxSteps := 1000000) (implicitDefEqProofs := false) (disch := omega) only [push_cast, ↓reduceIte, Nat.reduceEqDiff, reduceCtorEq, wz, hρ, hIL, tn, hc0, c1, c2, c3]
          first | exact ⟨[], rfl, rfl⟩ | exact ⟨[], rfl⟩
        clear hρ hs ε σ
        rintro ε σ ⟨hρ, hs, hz⟩
        simp (maxSteps := 1000000) (implicitDefEqProofs := false) (disch := omega) only [push_cast, ↓reduceIte, Nat.reduceEqDiff, reduceCtorEq, wz, hρ]
        exact hnext hz _ _ (by simp (maxSteps := 1000000) (implicitDefEqProofs := false) (disch := omega) only [push_cast, ↓reduceIte, Nat.reduceEqDiff, reduceCtorEq, wz, hρ]) hs
      · simp (maxSteps := 1000000) (implicitDefEqProofs := false) (disch := omega) only [push_cast, ↓reduceIte, Nat.reduceEqDiff, reduceCtorEq, wz, hρ, hs, g1]
        obtain rfl : k = fs.length := by omega
        rw [List.drop_length] at hd
        exact hE _ _ hd
  rintro ε σ h
  rw [h]
  simp (maxSteps := 1000000) (implicitDefEqProofs := false) (disch := omega) only [push_cast, ↓reduceIte, Nat.reduceEqDiff, reduceCtorEq, wz]
  first | exact ⟨[], rfl, rfl⟩ | exact ⟨[], rfl⟩
end Go.Proofs.Ythgmfjkbgacfaaa
