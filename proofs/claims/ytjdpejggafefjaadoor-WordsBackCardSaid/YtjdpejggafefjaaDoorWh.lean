/- Numbers in writing: Of, the document's Of. -/
import Derived.Test.YtjdpejggafefjaaDoorWg
import Derived.Lib.ItoaLen
namespace Go.Proofs.YtjdpejggafefjaaDoor
set_option linter.unusedVariables false
set_option linter.unusedSimpArgs false
open Go Go.Kx Go.Proofs

theorem Of_a (n : Int) (h0 : -9223372036854775808 ≤ n) (h1 : n ≤ 9223372036854775807) : FnP Tryd.prog 31 [aInt n] fun a => a = aB (Lib.itoa n) := by
  refine fnP_in K_words_Of mixed rfl rfl ?_
  simp only [S_words_Of, aInt]
  simp (maxSteps:=999999) -implicitDefEqProofs (disch:=omega) only [push_cast,↓reduceIte,Nat.reduceEqDiff,reduceCtorEq,wz]
  refine wpa_call (itoa_a n h0 h1) ?_
  rintro a rfl
  simp (maxSteps:=999999) -implicitDefEqProofs (disch:=omega) only [push_cast,↓reduceIte,Nat.reduceEqDiff,reduceCtorEq,wz]
  exact ⟨[], rfl⟩
/-- The digits; none of 0. -/
def digsZ (u : Nat) : List UInt8 := if u = 0 then [] else Lib.decDigits u
theorem digsZ_step {u : Nat} (h : u ≠ 0) : digsZ u = digsZ (u / 10) ++ [UInt8.ofNat (48 + u % 10)] := by
  unfold digsZ
  rw [if_neg h, Lib.decDigits]
  by_cases h10 : u < 10
  · rw [dif_pos h10, if_pos (by omega), Nat.mod_eq_of_lt h10]; rfl
  · rw [dif_neg h10, if_neg (by omega)]
theorem u8_48 : ∀ d : Nat, d < 10 → IntKind.u8.wrap (48 + (d : Int)) = 48 + (d : Int) ∧ ((UInt8.ofNat (48 + d)).toNat : Int) = 48 + (d : Int) := by decide

set_option maxHeartbeats 4000000 in
theorem ref05_Of_a (n : Int) (h0 : -9223372036854775808 ≤ n) (h1 : n ≤ 9223372036854775807) : FnP Tryd.prog 32 [aInt n] fun a => a = aB (Lib.itoa n) := by
  refine fnP_in K_forebayref05_Of mixed rfl rfl ?_
  simp only [S_forebayref05_Of, aInt]
  by_cases hz : n = 0
  · subst hz
    simp (maxSteps:=999999) -implicitDefEqProofs (disch:=omega) only [push_cast,↓reduceIte,Nat.reduceEqDiff,reduceCtorEq,wz]
    refine ⟨[], rfl, ?_⟩
    have : Lib.itoa 0 = [48] := by decide +kernel
    rw [this]
  · have hlen := Lib.itoa_length_le n h0 h1
    have hdl : (Lib.decDigits n.natAbs).length ≤ 30 := by
      unfold Lib.itoa at hlen
      split at hlen
      · simp at hlen; omega
      · rw [show n.natAbs = n.toNat by omega]; omega
    simp (maxSteps:=999999) -implicitDefEqProofs (disch:=omega) only [push_cast,↓reduceIte,Nat.reduceEqDiff,reduceCtorEq,wz,hz]
    refine wpa_blx (α := Nat) (I := fun u ε σ => (ε 0 = .v (.int .i64 n) ∧ ε 4 = .v (.int .i64 (if n < 0 then -(u : Int) else u))) ∧ u ≤ n.natAbs ∧ ∃ cur, ε 3 = aB cur ∧ digsZ u ++ cur = Lib.decDigits n.natAbs)
      (μ := fun u => u) (Q := fun ε σ => ε 0 = .v (.int .i64 n) ∧ ε 3 = aB (Lib.decDigits n.natAbs)) (x := n.natAbs) ?_ ?_ ?_
    · refine ⟨⟨by simp (maxSteps:=999999) -implicitDefEqProofs (disch:=omega) only [push_cast,↓reduceIte,Nat.reduceEqDiff,reduceCtorEq,wz], ?_⟩, Nat.le_refl _, [], by simp (maxSteps:=999999) -implicitDefEqProofs (disch:=omega) only [push_cast,↓reduceIte,Nat.reduceEqDiff,reduceCtorEq,wz], by unfold digsZ; rw [if_neg (by omega), List.append_nil]⟩
      simp (maxSteps:=999999) -implicitDefEqProofs (disch:=omega) only [push_cast,↓reduceIte,Nat.reduceEqDiff,reduceCtorEq,wz]
      congr 2
      split <;> omega
    · rintro u ε σ N E X R ⟨hρ, hu, cur, h3, hcur⟩ hN hE
      simp only [S_forebayref05_Of_L1]
      by_cases hu0 : u = 0
      · subst hu0
        have hM : (if n < 0 then -((0 : Nat) : Int) else ((0 : Nat) : Int)) = 0 := by split <;> rfl
        rw [hM] at hρ
        simp (maxSteps:=999999) -implicitDefEqProofs (disch:=omega) only [push_cast,↓reduceIte,Nat.reduceEqDiff,reduceCtorEq,wz,hρ]
        exact hE _ _ ⟨by simp (maxSteps:=999999) -implicitDefEqProofs (disch:=omega) only [push_cast,↓reduceIte,Nat.reduceEqDiff,reduceCtorEq,wz,hρ], by rw [← hcur]; simp (maxSteps:=999999) -implicitDefEqProofs (disch:=omega) only [push_cast,↓reduceIte,Nat.reduceEqDiff,reduceCtorEq,wz,h3]; rfl⟩
      · rw [digsZ_step hu0, List.append_assoc] at hcur
        have hcl : cur.length ≤ 30 := by
          have := congrArg List.length hcur
          simp at this
          omega
        have hq : PF.val (.bin .quo) [.int .i64 (if n < 0 then -(u : Int) else u), .int .i64 10] = some (.int .i64 (if n < 0 then -((u / 10 : Nat) : Int) else ((u / 10 : Nat) : Int))) := by
          rw [v_quo _ _ _ (by decide)]
          have e : (if n < 0 then -(u : Int) else (u : Int)).tdiv 10 = if n < 0 then -((u / 10 : Nat) : Int) else ((u / 10 : Nat) : Int) := by
            split
            · rw [Int.neg_tdiv, Int.tdiv_eq_ediv_of_nonneg (by omega)]; omega
            · rw [Int.tdiv_eq_ediv_of_nonneg (by omega)]; omega
          rw [e, wrap_in]
          · split <;> omega
          · split <;> omega
        have hr : PF.val (.bin .rem) [.int .i64 (if n < 0 then -(u : Int) else u), .int .i64 10] = some (.int .i64 (if n < 0 then -((u % 10 : Nat) : Int) else ((u % 10 : Nat) : Int))) := by
          rw [v_rem _ _ _ (by decide)]
          have e : (if n < 0 then -(u : Int) else (u : Int)).tmod 10 = if n < 0 then -((u % 10 : Nat) : Int) else ((u % 10 : Nat) : Int) := by
            split
            · rw [Int.neg_tmod, Int.tmod_eq_emod_of_nonneg (by omega)]; omega
            · rw [Int.tmod_eq_emod_of_nonneg (by omega)]; omega
          rw [e]
        have hM0 : ¬ ((if n < 0 then -(u : Int) else (u : Int)) = 0) := by split <;> omega
        have hq10 : u / 10 < u := by omega
        have hd10 : u % 10 < 10 := Nat.mod_lt _ (by decide)
        generalize (if n < 0 then -(u : Int) else (u : Int)) = M at hρ hq hr hM0
        generalize u % 10 = d at hr hd10 hcur
        generalize u / 10 = q at hq hq10 hcur
        obtain ⟨w1, w2⟩ := u8_48 d hd10
        have hadd := add_bA [UInt8.ofNat (48 + d)] cur (by simp; omega)
        have hsrc : ∀ σ : Kx.St, srcA σ 1 (.sl 1 [.v (.int .u8 (48 + (d : Int)))] .full) = some (1, [UInt8.ofNat (48 + d)].map fun b => .v (.int .u8 b.toNat)) := by
          intro σ
          simp only [srcA, List.map_cons, List.map_nil, w2]
        have hlast : ∀ (M' : Int) (hM' : M' = if n < 0 then -(q : Int) else (q : Int)), q ≤ n.natAbs := fun _ _ => by omega
        by_cases hs : n < 0 ∧ d ≠ 0
        · rw [if_pos hs.1] at hr hq
          have hng : PF.val .neg [.int .i64 (-(d : Int))] = some (.int .i64 (d : Int)) := by
            have hw := wrap_in (d : Int) (by omega) (by omega)
            simp [PF.val, hw]
          have hlt : (-(d : Int) < 0) := by omega
          simp (maxSteps:=999999) -implicitDefEqProofs (disch:=omega) only [push_cast,↓reduceIte,Nat.reduceEqDiff,reduceCtorEq,wz,hρ,hM0,hr,hlt,hng,w1]
          refine wpa_bsl (sz := 1) (by intro a ha; simp at ha; subst ha; rfl) (by simp) ?_
          simp (maxSteps:=999999) -implicitDefEqProofs (disch:=omega) only [push_cast,↓reduceIte,Nat.reduceEqDiff,reduceCtorEq,wz]
          refine wpa_b2s rfl (hsrc _) rfl ?_
          simp (maxSteps:=999999) -implicitDefEqProofs (disch:=omega) only [push_cast,↓reduceIte,Nat.reduceEqDiff,reduceCtorEq,wz,h3,hadd,hq,hρ]
          exact hN q _ _ ⟨by simp (maxSteps:=999999) -implicitDefEqProofs (disch:=omega) only [push_cast,↓reduceIte,Nat.reduceEqDiff,reduceCtorEq,wz,hρ]; rw [if_pos hs.1], by omega, UInt8.ofNat (48 + d) :: cur, by simp (maxSteps:=999999) -implicitDefEqProofs (disch:=omega) only [push_cast,↓reduceIte,Nat.reduceEqDiff,reduceCtorEq,wz], hcur⟩ hq10
        · have hr2 : PF.val (.bin .rem) [.int .i64 M, .int .i64 10] = some (.int .i64 (d : Int)) := by
            rw [hr]; congr 2; split <;> omega
          have hlt : ¬ ((d : Int) < 0) := by omega
          simp (maxSteps:=999999) -implicitDefEqProofs (disch:=omega) only [push_cast,↓reduceIte,Nat.reduceEqDiff,reduceCtorEq,wz,hρ,hM0,hr2,hlt,w1]
          refine wpa_bsl (sz := 1) (by intro a ha; simp at ha; subst ha; rfl) (by simp) ?_
          simp (maxSteps:=999999) -implicitDefEqProofs (disch:=omega) only [push_cast,↓reduceIte,Nat.reduceEqDiff,reduceCtorEq,wz]
          refine wpa_b2s rfl (hsrc _) rfl ?_
          simp (maxSteps:=999999) -implicitDefEqProofs (disch:=omega) only [push_cast,↓reduceIte,Nat.reduceEqDiff,reduceCtorEq,wz,h3,hadd,hq,hρ]
          exact hN q _ _ ⟨by simp (maxSteps:=999999) -implicitDefEqProofs (disch:=omega) only [push_cast,↓reduceIte,Nat.reduceEqDiff,reduceCtorEq,wz,hρ], by omega, UInt8.ofNat (48 + d) :: cur, by simp (maxSteps:=999999) -implicitDefEqProofs (disch:=omega) only [push_cast,↓reduceIte,Nat.reduceEqDiff,reduceCtorEq,wz], hcur⟩ hq10
    · rintro ε σ ⟨h0', h3⟩
      by_cases hneg : n < 0
      · have hadd := add_bA [45] (Lib.decDigits n.natAbs) (by simp; omega)
        simp (maxSteps:=999999) -implicitDefEqProofs (disch:=omega) only [push_cast,↓reduceIte,Nat.reduceEqDiff,reduceCtorEq,wz,h0',h3,hneg,hadd]
        refine ⟨[], rfl, ?_⟩
        unfold Lib.itoa
        rw [if_pos hneg]
      · simp (maxSteps:=999999) -implicitDefEqProofs (disch:=omega) only [push_cast,↓reduceIte,Nat.reduceEqDiff,reduceCtorEq,wz,h0',h3,hneg]
        refine ⟨[], rfl, ?_⟩
        unfold Lib.itoa
        rw [if_neg hneg, show n.natAbs = n.toNat by omega]
end Go.Proofs.YtjdpejggafefjaaDoor
