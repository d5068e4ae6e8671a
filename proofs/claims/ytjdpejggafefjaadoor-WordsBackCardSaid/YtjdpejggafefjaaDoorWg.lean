/- The document's Join; are two lists the same. -/
import Derived.Test.YtjdpejggafefjaaDoorWf
namespace Go.Proofs.YtjdpejggafefjaaDoor
set_option linter.unusedVariables false
set_option linter.unusedSimpArgs false
open Go Go.Kx Go.Proofs

set_option maxHeartbeats 4000000 in
theorem ref05_Join_a (P : List (List UInt8)) (hN : P.length ≤ 1000) (hm : ∀ x ∈ P, x.length ≤ 1000000) : FnP Tryd.prog 50 [aSl aB P] fun a => a = aB (joinR [32] P true) := by
  refine fnP_in K_forebayref05_Join mixed rfl (by simp only [AV.pureL, aBl_pure]; rfl) ?_
  simp only [S_forebayref05_Join]
  simp (maxSteps:=999999) -implicitDefEqProofs (disch:=omega) only [push_cast,↓reduceIte,Nat.reduceEqDiff,reduceCtorEq,wz,aSl]
  refine wpa_blx (α := Nat) (I := fun k ε σ => (ε 0 = .sl P.length (P.map aB) .none ∧ ε 3 = aB (joinR [32] (P.take k) true) ∧ ε 4 = .v (.int .i64 k)) ∧ k ≤ P.length)
    (μ := fun k => P.length - k) (Q := fun ε σ => ε 3 = aB (joinR [32] P true)) (x := 0) ?_ ?_ ?_
  · simp (maxSteps:=999999) -implicitDefEqProofs (disch:=omega) only [push_cast,↓reduceIte,Nat.reduceEqDiff,reduceCtorEq,wz]
    exact ⟨rfl, by omega⟩
  · rintro k ε σ N E X R ⟨hρ, hk⟩ hN2 hE
    simp only [S_forebayref05_Join_L1]
    by_cases hlt : k < P.length
    · obtain ⟨x, hx⟩ := at_lt hlt
      have hkl : (k : Int) < P.length := by omega
      have hxl := hm x (List.mem_of_getElem? hx)
      have hjl := joinR_len (sep := [32]) (m := 1000000) (xs := P.take k) (f := true) fun y hy => hm y (List.mem_of_mem_take hy)
      have hjl2 : (joinR [32] (P.take k) true).length ≤ 1000 * 1000001 := Nat.le_trans hjl (Nat.mul_le_mul (by rw [List.length_take]; omega) (by simp))
      have hjt := joinR_take (sep := [32]) hx
      generalize joinR [32] (P.take k) true = J at hρ hjl2 hjt
      by_cases h0 : k = 0
      · have hle : ¬ ((0 : Int) < (k : Int)) := by omega
        have hadd := add_bA J x (by omega)
        simp (maxSteps:=999999) -implicitDefEqProofs (disch:=omega) only [push_cast,↓reduceIte,Nat.reduceEqDiff,reduceCtorEq,wz,hρ,hkl,hle,hx,hadd]
        refine hN2 (k + 1) _ _ ⟨by simp (maxSteps:=999999) -implicitDefEqProofs (disch:=omega) only [push_cast,↓reduceIte,Nat.reduceEqDiff,reduceCtorEq,wz,hρ]; rw [hjt, if_pos h0]; simp, by omega⟩ (by omega)
      · have hgt : ((0 : Int) < (k : Int)) := by omega
        have hadd := add_bA J [32] (by simp; omega)
        have hadd2 := add_bA (J ++ [32]) x (by simp; omega)
        simp (maxSteps:=999999) -implicitDefEqProofs (disch:=omega) only [push_cast,↓reduceIte,Nat.reduceEqDiff,reduceCtorEq,wz,hρ,hkl,hgt,hx,hadd,hadd2]
        refine hN2 (k + 1) _ _ ⟨by simp (maxSteps:=999999) -implicitDefEqProofs (disch:=omega) only [push_cast,↓reduceIte,Nat.reduceEqDiff,reduceCtorEq,wz,hρ]; rw [hjt, if_neg h0], by omega⟩ (by omega)
    · have hle : ¬ ((k : Int) < P.length) := by omega
      simp (maxSteps:=999999) -implicitDefEqProofs (disch:=omega) only [push_cast,↓reduceIte,Nat.reduceEqDiff,reduceCtorEq,wz,hρ,hle]
      have : k = P.length := by omega
      subst this
      rw [List.take_length] at hρ
      exact hE _ _ (by simp (maxSteps:=999999) -implicitDefEqProofs (disch:=omega) only [push_cast,↓reduceIte,Nat.reduceEqDiff,reduceCtorEq,wz,hρ])
  · rintro ε σ h3
    simp (maxSteps:=999999) -implicitDefEqProofs (disch:=omega) only [push_cast,↓reduceIte,Nat.reduceEqDiff,reduceCtorEq,wz,h3]
    exact ⟨[], rfl⟩

set_option maxHeartbeats 4000000 in
theorem law05_Strings_a (P Q : List (List UInt8)) (hN : P.length ≤ 1000000) (hM : Q.length ≤ 1000000) : FnP Tryd.prog 46 [aSl aB P, aSl aB Q] fun a => a = aBool (decide (P = Q)) := by
  refine fnP_in K_forebaylaw05_Strings mixed rfl (by simp only [AV.pureL, aBl_pure]; rfl) ?_
  simp only [S_forebaylaw05_Strings]
  by_cases hl : P.length = Q.length
  · have hl2 : (P.length : Int) = Q.length := by omega
    simp (maxSteps:=999999) -implicitDefEqProofs (disch:=omega) only [push_cast,↓reduceIte,Nat.reduceEqDiff,reduceCtorEq,wz,aSl,hl2]
    refine wpa_bl (α := Nat) (I := fun k ε σ => (ε 0 = .sl P.length (P.map aB) .none ∧ ε 1 = .sl Q.length (Q.map aB) .none ∧ ε 5 = .v (.int .i64 k)) ∧ k ≤ P.length ∧ P.take k = Q.take k)
      (μ := fun k => P.length - k) (Q := fun ε σ => P = Q) (x := 0) ?_ ?_ ?_
    · simp (maxSteps:=999999) -implicitDefEqProofs (disch:=omega) only [push_cast,↓reduceIte,Nat.reduceEqDiff,reduceCtorEq,wz]
      exact Nat.zero_le _
    · rintro k ε σ N E ⟨hρ, hk, heq⟩ hN2 hE
      simp only [S_forebaylaw05_Strings_L1]
      by_cases hlt : k < P.length
      · obtain ⟨x, hx⟩ := at_lt hlt
        obtain ⟨y, hy⟩ := at_lt (show k < Q.length by omega)
        have hkl : (k : Int) < P.length := by omega
        have hkl2 : (k : Int) < Q.length := by omega
        by_cases hxy : x = y
        · subst hxy
          simp (maxSteps:=999999) -implicitDefEqProofs (disch:=omega) only [push_cast,↓reduceIte,Nat.reduceEqDiff,reduceCtorEq,wz,hρ,hkl,hkl2,hx,hy]
          exact hN2 (k + 1) _ _ ⟨by simp (maxSteps:=999999) -implicitDefEqProofs (disch:=omega) only [push_cast,↓reduceIte,Nat.reduceEqDiff,reduceCtorEq,wz,hρ], by omega, by rw [take_succ_at hx, take_succ_at hy, heq]⟩ (by omega)
        · have hne : ¬ (bA x = bA y) := fun e => hxy (by have := congrArg (fun z : ByteArray => z.data.toList) e; simpa using this)
          have hPQ : P ≠ Q := by rintro rfl; rw [hx] at hy; exact hxy (Option.some.inj hy)
          simp (maxSteps:=999999) -implicitDefEqProofs (disch:=omega) only [push_cast,↓reduceIte,Nat.reduceEqDiff,reduceCtorEq,wz,hρ,hkl,hkl2,hx,hy,hne]
          exact ⟨[], rfl, by rw [decide_eq_false hPQ]; rfl⟩
      · have hle : ¬ ((k : Int) < P.length) := by omega
        simp (maxSteps:=999999) -implicitDefEqProofs (disch:=omega) only [push_cast,↓reduceIte,Nat.reduceEqDiff,reduceCtorEq,wz,hρ,hle]
        have : k = P.length := by omega
        subst this
        rw [List.take_length, hl, List.take_length] at heq
        exact hE _ _ heq
    · rintro ε σ rfl
      simp (maxSteps:=999999) -implicitDefEqProofs (disch:=omega) only [push_cast,↓reduceIte,Nat.reduceEqDiff,reduceCtorEq,wz]
      exact ⟨[], rfl, rfl⟩
  · have hl2 : ¬ ((P.length : Int) = Q.length) := by omega
    simp (maxSteps:=999999) -implicitDefEqProofs (disch:=omega) only [push_cast,↓reduceIte,Nat.reduceEqDiff,reduceCtorEq,wz,aSl,hl2]
    exact ⟨[], rfl, by rw [decide_eq_false fun e => hl (by rw [e])]; rfl⟩
end Go.Proofs.YtjdpejggafefjaaDoor
