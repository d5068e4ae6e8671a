/- Lists in writing. -/
import Derived.Test.YtjdpejggafefjaaDoorWh
namespace Go.Proofs.YtjdpejggafefjaaDoor
set_option linter.unusedVariables false
set_option linter.unusedSimpArgs false
open Go Go.Kx Go.Proofs

def I64 (x : Int) : Prop := -9223372036854775808 ≤ x ∧ x ≤ 9223372036854775807
def listF (xs : List Int) : List UInt8 := if xs = [] then [45] else joinR [44] (xs.map Lib.itoa) true
theorem itoa_ne (n : Int) : Lib.itoa n ≠ [] := by
  unfold Lib.itoa
  split
  · simp
  · rw [Lib.decDigits]; split <;> simp
theorem joinI_len {xs : List Int} (hx : ∀ x ∈ xs, I64 x) (k : Nat) : (joinR [44] ((xs.take k).map Lib.itoa) true).length ≤ k * 22 := by
  refine Nat.le_trans (joinR_len (sep := [44]) (m := 21) ?_) ?_
  · intro y hy
    obtain ⟨x, hx2, rfl⟩ := List.mem_map.1 hy
    obtain ⟨h0, h1⟩ := hx x (List.mem_of_mem_take hx2)
    exact Lib.itoa_length_le x h0 h1
  · rw [List.length_map, List.length_take, List.length_singleton]
    exact Nat.mul_le_mul (by omega) (Nat.le_refl _)

set_option maxHeartbeats 4000000 in
theorem ref05_List_a (xs : List Int) (hN : xs.length ≤ 100000) (hx : ∀ x ∈ xs, I64 x) : FnP Tryd.prog 37 [aInts xs] fun a => a = aB (listF xs) := by
  refine fnP_in K_forebayref05_List mixed rfl (by simp [AV.pureL, aInts_pure]) ?_
  simp only [S_forebayref05_List]
  simp (maxSteps:=999999) -implicitDefEqProofs (disch:=omega) only [push_cast,↓reduceIte,Nat.reduceEqDiff,reduceCtorEq,wz,aInts,aSl]
  refine wpa_blx (α := Nat) (I := fun k ε σ => (ε 0 = .sl xs.length (xs.map aInt) .none ∧ ε 3 = aB (joinR [44] ((xs.take k).map Lib.itoa) true) ∧ ε 4 = .v (.int .i64 k)) ∧ k ≤ xs.length)
    (μ := fun k => xs.length - k) (Q := fun ε σ => ε 3 = aB (joinR [44] (xs.map Lib.itoa) true)) (x := 0) ?_ ?_ ?_
  · simp (maxSteps:=999999) -implicitDefEqProofs (disch:=omega) only [push_cast,↓reduceIte,Nat.reduceEqDiff,reduceCtorEq,wz]
    exact ⟨rfl, by omega⟩
  · rintro k ε σ N E X R ⟨hρ, hk⟩ hN2 hE
    simp only [S_forebayref05_List_L1]
    by_cases hlt : k < xs.length
    · obtain ⟨x, hxk⟩ := at_lt hlt
      have hkl : (k : Int) < xs.length := by omega
      obtain ⟨b0, b1⟩ := hx x (List.mem_of_getElem? hxk)
      have hil := Lib.itoa_length_le x b0 b1
      have hjl := joinI_len hx k
      have hmk : (xs.map Lib.itoa)[k]? = some (Lib.itoa x) := by simp [hxk]
      have hjt := joinR_take (sep := [44]) hmk
      rw [← List.map_take, ← List.map_take] at hjt
      generalize joinR [44] ((xs.take k).map Lib.itoa) true = J at hρ hjl hjt
      by_cases h0 : k = 0
      · have hle : ¬ ((0 : Int) < (k : Int)) := by omega
        have hadd := add_bA J (Lib.itoa x) (by omega)
        simp (maxSteps:=999999) -implicitDefEqProofs (disch:=omega) only [push_cast,↓reduceIte,Nat.reduceEqDiff,reduceCtorEq,wz,hρ,hkl,hle,hxk,aInt]
        refine wpa_call (ref05_Of_a x b0 b1) ?_
        rintro a rfl
        simp (maxSteps:=999999) -implicitDefEqProofs (disch:=omega) only [push_cast,↓reduceIte,Nat.reduceEqDiff,reduceCtorEq,wz,hρ,hadd]
        refine hN2 (k + 1) _ _ ⟨by simp (maxSteps:=999999) -implicitDefEqProofs (disch:=omega) only [push_cast,↓reduceIte,Nat.reduceEqDiff,reduceCtorEq,wz,hρ]; rw [hjt, if_pos h0]; simp, by omega⟩ (by omega)
      · have hgt : ((0 : Int) < (k : Int)) := by omega
        have hadd := add_bA J [44] (by simp; omega)
        have hadd2 := add_bA (J ++ [44]) (Lib.itoa x) (by simp; omega)
        simp (maxSteps:=999999) -implicitDefEqProofs (disch:=omega) only [push_cast,↓reduceIte,Nat.reduceEqDiff,reduceCtorEq,wz,hρ,hkl,hgt,hxk,hadd,aInt]
        refine wpa_call (ref05_Of_a x b0 b1) ?_
        rintro a rfl
        simp (maxSteps:=999999) -implicitDefEqProofs (disch:=omega) only [push_cast,↓reduceIte,Nat.reduceEqDiff,reduceCtorEq,wz,hρ,hadd2]
        refine hN2 (k + 1) _ _ ⟨by simp (maxSteps:=999999) -implicitDefEqProofs (disch:=omega) only [push_cast,↓reduceIte,Nat.reduceEqDiff,reduceCtorEq,wz,hρ]; rw [hjt, if_neg h0], by omega⟩ (by omega)
    · have hle : ¬ ((k : Int) < xs.length) := by omega
      simp (maxSteps:=999999) -implicitDefEqProofs (disch:=omega) only [push_cast,↓reduceIte,Nat.reduceEqDiff,reduceCtorEq,wz,hρ,hle]
      have : k = xs.length := by omega
      subst this
      rw [List.take_length] at hρ
      exact hE _ _ (by simp (maxSteps:=999999) -implicitDefEqProofs (disch:=omega) only [push_cast,↓reduceIte,Nat.reduceEqDiff,reduceCtorEq,wz,hρ])
  · rintro ε σ h3
    by_cases hz : xs = []
    · subst hz
      have h3 : ε 3 = .v (.string ⟨#[]⟩) := h3
      simp (maxSteps:=999999) -implicitDefEqProofs (disch:=omega) only [push_cast,↓reduceIte,Nat.reduceEqDiff,reduceCtorEq,wz,h3]
      exact ⟨[], rfl, rfl⟩
    · have hne : ¬ (bA (joinR [44] (xs.map Lib.itoa) true) = ⟨#[]⟩) := by
        intro e
        have := bA_nil.1 e
        cases xs with
        | nil => exact hz rfl
        | cons x xs => simp only [List.map_cons, joinR, if_true, List.nil_append, List.append_eq_nil_iff] at this; exact itoa_ne x this.1
      simp (maxSteps:=999999) -implicitDefEqProofs (disch:=omega) only [push_cast,↓reduceIte,Nat.reduceEqDiff,reduceCtorEq,wz,h3,hne]
      exact ⟨[], rfl, by rw [listF, if_neg hz]⟩

set_option maxHeartbeats 4000000 in
theorem List_a (xs : List Int) (hN : xs.length ≤ 100000) (hx : ∀ x ∈ xs, I64 x) : FnP Tryd.prog 35 [aInts xs] fun a => a = aB (listF xs) := by
  refine fnP_in K_words_List mixed rfl (by simp [AV.pureL, aInts_pure]) ?_
  simp only [S_words_List]
  by_cases hz : xs = []
  · subst hz
    simp (maxSteps:=999999) -implicitDefEqProofs (disch:=omega) only [push_cast,↓reduceIte,Nat.reduceEqDiff,reduceCtorEq,wz,aInts,aSl]
    exact ⟨[], rfl, rfl⟩
  · have hl0 : ¬ ((xs.length : Int) = 0) := by
      intro e
      exact hz (List.eq_nil_of_length_eq_zero (by omega))
    simp (maxSteps:=999999) -implicitDefEqProofs (disch:=omega) only [push_cast,↓reduceIte,Nat.reduceEqDiff,reduceCtorEq,wz,aInts,aSl,hl0]
    refine wpa_blgx (GU.tok 3 1 rfl) (α := Nat) (I := fun k ε σ => (ε 9 = .sl xs.length (xs.map aInt) .none ∧ ε 10 = .v (.int .i64 xs.length) ∧ ε 11 = .v (.int .i64 k)) ∧ k ≤ xs.length ∧ ∃ w, ε 3 = .sl k (((xs.take k).map Lib.itoa).map aB) (.id 0 w 1) ∧ σ[0]? = some (.tail w))
      (μ := fun k => xs.length - k) (Q := fun ε σ => ∃ w, ε 3 = .sl xs.length ((xs.map Lib.itoa).map aB) (.id 0 w 1)) (x := 0) ?_ ?_ ?_
    · simp (maxSteps:=999999) -implicitDefEqProofs (disch:=omega) only [push_cast,↓reduceIte,Nat.reduceEqDiff,reduceCtorEq,wz]
      exact ⟨by omega, 0, rfl, rfl⟩
    · rintro k ε σ N E X R ⟨hρ, hk, w, h3, hs0⟩ hN2 hE
      simp only [S_words_List_L1]
      by_cases hlt : k < xs.length
      · obtain ⟨x, hxk⟩ := at_lt hlt
        have hkl : (k : Int) < xs.length := by omega
        obtain ⟨b0, b1⟩ := hx x (List.mem_of_getElem? hxk)
        simp (maxSteps:=999999) -implicitDefEqProofs (disch:=omega) only [push_cast,↓reduceIte,Nat.reduceEqDiff,reduceCtorEq,wz,hρ,hkl,hxk,aInt,h3]
        refine wpa_call (Of_a x b0 b1) ?_
        rintro a rfl
        simp (maxSteps:=999999) -implicitDefEqProofs (disch:=omega) only [push_cast,↓reduceIte,Nat.reduceEqDiff,reduceCtorEq,wz,h3]
        refine wpa_bsl (sz := 1) (by intro a ha; simp at ha; subst ha; rfl) (by simp) ?_
        simp (maxSteps:=999999) -implicitDefEqProofs (disch:=omega) only [push_cast,↓reduceIte,Nat.reduceEqDiff,reduceCtorEq,wz,h3]
        refine wpa_app (m := 1) rfl rfl rfl rfl (by simp; omega) (by omega) (by omega) hs0 ?_
        simp (maxSteps:=999999) -implicitDefEqProofs (disch:=omega) only [push_cast,↓reduceIte,Nat.reduceEqDiff,reduceCtorEq,wz,hρ]
        exact hN2 (k + 1) _ _ ⟨by simp (maxSteps:=999999) -implicitDefEqProofs (disch:=omega) only [push_cast,↓reduceIte,Nat.reduceEqDiff,reduceCtorEq,wz,hρ], by omega, w + 1, by simp (maxSteps:=999999) -implicitDefEqProofs (disch:=omega) only [push_cast,↓reduceIte,Nat.reduceEqDiff,reduceCtorEq,wz]; rw [take_succ_at hxk]; simp [AV.cells, Value.cells], get_set_eq hs0⟩ (by omega)
      · have hle : ¬ ((k : Int) < xs.length) := by omega
        simp (maxSteps:=999999) -implicitDefEqProofs (disch:=omega) only [push_cast,↓reduceIte,Nat.reduceEqDiff,reduceCtorEq,wz,hρ,hle]
        have : k = xs.length := by omega
        subst this
        rw [List.take_length] at h3
        exact hE _ _ ⟨w, h3⟩
    · rintro ε σ ⟨w, h3⟩
      simp (maxSteps:=999999) -implicitDefEqProofs (disch:=omega) only [push_cast,↓reduceIte,Nat.reduceEqDiff,reduceCtorEq,wz,h3]
      have hm : ∀ ys : List (List UInt8), (ys.map bA).map (·.data.toList) = ys := by intro ys; simp [List.map_map, Function.comp_def]
      have hm2 : ((xs.map Lib.itoa).map bA).map aS = (xs.map Lib.itoa).map aB := by simp [List.map_map, Function.comp_def]
      have hjl := joinI_len hx xs.length
      rw [List.take_length, ← join_joinR] at hjl
      have h := join_a ((xs.map Lib.itoa).map bA) ⟨#[44]⟩ .none (by rw [hm2, List.length_map]; exact aBl_pure _) (by simp; omega) (by rw [hm]; exact Nat.le_trans hjl (by omega))
      rw [hm2, List.length_map, List.length_map, hm] at h
      have he : weak (Go.Kx.freeze [] σ) [true, true] [.sl xs.length ((xs.map Lib.itoa).map aB) (.id 0 w 1), .v (.string ⟨#[44]⟩)] = [.sl xs.length ((xs.map Lib.itoa).map aB) .none, aS ⟨#[44]⟩] := by
        have e := aSl_res (σ := Go.Kx.freeze [] σ) (f := aB) (fun _ => rfl) (xs.map Lib.itoa) (.id 0 w 1)
        rw [List.length_map] at e
        show [AV.res (Go.Kx.freeze [] σ) _, _] = _
        rw [e]
        simp only [aSl, List.length_map]
        rfl
      refine wpa_callw [] [true, true] h he ?_
      rintro a rfl
      simp (maxSteps:=999999) -implicitDefEqProofs (disch:=omega) only [push_cast,↓reduceIte,Nat.reduceEqDiff,reduceCtorEq,wz]
      refine ⟨[], rfl, ?_⟩
      rw [listF, if_neg hz, ← join_joinR]
end Go.Proofs.YtjdpejggafefjaaDoor
