/- words.Fields, Lines, Join; the document's Fields. -/
import Derived.Test.YtjdpejggafefjaaDoorWd
namespace Go.Proofs.YtjdpejggafefjaaDoor
set_option linter.unusedVariables false
set_option linter.unusedSimpArgs false
open Go Go.Kx Go.Proofs

theorem aBl_res (σ : Kx.St) (P : List (List UInt8)) : (aSl aB P).res σ = aSl aB P := aSl_res (fun _ => rfl) P .none
theorem Fields_a (s : ByteArray) (hs : s.size ≤ 100000) : FnP Tryd.prog 47 [aS s] fun a => a = aSl aB (partsB 32 false [] s.data.toList) := by
  refine fnP_in K_words_Fields mixed rfl rfl ?_
  simp only [S_words_Fields]
  simp (maxSteps:=999999) -implicitDefEqProofs (disch:=omega) only [push_cast,↓reduceIte,Nat.reduceEqDiff,reduceCtorEq,wz]
  have h : FnP Tryd.prog 80 [aS s, .v (.int .i32 32), .v (.bool false)] fun a => a = aSl aB (partsB 32 false [] s.data.toList) := parts_a s 32 false hs (by decide)
  refine wpa_call h ?_
  rintro a rfl
  simp (maxSteps:=999999) -implicitDefEqProofs (disch:=omega) only [push_cast,↓reduceIte,Nat.reduceEqDiff,reduceCtorEq,wz]
  exact fin_res [] (aBl_res _ _) (aBl_pure _)
theorem Lines_a (s : ByteArray) (hs : s.size ≤ 100000) : FnP Tryd.prog 48 [aS s] fun a => a = aSl aB (partsB 10 true [] s.data.toList) := by
  refine fnP_in K_words_Lines mixed rfl rfl ?_
  simp only [S_words_Lines]
  simp (maxSteps:=999999) -implicitDefEqProofs (disch:=omega) only [push_cast,↓reduceIte,Nat.reduceEqDiff,reduceCtorEq,wz]
  have h : FnP Tryd.prog 80 [aS s, .v (.int .i32 10), .v (.bool true)] fun a => a = aSl aB (partsB 10 true [] s.data.toList) := parts_a s 10 true hs (by decide)
  refine wpa_call h ?_
  rintro a rfl
  simp (maxSteps:=999999) -implicitDefEqProofs (disch:=omega) only [push_cast,↓reduceIte,Nat.reduceEqDiff,reduceCtorEq,wz]
  exact fin_res [] (aBl_res _ _) (aBl_pure _)
theorem size_bA (l : List UInt8) : (bA l).size = l.length := rfl
theorem app_bA (a b : List UInt8) : bA a ++ bA b = bA (a ++ b) := by
  apply str_ext
  rw [ByteArray.data_append]
  simp
theorem add_bA (a b : List UInt8) (h : a.length + b.length ≤ 9000000000000000000) : PF.val (.bin .add) [.string (bA a), .string (bA b)] = some (.string (bA (a ++ b))) := by
  rw [pv_str_add _ _ (by rw [size_bA, size_bA]; omega), app_bA]
theorem bA_nil {l : List UInt8} : bA l = ⟨#[]⟩ ↔ l = [] := by
  constructor
  · intro h
    have := congrArg (fun x : ByteArray => x.data.toList) h
    simpa using this
  · rintro rfl; rfl

set_option maxHeartbeats 4000000 in
theorem ref05_Fields_a (s : ByteArray) (hs : s.size ≤ 100000) : FnP Tryd.prog 27 [aS s] fun a => a = aSl aB (partsB 32 false [] s.data.toList) := by
  refine fnP_in K_forebayref05_Fields mixed rfl rfl ?_
  simp only [S_forebayref05_Fields]
  simp (maxSteps:=999999) -implicitDefEqProofs (disch:=omega) only [push_cast,↓reduceIte,Nat.reduceEqDiff,reduceCtorEq,wz]
  refine wpa_blgx (GU.tok 3 1 rfl) (α := Nat) (I := fun k ε σ => (ε 0 = aS s ∧ ε 5 = .v (.int .i64 k)) ∧ k ≤ s.size + 1 ∧ ∃ (w : Nat) (cur : List UInt8) (acc : List (List UInt8)), (ε 4 = aB cur ∧ ε 3 = .sl acc.length (acc.map aB) (.id 0 w 1)) ∧ σ[0]? = some (.tail w) ∧ acc.length ≤ k ∧ cur.length ≤ k ∧
      (if k ≤ s.size then acc ++ partsB 32 false cur (s.data.toList.drop k) = partsB 32 false [] s.data.toList else acc = partsB 32 false [] s.data.toList))
    (μ := fun k => s.size + 1 - k) (Q := fun ε σ => ∃ w : Nat, ε 3 = .sl (partsB 32 false [] s.data.toList).length ((partsB 32 false [] s.data.toList).map aB) (.id 0 w 1)) (x := 0) ?_ ?_ ?_
  · simp (maxSteps:=999999) -implicitDefEqProofs (disch:=omega) only [push_cast,↓reduceIte,Nat.reduceEqDiff,reduceCtorEq,wz]
    exact ⟨by omega, 0, [], [], ⟨rfl, rfl⟩, rfl, by simp, by simp, by simp⟩
  · rintro k ε σ N E X R ⟨hρ, hk, w, cur, acc, ⟨h4, h3⟩, hs0, hal, hcl, hacc⟩ hN hE
    simp only [S_forebayref05_Fields_L1]
    by_cases hlt : k ≤ s.size
    · rw [if_pos hlt] at hacc
      by_cases hw : k < s.size ∧ s.get! k ≠ 32
      · obtain ⟨hk2, hb⟩ := hw
        have hda := data_at hk2
        generalize s.get! k = b at hda hb
        have hix : PF.val .ixs [.string s, .int .i64 k] = some (.int .u8 b.toNat) := pv_str_ix (by omega) (by simpa using hda)
        have hex : s.extract k (k + 1) = bA [b] := str_one hda
        have hadd := add_bA cur [b] (by simp; omega)
        have hne : ¬ ((b.toNat : Int) = 32) := fun e => hb (UInt8.toNat_inj.1 (by rw [show (32 : UInt8).toNat = 32 from rfl]; omega))
        have hkl : (k : Int) ≤ s.size := by omega
        have hkl2 : (k : Int) < s.size := by omega
        simp (maxSteps:=999999) -implicitDefEqProofs (disch:=omega) only [push_cast,↓reduceIte,Nat.reduceEqDiff,reduceCtorEq,wz,hρ,h4,hix,hex,hadd,hne,hkl,hkl2]
        refine hN (k + 1) _ _ ⟨by simp (maxSteps:=999999) -implicitDefEqProofs (disch:=omega) only [push_cast,↓reduceIte,Nat.reduceEqDiff,reduceCtorEq,wz,hρ], by omega, w, cur ++ [b], acc, ⟨by simp (maxSteps:=999999) -implicitDefEqProofs (disch:=omega) only [push_cast,↓reduceIte,Nat.reduceEqDiff,reduceCtorEq,wz], by simp (maxSteps:=999999) -implicitDefEqProofs (disch:=omega) only [push_cast,↓reduceIte,Nat.reduceEqDiff,reduceCtorEq,wz,h3]⟩, hs0, by omega, by simp; omega, ?_⟩ (by omega)
        rw [if_pos (by omega), ← hacc, drop_at hda]
        simp only [partsB, if_neg hb]
      · have hacc2 : if k + 1 ≤ s.size then (acc ++ if cur = [] then [] else [cur]) ++ partsB 32 false [] (s.data.toList.drop (k + 1)) = partsB 32 false [] s.data.toList else (acc ++ if cur = [] then [] else [cur]) = partsB 32 false [] s.data.toList := by
          by_cases hk2 : k < s.size
          · have hb : s.get! k = 32 := Classical.byContradiction fun h => hw ⟨hk2, h⟩
            rw [if_pos (by omega), ← hacc, drop_at (data_at hk2)]
            simp only [partsB, if_pos hb]
            by_cases hc : cur = [] <;> simp [hc]
          · rw [if_neg (by omega), ← hacc, List.drop_eq_nil_of_le (by rw [← str_size]; omega)]
            simp only [partsB]
        have hcase : (k < s.size ∧ PF.val .ixs [.string s, .int .i64 k] = some (.int .u8 32)) ∨ ¬ k < s.size := by
          by_cases hk2 : k < s.size
          · have hb : s.get! k = 32 := Classical.byContradiction fun h => hw ⟨hk2, h⟩
            have hda := data_at hk2
            rw [hb] at hda
            have hix : PF.val .ixs [.string s, .int .i64 k] = some (.int .u8 ((32 : UInt8).toNat : Nat)) := pv_str_ix (by omega) (by simpa using hda)
            exact .inl ⟨hk2, hix⟩
          · exact .inr hk2
        have hkl : (k : Int) ≤ s.size := by omega
        by_cases hc : cur = []
        · rw [if_pos hc, List.append_nil] at hacc2
          have hc2 : bA cur = ⟨#[]⟩ := bA_nil.2 hc
          rcases hcase with ⟨hk2, hix⟩ | hk2
          · have hkl2 : (k : Int) < s.size := by omega
            simp (maxSteps:=999999) -implicitDefEqProofs (disch:=omega) only [push_cast,↓reduceIte,Nat.reduceEqDiff,reduceCtorEq,wz,hρ,h4,hix,hkl,hkl2,hc2]
            exact hN (k + 1) _ _ ⟨by simp (maxSteps:=999999) -implicitDefEqProofs (disch:=omega) only [push_cast,↓reduceIte,Nat.reduceEqDiff,reduceCtorEq,wz,hρ], by omega, w, [], acc, ⟨by simp (maxSteps:=999999) -implicitDefEqProofs (disch:=omega) only [push_cast,↓reduceIte,Nat.reduceEqDiff,reduceCtorEq,wz], by simp (maxSteps:=999999) -implicitDefEqProofs (disch:=omega) only [push_cast,↓reduceIte,Nat.reduceEqDiff,reduceCtorEq,wz,h3]⟩, hs0, by omega, by simp, hacc2⟩ (by omega)
          · have hkl2 : ¬ (k : Int) < s.size := by omega
            simp (maxSteps:=999999) -implicitDefEqProofs (disch:=omega) only [push_cast,↓reduceIte,Nat.reduceEqDiff,reduceCtorEq,wz,hρ,h4,hkl,hkl2,hc2]
            exact hN (k + 1) _ _ ⟨by simp (maxSteps:=999999) -implicitDefEqProofs (disch:=omega) only [push_cast,↓reduceIte,Nat.reduceEqDiff,reduceCtorEq,wz,hρ], by omega, w, [], acc, ⟨by simp (maxSteps:=999999) -implicitDefEqProofs (disch:=omega) only [push_cast,↓reduceIte,Nat.reduceEqDiff,reduceCtorEq,wz], by simp (maxSteps:=999999) -implicitDefEqProofs (disch:=omega) only [push_cast,↓reduceIte,Nat.reduceEqDiff,reduceCtorEq,wz,h3]⟩, hs0, by omega, by simp, hacc2⟩ (by omega)
        · rw [if_neg hc] at hacc2
          have hc2 : ¬ (bA cur = ⟨#[]⟩) := fun h => hc (bA_nil.1 h)
          rcases hcase with ⟨hk2, hix⟩ | hk2
          · have hkl2 : (k : Int) < s.size := by omega
            simp (maxSteps:=999999) -implicitDefEqProofs (disch:=omega) only [push_cast,↓reduceIte,Nat.reduceEqDiff,reduceCtorEq,wz,hρ,h4,hix,hkl,hkl2,hc2]
            refine wpa_bsl (sz := 1) (by intro a ha; simp at ha; subst ha; rfl) (by simp) ?_
            simp (maxSteps:=999999) -implicitDefEqProofs (disch:=omega) only [push_cast,↓reduceIte,Nat.reduceEqDiff,reduceCtorEq,wz,h3]
            refine wpa_app (m := 1) rfl rfl rfl rfl (by simp) (by omega) (by omega) hs0 ?_
            simp (maxSteps:=999999) -implicitDefEqProofs (disch:=omega) only [push_cast,↓reduceIte,Nat.reduceEqDiff,reduceCtorEq,wz,hρ]
            exact hN (k + 1) _ _ ⟨by simp (maxSteps:=999999) -implicitDefEqProofs (disch:=omega) only [push_cast,↓reduceIte,Nat.reduceEqDiff,reduceCtorEq,wz,hρ], by omega, w + 1, [], acc ++ [cur], ⟨by simp (maxSteps:=999999) -implicitDefEqProofs (disch:=omega) only [push_cast,↓reduceIte,Nat.reduceEqDiff,reduceCtorEq,wz], by simp (maxSteps:=999999) -implicitDefEqProofs (disch:=omega) only [push_cast,↓reduceIte,Nat.reduceEqDiff,reduceCtorEq,wz]; simp [AV.cells, Value.cells]⟩, get_set_eq hs0, by simp; omega, by simp, hacc2⟩ (by omega)
          · have hkl2 : ¬ (k : Int) < s.size := by omega
            simp (maxSteps:=999999) -implicitDefEqProofs (disch:=omega) only [push_cast,↓reduceIte,Nat.reduceEqDiff,reduceCtorEq,wz,hρ,h4,hkl,hkl2,hc2]
            refine wpa_bsl (sz := 1) (by intro a ha; simp at ha; subst ha; rfl) (by simp) ?_
            simp (maxSteps:=999999) -implicitDefEqProofs (disch:=omega) only [push_cast,↓reduceIte,Nat.reduceEqDiff,reduceCtorEq,wz,h3]
            refine wpa_app (m := 1) rfl rfl rfl rfl (by simp) (by omega) (by omega) hs0 ?_
            simp (maxSteps:=999999) -implicitDefEqProofs (disch:=omega) only [push_cast,↓reduceIte,Nat.reduceEqDiff,reduceCtorEq,wz,hρ]
            exact hN (k + 1) _ _ ⟨by simp (maxSteps:=999999) -implicitDefEqProofs (disch:=omega) only [push_cast,↓reduceIte,Nat.reduceEqDiff,reduceCtorEq,wz,hρ], by omega, w + 1, [], acc ++ [cur], ⟨by simp (maxSteps:=999999) -implicitDefEqProofs (disch:=omega) only [push_cast,↓reduceIte,Nat.reduceEqDiff,reduceCtorEq,wz], by simp (maxSteps:=999999) -implicitDefEqProofs (disch:=omega) only [push_cast,↓reduceIte,Nat.reduceEqDiff,reduceCtorEq,wz]; simp [AV.cells, Value.cells]⟩, get_set_eq hs0, by simp; omega, by simp, hacc2⟩ (by omega)
    · rw [if_neg hlt] at hacc
      have hle : ¬ ((k : Int) ≤ s.size) := by omega
      simp (maxSteps:=999999) -implicitDefEqProofs (disch:=omega) only [push_cast,↓reduceIte,Nat.reduceEqDiff,reduceCtorEq,wz,hρ,hle]
      refine hE _ _ ⟨w, ?_⟩
      rw [← hacc]
      simp (maxSteps:=999999) -implicitDefEqProofs (disch:=omega) only [push_cast,↓reduceIte,Nat.reduceEqDiff,reduceCtorEq,wz,h3]
  · rintro ε σ ⟨w, h3⟩
    simp (maxSteps:=999999) -implicitDefEqProofs (disch:=omega) only [push_cast,↓reduceIte,Nat.reduceEqDiff,reduceCtorEq,wz,h3]
    exact fin_res [] (aSl_res (fun _ => rfl) _ _) (aBl_pure _)
end Go.Proofs.YtjdpejggafefjaaDoor
