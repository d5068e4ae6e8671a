/- strings.HasPrefix, strings.TrimPrefix, at a prefix of one byte. -/
import Derived.Test.YtjdpejggafefjaaDoorWi
namespace Go.Proofs.YtjdpejggafefjaaDoor
set_option linter.unusedVariables false
set_option linter.unusedSimpArgs false
open Go Go.Kx Go.Proofs

theorem bA_one {b c : UInt8} : bA [b] = bA [c] ↔ b = c := by
  constructor
  · intro h
    have := congrArg (fun x : ByteArray => x.data.toList) h
    simpa using this
  · rintro rfl; rfl
theorem slite_HasPrefix_a (l : List UInt8) (c : UInt8) (hl : l.length ≤ 1000000) : FnP Tryd.prog 89 [aB l, aB [c]] fun a => a = aBool (decide (l.head? = some c)) := by
  refine fnP_in K_internal_stringslite_HasPrefix mixed rfl rfl ?_
  simp only [S_internal_stringslite_HasPrefix]
  cases l with
  | nil =>
    have hle : ¬ (((bA [c]).size : Int) ≤ ((bA []).size : Int)) := by rw [size_bA, size_bA]; simp
    simp (maxSteps:=999999) -implicitDefEqProofs (disch:=omega) only [push_cast,↓reduceIte,Nat.reduceEqDiff,reduceCtorEq,wz,hle]
    exact ⟨[], rfl, rfl⟩
  | cons b l =>
    have hle : (((bA [c]).size : Int) ≤ ((bA (b :: l)).size : Int)) := by rw [size_bA, size_bA]; simp only [List.length_cons, List.length_nil]; omega
    have hex : PF.val (.sls false true) [.string (bA (b :: l)), .int .i64 ((bA [c]).size : Nat)] = some (.string (bA [b])) := by
      have h1 := bound_in (bA (b :: l)).size .i64 1 (by omega) (by rw [size_bA]; simp only [List.length_cons]; omega)
      have h2 : (bA (b :: l)).extract 0 1 = bA [b] := by rw [extract_bA]; rfl
      rw [show ((bA [c]).size : Int) = 1 from rfl]
      simp [PF.val, loHi, h1, h2]
    by_cases hbc : b = c
    · have he : bA [b] = bA [c] := bA_one.2 hbc
      simp (maxSteps:=999999) -implicitDefEqProofs (disch:=omega) only [push_cast,↓reduceIte,Nat.reduceEqDiff,reduceCtorEq,wz,hle,hex,he]
      exact ⟨[], rfl, by rw [hbc]; simp [aBool]⟩
    · have he : ¬ (bA [b] = bA [c]) := fun e => hbc (bA_one.1 e)
      simp (maxSteps:=999999) -implicitDefEqProofs (disch:=omega) only [push_cast,↓reduceIte,Nat.reduceEqDiff,reduceCtorEq,wz,hle,hex,he]
      exact ⟨[], rfl, by simp [aBool, hbc]⟩
theorem HasPrefix_a (l : List UInt8) (c : UInt8) (hl : l.length ≤ 1000000) : FnP Tryd.prog 63 [aB l, aB [c]] fun a => a = aBool (decide (l.head? = some c)) := by
  refine fnP_in K_strings_HasPrefix mixed rfl rfl ?_
  simp only [S_strings_HasPrefix]
  simp (maxSteps:=999999) -implicitDefEqProofs (disch:=omega) only [push_cast,↓reduceIte,Nat.reduceEqDiff,reduceCtorEq,wz]
  refine wpa_call (slite_HasPrefix_a l c hl) ?_
  rintro a rfl
  simp (maxSteps:=999999) -implicitDefEqProofs (disch:=omega) only [push_cast,↓reduceIte,Nat.reduceEqDiff,reduceCtorEq,wz]
  exact ⟨[], rfl, rfl⟩
theorem slite_TrimPrefix_a (l : List UInt8) (c : UInt8) (hl : l.length ≤ 1000000) : FnP Tryd.prog 88 [aB l, aB [c]] fun a => a = aB (if l.head? = some c then l.tail else l) := by
  refine fnP_in K_internal_stringslite_TrimPrefix mixed rfl rfl ?_
  simp only [S_internal_stringslite_TrimPrefix]
  simp (maxSteps:=999999) -implicitDefEqProofs (disch:=omega) only [push_cast,↓reduceIte,Nat.reduceEqDiff,reduceCtorEq,wz]
  refine wpa_call (slite_HasPrefix_a l c hl) ?_
  rintro a rfl
  by_cases h : l.head? = some c
  · have hd : decide (l.head? = some c) = true := decide_eq_true h
    have hex : PF.val (.sls true false) [.string (bA l), .int .i64 ((bA [c]).size : Nat)] = some (.string (bA l.tail)) := by
      have hl1 : 1 ≤ l.length := by cases l with | nil => cases h | cons => simp
      rw [pv_sls_l _ _ _ (by omega) (by rw [size_bA, size_bA]; simp only [List.length_cons, List.length_nil]; omega)]
      have : (bA l).extract 1 (bA l).size = bA l.tail := by
        rw [extract_bA, size_bA, List.drop_one, List.take_of_length_le (by simp)]
      rw [show ((bA [c]).size : Int).toNat = 1 from rfl, this]
    simp (maxSteps:=999999) -implicitDefEqProofs (disch:=omega) only [push_cast,↓reduceIte,Nat.reduceEqDiff,reduceCtorEq,wz,aBool,hd,hex]
    exact ⟨[], rfl, by rw [if_pos h]⟩
  · have hd : decide (l.head? = some c) = false := decide_eq_false h
    simp (maxSteps:=999999) -implicitDefEqProofs (disch:=omega) only [push_cast,↓reduceIte,Nat.reduceEqDiff,reduceCtorEq,wz,aBool,hd]
    exact ⟨[], rfl, by rw [if_neg h]⟩
theorem TrimPrefix_a (l : List UInt8) (c : UInt8) (hl : l.length ≤ 1000000) : FnP Tryd.prog 62 [aB l, aB [c]] fun a => a = aB (if l.head? = some c then l.tail else l) := by
  refine fnP_in K_strings_TrimPrefix mixed rfl rfl ?_
  simp only [S_strings_TrimPrefix]
  simp (maxSteps:=999999) -implicitDefEqProofs (disch:=omega) only [push_cast,↓reduceIte,Nat.reduceEqDiff,reduceCtorEq,wz]
  refine wpa_call (slite_TrimPrefix_a l c hl) ?_
  rintro a rfl
  simp (maxSteps:=999999) -implicitDefEqProofs (disch:=omega) only [push_cast,↓reduceIte,Nat.reduceEqDiff,reduceCtorEq,wz]
  exact ⟨[], rfl⟩
end Go.Proofs.YtjdpejggafefjaaDoor
