/- words.parts, Fields, Lines. -/
import Derived.Test.YtjdpejggafefjaaDoorWb
import Derived.Test.YtjdpejggafefjaaDoorWc
import Derived.Test.YtjdpejggafefjaaDoorCWd
namespace Go.Proofs.YtjdpejggafefjaaDoor
set_option linter.unusedVariables false
set_option linter.unusedSimpArgs false
open Go Go.Kx Go.Proofs

theorem mixed : Tryd.prog.follows .mixedOrders = true := by kernel_rfl
abbrev bA (l : List UInt8) : ByteArray := ⟨l.toArray⟩
abbrev aB (l : List UInt8) : AV := .v (.string (bA l))
theorem extract_bA (s : ByteArray) (i j : Nat) : s.extract i j = bA ((s.data.toList.drop i).take (j - i)) := by
  apply str_ext
  rw [ByteArray.data_extract, Array.toList_extract, List.extract_eq_take_drop]
theorem aB_res (σ : Kx.St) (l : List UInt8) : (aB l).res σ = aB l := rfl
theorem aBs_pure (P : List (List UInt8)) : AV.pureL (P.map aB) = true := by
  induction P with
  | nil => rfl
  | cons x xs ih => simp only [List.map_cons, AV.pureL, ih]; rfl
@[push_cast] theorem pv_sls_l (s : ByteArray) (k : IntKind) (i : Int) (h0 : 0 ≤ i) (h1 : i ≤ s.size) : PF.val (.sls true false) [.string s, .int k i] = some (.string (s.extract i.toNat s.size)) := by
  simp [PF.val, loHi, bound_in s.size k i h0 h1]
theorem aBl_pure (P : List (List UInt8)) : (aSl aB P).pure = true := by
  simp only [aSl, AV.pure, aBs_pure]; rfl
/-- What stands behind pos, with what was taken so far. -/
def restB (sg : UInt8) (em : Bool) (s : ByteArray) (fr k : Nat) : List (List UInt8) := partsB sg em ((s.data.toList.drop fr).take (k - fr)) (s.data.toList.drop k)
theorem restB_skip {sg : UInt8} {em : Bool} {s : ByteArray} {fr k n : Nat} (h1 : fr ≤ k) (h2 : k + n ≤ s.size) (h : ∀ j, j < n → s.get! (k + j) ≠ sg) : restB sg em s fr k = restB sg em s fr (k + n) := by
  unfold restB
  have e : s.data.toList.drop k = (s.data.toList.drop k).take n ++ s.data.toList.drop (k + n) := by
    rw [← List.drop_drop, List.take_append_drop]
  rw [e, partsB_skip]
  · congr 1
    have : (s.data.toList.drop k).take n = ((s.data.toList.drop fr).drop (k - fr)).take n := by rw [List.drop_drop, show fr + (k - fr) = k by omega]
    rw [this, show k + n - fr = (k - fr) + n by omega, List.take_add]
  · intro x hx
    obtain ⟨j, hj⟩ := List.mem_iff_getElem?.1 hx
    rw [List.getElem?_take] at hj
    split at hj
    · rename_i hjn
      rw [List.getElem?_drop, data_at (by omega)] at hj
      cases hj
      exact h j hjn
    · cases hj
theorem restB_sign {sg : UInt8} {em : Bool} {s : ByteArray} {fr k : Nat} (h2 : k < s.size) (h : s.get! k = sg) :
    restB sg em s fr k = (if em = true ∨ (s.data.toList.drop fr).take (k - fr) ≠ [] then [(s.data.toList.drop fr).take (k - fr)] else []) ++ restB sg em s (k + 1) (k + 1) := by
  unfold restB
  rw [drop_at (data_at h2)]
  simp only [partsB, if_pos h, Nat.sub_self, List.take_zero]
  split <;> rfl
theorem cur_nil {s : ByteArray} {fr k : Nat} (h1 : fr ≤ k) (h2 : k ≤ s.size) : (s.data.toList.drop fr).take (k - fr) = [] ↔ fr = k := by
  have hl : ((s.data.toList.drop fr).take (k - fr)).length = k - fr := by
    rw [List.length_take, List.length_drop, ← str_size]; omega
  constructor
  · intro h; rw [h] at hl; simp at hl; omega
  · rintro rfl; simp

set_option maxHeartbeats 4000000 in
theorem parts_a (s : ByteArray) (sg : UInt8) (em : Bool) (hs : s.size ≤ 100000) (hg : sg.toNat < 128) :
    FnP Tryd.prog 80 [aS s, .v (.int .i32 sg.toNat), aBool em] fun a => a = aSl aB (partsB sg em [] s.data.toList) := by
  refine fnP_in K_words_parts mixed rfl rfl ?_
  simp only [S_words_parts, aBool]
  simp (maxSteps:=999999) -implicitDefEqProofs (disch:=omega) only [push_cast,↓reduceIte,Nat.reduceEqDiff,reduceCtorEq,wz]
  refine wpa_sit ?_
  simp (maxSteps:=999999) -implicitDefEqProofs (disch:=omega) only [push_cast,↓reduceIte,Nat.reduceEqDiff,reduceCtorEq,wz]
  refine wpa_blgx (GU.tok 7 1 rfl) (α := Nat) (I := fun k ε σ => (ε 0 = aS s ∧ ε 1 = .v (.int .i32 sg.toNat) ∧ ε 2 = .v (.bool em) ∧ ε 12 = .ref 0 0 0) ∧ (k ≤ s.size ∧ σ[0]? = some (.itr s k)) ∧
      ∃ (fr w : Nat) (acc : List (List UInt8)), (ε 8 = .v (.int .i64 fr) ∧ ε 7 = .sl acc.length (acc.map aB) (.id 1 w 1)) ∧ fr ≤ k ∧ σ[1]? = some (.tail w) ∧ acc.length ≤ k ∧ acc ++ restB sg em s fr k = partsB sg em [] s.data.toList)
    (μ := fun k => s.size - k) (Q := fun ε σ => ε 0 = aS s ∧ ∃ (fr w : Nat) (acc : List (List UInt8)), (ε 8 = .v (.int .i64 fr) ∧ ε 7 = .sl acc.length (acc.map aB) (.id 1 w 1)) ∧ fr ≤ s.size ∧ σ[1]? = some (.tail w) ∧ acc.length ≤ s.size ∧ acc ++ restB sg em s fr s.size = partsB sg em [] s.data.toList) (x := 0) ?_ ?_ ?_
  · simp (maxSteps:=999999) -implicitDefEqProofs (disch:=omega) only [push_cast,↓reduceIte,Nat.reduceEqDiff,reduceCtorEq,wz]
    exact ⟨by omega, 0, 0, [], ⟨rfl, rfl⟩, by omega, rfl, by simp, by simp [restB]⟩
  · rintro k ε σ N E X R ⟨hρ, ⟨hk, hit⟩, fr, w, acc, ⟨h8, h7⟩, hfr, hs1, hal, hacc⟩ hN hE
    simp only [S_words_parts_L1]
    simp (maxSteps:=999999) -implicitDefEqProofs (disch:=omega) only [push_cast,↓reduceIte,Nat.reduceEqDiff,reduceCtorEq,wz,hρ]
    by_cases hlt : k < s.size
    · refine wpa_nxt hit hlt ?_
      simp (maxSteps:=999999) -implicitDefEqProofs (disch:=omega) only [push_cast,↓reduceIte,Nat.reduceEqDiff,reduceCtorEq,wz]
      have hit2 : ∀ r, (σ.set 0 r)[0]? = some r := fun r => get_set_eq hit
      have ht2 : ∀ r, (σ.set 0 r)[1]? = some (.tail w) := fun r => get_set_ne (by omega) hs1
      by_cases hb : s.get! k = sg
      · have hd : Utf8.decode s k = (sg.toNat, 1) := by
          rw [← hb, get_bang s k hlt]
          exact decode_ascii s k hlt (by rw [← get_bang s k hlt, hb]; exact hg)
        rw [hd]
        have hrs := restB_sign (em := em) (fr := fr) hlt hb
        have hcn := cur_nil (s := s) hfr hk
        rw [hrs] at hacc
        have hex : s.extract fr k = bA ((s.data.toList.drop fr).take (k - fr)) := extract_bA s fr k
        by_cases hem : em = true ∨ fr ≠ k
        · rw [if_pos (hem.imp id fun h e => h (hcn.1 e))] at hacc
          generalize (s.data.toList.drop fr).take (k - fr) = cur at hacc hex
          have hem2 : em = true ∨ (em = false ∧ (fr : Int) < k) := by
            cases em with
            | true => exact .inl rfl
            | false => exact .inr ⟨rfl, by rcases hem with h | h; · cases h
                                           · omega⟩
          rcases hem2 with rfl | ⟨rfl, hgt⟩
          all_goals first | (simp (maxSteps:=999999) -implicitDefEqProofs (disch:=omega) only [push_cast,↓reduceIte,Nat.reduceEqDiff,reduceCtorEq,wz,hρ,h8,h7,hex,hgt]) | (simp (maxSteps:=999999) -implicitDefEqProofs (disch:=omega) only [push_cast,↓reduceIte,Nat.reduceEqDiff,reduceCtorEq,wz,hρ,h8,h7,hex])
          all_goals refine wpa_bsl (sz := 1) (by intro a ha; simp at ha; subst ha; rfl) (by simp) ?_
          all_goals simp (maxSteps:=999999) -implicitDefEqProofs (disch:=omega) only [push_cast,↓reduceIte,Nat.reduceEqDiff,reduceCtorEq,wz,h7]
          all_goals refine wpa_app (m := 1) rfl rfl rfl rfl (by simp) (by omega) (by omega) (ht2 _) ?_
          all_goals simp (maxSteps:=999999) -implicitDefEqProofs (disch:=omega) only [push_cast,↓reduceIte,Nat.reduceEqDiff,reduceCtorEq,wz,hρ]
          all_goals refine hN (k + 1) _ _ ⟨by simp (maxSteps:=999999) -implicitDefEqProofs (disch:=omega) only [push_cast,↓reduceIte,Nat.reduceEqDiff,reduceCtorEq,wz,hρ], ⟨by omega, get_set_ne (by omega) (hit2 _)⟩, k + 1, w + 1, acc ++ [cur], ⟨by simp (maxSteps:=999999) -implicitDefEqProofs (disch:=omega) only [push_cast,↓reduceIte,Nat.reduceEqDiff,reduceCtorEq,wz], by simp (maxSteps:=999999) -implicitDefEqProofs (disch:=omega) only [push_cast,↓reduceIte,Nat.reduceEqDiff,reduceCtorEq,wz]; simp [AV.cells, Value.cells]⟩, by omega, get_set_eq (ht2 _), by simp; omega, by rw [List.append_assoc]; exact hacc⟩ (by omega)
        · have h1 : em = false := by cases em with | true => exact absurd (.inl rfl) hem | false => rfl
          have h2 : fr = k := Classical.byContradiction fun h => hem (.inr h)
          rw [if_neg fun h => hem (h.imp id fun h e => h (hcn.2 e)), List.nil_append] at hacc
          subst h1
          have hle : ¬ (fr : Int) < k := by omega
          simp (maxSteps:=999999) -implicitDefEqProofs (disch:=omega) only [push_cast,↓reduceIte,Nat.reduceEqDiff,reduceCtorEq,wz,hρ,h8,hle]
          exact hN (k + 1) _ _ ⟨by simp (maxSteps:=999999) -implicitDefEqProofs (disch:=omega) only [push_cast,↓reduceIte,Nat.reduceEqDiff,reduceCtorEq,wz,hρ], ⟨by omega, hit2 _⟩, k + 1, w, acc, ⟨by simp (maxSteps:=999999) -implicitDefEqProofs (disch:=omega) only [push_cast,↓reduceIte,Nat.reduceEqDiff,reduceCtorEq,wz], by simp (maxSteps:=999999) -implicitDefEqProofs (disch:=omega) only [push_cast,↓reduceIte,Nat.reduceEqDiff,reduceCtorEq,wz,h7]⟩, by omega, ht2 _, by omega, hacc⟩ (by omega)
      · obtain ⟨hc, hw1, hw2, hall⟩ : (Utf8.decode s k).1 ≠ sg.toNat ∧ 1 ≤ (Utf8.decode s k).2 ∧ k + (Utf8.decode s k).2 ≤ s.size ∧ ∀ j, j < (Utf8.decode s k).2 → s.get! (k + j) ≠ sg := by
          by_cases ha : (s.get! k).toNat < 128
          · have hd : Utf8.decode s k = ((s.get! k).toNat, 1) := by
              rw [get_bang s k hlt] at ha ⊢
              exact decode_ascii s k hlt ha
            rw [hd]
            refine ⟨fun e => hb (UInt8.toNat_inj.1 e), Nat.le_refl _, by dsimp only; omega, fun j hj => ?_⟩
            have : j = 0 := by dsimp only at hj; omega
            subst this
            exact hb
          · have h1 := decode_high s k hlt (by rw [← get_bang s k hlt]; omega)
            obtain ⟨h2, h3⟩ := dec_high s k hlt (by omega)
            refine ⟨by omega, h1.2, h2, fun j hj e => ?_⟩
            have := h3 j hj
            rw [e] at this
            omega
        generalize Utf8.decode s k = d at hc hw1 hw2 hall
        have hne : ¬ ((d.1 : Int) = (sg.toNat : Int)) := by omega
        simp (maxSteps:=999999) -implicitDefEqProofs (disch:=omega) only [push_cast,↓reduceIte,Nat.reduceEqDiff,reduceCtorEq,wz,hρ,hne]
        exact hN (k + d.2) _ _ ⟨by simp (maxSteps:=999999) -implicitDefEqProofs (disch:=omega) only [push_cast,↓reduceIte,Nat.reduceEqDiff,reduceCtorEq,wz,hρ], ⟨hw2, hit2 _⟩, fr, w, acc, ⟨by simp (maxSteps:=999999) -implicitDefEqProofs (disch:=omega) only [push_cast,↓reduceIte,Nat.reduceEqDiff,reduceCtorEq,wz,h8], by simp (maxSteps:=999999) -implicitDefEqProofs (disch:=omega) only [push_cast,↓reduceIte,Nat.reduceEqDiff,reduceCtorEq,wz,h7]⟩, by omega, ht2 _, by omega, by rw [← restB_skip hfr hw2 hall]; exact hacc⟩ (by omega)
    · refine wpa_nxt_end hit hlt ?_
      simp (maxSteps:=999999) -implicitDefEqProofs (disch:=omega) only [push_cast,↓reduceIte,Nat.reduceEqDiff,reduceCtorEq,wz]
      have : k = s.size := by omega
      subst this
      exact hE _ _ ⟨by simp (maxSteps:=999999) -implicitDefEqProofs (disch:=omega) only [push_cast,↓reduceIte,Nat.reduceEqDiff,reduceCtorEq,wz,hρ], fr, w, acc, ⟨by simp (maxSteps:=999999) -implicitDefEqProofs (disch:=omega) only [push_cast,↓reduceIte,Nat.reduceEqDiff,reduceCtorEq,wz,h8], by simp (maxSteps:=999999) -implicitDefEqProofs (disch:=omega) only [push_cast,↓reduceIte,Nat.reduceEqDiff,reduceCtorEq,wz,h7]⟩, hfr, hs1, hal, hacc⟩
  · rintro ε σ ⟨h0, fr, w, acc, ⟨h8, h7⟩, hfr, hs1, hal, hacc⟩
    have hex : s.extract fr s.size = bA ((s.data.toList.drop fr).take (s.size - fr)) := extract_bA s fr s.size
    have hcn := cur_nil hfr (Nat.le_refl s.size)
    have hnil : s.data.toList.drop s.size = [] := List.drop_eq_nil_of_le (by rw [← str_size]; omega)
    unfold restB at hacc
    rw [hnil] at hacc
    simp only [partsB] at hacc
    by_cases hf : fr = s.size
    · rw [if_pos (hcn.2 hf), List.append_nil] at hacc
      have hle : ¬ (fr : Int) < s.size := by omega
      simp (maxSteps:=999999) -implicitDefEqProofs (disch:=omega) only [push_cast,↓reduceIte,Nat.reduceEqDiff,reduceCtorEq,wz,h0,h8,h7,hle]
      rw [← hacc]
      exact fin_res [] (aSl_res (fun _ => rfl) acc _) (aBl_pure _)
    · rw [if_neg fun h => hf (hcn.1 h)] at hacc
      generalize (s.data.toList.drop fr).take (s.size - fr) = cur at hacc hex
      have hlt : (fr : Int) < s.size := by omega
      simp (maxSteps:=999999) -implicitDefEqProofs (disch:=omega) only [push_cast,↓reduceIte,Nat.reduceEqDiff,reduceCtorEq,wz,h0,h8,h7,hlt,hex]
      refine wpa_bsl (sz := 1) (by intro a ha; simp at ha; subst ha; rfl) (by simp) ?_
      simp (maxSteps:=999999) -implicitDefEqProofs (disch:=omega) only [push_cast,↓reduceIte,Nat.reduceEqDiff,reduceCtorEq,wz,h7]
      refine wpa_app (m := 1) rfl rfl rfl rfl (by simp) (by omega) (by omega) hs1 ?_
      simp (maxSteps:=999999) -implicitDefEqProofs (disch:=omega) only [push_cast,↓reduceIte,Nat.reduceEqDiff,reduceCtorEq,wz]
      rw [← hacc]
      refine fin_res [] ?_ (aBl_pure _)
      have := aSl_res (σ := Go.Kx.freeze [] (σ.set 1 (.tail (w + 1)))) (f := aB) (fun _ => rfl) (acc ++ [cur]) (.id 1 (w + 1) 1)
      rw [← this]
      simp [AV.cells, Value.cells]
end Go.Proofs.YtjdpejggafefjaaDoor
