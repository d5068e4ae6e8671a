/- The document's Lines and Join; words.Join; are two lists the same. -/
import Derived.Test.YtjdpejggafefjaaDoorWe
namespace Go.Proofs.YtjdpejggafefjaaDoor
set_option linter.unusedVariables false
set_option linter.unusedSimpArgs false
open Go Go.Kx Go.Proofs

set_option maxHeartbeats 4000000 in
theorem ref05_Lines_a (s : ByteArray) (hs : s.size ≤ 100000) : FnP Tryd.prog 26 [aS s] fun a => a = aSl aB (partsB 10 true [] s.data.toList) := by
  refine fnP_in K_forebayref05_Lines mixed rfl rfl ?_
  simp only [S_forebayref05_Lines]
  simp (maxSteps:=999999) -implicitDefEqProofs (disch:=omega) only [push_cast,↓reduceIte,Nat.reduceEqDiff,reduceCtorEq,wz]
  refine wpa_blgx (GU.tok 3 1 rfl) (α := Nat) (I := fun k ε σ => (ε 0 = aS s ∧ ε 5 = .v (.int .i64 k)) ∧ k ≤ s.size ∧ ∃ (w : Nat) (cur : List UInt8) (acc : List (List UInt8)), (ε 4 = aB cur ∧ ε 3 = .sl acc.length (acc.map aB) (.id 0 w 1)) ∧ σ[0]? = some (.tail w) ∧ acc.length ≤ k ∧ cur.length ≤ k ∧
      acc ++ partsB 10 true cur (s.data.toList.drop k) = partsB 10 true [] s.data.toList)
    (μ := fun k => s.size - k) (Q := fun ε σ => ∃ (w : Nat) (cur : List UInt8) (acc : List (List UInt8)), (ε 4 = aB cur ∧ ε 3 = .sl acc.length (acc.map aB) (.id 0 w 1)) ∧ σ[0]? = some (.tail w) ∧ acc.length ≤ s.size ∧ (acc ++ if cur = [] then [] else [cur]) = partsB 10 true [] s.data.toList) (x := 0) ?_ ?_ ?_
  · simp (maxSteps:=999999) -implicitDefEqProofs (disch:=omega) only [push_cast,↓reduceIte,Nat.reduceEqDiff,reduceCtorEq,wz]
    exact ⟨by omega, 0, [], [], ⟨rfl, rfl⟩, rfl, by simp, by simp, by simp⟩
  · rintro k ε σ N E X R ⟨hρ, hk, w, cur, acc, ⟨h4, h3⟩, hs0, hal, hcl, hacc⟩ hN hE
    simp only [S_forebayref05_Lines_L1]
    by_cases hk2 : k < s.size
    · have hda := data_at hk2
      generalize s.get! k = b at hda
      have hix : PF.val .ixs [.string s, .int .i64 k] = some (.int .u8 b.toNat) := pv_str_ix (by omega) (by simpa using hda)
      have hkl2 : (k : Int) < s.size := by omega
      rw [drop_at hda] at hacc
      simp only [partsB] at hacc
      by_cases hb : b = 10
      · rw [if_pos hb, if_pos (.inl trivial)] at hacc
        have hne : (b.toNat : Int) = 10 := by rw [hb]; rfl
        simp (maxSteps:=999999) -implicitDefEqProofs (disch:=omega) only [push_cast,↓reduceIte,Nat.reduceEqDiff,reduceCtorEq,wz,hρ,h4,hix,hne,hkl2]
        refine wpa_bsl (sz := 1) (by intro a ha; simp at ha; subst ha; rfl) (by simp) ?_
        simp (maxSteps:=999999) -implicitDefEqProofs (disch:=omega) only [push_cast,↓reduceIte,Nat.reduceEqDiff,reduceCtorEq,wz,h3]
        refine wpa_app (m := 1) rfl rfl rfl rfl (by simp) (by omega) (by omega) hs0 ?_
        simp (maxSteps:=999999) -implicitDefEqProofs (disch:=omega) only [push_cast,↓reduceIte,Nat.reduceEqDiff,reduceCtorEq,wz,hρ]
        exact hN (k + 1) _ _ ⟨by simp (maxSteps:=999999) -implicitDefEqProofs (disch:=omega) only [push_cast,↓reduceIte,Nat.reduceEqDiff,reduceCtorEq,wz,hρ], by omega, w + 1, [], acc ++ [cur], ⟨by simp (maxSteps:=999999) -implicitDefEqProofs (disch:=omega) only [push_cast,↓reduceIte,Nat.reduceEqDiff,reduceCtorEq,wz], by simp (maxSteps:=999999) -implicitDefEqProofs (disch:=omega) only [push_cast,↓reduceIte,Nat.reduceEqDiff,reduceCtorEq,wz]; simp [AV.cells, Value.cells]⟩, get_set_eq hs0, by simp; omega, by simp, by rw [List.append_assoc]; exact hacc⟩ (by omega)
      · rw [if_neg hb] at hacc
        have hne : ¬ ((b.toNat : Int) = 10) := fun e => hb (UInt8.toNat_inj.1 (by rw [show (10 : UInt8).toNat = 10 from rfl]; omega))
        have hex : s.extract k (k + 1) = bA [b] := str_one hda
        have hadd := add_bA cur [b] (by simp; omega)
        simp (maxSteps:=999999) -implicitDefEqProofs (disch:=omega) only [push_cast,↓reduceIte,Nat.reduceEqDiff,reduceCtorEq,wz,hρ,h4,hix,hex,hadd,hne,hkl2]
        exact hN (k + 1) _ _ ⟨by simp (maxSteps:=999999) -implicitDefEqProofs (disch:=omega) only [push_cast,↓reduceIte,Nat.reduceEqDiff,reduceCtorEq,wz,hρ], by omega, w, cur ++ [b], acc, ⟨by simp (maxSteps:=999999) -implicitDefEqProofs (disch:=omega) only [push_cast,↓reduceIte,Nat.reduceEqDiff,reduceCtorEq,wz], by simp (maxSteps:=999999) -implicitDefEqProofs (disch:=omega) only [push_cast,↓reduceIte,Nat.reduceEqDiff,reduceCtorEq,wz,h3]⟩, hs0, by omega, by simp; omega, hacc⟩ (by omega)
    · have hle : ¬ ((k : Int) < s.size) := by omega
      simp (maxSteps:=999999) -implicitDefEqProofs (disch:=omega) only [push_cast,↓reduceIte,Nat.reduceEqDiff,reduceCtorEq,wz,hρ,hle]
      rw [List.drop_eq_nil_of_le (by rw [← str_size]; omega)] at hacc
      simp only [partsB] at hacc
      exact hE _ _ ⟨w, cur, acc, ⟨by simp (maxSteps:=999999) -implicitDefEqProofs (disch:=omega) only [push_cast,↓reduceIte,Nat.reduceEqDiff,reduceCtorEq,wz,h4], by simp (maxSteps:=999999) -implicitDefEqProofs (disch:=omega) only [push_cast,↓reduceIte,Nat.reduceEqDiff,reduceCtorEq,wz,h3]⟩, hs0, by omega, hacc⟩
  · rintro ε σ ⟨w, cur, acc, ⟨h4, h3⟩, hs0, hal, hacc⟩
    by_cases hc : cur = []
    · have hc2 : bA cur = ⟨#[]⟩ := bA_nil.2 hc
      rw [if_pos hc, List.append_nil] at hacc
      simp (maxSteps:=999999) -implicitDefEqProofs (disch:=omega) only [push_cast,↓reduceIte,Nat.reduceEqDiff,reduceCtorEq,wz,h3,h4,hc2]
      rw [← hacc]
      exact fin_res [] (aSl_res (fun _ => rfl) _ _) (aBl_pure _)
    · have hc2 : ¬ (bA cur = ⟨#[]⟩) := fun h => hc (bA_nil.1 h)
      rw [if_neg hc] at hacc
      simp (maxSteps:=999999) -implicitDefEqProofs (disch:=omega) only [push_cast,↓reduceIte,Nat.reduceEqDiff,reduceCtorEq,wz,h3,h4,hc2]
      refine wpa_bsl (sz := 1) (by intro a ha; simp at ha; subst ha; rfl) (by simp) ?_
      simp (maxSteps:=999999) -implicitDefEqProofs (disch:=omega) only [push_cast,↓reduceIte,Nat.reduceEqDiff,reduceCtorEq,wz,h3]
      refine wpa_app (m := 1) rfl rfl rfl rfl (by simp) (by omega) (by omega) hs0 ?_
      simp (maxSteps:=999999) -implicitDefEqProofs (disch:=omega) only [push_cast,↓reduceIte,Nat.reduceEqDiff,reduceCtorEq,wz]
      rw [← hacc]
      refine fin_res [] ?_ (aBl_pure _)
      have := aSl_res (σ := Go.Kx.freeze [] (σ.set 0 (.tail (w + 1)))) (f := aB) (fun _ => rfl) (acc ++ [cur]) (.id 0 (w + 1) 1)
      rw [← this]
      simp [AV.cells, Value.cells]

theorem Join_a (P : List (List UInt8)) (hN : P.length ≤ 1000000) (hl : (Lib.join P [32]).length ≤ 100000000) : FnP Tryd.prog 49 [aSl aB P] fun a => a = aB (Lib.join P [32]) := by
  have hm : ∀ xs : List (List UInt8), (xs.map bA).map (·.data.toList) = xs := by intro xs; simp [List.map_map, Function.comp_def]
  have hm2 : (P.map bA).map aS = P.map aB := by simp [List.map_map, Function.comp_def]
  refine fnP_in K_words_Join mixed rfl (by simp only [AV.pureL, aBl_pure]; rfl) ?_
  simp only [S_words_Join]
  simp (maxSteps:=999999) -implicitDefEqProofs (disch:=omega) only [push_cast,↓reduceIte,Nat.reduceEqDiff,reduceCtorEq,wz,aSl]
  have h := join_a (P.map bA) ⟨#[32]⟩ .none (by rw [hm2, List.length_map]; exact aBl_pure P) (by simp; omega) (by rw [hm]; exact Nat.le_trans hl (by omega))
  rw [hm2, List.length_map, hm] at h
  refine wpa_call h ?_
  rintro a rfl
  simp (maxSteps:=999999) -implicitDefEqProofs (disch:=omega) only [push_cast,↓reduceIte,Nat.reduceEqDiff,reduceCtorEq,wz]
  exact ⟨[], rfl⟩
theorem joinR_snoc (sep x : List UInt8) : ∀ (xs : List (List UInt8)) (f : Bool), joinR sep (xs ++ [x]) f = joinR sep xs f ++ (if f = true ∧ xs = [] then [] else sep) ++ x := by
  intro xs
  induction xs with
  | nil => intro f; cases f <;> simp [joinR]
  | cons y xs ih => intro f; simp only [List.cons_append, joinR, ih]; simp
theorem joinR_take {sep x : List UInt8} {xs : List (List UInt8)} {k : Nat} (h : xs[k]? = some x) : joinR sep (xs.take (k + 1)) true = joinR sep (xs.take k) true ++ (if k = 0 then [] else sep) ++ x := by
  rw [take_succ_at h, joinR_snoc]
  congr 2
  have : xs.take k = [] ↔ k = 0 := by
    rw [List.take_eq_nil_iff]
    exact ⟨fun h0 => h0.elim id fun e => by rw [e] at h; simp at h, .inl⟩
  simp [this]
theorem joinR_len {sep : List UInt8} {m : Nat} : ∀ {xs : List (List UInt8)} {f : Bool}, (∀ x ∈ xs, x.length ≤ m) → (joinR sep xs f).length ≤ xs.length * (m + sep.length) := by
  intro xs
  induction xs with
  | nil => intro f _; simp [joinR]
  | cons x xs ih =>
    intro f h
    have h1 := ih (f := false) fun y hy => h y (by simp [hy])
    have h2 := h x (by simp)
    simp only [joinR, List.length_append, List.length_cons, Nat.add_mul, Nat.one_mul]
    cases f <;> simp <;> omega
end Go.Proofs.YtjdpejggafefjaaDoor
