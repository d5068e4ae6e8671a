/- The statements on words: works; the walks of WordsNumbers, WordsLists, WordsLines. -/
import Derived.Test.YtjdpejggafefjaaDoorWo
namespace Go.Proofs.YtjdpejggafefjaaDoor
set_option linter.unusedVariables false
set_option linter.unusedSimpArgs false
open Go Go.Kx Go.Proofs

theorem itoa_47 : Lib.itoa (-47) = [45, 52, 55] := by decide +kernel
theorem listF_12 : listF [1, -2] = [49, 44, 45, 50] := by decide +kernel
theorem list_eq_self (l : List Int) : (l == l) = true := by simp
set_option maxHeartbeats 4000000 in
theorem law05_works_a : FnP Tryd.prog 28 [] fun a => a = aBool true := by
  refine fnP_in K_forebaylaw05_works mixed rfl rfl ?_
  simp only [S_forebaylaw05_works]
  have h1 : FnP Tryd.prog 29 [.v (.string ⟨#[45, 52, 55]⟩)] fun a => a = aNum (-47, true) := by
    have h := Num_a [45, 52, 55] (by simp)
    rw [← itoa_47, numF_itoa _ (by decide) (by decide), itoa_47] at h
    exact h
  have h2 : FnP Tryd.prog 33 [.v (.string ⟨#[49, 44, 45, 50]⟩)] fun a => a = aNums ([1, -2], true) := by
    have h := Nums_a [49, 44, 45, 50] (by simp)
    rw [← listF_12, numsF_listF _ (by intro x hx; simp at hx; rcases hx with rfl | rfl <;> exact ⟨by decide, by decide⟩), listF_12] at h
    exact h
  have h3 : FnP Tryd.prog 31 [aInt (-47)] fun a => a = aB [45, 52, 55] := by
    have h := Of_a (-47) (by decide) (by decide)
    rw [itoa_47] at h
    exact h
  have h4 : FnP Tryd.prog 35 [aInts [1, -2]] fun a => a = aB [49, 44, 45, 50] := by
    have h := List_a [1, -2] (by simp) (by intro x hx; simp at hx; rcases hx with rfl | rfl <;> exact ⟨by decide, by decide⟩)
    rw [listF_12] at h
    exact h
  have h5 : FnP Tryd.prog 49 [aSl aB [[97], [98]]] fun a => a = aB [97, 32, 98] := Join_a [[97], [98]] (by simp) (by decide)
  simp (maxSteps:=999999) -implicitDefEqProofs (disch:=omega) only [push_cast,↓reduceIte,Nat.reduceEqDiff,reduceCtorEq,wz]
  refine wpa_call h1 ?_
  rintro a rfl
  simp (maxSteps:=999999) -implicitDefEqProofs (disch:=omega) only [push_cast,↓reduceIte,Nat.reduceEqDiff,reduceCtorEq,wz,aNum]
  refine wpa_call h2 ?_
  rintro a rfl
  simp (maxSteps:=999999) -implicitDefEqProofs (disch:=omega) only [push_cast,↓reduceIte,Nat.reduceEqDiff,reduceCtorEq,wz,aNums]
  refine wpa_call h3 ?_
  rintro a rfl
  simp (maxSteps:=999999) -implicitDefEqProofs (disch:=omega) only [push_cast,↓reduceIte,Nat.reduceEqDiff,reduceCtorEq,wz]
  refine wpa_bsl (sz := 1) (by intro a ha; simp at ha; rcases ha with rfl | rfl <;> rfl) (by simp) ?_
  simp (maxSteps:=999999) -implicitDefEqProofs (disch:=omega) only [push_cast,↓reduceIte,Nat.reduceEqDiff,reduceCtorEq,wz]
  refine wpa_callw [] [false, true] (law05_Ints_a [1, -2] [1, -2] (by simp) (by simp)) rfl ?_
  rintro a rfl
  simp (maxSteps:=999999) -implicitDefEqProofs (disch:=omega) only [push_cast,↓reduceIte,Nat.reduceEqDiff,reduceCtorEq,wz,aBool,list_eq_self]
  refine wpa_call h4 ?_
  rintro a rfl
  simp (maxSteps:=999999) -implicitDefEqProofs (disch:=omega) only [push_cast,↓reduceIte,Nat.reduceEqDiff,reduceCtorEq,wz]
  refine wpa_bsl (sz := 1) (by intro a ha; simp at ha; rcases ha with rfl | rfl <;> rfl) (by simp) ?_
  simp (maxSteps:=999999) -implicitDefEqProofs (disch:=omega) only [push_cast,↓reduceIte,Nat.reduceEqDiff,reduceCtorEq,wz]
  refine wpa_callw [] [true] h5 rfl ?_
  rintro a rfl
  simp (maxSteps:=999999) -implicitDefEqProofs (disch:=omega) only [push_cast,↓reduceIte,Nat.reduceEqDiff,reduceCtorEq,wz]
  exact ⟨[], rfl⟩

theorem bA_data (s : ByteArray) : bA s.data.toList = s := by cases s; simp
set_option maxHeartbeats 4000000 in
theorem WordsNumbers_a (n : Int) (s : ByteArray) (hn : I64 n) : FnP Tryd.prog 6 [aInt n, aS s] fun a => a = aBool true := by
  obtain ⟨l, rfl⟩ : ∃ l, s = bA l := ⟨_, (bA_data s).symm⟩
  refine fnP_in K_forebaylaw05_WordsNumbers mixed rfl rfl ?_
  simp only [S_forebaylaw05_WordsNumbers]
  simp (maxSteps:=999999) -implicitDefEqProofs (disch:=omega) only [push_cast,↓reduceIte,Nat.reduceEqDiff,reduceCtorEq,wz,aInt]
  refine wpa_call law05_works_a ?_
  rintro a rfl
  simp (maxSteps:=999999) -implicitDefEqProofs (disch:=omega) only [push_cast,↓reduceIte,Nat.reduceEqDiff,reduceCtorEq,wz,aBool,aInt]
  by_cases hg : 1000 < l.length
  · have hgt : (1000 : Int) < (bA l).size := by rw [size_bA]; omega
    simp (maxSteps:=999999) -implicitDefEqProofs (disch:=omega) only [push_cast,↓reduceIte,Nat.reduceEqDiff,reduceCtorEq,wz,hgt]
    exact ⟨[], rfl⟩
  · have hgt : ¬ (1000 : Int) < (bA l).size := by rw [size_bA]; omega
    simp (maxSteps:=999999) -implicitDefEqProofs (disch:=omega) only [push_cast,↓reduceIte,Nat.reduceEqDiff,reduceCtorEq,wz,hgt]
    refine wpa_call (Num_a l (by omega)) ?_
    rintro a rfl
    simp (maxSteps:=999999) -implicitDefEqProofs (disch:=omega) only [push_cast,↓reduceIte,Nat.reduceEqDiff,reduceCtorEq,wz,aNum,aInt]
    refine wpa_call (ref05_Num_a l (by omega)) ?_
    rintro a rfl
    simp (maxSteps:=999999) -implicitDefEqProofs (disch:=omega) only [push_cast,↓reduceIte,Nat.reduceEqDiff,reduceCtorEq,wz,aNum,aInt]
    refine wpa_call (Of_a n hn.1 hn.2) ?_
    rintro a rfl
    simp (maxSteps:=999999) -implicitDefEqProofs (disch:=omega) only [push_cast,↓reduceIte,Nat.reduceEqDiff,reduceCtorEq,wz,aInt]
    have hil := Lib.itoa_length_le n hn.1 hn.2
    refine wpa_call (Num_a (Lib.itoa n) (by omega)) ?_
    rintro a rfl
    have hni := numF_itoa n hn.1 hn.2
    simp (maxSteps:=999999) -implicitDefEqProofs (disch:=omega) only [push_cast,↓reduceIte,Nat.reduceEqDiff,reduceCtorEq,wz,aNum,hni,aInt]
    refine wpa_call (Of_a n hn.1 hn.2) ?_
    rintro a rfl
    simp (maxSteps:=999999) -implicitDefEqProofs (disch:=omega) only [push_cast,↓reduceIte,Nat.reduceEqDiff,reduceCtorEq,wz,aInt]
    refine wpa_call (ref05_Of_a n hn.1 hn.2) ?_
    rintro a rfl
    simp (maxSteps:=999999) -implicitDefEqProofs (disch:=omega) only [push_cast,↓reduceIte,Nat.reduceEqDiff,reduceCtorEq,wz,aInt]
    exact ⟨[], rfl⟩

set_option maxHeartbeats 4000000 in
theorem WordsLists_a (xs : List Int) (s : ByteArray) (hx : xs.length ≤ 9223372036854775807 ∧ ∀ x ∈ xs, I64 x) : FnP Tryd.prog 7 [aInts xs, aS s] fun a => a = aBool true := by
  obtain ⟨l, rfl⟩ : ∃ l, s = bA l := ⟨_, (bA_data s).symm⟩
  refine fnP_in K_forebaylaw05_WordsLists mixed rfl (by simp [AV.pureL, aInts_pure, AV.pure]) ?_
  simp only [S_forebaylaw05_WordsLists]
  have hxl := hx.1
  simp (maxSteps:=999999) -implicitDefEqProofs (disch:=omega) only [push_cast,↓reduceIte,Nat.reduceEqDiff,reduceCtorEq,wz]
  refine wpa_call law05_works_a ?_
  rintro a rfl
  simp (maxSteps:=999999) -implicitDefEqProofs (disch:=omega) only [push_cast,↓reduceIte,Nat.reduceEqDiff,reduceCtorEq,wz,aBool]
  by_cases hg : 1000 < l.length
  · have hgt : (1000 : Int) < (bA l).size := by rw [size_bA]; omega
    simp (maxSteps:=999999) -implicitDefEqProofs (disch:=omega) only [push_cast,↓reduceIte,Nat.reduceEqDiff,reduceCtorEq,wz,hgt]
    exact ⟨[], rfl⟩
  · have hgt : ¬ (1000 : Int) < (bA l).size := by rw [size_bA]; omega
    by_cases hg2 : 200 < xs.length
    · have hgt2 : (200 : Int) < xs.length := by omega
      simp (maxSteps:=999999) -implicitDefEqProofs (disch:=omega) only [push_cast,↓reduceIte,Nat.reduceEqDiff,reduceCtorEq,wz,hgt,hgt2,aInts,aSl]
      exact ⟨[], rfl⟩
    · have hgt2 : ¬ (200 : Int) < xs.length := by omega
      simp (maxSteps:=999999) -implicitDefEqProofs (disch:=omega) only [push_cast,↓reduceIte,Nat.reduceEqDiff,reduceCtorEq,wz,hgt,hgt2,aInts,aSl]
      refine wpa_call (Nums_a l (by omega)) ?_
      rintro a rfl
      simp (maxSteps:=999999) -implicitDefEqProofs (disch:=omega) only [push_cast,↓reduceIte,Nat.reduceEqDiff,reduceCtorEq,wz,aNums]
      refine wpa_call (ref05_Nums_a l (by omega)) ?_
      rintro a rfl
      simp (maxSteps:=999999) -implicitDefEqProofs (disch:=omega) only [push_cast,↓reduceIte,Nat.reduceEqDiff,reduceCtorEq,wz,aNums]
      refine wpa_bsl (sz := 1) (by simp) (by simp) ?_
      simp (maxSteps:=999999) -implicitDefEqProofs (disch:=omega) only [push_cast,↓reduceIte,Nat.reduceEqDiff,reduceCtorEq,wz]
      refine wpa_app_full0 (n := 0) (cs := []) (m := xs.length) (news := xs.map aInt) rfl rfl (by simp) (by rw [List.all_map]; exact List.all_eq_true.2 fun _ _ => rfl) rfl (by omega) (by omega) ?_
      simp (maxSteps:=999999) -implicitDefEqProofs (disch:=omega) only [push_cast,↓reduceIte,Nat.reduceEqDiff,reduceCtorEq,wz]
      have h1 : FnP Tryd.prog 35 [.sl xs.length (xs.map aInt) .none] fun a => a = aB (listF xs) := List_a xs (by omega) hx.2
      refine wpa_call h1 ?_
      rintro a rfl
      simp (maxSteps:=999999) -implicitDefEqProofs (disch:=omega) only [push_cast,↓reduceIte,Nat.reduceEqDiff,reduceCtorEq,wz]
      have hll : (listF xs).length ≤ 100000 := by
        unfold listF
        split
        · simp
        · have := joinI_len hx.2 xs.length
          rw [List.take_length] at this
          omega
      have h2 : FnP Tryd.prog 33 [aB (listF xs)] fun a => a = aNums (xs, true) := by
        have h := Nums_a (listF xs) hll
        rw [numsF_listF xs hx.2] at h
        exact h
      refine wpa_call h2 ?_
      rintro a rfl
      simp (maxSteps:=999999) -implicitDefEqProofs (disch:=omega) only [push_cast,↓reduceIte,Nat.reduceEqDiff,reduceCtorEq,wz,aNums]
      have hN1 : (numsF l).1.length ≤ 1000000 := by
        unfold numsF
        split
        · simp
        · have h1 := numsGo_len (cutB 44 [] l) []
          have h2 := (cutB_len (sg := 44) l []).1
          simp only [List.length_nil] at h1
          omega
      refine wpa_call (law05_Ints_a (numsF l).1 (numsF l).1 hN1 hN1) ?_
      rintro a rfl
      simp (maxSteps:=999999) -implicitDefEqProofs (disch:=omega) only [push_cast,↓reduceIte,Nat.reduceEqDiff,reduceCtorEq,wz,aBool,list_eq_self]
      have h3 : FnP Tryd.prog 37 [.sl xs.length (xs.map aInt) .none] fun a => a = aB (listF xs) := ref05_List_a xs (by omega) hx.2
      refine wpa_call h3 ?_
      rintro a rfl
      simp (maxSteps:=999999) -implicitDefEqProofs (disch:=omega) only [push_cast,↓reduceIte,Nat.reduceEqDiff,reduceCtorEq,wz]
      have h4 : FnP Tryd.prog 36 [aInts xs, .sl xs.length (xs.map aInt) .none] fun a => a = aBool (xs == xs) := law05_Ints_a xs xs (by omega) (by omega)
      refine wpa_call h4 ?_
      rintro a rfl
      simp (maxSteps:=999999) -implicitDefEqProofs (disch:=omega) only [push_cast,↓reduceIte,Nat.reduceEqDiff,reduceCtorEq,wz,aBool,list_eq_self]
      exact ⟨[], rfl⟩

set_option maxHeartbeats 4000000 in
theorem WordsLines_a (s : ByteArray) (P : List (List UInt8)) (hP : P.length ≤ 9223372036854775807) : FnP Tryd.prog 10 [aS s, aSl aB P] fun a => a = aBool true := by
  obtain ⟨l, rfl⟩ : ∃ l, s = bA l := ⟨_, (bA_data s).symm⟩
  refine fnP_in K_forebaylaw05_WordsLines mixed rfl (by simp only [AV.pureL, aBl_pure]; rfl) ?_
  simp only [S_forebaylaw05_WordsLines]
  simp (maxSteps:=999999) -implicitDefEqProofs (disch:=omega) only [push_cast,↓reduceIte,Nat.reduceEqDiff,reduceCtorEq,wz]
  refine wpa_call law05_works_a ?_
  rintro a rfl
  simp (maxSteps:=999999) -implicitDefEqProofs (disch:=omega) only [push_cast,↓reduceIte,Nat.reduceEqDiff,reduceCtorEq,wz,aBool]
  by_cases hg : 3000 < l.length
  · have hgt : (3000 : Int) < (bA l).size := by rw [size_bA]; omega
    simp (maxSteps:=999999) -implicitDefEqProofs (disch:=omega) only [push_cast,↓reduceIte,Nat.reduceEqDiff,reduceCtorEq,wz,hgt]
    exact ⟨[], rfl⟩
  · have hgt : ¬ (3000 : Int) < (bA l).size := by rw [size_bA]; omega
    by_cases hg2 : 200 < P.length
    · have hgt2 : (200 : Int) < P.length := by omega
      simp (maxSteps:=999999) -implicitDefEqProofs (disch:=omega) only [push_cast,↓reduceIte,Nat.reduceEqDiff,reduceCtorEq,wz,hgt,hgt2,aSl]
      exact ⟨[], rfl⟩
    · have hgt2 : ¬ (200 : Int) < P.length := by omega
      simp (maxSteps:=999999) -implicitDefEqProofs (disch:=omega) only [push_cast,↓reduceIte,Nat.reduceEqDiff,reduceCtorEq,wz,hgt,hgt2,aSl]
      refine wpa_bl (α := Nat) (I := fun k ε σ => (ε 0 = aB l ∧ ε 1 = .sl P.length (P.map aB) .none ∧ ε 5 = .v (.int .i64 k)) ∧ k ≤ P.length ∧ ∀ i x, i < k → P[i]? = some x → x.length ≤ 200)
        (μ := fun k => P.length - k) (Q := fun ε σ => (ε 0 = aB l ∧ ε 1 = .sl P.length (P.map aB) .none) ∧ ∀ x ∈ P, x.length ≤ 200) (x := 0) ?_ ?_ ?_
      · simp (maxSteps:=999999) -implicitDefEqProofs (disch:=omega) only [push_cast,↓reduceIte,Nat.reduceEqDiff,reduceCtorEq,wz]
        exact ⟨by omega, fun i x h => by omega⟩
      · rintro k ε σ N E ⟨hρ, hk, hall⟩ hN hE
        simp only [S_forebaylaw05_WordsLines_L1]
        by_cases hlt : k < P.length
        · obtain ⟨x, hx⟩ := at_lt hlt
          have hkl : (k : Int) < P.length := by omega
          by_cases h2 : 200 < x.length
          · have h3 : (200 : Int) < (bA x).size := by rw [size_bA]; omega
            simp (maxSteps:=999999) -implicitDefEqProofs (disch:=omega) only [push_cast,↓reduceIte,Nat.reduceEqDiff,reduceCtorEq,wz,hρ,hkl,hx,h3]
            exact ⟨[], rfl⟩
          · have h3 : ¬ (200 : Int) < (bA x).size := by rw [size_bA]; omega
            simp (maxSteps:=999999) -implicitDefEqProofs (disch:=omega) only [push_cast,↓reduceIte,Nat.reduceEqDiff,reduceCtorEq,wz,hρ,hkl,hx,h3]
            refine hN (k + 1) _ _ ⟨by simp (maxSteps:=999999) -implicitDefEqProofs (disch:=omega) only [push_cast,↓reduceIte,Nat.reduceEqDiff,reduceCtorEq,wz,hρ], by omega, fun i y hi hy => ?_⟩ (by omega)
            by_cases hik : i < k
            · exact hall i y hik hy
            · have : i = k := by omega
              subst this
              rw [hx] at hy
              cases hy
              omega
        · have hle : ¬ (k : Int) < P.length := by omega
          simp (maxSteps:=999999) -implicitDefEqProofs (disch:=omega) only [push_cast,↓reduceIte,Nat.reduceEqDiff,reduceCtorEq,wz,hρ,hle]
          refine hE _ _ ⟨by simp (maxSteps:=999999) -implicitDefEqProofs (disch:=omega) only [push_cast,↓reduceIte,Nat.reduceEqDiff,reduceCtorEq,wz,hρ], fun x hx => ?_⟩
          obtain ⟨i, hi⟩ := List.mem_iff_getElem?.1 hx
          exact hall i x (by have := lt_at hi; omega) hi
      · rintro ε σ ⟨hρ, hall⟩
        simp (maxSteps:=999999) -implicitDefEqProofs (disch:=omega) only [push_cast,↓reduceIte,Nat.reduceEqDiff,reduceCtorEq,wz,hρ]
        have hsz : (bA l).size ≤ 100000 := by rw [size_bA]; omega
        refine wpa_call (Fields_a (bA l) hsz) ?_
        rintro a rfl
        simp (maxSteps:=999999) -implicitDefEqProofs (disch:=omega) only [push_cast,↓reduceIte,Nat.reduceEqDiff,reduceCtorEq,wz,hρ]
        refine wpa_call (ref05_Fields_a (bA l) hsz) ?_
        rintro a rfl
        simp (maxSteps:=999999) -implicitDefEqProofs (disch:=omega) only [push_cast,↓reduceIte,Nat.reduceEqDiff,reduceCtorEq,wz,hρ]
        have hpl := (partsB_len (sign := 32) (em := false) (bA l).data.toList []).1
        have hpl2 := (partsB_len (sign := 10) (em := true) (bA l).data.toList []).1
        have hdl : (bA l).data.toList.length = l.length := by simp
        simp only [if_true, hdl] at hpl hpl2
        refine wpa_call (law05_Strings_a _ _ (by omega) (by omega)) ?_
        rintro a rfl
        simp (maxSteps:=999999) -implicitDefEqProofs (disch:=omega) only [push_cast,↓reduceIte,Nat.reduceEqDiff,reduceCtorEq,wz,hρ,aBool]
        refine wpa_call (Lines_a (bA l) hsz) ?_
        rintro a rfl
        simp (maxSteps:=999999) -implicitDefEqProofs (disch:=omega) only [push_cast,↓reduceIte,Nat.reduceEqDiff,reduceCtorEq,wz,hρ]
        refine wpa_call (ref05_Lines_a (bA l) hsz) ?_
        rintro a rfl
        simp (maxSteps:=999999) -implicitDefEqProofs (disch:=omega) only [push_cast,↓reduceIte,Nat.reduceEqDiff,reduceCtorEq,wz,hρ]
        refine wpa_call (law05_Strings_a _ _ (by omega) (by omega)) ?_
        rintro a rfl
        simp (maxSteps:=999999) -implicitDefEqProofs (disch:=omega) only [push_cast,↓reduceIte,Nat.reduceEqDiff,reduceCtorEq,wz,hρ,aBool]
        refine wpa_bsl (sz := 1) (by simp) (by simp) ?_
        simp (maxSteps:=999999) -implicitDefEqProofs (disch:=omega) only [push_cast,↓reduceIte,Nat.reduceEqDiff,reduceCtorEq,wz,hρ]
        refine wpa_app_full0 (n := 0) (cs := []) (m := P.length) (news := P.map aB) rfl rfl (by simp) (by rw [List.all_map]; exact List.all_eq_true.2 fun _ _ => rfl) rfl (by omega) (by omega) ?_
        simp (maxSteps:=999999) -implicitDefEqProofs (disch:=omega) only [push_cast,↓reduceIte,Nat.reduceEqDiff,reduceCtorEq,wz,hρ]
        have hjl := joinR_len (sep := [32]) (f := true) hall
        have hjl2 : (joinR [32] P true).length ≤ 200 * 201 := Nat.le_trans hjl (Nat.mul_le_mul (by omega) (by simp))
        have h1 : FnP Tryd.prog 49 [.sl P.length (P.map aB) .none] fun a => a = aB (joinR [32] P true) := by
          have h := Join_a P (by omega) (by rw [join_joinR]; omega)
          rw [join_joinR] at h
          exact h
        refine wpa_call h1 ?_
        rintro a rfl
        simp (maxSteps:=999999) -implicitDefEqProofs (disch:=omega) only [push_cast,↓reduceIte,Nat.reduceEqDiff,reduceCtorEq,wz,hρ]
        have h2 : FnP Tryd.prog 50 [.sl P.length (P.map aB) .none] fun a => a = aB (joinR [32] P true) := ref05_Join_a P (by omega) fun x hx => by have := hall x hx; omega
        refine wpa_call h2 ?_
        rintro a rfl
        simp (maxSteps:=999999) -implicitDefEqProofs (disch:=omega) only [push_cast,↓reduceIte,Nat.reduceEqDiff,reduceCtorEq,wz,hρ]
        exact ⟨[], rfl⟩
end Go.Proofs.YtjdpejggafefjaaDoor
