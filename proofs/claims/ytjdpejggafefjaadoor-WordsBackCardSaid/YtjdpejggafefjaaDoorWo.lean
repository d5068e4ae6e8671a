/- Nums of both; are two lists the same; works. -/
import Derived.Test.YtjdpejggafefjaaDoorWn
namespace Go.Proofs.YtjdpejggafefjaaDoor
set_option linter.unusedVariables false
set_option linter.unusedSimpArgs false
open Go Go.Kx Go.Proofs

set_option maxHeartbeats 4000000 in
theorem law05_Ints_a (l k : List Int) (hl : l.length ≤ 1000000) (hk : k.length ≤ 1000000) : FnP Tryd.prog 36 [aInts l, aInts k] fun a => a = aBool (l == k) := by
  refine fnP_in K_forebaylaw05_Ints mixed rfl (by simp [AV.pureL, aInts_pure]) ?_
  simp only [S_forebaylaw05_Ints, aInts, aSl]
  by_cases hle : l.length = k.length
  · simp (maxSteps:=999999) -implicitDefEqProofs (disch:=omega) only [push_cast,↓reduceIte,Nat.reduceEqDiff,reduceCtorEq,wz,hle]
    refine wpa_bl (α := Nat) (I := fun t ε σ => (ε 0 = .sl l.length (l.map aInt) .none ∧ ε 1 = .sl k.length (k.map aInt) .none ∧ ε 5 = .v (.int .i64 t)) ∧ t ≤ l.length ∧ l.take t = k.take t)
      (μ := fun t => l.length - t) (Q := fun _ _ => l = k) (x := 0) ?_ ?_ ?_
    · simp (maxSteps:=999999) -implicitDefEqProofs (disch:=omega) only [push_cast,↓reduceIte,Nat.reduceEqDiff,reduceCtorEq,wz,hle]
      omega
    · rintro t ε σ N E ⟨hρ, ht, heq⟩ hN hE
      simp only [S_forebaylaw05_Ints_L1]
      by_cases hlt : t < l.length
      · obtain ⟨x, hx⟩ := at_lt hlt
        obtain ⟨y, hy⟩ := at_lt (l := k) (k := t) (by omega)
        by_cases he : x = y
        · subst he
          simp (maxSteps:=999999) -implicitDefEqProofs (disch:=omega) only [push_cast,↓reduceIte,Nat.reduceEqDiff,reduceCtorEq,wz,hρ,hx,hy,aInt]
          refine hN (t + 1) _ _ ?_ (by omega)
          simp (maxSteps:=999999) -implicitDefEqProofs (disch:=omega) only [push_cast,↓reduceIte,Nat.reduceEqDiff,reduceCtorEq,wz,hρ]
          exact ⟨by omega, by rw [take_succ_at hx, take_succ_at hy, heq]⟩
        · simp (maxSteps:=999999) -implicitDefEqProofs (disch:=omega) only [push_cast,↓reduceIte,Nat.reduceEqDiff,reduceCtorEq,wz,hρ,hx,hy,aInt,he]
          refine fin_v ?_
          have : l ≠ k := by
            intro e; subst e; rw [hx] at hy; cases hy; exact he rfl
          simp [aBool, this]
      · simp (maxSteps:=999999) -implicitDefEqProofs (disch:=omega) only [push_cast,↓reduceIte,Nat.reduceEqDiff,reduceCtorEq,wz,hρ]
        refine hE _ _ ?_
        rwa [List.take_of_length_le (by omega), List.take_of_length_le (by omega)] at heq
    · intro ε σ h
      simp (maxSteps:=999999) -implicitDefEqProofs (disch:=omega) only [push_cast,↓reduceIte,Nat.reduceEqDiff,reduceCtorEq,wz]
      exact fin_v (by simp [aBool, h])
  · simp (maxSteps:=999999) -implicitDefEqProofs (disch:=omega) only [push_cast,↓reduceIte,Nat.reduceEqDiff,reduceCtorEq,wz,hle]
    refine fin_v ?_
    have : l ≠ k := by intro e; subst e; exact hle rfl
    simp [aBool, this]

theorem split_bA (l : List UInt8) (hl : l.length < 4294967281) : FnP Tryd.prog 65 [aB l, aB [44]] fun a => a = .sl (cutB 44 [] l).length ((cutB 44 [] l).map aB) .full := by
  have h := split_a (bA l) (bA [44]) hl (by decide)
  have e : ∀ xs : List ByteArray, xs.map aS = (xs.map (·.data.toList)).map aB := by
    intro xs; simp [List.map_map, Function.comp_def]
  have e2 : (Lib.splitB (bA [44]) 0 (Lib.countB (bA l) (bA [44])) (bA l)).map (·.data.toList) = cutB 44 [] l := by
    rw [Lib.splitB_data]
    have : (bA [44]).data.toList = [44] := rfl
    have h2 : (bA l).data.toList = l := by simp
    rw [Lib.countB, this, h2]
    exact split_cut 44 l
  rw [e, e2] at h
  have e3 := congrArg List.length e2
  rw [List.length_map] at e3
  rw [e3] at h
  exact h
abbrev aNums (p : List Int × Bool) : AV := .tup [aInts p.1, .v (.bool p.2)]
theorem numsGo_at {W : List (List UInt8)} {k : Nat} {w : List UInt8} (acc : List Int) (h : W[k]? = some w) :
    numsGo (W.drop k) acc = if (numF w).2 = true then numsGo (W.drop (k + 1)) (acc ++ [(numF w).1]) else ([], false) := by
  rw [drop_at h, numsGo]
theorem aIntsT_res (σ : Kx.St) (xs : List Int) (t : Tok) : (AV.sl xs.length (xs.map aInt) t).res σ = aInts xs := aSl_res (fun _ => rfl) xs t

set_option maxHeartbeats 4000000 in
theorem Nums_a (l : List UInt8) (hl : l.length ≤ 100000) : FnP Tryd.prog 33 [aB l] fun a => a = aNums (numsF l) := by
  refine fnP_in K_words_Nums mixed rfl rfl ?_
  simp only [S_words_Nums]
  by_cases h45 : l = [45]
  · subst h45
    simp (maxSteps:=999999) -implicitDefEqProofs (disch:=omega) only [push_cast,↓reduceIte,Nat.reduceEqDiff,reduceCtorEq,wz]
    exact fin_tup2 [] rfl rfl rfl rfl rfl
  · have hne := ne_bA h45
    have hF : numsF l = numsGo (cutB 44 [] l) [] := by unfold numsF; rw [if_neg h45]
    obtain ⟨hWl, hWm⟩ := cutB_len (sg := 44) l []
    rw [List.length_nil, Nat.add_zero] at hWm
    simp (maxSteps:=999999) -implicitDefEqProofs (disch:=omega) only [push_cast,↓reduceIte,Nat.reduceEqDiff,reduceCtorEq,wz,hne]
    refine wpa_call (split_bA l (by omega)) ?_
    rintro a rfl
    generalize cutB 44 [] l = W at hF hWl hWm
    simp (maxSteps:=999999) -implicitDefEqProofs (disch:=omega) only [push_cast,↓reduceIte,Nat.reduceEqDiff,reduceCtorEq,wz]
    refine wpa_blg (GU.tok 4 1 rfl) (α := Nat) (I := fun k ε σ => (ε 12 = .sl W.length (W.map aB) .full ∧ ε 13 = .v (.int .i64 W.length) ∧ ε 14 = .v (.int .i64 k)) ∧ k ≤ W.length ∧ ∃ (w : Nat) (acc : List Int), ε 4 = .sl acc.length (acc.map aInt) (.id 0 w 1) ∧ σ[0]? = some (.tail w) ∧ acc.length ≤ k ∧ numsGo (W.drop k) acc = numsF l)
      (μ := fun k => W.length - k) (Q := fun ε σ => ∃ (w : Nat) (acc : List Int), ε 4 = .sl acc.length (acc.map aInt) (.id 0 w 1) ∧ numsF l = (acc, true)) (x := 0) ?_ ?_ ?_
    · simp (maxSteps:=999999) -implicitDefEqProofs (disch:=omega) only [push_cast,↓reduceIte,Nat.reduceEqDiff,reduceCtorEq,wz]
      exact ⟨by omega, 0, [], rfl, rfl, by simp, by rw [hF]⟩
    · rintro k ε σ N E ⟨hρ, hk, w, acc, h4, hs0, hal, hacc⟩ hN hE
      simp only [S_words_Nums_L1]
      by_cases hlt : k < W.length
      · obtain ⟨x, hx⟩ := at_lt hlt
        have hkl : (k : Int) < W.length := by omega
        have hxl := hWm x (List.mem_of_getElem? hx)
        rw [numsGo_at acc hx] at hacc
        simp (maxSteps:=999999) -implicitDefEqProofs (disch:=omega) only [push_cast,↓reduceIte,Nat.reduceEqDiff,reduceCtorEq,wz,hρ,hkl,hx]
        refine wpa_call (Num_a x (by omega)) ?_
        rintro a rfl
        cases hn : (numF x).2 with
        | false =>
          rw [hn, if_neg (by simp)] at hacc
          simp (maxSteps:=999999) -implicitDefEqProofs (disch:=omega) only [push_cast,↓reduceIte,Nat.reduceEqDiff,reduceCtorEq,wz,hρ,aNum,hn]
          rw [← hacc]
          exact fin_tup2 [] rfl rfl rfl rfl rfl
        | true =>
          rw [hn, if_pos rfl] at hacc
          simp (maxSteps:=999999) -implicitDefEqProofs (disch:=omega) only [push_cast,↓reduceIte,Nat.reduceEqDiff,reduceCtorEq,wz,hρ,aNum,hn,h4]
          refine wpa_bsl (sz := 1) (by intro a ha; simp at ha; subst ha; rfl) (by simp) ?_
          simp (maxSteps:=999999) -implicitDefEqProofs (disch:=omega) only [push_cast,↓reduceIte,Nat.reduceEqDiff,reduceCtorEq,wz,h4]
          refine wpa_app (m := 1) rfl rfl rfl rfl (by simp) (by omega) (by omega) hs0 ?_
          simp (maxSteps:=999999) -implicitDefEqProofs (disch:=omega) only [push_cast,↓reduceIte,Nat.reduceEqDiff,reduceCtorEq,wz,hρ]
          exact hN (k + 1) _ _ ⟨by simp (maxSteps:=999999) -implicitDefEqProofs (disch:=omega) only [push_cast,↓reduceIte,Nat.reduceEqDiff,reduceCtorEq,wz,hρ], by omega, w + 1, acc ++ [(numF x).1], by simp (maxSteps:=999999) -implicitDefEqProofs (disch:=omega) only [push_cast,↓reduceIte,Nat.reduceEqDiff,reduceCtorEq,wz]; simp [AV.cells, Value.cells, aInt], get_set_eq hs0, by simp; omega, hacc⟩ (by omega)
      · have hle : ¬ ((k : Int) < W.length) := by omega
        simp (maxSteps:=999999) -implicitDefEqProofs (disch:=omega) only [push_cast,↓reduceIte,Nat.reduceEqDiff,reduceCtorEq,wz,hρ,hle]
        have : k = W.length := by omega
        subst this
        rw [List.drop_length] at hacc
        exact hE _ _ ⟨w, acc, h4, hacc.symm⟩
    · rintro ε σ ⟨w, acc, h4, hF2⟩
      simp (maxSteps:=999999) -implicitDefEqProofs (disch:=omega) only [push_cast,↓reduceIte,Nat.reduceEqDiff,reduceCtorEq,wz,h4]
      rw [hF2]
      exact fin_tup2 [] (aIntsT_res _ _ _) rfl (aInts_pure _) rfl rfl

set_option maxHeartbeats 4000000 in
theorem ref05_Nums_a (l : List UInt8) (hl : l.length ≤ 100000) : FnP Tryd.prog 34 [aB l] fun a => a = aNums (numsF l) := by
  refine fnP_in K_forebayref05_Nums mixed rfl rfl ?_
  simp only [S_forebayref05_Nums]
  by_cases h45 : l = [45]
  · subst h45
    simp (maxSteps:=999999) -implicitDefEqProofs (disch:=omega) only [push_cast,↓reduceIte,Nat.reduceEqDiff,reduceCtorEq,wz]
    exact fin_tup2 [] rfl rfl rfl rfl rfl
  · have hne := ne_bA h45
    have hF : numsF l = numsGo (cutB 44 [] l) [] := by unfold numsF; rw [if_neg h45]
    have hsz := size_bA l
    simp (maxSteps:=999999) -implicitDefEqProofs (disch:=omega) only [push_cast,↓reduceIte,Nat.reduceEqDiff,reduceCtorEq,wz,hne]
    refine wpa_blg (GU.tok 4 1 rfl) (α := Nat) (I := fun k ε σ => (ε 0 = aB l ∧ ε 6 = .v (.int .i64 k)) ∧ k ≤ l.length + 1 ∧ ∃ (w : Nat) (cur : List UInt8) (acc : List Int), (ε 5 = aB cur ∧ ε 4 = .sl acc.length (acc.map aInt) (.id 0 w 1)) ∧ σ[0]? = some (.tail w) ∧ acc.length ≤ k ∧ cur.length ≤ k ∧
        (if k ≤ l.length then numsGo (cutB 44 cur (l.drop k)) acc = numsF l else numsF l = (acc, true)))
      (μ := fun k => l.length + 1 - k) (Q := fun ε σ => ∃ (w : Nat) (acc : List Int), ε 4 = .sl acc.length (acc.map aInt) (.id 0 w 1) ∧ numsF l = (acc, true)) (x := 0) ?_ ?_ ?_
    · simp (maxSteps:=999999) -implicitDefEqProofs (disch:=omega) only [push_cast,↓reduceIte,Nat.reduceEqDiff,reduceCtorEq,wz]
      exact ⟨by omega, 0, [], [], ⟨rfl, rfl⟩, rfl, by simp, by simp, by rw [if_pos (by omega), hF]⟩
    · rintro k ε σ N E ⟨hρ, hk, w, cur, acc, ⟨h5, h4⟩, hs0, hal, hcl, hacc⟩ hN hE
      simp only [S_forebayref05_Nums_L1]
      by_cases hle : k ≤ l.length
      · rw [if_pos hle] at hacc
        have hkl : (k : Int) ≤ (bA l).size := by omega
        by_cases hc : k < l.length ∧ l[k]? ≠ some 44
        · obtain ⟨hlt, h44⟩ := hc
          obtain ⟨b, hb⟩ := at_lt hlt
          have hbn : b ≠ 44 := fun e => h44 (by rw [hb, e])
          have hix : PF.val .ixs [.string (bA l), .int .i64 k] = some (.int .u8 b.toNat) := pv_str_ix (by omega) (by simpa using hb)
          have hnb : ¬ ((b.toNat : Int) = 44) := fun e => hbn (UInt8.toNat_inj.1 (by rw [show (44 : UInt8).toNat = 44 from rfl]; omega))
          have hex : (bA l).extract k (k + 1) = bA [b] := str_one (by simpa using hb)
          have hadd := add_bA cur [b] (by simp; omega)
          have hkl2 : (k : Int) < (bA l).size := by omega
          simp (maxSteps:=999999) -implicitDefEqProofs (disch:=omega) only [push_cast,↓reduceIte,Nat.reduceEqDiff,reduceCtorEq,wz,hρ,hkl,hkl2,hix,hnb,h5,hex,hadd]
          refine hN (k + 1) _ _ ⟨by simp (maxSteps:=999999) -implicitDefEqProofs (disch:=omega) only [push_cast,↓reduceIte,Nat.reduceEqDiff,reduceCtorEq,wz,hρ], by omega, w, cur ++ [b], acc, ⟨by simp (maxSteps:=999999) -implicitDefEqProofs (disch:=omega) only [push_cast,↓reduceIte,Nat.reduceEqDiff,reduceCtorEq,wz], by simp (maxSteps:=999999) -implicitDefEqProofs (disch:=omega) only [push_cast,↓reduceIte,Nat.reduceEqDiff,reduceCtorEq,wz,h4]⟩, hs0, by omega, by simp; omega, ?_⟩ (by omega)
          rw [if_pos (by omega), ← hacc, drop_at hb]
          simp only [cutB, if_neg hbn]
        · have hgo : numsF l = if (numF cur).2 = true then (if k < l.length then numsGo (cutB 44 [] (l.drop (k + 1))) (acc ++ [(numF cur).1]) else (acc ++ [(numF cur).1], true)) else ([], false) := by
            rw [← hacc]
            by_cases hlt : k < l.length
            · have h44 : l[k]? = some 44 := Classical.byContradiction fun h => hc ⟨hlt, h⟩
              rw [drop_at h44]
              simp only [cutB, if_true, numsGo, if_pos hlt]
            · rw [List.drop_eq_nil_of_le (by omega)]
              simp only [cutB, numsGo, if_neg hlt]
          have hcase : (k < l.length ∧ PF.val .ixs [.string (bA l), .int .i64 k] = some (.int .u8 44)) ∨ ¬ k < l.length := by
            by_cases hlt : k < l.length
            · have h44 : l[k]? = some 44 := Classical.byContradiction fun h => hc ⟨hlt, h⟩
              have hix : PF.val .ixs [.string (bA l), .int .i64 k] = some (.int .u8 ((44 : UInt8).toNat : Nat)) := pv_str_ix (by omega) (by simpa using h44)
              exact .inl ⟨hlt, hix⟩
            · exact .inr hlt
          cases hn : (numF cur).2 with
          | false =>
            rw [hn, if_neg (by simp)] at hgo
            rcases hcase with ⟨hlt, hix⟩ | hlt
            · have hkl2 : (k : Int) < (bA l).size := by omega
              simp (maxSteps:=999999) -implicitDefEqProofs (disch:=omega) only [push_cast,↓reduceIte,Nat.reduceEqDiff,reduceCtorEq,wz,hρ,hkl,hkl2,hix,h5]
              refine wpa_call (ref05_Num_a cur (by omega)) ?_
              rintro a rfl
              simp (maxSteps:=999999) -implicitDefEqProofs (disch:=omega) only [push_cast,↓reduceIte,Nat.reduceEqDiff,reduceCtorEq,wz,hρ,aNum,hn]
              rw [hgo]
              exact fin_tup2 [] rfl rfl rfl rfl rfl
            · have hkl2 : ¬ (k : Int) < (bA l).size := by omega
              simp (maxSteps:=999999) -implicitDefEqProofs (disch:=omega) only [push_cast,↓reduceIte,Nat.reduceEqDiff,reduceCtorEq,wz,hρ,hkl,hkl2,h5]
              refine wpa_call (ref05_Num_a cur (by omega)) ?_
              rintro a rfl
              simp (maxSteps:=999999) -implicitDefEqProofs (disch:=omega) only [push_cast,↓reduceIte,Nat.reduceEqDiff,reduceCtorEq,wz,hρ,aNum,hn]
              rw [hgo]
              exact fin_tup2 [] rfl rfl rfl rfl rfl
          | true =>
            rw [hn, if_pos rfl] at hgo
            have hI : if k + 1 ≤ l.length then numsGo (cutB 44 [] (l.drop (k + 1))) (acc ++ [(numF cur).1]) = numsF l else numsF l = (acc ++ [(numF cur).1], true) := by
              by_cases hlt : k < l.length
              · rw [if_pos hlt] at hgo
                rw [if_pos (by omega), hgo]
              · rw [if_neg hlt] at hgo
                rw [if_neg (by omega), hgo]
            rcases hcase with ⟨hlt, hix⟩ | hlt
            · have hkl2 : (k : Int) < (bA l).size := by omega
              simp (maxSteps:=999999) -implicitDefEqProofs (disch:=omega) only [push_cast,↓reduceIte,Nat.reduceEqDiff,reduceCtorEq,wz,hρ,hkl,hkl2,hix,h5]
              refine wpa_call (ref05_Num_a cur (by omega)) ?_
              rintro a rfl
              simp (maxSteps:=999999) -implicitDefEqProofs (disch:=omega) only [push_cast,↓reduceIte,Nat.reduceEqDiff,reduceCtorEq,wz,hρ,aNum,hn,h4]
              refine wpa_bsl (sz := 1) (by intro a ha; simp at ha; subst ha; rfl) (by simp) ?_
              simp (maxSteps:=999999) -implicitDefEqProofs (disch:=omega) only [push_cast,↓reduceIte,Nat.reduceEqDiff,reduceCtorEq,wz,h4]
              refine wpa_app (m := 1) rfl rfl rfl rfl (by simp) (by omega) (by omega) hs0 ?_
              simp (maxSteps:=999999) -implicitDefEqProofs (disch:=omega) only [push_cast,↓reduceIte,Nat.reduceEqDiff,reduceCtorEq,wz,hρ]
              exact hN (k + 1) _ _ ⟨by simp (maxSteps:=999999) -implicitDefEqProofs (disch:=omega) only [push_cast,↓reduceIte,Nat.reduceEqDiff,reduceCtorEq,wz,hρ], by omega, w + 1, [], acc ++ [(numF cur).1], ⟨by simp (maxSteps:=999999) -implicitDefEqProofs (disch:=omega) only [push_cast,↓reduceIte,Nat.reduceEqDiff,reduceCtorEq,wz], by simp (maxSteps:=999999) -implicitDefEqProofs (disch:=omega) only [push_cast,↓reduceIte,Nat.reduceEqDiff,reduceCtorEq,wz]; simp [AV.cells, Value.cells, aInt]⟩, get_set_eq hs0, by simp; omega, by simp, hI⟩ (by omega)
            · have hkl2 : ¬ (k : Int) < (bA l).size := by omega
              simp (maxSteps:=999999) -implicitDefEqProofs (disch:=omega) only [push_cast,↓reduceIte,Nat.reduceEqDiff,reduceCtorEq,wz,hρ,hkl,hkl2,h5]
              refine wpa_call (ref05_Num_a cur (by omega)) ?_
              rintro a rfl
              simp (maxSteps:=999999) -implicitDefEqProofs (disch:=omega) only [push_cast,↓reduceIte,Nat.reduceEqDiff,reduceCtorEq,wz,hρ,aNum,hn,h4]
              refine wpa_bsl (sz := 1) (by intro a ha; simp at ha; subst ha; rfl) (by simp) ?_
              simp (maxSteps:=999999) -implicitDefEqProofs (disch:=omega) only [push_cast,↓reduceIte,Nat.reduceEqDiff,reduceCtorEq,wz,h4]
              refine wpa_app (m := 1) rfl rfl rfl rfl (by simp) (by omega) (by omega) hs0 ?_
              simp (maxSteps:=999999) -implicitDefEqProofs (disch:=omega) only [push_cast,↓reduceIte,Nat.reduceEqDiff,reduceCtorEq,wz,hρ]
              exact hN (k + 1) _ _ ⟨by simp (maxSteps:=999999) -implicitDefEqProofs (disch:=omega) only [push_cast,↓reduceIte,Nat.reduceEqDiff,reduceCtorEq,wz,hρ], by omega, w + 1, [], acc ++ [(numF cur).1], ⟨by simp (maxSteps:=999999) -implicitDefEqProofs (disch:=omega) only [push_cast,↓reduceIte,Nat.reduceEqDiff,reduceCtorEq,wz], by simp (maxSteps:=999999) -implicitDefEqProofs (disch:=omega) only [push_cast,↓reduceIte,Nat.reduceEqDiff,reduceCtorEq,wz]; simp [AV.cells, Value.cells, aInt]⟩, get_set_eq hs0, by simp; omega, by simp, hI⟩ (by omega)
      · rw [if_neg hle] at hacc
        have hgt : ¬ ((k : Int) ≤ (bA l).size) := by omega
        simp (maxSteps:=999999) -implicitDefEqProofs (disch:=omega) only [push_cast,↓reduceIte,Nat.reduceEqDiff,reduceCtorEq,wz,hρ,hgt]
        exact hE _ _ ⟨w, acc, h4, hacc⟩
    · rintro ε σ ⟨w, acc, h4, hF2⟩
      simp (maxSteps:=999999) -implicitDefEqProofs (disch:=omega) only [push_cast,↓reduceIte,Nat.reduceEqDiff,reduceCtorEq,wz,h4]
      rw [hF2]
      exact fin_tup2 [] (aIntsT_res _ _ _) rfl (aInts_pure _) rfl rfl
end Go.Proofs.YtjdpejggafefjaaDoor
