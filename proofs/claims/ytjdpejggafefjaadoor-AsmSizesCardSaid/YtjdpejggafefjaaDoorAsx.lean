/- Programs in writing, written out, and read again loosely written (Asn .. Asr). -/
import Derived.Test.YtjdpejggafefjaaDoorAsy
/- asm.Text: a program in writing, line by line handed to a function. -/
namespace Go.Proofs.YtjdpejggafefjaaDoor
set_option linter.unusedVariables false
set_option linter.unusedSimpArgs false
open Go Go.Kx Go.Proofs

def aU (b : UInt8) : AV := .v (.int .u8 b.toNat)
/-- The bytes so far, in the object i. -/
def TxAt (σ : Kx.St) (i n0 : Nat) (bs : List UInt8) : Prop := i < n0 ∧ n0 ≤ σ.length ∧ ((bs = [] ∧ σ[i]? = some (.obj 0 [.sl 0 [] .nil])) ∨ ∃ j w, n0 ≤ j ∧ σ[i]? = some (.obj 0 [.sl bs.length (bs.map aU) (.id j w 1)]) ∧ σ[j]? = some (.tail w))
theorem TxAt.app {σ : Kx.St} {i n0 : Nat} {bs : List UInt8} (h : TxAt σ i n0 bs) (r : Res) : TxAt (σ ++ [r]) i n0 bs := by
  obtain ⟨h1, h2, h3⟩ := h
  refine ⟨h1, by simp; omega, ?_⟩
  rcases h3 with ⟨a, b⟩ | ⟨j, w, a, b, c⟩
  · exact .inl ⟨a, get_app b⟩
  · exact .inr ⟨j, w, a, get_app b, get_app c⟩
theorem TxAt.set {σ : Kx.St} {i n0 k : Nat} {bs : List UInt8} {r : Res} {o : Nat} {cs : List AV} (h : TxAt σ i n0 bs) (hk : σ[k]? = some (.obj o cs)) (hi : k ≠ i) : TxAt (σ.set k r) i n0 bs := by
  obtain ⟨h1, h2, h3⟩ := h
  refine ⟨h1, by simp; omega, ?_⟩
  rcases h3 with ⟨a, b⟩ | ⟨j, w, a, b, c⟩
  · exact .inl ⟨a, get_set_ne hi b⟩
  · exact .inr ⟨j, w, a, get_set_ne hi b, get_set_ne (by rintro rfl; rw [hk] at c; cases c) c⟩
theorem au_one (l : List UInt8) : (l.map aU).all AV.one = true := by
  rw [List.all_map]
  exact List.all_eq_true.2 fun _ _ => rfl
set_option maxHeartbeats 8000000 in
theorem asm_Text1_a {σ : Kx.St} {i n0 : Nat} {bs : List UInt8} (l : List UInt8) (h : TxAt σ i n0 bs) (hb : bs.length ≤ 10000000) (hl : l.length ≤ 10000000) :
    FnG Tryd.prog 82 [aB l, .ref i 0 0] σ fun a σ' => a = .tup [] ∧ TxAt σ' i n0 (bs ++ l ++ [10]) ∧ StayB σ σ' i n0 := by
  refine fnG_in K_asm_Text_1 mixed rfl ?_
  simp only [S_asm_Text_1]
  have hadd := add_bA l [10] (by simp; omega)
  have hsrc : ∀ σ : Kx.St, srcA σ 1 (.v (.string (bA (l ++ [10])))) = some (l.length + 1, (l ++ [10]).map aU) := by
    intro σ
    have e : (bA (l ++ [10])).data.toList = l ++ [10] := by simp
    have e2 : (bA (l ++ [10])).size = l.length + 1 := by rw [size_bA]; simp
    simp only [srcA, e, e2]
    rfl
  have hnl : ((l ++ [10]).map aU).length = (l.length + 1) * 1 := by simp
  obtain ⟨i1, i2, i3⟩ := h
  rcases i3 with ⟨rfl, hi⟩ | ⟨j, w, hj, hi, ht⟩
  · simp (maxSteps:=999999) -implicitDefEqProofs (disch:=omega) only [push_cast,↓reduceIte,Nat.reduceEqDiff,reduceCtorEq,wz,hi,hadd]
    refine wpa_app_nil (m := l.length + 1) (news := (l ++ [10]).map aU) rfl (hsrc _) hnl (au_one _) (by omega) (by omega) ?_
    simp (maxSteps:=999999) -implicitDefEqProofs (disch:=omega) only [push_cast,↓reduceIte,Nat.reduceEqDiff,reduceCtorEq,wz]
    refine wpa_st1 rfl rfl (get_app hi) (by simp) ?_
    simp (maxSteps:=999999) -implicitDefEqProofs (disch:=omega) only [push_cast,↓reduceIte,Nat.reduceEqDiff,reduceCtorEq,wz]
    refine ⟨⟨i1, by simp; omega, .inr ⟨σ.length, 1, i2, ?_, get_set_ne (by have := lt_at hi; omega) (snoc_get _ _)⟩⟩, (stay_app i2 _).trans (stay_set (.inr rfl) _)⟩
    rw [get_set_eq (get_app hi)]
    simp
  · have hbl : (bs.map aU).length = bs.length * 1 := by simp
    simp (maxSteps:=999999) -implicitDefEqProofs (disch:=omega) only [push_cast,↓reduceIte,Nat.reduceEqDiff,reduceCtorEq,wz,hi,hadd]
    refine wpa_app (m := l.length + 1) (news := (l ++ [10]).map aU) rfl (hsrc _) hnl (au_one _) hbl (by omega) (by omega) ht ?_
    simp (maxSteps:=999999) -implicitDefEqProofs (disch:=omega) only [push_cast,↓reduceIte,Nat.reduceEqDiff,reduceCtorEq,wz]
    have hji : j ≠ i := by omega
    refine wpa_st1 rfl rfl (get_set_ne hji hi) (by simp) ?_
    simp (maxSteps:=999999) -implicitDefEqProofs (disch:=omega) only [push_cast,↓reduceIte,Nat.reduceEqDiff,reduceCtorEq,wz]
    refine ⟨⟨i1, by simp; omega, .inr ⟨j, w + 1, hj, ?_, get_set_ne (Ne.symm hji) (get_set_eq ht)⟩⟩, (stay_set (.inl hj) _).trans (stay_set (.inr rfl) _)⟩
    rw [get_set_eq (get_set_ne hji hi)]
    simp [Nat.add_assoc]
end Go.Proofs.YtjdpejggafefjaaDoor
/- asm.each, asm.Text. -/
namespace Go.Proofs.YtjdpejggafefjaaDoor
set_option linter.unusedVariables false
set_option linter.unusedSimpArgs false
open Go Go.Kx Go.Proofs

theorem linesT_snoc2 (ws : List (List UInt8)) (w : List UInt8) : linesT (ws ++ [w]) = linesT ws ++ w ++ [10] := by simp [linesT]
theorem linesT_app (ws vs : List (List UInt8)) : linesT (ws ++ vs) = linesT ws ++ linesT vs := by simp [linesT]
theorem TxAt.low {σ : Kx.St} {i n0 n1 : Nat} {bs : List UInt8} (h : TxAt σ i n0 bs) (hi : i < n1) (hn : n1 ≤ n0) : TxAt σ i n1 bs := by
  obtain ⟨h1, h2, h3⟩ := h
  refine ⟨hi, by omega, ?_⟩
  rcases h3 with h3 | ⟨j, w, a, b, c⟩
  · exact .inl h3
  · exact .inr ⟨j, w, by omega, b, c⟩
theorem StayB.low {σ τ : Kx.St} {i n0 n1 : Nat} (h : StayB σ τ i n0) (hn : n1 ≤ n0) : StayB σ τ i n1 := fun j h1 h2 => h j (by omega) h2
theorem each_fn : fnOk Tryd.prog 82 = true := by kernel_rfl
/-- The text is no longer than the whole. -/
theorem text_part {m : Int} {fs : List (List Ix)} (h : prgE m fs = 0) {k : Nat} {l : List Ix} (hl : fs[k]? = some l) (j : Nat) : (linesT (memL m :: linesF (fs.take k) ++ (funB :: (l.take j).map lineF))).length ≤ 50000 := by
  refine Nat.le_trans ?_ (text_len h)
  have e1 : linesF fs = linesF (fs.take k) ++ ((funB :: l.map lineF) ++ linesF (fs.drop (k + 1))) := by
    conv => lhs; rw [← List.take_append_drop k fs, drop_at hl]
    simp [linesF]
  have e2 : l.map lineF = (l.take j).map lineF ++ (l.drop j).map lineF := by rw [← List.map_append, List.take_append_drop]
  unfold linesP
  rw [e1, e2]
  simp only [linesT_app, List.cons_append, List.append_assoc, List.length_append, linesT, List.map_cons, List.flatten_cons, List.map_append, List.flatten_append, List.length_cons]
  omega
set_option maxHeartbeats 16000000 in
theorem asm_each_a {σ : Kx.St} {i : Nat} (m : Int) (fs : List (List Ix)) (hP : prgE m fs = 0) (hi : σ[i]? = some (.obj 0 [.sl 0 [] .nil])) :
    FnG Tryd.prog 81 [.agg (aPr m fs), .fn (.func 82) 0 [.ref i 0 0]] σ fun a σ' => a = .tup [] ∧ TxAt σ' i σ.length (linesT (linesP m fs)) ∧ StayB σ σ' i σ.length := by
  refine fnG_in K_asm_each mixed rfl ?_
  simp only [S_asm_each]
  obtain ⟨hm, hf16, hfl⟩ := prg_ins hP
  have hil := lt_at hi
  have hac : (AV.agg (aPr m fs)).cells = aPr m fs := rfl
  have p0 : (aPr m fs)[0]? = some (.v (.int .i64 m)) := rfl
  have p1 : (aPr m fs)[1]? = some (.sl fs.length (fs.map aIxs) .none) := rfl
  have hmI : I64 m := by unfold I64; omega
  have hml := (memL_ok hmI).2.1
  refine wpa_seqx (fun ε σ' => (ε 1 = .fn (.func 82) 0 [.ref i 0 0] ∧ ε 2 = .ref σ.length 0 0) ∧ σ' = σ ++ [.obj 0 (aPr m fs)]) ?_ ?_
  · intro N X R hN
    simp (maxSteps:=999999) -implicitDefEqProofs (disch:=omega) only [push_cast,↓reduceIte,Nat.reduceEqDiff,reduceCtorEq,wz]
    refine wpa_box ?_
    simp (maxSteps:=999999) -implicitDefEqProofs (disch:=omega) only [push_cast,↓reduceIte,Nat.reduceEqDiff,reduceCtorEq,wz,hac]
    exact hN _ _ ⟨by simp (maxSteps:=999999) -implicitDefEqProofs (disch:=omega) only [push_cast,↓reduceIte,Nat.reduceEqDiff,reduceCtorEq,wz], rfl⟩
  rintro ε σ' ⟨hρ, rfl⟩
  have hb := snoc_get σ (Res.obj 0 (aPr m fs))
  have hst : StayB σ (σ ++ [Res.obj 0 (aPr m fs)]) i σ.length := stay_app (Nat.le_refl _) _
  have htx : TxAt (σ ++ [Res.obj 0 (aPr m fs)]) i (σ.length + 1) [] := ⟨by omega, by simp, .inl ⟨rfl, get_app hi⟩⟩
  generalize σ ++ [Res.obj 0 (aPr m fs)] = S at hb hst htx
  generalize hn0 : σ.length = n0 at hρ hb hst htx hil ⊢
  have hbi : n0 ≠ i := by omega
  refine wpa_seqx (fun ε σ' => (ε 1 = .fn (.func 82) 0 [.ref i 0 0] ∧ ε 2 = .ref n0 0 0) ∧ σ'[n0]? = some (.obj 0 (aPr m fs)) ∧ TxAt σ' i (n0 + 1) (linesT [memL m]) ∧ StayB S σ' i (n0 + 1)) ?_ ?_
  · intro N X R hN
    simp (maxSteps:=999999) -implicitDefEqProofs (disch:=omega) only [push_cast,↓reduceIte,Nat.reduceEqDiff,reduceCtorEq,wz,hρ,hb,p0]
    refine wpa_call (Of_a m hmI.1 hmI.2) ?_
    rintro a rfl
    simp (maxSteps:=999999) -implicitDefEqProofs (disch:=omega) only [push_cast,↓reduceIte,Nat.reduceEqDiff,reduceCtorEq,wz,hρ]
    refine wpa_bsl (sz := 1) (by intro a ha; simp at ha; rcases ha with rfl | rfl <;> rfl) (by simp) ?_
    simp (maxSteps:=999999) -implicitDefEqProofs (disch:=omega) only [push_cast,↓reduceIte,Nat.reduceEqDiff,reduceCtorEq,wz,hρ]
    have hj : FnP Tryd.prog 49 [aSl aB [memB, Lib.itoa m]] fun a => a = aB (memL m) := by
      have h := Join_a [memB, Lib.itoa m] (by simp) (by rw [join_joinR]; unfold memL at hml; omega)
      rw [join_joinR] at h
      exact h
    refine wpa_callw [] [true] hj rfl ?_
    rintro a rfl
    simp (maxSteps:=999999) -implicitDefEqProofs (disch:=omega) only [push_cast,↓reduceIte,Nat.reduceEqDiff,reduceCtorEq,wz,hρ]
    refine wpa_callvG each_fn rfl (asm_Text1_a (memL m) htx (by simp) (by omega)) ?_
    rintro a σ' ⟨rfl, ht, hs⟩
    simp (maxSteps:=999999) -implicitDefEqProofs (disch:=omega) only [push_cast,↓reduceIte,Nat.reduceEqDiff,reduceCtorEq,wz,hρ]
    exact hN _ _ ⟨by simp (maxSteps:=999999) -implicitDefEqProofs (disch:=omega) only [push_cast,↓reduceIte,Nat.reduceEqDiff,reduceCtorEq,wz,hρ], (hs n0 (by omega) hbi).trans hb, by simpa [linesT] using ht, hs⟩
  clear hρ ε
  rintro ε σ' ⟨hρ, hb', htx', hs'⟩
  refine wpa_seqx (fun ε σ' => (ε 1 = .fn (.func 82) 0 [.ref i 0 0] ∧ ε 16 = .sl fs.length (fs.map aIxs) .none ∧ ε 17 = .v (.int .i64 fs.length) ∧ ε 18 = .v (.int .i64 0)) ∧ TxAt σ' i (n0 + 1) (linesT [memL m]) ∧ StayB S σ' i (n0 + 1)) ?_ ?_
  · intro N X R hN
    simp (maxSteps:=999999) -implicitDefEqProofs (disch:=omega) only [push_cast,↓reduceIte,Nat.reduceEqDiff,reduceCtorEq,wz,hρ,hb',p1]
    exact hN _ _ ⟨by simp (maxSteps:=999999) -implicitDefEqProofs (disch:=omega) only [push_cast,↓reduceIte,Nat.reduceEqDiff,reduceCtorEq,wz,hρ], htx', hs'⟩
  clear hρ hb' htx' hs' ε σ'
  rintro ε σ' ⟨hρ, htx', hs'⟩
  simp (maxSteps:=999999) -implicitDefEqProofs (disch:=omega) only [push_cast,↓reduceIte,Nat.reduceEqDiff,reduceCtorEq,wz,hρ]
  refine wpa_bl (α := Nat) (I := fun k ε σ => (ε 1 = .fn (.func 82) 0 [.ref i 0 0] ∧ ε 16 = .sl fs.length (fs.map aIxs) .none ∧ ε 17 = .v (.int .i64 fs.length) ∧ ε 18 = .v (.int .i64 k)) ∧ k ≤ fs.length ∧ TxAt σ i (n0 + 1) (linesT (memL m :: linesF (fs.take k))) ∧ StayB S σ i (n0 + 1))
    (μ := fun k => fs.length - k) (Q := fun ε σ => TxAt σ i (n0 + 1) (linesT (linesP m fs)) ∧ StayB S σ i (n0 + 1)) (x := 0) ?_ ?_ ?_
  · exact ⟨by simp (maxSteps:=999999) -implicitDefEqProofs (disch:=omega) only [push_cast,↓reduceIte,Nat.reduceEqDiff,reduceCtorEq,wz,hρ], by omega, htx', hs'⟩
  · clear hρ htx' hs' htx hb ε σ'
    rintro k ε σ' N E ⟨hρ, hk, htx, hs⟩ hN hE
    simp only [S_asm_each_L1]
    by_cases hlt : k < fs.length
    · obtain ⟨l, hl⟩ := at_lt hlt
      have hkl : (k : Int) < fs.length := by omega
      obtain ⟨hl200, hlx⟩ := hfl l (List.mem_of_getElem? hl)
      have hIL : aIxs l = .sl l.length (l.flatMap aIx) .none := rfl
      have htp := text_part hP hl
      have hbs : (linesT (memL m :: linesF (fs.take k))).length ≤ 50000 := by
        have := htp 0
        simp only [List.take_zero, List.map_nil, linesT_app, List.length_append] at this
        omega
      simp (maxSteps:=999999) -implicitDefEqProofs (disch:=omega) only [push_cast,↓reduceIte,Nat.reduceEqDiff,reduceCtorEq,wz,hρ,hkl,hl]
      have he : bA funB = ⟨#[102, 117, 110, 99, 116, 105, 111, 110]⟩ := rfl
      have hfun : FnG Tryd.prog 82 [.v (.string ⟨#[102, 117, 110, 99, 116, 105, 111, 110]⟩), .ref i 0 0] σ' fun a σ2 => a = .tup [] ∧ TxAt σ2 i (n0 + 1) (linesT (memL m :: linesF (fs.take k)) ++ funB ++ [10]) ∧ StayB σ' σ2 i (n0 + 1) := asm_Text1_a funB htx (by omega) (by decide)
      refine wpa_callvG each_fn rfl hfun ?_
      rintro a σ2 ⟨rfl, htx2, hs2⟩
      simp (maxSteps:=999999) -implicitDefEqProofs (disch:=omega) only [push_cast,↓reduceIte,Nat.reduceEqDiff,reduceCtorEq,wz,hρ,hIL]
      refine wpa_bl (α := Nat) (I := fun j ε σ => (ε 1 = .fn (.func 82) 0 [.ref i 0 0] ∧ ε 16 = .sl fs.length (fs.map aIxs) .none ∧ ε 17 = .v (.int .i64 fs.length) ∧ ε 18 = .v (.int .i64 k) ∧ ε 24 = .sl l.length (l.flatMap aIx) .none ∧ ε 25 = .v (.int .i64 l.length) ∧ ε 26 = .v (.int .i64 j)) ∧ j ≤ l.length ∧ TxAt σ i (n0 + 1) (linesT (memL m :: linesF (fs.take k) ++ (funB :: (l.take j).map lineF))) ∧ StayB S σ i (n0 + 1))
        (μ := fun j => l.length - j) (Q := fun ε σ => (ε 1 = .fn (.func 82) 0 [.ref i 0 0] ∧ ε 16 = .sl fs.length (fs.map aIxs) .none ∧ ε 17 = .v (.int .i64 fs.length) ∧ ε 18 = .v (.int .i64 k)) ∧ TxAt σ i (n0 + 1) (linesT (memL m :: linesF (fs.take (k + 1)))) ∧ StayB S σ i (n0 + 1)) (x := 0) ?_ ?_ ?_
      · refine ⟨by simp (maxSteps:=999999) -implicitDefEqProofs (disch:=omega) only [push_cast,↓reduceIte,Nat.reduceEqDiff,reduceCtorEq,wz,hρ], by omega, ?_, hs.trans hs2⟩
        have e : linesT (memL m :: linesF (fs.take k) ++ (funB :: (l.take 0).map lineF)) = linesT (memL m :: linesF (fs.take k)) ++ funB ++ [10] := by rw [linesT_app]; simp [linesT]
        rw [e]
        exact htx2
      · clear hρ htx htx2 hs hs2 hN hE hfun ε σ' σ2
        rintro j ε σ' N E ⟨hρ, hj, htx, hs⟩ hN hE
        simp only [S_asm_each_L2]
        by_cases hlj : j < l.length
        · obtain ⟨x, hx⟩ := at_lt hlj
          have hjl : (j : Int) < l.length := by omega
          have hd := flat_drop aIx_len hx
          have hxi := hlx x (List.mem_of_getElem? hx)
          have hxl := (lineF_ok hxi).2.1
          have htj := htp j
          simp (maxSteps:=999999) -implicitDefEqProofs (disch:=omega) only [push_cast,↓reduceIte,Nat.reduceEqDiff,reduceCtorEq,wz,hρ,hjl,hd,cellsIx]
          refine wpa_new ?_
          simp (maxSteps:=999999) -implicitDefEqProofs (disch:=omega) only [push_cast,↓reduceIte,Nat.reduceEqDiff,reduceCtorEq,wz,hρ]
          refine wpa_stn (cs := aIx ix0) rfl rfl (snoc_get _ _) (off := 0) (by decide) ?_
          have hS : (σ' ++ [Res.obj 0 [AV.v (.int .i64 0), AV.v (.int .i64 0), AV.v (.int .i64 0), AV.v (.int .i64 0)]]).set σ'.length (Res.obj 0 (setAtA (aIx ix0) 0 (aIx x))) = σ' ++ [Res.obj 0 (aIx x)] := by simp [ix_st, aIx, setAtA]
          rw [hS]
          have hx2 := snoc_get σ' (Res.obj 0 (aIx x))
          have htx2 := htx.app (Res.obj 0 (aIx x))
          have hs2 : StayB σ' (σ' ++ [Res.obj 0 (aIx x)]) i (n0 + 1) := stay_app htx.2.1 _
          generalize σ' ++ [Res.obj 0 (aIx x)] = S2 at hx2 htx2 hs2 ⊢
          generalize σ'.length = ix at hx2 ⊢
          simp (maxSteps:=999999) -implicitDefEqProofs (disch:=omega) only [push_cast,↓reduceIte,Nat.reduceEqDiff,reduceCtorEq,wz,hρ,hx2,cellsIx']
          refine wpa_call (asm_Line_a x) ?_
          rintro a rfl
          simp (maxSteps:=999999) -implicitDefEqProofs (disch:=omega) only [push_cast,↓reduceIte,Nat.reduceEqDiff,reduceCtorEq,wz,hρ]
          refine wpa_callvG each_fn rfl (asm_Text1_a (lineF x) htx2 (by omega) (by omega)) ?_
          rintro a σ3 ⟨rfl, htx3, hs3⟩
          simp (maxSteps:=999999) -implicitDefEqProofs (disch:=omega) only [push_cast,↓reduceIte,Nat.reduceEqDiff,reduceCtorEq,wz,hρ]
          refine hN (j + 1) _ _ ⟨by simp (maxSteps:=999999) -implicitDefEqProofs (disch:=omega) only [push_cast,↓reduceIte,Nat.reduceEqDiff,reduceCtorEq,wz,hρ], by omega, ?_, (hs.trans hs2).trans hs3⟩ (by omega)
          rw [take_succ_at hx, List.map_append, ← List.cons_append, ← List.append_assoc]
          simp only [List.map_cons, List.map_nil]
          rw [linesT_snoc2]
          exact htx3
        · have hle : ¬ (j : Int) < l.length := by omega
          simp (maxSteps:=999999) -implicitDefEqProofs (disch:=omega) only [push_cast,↓reduceIte,Nat.reduceEqDiff,reduceCtorEq,wz,hρ,hle]
          obtain rfl : j = l.length := by omega
          refine hE _ _ ⟨by simp (maxSteps:=999999) -implicitDefEqProofs (disch:=omega) only [push_cast,↓reduceIte,Nat.reduceEqDiff,reduceCtorEq,wz,hρ], ?_, hs⟩
          rw [List.take_length] at htx
          have e : linesF (fs.take (k + 1)) = linesF (fs.take k) ++ (funB :: l.map lineF) := by rw [take_succ_at hl]; simp [linesF]
          rw [e]
          exact htx
      · clear hρ htx htx2 hs hs2 hE hfun ε σ' σ2
        rintro ε σ' ⟨hρ, htx, hs⟩
        simp (maxSteps:=999999) -implicitDefEqProofs (disch:=omega) only [push_cast,↓reduceIte,Nat.reduceEqDiff,reduceCtorEq,wz,hρ]
        exact hN (k + 1) _ _ ⟨by simp (maxSteps:=999999) -implicitDefEqProofs (disch:=omega) only [push_cast,↓reduceIte,Nat.reduceEqDiff,reduceCtorEq,wz,hρ], by omega, htx, hs⟩ (by omega)
    · have hle : ¬ (k : Int) < fs.length := by omega
      simp (maxSteps:=999999) -implicitDefEqProofs (disch:=omega) only [push_cast,↓reduceIte,Nat.reduceEqDiff,reduceCtorEq,wz,hρ,hle]
      obtain rfl : k = fs.length := by omega
      rw [List.take_length] at htx
      exact hE _ _ ⟨htx, hs⟩
  · clear hρ htx' hs' ε σ'
    rintro ε σ' ⟨ht, hs⟩
    simp (maxSteps:=999999) -implicitDefEqProofs (disch:=omega) only [push_cast,↓reduceIte,Nat.reduceEqDiff,reduceCtorEq,wz]
    exact ⟨ht.low hil (by omega), hst.trans (hs.low (by omega))⟩
end Go.Proofs.YtjdpejggafefjaaDoor
/- Plain: more blanks, and lines without words, change nothing of what is read. -/
namespace Go.Proofs.YtjdpejggafefjaaDoor
set_option linter.unusedVariables false
set_option linter.unusedSimpArgs false
open Go Go.Kx Go.Proofs

def bl (n : Nat) : List UInt8 := List.replicate n 32
def lsB (g : List UInt8) (b : UInt8) : List UInt8 := if b = 32 then g ++ [32] else if b = 10 then g ++ [10] ++ g ++ [10] ++ g else [b]
def looseB (g : List UInt8) (s : List UInt8) : List UInt8 := s.flatMap (lsB g)
theorem bl_mem {n : Nat} : ∀ b ∈ bl n, b = 32 := fun b hb => (List.mem_replicate.1 hb).2
theorem bl_no {n : Nat} : ∀ b ∈ bl n, b ≠ 10 := fun b hb => by rw [bl_mem b hb]; decide
theorem wrds_bl (n : Nat) (cur x : List UInt8) : partsB 32 false cur (bl (n + 1) ++ x) = if cur = [] then partsB 32 false [] x else cur :: partsB 32 false [] x := by
  induction n generalizing cur with
  | zero =>
    show partsB 32 false cur (32 :: x) = _
    simp only [partsB, if_true]
    by_cases h : cur = [] <;> simp [h]
  | succ n ih =>
    have e : bl (n + 1 + 1) ++ x = 32 :: (bl (n + 1) ++ x) := rfl
    rw [e]
    simp only [partsB, if_true]
    rw [ih []]
    by_cases h : cur = [] <;> simp [h]
theorem wrds_lead (n : Nat) (x : List UInt8) : partsB 32 false [] (bl n ++ x) = partsB 32 false [] x := by
  cases n with
  | zero => rfl
  | succ n => rw [wrds_bl]; simp
theorem wrds_trail (n : Nat) (cur : List UInt8) : partsB 32 false cur (bl n) = partsB 32 false cur [] := by
  cases n with
  | zero => rfl
  | succ n =>
    have := wrds_bl n cur []
    rw [List.append_nil] at this
    rw [this]
    simp only [partsB]
    by_cases h : cur = [] <;> simp [h]
theorem wrds_loose (n : Nat) : ∀ (x cur y : List UInt8), (∀ b ∈ x, b ≠ 10) → partsB 32 false cur (looseB (bl n) x ++ y) = partsB 32 false cur (x ++ y) := by
  intro x
  induction x with
  | nil => intro cur y _; rfl
  | cons b x ih =>
    intro cur y h
    have hx := fun c hc => h c (List.mem_cons_of_mem _ hc)
    have e : looseB (bl n) (b :: x) = lsB (bl n) b ++ looseB (bl n) x := rfl
    rw [e]
    by_cases hb : b = 32
    · subst hb
      have e2 : lsB (bl n) 32 = bl (n + 1) := by
        unfold lsB bl
        rw [if_pos rfl, List.replicate_succ']
      rw [e2, List.append_assoc, wrds_bl, List.cons_append]
      simp only [partsB, if_true]
      rw [ih [] y hx]
      by_cases hc : cur = [] <;> simp [hc]
    · have e2 : lsB (bl n) b = [b] := by unfold lsB; rw [if_neg hb, if_neg (h b (by simp))]
      rw [e2]
      simp only [List.singleton_append, List.cons_append, partsB, if_neg hb]
      exact ih _ y hx
theorem wrds_all (m n : Nat) {x : List UInt8} (h : ∀ b ∈ x, b ≠ 10) : wrds (bl m ++ looseB (bl n) x ++ bl n) = wrds x := by
  show partsB 32 false [] _ = partsB 32 false [] x
  rw [List.append_assoc, wrds_lead, wrds_loose n x [] _ h]
  have key : ∀ (x cur : List UInt8), partsB 32 false cur (x ++ bl n) = partsB 32 false cur x := by
    intro x
    induction x with
    | nil => intro cur; exact wrds_trail n cur
    | cons b x ih =>
      intro cur
      simp only [List.cons_append, partsB, ih]
  exact key x []
theorem loose_no {n : Nat} {x : List UInt8} (h : ∀ b ∈ x, b ≠ 10) : ∀ b ∈ looseB (bl n) x, b ≠ 10 := by
  intro b hb
  obtain ⟨c, hc, hb⟩ := List.mem_flatMap.1 hb
  unfold lsB at hb
  split at hb
  · rcases List.mem_append.1 hb with hb | hb
    · exact bl_no b hb
    · rw [List.mem_singleton.1 hb]; decide
  · rw [if_neg (h c hc)] at hb
    rw [List.mem_singleton.1 hb]
    exact h c hc
theorem loose_len {n : Nat} (hn : n ≤ 3) {x : List UInt8} (h : ∀ b ∈ x, b ≠ 10) : (looseB (bl n) x).length ≤ 4 * x.length := by
  induction x with
  | nil => simp [looseB]
  | cons b x ih =>
    have h1 := ih fun c hc => h c (List.mem_cons_of_mem _ hc)
    have e : looseB (bl n) (b :: x) = lsB (bl n) b ++ looseB (bl n) x := rfl
    have h2 : (lsB (bl n) b).length ≤ 4 := by
      unfold lsB
      split
      · simp [bl]; omega
      · rw [if_neg (h b (by simp))]; simp
    rw [e, List.length_append, List.length_cons]
    omega
/-- The lines of the loosened text. -/
def looseL (n : Nat) : Nat → List (List UInt8) → List (List UInt8)
  | m, [] => if m = 0 then [] else [bl m]
  | m, l :: ls => (bl m ++ looseB (bl n) l ++ bl n) :: bl n :: looseL n n ls
theorem loose_lines (n : Nat) : ∀ (ls : List (List UInt8)) (m : Nat), (∀ l ∈ ls, ∀ b ∈ l, b ≠ 10) → partsB 10 true (bl m) (looseB (bl n) (linesT ls)) = looseL n m ls := by
  intro ls
  induction ls with
  | nil =>
    intro m _
    show partsB 10 true (bl m) [] = _
    simp only [partsB, looseL]
    cases m <;> simp [bl, List.replicate_succ]
  | cons l ls ih =>
    intro m h
    have hl := h l (by simp)
    have e : looseB (bl n) (linesT (l :: ls)) = (looseB (bl n) l ++ bl n) ++ (10 :: (bl n ++ (10 :: (bl n ++ looseB (bl n) (linesT ls))))) := by
      have e1 : linesT (l :: ls) = l ++ 10 :: linesT ls := by simp [linesT]
      rw [e1]
      unfold looseB
      rw [List.flatMap_append, List.flatMap_cons]
      have e2 : lsB (bl n) 10 = bl n ++ [10] ++ bl n ++ [10] ++ bl n := rfl
      rw [e2]
      simp
    have hno : ∀ b ∈ looseB (bl n) l ++ bl n, b ≠ 10 := fun b hb => (List.mem_append.1 hb).elim (loose_no hl b) (bl_no b)
    rw [e, partsB_skip _ _ _ hno]
    simp only [partsB, if_true]
    rw [if_pos (.inl trivial), partsB_skip _ _ _ bl_no, List.nil_append]
    simp only [partsB, if_true]
    rw [if_pos (.inl trivial), partsB_skip _ _ _ bl_no, List.nil_append, ih n fun k hk => h k (by simp [hk]), looseL, List.append_assoc]
theorem wrds_blank (n : Nat) : wrds (bl n) = [] := by
  show partsB 32 false [] (bl n) = []
  rw [wrds_trail]
  rfl
/-- The lines that have words. -/
def looseM (n : Nat) : Nat → List (List UInt8) → List (List UInt8)
  | _, [] => []
  | m, l :: ls => (bl m ++ looseB (bl n) l ++ bl n) :: looseM n n ls
theorem full_loose (n : Nat) : ∀ (ls : List (List UInt8)) (m : Nat), (∀ l ∈ ls, wrds l ≠ [] ∧ ∀ b ∈ l, b ≠ 10) → fullL (looseL n m ls) = looseM n m ls := by
  intro ls
  induction ls with
  | nil =>
    intro m _
    rw [looseL, looseM]
    split
    · rfl
    · unfold fullL; simp [wrds_blank]
  | cons l ls ih =>
    intro m h
    obtain ⟨h1, h2⟩ := h l (by simp)
    have hw := wrds_all m n h2
    rw [looseL, looseM, fullL_cons, fullL_cons, if_neg (by rw [hw]; exact h1), if_pos (wrds_blank n), ih n fun k hk => h k (by simp [hk])]
theorem addsF_congr : ∀ (ls ks : List (List UInt8)) (fs : List (List Ix)), ls.map (fun l => (wrds l, parseF l)) = ks.map (fun l => (wrds l, parseF l)) → addsF ls fs = addsF ks fs := by
  intro ls
  induction ls with
  | nil =>
    intro ks fs h
    cases ks with
    | nil => rfl
    | cons k ks => cases h
  | cons l ls ih =>
    intro ks fs h
    cases ks with
    | nil => cases h
    | cons k ks =>
      simp only [List.map_cons, List.cons.injEq, Prod.mk.injEq] at h
      obtain ⟨⟨h1, h2⟩, h3⟩ := h
      have e : addF l fs = addF k fs := by unfold addF; rw [h1, h2]
      rw [addsF, addsF, e]
      split
      · exact ih ks _ h3
      · rfl
theorem readL_congr {ls ks : List (List UInt8)} (h : ls.map (fun l => (wrds l, parseF l)) = ks.map (fun l => (wrds l, parseF l))) : readL ls = readL ks := by
  cases ls with
  | nil =>
    cases ks with
    | nil => rfl
    | cons k ks => cases h
  | cons l ls =>
    cases ks with
    | nil => cases h
    | cons k ks =>
      simp only [List.map_cons, List.cons.injEq, Prod.mk.injEq] at h
      obtain ⟨⟨h1, _⟩, h3⟩ := h
      rw [readL_cons, readL_cons, h1, addsF_congr ls ks [] h3]
theorem loose_map (n : Nat) (hn : n ≤ 3) : ∀ (ls : List (List UInt8)) (m : Nat), m ≤ 3 → (∀ l ∈ ls, l.length ≤ 40 ∧ ∀ b ∈ l, b ≠ 10) → (looseM n m ls).map (fun l => (wrds l, parseF l)) = ls.map (fun l => (wrds l, parseF l)) := by
  intro ls
  induction ls with
  | nil => intro m _ _; rfl
  | cons l ls ih =>
    intro m hm h
    obtain ⟨h1, h2⟩ := h l (by simp)
    have hw := wrds_all m n h2
    have hlen := loose_len hn h2
    have hp : parseF (bl m ++ looseB (bl n) l ++ bl n) = parseF l := by
      unfold parseF
      rw [if_neg, if_neg (by omega), hw]
      simp only [List.length_append, bl, List.length_replicate]
      simp only [bl] at hlen
      omega
    rw [looseM, List.map_cons, List.map_cons, hw, hp, ih n hn fun k hk => h k (by simp [hk])]
theorem loose_textlen (n : Nat) (hn : n ≤ 3) : ∀ (ls : List (List UInt8)), (∀ l ∈ ls, 3 ≤ l.length ∧ ∀ b ∈ l, b ≠ 10) → (looseB (bl n) (linesT ls)).length ≤ 6 * (linesT ls).length := by
  intro ls
  induction ls with
  | nil => intro _; simp [looseB, linesT]
  | cons l ls ih =>
    intro h
    obtain ⟨h1, h2⟩ := h l (by simp)
    have h3 := ih fun k hk => h k (by simp [hk])
    have hlen := loose_len hn h2
    have e1 : linesT (l :: ls) = l ++ 10 :: linesT ls := by simp [linesT]
    have e : looseB (bl n) (linesT (l :: ls)) = looseB (bl n) l ++ (bl n ++ [10] ++ bl n ++ [10] ++ bl n) ++ looseB (bl n) (linesT ls) := by
      rw [e1]
      unfold looseB
      rw [List.flatMap_append, List.flatMap_cons]
      have e2 : lsB (bl n) 10 = bl n ++ [10] ++ bl n ++ [10] ++ bl n := rfl
      rw [e2]
      simp
    have hbn : (bl n).length = n := by simp [bl]
    rw [e, e1]
    simp only [List.length_append, List.length_cons, List.length_nil, hbn]
    omega
theorem read_loose {m : Int} {fs : List (List Ix)} (h : prgE m fs = 0) (n : Nat) (hn : n ≤ 3) (hs : (linesT (linesP m fs)).length ≤ 6000) : readF (bl n ++ [10] ++ looseB (bl n) (linesT (linesP m fs))) = ((m, fs), 0) := by
  have hok := linesP_ok h
  have hlen := loose_textlen n hn (linesP m fs) fun l hl => ⟨(hok l hl).2.2.1, (hok l hl).2.2.2⟩
  have hbn : (bl n).length = n := by simp [bl]
  unfold readF
  rw [if_neg (by simp only [List.length_append, List.length_cons, List.length_nil, hbn]; omega)]
  have e : partsB 10 true [] (bl n ++ [10] ++ looseB (bl n) (linesT (linesP m fs))) = bl n :: looseL n 0 (linesP m fs) := by
    rw [List.append_assoc, partsB_skip _ _ _ bl_no, List.nil_append]
    simp only [List.singleton_append, partsB, if_true]
    rw [if_pos (.inl trivial)]
    have := loose_lines n (linesP m fs) 0 fun l hl => (hok l hl).2.2.2
    rw [show bl 0 = [] from rfl] at this
    rw [this]
  rw [e, fullL_cons, if_pos (wrds_blank n), full_loose n _ 0 fun l hl => ⟨(hok l hl).1, (hok l hl).2.2.2⟩,
    readL_congr (loose_map n hn _ 0 (by omega) fun l hl => ⟨(hok l hl).2.1, (hok l hl).2.2.2⟩), readL_back h]
end Go.Proofs.YtjdpejggafefjaaDoor
/- asm.Text, the document's Text; the walk of AsmTexts. -/
namespace Go.Proofs.YtjdpejggafefjaaDoor
set_option linter.unusedVariables false
set_option linter.unusedSimpArgs false
open Go Go.Kx Go.Proofs

abbrev aTx (p : List UInt8 × Int) : AV := .tup [aB p.1, aInt p.2]
set_option maxHeartbeats 8000000 in
theorem asm_Text_a (m : Int) (fs : List (List Ix)) (hf : okF fs) : FnP Tryd.prog 52 [.agg (aPr m fs)] fun a => a = aTx (textF m fs) := by
  refine fnP_in K_asm_Text mixed rfl (by simp [AV.pureL, AV.pure, aPr_pure]) ?_
  simp only [S_asm_Text]
  have hac : (AV.agg (aPr m fs)).cells = aPr m fs := rfl
  refine wpa_seqx (fun ε σ => ε 1 = .ref 0 0 0 ∧ σ = [.obj 0 (aPr m fs)]) ?_ ?_
  · intro N X R hN
    simp (maxSteps:=999999) -implicitDefEqProofs (disch:=omega) only [push_cast,↓reduceIte,Nat.reduceEqDiff,reduceCtorEq,wz]
    refine wpa_box ?_
    simp (maxSteps:=999999) -implicitDefEqProofs (disch:=omega) only [push_cast,↓reduceIte,Nat.reduceEqDiff,reduceCtorEq,wz,hac]
    exact hN _ _ (by simp (maxSteps:=999999) -implicitDefEqProofs (disch:=omega) only [push_cast,↓reduceIte,Nat.reduceEqDiff,reduceCtorEq,wz])
  rintro ε σ ⟨hρ, rfl⟩
  refine wpa_seq (fun ε σ => (ε 1 = .ref 0 0 0 ∧ σ = [.obj 0 (aPr m fs)]) ∧ prgE m fs = 0) ?_ ?_
  · intro N hN
    simp (maxSteps:=999999) -implicitDefEqProofs (disch:=omega) only [push_cast,↓reduceIte,Nat.reduceEqDiff,reduceCtorEq,wz,hρ,cellsPr2]
    refine wpa_call (prog_Check_a m fs hf) ?_
    rintro a rfl
    by_cases hP : prgE m fs = 0
    · simp (maxSteps:=999999) -implicitDefEqProofs (disch:=omega) only [push_cast,↓reduceIte,Nat.reduceEqDiff,reduceCtorEq,wz,hρ,aInt,hP]
      exact hN _ _ ⟨by simp (maxSteps:=999999) -implicitDefEqProofs (disch:=omega) only [push_cast,↓reduceIte,Nat.reduceEqDiff,reduceCtorEq,wz,hρ], hP⟩
    · unfold textF
      rw [if_neg hP]
      simp (maxSteps:=999999) -implicitDefEqProofs (disch:=omega) only [push_cast,↓reduceIte,Nat.reduceEqDiff,reduceCtorEq,wz,hρ,aInt,hP]
      exact ⟨[], rfl, rfl⟩
  clear hρ ε
  rintro ε σ ⟨⟨hρ, rfl⟩, hP⟩
  have htl := text_len hP
  unfold textF
  rw [if_pos hP]
  refine wpa_seqx (fun ε σ => (ε 1 = .ref 0 0 0 ∧ ε 5 = .ref 1 0 0) ∧ σ = [.obj 0 (aPr m fs), .obj 0 [.sl 0 [] .nil]]) ?_ ?_
  · intro N X R hN
    simp (maxSteps:=999999) -implicitDefEqProofs (disch:=omega) only [push_cast,↓reduceIte,Nat.reduceEqDiff,reduceCtorEq,wz,hρ]
    refine wpa_new ?_
    simp (maxSteps:=999999) -implicitDefEqProofs (disch:=omega) only [push_cast,↓reduceIte,Nat.reduceEqDiff,reduceCtorEq,wz]
    exact hN _ _ ⟨by simp (maxSteps:=999999) -implicitDefEqProofs (disch:=omega) only [push_cast,↓reduceIte,Nat.reduceEqDiff,reduceCtorEq,wz,hρ], rfl⟩
  clear hρ ε
  rintro ε σ ⟨hρ, rfl⟩
  refine wpa_seqx (fun ε σ => ε 5 = .ref 1 0 0 ∧ TxAt σ 1 2 (linesT (linesP m fs))) ?_ ?_
  · intro N X R hN
    simp (maxSteps:=999999) -implicitDefEqProofs (disch:=omega) only [push_cast,↓reduceIte,Nat.reduceEqDiff,reduceCtorEq,wz,hρ,cellsPr2]
    refine wpa_callG (asm_each_a m fs hP rfl) ?_
    rintro a σ' ⟨rfl, ht, _⟩
    simp (maxSteps:=999999) -implicitDefEqProofs (disch:=omega) only [push_cast,↓reduceIte,Nat.reduceEqDiff,reduceCtorEq,wz,hρ]
    exact hN _ _ ⟨by simp (maxSteps:=999999) -implicitDefEqProofs (disch:=omega) only [push_cast,↓reduceIte,Nat.reduceEqDiff,reduceCtorEq,wz,hρ], ht⟩
  clear hρ ε
  generalize linesT (linesP m fs) = bs at htl
  rintro ε σ ⟨hρ, h1, h2, h3⟩
  rcases h3 with ⟨rfl, hi⟩ | ⟨j, w, hj, hi, ht⟩
  · simp (maxSteps:=999999) -implicitDefEqProofs (disch:=omega) only [push_cast,↓reduceIte,Nat.reduceEqDiff,reduceCtorEq,wz,hρ,hi]
    refine wpa_b2s (n := 0) (bs := []) rfl rfl rfl ?_
    simp (maxSteps:=999999) -implicitDefEqProofs (disch:=omega) only [push_cast,↓reduceIte,Nat.reduceEqDiff,reduceCtorEq,wz]
    exact ⟨[], rfl, rfl⟩
  · simp (maxSteps:=999999) -implicitDefEqProofs (disch:=omega) only [push_cast,↓reduceIte,Nat.reduceEqDiff,reduceCtorEq,wz,hρ,hi]
    refine wpa_b2s (n := bs.length) (bs := bs) rfl rfl rfl ?_
    simp (maxSteps:=999999) -implicitDefEqProofs (disch:=omega) only [push_cast,↓reduceIte,Nat.reduceEqDiff,reduceCtorEq,wz]
    exact ⟨[], rfl, rfl⟩
theorem memL_eq (m : Int) : memB ++ [32] ++ Lib.itoa m = memL m := by simp [memL, joinR]
set_option maxHeartbeats 8000000 in
theorem ref06_Text_a (m : Int) (fs : List (List Ix)) (hf : okF fs) : FnP Tryd.prog 54 [.agg (aPr m fs)] fun a => a = aTx (textF m fs) := by
  refine fnP_in K_forebayref06_Text mixed rfl (by simp [AV.pureL, AV.pure, aPr_pure]) ?_
  simp only [S_forebayref06_Text]
  have hac : (AV.agg (aPr m fs)).cells = aPr m fs := rfl
  have p0 : (aPr m fs)[0]? = some (.v (.int .i64 m)) := rfl
  have p1 : (aPr m fs)[1]? = some (.sl fs.length (fs.map aIxs) .none) := rfl
  refine wpa_seqx (fun ε σ => ε 1 = .ref 0 0 0 ∧ σ = [.obj 0 (aPr m fs)]) ?_ ?_
  · intro N X R hN
    simp (maxSteps:=999999) -implicitDefEqProofs (disch:=omega) only [push_cast,↓reduceIte,Nat.reduceEqDiff,reduceCtorEq,wz]
    refine wpa_box ?_
    simp (maxSteps:=999999) -implicitDefEqProofs (disch:=omega) only [push_cast,↓reduceIte,Nat.reduceEqDiff,reduceCtorEq,wz,hac]
    exact hN _ _ (by simp (maxSteps:=999999) -implicitDefEqProofs (disch:=omega) only [push_cast,↓reduceIte,Nat.reduceEqDiff,reduceCtorEq,wz])
  rintro ε σ ⟨hρ, rfl⟩
  refine wpa_seqx (fun ε σ => (ε 1 = .ref 0 0 0 ∧ ε 4 = .v (.int .i64 (prgE m fs))) ∧ σ = [.obj 0 (aPr m fs)]) ?_ ?_
  · intro N X R hN
    simp (maxSteps:=999999) -implicitDefEqProofs (disch:=omega) only [push_cast,↓reduceIte,Nat.reduceEqDiff,reduceCtorEq,wz,hρ,cellsPr2]
    refine wpa_call (ref04_Check_a m fs hf) ?_
    rintro a rfl
    simp (maxSteps:=999999) -implicitDefEqProofs (disch:=omega) only [push_cast,↓reduceIte,Nat.reduceEqDiff,reduceCtorEq,wz,hρ,aInt]
    exact hN _ _ ⟨by simp (maxSteps:=999999) -implicitDefEqProofs (disch:=omega) only [push_cast,↓reduceIte,Nat.reduceEqDiff,reduceCtorEq,wz,hρ], rfl⟩
  clear hρ ε
  rintro ε σ ⟨hρ, rfl⟩
  unfold textF
  by_cases hP : prgE m fs = 0
  · rw [if_pos hP]
    obtain ⟨hm, hf16, hfl⟩ := prg_ins hP
    have hmI : I64 m := by unfold I64; omega
    have hml := memL_ok hmI
    refine wpa_seqx (fun ε σ => ε 1 = .ref 0 0 0 ∧ σ = [.obj 0 (aPr m fs)]) ?_ ?_
    · intro N X R hN
      simp (maxSteps:=999999) -implicitDefEqProofs (disch:=omega) only [push_cast,↓reduceIte,Nat.reduceEqDiff,reduceCtorEq,wz,hρ,hP]
      exact hN _ _ (by simp (maxSteps:=999999) -implicitDefEqProofs (disch:=omega) only [push_cast,↓reduceIte,Nat.reduceEqDiff,reduceCtorEq,wz,hρ])
    clear hρ ε
    rintro ε σ ⟨hρ, rfl⟩
    refine wpa_seqx (fun ε σ => (ε 1 = .ref 0 0 0 ∧ ε 5 = aB (linesT [memL m])) ∧ σ = [.obj 0 (aPr m fs)]) ?_ ?_
    · intro N X R hN
      have hil := Lib.itoa_length_le m hmI.1 hmI.2
      have ha1 : PF.val (.bin .add) [.string ⟨#[109, 101, 109, 111, 114, 121, 32]⟩, .string (bA (Lib.itoa m))] = some (.string (bA (memL m))) := by
        have := add_bA (memB ++ [32]) (Lib.itoa m) (by simp [memB]; omega)
        rw [memL_eq] at this
        exact this
      have ha2 := add_bA (memL m) [10] (by have := hml.2.1; simp; omega)
      simp (maxSteps:=999999) -implicitDefEqProofs (disch:=omega) only [push_cast,↓reduceIte,Nat.reduceEqDiff,reduceCtorEq,wz,hρ,p0]
      refine wpa_call (ref05_Of_a m hmI.1 hmI.2) ?_
      rintro a rfl
      simp (maxSteps:=999999) -implicitDefEqProofs (disch:=omega) only [push_cast,↓reduceIte,Nat.reduceEqDiff,reduceCtorEq,wz,hρ,ha1,ha2]
      exact hN _ _ ⟨by simp (maxSteps:=999999) -implicitDefEqProofs (disch:=omega) only [push_cast,↓reduceIte,Nat.reduceEqDiff,reduceCtorEq,wz,hρ]; simp [linesT], rfl⟩
    clear hρ ε
    rintro ε σ ⟨hρ, rfl⟩
    refine wpa_seqx (fun ε σ => ε 5 = aB (linesT (linesP m fs))) ?_ ?_
    · intro N X R hN
      simp (maxSteps:=999999) -implicitDefEqProofs (disch:=omega) only [push_cast,↓reduceIte,Nat.reduceEqDiff,reduceCtorEq,wz,hρ]
      refine wpa_blx (α := Nat) (I := fun k ε σ => (ε 1 = .ref 0 0 0 ∧ ε 5 = aB (linesT (memL m :: linesF (fs.take k))) ∧ ε 6 = .v (.int .i64 k)) ∧ k ≤ fs.length ∧ σ = [.obj 0 (aPr m fs)])
        (μ := fun k => fs.length - k) (Q := fun ε σ => ε 5 = aB (linesT (linesP m fs))) (x := 0) ?_ ?_ hN
      · exact ⟨by simp (maxSteps:=999999) -implicitDefEqProofs (disch:=omega) only [push_cast,↓reduceIte,Nat.reduceEqDiff,reduceCtorEq,wz,hρ]; rfl, by omega, rfl⟩
      · clear hN N X R hρ ε
        rintro k ε σ N E X R ⟨hρ, hk, rfl⟩ hN hE
        simp only [S_forebayref06_Text_L1]
        by_cases hlt : k < fs.length
        · obtain ⟨l, hl⟩ := at_lt hlt
          have hkl : (k : Int) < fs.length := by omega
          obtain ⟨hl200, hlx⟩ := hfl l (List.mem_of_getElem? hl)
          have hIL : aIxs l = .sl l.length (l.flatMap aIx) .none := rfl
          have htp := text_part hP hl
          have hbs : (linesT (memL m :: linesF (fs.take k))).length ≤ 50000 := by
            have := htp 0
            simp only [List.take_zero, List.map_nil, linesT_app, List.length_append] at this
            omega
          have ha3 : PF.val (.bin .add) [.string (bA (linesT (memL m :: linesF (fs.take k)))), .string ⟨#[102, 117, 110, 99, 116, 105, 111, 110, 10]⟩] = some (.string (bA (linesT (memL m :: linesF (fs.take k)) ++ (funB ++ [10])))) := add_bA _ (funB ++ [10]) (by simp [funB]; omega)
          simp (maxSteps:=999999) -implicitDefEqProofs (disch:=omega) only [push_cast,↓reduceIte,Nat.reduceEqDiff,reduceCtorEq,wz,hρ,p1,hkl,ha3]
          refine wpa_blx (α := Nat) (I := fun j ε σ => (ε 1 = .ref 0 0 0 ∧ ε 5 = aB (linesT (memL m :: linesF (fs.take k) ++ (funB :: (l.take j).map lineF))) ∧ ε 6 = .v (.int .i64 k) ∧ ε 7 = .v (.int .i64 j)) ∧ j ≤ l.length ∧ σ = [.obj 0 (aPr m fs)])
            (μ := fun j => l.length - j) (Q := fun ε σ => (ε 1 = .ref 0 0 0 ∧ ε 5 = aB (linesT (memL m :: linesF (fs.take (k + 1)))) ∧ ε 6 = .v (.int .i64 k)) ∧ σ = [.obj 0 (aPr m fs)]) (x := 0) ?_ ?_ ?_
          · refine ⟨by simp (maxSteps:=999999) -implicitDefEqProofs (disch:=omega) only [push_cast,↓reduceIte,Nat.reduceEqDiff,reduceCtorEq,wz,hρ]; simp [linesT], by omega, rfl⟩
          · clear hρ hN hE N E X R ε
            rintro j ε σ N E X R ⟨hρ, hj, rfl⟩ hN hE
            simp only [S_forebayref06_Text_L2]
            by_cases hlj : j < l.length
            · obtain ⟨x, hx⟩ := at_lt hlj
              have hjl : (j : Int) < l.length := by omega
              have hd := flat_drop aIx_len hx
              have hxi := hlx x (List.mem_of_getElem? hx)
              have hxl := (lineF_ok hxi).2.1
              have htj := htp j
              have hnx : memL m :: linesF (fs.take k) ++ (funB :: (l.take (j + 1)).map lineF) = (memL m :: linesF (fs.take k) ++ (funB :: (l.take j).map lineF)) ++ [lineF x] := by rw [take_succ_at hx]; simp
              have hsn := linesT_snoc2 (memL m :: linesF (fs.take k) ++ (funB :: (l.take j).map lineF)) (lineF x)
              rw [← hnx] at hsn
              generalize linesT (memL m :: linesF (fs.take k) ++ (funB :: (l.take j).map lineF)) = T at hρ htj hsn
              have ha4 := add_bA T (lineF x) (by omega)
              have ha5 := add_bA (T ++ lineF x) [10] (by simp; omega)
              simp (maxSteps:=999999) -implicitDefEqProofs (disch:=omega) only [push_cast,↓reduceIte,Nat.reduceEqDiff,reduceCtorEq,wz,hρ,p1,hl,hIL,hjl,hd,cellsIx]
              refine wpa_call (ref06_Line_a x) ?_
              rintro a rfl
              simp (maxSteps:=999999) -implicitDefEqProofs (disch:=omega) only [push_cast,↓reduceIte,Nat.reduceEqDiff,reduceCtorEq,wz,hρ,ha4,ha5]
              have hsn' : T ++ lineF x ++ [10] = linesT (memL m :: (linesF (fs.take k) ++ (funB :: (l.take (j + 1)).map lineF))) := hsn.symm
              exact hN (j + 1) _ _ ⟨by simp (maxSteps:=999999) -implicitDefEqProofs (disch:=omega) only [push_cast,↓reduceIte,Nat.reduceEqDiff,reduceCtorEq,wz,hρ]; rw [hsn'], by omega, rfl⟩ (by omega)
            · have hle : ¬ (j : Int) < l.length := by omega
              simp (maxSteps:=999999) -implicitDefEqProofs (disch:=omega) only [push_cast,↓reduceIte,Nat.reduceEqDiff,reduceCtorEq,wz,hρ,p1,hl,hIL,hle]
              obtain rfl : j = l.length := by omega
              refine hE _ _ ⟨?_, rfl⟩
              rw [List.take_length] at hρ
              have e : linesF (fs.take (k + 1)) = linesF (fs.take k) ++ (funB :: l.map lineF) := by rw [take_succ_at hl]; simp [linesF]
              rw [e]
              simp (maxSteps:=999999) -implicitDefEqProofs (disch:=omega) only [push_cast,↓reduceIte,Nat.reduceEqDiff,reduceCtorEq,wz,hρ]
          · clear hρ hE ε
            rintro ε σ ⟨hρ, rfl⟩
            simp (maxSteps:=999999) -implicitDefEqProofs (disch:=omega) only [push_cast,↓reduceIte,Nat.reduceEqDiff,reduceCtorEq,wz,hρ]
            exact hN (k + 1) _ _ ⟨by simp (maxSteps:=999999) -implicitDefEqProofs (disch:=omega) only [push_cast,↓reduceIte,Nat.reduceEqDiff,reduceCtorEq,wz,hρ], by omega, rfl⟩ (by omega)
        · have hle : ¬ (k : Int) < fs.length := by omega
          simp (maxSteps:=999999) -implicitDefEqProofs (disch:=omega) only [push_cast,↓reduceIte,Nat.reduceEqDiff,reduceCtorEq,wz,hρ,p1,hle]
          obtain rfl : k = fs.length := by omega
          rw [List.take_length] at hρ
          refine hE _ _ ?_
          unfold linesP
          simp (maxSteps:=999999) -implicitDefEqProofs (disch:=omega) only [push_cast,↓reduceIte,Nat.reduceEqDiff,reduceCtorEq,wz,hρ]
    clear hρ ε
    rintro ε σ h5
    simp (maxSteps:=999999) -implicitDefEqProofs (disch:=omega) only [push_cast,↓reduceIte,Nat.reduceEqDiff,reduceCtorEq,wz,h5]
    exact ⟨[], rfl, rfl⟩
  · rw [if_neg hP]
    refine wpa_seq (fun ε σ => False) ?_ (fun _ _ h => h.elim)
    intro N hN
    simp (maxSteps:=999999) -implicitDefEqProofs (disch:=omega) only [push_cast,↓reduceIte,Nat.reduceEqDiff,reduceCtorEq,wz,hρ,hP]
    exact ⟨[], rfl, rfl⟩

set_option maxHeartbeats 8000000 in
theorem AsmTexts_a (m : Int) (fs : List (List Ix)) (hl : fs.length ≤ 9223372036854775807) : FnP Tryd.prog 12 [.agg (aPr m fs)] fun a => a = aBool true := by
  refine fnP_in K_forebaylaw06_AsmTexts mixed rfl (by simp [AV.pureL, AV.pure, aPr_pure]) ?_
  simp only [S_forebaylaw06_AsmTexts]
  have hac : (AV.agg (aPr m fs)).cells = aPr m fs := rfl
  refine wpa_seqx (fun ε σ => ε 1 = .ref 0 0 0 ∧ σ = [.obj 0 (aPr m fs)]) ?_ ?_
  · intro N X R hN
    simp (maxSteps:=999999) -implicitDefEqProofs (disch:=omega) only [push_cast,↓reduceIte,Nat.reduceEqDiff,reduceCtorEq,wz]
    refine wpa_box ?_
    simp (maxSteps:=999999) -implicitDefEqProofs (disch:=omega) only [push_cast,↓reduceIte,Nat.reduceEqDiff,reduceCtorEq,wz,hac]
    exact hN _ _ (by simp (maxSteps:=999999) -implicitDefEqProofs (disch:=omega) only [push_cast,↓reduceIte,Nat.reduceEqDiff,reduceCtorEq,wz])
  rintro ε σ ⟨hρ, rfl⟩
  refine wpa_seqx (fun ε σ => ε 1 = .ref 0 0 0 ∧ σ = [.obj 0 (aPr m fs)]) ?_ ?_
  · intro N X R hN
    simp (maxSteps:=999999) -implicitDefEqProofs (disch:=omega) only [push_cast,↓reduceIte,Nat.reduceEqDiff,reduceCtorEq,wz,hρ]
    refine wpa_call law06_works_a ?_
    rintro a rfl
    simp (maxSteps:=999999) -implicitDefEqProofs (disch:=omega) only [push_cast,↓reduceIte,Nat.reduceEqDiff,reduceCtorEq,wz,hρ,aBool]
    exact hN _ _ (by simp (maxSteps:=999999) -implicitDefEqProofs (disch:=omega) only [push_cast,↓reduceIte,Nat.reduceEqDiff,reduceCtorEq,wz,hρ])
  clear hρ ε
  rintro ε σ ⟨hρ, rfl⟩
  refine wpa_seq (fun ε σ => (ε 1 = .ref 0 0 0 ∧ σ = [.obj 0 (aPr m fs)]) ∧ okS fs) ?_ ?_
  · intro N hN
    simp (maxSteps:=999999) -implicitDefEqProofs (disch:=omega) only [push_cast,↓reduceIte,Nat.reduceEqDiff,reduceCtorEq,wz,hρ,cellsPr2]
    refine wpa_call (law04_Great_a m fs hl) ?_
    rintro a ⟨b, rfl, hb⟩
    cases b with
    | true =>
      simp (maxSteps:=999999) -implicitDefEqProofs (disch:=omega) only [push_cast,↓reduceIte,Nat.reduceEqDiff,reduceCtorEq,wz,hρ,aBool]
      exact ⟨[], rfl⟩
    | false =>
      simp (maxSteps:=999999) -implicitDefEqProofs (disch:=omega) only [push_cast,↓reduceIte,Nat.reduceEqDiff,reduceCtorEq,wz,hρ,aBool]
      exact hN _ _ ⟨by simp (maxSteps:=999999) -implicitDefEqProofs (disch:=omega) only [push_cast,↓reduceIte,Nat.reduceEqDiff,reduceCtorEq,wz,hρ], hb rfl⟩
  clear hρ ε
  rintro ε σ ⟨⟨hρ, rfl⟩, hS⟩
  have hf := hS.ok
  have h1 := asm_Text_a m fs hf
  have h2 := ref06_Text_a m fs hf
  have hrd : (textF m fs).1.length ≤ 50000 ∧ ((textF m fs).2 = 0 → readF (textF m fs).1 = ((m, fs), 0)) := by
    unfold textF
    split
    · rename_i hP
      exact ⟨text_len hP, fun _ => read_text hP⟩
    · rename_i hP
      exact ⟨by simp, fun h => absurd h hP⟩
  have h3 := asm_Read_a (textF m fs).1 (by omega)
  obtain ⟨hrl, hrd⟩ := hrd
  generalize textF m fs = p at h1 h2 h3 hrd hrl
  generalize readF p.1 = q at h3 hrd
  refine wpa_seqx (fun ε σ => (ε 1 = .ref 0 0 0 ∧ ε 3 = aB p.1 ∧ ε 4 = .v (.int .i64 p.2)) ∧ σ = [.obj 0 (aPr m fs)]) ?_ ?_
  · intro N X R hN
    simp (maxSteps:=999999) -implicitDefEqProofs (disch:=omega) only [push_cast,↓reduceIte,Nat.reduceEqDiff,reduceCtorEq,wz,hρ,cellsPr2]
    refine wpa_call (law04_Own_a m fs hf) ?_
    rintro a rfl
    simp (maxSteps:=999999) -implicitDefEqProofs (disch:=omega) only [push_cast,↓reduceIte,Nat.reduceEqDiff,reduceCtorEq,wz,hρ]
    refine wpa_call h1 ?_
    rintro a rfl
    simp (maxSteps:=999999) -implicitDefEqProofs (disch:=omega) only [push_cast,↓reduceIte,Nat.reduceEqDiff,reduceCtorEq,wz,hρ,aInt]
    exact hN _ _ ⟨by simp (maxSteps:=999999) -implicitDefEqProofs (disch:=omega) only [push_cast,↓reduceIte,Nat.reduceEqDiff,reduceCtorEq,wz,hρ], rfl⟩
  clear hρ ε
  rintro ε σ ⟨hρ, rfl⟩
  refine wpa_seqx (fun ε σ => (ε 1 = .ref 0 0 0 ∧ ε 3 = aB p.1 ∧ ε 4 = .v (.int .i64 p.2) ∧ ε 5 = aB p.1 ∧ ε 6 = .v (.int .i64 p.2)) ∧ σ = [.obj 0 (aPr m fs)]) ?_ ?_
  · intro N X R hN
    simp (maxSteps:=999999) -implicitDefEqProofs (disch:=omega) only [push_cast,↓reduceIte,Nat.reduceEqDiff,reduceCtorEq,wz,hρ,cellsPr2]
    refine wpa_call h2 ?_
    rintro a rfl
    simp (maxSteps:=999999) -implicitDefEqProofs (disch:=omega) only [push_cast,↓reduceIte,Nat.reduceEqDiff,reduceCtorEq,wz,hρ,aInt]
    exact hN _ _ ⟨by simp (maxSteps:=999999) -implicitDefEqProofs (disch:=omega) only [push_cast,↓reduceIte,Nat.reduceEqDiff,reduceCtorEq,wz,hρ], rfl⟩
  clear hρ ε
  rintro ε σ ⟨hρ, rfl⟩
  refine wpa_seqx (fun ε σ => (ε 1 = .ref 0 0 0 ∧ ε 3 = aB p.1 ∧ ε 4 = .v (.int .i64 p.2) ∧ ε 5 = aB p.1 ∧ ε 6 = .v (.int .i64 p.2) ∧ ε 7 = .ref 1 0 0 ∧ ε 8 = .v (.int .i64 q.2)) ∧ σ = [.obj 0 (aPr m fs), .obj 0 (aPr q.1.1 q.1.2)]) ?_ ?_
  · intro N X R hN
    simp (maxSteps:=999999) -implicitDefEqProofs (disch:=omega) only [push_cast,↓reduceIte,Nat.reduceEqDiff,reduceCtorEq,wz,hρ]
    refine wpa_call h3 ?_
    rintro a rfl
    simp (maxSteps:=999999) -implicitDefEqProofs (disch:=omega) only [push_cast,↓reduceIte,Nat.reduceEqDiff,reduceCtorEq,wz,hρ,aInt]
    refine wpa_new ?_
    simp (maxSteps:=999999) -implicitDefEqProofs (disch:=omega) only [push_cast,↓reduceIte,Nat.reduceEqDiff,reduceCtorEq,wz]
    refine wpa_stn (cs := pr0) (l := aPr q.1.1 q.1.2) rfl (aPr_one _ _) rfl (by decide) ?_
    simp (maxSteps:=999999) -implicitDefEqProofs (disch:=omega) only [push_cast,↓reduceIte,Nat.reduceEqDiff,reduceCtorEq,wz]
    exact hN _ _ ⟨by simp (maxSteps:=999999) -implicitDefEqProofs (disch:=omega) only [push_cast,↓reduceIte,Nat.reduceEqDiff,reduceCtorEq,wz,hρ], rfl⟩
  clear hρ ε
  rintro ε σ ⟨hρ, rfl⟩
  by_cases hp : p.2 = 0
  · have hq := hrd hp
    subst hq
    simp (maxSteps:=999999) -implicitDefEqProofs (disch:=omega) only [push_cast,↓reduceIte,Nat.reduceEqDiff,reduceCtorEq,wz,hρ,hp,cellsPr2]
    refine wpa_call (ref04_Same_a m fs hf) ?_
    rintro a rfl
    simp (maxSteps:=999999) -implicitDefEqProofs (disch:=omega) only [push_cast,↓reduceIte,Nat.reduceEqDiff,reduceCtorEq,wz,hρ,aBool]
    first | exact ⟨[], rfl⟩ | exact ⟨[], rfl, rfl⟩
  · simp (maxSteps:=999999) -implicitDefEqProofs (disch:=omega) only [push_cast,↓reduceIte,Nat.reduceEqDiff,reduceCtorEq,wz,hρ,hp]
    first | exact ⟨[], rfl⟩ | exact ⟨[], rfl, rfl⟩
end Go.Proofs.YtjdpejggafefjaaDoor
/- The walk of AsmLoose. -/
namespace Go.Proofs.YtjdpejggafefjaaDoor
set_option linter.unusedVariables false
set_option linter.unusedSimpArgs false
open Go Go.Kx Go.Proofs

theorem bl_succ (n : Nat) : bl (n + 1) = bl n ++ [32] := by unfold bl; rw [List.replicate_succ']
theorem bl_len (n : Nat) : (bl n).length = n := by simp [bl]
theorem loose_take {g s : List UInt8} {k : Nat} {b : UInt8} (h : s[k]? = some b) : looseB g (s.take (k + 1)) = looseB g (s.take k) ++ lsB g b := by
  unfold looseB
  rw [take_succ_at h, List.flatMap_append]
  simp
theorem loose_bd {n : Nat} (hn : n ≤ 3) (s : List UInt8) : (looseB (bl n) s).length ≤ 11 * s.length := by
  induction s with
  | nil => simp [looseB]
  | cons b s ih =>
    have e : looseB (bl n) (b :: s) = lsB (bl n) b ++ looseB (bl n) s := rfl
    have h2 : (lsB (bl n) b).length ≤ 11 := by
      unfold lsB
      split
      · simp [bl]; omega
      · split
        · simp [bl]; omega
        · simp
    rw [e, List.length_append, List.length_cons]
    omega
set_option maxHeartbeats 16000000 in
theorem AsmLoose_a (m : Int) (fs : List (List Ix)) (v : Int) (hl : fs.length ≤ 9223372036854775807) (hv : 0 ≤ v ∧ v < 256) : FnP Tryd.prog 13 [.agg (aPr m fs), .v (.int .u8 v)] fun a => a = aBool true := by
  refine fnP_in K_forebaylaw06_AsmLoose mixed rfl (by simp [AV.pureL, AV.pure, aPr_pure]) ?_
  simp only [S_forebaylaw06_AsmLoose]
  have hac : (AV.agg (aPr m fs)).cells = aPr m fs := rfl
  refine wpa_seqx (fun ε σ => (ε 1 = .v (.int .u8 v) ∧ ε 2 = .ref 0 0 0) ∧ σ = [.obj 0 (aPr m fs)]) ?_ ?_
  · intro N X R hN
    simp (maxSteps:=999999) -implicitDefEqProofs (disch:=omega) only [push_cast,↓reduceIte,Nat.reduceEqDiff,reduceCtorEq,wz]
    refine wpa_box ?_
    simp (maxSteps:=999999) -implicitDefEqProofs (disch:=omega) only [push_cast,↓reduceIte,Nat.reduceEqDiff,reduceCtorEq,wz,hac]
    exact hN _ _ (by simp (maxSteps:=999999) -implicitDefEqProofs (disch:=omega) only [push_cast,↓reduceIte,Nat.reduceEqDiff,reduceCtorEq,wz])
  rintro ε σ ⟨hρ, rfl⟩
  refine wpa_seqx (fun ε σ => (ε 1 = .v (.int .u8 v) ∧ ε 2 = .ref 0 0 0) ∧ σ = [.obj 0 (aPr m fs)]) ?_ ?_
  · intro N X R hN
    simp (maxSteps:=999999) -implicitDefEqProofs (disch:=omega) only [push_cast,↓reduceIte,Nat.reduceEqDiff,reduceCtorEq,wz,hρ]
    refine wpa_call law06_works_a ?_
    rintro a rfl
    simp (maxSteps:=999999) -implicitDefEqProofs (disch:=omega) only [push_cast,↓reduceIte,Nat.reduceEqDiff,reduceCtorEq,wz,hρ,aBool]
    exact hN _ _ (by simp (maxSteps:=999999) -implicitDefEqProofs (disch:=omega) only [push_cast,↓reduceIte,Nat.reduceEqDiff,reduceCtorEq,wz,hρ])
  clear hρ ε
  rintro ε σ ⟨hρ, rfl⟩
  refine wpa_seq (fun ε σ => ((ε 1 = .v (.int .u8 v) ∧ ε 2 = .ref 0 0 0) ∧ σ = [.obj 0 (aPr m fs)]) ∧ okS fs) ?_ ?_
  · intro N hN
    simp (maxSteps:=999999) -implicitDefEqProofs (disch:=omega) only [push_cast,↓reduceIte,Nat.reduceEqDiff,reduceCtorEq,wz,hρ,cellsPr2]
    refine wpa_call (law04_Great_a m fs hl) ?_
    rintro a ⟨b, rfl, hb⟩
    cases b with
    | true =>
      simp (maxSteps:=999999) -implicitDefEqProofs (disch:=omega) only [push_cast,↓reduceIte,Nat.reduceEqDiff,reduceCtorEq,wz,hρ,aBool]
      first | exact ⟨[], rfl⟩ | exact ⟨[], rfl, rfl⟩
    | false =>
      simp (maxSteps:=999999) -implicitDefEqProofs (disch:=omega) only [push_cast,↓reduceIte,Nat.reduceEqDiff,reduceCtorEq,wz,hρ,aBool]
      exact hN _ _ ⟨by simp (maxSteps:=999999) -implicitDefEqProofs (disch:=omega) only [push_cast,↓reduceIte,Nat.reduceEqDiff,reduceCtorEq,wz,hρ], hb rfl⟩
  clear hρ ε
  rintro ε σ ⟨⟨hρ, rfl⟩, hS⟩
  have hf := hS.ok
  have h1 := asm_Text_a m fs hf
  have hrd : (textF m fs).1.length ≤ 50000 ∧ ((textF m fs).2 = 0 → prgE m fs = 0 ∧ (textF m fs).1 = linesT (linesP m fs)) := by
    unfold textF
    split
    · rename_i hP
      exact ⟨text_len hP, fun _ => ⟨hP, rfl⟩⟩
    · rename_i hP
      exact ⟨by simp, fun h => absurd h hP⟩
  obtain ⟨hrl, hrd⟩ := hrd
  generalize textF m fs = p at h1 hrl hrd
  refine wpa_seqx (fun ε σ => (ε 1 = .v (.int .u8 v) ∧ ε 2 = .ref 0 0 0 ∧ ε 5 = aB p.1 ∧ ε 6 = .v (.int .i64 p.2)) ∧ σ = [.obj 0 (aPr m fs)]) ?_ ?_
  · intro N X R hN
    simp (maxSteps:=999999) -implicitDefEqProofs (disch:=omega) only [push_cast,↓reduceIte,Nat.reduceEqDiff,reduceCtorEq,wz,hρ,cellsPr2]
    refine wpa_call (law04_Own_a m fs hf) ?_
    rintro a rfl
    simp (maxSteps:=999999) -implicitDefEqProofs (disch:=omega) only [push_cast,↓reduceIte,Nat.reduceEqDiff,reduceCtorEq,wz,hρ]
    refine wpa_call h1 ?_
    rintro a rfl
    simp (maxSteps:=999999) -implicitDefEqProofs (disch:=omega) only [push_cast,↓reduceIte,Nat.reduceEqDiff,reduceCtorEq,wz,hρ,aInt]
    exact hN _ _ ⟨by simp (maxSteps:=999999) -implicitDefEqProofs (disch:=omega) only [push_cast,↓reduceIte,Nat.reduceEqDiff,reduceCtorEq,wz,hρ], rfl⟩
  clear hρ ε
  rintro ε σ ⟨hρ, rfl⟩
  refine wpa_seq (fun ε σ => ((ε 1 = .v (.int .u8 v) ∧ ε 2 = .ref 0 0 0 ∧ ε 5 = aB p.1) ∧ σ = [.obj 0 (aPr m fs)]) ∧ p.2 = 0 ∧ p.1.length ≤ 6000) ?_ ?_
  · intro N hN
    by_cases hp : p.2 = 0
    · by_cases hg : 6000 < p.1.length
      · have hgt : (6000 : Int) < (bA p.1).size := by rw [size_bA]; omega
        simp (maxSteps:=999999) -implicitDefEqProofs (disch:=omega) only [push_cast,↓reduceIte,Nat.reduceEqDiff,reduceCtorEq,wz,hρ,hp,hgt]
        first | exact ⟨[], rfl⟩ | exact ⟨[], rfl, rfl⟩
      · have hgt : ¬ (6000 : Int) < (bA p.1).size := by rw [size_bA]; omega
        simp (maxSteps:=999999) -implicitDefEqProofs (disch:=omega) only [push_cast,↓reduceIte,Nat.reduceEqDiff,reduceCtorEq,wz,hρ,hp,hgt]
        exact hN _ _ ⟨⟨by simp (maxSteps:=999999) -implicitDefEqProofs (disch:=omega) only [push_cast,↓reduceIte,Nat.reduceEqDiff,reduceCtorEq,wz,hρ], rfl⟩, hp, by omega⟩
    · simp (maxSteps:=999999) -implicitDefEqProofs (disch:=omega) only [push_cast,↓reduceIte,Nat.reduceEqDiff,reduceCtorEq,wz,hρ,hp]
      first | exact ⟨[], rfl⟩ | exact ⟨[], rfl, rfl⟩
  clear hρ ε
  rintro ε σ ⟨⟨hρ, rfl⟩, hp, hp6⟩
  obtain ⟨hP, hpt⟩ := hrd hp
  have hn4 : v.toNat % 4 ≤ 3 := by omega
  have hrl2 := read_loose hP (v.toNat % 4) hn4 (by rw [← hpt]; exact hp6)
  rw [← hpt] at hrl2
  generalize p.1 = s at hρ hp6 hrl2
  have hwv : IntKind.i64.wrap v = v := wrap_in v (by omega) (by omega)
  have hrem : PF.val (.bin .rem) [.int .i64 v, .int .i64 4] = some (.int .i64 ((v.toNat % 4 : Nat) : Int)) := by
    rw [v_rem _ _ _ (by decide), Int.tmod_eq_emod_of_nonneg hv.1]
    congr 2
    omega
  generalize hnn : v.toNat % 4 = n at hn4 hrl2 hrem
  refine wpa_seqx (fun ε σ => (ε 1 = .v (.int .u8 v) ∧ ε 2 = .ref 0 0 0 ∧ ε 5 = aB s ∧ ε 7 = aB (bl 0)) ∧ σ = [.obj 0 (aPr m fs)]) ?_ ?_
  · intro N X R hN
    simp (maxSteps:=999999) -implicitDefEqProofs (disch:=omega) only [push_cast,↓reduceIte,Nat.reduceEqDiff,reduceCtorEq,wz,hρ]
    exact hN _ _ ⟨by simp (maxSteps:=999999) -implicitDefEqProofs (disch:=omega) only [push_cast,↓reduceIte,Nat.reduceEqDiff,reduceCtorEq,wz,hρ]; rfl, rfl⟩
  clear hρ ε
  rintro ε σ ⟨hρ, rfl⟩
  refine wpa_seqx (fun ε σ => (ε 2 = .ref 0 0 0 ∧ ε 5 = aB s ∧ ε 7 = aB (bl n)) ∧ σ = [.obj 0 (aPr m fs)]) ?_ ?_
  · intro N X R hN
    simp (maxSteps:=999999) -implicitDefEqProofs (disch:=omega) only [push_cast,↓reduceIte,Nat.reduceEqDiff,reduceCtorEq,wz,hρ]
    refine wpa_blx (α := Nat) (I := fun k ε σ => (ε 1 = .v (.int .u8 v) ∧ ε 2 = .ref 0 0 0 ∧ ε 5 = aB s ∧ ε 7 = aB (bl k) ∧ ε 8 = .v (.int .i64 k)) ∧ k ≤ n ∧ σ = [.obj 0 (aPr m fs)])
      (μ := fun k => n - k) (Q := fun ε σ => (ε 2 = .ref 0 0 0 ∧ ε 5 = aB s ∧ ε 7 = aB (bl n)) ∧ σ = [.obj 0 (aPr m fs)]) (x := 0) ?_ ?_ hN
    · exact ⟨by simp (maxSteps:=999999) -implicitDefEqProofs (disch:=omega) only [push_cast,↓reduceIte,Nat.reduceEqDiff,reduceCtorEq,wz,hρ], by omega, rfl⟩
    · clear hN N X R hρ ε
      rintro k ε σ N E X R ⟨hρ, hk, rfl⟩ hN hE
      simp only [S_forebaylaw06_AsmLoose_L1]
      by_cases hlt : k < n
      · have hkl : (k : Int) < n := by omega
        have hadd := add_bA (bl k) [32] (by rw [bl_len]; simp; omega)
        simp (maxSteps:=999999) -implicitDefEqProofs (disch:=omega) only [push_cast,↓reduceIte,Nat.reduceEqDiff,reduceCtorEq,wz,hρ,hwv,hrem,hkl,hadd]
        exact hN (k + 1) _ _ ⟨by simp (maxSteps:=999999) -implicitDefEqProofs (disch:=omega) only [push_cast,↓reduceIte,Nat.reduceEqDiff,reduceCtorEq,wz,hρ]; rw [bl_succ], by omega, rfl⟩ (by omega)
      · have hle : ¬ (k : Int) < n := by omega
        obtain rfl : k = n := by omega
        simp (maxSteps:=999999) -implicitDefEqProofs (disch:=omega) only [push_cast,↓reduceIte,Nat.reduceEqDiff,reduceCtorEq,wz,hρ,hwv,hrem,hle]
        exact hE _ _ ⟨by simp (maxSteps:=999999) -implicitDefEqProofs (disch:=omega) only [push_cast,↓reduceIte,Nat.reduceEqDiff,reduceCtorEq,wz,hρ], rfl⟩
  clear hρ ε
  rintro ε σ ⟨hρ, rfl⟩
  have hbn := bl_len n
  refine wpa_seqx (fun ε σ => (ε 2 = .ref 0 0 0 ∧ ε 5 = aB s ∧ ε 7 = aB (bl n) ∧ ε 9 = aB (bl n ++ [10])) ∧ σ = [.obj 0 (aPr m fs)]) ?_ ?_
  · intro N X R hN
    have hadd := add_bA (bl n) [10] (by rw [bl_len]; simp; omega)
    simp (maxSteps:=999999) -implicitDefEqProofs (disch:=omega) only [push_cast,↓reduceIte,Nat.reduceEqDiff,reduceCtorEq,wz,hρ,hadd]
    exact hN _ _ ⟨by simp (maxSteps:=999999) -implicitDefEqProofs (disch:=omega) only [push_cast,↓reduceIte,Nat.reduceEqDiff,reduceCtorEq,wz,hρ], rfl⟩
  clear hρ ε
  rintro ε σ ⟨hρ, rfl⟩
  have hlb := loose_bd hn4 s
  refine wpa_seqx (fun ε σ => (ε 2 = .ref 0 0 0 ∧ ε 9 = aB (bl n ++ [10] ++ looseB (bl n) s)) ∧ σ = [.obj 0 (aPr m fs)]) ?_ ?_
  · intro N X R hN
    simp (maxSteps:=999999) -implicitDefEqProofs (disch:=omega) only [push_cast,↓reduceIte,Nat.reduceEqDiff,reduceCtorEq,wz,hρ]
    refine wpa_blx (α := Nat) (I := fun k ε σ => (ε 2 = .ref 0 0 0 ∧ ε 5 = aB s ∧ ε 7 = aB (bl n) ∧ ε 9 = aB (bl n ++ [10] ++ looseB (bl n) (s.take k)) ∧ ε 10 = .v (.int .i64 k)) ∧ k ≤ s.length ∧ σ = [.obj 0 (aPr m fs)])
      (μ := fun k => s.length - k) (Q := fun ε σ => (ε 2 = .ref 0 0 0 ∧ ε 9 = aB (bl n ++ [10] ++ looseB (bl n) s)) ∧ σ = [.obj 0 (aPr m fs)]) (x := 0) ?_ ?_ hN
    · exact ⟨by simp (maxSteps:=999999) -implicitDefEqProofs (disch:=omega) only [push_cast,↓reduceIte,Nat.reduceEqDiff,reduceCtorEq,wz,hρ]; simp [looseB], by omega, rfl⟩
    · clear hN N X R hρ ε
      rintro k ε σ N E X R ⟨hρ, hk, rfl⟩ hN hE
      simp only [S_forebaylaw06_AsmLoose_L2]
      by_cases hlt : k < s.length
      · obtain ⟨b, hb⟩ := at_lt hlt
        have hkl : (k : Int) < (bA s).size := by rw [size_bA]; omega
        have hkl2 : (k : Int) + 1 ≤ (bA s).size := by rw [size_bA]; omega
        have hix : PF.val .ixs [.string (bA s), .int .i64 k] = some (.int .u8 b.toNat) := pv_str_ix (by omega) (by simpa using hb)
        have hex : (bA s).extract k (k + 1) = bA [b] := str_one (by simpa using hb)
        have hlt2 := loose_take (g := bl n) hb
        have hTl : (bl n ++ [10] ++ looseB (bl n) (s.take k)).length ≤ 70000 := by
          have := loose_bd hn4 (s.take k)
          rw [List.length_take] at this
          simp only [List.length_append, List.length_cons, List.length_nil, hbn]
          omega
        have hnx : bl n ++ [10] ++ looseB (bl n) (s.take (k + 1)) = bl n ++ [10] ++ looseB (bl n) (s.take k) ++ lsB (bl n) b := by rw [hlt2]; simp only [List.append_assoc]
        generalize bl n ++ [10] ++ looseB (bl n) (s.take k) = T at hρ hTl hnx
        have a1 := add_bA T (bl n) (by omega)
        have a2 := add_bA (T ++ bl n) [32] (by simp [hbn]; omega)
        have a3 := add_bA (T ++ bl n) [10] (by simp [hbn]; omega)
        have a4 := add_bA (T ++ bl n ++ [10]) (bl n) (by simp [hbn]; omega)
        have a5 := add_bA (T ++ bl n ++ [10] ++ bl n) [10] (by simp [hbn]; omega)
        have a6 := add_bA (T ++ bl n ++ [10] ++ bl n ++ [10]) (bl n) (by simp [hbn]; omega)
        have a7 := add_bA T [b] (by simp; omega)
        by_cases h32 : b = 32
        · subst h32
          have hn32 : ((((32 : UInt8).toNat : Nat) : Int) = 32) := rfl
          rw [show lsB (bl n) 32 = bl n ++ [32] from rfl, ← List.append_assoc] at hnx
          simp (maxSteps:=999999) -implicitDefEqProofs (disch:=omega) only [push_cast,↓reduceIte,Nat.reduceEqDiff,reduceCtorEq,wz,hρ,hkl,hix,hn32,a1,a2]
          exact hN (k + 1) _ _ ⟨by simp (maxSteps:=999999) -implicitDefEqProofs (disch:=omega) only [push_cast,↓reduceIte,Nat.reduceEqDiff,reduceCtorEq,wz,hρ]; rw [hnx], by omega, rfl⟩ (by omega)
        · have hn32 : ¬ ((b.toNat : Int) = 32) := fun e => h32 (UInt8.toNat_inj.1 (by rw [show (32 : UInt8).toNat = 32 from rfl]; omega))
          by_cases h10 : b = 10
          · subst h10
            have hn10 : ((((10 : UInt8).toNat : Nat) : Int) = 10) := rfl
            rw [show lsB (bl n) 10 = bl n ++ [10] ++ bl n ++ [10] ++ bl n from rfl] at hnx
            simp only [← List.append_assoc] at hnx
            simp (maxSteps:=999999) -implicitDefEqProofs (disch:=omega) only [push_cast,↓reduceIte,Nat.reduceEqDiff,reduceCtorEq,wz,hρ,hkl,hix,hn32,hn10,a1,a3,a4,a5,a6]
            exact hN (k + 1) _ _ ⟨by simp (maxSteps:=999999) -implicitDefEqProofs (disch:=omega) only [push_cast,↓reduceIte,Nat.reduceEqDiff,reduceCtorEq,wz,hρ]; rw [hnx], by omega, rfl⟩ (by omega)
          · have hn10 : ¬ ((b.toNat : Int) = 10) := fun e => h10 (UInt8.toNat_inj.1 (by rw [show (10 : UInt8).toNat = 10 from rfl]; omega))
            rw [show lsB (bl n) b = [b] by unfold lsB; rw [if_neg h32, if_neg h10]] at hnx
            simp (maxSteps:=999999) -implicitDefEqProofs (disch:=omega) only [push_cast,↓reduceIte,Nat.reduceEqDiff,reduceCtorEq,wz,hρ,hkl,hkl2,hix,hn32,hn10,hex,a7]
            exact hN (k + 1) _ _ ⟨by simp (maxSteps:=999999) -implicitDefEqProofs (disch:=omega) only [push_cast,↓reduceIte,Nat.reduceEqDiff,reduceCtorEq,wz,hρ]; rw [hnx], by omega, rfl⟩ (by omega)
      · have hle : ¬ (k : Int) < (bA s).size := by rw [size_bA]; omega
        simp (maxSteps:=999999) -implicitDefEqProofs (disch:=omega) only [push_cast,↓reduceIte,Nat.reduceEqDiff,reduceCtorEq,wz,hρ,hle]
        obtain rfl : k = s.length := by omega
        rw [List.take_length] at hρ
        exact hE _ _ ⟨by simp (maxSteps:=999999) -implicitDefEqProofs (disch:=omega) only [push_cast,↓reduceIte,Nat.reduceEqDiff,reduceCtorEq,wz,hρ], rfl⟩
  clear hρ ε
  rintro ε σ ⟨hρ, rfl⟩
  have h3 := asm_Read_a (bl n ++ [10] ++ looseB (bl n) s) (by simp only [List.length_append, List.length_cons, List.length_nil, hbn]; omega)
  rw [hrl2] at h3
  generalize bl n ++ [10] ++ looseB (bl n) s = T at hρ h3
  refine wpa_seqx (fun ε σ => (ε 2 = .ref 0 0 0 ∧ ε 11 = .ref 1 0 0 ∧ ε 12 = .v (.int .i64 0)) ∧ σ = [.obj 0 (aPr m fs), .obj 0 (aPr m fs)]) ?_ ?_
  · intro N X R hN
    simp (maxSteps:=999999) -implicitDefEqProofs (disch:=omega) only [push_cast,↓reduceIte,Nat.reduceEqDiff,reduceCtorEq,wz,hρ]
    refine wpa_call h3 ?_
    rintro a rfl
    simp (maxSteps:=999999) -implicitDefEqProofs (disch:=omega) only [push_cast,↓reduceIte,Nat.reduceEqDiff,reduceCtorEq,wz,hρ,aInt]
    refine wpa_new ?_
    simp (maxSteps:=999999) -implicitDefEqProofs (disch:=omega) only [push_cast,↓reduceIte,Nat.reduceEqDiff,reduceCtorEq,wz]
    refine wpa_stn (cs := pr0) (l := aPr m fs) rfl (aPr_one _ _) rfl (by decide) ?_
    simp (maxSteps:=999999) -implicitDefEqProofs (disch:=omega) only [push_cast,↓reduceIte,Nat.reduceEqDiff,reduceCtorEq,wz]
    exact hN _ _ ⟨by simp (maxSteps:=999999) -implicitDefEqProofs (disch:=omega) only [push_cast,↓reduceIte,Nat.reduceEqDiff,reduceCtorEq,wz,hρ], rfl⟩
  clear hρ ε
  rintro ε σ ⟨hρ, rfl⟩
  simp (maxSteps:=999999) -implicitDefEqProofs (disch:=omega) only [push_cast,↓reduceIte,Nat.reduceEqDiff,reduceCtorEq,wz,hρ,cellsPr2]
  refine wpa_call (ref04_Same_a m fs hf) ?_
  rintro a rfl
  simp (maxSteps:=999999) -implicitDefEqProofs (disch:=omega) only [push_cast,↓reduceIte,Nat.reduceEqDiff,reduceCtorEq,wz,hρ,aBool]
  first | exact ⟨[], rfl⟩ | exact ⟨[], rfl, rfl⟩
end Go.Proofs.YtjdpejggafefjaaDoor
namespace Go.Proofs.YtjdpejggafefjaaDoor
set_option linter.unusedVariables false
set_option linter.unusedSimpArgs false
open Go Go.Kx Go.Proofs
theorem wf_u8 {x : Int} (h : (Lit.int .u8 x).wf = true) : 0 ≤ x ∧ x < 256 := by
  have h1 : IntKind.u8.min = 0 := by decide
  have h2 : IntKind.u8.max = 255 := by decide
  simp [Lit.wf, h1, h2] at h
  omega
theorem AsmTexts_p (x : Int × List (List Ix)) (h : x.2.length ≤ 9223372036854775807) : FnP Tryd.prog 12 [.agg (aPr x.1 x.2)] fun a => a = aBool true := AsmTexts_a x.1 x.2 h
theorem AsmLoose_p (x : Int × List (List Ix)) (v : Int) (h : x.2.length ≤ 9223372036854775807) (hv : 0 ≤ v ∧ v < 256) : FnP Tryd.prog 13 [.agg (aPr x.1 x.2), .v (.int .u8 v)] fun a => a = aBool true := AsmLoose_a x.1 x.2 v h hv
end Go.Proofs.YtjdpejggafefjaaDoor
