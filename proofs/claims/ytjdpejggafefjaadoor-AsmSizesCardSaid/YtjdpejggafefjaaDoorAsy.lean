/- The statements on programs in writing; shapes (Asl, Asm). -/
import Derived.Test.YtjdpejggafefjaaDoorAsz
/- The statements on instructions and programs in writing: works; the walks of AsmLines, AsmReads. -/
namespace Go.Proofs.YtjdpejggafefjaaDoor
set_option linter.unusedVariables false
set_option linter.unusedSimpArgs false
open Go Go.Kx Go.Proofs

theorem str_bA (s : ByteArray) : ∃ l, s = bA l := ⟨s.data.toList, by cases s; simp⟩
def wX : Ix := ⟨1, 2, -1, 0⟩
def wP : List (List Ix) := [[⟨17, 1, 0, 0⟩, ⟨0, 0, 0, 0⟩]]
theorem wX_line : lineF wX = [115, 101, 116, 32, 50, 32, 45, 49] := by decide +kernel
theorem wX_ok : insE wX = 0 := by decide +kernel
theorem wP_ok : prgE 3 wP = 0 := by decide +kernel
theorem wP_text : linesT (linesP 3 wP) = [109, 101, 109, 111, 114, 121, 32, 51, 10, 102, 117, 110, 99, 116, 105, 111, 110, 10, 101, 109, 105, 116, 32, 49, 10, 114, 101, 116, 10] := by decide +kernel
set_option maxHeartbeats 8000000 in
theorem law06_works_a : FnP Tryd.prog 38 [] fun a => a = aBool true := by
  refine fnP_in K_forebaylaw06_works mixed rfl rfl ?_
  simp only [S_forebaylaw06_works]
  have h1 : FnP Tryd.prog 39 [.v (.string ⟨#[115, 101, 116, 32, 50, 32, 45, 49]⟩)] fun a => a = aPx (wX, 0) := by
    have h := asm_Parse_a (lineF wX) (by rw [wX_line]; decide)
    rw [parse_line wX_ok, wX_line] at h
    exact h
  have h2 : FnP Tryd.prog 43 [.v (.string ⟨#[109, 101, 109, 111, 114, 121, 32, 51, 10, 102, 117, 110, 99, 116, 105, 111, 110, 10, 101, 109, 105, 116, 32, 49, 10, 114, 101, 116, 10]⟩)] fun a => a = aRd ((3, wP), 0) := by
    have h := asm_Read_a (linesT (linesP 3 wP)) (by rw [wP_text]; decide)
    rw [read_text wP_ok, wP_text] at h
    exact h
  have h3 : FnP Tryd.prog 41 [.agg (aIx wX)] fun a => a = .v (.string ⟨#[115, 101, 116, 32, 50, 32, 45, 49]⟩) := by
    have h := asm_Line_a wX
    rw [wX_line] at h
    exact h
  have hP1 : aPr 3 wP = [.v (.int .i64 3), .sl 1 [.sl 2 (aIx ⟨17, 1, 0, 0⟩ ++ aIx ⟨0, 0, 0, 0⟩) .none] .none] := rfl
  refine wpa_seqx (fun ε σ => True ∧ σ = []) (fun N X' R' hN => by simp (maxSteps:=999999) -implicitDefEqProofs (disch:=omega) only [push_cast,↓reduceIte,Nat.reduceEqDiff,reduceCtorEq,wz]; exact hN _ _ ⟨trivial, rfl⟩) ?_
  rintro ε σ ⟨-, rfl⟩
  refine wpa_seqx (fun ε σ => (ε 1 = .ref 0 0 0 ∧ ε 2 = .v (.int .i64 0)) ∧ σ = [.obj 0 (aIx wX)]) ?_ ?_
  · intro N X R hN
    simp (maxSteps:=999999) -implicitDefEqProofs (disch:=omega) only [push_cast,↓reduceIte,Nat.reduceEqDiff,reduceCtorEq,wz]
    refine wpa_call h1 ?_
    rintro a rfl
    simp (maxSteps:=999999) -implicitDefEqProofs (disch:=omega) only [push_cast,↓reduceIte,Nat.reduceEqDiff,reduceCtorEq,wz,aInt]
    refine wpa_new ?_
    simp (maxSteps:=999999) -implicitDefEqProofs (disch:=omega) only [push_cast,↓reduceIte,Nat.reduceEqDiff,reduceCtorEq,wz]
    refine wpa_stn (cs := aIx ix0) (l := aIx wX) rfl rfl rfl (by decide) ?_
    simp (maxSteps:=999999) -implicitDefEqProofs (disch:=omega) only [push_cast,↓reduceIte,Nat.reduceEqDiff,reduceCtorEq,wz]
    exact hN _ _ ⟨by simp (maxSteps:=999999) -implicitDefEqProofs (disch:=omega) only [push_cast,↓reduceIte,Nat.reduceEqDiff,reduceCtorEq,wz], rfl⟩
  clear ε
  rintro ε σ ⟨hρ, rfl⟩
  refine wpa_seqx (fun ε σ => (ε 1 = .ref 0 0 0 ∧ ε 2 = .v (.int .i64 0) ∧ ε 3 = .ref 1 0 0 ∧ ε 4 = .v (.int .i64 0)) ∧ σ = [.obj 0 (aIx wX), .obj 0 (aPr 3 wP)]) ?_ ?_
  · intro N X R hN
    simp (maxSteps:=999999) -implicitDefEqProofs (disch:=omega) only [push_cast,↓reduceIte,Nat.reduceEqDiff,reduceCtorEq,wz,hρ]
    refine wpa_call h2 ?_
    rintro a rfl
    simp (maxSteps:=999999) -implicitDefEqProofs (disch:=omega) only [push_cast,↓reduceIte,Nat.reduceEqDiff,reduceCtorEq,wz,aInt]
    refine wpa_new ?_
    simp (maxSteps:=999999) -implicitDefEqProofs (disch:=omega) only [push_cast,↓reduceIte,Nat.reduceEqDiff,reduceCtorEq,wz]
    refine wpa_stn (cs := pr0) (l := aPr 3 wP) rfl rfl rfl (by decide) ?_
    simp (maxSteps:=999999) -implicitDefEqProofs (disch:=omega) only [push_cast,↓reduceIte,Nat.reduceEqDiff,reduceCtorEq,wz]
    exact hN _ _ ⟨by simp (maxSteps:=999999) -implicitDefEqProofs (disch:=omega) only [push_cast,↓reduceIte,Nat.reduceEqDiff,reduceCtorEq,wz,hρ], rfl⟩
  clear hρ ε
  rintro ε σ ⟨hρ, rfl⟩
  have hb : fillA [AV.v (.int .i64 0), AV.v (.int .i64 0), AV.v (.int .i64 0), AV.v (.int .i64 0)] [(0, 1), (1, 1), (2, 1)] [AV.v (.int .i64 1), AV.v (.int .i64 2), AV.v (.int .i64 (-1))] = some (aIx wX) := rfl
  have hq := eqsIx false wX wX
  have hpr0 : (aPr 3 wP)[0]? = some (.v (.int .i64 3)) := rfl
  have hpr1 : (aPr 3 wP)[1]? = some (.sl 1 [.sl 2 (aIx ⟨17, 1, 0, 0⟩ ++ aIx ⟨0, 0, 0, 0⟩) .none] .none) := rfl
  have hw0 : ([.sl 2 (aIx ⟨17, 1, 0, 0⟩ ++ aIx ⟨0, 0, 0, 0⟩) .none] : List AV)[Int.toNat 0]? = some (.sl 2 (aIx ⟨17, 1, 0, 0⟩ ++ aIx ⟨0, 0, 0, 0⟩) .none) := rfl
  rw [show (false != decide (wX = wX)) = true by simp] at hq
  simp (maxSteps:=999999) -implicitDefEqProofs (disch:=omega) only [push_cast,↓reduceIte,Nat.reduceEqDiff,reduceCtorEq,wz,hρ,cellsIx',hb,hq]
  refine wpa_call h3 ?_
  rintro a rfl
  simp (maxSteps:=999999) -implicitDefEqProofs (disch:=omega) only [push_cast,↓reduceIte,Nat.reduceEqDiff,reduceCtorEq,wz,hρ,hpr0,hpr1,hw0]
  exact ⟨[], rfl, rfl⟩

set_option maxHeartbeats 8000000 in
theorem AsmLines_a (x : Ix) (s : ByteArray) : FnP Tryd.prog 8 [.agg (aIx x), aS s] fun a => a = aBool true := by
  obtain ⟨l, rfl⟩ := str_bA s
  refine fnP_in K_forebaylaw06_AsmLines mixed rfl (by simp [AV.pureL, AV.pure, aIx_pure]) ?_
  simp only [S_forebaylaw06_AsmLines]
  have hac : (AV.agg (aIx x)).cells = aIx x := rfl
  refine wpa_seqx (fun ε σ => (ε 1 = aB l ∧ ε 2 = .ref 0 0 0) ∧ σ = [.obj 0 (aIx x)]) ?_ ?_
  · intro N X R hN
    simp (maxSteps:=999999) -implicitDefEqProofs (disch:=omega) only [push_cast,↓reduceIte,Nat.reduceEqDiff,reduceCtorEq,wz]
    refine wpa_box ?_
    simp (maxSteps:=999999) -implicitDefEqProofs (disch:=omega) only [push_cast,↓reduceIte,Nat.reduceEqDiff,reduceCtorEq,wz,hac]
    exact hN _ _ ⟨by simp (maxSteps:=999999) -implicitDefEqProofs (disch:=omega) only [push_cast,↓reduceIte,Nat.reduceEqDiff,reduceCtorEq,wz], rfl⟩
  rintro ε σ ⟨hρ, rfl⟩
  refine wpa_seqx (fun ε σ => (ε 1 = aB l ∧ ε 2 = .ref 0 0 0) ∧ σ = [.obj 0 (aIx x)]) ?_ ?_
  · intro N X R hN
    simp (maxSteps:=999999) -implicitDefEqProofs (disch:=omega) only [push_cast,↓reduceIte,Nat.reduceEqDiff,reduceCtorEq,wz,hρ]
    refine wpa_call law06_works_a ?_
    rintro a rfl
    simp (maxSteps:=999999) -implicitDefEqProofs (disch:=omega) only [push_cast,↓reduceIte,Nat.reduceEqDiff,reduceCtorEq,wz,hρ,aBool]
    exact hN _ _ ⟨by simp (maxSteps:=999999) -implicitDefEqProofs (disch:=omega) only [push_cast,↓reduceIte,Nat.reduceEqDiff,reduceCtorEq,wz,hρ], rfl⟩
  clear hρ ε
  rintro ε σ ⟨hρ, rfl⟩
  refine wpa_seq (fun ε σ => ((ε 1 = aB l ∧ ε 2 = .ref 0 0 0) ∧ σ = [.obj 0 (aIx x)]) ∧ l.length ≤ 1000) ?_ ?_
  · intro N hN
    by_cases hg : 1000 < l.length
    · have hgt : (1000 : Int) < (bA l).size := by rw [size_bA]; omega
      simp (maxSteps:=999999) -implicitDefEqProofs (disch:=omega) only [push_cast,↓reduceIte,Nat.reduceEqDiff,reduceCtorEq,wz,hρ,hgt]
      exact ⟨[], rfl, rfl⟩
    · have hgt : ¬ (1000 : Int) < (bA l).size := by rw [size_bA]; omega
      simp (maxSteps:=999999) -implicitDefEqProofs (disch:=omega) only [push_cast,↓reduceIte,Nat.reduceEqDiff,reduceCtorEq,wz,hρ,hgt]
      exact hN _ _ ⟨⟨by simp (maxSteps:=999999) -implicitDefEqProofs (disch:=omega) only [push_cast,↓reduceIte,Nat.reduceEqDiff,reduceCtorEq,wz,hρ], rfl⟩, by omega⟩
  clear hρ ε
  rintro ε σ ⟨⟨hρ, rfl⟩, hl⟩
  have hp1 := asm_Parse_a l (by omega)
  have hp2 := ref06_Parse_a l (by omega)
  generalize parseF l = p at hp1 hp2
  refine wpa_seqx (fun ε σ => (ε 1 = aB l ∧ ε 2 = .ref 0 0 0 ∧ ε 5 = .ref 1 0 0 ∧ ε 6 = .v (.int .i64 p.2)) ∧ σ = [.obj 0 (aIx x), .obj 0 (aIx p.1)]) ?_ ?_
  · intro N X R hN
    simp (maxSteps:=999999) -implicitDefEqProofs (disch:=omega) only [push_cast,↓reduceIte,Nat.reduceEqDiff,reduceCtorEq,wz,hρ]
    refine wpa_call hp1 ?_
    rintro a rfl
    simp (maxSteps:=999999) -implicitDefEqProofs (disch:=omega) only [push_cast,↓reduceIte,Nat.reduceEqDiff,reduceCtorEq,wz,aInt]
    refine wpa_new ?_
    simp (maxSteps:=999999) -implicitDefEqProofs (disch:=omega) only [push_cast,↓reduceIte,Nat.reduceEqDiff,reduceCtorEq,wz]
    refine wpa_stn (cs := aIx ix0) (l := aIx p.1) rfl rfl rfl (by decide) ?_
    simp (maxSteps:=999999) -implicitDefEqProofs (disch:=omega) only [push_cast,↓reduceIte,Nat.reduceEqDiff,reduceCtorEq,wz]
    exact hN _ _ ⟨by simp (maxSteps:=999999) -implicitDefEqProofs (disch:=omega) only [push_cast,↓reduceIte,Nat.reduceEqDiff,reduceCtorEq,wz,hρ], rfl⟩
  clear hρ ε
  rintro ε σ ⟨hρ, rfl⟩
  refine wpa_seqx (fun ε σ => (ε 2 = .ref 0 0 0 ∧ ε 5 = .ref 1 0 0 ∧ ε 6 = .v (.int .i64 p.2) ∧ ε 7 = .ref 2 0 0 ∧ ε 8 = .v (.int .i64 p.2)) ∧ σ = [.obj 0 (aIx x), .obj 0 (aIx p.1), .obj 0 (aIx p.1)]) ?_ ?_
  · intro N X R hN
    simp (maxSteps:=999999) -implicitDefEqProofs (disch:=omega) only [push_cast,↓reduceIte,Nat.reduceEqDiff,reduceCtorEq,wz,hρ]
    refine wpa_call hp2 ?_
    rintro a rfl
    simp (maxSteps:=999999) -implicitDefEqProofs (disch:=omega) only [push_cast,↓reduceIte,Nat.reduceEqDiff,reduceCtorEq,wz,aInt]
    refine wpa_new ?_
    simp (maxSteps:=999999) -implicitDefEqProofs (disch:=omega) only [push_cast,↓reduceIte,Nat.reduceEqDiff,reduceCtorEq,wz]
    refine wpa_stn (cs := aIx ix0) (l := aIx p.1) rfl rfl rfl (by decide) ?_
    simp (maxSteps:=999999) -implicitDefEqProofs (disch:=omega) only [push_cast,↓reduceIte,Nat.reduceEqDiff,reduceCtorEq,wz]
    exact hN _ _ ⟨by simp (maxSteps:=999999) -implicitDefEqProofs (disch:=omega) only [push_cast,↓reduceIte,Nat.reduceEqDiff,reduceCtorEq,wz,hρ], rfl⟩
  clear hρ ε
  rintro ε σ ⟨hρ, rfl⟩
  have hll : (lineF x).length ≤ 14 := by
    by_cases h : insE x = 0
    · exact (lineF_ok h).2.1
    · unfold lineF; rw [if_neg h]; simp
  refine wpa_seqx (fun ε σ => (ε 2 = .ref 0 0 0 ∧ ε 5 = .ref 1 0 0 ∧ ε 6 = .v (.int .i64 p.2) ∧ ε 7 = .ref 2 0 0 ∧ ε 8 = .v (.int .i64 p.2) ∧ ε 9 = aB (lineF x)) ∧ σ = [.obj 0 (aIx x), .obj 0 (aIx p.1), .obj 0 (aIx p.1)]) ?_ ?_
  · intro N X R hN
    simp (maxSteps:=999999) -implicitDefEqProofs (disch:=omega) only [push_cast,↓reduceIte,Nat.reduceEqDiff,reduceCtorEq,wz,hρ,cellsIx']
    refine wpa_call (asm_Line_a x) ?_
    rintro a rfl
    simp (maxSteps:=999999) -implicitDefEqProofs (disch:=omega) only [push_cast,↓reduceIte,Nat.reduceEqDiff,reduceCtorEq,wz,hρ]
    exact hN _ _ ⟨by simp (maxSteps:=999999) -implicitDefEqProofs (disch:=omega) only [push_cast,↓reduceIte,Nat.reduceEqDiff,reduceCtorEq,wz,hρ], rfl⟩
  clear hρ ε
  rintro ε σ ⟨hρ, rfl⟩
  have hp3 := asm_Parse_a (lineF x) (by omega)
  have hback : lineF x = [] ∨ (lineF x ≠ [] ∧ parseF (lineF x) = (x, 0)) := by
    by_cases h : insE x = 0
    · refine .inr ⟨fun e => ?_, parse_line h⟩
      have := (lineF_ok h).1
      rw [e] at this
      exact absurd this (by simp [partsB, wordsX])
    · exact .inl (by unfold lineF; rw [if_neg h])
  generalize parseF (lineF x) = q at hp3 hback
  refine wpa_seqx (fun ε σ => (ε 2 = .ref 0 0 0 ∧ ε 5 = .ref 1 0 0 ∧ ε 6 = .v (.int .i64 p.2) ∧ ε 7 = .ref 2 0 0 ∧ ε 8 = .v (.int .i64 p.2) ∧ ε 9 = aB (lineF x) ∧ ε 10 = .ref 3 0 0 ∧ ε 11 = .v (.int .i64 q.2)) ∧ σ = [.obj 0 (aIx x), .obj 0 (aIx p.1), .obj 0 (aIx p.1), .obj 0 (aIx q.1)]) ?_ ?_
  · intro N X R hN
    simp (maxSteps:=999999) -implicitDefEqProofs (disch:=omega) only [push_cast,↓reduceIte,Nat.reduceEqDiff,reduceCtorEq,wz,hρ]
    refine wpa_call hp3 ?_
    rintro a rfl
    simp (maxSteps:=999999) -implicitDefEqProofs (disch:=omega) only [push_cast,↓reduceIte,Nat.reduceEqDiff,reduceCtorEq,wz,aInt]
    refine wpa_new ?_
    simp (maxSteps:=999999) -implicitDefEqProofs (disch:=omega) only [push_cast,↓reduceIte,Nat.reduceEqDiff,reduceCtorEq,wz]
    refine wpa_stn (cs := aIx ix0) (l := aIx q.1) rfl rfl rfl (by decide) ?_
    simp (maxSteps:=999999) -implicitDefEqProofs (disch:=omega) only [push_cast,↓reduceIte,Nat.reduceEqDiff,reduceCtorEq,wz]
    exact hN _ _ ⟨by simp (maxSteps:=999999) -implicitDefEqProofs (disch:=omega) only [push_cast,↓reduceIte,Nat.reduceEqDiff,reduceCtorEq,wz,hρ], rfl⟩
  clear hρ ε
  rintro ε σ ⟨hρ, rfl⟩
  have hq := eqsIx false p.1 p.1
  rw [show (false != decide (p.1 = p.1)) = true by simp] at hq
  simp (maxSteps:=999999) -implicitDefEqProofs (disch:=omega) only [push_cast,↓reduceIte,Nat.reduceEqDiff,reduceCtorEq,wz,hρ,cellsIx',hq]
  refine wpa_call (ref06_Line_a x) ?_
  rintro a rfl
  rcases hback with he | ⟨hne, rfl⟩
  · have he2 : bA (lineF x) = ⟨#[]⟩ := by rw [he]
    simp (maxSteps:=999999) -implicitDefEqProofs (disch:=omega) only [push_cast,↓reduceIte,Nat.reduceEqDiff,reduceCtorEq,wz,hρ,he2]
    exact ⟨[], rfl, rfl⟩
  · have he2 : ¬ (bA (lineF x) = ⟨#[]⟩) := fun e => hne (bA_nil.1 e)
    have hq2 := eqsIx false x x
    rw [show (false != decide (x = x)) = true by simp] at hq2
    simp (maxSteps:=999999) -implicitDefEqProofs (disch:=omega) only [push_cast,↓reduceIte,Nat.reduceEqDiff,reduceCtorEq,wz,hρ,he2,cellsIx',hq2]
    exact ⟨[], rfl, rfl⟩

theorem cellsPr2 (m : Int) (fs : List (List Ix)) : cellsA (some 2) (aPr m fs) = some (.agg (aPr m fs)) := rfl
theorem aPr_one (m : Int) (fs : List (List Ix)) : (aPr m fs).all AV.one = true := rfl
/-- What is read is small enough. -/
theorem readF_ok (t : List UInt8) : okF (readF t).1.2 := by
  have h0 : okF [] := ⟨by simp, by simp⟩
  have hadds : ∀ (ls : List (List UInt8)) (fs : List (List Ix)) (k : Nat), (fs.length ≤ k ∧ ∀ f ∈ fs, f.length ≤ k) → ((addsF ls fs).1.length ≤ k + ls.length ∧ ∀ f ∈ (addsF ls fs).1, f.length ≤ k + ls.length) := by
    intro ls
    induction ls with
    | nil => intro fs k h; simpa [addsF] using h
    | cons l ls ih =>
      intro fs k h
      rw [addsF]
      split
      · have := ih _ (k + 1) (addF_bd (l := l) h)
        simp only [List.length_cons]
        refine ⟨by omega, fun f hf => by have := this.2 f hf; omega⟩
      · simp
  unfold readF
  split
  · exact h0
  · rename_i hlen
    have hL : (fullL (partsB 10 true [] t)).length ≤ t.length := by
      have := (partsB_len (sign := 10) (em := true) t []).1
      simp only [if_true, Nat.add_zero] at this
      unfold fullL
      exact Nat.le_trans (List.length_filter_le _ _) this
    generalize fullL (partsB 10 true [] t) = L at hL
    cases L with
    | nil => exact h0
    | cons l ls =>
      have hlc : (l :: ls).length = ls.length + 1 := rfl
      rw [readL]
      split
      · split
        · split
          · have := hadds ls [] 0 (by simp)
            exact ⟨by simp only; omega, fun f hf => by have := this.2 f hf; omega⟩
          · exact h0
        · exact h0
      · exact h0

set_option maxHeartbeats 8000000 in
theorem AsmReads_a (s : ByteArray) : FnP Tryd.prog 9 [aS s] fun a => a = aBool true := by
  obtain ⟨l, rfl⟩ := str_bA s
  refine fnP_in K_forebaylaw06_AsmReads mixed rfl rfl ?_
  simp only [S_forebaylaw06_AsmReads]
  simp (maxSteps:=999999) -implicitDefEqProofs (disch:=omega) only [push_cast,↓reduceIte,Nat.reduceEqDiff,reduceCtorEq,wz]
  refine wpa_call law06_works_a ?_
  rintro a rfl
  simp (maxSteps:=999999) -implicitDefEqProofs (disch:=omega) only [push_cast,↓reduceIte,Nat.reduceEqDiff,reduceCtorEq,wz,aBool]
  by_cases hg : 65000 < l.length
  · have hgt : (65000 : Int) < (bA l).size := by rw [size_bA]; omega
    simp (maxSteps:=999999) -implicitDefEqProofs (disch:=omega) only [push_cast,↓reduceIte,Nat.reduceEqDiff,reduceCtorEq,wz,hgt]
    exact ⟨[], rfl⟩
  · have hgt : ¬ (65000 : Int) < (bA l).size := by rw [size_bA]; omega
    have h1 := asm_Read_a l (by omega)
    have h2 := ref06_Read_a l (by omega)
    have hok := readF_ok l
    generalize readF l = p at h1 h2 hok
    simp (maxSteps:=999999) -implicitDefEqProofs (disch:=omega) only [push_cast,↓reduceIte,Nat.reduceEqDiff,reduceCtorEq,wz,hgt]
    refine wpa_call h1 ?_
    rintro a rfl
    simp (maxSteps:=999999) -implicitDefEqProofs (disch:=omega) only [push_cast,↓reduceIte,Nat.reduceEqDiff,reduceCtorEq,wz,aInt]
    refine wpa_new ?_
    simp (maxSteps:=999999) -implicitDefEqProofs (disch:=omega) only [push_cast,↓reduceIte,Nat.reduceEqDiff,reduceCtorEq,wz]
    refine wpa_stn (cs := pr0) (l := aPr p.1.1 p.1.2) rfl (aPr_one _ _) rfl (by decide) ?_
    have hst : setAtA pr0 0 (aPr p.1.1 p.1.2) = aPr p.1.1 p.1.2 := rfl
    rw [hst]
    simp (maxSteps:=999999) -implicitDefEqProofs (disch:=omega) only [push_cast,↓reduceIte,Nat.reduceEqDiff,reduceCtorEq,wz]
    refine wpa_call h2 ?_
    rintro a rfl
    simp (maxSteps:=999999) -implicitDefEqProofs (disch:=omega) only [push_cast,↓reduceIte,Nat.reduceEqDiff,reduceCtorEq,wz,aInt]
    refine wpa_new ?_
    simp (maxSteps:=999999) -implicitDefEqProofs (disch:=omega) only [push_cast,↓reduceIte,Nat.reduceEqDiff,reduceCtorEq,wz]
    refine wpa_stn (cs := pr0) (l := aPr p.1.1 p.1.2) rfl (aPr_one _ _) rfl (by decide) ?_
    rw [hst]
    simp (maxSteps:=999999) -implicitDefEqProofs (disch:=omega) only [push_cast,↓reduceIte,Nat.reduceEqDiff,reduceCtorEq,wz,cellsPr2]
    refine wpa_call (ref04_Same_a p.1.1 p.1.2 hok) ?_
    rintro a rfl
    simp (maxSteps:=999999) -implicitDefEqProofs (disch:=omega) only [push_cast,↓reduceIte,Nat.reduceEqDiff,reduceCtorEq,wz,aBool]
    exact ⟨[], rfl⟩
end Go.Proofs.YtjdpejggafefjaaDoor
/- Shapes of what comes in: instructions, programs. -/
namespace Go.Proofs.YtjdpejggafefjaaDoor
set_option linter.unusedVariables false
set_option linter.unusedSimpArgs false
open Go Go.Kx Go.Proofs

def shIx : Sh := .st (.fcons 1 shN (.fcons 1 shN (.fcons 1 shN (.fcons 1 shN .fnil))))
theorem shIx_read {c : List AV} (h : Enc shIx c) : ∃ x : Ix, c = aIx x := by
  simp only [shIx, Enc] at h
  obtain ⟨x, y, rfl, _, hx, x2, y2, rfl, _, hy, x3, y3, rfl, _, hz, x4, y4, rfl, _, hw, rfl⟩ := h
  obtain ⟨n, rfl, _⟩ := shN_read hx
  obtain ⟨m, rfl, _⟩ := shN_read hy
  obtain ⟨k, rfl, _⟩ := shN_read hz
  obtain ⟨j, rfl, _⟩ := shN_read hw
  exact ⟨⟨n, m, k, j⟩, rfl⟩
def shIxs : Sh := .sl 4 shIx
theorem shIxs_read {cs : List AV} (h : Enc shIxs cs) : ∃ l : List Ix, cs = [aIxs l] := by
  obtain ⟨l, h, _⟩ := enc_sl (f := aIx) (fun _ hc => shIx_read hc) h
  exact ⟨l, h⟩
def shPr : Sh := .st (.fcons 1 shN (.fcons 1 (.sl 1 shIxs) .fnil))
theorem shPr_read {cs : List AV} (h : Enc shPr cs) : ∃ x : Int × List (List Ix), cs = aPr x.1 x.2 ∧ x.2.length ≤ 9223372036854775807 := by
  simp only [shPr, Enc] at h
  obtain ⟨x, y, rfl, _, hx, x2, y2, rfl, _, hy, rfl⟩ := h
  obtain ⟨n, rfl, _⟩ := shN_read hx
  obtain ⟨l, rfl, hl⟩ := enc_sl1 (f := aIxs) (fun _ hc => shIxs_read hc) (show Enc (.sl 1 shIxs) x2 from hy)
  exact ⟨(n, l), rfl, hl⟩
theorem shIx_ok : ShOk Tryd.prog shIx 50 := ⟨_, Tryd.underlying50, rfl, by kernel_rfl, Tryd.underlying3, rfl, by kernel_rfl, Tryd.underlying3, rfl, by kernel_rfl, Tryd.underlying3, rfl, by kernel_rfl, Tryd.underlying3, (by show 0 + 1 + 1 + 1 + 1 = Tryd.prog.cellsOf 50; kernel_rfl)⟩
theorem shIxs_ok : ShOk Tryd.prog shIxs 70 := ⟨50, Tryd.underlying70, by kernel_rfl, by omega, shIx_ok⟩
theorem shPr_ok : ShOk Tryd.prog shPr 57 := ⟨_, Tryd.underlying57, rfl, by kernel_rfl, Tryd.underlying3, rfl, by kernel_rfl, ⟨70, Tryd.underlying55, by kernel_rfl, by omega, shIxs_ok⟩, (by show 0 + 1 + 1 = Tryd.prog.cellsOf 57; kernel_rfl)⟩
theorem rel_agg {G : Gh} {cs : List AV} {xs : Array Value} (h : RelL G cs xs.toList) : RelV G (.agg cs) (.agg xs) := RelV.agg cs xs.toList h.1 h.2
def shX : Sh := shIx
theorem shX_ok : ShOk Tryd.prog shX 50 := shIx_ok
theorem shX_read {c : List AV} (h : Enc shX c) : ∃ x : Ix, c = aIx x ∧ True := by
  obtain ⟨x, h⟩ := shIx_read h
  exact ⟨x, h, trivial⟩
theorem AsmLines_b (x : Ix) (s : ByteArray) (_ : True) : FnP Tryd.prog 8 [.agg (aIx x), aS s] fun a => a = aBool true := AsmLines_a x s
end Go.Proofs.YtjdpejggafefjaaDoor
