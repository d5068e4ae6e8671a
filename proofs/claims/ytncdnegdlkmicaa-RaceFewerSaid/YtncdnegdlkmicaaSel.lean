/- Serial: Eval and Marks: what they answer. -/
import Derived.Test.YtncdnegdlkmicaaSek
namespace Go.Proofs.Ytncdnegdlkmicaa
set_option linter.unusedVariables false
set_option linter.unusedSimpArgs false
open Go Go.Kx Go.Proofs

def zS : Sv := ⟨[], [], [], 0, 0, 0, [], 0, 0, 0⟩
/-- What is answered: nothing where something is wrong. -/
def runV (m : Int) (fs : List (List Ix)) (inp : List Int) (fuel : Int) : Sv := if runE m fs inp = 0 then runS m fs inp (fuelN fuel) else zS
def aOc (s : Sv) : List AV := [.v (.int .i64 s.status), .v (.int .i64 s.why), aInts s.out, aInts s.data, .v (.int .i64 s.steps), .v (.int .i64 s.frames), .v (.int .i64 s.deepest)]
theorem aOc_pure (s : Sv) : AV.pureL (aOc s) = true := by simp [aOc, AV.pureL, AV.pure, aInts_pure]
theorem aOc_res (σ : Kx.St) (s : Sv) : AV.resL σ (aOc s) = aOc s := by simp [aOc, AV.resL, AV.res, aInts_res]
def aMks (l : List (Int × Int)) : AV := aSlN aMk l
theorem aMk_pure (p : Int × Int) : AV.pureL (aMk p) = true := by simp [aMk, AV.pureL, AV.pure]
theorem aMk_res (σ : Kx.St) (p : Int × Int) : AV.resL σ (aMk p) = aMk p := by simp [aMk, AV.resL, AV.res]
theorem aMks_pure (l : List (Int × Int)) : (aMks l).pure = true := aSlN_pure aMk_pure l
theorem aMks_res (σ : Kx.St) (l : List (Int × Int)) : (aMks l).res σ = aMks l := aSlN_res (aMk_res σ) l .none
theorem aMks_res' (σ : Kx.St) (l : List (Int × Int)) (t : Tok) : (AV.sl l.length (l.flatMap aMk) t).res σ = aMks l := aSlN_res (aMk_res σ) l t
theorem shift_ints (k : Nat) (l : List Int) : AV.shiftL k (l.map aInt) = l.map aInt := by
  rw [shiftL_map, List.map_map]
  exact List.map_congr_left fun x _ => rfl
theorem shift_mks (k : Nat) (l : List (Int × Int)) : AV.shiftL k (l.flatMap aMk) = l.flatMap aMk := by
  rw [shiftL_map]
  induction l with
  | nil => rfl
  | cons p l ih => rw [List.flatMap_cons, List.map_append, ih]; rfl
theorem shift_map (k : Nat) (A : List Res) (τ : Kx.St) (i : Nat) (cs : List AV) (hk : A.length = k) (h : τ[i]? = some (.obj 0 cs)) : (A ++ τ.map (Res.shift k))[i + k]? = some (.obj 0 (AV.shiftL k cs)) := by
  rw [List.getElem?_append_right (by omega), hk, Nat.add_sub_cancel, List.getElem?_map, h]
  rfl
theorem cells_oc (k : Nat) (m : Int) (n w wm wo j : Nat) (s : Sv) : cellsA (some 7) ((AV.shiftL k ((evC m n w wm wo s).set 9 (.sl s.data.length (s.data.map aInt) (.id j 1 1)))).drop 6) =
    some (.agg [.v (.int .i64 s.status), .v (.int .i64 s.why), .sl s.out.length (s.out.map aInt) (.id (8 + k) wo 1), .sl s.data.length (s.data.map aInt) (.id (j + k) 1 1), .v (.int .i64 s.steps), .v (.int .i64 s.frames), .v (.int .i64 s.deepest)]) := by
  show some (AV.agg [_, _, .sl s.out.length (AV.shiftL k (s.out.map aInt)) _, .sl s.data.length (AV.shiftL k (s.data.map aInt)) _, _, _, _]) = _
  rw [shift_ints, shift_ints]
  rfl
theorem cell_mk (k : Nat) (m : Int) (n w wm wo : Nat) (s : Sv) (x : AV) : (AV.shiftL k ((evC m n w wm wo s).set 9 x))[4]? = some (.sl s.marks.length (s.marks.flatMap aMk) (.id (7 + k) wm 3)) := by
  show some (AV.sl s.marks.length (AV.shiftL k (s.marks.flatMap aMk)) _) = _
  rw [shift_mks]
  rfl
theorem oc_res (σ : Kx.St) (s : Sv) (t u : Tok) : AV.resL σ [.v (.int .i64 s.status), .v (.int .i64 s.why), .sl s.out.length (s.out.map aInt) t, .sl s.data.length (s.data.map aInt) u, .v (.int .i64 s.steps), .v (.int .i64 s.frames), .v (.int .i64 s.deepest)] = aOc s := by
  have hi : ∀ (l : List Int) (t : Tok), (AV.sl l.length (l.map aInt) t).res σ = aInts l := fun l t => aSl_res (aInt_res σ) l t
  simp [AV.resL, AV.res, aOc]
  exact ⟨hi _ .none, hi _ .none⟩
def aOcT (s : Sv) (t u : Tok) : List AV := [.v (.int .i64 s.status), .v (.int .i64 s.why), .sl s.out.length (s.out.map aInt) t, .sl s.data.length (s.data.map aInt) u, .v (.int .i64 s.steps), .v (.int .i64 s.frames), .v (.int .i64 s.deepest)]
def tokX : Tok → Bool
  | .nil => true
  | .id _ _ _ => true
  | _ => false
theorem ocT_exact (s : Sv) {t u : Tok} (h : tokX t = true) (k : tokX u = true) : (AV.agg (aOcT s t u)).exact = true := by
  cases t <;> cases u <;> first | rfl | (simp [tokX] at h k)
section
variable (m : Int) (fs : List (List Ix)) (inp : List Int) (fuel : Int) (hf : okF fs) (hi : inp.length ≤ 1000000)
include hf hi
set_option maxHeartbeats 4000000 in
theorem Eval_G : FnG Try.prog 11 [.agg (aPr m fs), aInts inp, aInt fuel] [] fun a _ => ∃ t u, tokX t = true ∧ tokX u = true ∧ a = .tup [.agg (aOcT (runV m fs inp fuel) t u), aInt (runE m fs inp)] := by
  have hpu : AV.pureL [.agg (aPr m fs), aInts inp, aInt fuel] = true := by simp [AV.pureL, AV.pure, aPr_pure, aInts_pure, aInt]
  refine fnG_in K_serial_Eval mixed rfl ?_
  simp only [S_serial_Eval]
  have hac : (AV.agg (aPr m fs)).cells = aPr m fs := rfl
  have hzc : setAtA [AV.v (.int .i64 0), AV.v (.int .i64 0), .sl 0 [] .nil, .sl 0 [] .nil, AV.v (.int .i64 0), AV.v (.int .i64 0), AV.v (.int .i64 0)] 0 [AV.v (.int .i64 0), AV.v (.int .i64 0), .sl 0 [] .nil, .sl 0 [] .nil, AV.v (.int .i64 0), AV.v (.int .i64 0), AV.v (.int .i64 0)] =
    [AV.v (.int .i64 0), AV.v (.int .i64 0), .sl 0 [] .nil, .sl 0 [] .nil, AV.v (.int .i64 0), AV.v (.int .i64 0), AV.v (.int .i64 0)] := rfl
  have hset : ∀ a b c d e f g : AV, setAtA [AV.v (.int .i64 0), AV.v (.int .i64 0), .sl 0 [] .nil, .sl 0 [] .nil, AV.v (.int .i64 0), AV.v (.int .i64 0), AV.v (.int .i64 0)] 0 [a, b, c, d, e, f, g] = [a, b, c, d, e, f, g] := fun _ _ _ _ _ _ _ => rfl
  refine wpa_seqx (fun ε σ => (ε 1 = aInts inp ∧ ε 2 = aInt fuel ∧ ε 3 = .ref 0 0 0 ∧ ε 6 = .ref 1 0 0) ∧ σ = [.obj 0 (aPr m fs), .obj 0 [AV.v (.int .i64 0), AV.v (.int .i64 0), .sl 0 [] .nil, .sl 0 [] .nil, AV.v (.int .i64 0), AV.v (.int .i64 0), AV.v (.int .i64 0)]]) ?_ ?_
  · intro N X R hN
    simp (maxSteps:=999999) -implicitDefEqProofs (disch:=omega) only [push_cast,↓reduceIte,Nat.reduceEqDiff,reduceCtorEq,wz]
    refine wpa_box ?_
    simp (maxSteps:=999999) -implicitDefEqProofs (disch:=omega) only [push_cast,↓reduceIte,Nat.reduceEqDiff,reduceCtorEq,wz,hac]
    refine wpa_new ?_
    simp (maxSteps:=999999) -implicitDefEqProofs (disch:=omega) only [push_cast,↓reduceIte,Nat.reduceEqDiff,reduceCtorEq,wz]
    exact hN _ _ ⟨by simp (maxSteps:=999999) -implicitDefEqProofs (disch:=omega) only [push_cast,↓reduceIte,Nat.reduceEqDiff,reduceCtorEq,wz], rfl⟩
  rintro ε σ ⟨hρ, rfl⟩
  by_cases he : runE m fs inp = 0
  · have hp : prgE m fs = 0 := by
      unfold runE at he
      by_cases c : prgE m fs = 0
      · exact c
      · rw [if_pos c] at he; exact absurd he c
    have hle : (inp.length : Int) ≤ m := by
      unfold runE at he
      rw [if_neg (by simpa using hp)] at he
      by_cases c : m < inp.length
      · rw [if_pos c] at he; cases he
      · omega
    have hv : runV m fs inp fuel = runS m fs inp (fuelN fuel) := if_pos he
    rw [hv, he]
    refine wpa_seqx (fun ε σ => ∃ (σ0 : Kx.St) (w wm wo j : Nat), (ε 6 = .ref 1 0 0 ∧ ε 8 = .ref 6 0 0 ∧ ε 9 = .v (.int .i64 0)) ∧ σ = [.obj 0 (aPr m fs), .obj 0 [AV.v (.int .i64 0), AV.v (.int .i64 0), .sl 0 [] .nil, .sl 0 [] .nil, AV.v (.int .i64 0), AV.v (.int .i64 0), AV.v (.int .i64 0)]] ++ σ0 ∧
        σ[6]? = some (.obj 0 (AV.shiftL 2 ((evC m fs.length w wm wo (runS m fs inp (fuelN fuel))).set 9 (.sl (runS m fs inp (fuelN fuel)).data.length ((runS m fs inp (fuelN fuel)).data.map aInt) (.id j 1 1)))))) ?_ ?_
    · intro N X R hN
      simp (maxSteps:=999999) -implicitDefEqProofs (disch:=omega) only [push_cast,↓reduceIte,Nat.reduceEqDiff,reduceCtorEq,wz,hρ,cellsPr]
      refine wpa_callF (run_ok m fs inp fuel hf hp hle) hpu ?_
      rintro a τ ⟨rfl, w, wm, wo, j, h4⟩
      simp (maxSteps:=999999) -implicitDefEqProofs (disch:=omega) only [push_cast,↓reduceIte,Nat.reduceEqDiff,reduceCtorEq,wz,AV.shift,AV.shiftL,aInt]
      exact hN _ _ ⟨_, w, wm, wo, j, by simp (maxSteps:=999999) -implicitDefEqProofs (disch:=omega) only [push_cast,↓reduceIte,Nat.reduceEqDiff,reduceCtorEq,wz,hρ], rfl, shift_map 2 [Res.obj 0 (aPr m fs), Res.obj 0 [AV.v (.int .i64 0), AV.v (.int .i64 0), .sl 0 [] .nil, .sl 0 [] .nil, AV.v (.int .i64 0), AV.v (.int .i64 0), AV.v (.int .i64 0)]] τ 4 _ rfl h4⟩
    clear hρ ε
    rintro ε σ ⟨σ0, w, wm, wo, j, hρ, hσ, h6⟩
    generalize runS m fs inp (fuelN fuel) = s at h6 ⊢
    have h1 : σ[1]? = some (.obj 0 [AV.v (.int .i64 0), AV.v (.int .i64 0), .sl 0 [] .nil, .sl 0 [] .nil, AV.v (.int .i64 0), AV.v (.int .i64 0), AV.v (.int .i64 0)]) := by rw [hσ]; rfl
    have hco := cells_oc 2 m fs.length w wm wo j s
    generalize AV.shiftL 2 ((evC m fs.length w wm wo s).set 9 (.sl s.data.length (s.data.map aInt) (.id j 1 1))) = cs at h6 hco
    refine wpa_seqx (fun ε σ' => (ε 6 = .ref 1 0 0 ∧ ε 8 = .ref 6 0 0) ∧ σ' = σ) ?_ ?_
    · intro N X R hN
      simp (maxSteps:=999999) -implicitDefEqProofs (disch:=omega) only [push_cast,↓reduceIte,Nat.reduceEqDiff,reduceCtorEq,wz,hρ]
      exact hN _ _ ⟨by simp (maxSteps:=999999) -implicitDefEqProofs (disch:=omega) only [push_cast,↓reduceIte,Nat.reduceEqDiff,reduceCtorEq,wz,hρ], rfl⟩
    clear hρ ε
    rintro ε σ' ⟨hρ, e1⟩
    rw [e1]
    simp (maxSteps:=999999) -implicitDefEqProofs (disch:=omega) only [push_cast,↓reduceIte,Nat.reduceEqDiff,reduceCtorEq,wz,hρ,h6,hco]
    refine wpa_stn rfl rfl h1 (by simp) ?_
    rw [hset]
    have h1' := get_set_eq (o := Res.obj 0 [.v (.int .i64 s.status), .v (.int .i64 s.why), .sl s.out.length (s.out.map aInt) (.id (8 + 2) wo 1), .sl s.data.length (s.data.map aInt) (.id (j + 2) 1 1), .v (.int .i64 s.steps), .v (.int .i64 s.frames), .v (.int .i64 s.deepest)]) h1
    have hc7 : cellsA (some 7) [.v (.int .i64 s.status), .v (.int .i64 s.why), .sl s.out.length (s.out.map aInt) (.id (8 + 2) wo 1), .sl s.data.length (s.data.map aInt) (.id (j + 2) 1 1), .v (.int .i64 s.steps), .v (.int .i64 s.frames), .v (.int .i64 s.deepest)] = some (.agg (aOcT s (.id (8 + 2) wo 1) (.id (j + 2) 1 1))) := rfl
    simp (maxSteps:=999999) -implicitDefEqProofs (disch:=omega) only [push_cast,↓reduceIte,Nat.reduceEqDiff,reduceCtorEq,wz,hρ,h1',hc7]
    exact ⟨_, _, rfl, rfl, rfl⟩
  · have hv : runV m fs inp fuel = zS := if_neg he
    rw [hv]
    have hfill : fillA [AV.v (.int .i64 0), AV.v (.int .i64 0), .sl 0 [] .nil, .sl 0 [] .nil, AV.v (.int .i64 0), AV.v (.int .i64 0), AV.v (.int .i64 0)] [] [] = some [AV.v (.int .i64 0), AV.v (.int .i64 0), .sl 0 [] .nil, .sl 0 [] .nil, AV.v (.int .i64 0), AV.v (.int .i64 0), AV.v (.int .i64 0)] := rfl
    refine wpa_seqx (fun ε σ => ∃ (σ0 : Kx.St), (ε 6 = .ref 1 0 0 ∧ ε 9 = .v (.int .i64 (runE m fs inp))) ∧ σ = [.obj 0 (aPr m fs), .obj 0 [AV.v (.int .i64 0), AV.v (.int .i64 0), .sl 0 [] .nil, .sl 0 [] .nil, AV.v (.int .i64 0), AV.v (.int .i64 0), AV.v (.int .i64 0)]] ++ σ0) ?_ ?_
    · intro N X R hN
      simp (maxSteps:=999999) -implicitDefEqProofs (disch:=omega) only [push_cast,↓reduceIte,Nat.reduceEqDiff,reduceCtorEq,wz,hρ,cellsPr]
      refine wpa_callF (run_err m fs inp fuel hf hi he) hpu ?_
      rintro a τ rfl
      simp (maxSteps:=999999) -implicitDefEqProofs (disch:=omega) only [push_cast,↓reduceIte,Nat.reduceEqDiff,reduceCtorEq,wz,AV.shift,AV.shiftL,aInt]
      exact hN _ _ ⟨_, by simp (maxSteps:=999999) -implicitDefEqProofs (disch:=omega) only [push_cast,↓reduceIte,Nat.reduceEqDiff,reduceCtorEq,wz,hρ], rfl⟩
    clear hρ ε
    rintro ε σ ⟨σ0, hρ, hσ⟩
    have h1 : σ[1]? = some (.obj 0 [AV.v (.int .i64 0), AV.v (.int .i64 0), .sl 0 [] .nil, .sl 0 [] .nil, AV.v (.int .i64 0), AV.v (.int .i64 0), AV.v (.int .i64 0)]) := by rw [hσ]; rfl
    simp (maxSteps:=999999) -implicitDefEqProofs (disch:=omega) only [push_cast,↓reduceIte,Nat.reduceEqDiff,reduceCtorEq,wz,hρ,he,hfill]
    refine wpa_stn rfl rfl h1 (by simp) ?_
    rw [hset]
    have h1' := get_set_eq (o := Res.obj 0 [AV.v (.int .i64 0), AV.v (.int .i64 0), .sl 0 [] .nil, .sl 0 [] .nil, AV.v (.int .i64 0), AV.v (.int .i64 0), AV.v (.int .i64 0)]) h1
    have hc7 : cellsA (some 7) [AV.v (.int .i64 0), AV.v (.int .i64 0), .sl 0 [] .nil, .sl 0 [] .nil, AV.v (.int .i64 0), AV.v (.int .i64 0), AV.v (.int .i64 0)] = some (.agg [AV.v (.int .i64 0), AV.v (.int .i64 0), .sl 0 [] .nil, .sl 0 [] .nil, AV.v (.int .i64 0), AV.v (.int .i64 0), AV.v (.int .i64 0)]) := rfl
    simp (maxSteps:=999999) -implicitDefEqProofs (disch:=omega) only [push_cast,↓reduceIte,Nat.reduceEqDiff,reduceCtorEq,wz,hρ,h1',hc7]
    exact ⟨.nil, .nil, rfl, rfl, rfl⟩
theorem Eval_a : FnP Try.prog 11 [.agg (aPr m fs), aInts inp, aInt fuel] fun a => a = .tup [.agg (aOc (runV m fs inp fuel)), aInt (runE m fs inp)] := by
  refine ⟨by simp [AV.pureL, AV.pure, aPr_pure, aInts_pure, aInt], FnG.fz ((Eval_G m fs inp fuel hf hi).mono ?_)⟩
  rintro a σ ⟨t, u, _, _, rfl⟩
  exact fin_tup2 [] (by simp only [AV.res]; rw [show AV.resL _ (aOcT (runV m fs inp fuel) t u) = aOc (runV m fs inp fuel) from oc_res _ _ t u]) rfl (by simp [AV.pure, aOc_pure]) rfl rfl
set_option maxHeartbeats 4000000 in
theorem Marks_a : FnP Try.prog 13 [.agg (aPr m fs), aInts inp, aInt fuel] fun a => a = aMks (runV m fs inp fuel).marks := by
  have hpu : AV.pureL [.agg (aPr m fs), aInts inp, aInt fuel] = true := by simp [AV.pureL, AV.pure, aPr_pure, aInts_pure, aInt]
  refine fnP_in K_serial_Marks mixed rfl hpu ?_
  simp only [S_serial_Marks]
  have hac : (AV.agg (aPr m fs)).cells = aPr m fs := rfl
  refine wpa_seqx (fun ε σ => (ε 1 = aInts inp ∧ ε 2 = aInt fuel ∧ ε 3 = .ref 0 0 0) ∧ σ = [.obj 0 (aPr m fs)]) ?_ ?_
  · intro N X R hN
    simp (maxSteps:=999999) -implicitDefEqProofs (disch:=omega) only [push_cast,↓reduceIte,Nat.reduceEqDiff,reduceCtorEq,wz]
    refine wpa_box ?_
    simp (maxSteps:=999999) -implicitDefEqProofs (disch:=omega) only [push_cast,↓reduceIte,Nat.reduceEqDiff,reduceCtorEq,wz,hac]
    exact hN _ _ ⟨by simp (maxSteps:=999999) -implicitDefEqProofs (disch:=omega) only [push_cast,↓reduceIte,Nat.reduceEqDiff,reduceCtorEq,wz], rfl⟩
  rintro ε σ ⟨hρ, rfl⟩
  by_cases he : runE m fs inp = 0
  · have hp : prgE m fs = 0 := by
      unfold runE at he
      by_cases c : prgE m fs = 0
      · exact c
      · rw [if_pos c] at he; exact absurd he c
    have hle : (inp.length : Int) ≤ m := by
      unfold runE at he
      rw [if_neg (by simpa using hp)] at he
      by_cases c : m < inp.length
      · rw [if_pos c] at he; cases he
      · omega
    have hv : runV m fs inp fuel = runS m fs inp (fuelN fuel) := if_pos he
    rw [hv]
    refine wpa_seqx (fun ε σ => ∃ (w wm wo : Nat) (x : AV), (ε 7 = .ref 5 0 0 ∧ ε 8 = .v (.int .i64 0)) ∧ σ[5]? = some (.obj 0 (AV.shiftL 1 ((evC m fs.length w wm wo (runS m fs inp (fuelN fuel))).set 9 x)))) ?_ ?_
    · intro N X R hN
      simp (maxSteps:=999999) -implicitDefEqProofs (disch:=omega) only [push_cast,↓reduceIte,Nat.reduceEqDiff,reduceCtorEq,wz,hρ,cellsPr]
      refine wpa_callF (run_ok m fs inp fuel hf hp hle) hpu ?_
      rintro a τ ⟨rfl, w, wm, wo, j, h4⟩
      simp (maxSteps:=999999) -implicitDefEqProofs (disch:=omega) only [push_cast,↓reduceIte,Nat.reduceEqDiff,reduceCtorEq,wz,AV.shift,AV.shiftL,aInt]
      exact hN _ _ ⟨w, wm, wo, _, by simp (maxSteps:=999999) -implicitDefEqProofs (disch:=omega) only [push_cast,↓reduceIte,Nat.reduceEqDiff,reduceCtorEq,wz,hρ], shift_map 1 [Res.obj 0 (aPr m fs)] τ 4 _ rfl h4⟩
    clear hρ ε
    rintro ε σ ⟨w, wm, wo, x, hρ, h5⟩
    generalize runS m fs inp (fuelN fuel) = s at h5 ⊢
    have hco := cell_mk 1 m fs.length w wm wo s x
    generalize AV.shiftL 1 ((evC m fs.length w wm wo s).set 9 x) = cs at h5 hco
    simp (maxSteps:=999999) -implicitDefEqProofs (disch:=omega) only [push_cast,↓reduceIte,Nat.reduceEqDiff,reduceCtorEq,wz,hρ,h5,hco]
    exact fin_res [] (aMks_res' _ _ _) (aMks_pure _)
  · have hv : runV m fs inp fuel = zS := if_neg he
    rw [hv]
    simp (maxSteps:=999999) -implicitDefEqProofs (disch:=omega) only [push_cast,↓reduceIte,Nat.reduceEqDiff,reduceCtorEq,wz,hρ,cellsPr]
    refine wpa_callF (run_err m fs inp fuel hf hi he) hpu ?_
    rintro a τ rfl
    simp (maxSteps:=999999) -implicitDefEqProofs (disch:=omega) only [push_cast,↓reduceIte,Nat.reduceEqDiff,reduceCtorEq,wz,AV.shift,AV.shiftL,aInt,he]
    exact fin_res [] rfl (aMks_pure _)
end
end Go.Proofs.Ytncdnegdlkmicaa
