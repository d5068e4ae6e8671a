/- Serial: Eval and Marks: what they answer. -/
import Derived.Test.YtncdnegdlkmicaaSSek
namespace Go.Proofs.Ytncdnegdlkmicaa
set_option linter.unusedVariables false
set_option linter.unusedSimpArgs false
open Go Go.Kx Go.Proofs
def zS : Sv := ⟨[], [], [], 0, 0, 0, [], 0, 0, 0⟩
def runV (m : Int) (fs : List (List Ix)) (inp : List Int) (fuel : Int) : Sv := if runE m fs inp = 0 then runS m fs inp (fuelN fuel) else zS
def aMks (l : List (Int × Int)) : AV := aSlN aMk l
theorem aMk_pure (p : Int × Int) : AV.pureL (aMk p) = true := by simp [aMk, AV.pureL, AV.pure]
theorem aMk_res (σ : Kx.St) (p : Int × Int) : AV.resL σ (aMk p) = aMk p := by simp [aMk, AV.resL, AV.res]
theorem aMks_pure (l : List (Int × Int)) : (aMks l).pure = true := aSlN_pure aMk_pure l
theorem aMks_res' (σ : Kx.St) (l : List (Int × Int)) (t : Tok) : (AV.sl l.length (l.flatMap aMk) t).res σ = aMks l := aSlN_res (aMk_res σ) l t
theorem shift_mks (k : Nat) (l : List (Int × Int)) : AV.shiftL k (l.flatMap aMk) = l.flatMap aMk := by
 rw [shiftL_map]
 induction l with
 | nil => rfl
 | cons p l ih => rw [List.flatMap_cons, List.map_append, ih]; rfl
theorem shift_map (k : Nat) (A : List Res) (τ : Kx.St) (i : Nat) (cs : List AV) (hk : A.length = k) (h : τ[i]? = some (.obj 0 cs)) : (A ++ τ.map (Res.shift k))[i + k]? = some (.obj 0 (AV.shiftL k cs)) := by
 rw [List.getElem?_append_right (by omega), hk, Nat.add_sub_cancel, List.getElem?_map, h]
 rfl
theorem cell_mk (k : Nat) (m : Int) (n w wm wo : Nat) (s : Sv) (x : AV) : (AV.shiftL k ((evC m n w wm wo s).set 9 x))[4]? = some (.sl s.marks.length (s.marks.flatMap aMk) (.id (7 + k) wm 3)) := by
 show some (AV.sl s.marks.length (AV.shiftL k (s.marks.flatMap aMk)) _) = _
 rw [shift_mks]
 rfl
section
variable (m : Int) (fs : List (List Ix)) (inp : List Int) (fuel : Int) (hf : okF fs) (hi : inp.length ≤ 1000000)
include hf hi
set_option maxHeartbeats 4000000 in
theorem Marks_a : FnP Try.prog 13 [.agg (aPr m fs), aInts inp, aInt fuel] fun a => a = aMks (runV m fs inp fuel).marks := by
 have hpu : AV.pureL [.agg (aPr m fs), aInts inp, aInt fuel] = true := by simp [AV.pureL, AV.pure, aPr_pure, aInts_pure, aInt]
 refine fnP_in K_serial_Marks mixed rfl hpu ?_
 simp only [S_serial_Marks]
 have hac : (AV.agg (aPr m fs)).cells = aPr m fs := rfl
 refine wpa_seqx (fun ε σ => (ε 1 = aInts inp ∧ ε 2 = aInt fuel ∧ ε 3 = .ref 0 0 0) ∧ σ = [.obj 0 (aPr m fs)]) ?_ ?_
 ·intro N X R hN
  push_cast (disch:=omega)
  refine wpa_box ?_
  push_cast (disch:=omega) [hac]
  exact hN _ _ ⟨by push_cast (disch:=omega), rfl⟩
 rintro ε σ ⟨hρ, rfl⟩
 by_cases he : runE m fs inp = 0
 ·have hp : prgE m fs = 0 := by
   unfold runE at he
   by_cases c : prgE m fs = 0
   ·exact c
   ·rw [if_pos c] at he; exact absurd he c
  have hle : (inp.length : Int) ≤ m := by
   unfold runE at he
   rw [if_neg (by simpa using hp)] at he
   by_cases c : m < inp.length
   ·rw [if_pos c] at he; cases he
   ·omega
  have hv : runV m fs inp fuel = runS m fs inp (fuelN fuel) := if_pos he
  rw [hv]
  refine wpa_seqx (fun ε σ => ∃ (w wm wo : Nat) (x : AV), (ε 7 = .ref 5 0 0 ∧ ε 8 = .v (.int .i64 0)) ∧ σ[5]? = some (.obj 0 (AV.shiftL 1 ((evC m fs.length w wm wo (runS m fs inp (fuelN fuel))).set 9 x)))) ?_ ?_
  ·intro N X R hN
   push_cast (disch:=omega) [hρ,cellsPr]
   refine wpa_callF (run_ok m fs inp fuel hf hp hle) hpu ?_
   rintro a τ ⟨rfl, w, wm, wo, j, h4⟩
   push_cast (disch:=omega) [AV.shift,AV.shiftL,aInt]
   exact hN _ _ ⟨w, wm, wo, _, by push_cast (disch:=omega) [hρ], shift_map 1 [Res.obj 0 (aPr m fs)] τ 4 _ rfl h4⟩
  clear hρ ε
  rintro ε σ ⟨w, wm, wo, x, hρ, h5⟩
  generalize runS m fs inp (fuelN fuel) = s at h5 ⊢
  have hco := cell_mk 1 m fs.length w wm wo s x
  generalize AV.shiftL 1 ((evC m fs.length w wm wo s).set 9 x) = cs at h5 hco
  push_cast (disch:=omega) [hρ,h5,hco]
  exact fin_res [] (aMks_res' _ _ _) (aMks_pure _)
 ·have hv : runV m fs inp fuel = zS := if_neg he
  rw [hv]
  push_cast (disch:=omega) [hρ,cellsPr]
  refine wpa_callF (run_err m fs inp fuel hf hi he) hpu ?_
  rintro a τ rfl
  push_cast (disch:=omega) [AV.shift,AV.shiftL,aInt,he]
  exact fin_res [] rfl (aMks_pure _)
end
end Go.Proofs.Ytncdnegdlkmicaa
