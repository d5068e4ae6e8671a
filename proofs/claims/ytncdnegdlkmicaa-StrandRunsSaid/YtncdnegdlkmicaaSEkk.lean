/- StrandRuns: the walk; shapes. -/
import Derived.Test.YtncdnegdlkmicaaSEkj
import Derived.Test.YtncdnegdlkmicaaSEvb
import Derived.Test.YtncdnegdlkmicaaSYe
import Derived.Test.YtncdnegdlkmicaaSPrb
import Derived.Test.YtncdnegdlkmicaaSSeo
namespace Go.Proofs.Ytncdnegdlkmicaa.Sr
set_option linter.unusedVariables false
set_option linter.unusedSimpArgs false
open Go Go.Kx Go.Proofs
theorem toMk_eq (l : List (Int × Int)) : aMks l = St.aMks (toMk l) := by
 unfold aMks St.aMks aSlN toMk
 rw [List.length_map, List.flatMap_map]
 rfl
theorem fns_of_prg {m : Int} {fs : List (List Ix)} (hf : okF fs) (hp : prgE m fs = 0) : Fns fs ∧ 0 < fs.length := by
 obtain ⟨hm, hmany, hfo⟩ := prg_ok hp
 refine ⟨⟨hfo, hf.1⟩, ?_⟩
 rcases Nat.eq_zero_or_pos fs.length with h | h
 ·rw [h] at hmany; exact absurd hmany (by decide)
 ·exact h
theorem runV_marks (m : Int) (fs : List (List Ix)) (inp : List Int) (fuel : Int) (hf : okF fs) (h64 : R64 inp) :
  (runV m fs inp fuel).marks.length ≤ 5 * fuelN fuel ∧ ((St.buildR (toMk (runV m fs inp fuel).marks)).1 = 0 ∨ (St.buildR (toMk (runV m fs inp fuel).marks)).1 = 9) := by
 unfold runV
 split
 ·rename_i he
  have hp : prgE m fs = 0 := by
   unfold runE at he
   by_cases c : prgE m fs = 0
   ·exact c
   ·rw [if_pos c] at he; exact absurd he c
  have hle : (inp.length : Int) ≤ m := by
   unfold runE at he
   rw [if_neg (by simpa using hp)] at he
   by_cases c : m < inp.length
   ·rw [if_pos c] at he; cases he
   ·omega
  obtain ⟨hF, hn0⟩ := fns_of_prg hf hp
  have hN : fuelN fuel ≤ 100000 := by unfold fuelN; omega
  have hIv : Iv fs m.toNat 0 (initS m inp) := by
   refine ⟨init_wf hF hn0 m inp, init_lim m inp hle, fun f hf => ?_, ?_⟩
   ·have : f = ⟨1, 0, 0, z8, false, 0, 0, 0⟩ := by simpa [initS, Sv.push] using hf
    subst this
    exact r64_z8
   ·intro n hn
    have hn : n ∈ inp ++ List.replicate (m.toNat - inp.length) 0 := hn
    rcases List.mem_append.1 hn with hn | hn
    ·exact h64 n hn
    ·rw [List.eq_of_mem_replicate hn]; exact w64_small (by omega) (by omega)
  have hLx : runS m fs inp (fuelN fuel) = Lx fs (fuelN fuel) (initS m inp) := Lx_loop _ _ rfl
  refine ⟨?_, ?_⟩
  ·obtain ⟨k', h1, h2⟩ := loop_lim (fs := fs) (fuelN fuel) 0 _ (init_lim m inp hle) (by omega)
   have e1 : (runS m fs inp (fuelN fuel)).marks = (loopS fs (fuelN fuel) (initS m inp)).marks := by
    unfold runS finS
    split <;> rfl
   rw [e1]
   have := h2.marks
   omega
  ·rw [hLx]
   exact mb_build (MB.lx hF (fuelN fuel) 0 _ hIv (by omega) (mb_init m inp))
 ·refine ⟨by simp [zS], .inl ?_⟩
  rfl
section
variable (m : Int) (fs : List (List Ix)) (inp : List Int) (fuel : Int) (hf : okF fs)
include hf
theorem ref29_Run_marks {σ : Kx.St} (hi : inp.length ≤ 1000000) (h64 : R64 inp) :
  FnG Try.prog 18 [.agg (aPr m fs), aInts inp, aInt fuel] σ fun a σ' => ∃ iv c tk, a = .tup [.ref iv 0 0, aInt (runE m fs inp)] ∧ σ'[iv]? = some (.obj 0 c) ∧
   c[4]? = some (.sl (runV m fs inp fuel).marks.length ((runV m fs inp fuel).marks.flatMap aMk) tk) ∧ Kp σ σ' (fun _ => False) := by
 by_cases he : runE m fs inp = 0
 ·have hp : prgE m fs = 0 := by
   unfold runE at he
   by_cases c : prgE m fs = 0
   ·exact c
   ·rw [if_pos c] at he; exact absurd he c
  have hle : (inp.length : Int) ≤ m := by
   unfold runE at he
   rw [if_neg (by simpa using hp)] at he
   by_cases c : m < inp.length
   ·rw [if_pos c] at he; cases he
   ·omega
  refine (ref29_Run_ok m fs inp fuel hf hp hle h64).mono ?_
  rintro a σ' ⟨iv, t, s', rfl, e1, e2, e3⟩
  have hv : runV m fs inp fuel = runS m fs inp (fuelN fuel) := if_pos he
  have hmk : s'.marks = (runS m fs inp (fuelN fuel)).marks := by have := congrArg Sv.marks e1; exact this
  rw [hv, he, ← hmk]
  exact ⟨iv, _, t.m, rfl, e2.obj, rfl, e3⟩
 ·have hv : runV m fs inp fuel = zS := if_neg he
  refine (ref29_Run_err m fs inp fuel hf hi he).mono ?_
  rintro a σ' ⟨iv, rfl, e1, e2⟩
  rw [hv]
  exact ⟨iv, _, .nil, rfl, e1, rfl, e2⟩
end
set_option maxHeartbeats 32000000 in
theorem StrandRuns_a (x : Int × List (List Ix)) (inp : List Int) (fuel : Int) (hx : x.2.length ≤ 9223372036854775807) (hi : R64 inp) :
  FnP Try.prog 5 [.agg (aPr x.1 x.2), aInts inp, .v (.int .i64 fuel)] fun a => a = aBool true := by
 obtain ⟨m, fs⟩ := x
 simp only at hx ⊢
 refine fnP_in K_forebaylaw30_StrandRuns mixed rfl (by simp [AV.pureL, AV.pure, aPr_pure, aInts_pure]) ?_
 simp only [S_forebaylaw30_StrandRuns]
 have hac : (AV.agg (aPr m fs)).cells = aPr m fs := rfl
 have hII : aInts inp = .sl inp.length (inp.map aInt) .none := rfl
 refine wpa_seqx (fun ε σ => (ε 1 = aInts inp ∧ ε 2 = .v (.int .i64 fuel) ∧ ε 3 = .ref 0 0 0) ∧ σ = [.obj 0 (aPr m fs)]) ?_ ?_
 ·intro N X R hN
  push_cast (maxSteps:=999999) -implicitDefEqProofs (disch:=omega)
  refine wpa_box ?_
  push_cast (maxSteps:=999999) -implicitDefEqProofs (disch:=omega) [hac]
  exact hN _ _ (by push_cast (maxSteps:=999999) -implicitDefEqProofs (disch:=omega))
 rintro ε σ ⟨hρ, rfl⟩
 refine wpa_seqx (fun ε σ => (ε 1 = aInts inp ∧ ε 2 = .v (.int .i64 fuel) ∧ ε 3 = .ref 0 0 0) ∧ σ = [.obj 0 (aPr m fs)]) ?_ ?_
 ·intro N X R hN
  push_cast (maxSteps:=999999) -implicitDefEqProofs (disch:=omega) [hρ]
  refine wpa_call St.law30_works_a ?_
  rintro a rfl
  push_cast (maxSteps:=999999) -implicitDefEqProofs (disch:=omega) [hρ,aBool]
  exact hN _ _ (by push_cast (maxSteps:=999999) -implicitDefEqProofs (disch:=omega) [hρ])
 clear hρ ε
 rintro ε σ ⟨hρ, rfl⟩
 refine wpa_seq (fun ε σ => ((ε 1 = aInts inp ∧ ε 2 = .v (.int .i64 fuel) ∧ ε 3 = .ref 0 0 0) ∧ σ = [.obj 0 (aPr m fs)]) ∧ okF fs ∧ inp.length ≤ 1000 ∧ fuel ≤ 3000) ?_ ?_
 ·intro N hN
  push_cast (maxSteps:=999999) -implicitDefEqProofs (disch:=omega) [hρ,cellsPr]
  refine wpa_call (law04_Great_a m fs hx) ?_
  rintro a ⟨b, rfl, hb⟩
  cases b with
  | true =>
   push_cast (maxSteps:=999999) -implicitDefEqProofs (disch:=omega) [hρ,aBool]
   first | exact ⟨[], rfl, rfl⟩ | exact ⟨[], rfl⟩
  | false =>
   by_cases c : 1000 < inp.length
   ·have cI : (1000 : Int) < inp.length := by omega
    push_cast (maxSteps:=999999) -implicitDefEqProofs (disch:=omega) [hρ,hII,aBool,cI]
    first | exact ⟨[], rfl, rfl⟩ | exact ⟨[], rfl⟩
   ·have cI : ¬ (1000 : Int) < inp.length := by omega
    by_cases c2 : 3000 < fuel
    ·push_cast (maxSteps:=999999) -implicitDefEqProofs (disch:=omega) [hρ,hII,aBool,cI,c2]
     first | exact ⟨[], rfl, rfl⟩ | exact ⟨[], rfl⟩
    ·push_cast (maxSteps:=999999) -implicitDefEqProofs (disch:=omega) [hρ,hII,aBool,cI,c2]
     exact hN _ _ ⟨⟨by push_cast (maxSteps:=999999) -implicitDefEqProofs (disch:=omega) [hρ,hII], rfl⟩, hb rfl, by omega, by omega⟩
 clear hρ ε hx
 rintro ε σ ⟨⟨hρ, rfl⟩, hf, hil, hfu⟩
 have hfn : fuelN fuel ≤ 3000 := by unfold fuelN; omega
 obtain ⟨hml, hb09⟩ := runV_marks m fs inp fuel hf hi
 have hM := Marks_a m fs inp fuel hf (by omega)
 have hRun := fun σ => ref29_Run_marks m fs inp fuel hf (σ := σ) (by omega) hi
 have hno : runE m fs inp ≠ 0 → (runV m fs inp fuel).marks = [] := fun c => by unfold runV; rw [if_neg c]; rfl
 generalize (runV m fs inp fuel).marks = L at hml hb09 hM hRun hno
 have hLl : (toMk L).length ≤ 16000 := by unfold toMk; rw [List.length_map]; omega
 have hbld := St.build_a (toMk L) hLl
 have hML := toMk_eq L
 have hpn : (St.buildR (toMk L)).2.nodes.length = (St.buildR (toMk L)).2.preds.length ∧ (∀ ps ∈ (St.buildR (toMk L)).2.preds, ps.length ≤ 1000000) ∧ (St.buildR (toMk L)).2.preds.length ≤ 1000000 ∧ (St.buildR (toMk L)).2.accs.length ≤ 1000000 := by
  by_cases h0 : (St.buildR (toMk L)).1 = 0
  ·have hrun := St.buildR_ok h0
   obtain ⟨hpp, hid⟩ := St.pl_run (toMk L) St.inv0 St.pl0 hrun
   have hda := hid.c.a
   have hdp := hid.c.p
   have hdq := hid.c.q
   refine ⟨hdq, fun ps hps => ?_, by omega, by omega⟩
   have := hpp ps hps
   omega
  ·rw [St.buildR_err h0]
   exact ⟨rfl, fun ps h => by simp [St.noneB] at h, by decide, by decide⟩
 have hBuild := fun σ => St.ref30_Build_a (σ := σ) (toMk L) hLl
 have hsrc : ∀ σ : Kx.St, srcA σ 1 (aInts inp) = some (inp.length, inp.map aInt) := fun _ => rfl
 have hone : (inp.map aInt).all AV.one = true := by rw [List.all_map]; exact List.all_eq_true.2 fun x _ => rfl
 refine wpa_seqx (fun ε σ => (ε 1 = aInts inp ∧ ε 2 = .v (.int .i64 fuel) ∧ ε 3 = .ref 0 0 0 ∧ ε 7 = St.aMks (toMk L)) ∧ σ = [.obj 0 (aPr m fs)]) ?_ ?_
 ·intro N X R hN
  rw [← hML] at hN
  push_cast (maxSteps:=999999) -implicitDefEqProofs (disch:=omega) [hρ,cellsPr]
  refine wpa_call (law04_Own_a m fs hf) ?_
  rintro a rfl
  push_cast (maxSteps:=999999) -implicitDefEqProofs (disch:=omega) [hρ]
  refine wpa_bsl (sz := 1) (by simp) (by simp) ?_
  push_cast (maxSteps:=999999) -implicitDefEqProofs (disch:=omega) [hρ]
  refine wpa_app_full0 (n := 0) (cs := []) (m := inp.length) rfl (hsrc _) (by simp) hone rfl (by omega) (by omega) ?_
  push_cast (maxSteps:=999999) -implicitDefEqProofs (disch:=omega) [hρ]
  refine wpa_call hM ?_
  rintro a rfl
  push_cast (maxSteps:=999999) -implicitDefEqProofs (disch:=omega) [hρ]
  exact hN _ _ ⟨by push_cast (maxSteps:=999999) -implicitDefEqProofs (disch:=omega) [hρ], rfl⟩
 clear hρ ε
 rintro ε σ ⟨hρ, rfl⟩
 refine wpa_seqx (fun ε σ => ∃ iv c tk, (ε 7 = St.aMks (toMk L) ∧ ε 8 = .ref iv 0 0 ∧ ε 9 = .v (.int .i64 (runE m fs inp))) ∧ σ[iv]? = some (.obj 0 c) ∧ c[4]? = some (.sl L.length (L.flatMap aMk) tk)) ?_ ?_
 ·intro N X R hN
  push_cast (maxSteps:=999999) -implicitDefEqProofs (disch:=omega) [hρ,cellsPr]
  refine wpa_callG (hRun _) ?_
  rintro a σ' ⟨iv, c, tk, rfl, q1, q2, q3⟩
  push_cast (maxSteps:=999999) -implicitDefEqProofs (disch:=omega) [hρ,aInt]
  exact hN _ _ ⟨iv, c, tk, by push_cast (maxSteps:=999999) -implicitDefEqProofs (disch:=omega) [hρ], q1, q2⟩
 clear hρ ε
 rintro ε σ ⟨iv, c, tk, hρ, hiv, hc4⟩
 have hres : ∀ S : Kx.St, weak S [true] [.sl L.length (L.flatMap aMk) tk] = [St.aMks (toMk L)] := by
  intro S
  rw [← hML]
  have := aMks_res' S L tk
  simp only [weak, if_true]
  rw [this]
 generalize hRR : St.buildR (toMk L) = RR at hb09 hbld hpn hBuild
 obtain ⟨b, B⟩ := RR
 simp only at hb09 hbld hpn hBuild
 have hset : setAtA [AV.sl 0 [] .nil, AV.sl 0 [] .nil, AV.sl 0 [] .nil] 0 (St.dagC B) = St.dagC B := rfl
 refine wpa_seqx (fun ε σ => ∃ D, (ε 7 = St.aMks (toMk L) ∧ ε 8 = .ref iv 0 0 ∧ ε 9 = .v (.int .i64 (runE m fs inp)) ∧ ε 10 = .ref D 0 0 ∧ ε 11 = .v (.int .i64 b)) ∧ σ[iv]? = some (.obj 0 c) ∧ σ[D]? = some (.obj 0 (St.dagC B))) ?_ ?_
 ·intro N X R hN
  have hgo : ∀ ε' : AEnv, (ε' 7 = St.aMks (toMk L) ∧ ε' 8 = .ref iv 0 0 ∧ ε' 9 = .v (.int .i64 (runE m fs inp)) ∧ ε' 10 = .ref σ.length 0 0 ∧ ε' 11 = .v (.int .i64 b)) → act (N ε' (σ ++ [Res.obj 0 (St.dagC B)])) := fun ε' q =>
   hN _ _ ⟨σ.length, q, get_app hiv, snoc_get _ _⟩
  have e1 : (σ ++ [Res.obj 0 [AV.sl 0 [] .nil, AV.sl 0 [] .nil, AV.sl 0 [] .nil]]).set σ.length (Res.obj 0 (St.dagC B)) = σ ++ [Res.obj 0 (St.dagC B)] := by simp
  push_cast (maxSteps:=999999) -implicitDefEqProofs (disch:=omega) [hρ]
  refine wpa_call hbld ?_
  rintro a rfl
  push_cast (maxSteps:=999999) -implicitDefEqProofs (disch:=omega) [hρ,aInt]
  refine wpa_new ?_
  push_cast (maxSteps:=999999) -implicitDefEqProofs (disch:=omega) [hρ]
  refine wpa_stn (cs := [AV.sl 0 [] .nil, AV.sl 0 [] .nil, AV.sl 0 [] .nil]) rfl rfl (snoc_get σ (Res.obj 0 [AV.sl 0 [] .nil, AV.sl 0 [] .nil, AV.sl 0 [] .nil])) (by decide) ?_
  rw [hset, e1]
  push_cast (maxSteps:=999999) -implicitDefEqProofs (disch:=omega) [hρ]
  exact hgo _ (by push_cast (maxSteps:=999999) -implicitDefEqProofs (disch:=omega) [hρ])
 clear hρ ε hiv
 rintro ε σ ⟨D, hρ, hiv, hD⟩
 refine wpa_seqx (fun ε σ => ∃ D k, (ε 7 = St.aMks (toMk L) ∧ ε 9 = .v (.int .i64 (runE m fs inp)) ∧ ε 10 = .ref D 0 0 ∧ ε 11 = .v (.int .i64 b) ∧ ε 12 = .ref k 0 0 ∧ ε 13 = .v (.int .i64 b)) ∧ σ[D]? = some (.obj 0 (St.dagC B)) ∧ St.DgAt σ k B) ?_ ?_
 ·intro N X R hN
  push_cast (maxSteps:=999999) -implicitDefEqProofs (disch:=omega) [hρ,hiv,hc4]
  refine St.wpa_callGw [] [true] (hBuild _) (hres _) ?_
  rintro a σ' ⟨k, rfl, hk, hold⟩
  push_cast (maxSteps:=999999) -implicitDefEqProofs (disch:=omega) [hρ,aInt]
  exact hN _ _ ⟨D, k, by push_cast (maxSteps:=999999) -implicitDefEqProofs (disch:=omega) [hρ], (hold D (lt_at hD)).trans hD, hk⟩
 clear hρ ε hiv hD hres hc4
 rintro ε σ ⟨D, k, hρ, hD, hk⟩
 have hcl : cellsA (some 3) (St.dagC B) = some (.agg (St.dagC B)) := rfl
 have hsame := St.law30_Same_a (σ := σ) B k hk hpn.1 hpn.2.1 hpn.2.2.1 hpn.2.2.2
 have hmk : St.aMks (toMk L) = .sl (toMk L).length ((toMk L).flatMap St.aMk) .none := rfl
 rw [hmk] at hρ
 rcases hb09 with rfl | rfl
 ·push_cast (maxSteps:=999999) -implicitDefEqProofs (disch:=omega) [hρ,hD,hcl]
  refine wpa_callG hsame ?_
  rintro a σ' rfl
  by_cases hre : runE m fs inp = 0
  ·push_cast (maxSteps:=999999) -implicitDefEqProofs (disch:=omega) [hρ,aBool,hre]
   first | exact ⟨[], rfl, rfl⟩ | exact ⟨[], rfl⟩
  ·have hl0 : (toMk L).length = 0 := by rw [hno hre]; rfl
   push_cast (maxSteps:=999999) -implicitDefEqProofs (disch:=omega) [hρ,aBool,hre,hl0]
   first | exact ⟨[], rfl, rfl⟩ | exact ⟨[], rfl⟩
 ·push_cast (maxSteps:=999999) -implicitDefEqProofs (disch:=omega) [hρ,hD,hcl]
  refine wpa_callG hsame ?_
  rintro a σ' rfl
  by_cases hre : runE m fs inp = 0
  ·push_cast (maxSteps:=999999) -implicitDefEqProofs (disch:=omega) [hρ,aBool,hre]
   first | exact ⟨[], rfl, rfl⟩ | exact ⟨[], rfl⟩
  ·have hl0 : (toMk L).length = 0 := by rw [hno hre]; rfl
   push_cast (maxSteps:=999999) -implicitDefEqProofs (disch:=omega) [hρ,aBool,hre,hl0]
   first | exact ⟨[], rfl, rfl⟩ | exact ⟨[], rfl⟩
def shR : Sh := .sl 1 shN
theorem shR_read {cs : List AV} (h : Enc shR cs) : ∃ l : List Int, cs = [aInts l] ∧ R64 l := by
 obtain ⟨l, rfl, _⟩ := enc_sl1 (f := fun x : { x : Int // W64 x } => aInt x.1) (fun _ hc => by obtain ⟨x, h, a, b⟩ := shN_read hc; exact ⟨⟨x, a, b⟩, h⟩) (show Enc (.sl 1 shN) cs from h)
 refine ⟨l.map (·.1), ?_, fun n hn => ?_⟩
 ·unfold aInts aSl
  simp [List.map_map, Function.comp_def]
 ·obtain ⟨x, _, rfl⟩ := List.mem_map.1 hn
  exact x.2
theorem shR_ok : ShOk Try.prog shR 25 := ⟨3, Try.underlying25, by kernel_rfl, by omega, Try.underlying3⟩
end Go.Proofs.Ytncdnegdlkmicaa.Sr
