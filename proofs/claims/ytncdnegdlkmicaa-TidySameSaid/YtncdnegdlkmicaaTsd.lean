/- TidySame: the walk. -/
import Derived.Test.YtncdnegdlkmicaaTza
import Derived.Test.YtncdnegdlkmicaaTsm
import Derived.Test.YtncdnegdlkmicaaSen
namespace Go.Proofs.Ytncdnegdlkmicaa
set_option linter.unusedVariables false
set_option linter.unusedSimpArgs false
open Go Go.Kx Go.Proofs

theorem prg_map {m : Int} {fs : List (List Ix)} (h : prgE m fs = 0) : prgE m (fs.map fixR) = 0 := by
  obtain ⟨h0, h1, h2⟩ := prg_ok h
  refine prg_of h0 (by rw [List.length_map]; exact h1) fun x hx => ?_
  obtain ⟨l, hl, rfl⟩ := List.mem_map.1 hx
  rw [List.length_map]
  exact fixR_fo (h2 l hl)
theorem tidy_run {m : Int} {fs : List (List Ix)} {inp : List Int} {n : Int} (hf : okF fs) (he : runE m fs inp = 0) (hs : (runV m fs inp n).status ≠ 6) :
    okF (fs.map fixR) ∧ runE m (fs.map fixR) inp = 0 ∧ Same (runV m fs inp n) (runV m (fs.map fixR) inp n) := by
  obtain ⟨hp, hi⟩ := runE_ok he
  obtain ⟨hm, hmany, hfo⟩ := prg_ok hp
  have hn0 : 0 < fs.length := by
    rcases Nat.eq_zero_or_pos fs.length with h | h
    · rw [h] at hmany; exact absurd hmany (by decide)
    · exact h
  have hF : Fns fs := ⟨hfo, hf.1⟩
  have he2 : runE m (fs.map fixR) inp = 0 := by
    unfold runE
    rw [if_neg (by simp [prg_map hp]), if_neg (by omega)]
  refine ⟨⟨by rw [List.length_map]; exact hf.1, fun x hx => ?_⟩, he2, ?_⟩
  · obtain ⟨l, hl, rfl⟩ := List.mem_map.1 hx
    have := (fixR_spec (hfo l hl).rt).2.2
    have := hf.2 l hl
    omega
  · have e1 : runV m fs inp n = runS m fs inp (fuelN n) := if_pos he
    have e2 : runV m (fs.map fixR) inp n = runS m (fs.map fixR) inp (fuelN n) := if_pos he2
    rw [e1] at hs ⊢
    rw [e2]
    have := fuelN_le n
    exact tidy_same hF hn0 hi _ (by omega) hs
theorem tm3000 {x : Int} (h0 : 0 ≤ x) : 0 ≤ x.tmod 3000 ∧ x.tmod 3000 < 3000 := by
  have := Int.tmod_eq_emod_of_nonneg h0 (b := 3000)
  omega
set_option maxHeartbeats 16000000 in
theorem TidySame_a (x : Int × List (List Ix)) (inp : List Int) (fuel : Int) (hx : x.2.length ≤ 9223372036854775807) (hi : inp.length ≤ 9223372036854775807) (hfu : 0 ≤ fuel ∧ fuel < 65536) :
    FnP Try.prog 4 [.agg (aPr x.1 x.2), aInts inp, .v (.int .u16 fuel)] fun a => a = aBool true := by
  obtain ⟨m, fs⟩ := x
  simp only at hx ⊢
  refine fnP_in K_forebaylaw42_TidySame mixed rfl (by simp [AV.pureL, AV.pure, aPr_pure, aInts_pure]) ?_
  simp only [S_forebaylaw42_TidySame]
  have hac : (AV.agg (aPr m fs)).cells = aPr m fs := rfl
  have hII : aInts inp = .sl inp.length (inp.map aInt) .none := rfl
  refine wpa_seqx (fun ε σ => (ε 1 = aInts inp ∧ ε 2 = .v (.int .u16 fuel) ∧ ε 3 = .ref 0 0 0) ∧ σ = [.obj 0 (aPr m fs)]) ?_ ?_
  · intro N X R hN
    simp (maxSteps := 1000000) (implicitDefEqProofs := false) (disch := omega) only [push_cast, ↓reduceIte, Nat.reduceEqDiff, reduceCtorEq, wz]
    refine wpa_box ?_
    simp (maxSteps := 1000000) (implicitDefEqProofs := false) (disch := omega) only [push_cast, ↓reduceIte, Nat.reduceEqDiff, reduceCtorEq, wz, hac]
    exact hN _ _ (by simp (maxSteps := 1000000) (implicitDefEqProofs := false) (disch := omega) only [push_cast, ↓reduceIte, Nat.reduceEqDiff, reduceCtorEq, wz])
  rintro ε σ ⟨hρ, rfl⟩
  refine wpa_seq (fun ε σ => (ε 1 = aInts inp ∧ ε 2 = .v (.int .u16 fuel) ∧ ε 3 = .ref 0 0 0) ∧ σ = [.obj 0 (aPr m fs)]) ?_ ?_
  · intro N hN
    simp (maxSteps := 1000000) (implicitDefEqProofs := false) (disch := omega) only [push_cast, ↓reduceIte, Nat.reduceEqDiff, reduceCtorEq, wz]
    refine wpa_call law42_works_a ?_
    rintro a rfl
    simp (maxSteps := 1000000) (implicitDefEqProofs := false) (disch := omega) only [push_cast, ↓reduceIte, Nat.reduceEqDiff, reduceCtorEq, wz, aBool]
    exact hN _ _ (by simp (maxSteps := 1000000) (implicitDefEqProofs := false) (disch := omega) only [push_cast, ↓reduceIte, Nat.reduceEqDiff, reduceCtorEq, wz, hρ])
  clear hρ ε
  rintro ε σ ⟨hρ, rfl⟩
  refine wpa_seq (fun ε σ => (ε 1 = aInts inp ∧ ε 2 = .v (.int .u16 fuel) ∧ ε 3 = .ref 0 0 0) ∧ σ = [.obj 0 (aPr m fs)] ∧ okF fs ∧ inp.length ≤ 1000) ?_ ?_
  · intro N hN
    simp (maxSteps := 1000000) (implicitDefEqProofs := false) (disch := omega) only [push_cast, ↓reduceIte, Nat.reduceEqDiff, reduceCtorEq, wz, hρ, cellsPr]
    refine wpa_call (law04_Great_a m fs hx) ?_
    rintro a ⟨b, rfl, hb⟩
    cases b with
    | true =>
      simp (maxSteps := 1000000) (implicitDefEqProofs := false) (disch := omega) only [push_cast, ↓reduceIte, Nat.reduceEqDiff, reduceCtorEq, wz, aBool]
      first | exact ⟨[], rfl, rfl⟩ | exact ⟨[], rfl⟩
    | false =>
      by_cases c : 1000 < inp.length
      · simp (maxSteps := 1000000) (implicitDefEqProofs := false) (disch := omega) only [push_cast, ↓reduceIte, Nat.reduceEqDiff, reduceCtorEq, wz, hρ, hII, aBool, c]
        first | exact ⟨[], rfl, rfl⟩ | exact ⟨[], rfl⟩
      · simp (maxSteps := 1000000) (implicitDefEqProofs := false) (disch := omega) only [push_cast, ↓reduceIte, Nat.reduceEqDiff, reduceCtorEq, wz, hρ, hII, aBool, c]
        exact hN _ _ ⟨by simp (maxSteps := 1000000) (implicitDefEqProofs := false) (disch := omega) only [push_cast, ↓reduceIte, Nat.reduceEqDiff, reduceCtorEq, wz, hρ, hII], rfl, hb rfl, by omega⟩
  clear hρ ε hx hi
  rintro ε σ ⟨hρ, rfl, hf, hi⟩
  obtain ⟨hfu1, hfu2⟩ := hfu
  have q1 := v_rem .i64 fuel 3000 (by decide)
  have w1 : IntKind.i64.wrap fuel = fuel := w64_id hfu1 (by omega)
  obtain ⟨a0, a1⟩ := tm3000 hfu1
  refine wpa_seqx (fun ε σ => (ε 1 = aInts inp ∧ ε 3 = .ref 0 0 0 ∧ ε 7 = .v (.int .i64 (fuel.tmod 3000))) ∧ σ = [.obj 0 (aPr m fs)]) ?_ ?_
  · intro N X R hN
    simp (maxSteps := 1000000) (implicitDefEqProofs := false) (disch := omega) only [push_cast, ↓reduceIte, Nat.reduceEqDiff, reduceCtorEq, wz, hρ, w1, q1]
    exact hN _ _ ⟨by simp (maxSteps := 1000000) (implicitDefEqProofs := false) (disch := omega) only [push_cast, ↓reduceIte, Nat.reduceEqDiff, reduceCtorEq, wz, hρ], rfl⟩
  clear hρ ε q1 w1
  rintro ε σ ⟨hρ, rfl⟩
  generalize fuel.tmod 3000 = fa at *
  have hsetP : ∀ m' fs', setAtA [AV.v (.int .i64 0), AV.sl 0 [] .nil] 0 (aPr m' fs') = aPr m' fs' := fun m' fs' => rfl
  have hTA : tidyA m fs = .tup [.agg (aPr (tidyM m fs) (tidyF m fs)), aInt (tidyN m fs : Nat), aInt (prgE m fs)] := rfl
  have hT0 : prgE m fs = 0 → tidyM m fs = m ∧ tidyF m fs = fs.map fixR := fun h => ⟨by unfold tidyM; rw [if_pos h], by unfold tidyF; rw [if_pos h]⟩
  generalize tidyM m fs = m' at hTA hT0
  generalize tidyF m fs = fs' at hTA hT0
  generalize tidyN m fs = n' at hTA
  refine wpa_seqx (fun ε σ => (ε 1 = aInts inp ∧ ε 3 = .ref 0 0 0 ∧ ε 7 = .v (.int .i64 fa) ∧ ε 8 = .ref 1 0 0 ∧ ε 10 = .v (.int .i64 (prgE m fs))) ∧ σ = [.obj 0 (aPr m fs), .obj 0 (aPr m' fs')]) ?_ ?_
  · intro N X R hN
    simp (maxSteps := 1000000) (implicitDefEqProofs := false) (disch := omega) only [push_cast, ↓reduceIte, Nat.reduceEqDiff, reduceCtorEq, wz, hρ, cellsPr]
    refine wpa_call (law04_Own_a m fs hf) ?_
    rintro a rfl
    simp (maxSteps := 1000000) (implicitDefEqProofs := false) (disch := omega) only [push_cast, ↓reduceIte, Nat.reduceEqDiff, reduceCtorEq, wz]
    refine wpa_call (tidy_Program_a m fs hf) ?_
    rintro a rfl
    rw [hTA]
    simp (maxSteps := 1000000) (implicitDefEqProofs := false) (disch := omega) only [push_cast, ↓reduceIte, Nat.reduceEqDiff, reduceCtorEq, wz, aInt]
    refine wpa_new ?_
    simp (maxSteps := 1000000) (implicitDefEqProofs := false) (disch := omega) only [push_cast, ↓reduceIte, Nat.reduceEqDiff, reduceCtorEq, wz]
    refine wpa_stn (cs := [AV.v (.int .i64 0), AV.sl 0 [] .nil]) rfl rfl rfl (by decide) ?_
    rw [hsetP]
    simp (maxSteps := 1000000) (implicitDefEqProofs := false) (disch := omega) only [push_cast, ↓reduceIte, Nat.reduceEqDiff, reduceCtorEq, wz]
    exact hN _ _ ⟨by simp (maxSteps := 1000000) (implicitDefEqProofs := false) (disch := omega) only [push_cast, ↓reduceIte, Nat.reduceEqDiff, reduceCtorEq, wz, hρ], rfl⟩
  clear hρ ε
  rintro ε σ ⟨hρ, rfl⟩
  have lA := runV_lim m fs inp fa
  have f1 := fuelN_le fa
  have hE1 := Eval_a m fs inp fa hf (by omega)
  have hM1 := Marks_a m fs inp fa hf (by omega)
  have hset : ∀ s : Sv, setAtA [AV.v (.int .i64 0), AV.v (.int .i64 0), .sl 0 [] .nil, .sl 0 [] .nil, AV.v (.int .i64 0), AV.v (.int .i64 0), AV.v (.int .i64 0)] 0 (aOc s) = aOc s := fun _ => rfl
  have hsrc : ∀ σ : Kx.St, srcA σ 1 (aInts inp) = some (inp.length, inp.map aInt) := fun _ => rfl
  have h1 : (inp.map aInt).all AV.one = true := by rw [List.all_map]; exact List.all_eq_true.2 fun x _ => rfl
  have hap : ([] : List AV) ++ inp.map aInt = inp.map aInt := rfl
  have o (s : Sv) : (aOc s)[0]? = some (.v (.int .i64 s.status)) ∧ (aOc s)[1]? = some (.v (.int .i64 s.why)) ∧ (aOc s)[2]? = some (.sl s.out.length (s.out.map aInt) .none) ∧ (aOc s)[3]? = some (.sl s.data.length (s.data.map aInt) .none) ∧ (aOc s)[4]? = some (.v (.int .i64 s.steps)) ∧ (aOc s)[5]? = some (.v (.int .i64 s.frames)) ∧ (aOc s)[6]? = some (.v (.int .i64 s.deepest)) := ⟨rfl, rfl, rfl, rfl, rfl, rfl, rfl⟩
  refine wpa_seqx (fun ε σ => (ε 1 = aInts inp ∧ ε 3 = .ref 0 0 0 ∧ ε 7 = .v (.int .i64 fa) ∧ ε 8 = .ref 1 0 0 ∧ ε 10 = .v (.int .i64 (prgE m fs)) ∧ ε 11 = .ref 2 0 0 ∧ ε 12 = .v (.int .i64 (runE m fs inp))) ∧ σ = [.obj 0 (aPr m fs), .obj 0 (aPr m' fs'), .obj 0 (aOc (runV m fs inp fa))]) ?_ ?_
  · intro N X R hN
    simp (maxSteps := 1000000) (implicitDefEqProofs := false) (disch := omega) only [push_cast, ↓reduceIte, Nat.reduceEqDiff, reduceCtorEq, wz, hρ, cellsPr]
    refine wpa_call (law04_Own_a m fs hf) ?_
    rintro a rfl
    simp (maxSteps := 1000000) (implicitDefEqProofs := false) (disch := omega) only [push_cast, ↓reduceIte, Nat.reduceEqDiff, reduceCtorEq, wz, hρ]
    refine wpa_bsl (sz := 1) (by simp) (by simp) ?_
    simp (maxSteps := 1000000) (implicitDefEqProofs := false) (disch := omega) only [push_cast, ↓reduceIte, Nat.reduceEqDiff, reduceCtorEq, wz, hρ]
    refine wpa_app_full0 (n := 0) (cs := []) (m := inp.length) rfl (hsrc _) (by simp) h1 rfl (by omega) (by omega) ?_
    simp (maxSteps := 1000000) (implicitDefEqProofs := false) (disch := omega) only [push_cast, ↓reduceIte, Nat.reduceEqDiff, reduceCtorEq, wz, hρ]
    refine wpa_call hE1 ?_
    rintro a rfl
    simp (maxSteps := 1000000) (implicitDefEqProofs := false) (disch := omega) only [push_cast, ↓reduceIte, Nat.reduceEqDiff, reduceCtorEq, wz, aInt]
    refine wpa_new ?_
    simp (maxSteps := 1000000) (implicitDefEqProofs := false) (disch := omega) only [push_cast, ↓reduceIte, Nat.reduceEqDiff, reduceCtorEq, wz]
    refine wpa_stn (cs := [AV.v (.int .i64 0), AV.v (.int .i64 0), .sl 0 [] .nil, .sl 0 [] .nil, AV.v (.int .i64 0), AV.v (.int .i64 0), AV.v (.int .i64 0)]) rfl rfl rfl (by decide) ?_
    rw [hset]
    simp (maxSteps := 1000000) (implicitDefEqProofs := false) (disch := omega) only [push_cast, ↓reduceIte, Nat.reduceEqDiff, reduceCtorEq, wz]
    exact hN _ _ ⟨by simp (maxSteps := 1000000) (implicitDefEqProofs := false) (disch := omega) only [push_cast, ↓reduceIte, Nat.reduceEqDiff, reduceCtorEq, wz, hρ], rfl⟩
  clear hρ ε
  rintro ε σ ⟨hρ, rfl⟩
  refine wpa_seq (fun ε σ => (ε 1 = aInts inp ∧ ε 3 = .ref 0 0 0 ∧ ε 7 = .v (.int .i64 fa) ∧ ε 8 = .ref 1 0 0 ∧ ε 11 = .ref 2 0 0) ∧ σ = [.obj 0 (aPr m fs), .obj 0 (aPr m' fs'), .obj 0 (aOc (runV m fs inp fa))] ∧ runE m fs inp = 0 ∧ (runV m fs inp fa).status ≠ 6) ?_ ?_
  · intro N hN
    by_cases c1 : prgE m fs = 0
    · by_cases c2 : runE m fs inp = 0
      · by_cases c3 : (runV m fs inp fa).status = 6
        · simp (maxSteps := 1000000) (implicitDefEqProofs := false) (disch := omega) only [push_cast, ↓reduceIte, Nat.reduceEqDiff, reduceCtorEq, wz, hρ, c1, c2, o (runV m fs inp fa), c3]
          first | exact ⟨[], rfl, rfl⟩ | exact ⟨[], rfl⟩
        · simp (maxSteps := 1000000) (implicitDefEqProofs := false) (disch := omega) only [push_cast, ↓reduceIte, Nat.reduceEqDiff, reduceCtorEq, wz, hρ, c1, c2, o (runV m fs inp fa), c3]
          exact hN _ _ ⟨by simp (maxSteps := 1000000) (implicitDefEqProofs := false) (disch := omega) only [push_cast, ↓reduceIte, Nat.reduceEqDiff, reduceCtorEq, wz, hρ], rfl, c2, c3⟩
      · simp (maxSteps := 1000000) (implicitDefEqProofs := false) (disch := omega) only [push_cast, ↓reduceIte, Nat.reduceEqDiff, reduceCtorEq, wz, hρ, c1, c2]
        first | exact ⟨[], rfl, rfl⟩ | exact ⟨[], rfl⟩
    · simp (maxSteps := 1000000) (implicitDefEqProofs := false) (disch := omega) only [push_cast, ↓reduceIte, Nat.reduceEqDiff, reduceCtorEq, wz, hρ, c1]
      first | exact ⟨[], rfl, rfl⟩ | exact ⟨[], rfl⟩
  clear hρ ε
  rintro ε σ ⟨hρ, rfl, he, hst⟩
  obtain ⟨rfl, rfl⟩ := hT0 (runE_ok he).1
  obtain ⟨hf2, he2, hS⟩ := tidy_run hf he hst
  have lB := runV_lim m' (fs.map fixR) inp fa
  have hE2 := Eval_a m' (fs.map fixR) inp fa hf2 (by omega)
  have hM2 := Marks_a m' (fs.map fixR) inp fa hf2 (by omega)
  rw [he2] at hE2
  generalize runV m' fs inp fa = A at hM1 hS lA hst hE1 hρ ⊢
  generalize runV m' (fs.map fixR) inp fa = B at hE2 hM2 hS lB
  generalize fs.map fixR = fs' at hf2 hE2 hM2 ⊢
  refine wpa_seqx (fun ε σ => (ε 1 = aInts inp ∧ ε 3 = .ref 0 0 0 ∧ ε 7 = .v (.int .i64 fa) ∧ ε 8 = .ref 1 0 0 ∧ ε 11 = .ref 2 0 0 ∧ ε 13 = .ref 3 0 0 ∧ ε 14 = .v (.int .i64 0)) ∧ σ = [.obj 0 (aPr m' fs), .obj 0 (aPr m' fs'), .obj 0 (aOc A), .obj 0 (aOc B)]) ?_ ?_
  · intro N X R hN
    simp (maxSteps := 1000000) (implicitDefEqProofs := false) (disch := omega) only [push_cast, ↓reduceIte, Nat.reduceEqDiff, reduceCtorEq, wz, hρ, cellsPr]
    refine wpa_call (law04_Own_a m' fs' hf2) ?_
    rintro a rfl
    simp (maxSteps := 1000000) (implicitDefEqProofs := false) (disch := omega) only [push_cast, ↓reduceIte, Nat.reduceEqDiff, reduceCtorEq, wz, hρ]
    refine wpa_bsl (sz := 1) (by simp) (by simp) ?_
    simp (maxSteps := 1000000) (implicitDefEqProofs := false) (disch := omega) only [push_cast, ↓reduceIte, Nat.reduceEqDiff, reduceCtorEq, wz, hρ]
    refine wpa_app_full0 (n := 0) (cs := []) (m := inp.length) rfl (hsrc _) (by simp) h1 rfl (by omega) (by omega) ?_
    simp (maxSteps := 1000000) (implicitDefEqProofs := false) (disch := omega) only [push_cast, ↓reduceIte, Nat.reduceEqDiff, reduceCtorEq, wz, hρ]
    refine wpa_call hE2 ?_
    rintro a rfl
    simp (maxSteps := 1000000) (implicitDefEqProofs := false) (disch := omega) only [push_cast, ↓reduceIte, Nat.reduceEqDiff, reduceCtorEq, wz, aInt]
    refine wpa_new ?_
    simp (maxSteps := 1000000) (implicitDefEqProofs := false) (disch := omega) only [push_cast, ↓reduceIte, Nat.reduceEqDiff, reduceCtorEq, wz]
    refine wpa_stn (cs := [AV.v (.int .i64 0), AV.v (.int .i64 0), .sl 0 [] .nil, .sl 0 [] .nil, AV.v (.int .i64 0), AV.v (.int .i64 0), AV.v (.int .i64 0)]) rfl rfl rfl (by decide) ?_
    rw [hset]
    simp (maxSteps := 1000000) (implicitDefEqProofs := false) (disch := omega) only [push_cast, ↓reduceIte, Nat.reduceEqDiff, reduceCtorEq, wz]
    exact hN _ _ ⟨by simp (maxSteps := 1000000) (implicitDefEqProofs := false) (disch := omega) only [push_cast, ↓reduceIte, Nat.reduceEqDiff, reduceCtorEq, wz, hρ], rfl⟩
  clear hρ ε
  rintro ε σ ⟨hρ, rfl⟩
  refine wpa_seqx (fun ε σ => (ε 1 = aInts inp ∧ ε 7 = .v (.int .i64 fa) ∧ ε 8 = .ref 1 0 0 ∧ ε 11 = .ref 2 0 0 ∧ ε 13 = .ref 3 0 0 ∧ ε 14 = .v (.int .i64 0) ∧ ε 15 = aMks A.marks) ∧ σ = [.obj 0 (aPr m' fs), .obj 0 (aPr m' fs'), .obj 0 (aOc A), .obj 0 (aOc B)]) ?_ ?_
  · intro N X R hN
    simp (maxSteps := 1000000) (implicitDefEqProofs := false) (disch := omega) only [push_cast, ↓reduceIte, Nat.reduceEqDiff, reduceCtorEq, wz, hρ, cellsPr]
    refine wpa_call (law04_Own_a m' fs hf) ?_
    rintro a rfl
    simp (maxSteps := 1000000) (implicitDefEqProofs := false) (disch := omega) only [push_cast, ↓reduceIte, Nat.reduceEqDiff, reduceCtorEq, wz, hρ]
    refine wpa_bsl (sz := 1) (by simp) (by simp) ?_
    simp (maxSteps := 1000000) (implicitDefEqProofs := false) (disch := omega) only [push_cast, ↓reduceIte, Nat.reduceEqDiff, reduceCtorEq, wz, hρ]
    refine wpa_app_full0 (n := 0) (cs := []) (m := inp.length) rfl (hsrc _) (by simp) h1 rfl (by omega) (by omega) ?_
    simp (maxSteps := 1000000) (implicitDefEqProofs := false) (disch := omega) only [push_cast, ↓reduceIte, Nat.reduceEqDiff, reduceCtorEq, wz, hρ]
    refine wpa_call hM1 ?_
    rintro a rfl
    simp (maxSteps := 1000000) (implicitDefEqProofs := false) (disch := omega) only [push_cast, ↓reduceIte, Nat.reduceEqDiff, reduceCtorEq, wz]
    exact hN _ _ ⟨by simp (maxSteps := 1000000) (implicitDefEqProofs := false) (disch := omega) only [push_cast, ↓reduceIte, Nat.reduceEqDiff, reduceCtorEq, wz, hρ], rfl⟩
  clear hρ ε
  rintro ε σ ⟨hρ, rfl⟩
  refine wpa_seqx (fun ε σ => (ε 11 = .ref 2 0 0 ∧ ε 13 = .ref 3 0 0 ∧ ε 14 = .v (.int .i64 0) ∧ ε 15 = aMks A.marks ∧ ε 16 = aMks B.marks) ∧ σ = [.obj 0 (aPr m' fs), .obj 0 (aPr m' fs'), .obj 0 (aOc A), .obj 0 (aOc B)]) ?_ ?_
  · intro N X R hN
    simp (maxSteps := 1000000) (implicitDefEqProofs := false) (disch := omega) only [push_cast, ↓reduceIte, Nat.reduceEqDiff, reduceCtorEq, wz, hρ, cellsPr]
    refine wpa_call (law04_Own_a m' fs' hf2) ?_
    rintro a rfl
    simp (maxSteps := 1000000) (implicitDefEqProofs := false) (disch := omega) only [push_cast, ↓reduceIte, Nat.reduceEqDiff, reduceCtorEq, wz, hρ]
    refine wpa_bsl (sz := 1) (by simp) (by simp) ?_
    simp (maxSteps := 1000000) (implicitDefEqProofs := false) (disch := omega) only [push_cast, ↓reduceIte, Nat.reduceEqDiff, reduceCtorEq, wz, hρ]
    refine wpa_app_full0 (n := 0) (cs := []) (m := inp.length) rfl (hsrc _) (by simp) h1 rfl (by omega) (by omega) ?_
    simp (maxSteps := 1000000) (implicitDefEqProofs := false) (disch := omega) only [push_cast, ↓reduceIte, Nat.reduceEqDiff, reduceCtorEq, wz, hρ]
    refine wpa_call hM2 ?_
    rintro a rfl
    simp (maxSteps := 1000000) (implicitDefEqProofs := false) (disch := omega) only [push_cast, ↓reduceIte, Nat.reduceEqDiff, reduceCtorEq, wz]
    exact hN _ _ ⟨by simp (maxSteps := 1000000) (implicitDefEqProofs := false) (disch := omega) only [push_cast, ↓reduceIte, Nat.reduceEqDiff, reduceCtorEq, wz, hρ], rfl⟩
  clear hρ ε hE1 hE2 hM1 hM2
  rintro ε σ ⟨hρ, rfl⟩
  obtain ⟨s1, s2, s3, s4, s5, s6, s7, s8⟩ := hS
  have hMA : aMks A.marks = .sl A.marks.length (A.marks.flatMap aMk) .none := rfl
  rw [s1] at hρ
  refine wpa_seq (fun ε σ => (ε 11 = .ref 2 0 0 ∧ ε 13 = .ref 3 0 0 ∧ ε 15 = aMks A.marks ∧ ε 16 = aMks A.marks) ∧ σ = [.obj 0 (aPr m' fs), .obj 0 (aPr m' fs'), .obj 0 (aOc A), .obj 0 (aOc B)]) ?_ ?_
  · intro N hN
    simp (maxSteps := 1000000) (implicitDefEqProofs := false) (disch := omega) only [push_cast, ↓reduceIte, Nat.reduceEqDiff, reduceCtorEq, wz, hρ, hMA]
    exact hN _ _ ⟨by simp (maxSteps := 1000000) (implicitDefEqProofs := false) (disch := omega) only [push_cast, ↓reduceIte, Nat.reduceEqDiff, reduceCtorEq, wz, hρ, hMA], rfl⟩
  clear hρ ε
  rintro ε σ ⟨hρ, rfl⟩
  refine wpa_seqx (fun ε σ => (ε 11 = .ref 2 0 0 ∧ ε 13 = .ref 3 0 0) ∧ σ = [.obj 0 (aPr m' fs), .obj 0 (aPr m' fs'), .obj 0 (aOc A), .obj 0 (aOc B)]) ?_ ?_
  · intro N X R hN
    simp (maxSteps := 1000000) (implicitDefEqProofs := false) (disch := omega) only [push_cast, ↓reduceIte, Nat.reduceEqDiff, reduceCtorEq, wz, hρ]
    refine wpa_blx (α := Nat) (I := fun k ε σ => (ε 11 = .ref 2 0 0 ∧ ε 13 = .ref 3 0 0 ∧ ε 15 = aMks A.marks ∧ ε 16 = aMks A.marks ∧ ε 17 = .v (.int .i64 k)) ∧ k ≤ A.marks.length ∧ σ = [.obj 0 (aPr m' fs), .obj 0 (aPr m' fs'), .obj 0 (aOc A), .obj 0 (aOc B)])
      (μ := fun k => A.marks.length - k) (Q := fun ε σ => (ε 11 = .ref 2 0 0 ∧ ε 13 = .ref 3 0 0) ∧ σ = [.obj 0 (aPr m' fs), .obj 0 (aPr m' fs'), .obj 0 (aOc A), .obj 0 (aOc B)]) (x := 0) ?_ ?_ ?_
    · simp (maxSteps := 1000000) (implicitDefEqProofs := false) (disch := omega) only [push_cast, ↓reduceIte, Nat.reduceEqDiff, reduceCtorEq, wz, hρ]
      omega
    · rintro k ε σ N E X' R' ⟨hρ, hk, rfl⟩ hN hE
      simp only [S_forebaylaw42_TidySame_L1]
      by_cases hlt : k < A.marks.length
      · obtain ⟨p, hp⟩ := at_lt hlt
        have d1 := flat_drop aMk_len hp
        have hq := eqsMk true p p
        have hq' : (true != decide (p = p)) = false := by simp
        rw [hq'] at hq
        simp (maxSteps := 1000000) (implicitDefEqProofs := false) (disch := omega) only [push_cast, ↓reduceIte, Nat.reduceEqDiff, reduceCtorEq, wz, hρ, hMA, d1, cells3m, hq]
        refine hN (k + 1) _ _ ?_ (by omega)
        simp (maxSteps := 1000000) (implicitDefEqProofs := false) (disch := omega) only [push_cast, ↓reduceIte, Nat.reduceEqDiff, reduceCtorEq, wz, hρ, hMA]
        omega
      · simp (maxSteps := 1000000) (implicitDefEqProofs := false) (disch := omega) only [push_cast, ↓reduceIte, Nat.reduceEqDiff, reduceCtorEq, wz, hρ, hMA]
        refine hE _ _ ?_
        simp (maxSteps := 1000000) (implicitDefEqProofs := false) (disch := omega) only [push_cast, ↓reduceIte, Nat.reduceEqDiff, reduceCtorEq, wz, hρ, hMA]
    · rintro ε σ h
      exact hN _ _ h
  clear hρ ε
  rintro ε σ ⟨hρ, rfl⟩
  have oA := o A
  have oB := o B
  rw [s2, s3, s4, s5, s6, s7] at oB
  have n8 : B.steps ≤ A.steps := s8
  simp (maxSteps := 1000000) (implicitDefEqProofs := false) (disch := omega) only [push_cast, ↓reduceIte, Nat.reduceEqDiff, reduceCtorEq, wz, hρ, oA, oB]
  refine wpa_call (law05_Ints_a A.out A.out (by omega) (by omega)) ?_
  rintro a rfl
  rw [beq_self_eq_true]
  simp (maxSteps := 1000000) (implicitDefEqProofs := false) (disch := omega) only [push_cast, ↓reduceIte, Nat.reduceEqDiff, reduceCtorEq, wz, hρ, aBool, oA, oB]
  refine wpa_call (law05_Ints_a A.data A.data (by omega) (by omega)) ?_
  rintro a rfl
  rw [beq_self_eq_true]
  simp (maxSteps := 1000000) (implicitDefEqProofs := false) (disch := omega) only [push_cast, ↓reduceIte, Nat.reduceEqDiff, reduceCtorEq, wz, hρ, aBool, oA, oB, n8]
  first | exact ⟨[], rfl, rfl⟩ | exact ⟨[], rfl⟩
end Go.Proofs.Ytncdnegdlkmicaa
