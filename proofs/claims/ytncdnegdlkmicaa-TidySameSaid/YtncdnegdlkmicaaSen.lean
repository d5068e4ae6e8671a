/- SerialFuel: the law in plain; the walk. -/
import Derived.Test.YtncdnegdlkmicaaSem
namespace Go.Proofs.Ytncdnegdlkmicaa
set_option linter.unusedVariables false
set_option linter.unusedSimpArgs false
open Go Go.Kx Go.Proofs

theorem runE_ok {m : Int} {fs : List (List Ix)} {inp : List Int} (h : runE m fs inp = 0) : prgE m fs = 0 ∧ (inp.length : Int) ≤ m := by
  unfold runE at h
  by_cases c : prgE m fs = 0
  · rw [if_neg (by simpa using c)] at h
    refine ⟨c, ?_⟩
    by_cases c2 : m < inp.length
    · rw [if_pos c2] at h; cases h
    · omega
  · rw [if_pos c] at h; exact absurd h c
theorem fuelN_le (n : Int) : fuelN n ≤ 100000 := by unfold fuelN; omega
theorem fuelN_eq {n : Int} (h0 : 0 ≤ n) (h1 : n ≤ 100000) : (fuelN n : Int) = n := by unfold fuelN; omega
theorem runV_lim (m : Int) (fs : List (List Ix)) (inp : List Int) (fuel : Int) : (runV m fs inp fuel).marks.length ≤ 5 * fuelN fuel ∧ (runV m fs inp fuel).out.length ≤ 5 * fuelN fuel ∧ (runV m fs inp fuel).data.length ≤ 256 := by
  unfold runV
  by_cases h : runE m fs inp = 0
  · rw [if_pos h]
    obtain ⟨hp, hi⟩ := runE_ok h
    obtain ⟨hm, _, _⟩ := prg_ok hp
    have := fuelN_le fuel
    obtain ⟨k, h1, h2⟩ := loop_lim (fs := fs) (fuelN fuel) 0 _ (init_lim m inp hi) (by omega)
    have e : ∀ s : Sv, (finS s).marks = s.marks ∧ (finS s).out = s.out ∧ (finS s).data = s.data := by
      intro s; unfold finS; split <;> simp [Sv.stop]
    unfold runS
    obtain ⟨e1, e2, e3⟩ := e (loopS fs (fuelN fuel) (initS m inp))
    rw [e1, e2, e3]
    have a1 := h2.marks
    have a2 := h2.out
    have a3 := h2.data
    exact ⟨by omega, by omega, by omega⟩
  · rw [if_neg h]
    exact ⟨Nat.zero_le _, Nat.zero_le _, Nat.zero_le _⟩
theorem fuel_law (m : Int) (fs : List (List Ix)) (inp : List Int) {a b : Int} (ha : 0 ≤ a) (ha2 : a ≤ 10000) (hb : 0 ≤ b) (hb2 : b ≤ 10000) :
    Ge (runV m fs inp a) (runV m fs inp (a + b)) ∧ ((runV m fs inp a).status = 6 ∨ runV m fs inp (a + b) = runV m fs inp a) := by
  unfold runV
  by_cases h : runE m fs inp = 0
  · rw [if_pos h, if_pos h]
    have e1 := fuelN_eq ha (by omega)
    have e2 := fuelN_eq hb (by omega)
    have e3 := fuelN_eq (n := a + b) (by omega) (by omega)
    have e4 : fuelN (a + b) = fuelN a + fuelN b := by omega
    rw [e4]
    exact fuel_more (runE_ok h).2 _ _ (by omega)
  · rw [if_neg h, if_neg h]
    exact ⟨.refl _, .inr rfl⟩
theorem eqsMk (n : Bool) (x y : Int × Int) : PF.av (.eqs n [.int .i64, .int .i64, .int .i64]) [.agg (aMk x), .agg (aMk y)] = some (.v (.bool (n != decide (x = y)))) := by
  show ((PF.val (.eqs n [.int .i64, .int .i64, .int .i64]) [.agg [.int .i64 x.1, .int .i64 x.2, .int .i64 0].toArray, .agg [.int .i64 y.1, .int .i64 y.2, .int .i64 0].toArray]).map AV.v) = _
  obtain ⟨p, a⟩ := x
  obtain ⟨p', a'⟩ := y
  have h : (decide (((p, a) : Int × Int) = (p', a'))) = (decide (p = p') && decide (a = a')) := by rw [Bool.eq_iff_iff]; simp
  rw [h]
  simp only [PF.val, eqCs, eqC]
  have k (u v : Int) : (u == v) = decide (u = v) := by rw [Bool.eq_iff_iff]; simp
  simp only [k]
  by_cases h1 : p = p' <;> by_cases h2 : a = a' <;> cases n <;> simp [h1, h2]
theorem tm2000 {x : Int} (h0 : 0 ≤ x) : 0 ≤ x.tmod 2000 ∧ x.tmod 2000 < 2000 := by
  have := Int.tmod_eq_emod_of_nonneg h0 (b := 2000)
  omega
theorem cells3m (p : Int × Int) (t : List AV) : cellsA (some 3) (aMk p ++ t) = some (.agg (aMk p)) := by rw [cellsA_n _ _ (by simp [aMk])]; rfl
set_option maxHeartbeats 16000000 in
theorem SerialFuel_a (x : Int × List (List Ix)) (inp : List Int) (fuel more : Int) (hx : x.2.length ≤ 9223372036854775807) (hi : inp.length ≤ 9223372036854775807) (hfu : 0 ≤ fuel ∧ fuel < 65536) (hmo : 0 ≤ more ∧ more < 65536) :
    FnP Try.prog 3 [.agg (aPr x.1 x.2), aInts inp, .v (.int .u16 fuel), .v (.int .u16 more)] fun a => a = aBool true := by
  obtain ⟨m, fs⟩ := x
  simp only at hx ⊢
  refine fnP_in K_forebaylaw29_SerialFuel mixed rfl (by simp [AV.pureL, AV.pure, aPr_pure, aInts_pure]) ?_
  simp only [S_forebaylaw29_SerialFuel]
  have hac : (AV.agg (aPr m fs)).cells = aPr m fs := rfl
  have hII : aInts inp = .sl inp.length (inp.map aInt) .none := rfl
  refine wpa_seqx (fun ε σ => (ε 1 = aInts inp ∧ ε 2 = .v (.int .u16 fuel) ∧ ε 3 = .v (.int .u16 more) ∧ ε 4 = .ref 0 0 0) ∧ σ = [.obj 0 (aPr m fs)]) ?_ ?_
  · intro N X R hN
    simp (maxSteps := 1000000) (implicitDefEqProofs := false) (disch := omega) only [push_cast, ↓reduceIte, Nat.reduceEqDiff, reduceCtorEq, wz]
    refine wpa_box ?_
    simp (maxSteps := 1000000) (implicitDefEqProofs := false) (disch := omega) only [push_cast, ↓reduceIte, Nat.reduceEqDiff, reduceCtorEq, wz, hac]
    exact hN _ _ (by simp (maxSteps := 1000000) (implicitDefEqProofs := false) (disch := omega) only [push_cast, ↓reduceIte, Nat.reduceEqDiff, reduceCtorEq, wz])
  rintro ε σ ⟨hρ, rfl⟩
  refine wpa_seq (fun ε σ => (ε 1 = aInts inp ∧ ε 2 = .v (.int .u16 fuel) ∧ ε 3 = .v (.int .u16 more) ∧ ε 4 = .ref 0 0 0) ∧ σ = [.obj 0 (aPr m fs)]) ?_ ?_
  · intro N hN
    simp (maxSteps := 1000000) (implicitDefEqProofs := false) (disch := omega) only [push_cast, ↓reduceIte, Nat.reduceEqDiff, reduceCtorEq, wz]
    refine wpa_call law29_works_a ?_
    rintro a rfl
    simp (maxSteps := 1000000) (implicitDefEqProofs := false) (disch := omega) only [push_cast, ↓reduceIte, Nat.reduceEqDiff, reduceCtorEq, wz, aBool]
    exact hN _ _ (by simp (maxSteps := 1000000) (implicitDefEqProofs := false) (disch := omega) only [push_cast, ↓reduceIte, Nat.reduceEqDiff, reduceCtorEq, wz, hρ])
  clear hρ ε
  rintro ε σ ⟨hρ, rfl⟩
  refine wpa_seq (fun ε σ => (ε 1 = aInts inp ∧ ε 2 = .v (.int .u16 fuel) ∧ ε 3 = .v (.int .u16 more) ∧ ε 4 = .ref 0 0 0) ∧ σ = [.obj 0 (aPr m fs)] ∧ okF fs ∧ inp.length ≤ 1000) ?_ ?_
  · intro N hN
    simp (maxSteps := 1000000) (implicitDefEqProofs := false) (disch := omega) only [push_cast, ↓reduceIte, Nat.reduceEqDiff, reduceCtorEq, wz, hρ, cellsPr]
    refine wpa_call (law04_Great_a m fs hx) ?_
    rintro a ⟨b, rfl, hb⟩
    cases b with
    | true =>
      simp (maxSteps := 1000000) (implicitDefEqProofs := false) (disch := omega) only [push_cast, ↓reduceIte, Nat.reduceEqDiff, reduceCtorEq, wz, aBool]
      first | exact ⟨[], rfl, rfl⟩ | exact ⟨[], rfl⟩
    | false =>
      by_cases c : 1000 < inp.length
      · simp (maxSteps := 1000000) (implicitDefEqProofs := false) (disch := omega) only [push_cast, ↓reduceIte, Nat.reduceEqDiff, reduceCtorEq, wz, hρ, hII, aBool, c]
        first | exact ⟨[], rfl, rfl⟩ | exact ⟨[], rfl⟩
      · simp (maxSteps := 1000000) (implicitDefEqProofs := false) (disch := omega) only [push_cast, ↓reduceIte, Nat.reduceEqDiff, reduceCtorEq, wz, hρ, hII, aBool, c]
        exact hN _ _ ⟨by simp (maxSteps := 1000000) (implicitDefEqProofs := false) (disch := omega) only [push_cast, ↓reduceIte, Nat.reduceEqDiff, reduceCtorEq, wz, hρ, hII], rfl, hb rfl, by omega⟩
  clear hρ ε hx hi
  rintro ε σ ⟨hρ, rfl, hf, hi⟩
  obtain ⟨hfu1, hfu2⟩ := hfu
  obtain ⟨hmo1, hmo2⟩ := hmo
  have q1 := v_rem .i64 fuel 2000 (by decide)
  have q2 := v_rem .i64 more 2000 (by decide)
  have w1 : IntKind.i64.wrap fuel = fuel := w64_id hfu1 (by omega)
  have w2 : IntKind.i64.wrap more = more := w64_id hmo1 (by omega)
  obtain ⟨a0, a1⟩ := tm2000 hfu1
  obtain ⟨b0, b1⟩ := tm2000 hmo1
  have hL := fuel_law m fs inp (a := fuel.tmod 2000) (b := more.tmod 2000) (by omega) (by omega) (by omega) (by omega)
  refine wpa_seqx (fun ε σ => (ε 1 = aInts inp ∧ ε 4 = .ref 0 0 0 ∧ ε 9 = .v (.int .i64 (fuel.tmod 2000)) ∧ ε 10 = .v (.int .i64 (more.tmod 2000))) ∧ σ = [.obj 0 (aPr m fs)]) ?_ ?_
  · intro N X R hN
    simp (maxSteps := 1000000) (implicitDefEqProofs := false) (disch := omega) only [push_cast, ↓reduceIte, Nat.reduceEqDiff, reduceCtorEq, wz, hρ, w1, w2, q1, q2]
    exact hN _ _ ⟨by simp (maxSteps := 1000000) (implicitDefEqProofs := false) (disch := omega) only [push_cast, ↓reduceIte, Nat.reduceEqDiff, reduceCtorEq, wz, hρ], rfl⟩
  clear hρ ε q1 q2 w1 w2
  rintro ε σ ⟨hρ, rfl⟩
  generalize fuel.tmod 2000 = fa at *
  generalize more.tmod 2000 = fb at *
  have lA := runV_lim m fs inp fa
  have lB := runV_lim m fs inp (fa + fb)
  have f1 := fuelN_le fa
  have f2 := fuelN_le (fa + fb)
  have hE1 := Eval_a m fs inp fa hf (by omega)
  have hE2 := Eval_a m fs inp (fa + fb) hf (by omega)
  have hM1 := Marks_a m fs inp fa hf (by omega)
  have hM2 := Marks_a m fs inp (fa + fb) hf (by omega)
  generalize runV m fs inp fa = A at hE1 hM1 hL lA
  generalize runV m fs inp (fa + fb) = B at hE2 hM2 hL lB
  generalize runE m fs inp = e at hE1 hE2
  have hset : ∀ s : Sv, setAtA [AV.v (.int .i64 0), AV.v (.int .i64 0), .sl 0 [] .nil, .sl 0 [] .nil, AV.v (.int .i64 0), AV.v (.int .i64 0), AV.v (.int .i64 0)] 0 (aOc s) = aOc s := fun _ => rfl
  have hsrc : ∀ σ : Kx.St, srcA σ 1 (aInts inp) = some (inp.length, inp.map aInt) := fun _ => rfl
  have h1 : (inp.map aInt).all AV.one = true := by rw [List.all_map]; exact List.all_eq_true.2 fun x _ => rfl
  have hap : ([] : List AV) ++ inp.map aInt = inp.map aInt := rfl
  refine wpa_seqx (fun ε σ => (ε 1 = aInts inp ∧ ε 4 = .ref 0 0 0 ∧ ε 9 = .v (.int .i64 fa) ∧ ε 10 = .v (.int .i64 fb) ∧ ε 11 = .ref 1 0 0 ∧ ε 12 = .v (.int .i64 e)) ∧ σ = [.obj 0 (aPr m fs), .obj 0 (aOc A)]) ?_ ?_
  · intro N X R hN
    simp (maxSteps := 1000000) (implicitDefEqProofs := false) (disch := omega) only [push_cast, ↓reduceIte, Nat.reduceEqDiff, reduceCtorEq, wz, hρ, cellsPr]
    refine wpa_call (law04_Own_a m fs hf) ?_
    rintro a rfl
    simp (maxSteps := 1000000) (implicitDefEqProofs := false) (disch := omega) only [push_cast, ↓reduceIte, Nat.reduceEqDiff, reduceCtorEq, wz, hρ]
    refine wpa_bsl (sz := 1) (by simp) (by simp) ?_
    simp (maxSteps := 1000000) (implicitDefEqProofs := false) (disch := omega) only [push_cast, ↓reduceIte, Nat.reduceEqDiff, reduceCtorEq, wz, hρ]
    refine wpa_app_full0 (n := 0) (cs := []) (m := inp.length) rfl (hsrc _) (by simp) h1 rfl (by omega) (by omega) ?_
    simp (maxSteps := 1000000) (implicitDefEqProofs := false) (disch := omega) only [push_cast, ↓reduceIte, Nat.reduceEqDiff, reduceCtorEq, wz, hρ]
    refine wpa_call hE1 ?_
    rintro a rfl
    simp (maxSteps := 1000000) (implicitDefEqProofs := false) (disch := omega) only [push_cast, ↓reduceIte, Nat.reduceEqDiff, reduceCtorEq, wz, aInt]
    refine wpa_new ?_
    simp (maxSteps := 1000000) (implicitDefEqProofs := false) (disch := omega) only [push_cast, ↓reduceIte, Nat.reduceEqDiff, reduceCtorEq, wz]
    refine wpa_stn (cs := [AV.v (.int .i64 0), AV.v (.int .i64 0), .sl 0 [] .nil, .sl 0 [] .nil, AV.v (.int .i64 0), AV.v (.int .i64 0), AV.v (.int .i64 0)]) rfl rfl rfl (by decide) ?_
    rw [hset]
    simp (maxSteps := 1000000) (implicitDefEqProofs := false) (disch := omega) only [push_cast, ↓reduceIte, Nat.reduceEqDiff, reduceCtorEq, wz]
    exact hN _ _ ⟨by simp (maxSteps := 1000000) (implicitDefEqProofs := false) (disch := omega) only [push_cast, ↓reduceIte, Nat.reduceEqDiff, reduceCtorEq, wz, hρ], rfl⟩
  clear hρ ε
  rintro ε σ ⟨hρ, rfl⟩
  refine wpa_seqx (fun ε σ => (ε 1 = aInts inp ∧ ε 4 = .ref 0 0 0 ∧ ε 9 = .v (.int .i64 fa) ∧ ε 10 = .v (.int .i64 fb) ∧ ε 11 = .ref 1 0 0 ∧ ε 12 = .v (.int .i64 e) ∧ ε 13 = .ref 2 0 0 ∧ ε 14 = .v (.int .i64 e)) ∧ σ = [.obj 0 (aPr m fs), .obj 0 (aOc A), .obj 0 (aOc B)]) ?_ ?_
  · intro N X R hN
    simp (maxSteps := 1000000) (implicitDefEqProofs := false) (disch := omega) only [push_cast, ↓reduceIte, Nat.reduceEqDiff, reduceCtorEq, wz, hρ, cellsPr]
    refine wpa_call (law04_Own_a m fs hf) ?_
    rintro a rfl
    simp (maxSteps := 1000000) (implicitDefEqProofs := false) (disch := omega) only [push_cast, ↓reduceIte, Nat.reduceEqDiff, reduceCtorEq, wz, hρ]
    refine wpa_bsl (sz := 1) (by simp) (by simp) ?_
    simp (maxSteps := 1000000) (implicitDefEqProofs := false) (disch := omega) only [push_cast, ↓reduceIte, Nat.reduceEqDiff, reduceCtorEq, wz, hρ]
    refine wpa_app_full0 (n := 0) (cs := []) (m := inp.length) rfl (hsrc _) (by simp) h1 rfl (by omega) (by omega) ?_
    simp (maxSteps := 1000000) (implicitDefEqProofs := false) (disch := omega) only [push_cast, ↓reduceIte, Nat.reduceEqDiff, reduceCtorEq, wz, hρ]
    refine wpa_call hE2 ?_
    rintro a rfl
    simp (maxSteps := 1000000) (implicitDefEqProofs := false) (disch := omega) only [push_cast, ↓reduceIte, Nat.reduceEqDiff, reduceCtorEq, wz, aInt]
    refine wpa_new ?_
    simp (maxSteps := 1000000) (implicitDefEqProofs := false) (disch := omega) only [push_cast, ↓reduceIte, Nat.reduceEqDiff, reduceCtorEq, wz]
    refine wpa_stn (cs := [AV.v (.int .i64 0), AV.v (.int .i64 0), .sl 0 [] .nil, .sl 0 [] .nil, AV.v (.int .i64 0), AV.v (.int .i64 0), AV.v (.int .i64 0)]) rfl rfl rfl (by decide) ?_
    rw [hset]
    simp (maxSteps := 1000000) (implicitDefEqProofs := false) (disch := omega) only [push_cast, ↓reduceIte, Nat.reduceEqDiff, reduceCtorEq, wz]
    exact hN _ _ ⟨by simp (maxSteps := 1000000) (implicitDefEqProofs := false) (disch := omega) only [push_cast, ↓reduceIte, Nat.reduceEqDiff, reduceCtorEq, wz, hρ], rfl⟩
  clear hρ ε
  rintro ε σ ⟨hρ, rfl⟩
  refine wpa_seqx (fun ε σ => (ε 1 = aInts inp ∧ ε 4 = .ref 0 0 0 ∧ ε 9 = .v (.int .i64 fa) ∧ ε 10 = .v (.int .i64 fb) ∧ ε 11 = .ref 1 0 0 ∧ ε 12 = .v (.int .i64 e) ∧ ε 13 = .ref 2 0 0 ∧ ε 14 = .v (.int .i64 e) ∧ ε 15 = aMks A.marks) ∧ σ = [.obj 0 (aPr m fs), .obj 0 (aOc A), .obj 0 (aOc B)]) ?_ ?_
  · intro N X R hN
    simp (maxSteps := 1000000) (implicitDefEqProofs := false) (disch := omega) only [push_cast, ↓reduceIte, Nat.reduceEqDiff, reduceCtorEq, wz, hρ, cellsPr]
    refine wpa_call (law04_Own_a m fs hf) ?_
    rintro a rfl
    simp (maxSteps := 1000000) (implicitDefEqProofs := false) (disch := omega) only [push_cast, ↓reduceIte, Nat.reduceEqDiff, reduceCtorEq, wz, hρ]
    refine wpa_bsl (sz := 1) (by simp) (by simp) ?_
    simp (maxSteps := 1000000) (implicitDefEqProofs := false) (disch := omega) only [push_cast, ↓reduceIte, Nat.reduceEqDiff, reduceCtorEq, wz, hρ]
    refine wpa_app_full0 (n := 0) (cs := []) (m := inp.length) rfl (hsrc _) (by simp) h1 rfl (by omega) (by omega) ?_
    simp (maxSteps := 1000000) (implicitDefEqProofs := false) (disch := omega) only [push_cast, ↓reduceIte, Nat.reduceEqDiff, reduceCtorEq, wz, hρ]
    refine wpa_call hM1 ?_
    rintro a rfl
    simp (maxSteps := 1000000) (implicitDefEqProofs := false) (disch := omega) only [push_cast, ↓reduceIte, Nat.reduceEqDiff, reduceCtorEq, wz]
    exact hN _ _ ⟨by simp (maxSteps := 1000000) (implicitDefEqProofs := false) (disch := omega) only [push_cast, ↓reduceIte, Nat.reduceEqDiff, reduceCtorEq, wz, hρ], rfl⟩
  clear hρ ε
  rintro ε σ ⟨hρ, rfl⟩
  refine wpa_seqx (fun ε σ => (ε 11 = .ref 1 0 0 ∧ ε 12 = .v (.int .i64 e) ∧ ε 13 = .ref 2 0 0 ∧ ε 14 = .v (.int .i64 e) ∧ ε 15 = aMks A.marks ∧ ε 16 = aMks B.marks) ∧ σ = [.obj 0 (aPr m fs), .obj 0 (aOc A), .obj 0 (aOc B)]) ?_ ?_
  · intro N X R hN
    simp (maxSteps := 1000000) (implicitDefEqProofs := false) (disch := omega) only [push_cast, ↓reduceIte, Nat.reduceEqDiff, reduceCtorEq, wz, hρ, cellsPr]
    refine wpa_call (law04_Own_a m fs hf) ?_
    rintro a rfl
    simp (maxSteps := 1000000) (implicitDefEqProofs := false) (disch := omega) only [push_cast, ↓reduceIte, Nat.reduceEqDiff, reduceCtorEq, wz, hρ]
    refine wpa_bsl (sz := 1) (by simp) (by simp) ?_
    simp (maxSteps := 1000000) (implicitDefEqProofs := false) (disch := omega) only [push_cast, ↓reduceIte, Nat.reduceEqDiff, reduceCtorEq, wz, hρ]
    refine wpa_app_full0 (n := 0) (cs := []) (m := inp.length) rfl (hsrc _) (by simp) h1 rfl (by omega) (by omega) ?_
    simp (maxSteps := 1000000) (implicitDefEqProofs := false) (disch := omega) only [push_cast, ↓reduceIte, Nat.reduceEqDiff, reduceCtorEq, wz, hρ]
    refine wpa_call hM2 ?_
    rintro a rfl
    simp (maxSteps := 1000000) (implicitDefEqProofs := false) (disch := omega) only [push_cast, ↓reduceIte, Nat.reduceEqDiff, reduceCtorEq, wz]
    exact hN _ _ ⟨by simp (maxSteps := 1000000) (implicitDefEqProofs := false) (disch := omega) only [push_cast, ↓reduceIte, Nat.reduceEqDiff, reduceCtorEq, wz, hρ], rfl⟩
  clear hρ ε hE1 hE2 hM1 hM2
  rintro ε σ ⟨hρ, rfl⟩
  obtain ⟨⟨⟨mm, hmm⟩, ⟨oo, hoo⟩, gs, gf, gd⟩, hst⟩ := hL
  have hMA : aMks A.marks = .sl A.marks.length (A.marks.flatMap aMk) .none := rfl
  have hMB : aMks B.marks = .sl B.marks.length (B.marks.flatMap aMk) .none := rfl
  have lm : B.marks.length = A.marks.length + mm.length := by rw [hmm, List.length_append]
  have lo : B.out.length = A.out.length + oo.length := by rw [hoo, List.length_append]
  have n1 : ¬ B.steps < A.steps := by omega
  have n2 : ¬ B.frames < A.frames := by omega
  have n3 : ¬ B.deepest < A.deepest := by omega
  have n4 : ¬ B.marks.length < A.marks.length := by omega
  have n5 : ¬ B.out.length < A.out.length := by omega
  have o (s : Sv) : (aOc s)[0]? = some (.v (.int .i64 s.status)) ∧ (aOc s)[1]? = some (.v (.int .i64 s.why)) ∧ (aOc s)[2]? = some (.sl s.out.length (s.out.map aInt) .none) ∧ (aOc s)[4]? = some (.v (.int .i64 s.steps)) ∧ (aOc s)[5]? = some (.v (.int .i64 s.frames)) ∧ (aOc s)[6]? = some (.v (.int .i64 s.deepest)) := ⟨rfl, rfl, rfl, rfl, rfl, rfl⟩
  refine wpa_seq (fun ε σ => (ε 11 = .ref 1 0 0 ∧ ε 13 = .ref 2 0 0 ∧ ε 15 = aMks A.marks ∧ ε 16 = aMks B.marks) ∧ σ = [.obj 0 (aPr m fs), .obj 0 (aOc A), .obj 0 (aOc B)]) ?_ ?_
  · intro N hN
    simp (maxSteps := 1000000) (implicitDefEqProofs := false) (disch := omega) only [push_cast, ↓reduceIte, Nat.reduceEqDiff, reduceCtorEq, wz, hρ, hMA, hMB, o A, o B, n1, n2, n3, n4, n5]
    exact hN _ _ ⟨by simp (maxSteps := 1000000) (implicitDefEqProofs := false) (disch := omega) only [push_cast, ↓reduceIte, Nat.reduceEqDiff, reduceCtorEq, wz, hρ, hMA, hMB], rfl⟩
  clear hρ ε
  rintro ε σ ⟨hρ, rfl⟩
  refine wpa_seqx (fun ε σ => (ε 11 = .ref 1 0 0 ∧ ε 13 = .ref 2 0 0 ∧ ε 15 = aMks A.marks ∧ ε 16 = aMks B.marks) ∧ σ = [.obj 0 (aPr m fs), .obj 0 (aOc A), .obj 0 (aOc B)]) ?_ ?_
  · intro N X R hN
    simp (maxSteps := 1000000) (implicitDefEqProofs := false) (disch := omega) only [push_cast, ↓reduceIte, Nat.reduceEqDiff, reduceCtorEq, wz, hρ]
    refine wpa_blx (α := Nat) (I := fun k ε σ => (ε 11 = .ref 1 0 0 ∧ ε 13 = .ref 2 0 0 ∧ ε 15 = aMks A.marks ∧ ε 16 = aMks B.marks ∧ ε 17 = .v (.int .i64 k)) ∧ k ≤ A.marks.length ∧ σ = [.obj 0 (aPr m fs), .obj 0 (aOc A), .obj 0 (aOc B)])
      (μ := fun k => A.marks.length - k) (Q := fun ε σ => (ε 11 = .ref 1 0 0 ∧ ε 13 = .ref 2 0 0 ∧ ε 15 = aMks A.marks ∧ ε 16 = aMks B.marks) ∧ σ = [.obj 0 (aPr m fs), .obj 0 (aOc A), .obj 0 (aOc B)]) (x := 0) ?_ ?_ ?_
    · simp (maxSteps := 1000000) (implicitDefEqProofs := false) (disch := omega) only [push_cast, ↓reduceIte, Nat.reduceEqDiff, reduceCtorEq, wz, hρ]
      omega
    · rintro k ε σ N E X' R' ⟨hρ, hk, rfl⟩ hN hE
      simp only [S_forebaylaw29_SerialFuel_L1]
      by_cases hlt : k < A.marks.length
      · obtain ⟨p, hp⟩ := at_lt hlt
        have hp2 : B.marks[k]? = some p := by rw [hmm, List.getElem?_append_left hlt]; exact hp
        have d1 := flat_drop aMk_len hp
        have d2 := flat_drop aMk_len hp2
        have hq := eqsMk true p p
        have hq' : (true != decide (p = p)) = false := by simp
        rw [hq'] at hq
        simp (maxSteps := 1000000) (implicitDefEqProofs := false) (disch := omega) only [push_cast, ↓reduceIte, Nat.reduceEqDiff, reduceCtorEq, wz, hρ, hMA, hMB, d1, d2, cells3m, hq]
        refine hN (k + 1) _ _ ?_ (by omega)
        simp (maxSteps := 1000000) (implicitDefEqProofs := false) (disch := omega) only [push_cast, ↓reduceIte, Nat.reduceEqDiff, reduceCtorEq, wz, hρ, hMA, hMB]
        omega
      · simp (maxSteps := 1000000) (implicitDefEqProofs := false) (disch := omega) only [push_cast, ↓reduceIte, Nat.reduceEqDiff, reduceCtorEq, wz, hρ, hMA, hMB]
        refine hE _ _ ?_
        simp (maxSteps := 1000000) (implicitDefEqProofs := false) (disch := omega) only [push_cast, ↓reduceIte, Nat.reduceEqDiff, reduceCtorEq, wz, hρ, hMA, hMB]
    · rintro ε σ h
      exact hN _ _ h
  clear hρ ε
  rintro ε σ ⟨hρ, rfl⟩
  have htk : (B.out.map aInt).take A.out.length = A.out.map aInt := by rw [hoo, List.map_append, List.take_append_of_le_length (by simp), List.take_of_length_le (by simp)]
  refine wpa_seq (fun ε σ => (ε 11 = .ref 1 0 0 ∧ ε 13 = .ref 2 0 0 ∧ ε 15 = aMks A.marks ∧ ε 16 = aMks B.marks) ∧ σ = [.obj 0 (aPr m fs), .obj 0 (aOc A), .obj 0 (aOc B)]) ?_ ?_
  · intro N hN
    simp (maxSteps := 1000000) (implicitDefEqProofs := false) (disch := omega) only [push_cast, ↓reduceIte, Nat.reduceEqDiff, reduceCtorEq, wz, hρ, o A, o B, htk]
    refine wpa_call (law05_Ints_a A.out A.out (by omega) (by omega)) ?_
    rintro a rfl
    rw [beq_self_eq_true]
    simp (maxSteps := 1000000) (implicitDefEqProofs := false) (disch := omega) only [push_cast, ↓reduceIte, Nat.reduceEqDiff, reduceCtorEq, wz, hρ, aBool]
    exact hN _ _ ⟨by simp (maxSteps := 1000000) (implicitDefEqProofs := false) (disch := omega) only [push_cast, ↓reduceIte, Nat.reduceEqDiff, reduceCtorEq, wz, hρ], rfl⟩
  clear hρ ε
  rintro ε σ ⟨hρ, rfl⟩
  by_cases h6 : A.status = 6
  · simp (maxSteps := 1000000) (implicitDefEqProofs := false) (disch := omega) only [push_cast, ↓reduceIte, Nat.reduceEqDiff, reduceCtorEq, wz, hρ, o A, o B, h6]
    first | exact ⟨[], rfl, rfl⟩ | exact ⟨[], rfl⟩
  · have hBA : B = A := by rcases hst with h | h; exact absurd h h6; exact h
    subst hBA
    simp (maxSteps := 1000000) (implicitDefEqProofs := false) (disch := omega) only [push_cast, ↓reduceIte, Nat.reduceEqDiff, reduceCtorEq, wz, hρ, o B, h6, hMB]
    first | exact ⟨[], rfl, rfl⟩ | exact ⟨[], rfl⟩
end Go.Proofs.Ytncdnegdlkmicaa
