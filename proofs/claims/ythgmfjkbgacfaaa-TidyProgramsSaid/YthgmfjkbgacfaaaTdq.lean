/- TidyPrograms: the walk; shapes of what comes in. -/
import Derived.Test.YthgmfjkbgacfaaaTdp
namespace Go.Proofs.Ythgmfjkbgacfaaa
set_option linter.unusedVariables false
set_option linter.unusedSimpArgs false
open Go Go.Kx Go.Proofs

theorem fix_fix {l : List Ix} (h : Rt l) : fixR (fixR l) = fixR l := fixN_done (fixR_spec h).1 _
theorem okF_map {fs : List (List Ix)} (hf : okF fs) (h : ∀ l ∈ fs, Rt l) : okF (fs.map fixR) := by
  refine ⟨by rw [List.length_map]; exact hf.1, fun x hx => ?_⟩
  obtain ⟨l, hl, rfl⟩ := List.mem_map.1 hx
  have := (fixR_spec (h l hl)).2.2
  have := hf.2 l hl
  omega
theorem prg_map {m : Int} {fs : List (List Ix)} (h : prgE m fs = 0) : prgE m (fs.map fixR) = 0 := by
  obtain ⟨h0, h1, h2⟩ := prg_ok h
  refine prg_of h0 (by rw [List.length_map]; exact h1) fun x hx => ?_
  obtain ⟨l, hl, rfl⟩ := List.mem_map.1 hx
  rw [List.length_map]
  exact fixR_fo (h2 l hl)
theorem map_fix {fs : List (List Ix)} (h : ∀ l ∈ fs, Rt l) : (fs.map fixR).map fixR = fs.map fixR := by
  rw [List.map_map]
  exact List.map_congr_left fun l hl => fix_fix (h l hl)
theorem drop_fix {fs : List (List Ix)} (h : ∀ l ∈ fs, Rt l) : dropS (fs.map fixR) = 0 := by
  unfold dropS
  rw [List.map_map]
  have : (fs.map ((fun l : List Ix => l.length - (fixR l).length) ∘ fixR)) = fs.map fun _ => 0 := List.map_congr_left fun l hl => by
    show (fixR l).length - (fixR (fixR l)).length = 0
    rw [fix_fix (h l hl)]; omega
  rw [this]
  clear this h
  induction fs with
  | nil => rfl
  | cons a l ih => simp [ih]
set_option maxHeartbeats 16000000 in
theorem TidyPrograms_a (x : Int × List (List Ix)) (hx : x.2.length ≤ 9223372036854775807) : FnP Try.prog 6 [.agg (aPr x.1 x.2)] fun a => a = aBool true := by
  obtain ⟨m, fs⟩ := x
  simp only at hx ⊢
  refine fnP_in K_forebaylaw42_TidyPrograms mixed rfl (by simp [AV.pureL, AV.pure, aPr_pure]) ?_
  simp only [S_forebaylaw42_TidyPrograms]
  have hac : (AV.agg (aPr m fs)).cells = aPr m fs := rfl
  have hset : ∀ m' fs', setAtA [AV.v (.int .i64 0), AV.sl 0 [] .nil] 0 (aPr m' fs') = aPr m' fs' := fun m' fs' => rfl
  refine wpa_seqx (fun ε σ => ε 1 = .ref 0 0 0 ∧ σ = [.obj 0 (aPr m fs)]) ?_ ?_
  · intro N X R hN
    simp (maxSteps := 1000000) (implicitDefEqProofs := false) (disch := omega) only [push_cast, ↓reduceIte, Nat.reduceEqDiff, reduceCtorEq, wz]
    refine wpa_box ?_
    simp (maxSteps := 1000000) (implicitDefEqProofs := false) (disch := omega) only [push_cast, ↓reduceIte, Nat.reduceEqDiff, reduceCtorEq, wz, hac]
    exact hN _ _ (by simp (maxSteps := 1000000) (implicitDefEqProofs := false) (disch := omega) only [push_cast, ↓reduceIte, Nat.reduceEqDiff, reduceCtorEq, wz])
  rintro ε σ ⟨hρ, rfl⟩
  refine wpa_seq (fun ε σ => ε 1 = .ref 0 0 0 ∧ σ = [.obj 0 (aPr m fs)]) ?_ ?_
  · intro N hN
    simp (maxSteps := 1000000) (implicitDefEqProofs := false) (disch := omega) only [push_cast, ↓reduceIte, Nat.reduceEqDiff, reduceCtorEq, wz]
    refine wpa_call law42_works_a ?_
    rintro a rfl
    simp (maxSteps := 1000000) (implicitDefEqProofs := false) (disch := omega) only [push_cast, ↓reduceIte, Nat.reduceEqDiff, reduceCtorEq, wz, aBool]
    exact hN _ _ (by simp (maxSteps := 1000000) (implicitDefEqProofs := false) (disch := omega) only [push_cast, ↓reduceIte, Nat.reduceEqDiff, reduceCtorEq, wz, hρ])
  clear hρ ε
  rintro ε σ ⟨hρ, rfl⟩
  refine wpa_seq (fun ε σ => (ε 1 = .ref 0 0 0 ∧ okF fs) ∧ σ = [.obj 0 (aPr m fs)]) ?_ ?_
  · intro N hN
    simp (maxSteps := 1000000) (implicitDefEqProofs := false) (disch := omega) only [push_cast, ↓reduceIte, Nat.reduceEqDiff, reduceCtorEq, wz, hρ, cellsPr]
    refine wpa_call (law04_Great_a m fs hx) ?_
    rintro a ⟨b, rfl, hb⟩
    cases b with
    | true =>
      simp (maxSteps := 1000000) (implicitDefEqProofs := false) (disch := omega) only [push_cast, ↓reduceIte, Nat.reduceEqDiff, reduceCtorEq, wz, aBool]
      first | exact ⟨[], rfl, rfl⟩ | exact ⟨[], rfl⟩
    | false =>
      simp (maxSteps := 1000000) (implicitDefEqProofs := false) (disch := omega) only [push_cast, ↓reduceIte, Nat.reduceEqDiff, reduceCtorEq, wz, aBool]
      exact hN _ _ ⟨⟨by simp (maxSteps := 1000000) (implicitDefEqProofs := false) (disch := omega) only [push_cast, ↓reduceIte, Nat.reduceEqDiff, reduceCtorEq, wz, hρ], hb rfl⟩, rfl⟩
  clear hρ ε hx
  rintro ε σ ⟨⟨hρ, hf⟩, rfl⟩
  have hRt : prgE m fs = 0 → ∀ l ∈ fs, Rt l := fun h l hl => ((prg_ok h).2.2 l hl).rt
  have hT : okF (tidyF m fs) := by
    unfold tidyF
    split
    · rename_i h; exact okF_map hf (hRt h)
    · exact ⟨by simp, fun l hl => by simp at hl⟩
  have hTA : tidyA m fs = .tup [.agg (aPr (tidyM m fs) (tidyF m fs)), aInt (tidyN m fs : Nat), aInt (prgE m fs)] := rfl
  have hN0 : prgE m fs ≠ 0 → tidyN m fs = 0 := fun h => by unfold tidyN; rw [if_neg h]
  have hz2 : prgE m fs = 0 → prgE (tidyM m fs) (tidyF m fs) = 0 ∧ tidyA (tidyM m fs) (tidyF m fs) = .tup [.agg (aPr (tidyM m fs) (tidyF m fs)), aInt 0, aInt 0] := by
    intro h
    have e1 : tidyM m fs = m := by unfold tidyM; rw [if_pos h]
    have e2 : tidyF m fs = fs.map fixR := by unfold tidyF; rw [if_pos h]
    rw [e1, e2]
    have hp := prg_map h
    refine ⟨hp, ?_⟩
    unfold tidyA tidyM tidyF tidyN
    rw [if_pos hp, if_pos hp, if_pos hp, hp, map_fix (hRt h), drop_fix (hRt h)]
    rfl
  clear hRt
  generalize tidyM m fs = m' at hTA hz2
  generalize tidyF m fs = fs' at hT hTA hz2
  generalize tidyN m fs = n' at hTA hN0
  generalize hE : prgE m fs = e at hTA hN0 hz2
  refine wpa_seqx (fun ε σ => (ε 1 = .ref 0 0 0 ∧ ε 3 = .ref 1 0 0 ∧ ε 4 = .v (.int .i64 n') ∧ ε 5 = .v (.int .i64 e)) ∧ σ = [.obj 0 (aPr m fs), .obj 0 (aPr m' fs')]) ?_ ?_
  · intro N X R hN
    simp (maxSteps := 1000000) (implicitDefEqProofs := false) (disch := omega) only [push_cast, ↓reduceIte, Nat.reduceEqDiff, reduceCtorEq, wz, hρ, cellsPr]
    refine wpa_call (law04_Own_a m fs hf) ?_
    rintro a rfl
    simp (maxSteps := 1000000) (implicitDefEqProofs := false) (disch := omega) only [push_cast, ↓reduceIte, Nat.reduceEqDiff, reduceCtorEq, wz]
    refine wpa_call (tidy_Program_a m fs hf) ?_
    rintro a rfl
    rw [hTA]
    simp (maxSteps := 1000000) (implicitDefEqProofs := false) (disch := omega) only [push_cast, ↓reduceIte, Nat.reduceEqDiff, reduceCtorEq, wz, aInt]
    refine wpa_new ?_
    simp (maxSteps := 1000000) (implicitDefEqProofs := false) (disch := omega) only [push_cast, ↓reduceIte, Nat.reduceEqDiff, reduceCtorEq, wz]
    refine wpa_stn (cs := [AV.v (.int .i64 0), AV.sl 0 [] .nil]) rfl rfl rfl (by decide) ?_
    rw [hset]
    simp (maxSteps := 1000000) (implicitDefEqProofs := false) (disch := omega) only [push_cast, ↓reduceIte, Nat.reduceEqDiff, reduceCtorEq, wz]
    exact hN _ _ ⟨by simp (maxSteps := 1000000) (implicitDefEqProofs := false) (disch := omega) only [push_cast, ↓reduceIte, Nat.reduceEqDiff, reduceCtorEq, wz, hρ]; try rfl, rfl⟩
  clear hρ ε
  rintro ε σ ⟨hρ, rfl⟩
  refine wpa_seqx (fun ε σ => (ε 1 = .ref 0 0 0 ∧ ε 3 = .ref 1 0 0 ∧ ε 4 = .v (.int .i64 n') ∧ ε 5 = .v (.int .i64 e) ∧ ε 6 = .ref 2 0 0 ∧ ε 7 = .v (.int .i64 n') ∧ ε 8 = .v (.int .i64 e)) ∧ σ = [.obj 0 (aPr m fs), .obj 0 (aPr m' fs'), .obj 0 (aPr m' fs')]) ?_ ?_
  · intro N X R hN
    simp (maxSteps := 1000000) (implicitDefEqProofs := false) (disch := omega) only [push_cast, ↓reduceIte, Nat.reduceEqDiff, reduceCtorEq, wz, hρ, cellsPr]
    refine wpa_call (ref42_Program_a m fs hf) ?_
    rintro a rfl
    rw [hTA]
    simp (maxSteps := 1000000) (implicitDefEqProofs := false) (disch := omega) only [push_cast, ↓reduceIte, Nat.reduceEqDiff, reduceCtorEq, wz, aInt]
    refine wpa_new ?_
    simp (maxSteps := 1000000) (implicitDefEqProofs := false) (disch := omega) only [push_cast, ↓reduceIte, Nat.reduceEqDiff, reduceCtorEq, wz]
    refine wpa_stn (cs := [AV.v (.int .i64 0), AV.sl 0 [] .nil]) rfl rfl rfl (by decide) ?_
    rw [hset]
    simp (maxSteps := 1000000) (implicitDefEqProofs := false) (disch := omega) only [push_cast, ↓reduceIte, Nat.reduceEqDiff, reduceCtorEq, wz]
    exact hN _ _ ⟨by simp (maxSteps := 1000000) (implicitDefEqProofs := false) (disch := omega) only [push_cast, ↓reduceIte, Nat.reduceEqDiff, reduceCtorEq, wz, hρ]; try rfl, rfl⟩
  clear hρ ε
  rintro ε σ ⟨hρ, rfl⟩
  refine wpa_seq (fun ε σ => (ε 3 = .ref 1 0 0 ∧ ε 4 = .v (.int .i64 n') ∧ ε 8 = .v (.int .i64 e)) ∧ σ = [.obj 0 (aPr m fs), .obj 0 (aPr m' fs'), .obj 0 (aPr m' fs')]) ?_ ?_
  · intro N hN
    simp (maxSteps := 1000000) (implicitDefEqProofs := false) (disch := omega) only [push_cast, ↓reduceIte, Nat.reduceEqDiff, reduceCtorEq, wz, hρ, cellsPr]
    refine wpa_call (ref04_Same_a m' fs' hT) ?_
    rintro a rfl
    simp (maxSteps := 1000000) (implicitDefEqProofs := false) (disch := omega) only [push_cast, ↓reduceIte, Nat.reduceEqDiff, reduceCtorEq, wz, aBool]
    exact hN _ _ ⟨by simp (maxSteps := 1000000) (implicitDefEqProofs := false) (disch := omega) only [push_cast, ↓reduceIte, Nat.reduceEqDiff, reduceCtorEq, wz, hρ], rfl⟩
  clear hρ ε
  rintro ε σ ⟨hρ, rfl⟩
  refine wpa_seq (fun ε σ => (ε 3 = .ref 1 0 0 ∧ ε 4 = .v (.int .i64 n')) ∧ σ = [.obj 0 (aPr m fs), .obj 0 (aPr m' fs'), .obj 0 (aPr m' fs')] ∧ e = 0) ?_ ?_
  · intro N hN
    by_cases h0 : e = 0
    · simp (maxSteps := 1000000) (implicitDefEqProofs := false) (disch := omega) only [push_cast, ↓reduceIte, Nat.reduceEqDiff, reduceCtorEq, wz, hρ, h0]
      exact hN _ _ ⟨by simp (maxSteps := 1000000) (implicitDefEqProofs := false) (disch := omega) only [push_cast, ↓reduceIte, Nat.reduceEqDiff, reduceCtorEq, wz, hρ], rfl, h0⟩
    · rw [hN0 h0] at hρ
      simp (maxSteps := 1000000) (implicitDefEqProofs := false) (disch := omega) only [push_cast, ↓reduceIte, Nat.reduceEqDiff, reduceCtorEq, wz, hρ, h0]
      first | exact ⟨[], rfl, rfl⟩ | exact ⟨[], rfl⟩
  clear hρ ε
  rintro ε σ ⟨hρ, rfl, h0⟩
  obtain ⟨hz3, hz4⟩ := hz2 h0
  refine wpa_seqx (fun ε σ => (ε 3 = .ref 1 0 0 ∧ ε 4 = .v (.int .i64 n') ∧ ε 9 = .ref 3 0 0 ∧ ε 10 = .v (.int .i64 0) ∧ ε 11 = .v (.int .i64 0)) ∧ σ = [.obj 0 (aPr m fs), .obj 0 (aPr m' fs'), .obj 0 (aPr m' fs'), .obj 0 (aPr m' fs')]) ?_ ?_
  · intro N X R hN
    simp (maxSteps := 1000000) (implicitDefEqProofs := false) (disch := omega) only [push_cast, ↓reduceIte, Nat.reduceEqDiff, reduceCtorEq, wz, hρ, cellsPr]
    refine wpa_call (law04_Own_a m' fs' hT) ?_
    rintro a rfl
    simp (maxSteps := 1000000) (implicitDefEqProofs := false) (disch := omega) only [push_cast, ↓reduceIte, Nat.reduceEqDiff, reduceCtorEq, wz]
    refine wpa_call (tidy_Program_a m' fs' hT) ?_
    rintro a rfl
    rw [hz4]
    simp (maxSteps := 1000000) (implicitDefEqProofs := false) (disch := omega) only [push_cast, ↓reduceIte, Nat.reduceEqDiff, reduceCtorEq, wz, aInt]
    refine wpa_new ?_
    simp (maxSteps := 1000000) (implicitDefEqProofs := false) (disch := omega) only [push_cast, ↓reduceIte, Nat.reduceEqDiff, reduceCtorEq, wz]
    refine wpa_stn (cs := [AV.v (.int .i64 0), AV.sl 0 [] .nil]) rfl rfl rfl (by decide) ?_
    rw [hset]
    simp (maxSteps := 1000000) (implicitDefEqProofs := false) (disch := omega) only [push_cast, ↓reduceIte, Nat.reduceEqDiff, reduceCtorEq, wz]
    exact hN _ _ ⟨by simp (maxSteps := 1000000) (implicitDefEqProofs := false) (disch := omega) only [push_cast, ↓reduceIte, Nat.reduceEqDiff, reduceCtorEq, wz, hρ]; try rfl, rfl⟩
  clear hρ ε
  rintro ε σ ⟨hρ, rfl⟩
  have hn0 : (0 : Int) ≤ (n' : Int) := by omega
  simp (maxSteps := 1000000) (implicitDefEqProofs := false) (disch := omega) only [push_cast, ↓reduceIte, Nat.reduceEqDiff, reduceCtorEq, wz, hρ, hn0, cellsPr]
  refine wpa_call (prog_Check_a m' fs' hT) ?_
  rintro a rfl
  rw [hz3]
  simp (maxSteps := 1000000) (implicitDefEqProofs := false) (disch := omega) only [push_cast, ↓reduceIte, Nat.reduceEqDiff, reduceCtorEq, wz, hρ, aInt, cellsPr]
  refine wpa_call (ref04_Same_a m' fs' hT) ?_
  rintro a rfl
  simp (maxSteps := 1000000) (implicitDefEqProofs := false) (disch := omega) only [push_cast, ↓reduceIte, Nat.reduceEqDiff, reduceCtorEq, wz, aBool]
  first | exact ⟨[], rfl, rfl⟩ | exact ⟨[], rfl⟩
/-! ### Shapes of what comes in -/
def shIx : Sh := .st (.fcons 1 shN (.fcons 1 shN (.fcons 1 shN (.fcons 1 shN .fnil))))
theorem shIx_read {c : List AV} (h : Enc shIx c) : ∃ x : Ix, c = aIx x := by
  simp only [shIx, Enc] at h
  obtain ⟨x, y, rfl, _, hx, x2, y2, rfl, _, hy, x3, y3, rfl, _, hz, x4, y4, rfl, _, hw, rfl⟩ := h
  obtain ⟨n, rfl, _⟩ := shN_read hx
  obtain ⟨m, rfl, _⟩ := shN_read hy
  obtain ⟨k, rfl, _⟩ := shN_read hz
  obtain ⟨j, rfl, _⟩ := shN_read hw
  exact ⟨⟨n, m, k, j⟩, rfl⟩
def shIxs : Sh := .sl 4 shIx
theorem shIxs_read {cs : List AV} (h : Enc shIxs cs) : ∃ l : List Ix, cs = [aIxs l] := by
  obtain ⟨l, h, _⟩ := enc_sl (f := aIx) (fun _ hc => shIx_read hc) h
  exact ⟨l, h⟩
def shPr : Sh := .st (.fcons 1 shN (.fcons 1 (.sl 1 shIxs) .fnil))
theorem shPr_read {cs : List AV} (h : Enc shPr cs) : ∃ x : Int × List (List Ix), cs = aPr x.1 x.2 ∧ x.2.length ≤ 9223372036854775807 := by
  simp only [shPr, Enc] at h
  obtain ⟨x, y, rfl, _, hx, x2, y2, rfl, _, hy, rfl⟩ := h
  obtain ⟨n, rfl, _⟩ := shN_read hx
  obtain ⟨l, rfl, hl⟩ := enc_sl1 (f := aIxs) (fun _ hc => shIxs_read hc) (show Enc (.sl 1 shIxs) x2 from hy)
  exact ⟨(n, l), rfl, hl⟩
theorem shIx_ok : ShOk Try.prog shIx 115 := ⟨_, Try.underlying115, rfl, by kernel_rfl, Try.underlying3, rfl, by kernel_rfl, Try.underlying3, rfl, by kernel_rfl, Try.underlying3, rfl, by kernel_rfl, Try.underlying3, (by show 0 + 1 + 1 + 1 + 1 = Try.prog.cellsOf 115; kernel_rfl)⟩
theorem shIxs_ok : ShOk Try.prog shIxs 116 := ⟨115, Try.underlying116, by kernel_rfl, by omega, shIx_ok⟩
theorem shPr_ok : ShOk Try.prog shPr 55 := ⟨_, Try.underlying55, rfl, by kernel_rfl, Try.underlying3, rfl, by kernel_rfl, ⟨116, Try.underlying53, by kernel_rfl, by omega, shIxs_ok⟩, (by show 0 + 1 + 1 = Try.prog.cellsOf 55; kernel_rfl)⟩
theorem rel_agg {G : Gh} {cs : List AV} {xs : Array Value} (h : RelL G cs xs.toList) : RelV G (.agg cs) (.agg xs) := RelV.agg cs xs.toList h.1 h.2
end Go.Proofs.Ythgmfjkbgacfaaa
