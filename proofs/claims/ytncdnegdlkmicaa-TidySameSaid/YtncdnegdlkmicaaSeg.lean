/- Serial: the machine's small steps: stages, loops' ends, returns, what begins. -/
import Derived.Test.YtncdnegdlkmicaaSef
namespace Go.Proofs.Ytncdnegdlkmicaa
set_option linter.unusedVariables false
set_option linter.unusedSimpArgs false
open Go Go.Kx Go.Proofs

section
variable {m : Int} {fs : List (List Ix)} {σ : Kx.St} {w : Nat} {s : Sv}
theorem keep_l {f : Sf} {r : List Sf} (hl : s.l = f :: r) (hq : f.stage = 0 → ∃ q r', r = q :: r') : ∃ r1, s.keep.l = f :: r1 ∧ r1.length = r.length ∧ s.keep.marks = s.marks := by
  unfold Sv.keep Sv.set2
  have htop : s.top = f := by simp [Sv.top, hl]
  rw [htop]
  by_cases c : f.stage = 0
  · obtain ⟨q, r', hr⟩ := hq c
    rw [if_pos c, hl, hr]
    exact ⟨_, rfl, rfl, rfl⟩
  · rw [if_neg c]
    exact ⟨r, hl, rfl, rfl⟩
set_option maxHeartbeats 8000000 in
theorem eval_goOn_a (h : MA m fs σ w s) {f : Sf} {r : List Sf} (hl : s.l = f :: r) (hq : f.kind = 2 → ∃ q r', r = q :: r') (pc : Int) (e : Ef) (hb : s.l.length ≤ 1000000) (hb2 : s.marks.length ≤ 1000000) :
    FnG Try.prog 91 [.ref 4 0 0, .ref 6 w (r.length * 15), aInt pc, .agg (aEf e)] σ fun _ σ' => MA m fs σ' w (s.goOn pc e) ∧ Kp σ σ' := by
  refine fnG_in K_serial_eval_goOn mixed rfl ?_
  simp only [S_serial_eval_goOn, aInt]
  have hae : (AV.agg (aEf e)).cells = aEf e := rfl
  have g0 : (aEf e)[0]? = some (.v (.int .i64 e.k)) := rfl
  have g2 : (aEf e)[2]? = some (.v (.int .i64 e.v)) := rfl
  have h8 := h.len
  refine wpa_seqx (fun ε σ1 => (ε 0 = .ref 4 0 0 ∧ ε 1 = .ref 6 w (r.length * 15) ∧ ε 2 = .v (.int .i64 pc) ∧ ε 7 = .ref σ.length 0 0) ∧ σ1 = σ ++ [.obj 0 (aEf e)]) ?_ ?_
  · intro N X R hN
    simp (maxSteps := 1000000) (implicitDefEqProofs := false) (disch := omega) only [push_cast, ↓reduceIte, Nat.reduceEqDiff, reduceCtorEq, wz]
    refine wpa_box ?_
    simp (maxSteps := 1000000) (implicitDefEqProofs := false) (disch := omega) only [push_cast, ↓reduceIte, Nat.reduceEqDiff, reduceCtorEq, wz, hae]
    exact hN _ _ ⟨by simp (maxSteps := 1000000) (implicitDefEqProofs := false) (disch := omega) only [push_cast, ↓reduceIte, Nat.reduceEqDiff, reduceCtorEq, wz], rfl⟩
  rintro ε σ1 ⟨hρ, rfl⟩
  have hB : (σ ++ [Res.obj 0 (aEf e)])[σ.length]? = some (.obj 0 (aEf e)) := at_snoc _ _
  have hk1 : Kp σ (σ ++ [Res.obj 0 (aEf e)]) := Kp.app _ _
  have h1 := h.app (τ := [Res.obj 0 (aEf e)])
  generalize σ ++ [Res.obj 0 (aEf e)] = σ1 at hB h1 hk1
  generalize σ.length = i7 at hρ hB h8
  obtain ⟨cs, hc, hf⟩ := h1.fr1 hl
  have q0 := hf.get (top_at f r) (j := 0) (x := .v (.int .i64 f.kind)) rfl
  have q13 := hf.get (top_at f r) (j := 13) (x := .v (.int .i64 f.stage)) rfl
  rw [Nat.add_zero] at q0
  have htop : s.top = f := by simp [Sv.top, hl]
  refine wpa_seqx (fun ε σ2 => (ε 0 = .ref 4 0 0 ∧ ε 1 = .ref 6 w (r.length * 15) ∧ ε 2 = .v (.int .i64 pc) ∧ ε 7 = .ref i7 0 0 ∧ ε 8 = .v (.int .i64 (goE f.stage e.v))) ∧ σ2 = σ1) ?_ ?_
  · intro N X R hN
    simp (maxSteps := 1000000) (implicitDefEqProofs := false) (disch := omega) only [push_cast, ↓reduceIte, Nat.reduceEqDiff, reduceCtorEq, wz, hρ, hc, q13, hB, g2]
    refine wpa_call (stage_Go_a f.stage e.v) ?_
    rintro a rfl
    simp (maxSteps := 1000000) (implicitDefEqProofs := false) (disch := omega) only [push_cast, ↓reduceIte, Nat.reduceEqDiff, reduceCtorEq, wz, aInt]
    exact hN _ _ ⟨by simp (maxSteps := 1000000) (implicitDefEqProofs := false) (disch := omega) only [push_cast, ↓reduceIte, Nat.reduceEqDiff, reduceCtorEq, wz, hρ], rfl⟩
  clear hρ ε
  rintro ε σ2 ⟨hρ, e2⟩
  rw [e2]
  clear e2 σ2
  refine wpa_seq (fun ε σ2 => (ε 0 = .ref 4 0 0 ∧ ε 1 = .ref 6 w (r.length * 15) ∧ ε 2 = .v (.int .i64 pc) ∧ ε 7 = .ref i7 0 0) ∧ σ2 = σ1 ∧ f.kind = 2 ∧ goE f.stage e.v = 0) ?_ ?_
  · intro N hN
    by_cases c1 : f.kind = 2
    · rw [c1] at q0
      by_cases c2 : goE f.stage e.v = 0
      · simp (maxSteps := 1000000) (implicitDefEqProofs := false) (disch := omega) only [push_cast, ↓reduceIte, Nat.reduceEqDiff, reduceCtorEq, wz, hρ, hc, q0, c2]
        exact hN _ _ ⟨by simp (maxSteps := 1000000) (implicitDefEqProofs := false) (disch := omega) only [push_cast, ↓reduceIte, Nat.reduceEqDiff, reduceCtorEq, wz, hρ], rfl, c1, c2⟩
      · have es : s.goOn pc e = s.stop 4 (goE f.stage e.v) := by
          unfold Sv.goOn
          rw [htop, if_neg (by simpa using c1), if_pos c2]
        simp (maxSteps := 1000000) (implicitDefEqProofs := false) (disch := omega) only [push_cast, ↓reduceIte, Nat.reduceEqDiff, reduceCtorEq, wz, hρ, hc, q0, c2]
        refine wpa_callG (eval_stop_a h1 4 (goE f.stage e.v)) ?_
        rintro a σ' ⟨h3, k4⟩
        simp (maxSteps := 1000000) (implicitDefEqProofs := false) (disch := omega) only [push_cast, ↓reduceIte, Nat.reduceEqDiff, reduceCtorEq, wz]
        rw [es]
        exact ⟨h3, hk1.trans k4⟩
    · have es : s.goOn pc e = s.stop 4 4 := by
        unfold Sv.goOn
        rw [htop, if_pos c1]
      simp (maxSteps := 1000000) (implicitDefEqProofs := false) (disch := omega) only [push_cast, ↓reduceIte, Nat.reduceEqDiff, reduceCtorEq, wz, hρ, hc, q0, c1]
      refine wpa_callG (eval_stop_a h1 4 4) ?_
      rintro a σ' ⟨h3, k4⟩
      simp (maxSteps := 1000000) (implicitDefEqProofs := false) (disch := omega) only [push_cast, ↓reduceIte, Nat.reduceEqDiff, reduceCtorEq, wz]
      rw [es]
      exact ⟨h3, hk1.trans k4⟩
  clear hρ ε
  rintro ε σ2 ⟨hρ, e2, c1, c2⟩
  rw [e2]
  clear e2 σ2
  have hq' : f.stage = 0 → ∃ q r', r = q :: r' := fun _ => hq c1
  refine wpa_seqx (fun ε σ2 => (ε 0 = .ref 4 0 0 ∧ ε 1 = .ref 6 w (r.length * 15) ∧ ε 2 = .v (.int .i64 pc) ∧ ε 7 = .ref i7 0 0) ∧ MA m fs σ2 w s.keep ∧ Kp σ1 σ2) ?_ ?_
  · intro N X R hN
    simp (maxSteps := 1000000) (implicitDefEqProofs := false) (disch := omega) only [push_cast, ↓reduceIte, Nat.reduceEqDiff, reduceCtorEq, wz, hρ]
    refine wpa_callG (eval_keep_a h1 hl hq' hb) ?_
    rintro a σ' ⟨h3, k4⟩
    simp (maxSteps := 1000000) (implicitDefEqProofs := false) (disch := omega) only [push_cast, ↓reduceIte, Nat.reduceEqDiff, reduceCtorEq, wz]
    exact hN _ _ ⟨by simp (maxSteps := 1000000) (implicitDefEqProofs := false) (disch := omega) only [push_cast, ↓reduceIte, Nat.reduceEqDiff, reduceCtorEq, wz, hρ], h3, k4⟩
  clear hρ ε
  rintro ε σ2 ⟨hρ, h2, k2⟩
  have hB2 := k2.at h8 hB
  have k3 := hk1.trans k2
  obtain ⟨r1, hkl, hkn, hkm⟩ := keep_l hl hq'
  rw [← hkn] at hρ
  clear hc hf q0 q13 h1 hB hk1 k2
  clear cs σ1
  obtain ⟨cs, hc, hf⟩ := h2.fr1 hkl
  obtain ⟨h3, hlt⟩ := h2.st1 hkl hf (j := 2) (by decide) (x := .v (.int .i64 pc)) (g := { f with pc := pc }) rfl
  have k4 : Kp σ2 (σ2.set 6 (.obj w (cs.set (r1.length * 15 + 2) (.v (.int .i64 pc))))) := Kp.set _ (by decide) _
  refine wpa_seqx (fun ε σ3 => (ε 0 = .ref 4 0 0 ∧ ε 7 = .ref i7 0 0) ∧ MA m fs σ3 w { s.keep with l := { f with pc := pc, stage := e.v } :: r1 } ∧ Kp σ2 σ3) ?_ ?_
  · intro N X R hN
    simp (maxSteps := 1000000) (implicitDefEqProofs := false) (disch := omega) only [push_cast, ↓reduceIte, Nat.reduceEqDiff, reduceCtorEq, wz, hρ, hB2, g2]
    refine wpa_st1 rfl rfl hc hlt ?_
    have hB3 := k4.at h8 hB2
    generalize σ2.set 6 (.obj w (cs.set (r1.length * 15 + 2) (.v (.int .i64 pc)))) = σ3 at h3 k4 hB3
    obtain ⟨cs3, hc3, hf3⟩ := h3.fr1 rfl
    obtain ⟨h5, hlt5⟩ := h3.st1 rfl hf3 (j := 13) (by decide) (x := .v (.int .i64 e.v)) (g := { f with pc := pc, stage := e.v }) rfl
    simp (maxSteps := 1000000) (implicitDefEqProofs := false) (disch := omega) only [push_cast, ↓reduceIte, Nat.reduceEqDiff, reduceCtorEq, wz, hρ]
    refine ⟨aholds_x (by simp (maxSteps := 1000000) (implicitDefEqProofs := false) (disch := omega) only [push_cast, ↓reduceIte, Nat.reduceEqDiff, reduceCtorEq, wz, hρ, hB3, g2, ex_In]), ?_⟩
    refine wpa_st1 rfl rfl hc3 hlt5 ?_
    simp (maxSteps := 1000000) (implicitDefEqProofs := false) (disch := omega) only [push_cast, ↓reduceIte, Nat.reduceEqDiff, reduceCtorEq, wz]
    exact hN _ _ ⟨by simp (maxSteps := 1000000) (implicitDefEqProofs := false) (disch := omega) only [push_cast, ↓reduceIte, Nat.reduceEqDiff, reduceCtorEq, wz, hρ], h5, k4.trans (Kp.set _ (by decide) _)⟩
  clear hρ ε
  rintro ε σ3 ⟨hρ, h5, k5⟩
  have hB5 := k5.at h8 hB2
  have k6 := k3.trans k5
  have es : s.goOn pc e = ({ s.keep with l := { f with pc := pc, stage := e.v } :: r1 } : Sv).mark (if e.k = 9 then 11 else 12) e.v := by
    unfold Sv.goOn
    rw [htop, if_neg (by simpa using c1), if_neg (by simpa using c2)]
    simp [Sv.setTop, Sv.mark, hkl]
  rw [es]
  have hm5 : ({ s.keep with l := { f with pc := pc, stage := e.v } :: r1 } : Sv).marks.length ≤ 1000000 := by simpa [hkm] using hb2
  refine wpa_seqx (fun ε σ4 => (ε 0 = .ref 4 0 0 ∧ ε 7 = .ref i7 0 0 ∧ ε 44 = .v (.bool (decide (e.k = 9)))) ∧ σ4 = σ3) ?_ ?_
  · intro N X R hN
    simp (maxSteps := 1000000) (implicitDefEqProofs := false) (disch := omega) only [push_cast, ↓reduceIte, Nat.reduceEqDiff, reduceCtorEq, wz, hρ, hB5, g0]
    exact hN _ _ ⟨by simp (maxSteps := 1000000) (implicitDefEqProofs := false) (disch := omega) only [push_cast, ↓reduceIte, Nat.reduceEqDiff, reduceCtorEq, wz, hρ], rfl⟩
  clear hρ ε
  rintro ε σ4 ⟨hρ, e4⟩
  rw [e4]
  by_cases c9 : e.k = 9
  · rw [if_pos c9]
    simp (maxSteps := 1000000) (implicitDefEqProofs := false) (disch := omega) only [push_cast, ↓reduceIte, Nat.reduceEqDiff, reduceCtorEq, wz, hρ, c9, hB5, g2]
    refine wpa_callG (eval_mark_a h5 11 e.v hm5) ?_
    rintro a σ' ⟨h6, k7⟩
    simp (maxSteps := 1000000) (implicitDefEqProofs := false) (disch := omega) only [push_cast, ↓reduceIte, Nat.reduceEqDiff, reduceCtorEq, wz]
    exact ⟨h6, k6.trans k7⟩
  · rw [if_neg c9]
    simp (maxSteps := 1000000) (implicitDefEqProofs := false) (disch := omega) only [push_cast, ↓reduceIte, Nat.reduceEqDiff, reduceCtorEq, wz, hρ, c9, hB5, g2]
    refine wpa_callG (eval_mark_a h5 12 e.v hm5) ?_
    rintro a σ' ⟨h6, k7⟩
    simp (maxSteps := 1000000) (implicitDefEqProofs := false) (disch := omega) only [push_cast, ↓reduceIte, Nat.reduceEqDiff, reduceCtorEq, wz]
    exact ⟨h6, k6.trans k7⟩
end
end Go.Proofs.Ytncdnegdlkmicaa
