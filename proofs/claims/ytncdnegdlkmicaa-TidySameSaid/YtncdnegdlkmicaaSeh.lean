/- Serial: the machine's small steps: loops' ends, returns, what begins. -/
import Derived.Test.YtncdnegdlkmicaaSeg
namespace Go.Proofs.Ytncdnegdlkmicaa
set_option linter.unusedVariables false
set_option linter.unusedSimpArgs false
open Go Go.Kx Go.Proofs

section
variable {m : Int} {fs : List (List Ix)} {σ : Kx.St} {w : Nat} {s : Sv}
theorem MA.evs (h : MA m fs σ w s) {s' : Sv} (hl : s'.l = s.l) (hd : s'.data = s.data) {wm wo : Nat} (hm : σ[7]? = some (.tail wm)) (ho : σ[8]? = some (.tail wo)) : MA m fs (σ.set 4 (.obj 0 (evC m fs.length w wm wo s'))) w s' := by
  obtain ⟨wm0, wo0, he, _, _⟩ := h.ev
  obtain ⟨cs, hc, hf⟩ := h.fr
  exact ⟨get_set_ne (by decide) h.fz, by rw [hd]; exact get_set_ne (by decide) h.wd, by rw [hd]; exact get_set_ne (by decide) h.st, ⟨wm, wo, get_set_eq he, get_set_ne (by decide) hm, get_set_ne (by decide) ho⟩, ⟨cs, get_set_ne (by decide) hc, by rw [hl]; exact hf⟩⟩
theorem keep0 {f q : Sf} {r : List Sf} (hl : s.l = f :: q :: r) (c : f.stage = 0) : s.keep = { s with l := f :: { q with regs := f.regs } :: r } := by
  unfold Sv.keep Sv.set2
  have htop : s.top = f := by simp [Sv.top, hl]
  rw [htop, if_pos c, hl]
set_option maxHeartbeats 8000000 in
theorem eval_leave_a (h : MA m fs σ w s) {f : Sf} {r : List Sf} (hl : s.l = f :: r) (hq : f.kind = 2 → ∃ q p r', r = q :: p :: r') (hb : s.l.length ≤ 1000000) (hb2 : s.marks.length ≤ 999999) :
    FnG Try.prog 92 [.ref 4 0 0, .ref 6 w (r.length * 15)] σ fun _ σ' => MA m fs σ' w s.leave ∧ Kp σ σ' := by
  refine fnG_in K_serial_eval_leave mixed rfl ?_
  simp only [S_serial_eval_leave]
  obtain ⟨cs, hc, hf⟩ := h.fr1 hl
  have q0 := hf.get (top_at f r) (j := 0) (x := .v (.int .i64 f.kind)) rfl
  have q13 := hf.get (top_at f r) (j := 13) (x := .v (.int .i64 f.stage)) rfl
  rw [Nat.add_zero] at q0
  have htop : s.top = f := by simp [Sv.top, hl]
  refine wpa_seq (fun ε σ2 => (ε 0 = .ref 4 0 0 ∧ ε 1 = .ref 6 w (r.length * 15)) ∧ σ2 = σ ∧ f.kind = 2 ∧ f.stage = 0) ?_ ?_
  · intro N hN
    by_cases c1 : f.kind = 2
    · rw [c1] at q0
      by_cases c2 : f.stage = 0
      · rw [c2] at q13
        simp (maxSteps := 1000000) (implicitDefEqProofs := false) (disch := omega) only [push_cast, ↓reduceIte, Nat.reduceEqDiff, reduceCtorEq, wz, hc, q0, q13]
        exact hN _ _ ⟨by simp (maxSteps := 1000000) (implicitDefEqProofs := false) (disch := omega) only [push_cast, ↓reduceIte, Nat.reduceEqDiff, reduceCtorEq, wz], rfl, c1, c2⟩
      · have es : s.leave = s.stop 4 5 := by
          unfold Sv.leave
          rw [htop, if_neg (by simpa using c1), if_pos c2]
        simp (maxSteps := 1000000) (implicitDefEqProofs := false) (disch := omega) only [push_cast, ↓reduceIte, Nat.reduceEqDiff, reduceCtorEq, wz, hc, q0, q13, c2]
        refine wpa_callG (eval_stop_a h 4 5) ?_
        rintro a σ' ⟨h3, k4⟩
        simp (maxSteps := 1000000) (implicitDefEqProofs := false) (disch := omega) only [push_cast, ↓reduceIte, Nat.reduceEqDiff, reduceCtorEq, wz]
        rw [es]
        exact ⟨h3, k4⟩
    · have es : s.leave = s.stop 4 4 := by
        unfold Sv.leave
        rw [htop, if_pos c1]
      simp (maxSteps := 1000000) (implicitDefEqProofs := false) (disch := omega) only [push_cast, ↓reduceIte, Nat.reduceEqDiff, reduceCtorEq, wz, hc, q0, c1]
      refine wpa_callG (eval_stop_a h 4 4) ?_
      rintro a σ' ⟨h3, k4⟩
      simp (maxSteps := 1000000) (implicitDefEqProofs := false) (disch := omega) only [push_cast, ↓reduceIte, Nat.reduceEqDiff, reduceCtorEq, wz]
      rw [es]
      exact ⟨h3, k4⟩
  rintro ε σ2 ⟨hρ, e2, c1, c2⟩
  rw [e2]
  clear e2 σ2
  obtain ⟨q, p, r', hr⟩ := hq c1
  have hl' : s.l = f :: q :: p :: r' := by rw [hl, hr]
  have ek := keep0 hl' c2
  refine wpa_seqx (fun ε σ2 => (ε 0 = .ref 4 0 0 ∧ ε 1 = .ref 6 w (r.length * 15)) ∧ MA m fs σ2 w { s with l := f :: { q with regs := f.regs } :: p :: r' } ∧ Kp σ σ2) ?_ ?_
  · intro N X R hN
    simp (maxSteps := 1000000) (implicitDefEqProofs := false) (disch := omega) only [push_cast, ↓reduceIte, Nat.reduceEqDiff, reduceCtorEq, wz, hρ]
    refine wpa_callG (eval_keep_a h hl (fun _ => ⟨q, p :: r', hr⟩) hb) ?_
    rintro a σ' ⟨h3, k4⟩
    simp (maxSteps := 1000000) (implicitDefEqProofs := false) (disch := omega) only [push_cast, ↓reduceIte, Nat.reduceEqDiff, reduceCtorEq, wz]
    exact hN _ _ ⟨by simp (maxSteps := 1000000) (implicitDefEqProofs := false) (disch := omega) only [push_cast, ↓reduceIte, Nat.reduceEqDiff, reduceCtorEq, wz, hρ], by rw [ek] at h3; exact h3, k4⟩
  clear hρ ε
  rintro ε σ2 ⟨hρ, h2, k2⟩
  have es : s.leave = (((({ s with l := f :: { q with regs := f.regs } :: p :: r' } : Sv).mark 10 f.index).pop.pop).mark 8 q.serial).setTop fun x => { x with regs := f.regs } := by
    unfold Sv.leave
    rw [htop, if_neg (by simpa using c1), if_neg (by simpa using c2), ek]
    rfl
  rw [es]
  have hlen : r.length = (p :: r').length + 1 := by rw [hr]; rfl
  clear hc hf q0 q13
  clear cs
  obtain ⟨cs, hc, hf⟩ := h2.fr1 rfl
  have q12 := hf.get (top_at f _) (j := 12) (x := .v (.int .i64 f.index)) rfl
  rw [show ({ q with regs := f.regs } :: p :: r' : List Sf).length = r.length from by rw [hlen]; rfl] at q12
  have hb' : s.l.length = r.length + 1 := by rw [hl]; rfl
  refine wpa_seqx (fun ε σ3 => ε 0 = .ref 4 0 0 ∧ MA m fs σ3 w (({ s with l := f :: { q with regs := f.regs } :: p :: r' } : Sv).mark 10 f.index) ∧ Kp σ2 σ3) ?_ ?_
  · intro N X R hN
    simp (maxSteps := 1000000) (implicitDefEqProofs := false) (disch := omega) only [push_cast, ↓reduceIte, Nat.reduceEqDiff, reduceCtorEq, wz, hρ, hc, q12]
    refine wpa_callG (eval_mark_a h2 10 f.index (by show s.marks.length ≤ _; omega)) ?_
    rintro a σ' ⟨h3, k4⟩
    simp (maxSteps := 1000000) (implicitDefEqProofs := false) (disch := omega) only [push_cast, ↓reduceIte, Nat.reduceEqDiff, reduceCtorEq, wz]
    exact hN _ _ ⟨by simp (maxSteps := 1000000) (implicitDefEqProofs := false) (disch := omega) only [push_cast, ↓reduceIte, Nat.reduceEqDiff, reduceCtorEq, wz, hρ], h3, k4⟩
  clear hρ ε
  rintro ε σ3 ⟨hρ, h3, k3⟩
  refine wpa_seqx (fun ε σ4 => ε 0 = .ref 4 0 0 ∧ MA m fs σ4 w (({ s with l := f :: { q with regs := f.regs } :: p :: r' } : Sv).mark 10 f.index).pop ∧ Kp σ3 σ4) ?_ ?_
  · intro N X R hN
    simp (maxSteps := 1000000) (implicitDefEqProofs := false) (disch := omega) only [push_cast, ↓reduceIte, Nat.reduceEqDiff, reduceCtorEq, wz, hρ]
    refine wpa_callG (eval_pop_a h3 (f := f) (r := { q with regs := f.regs } :: p :: r') rfl (by show ({ q with regs := f.regs } :: p :: r' : List Sf).length + 1 ≤ _; simp only [List.length_cons] at hlen ⊢; omega)) ?_
    rintro a σ' ⟨rfl, h4, k4⟩
    simp (maxSteps := 1000000) (implicitDefEqProofs := false) (disch := omega) only [push_cast, ↓reduceIte, Nat.reduceEqDiff, reduceCtorEq, wz]
    exact hN _ _ ⟨by simp (maxSteps := 1000000) (implicitDefEqProofs := false) (disch := omega) only [push_cast, ↓reduceIte, Nat.reduceEqDiff, reduceCtorEq, wz, hρ], h4, k4⟩
  clear hρ ε
  rintro ε σ4 ⟨hρ, h4, k4⟩
  have hset : ∀ g : Sf, setAtA (aSf ⟨0, 0, 0, z8, false, 0, 0, 0⟩) 0 (aSf g) = aSf g := fun g => rfl
  refine wpa_seqx (fun ε σ5 => ∃ i, (ε 0 = .ref 4 0 0 ∧ ε 4 = .ref i 0 0) ∧ 8 < i ∧ σ5[i]? = some (.obj 0 (aSf { q with regs := f.regs })) ∧ MA m fs σ5 w (({ s with l := f :: { q with regs := f.regs } :: p :: r' } : Sv).mark 10 f.index).pop.pop ∧ Kp σ4 σ5) ?_ ?_
  · intro N X R hN
    simp (maxSteps := 1000000) (implicitDefEqProofs := false) (disch := omega) only [push_cast, ↓reduceIte, Nat.reduceEqDiff, reduceCtorEq, wz, hρ]
    refine wpa_callG (eval_pop_a h4 (f := { q with regs := f.regs }) (r := p :: r') rfl (by show (p :: r' : List Sf).length + 1 ≤ _; omega)) ?_
    rintro a σ' ⟨rfl, h5, k5⟩
    have h8 := h5.len
    simp (maxSteps := 1000000) (implicitDefEqProofs := false) (disch := omega) only [push_cast, ↓reduceIte, Nat.reduceEqDiff, reduceCtorEq, wz]
    refine wpa_new ?_
    simp (maxSteps := 1000000) (implicitDefEqProofs := false) (disch := omega) only [push_cast, ↓reduceIte, Nat.reduceEqDiff, reduceCtorEq, wz]
    refine wpa_stn (cs := aSf ⟨0, 0, 0, z8, false, 0, 0, 0⟩) (aSf_len _) rfl (at_snoc _ _) (by simp [aSf]) ?_
    rw [hset, set_snoc]
    simp (maxSteps := 1000000) (implicitDefEqProofs := false) (disch := omega) only [push_cast, ↓reduceIte, Nat.reduceEqDiff, reduceCtorEq, wz]
    exact hN _ _ ⟨σ'.length, by simp (maxSteps := 1000000) (implicitDefEqProofs := false) (disch := omega) only [push_cast, ↓reduceIte, Nat.reduceEqDiff, reduceCtorEq, wz, hρ], h8, at_snoc _ _, h5.app, k5.trans (Kp.app _ _)⟩
  clear hρ ε
  rintro ε σ5 ⟨i4, hρ, h8, hB, h5, k5⟩
  have q14 : (aSf { q with regs := f.regs })[14]? = some (.v (.int .i64 q.serial)) := rfl
  refine wpa_seqx (fun ε σ6 => (ε 0 = .ref 4 0 0 ∧ ε 4 = .ref i4 0 0) ∧ MA m fs σ6 w ((({ s with l := f :: { q with regs := f.regs } :: p :: r' } : Sv).mark 10 f.index).pop.pop.mark 8 q.serial) ∧ Kp σ5 σ6) ?_ ?_
  · intro N X R hN
    simp (maxSteps := 1000000) (implicitDefEqProofs := false) (disch := omega) only [push_cast, ↓reduceIte, Nat.reduceEqDiff, reduceCtorEq, wz, hρ, hB, q14]
    refine wpa_callG (eval_mark_a h5 8 q.serial (by simp [Sv.pop, Sv.mark]; omega)) ?_
    rintro a σ' ⟨h6, k6⟩
    simp (maxSteps := 1000000) (implicitDefEqProofs := false) (disch := omega) only [push_cast, ↓reduceIte, Nat.reduceEqDiff, reduceCtorEq, wz]
    exact hN _ _ ⟨by simp (maxSteps := 1000000) (implicitDefEqProofs := false) (disch := omega) only [push_cast, ↓reduceIte, Nat.reduceEqDiff, reduceCtorEq, wz, hρ], h6, k6⟩
  clear hρ ε
  rintro ε σ6 ⟨hρ, h6, k6⟩
  have hB6 := k6.at h8 hB
  have kk := ((((k2.trans k3).trans k4).trans k5).trans k6)
  have q3 : (aSf { q with regs := f.regs }).drop 3 = aRg f.regs ++ [.v (.bool q.dirty), .v (.int .i64 q.index), .v (.int .i64 q.stage), .v (.int .i64 q.serial)] := rfl
  have hl6 : ((({ s with l := f :: { q with regs := f.regs } :: p :: r' } : Sv).mark 10 f.index).pop.pop.mark 8 q.serial).l = p :: r' := rfl
  obtain ⟨cs6, hc6, hf6⟩ := h6.fr1 hl6
  obtain ⟨h7, hlt⟩ := h6.stR hl6 hf6 f.regs
  simp (maxSteps := 1000000) (implicitDefEqProofs := false) (disch := omega) only [push_cast, ↓reduceIte, Nat.reduceEqDiff, reduceCtorEq, wz, hρ, hB6, q3, cells8a]
  refine wpa_callG (eval_top_a h6 hl6 (by show (p :: r' : List Sf).length ≤ _; omega)) ?_
  rintro a σ' ⟨rfl, e1⟩
  rw [e1]
  simp (maxSteps := 1000000) (implicitDefEqProofs := false) (disch := omega) only [push_cast, ↓reduceIte, Nat.reduceEqDiff, reduceCtorEq, wz]
  refine ⟨aholds_x (by simp (maxSteps := 1000000) (implicitDefEqProofs := false) (disch := omega) only [push_cast, ↓reduceIte, Nat.reduceEqDiff, reduceCtorEq, wz, hρ, hB6, q3, cells8a, ex_Rg]), ?_⟩
  refine wpa_stn (aRg_len _) rfl hc6 hlt ?_
  simp (maxSteps := 1000000) (implicitDefEqProofs := false) (disch := omega) only [push_cast, ↓reduceIte, Nat.reduceEqDiff, reduceCtorEq, wz]
  exact ⟨h7, kk.trans (Kp.set _ (by decide) _)⟩
set_option maxHeartbeats 8000000 in
theorem eval_back_a (h : MA m fs σ w s) {f : Sf} {r : List Sf} (hl : s.l = f :: r) (hq : f.kind = 2 → ∃ q r', r = q :: r') (hb : s.l.length ≤ 1000000) (hb2 : s.marks.length ≤ 999999) :
    FnG Try.prog 93 [.ref 4 0 0, .ref 6 w (r.length * 15)] σ fun _ σ' => ∃ w', MA m fs σ' w' s.back ∧ Kp σ σ' := by
  refine fnG_in K_serial_eval_back mixed rfl ?_
  simp only [S_serial_eval_back]
  obtain ⟨cs, hc, hf⟩ := h.fr1 hl
  have q0 := hf.get (top_at f r) (j := 0) (x := .v (.int .i64 f.kind)) rfl
  rw [Nat.add_zero] at q0
  have htop : s.top = f := by simp [Sv.top, hl]
  refine wpa_blk fun X' _ => ?_
  refine wpa_seqx (fun ε σ2 => (ε 0 = .ref 4 0 0 ∧ ε 1 = .ref 6 w (r.length * 15) ∧ ε 8 = .v (.bool (decide (f.kind = 2)))) ∧ σ2 = σ) ?_ ?_
  · intro N X R hN
    simp (maxSteps := 1000000) (implicitDefEqProofs := false) (disch := omega) only [push_cast, ↓reduceIte, Nat.reduceEqDiff, reduceCtorEq, wz, hc, q0]
    exact hN _ _ ⟨by simp (maxSteps := 1000000) (implicitDefEqProofs := false) (disch := omega) only [push_cast, ↓reduceIte, Nat.reduceEqDiff, reduceCtorEq, wz], rfl⟩
  rintro ε σ2 ⟨hρ, e2⟩
  rw [e2]
  clear e2 σ2
  by_cases c1 : f.kind = 2
  · obtain ⟨q, r', hr⟩ := hq c1
    have hq' : f.stage = 0 → ∃ q r', r = q :: r' := fun _ => ⟨q, r', hr⟩
    obtain ⟨r1, hkl, hkn, hkm⟩ := keep_l hl hq'
    have es : s.back = ((s.keep.mark 10 f.index).pop).iterate := by
      unfold Sv.back
      rw [htop, if_pos c1]
    rw [es]
    have hkq : ∃ q1 r1', r1 = q1 :: r1' := by
      cases r1 with
      | nil => rw [hr] at hkn; simp at hkn
      | cons a b => exact ⟨a, b, rfl⟩
    obtain ⟨q1, r1', hr1⟩ := hkq
    have hb' : s.l.length = r1.length + 1 := by rw [hl, hkn]; rfl
    simp (maxSteps := 1000000) (implicitDefEqProofs := false) (disch := omega) only [push_cast, ↓reduceIte, Nat.reduceEqDiff, reduceCtorEq, wz, hρ, c1]
    refine wpa_callG (eval_keep_a h hl hq' hb) ?_
    rintro a σ2 ⟨h2, k2⟩
    obtain ⟨cs2, hc2, hf2⟩ := h2.fr1 hkl
    have q12 := hf2.get (top_at f _) (j := 12) (x := .v (.int .i64 f.index)) rfl
    rw [hkn] at q12
    simp (maxSteps := 1000000) (implicitDefEqProofs := false) (disch := omega) only [push_cast, ↓reduceIte, Nat.reduceEqDiff, reduceCtorEq, wz, hρ, hc2, q12]
    refine wpa_callG (eval_mark_a h2 10 f.index (by rw [hkm]; omega)) ?_
    rintro a σ3 ⟨h3, k3⟩
    simp (maxSteps := 1000000) (implicitDefEqProofs := false) (disch := omega) only [push_cast, ↓reduceIte, Nat.reduceEqDiff, reduceCtorEq, wz, hρ]
    have hl3 : (s.keep.mark 10 f.index).l = f :: r1 := hkl
    refine wpa_callG (eval_pop_a h3 hl3 (by rw [hl3]; simp only [List.length_cons]; omega)) ?_
    rintro a σ4 ⟨rfl, h4, k4⟩
    simp (maxSteps := 1000000) (implicitDefEqProofs := false) (disch := omega) only [push_cast, ↓reduceIte, Nat.reduceEqDiff, reduceCtorEq, wz, hρ]
    have hl4 : (s.keep.mark 10 f.index).pop.l = q1 :: r1' := by
      show s.keep.l.tail = _
      rw [hkl, ← hr1]
      rfl
    refine wpa_callG (eval_iterate_a h4 hl4 (by rw [hl4, ← hr1]; omega) (by show (s.keep.marks ++ [_]).length ≤ _; rw [hkm]; simp; omega)) ?_
    rintro a σ5 ⟨h5, k5⟩
    simp (maxSteps := 1000000) (implicitDefEqProofs := false) (disch := omega) only [push_cast, ↓reduceIte, Nat.reduceEqDiff, reduceCtorEq, wz]
    exact ⟨w + 1, h5, ((k2.trans k3).trans k4).trans k5⟩
  · have hn : s.l.length = r.length + 1 := by rw [hl]; rfl
    obtain ⟨wm, wo, he, hm, ho⟩ := h.ev
    have g2 : (evC m fs.length w wm wo s)[2]? = some (.ms 6 w 0 (r.length + 1) 15) := by rw [ev2, hn]
    by_cases c2 : r.length = 0
    · have es : s.back = s.stop 1 0 := by
        unfold Sv.back
        rw [htop, if_neg c1, if_pos (by omega)]
      rw [es]
      rw [c2] at g2
      simp (maxSteps := 1000000) (implicitDefEqProofs := false) (disch := omega) only [push_cast, ↓reduceIte, Nat.reduceEqDiff, reduceCtorEq, wz, hρ, c1, he, g2]
      refine wpa_callG (eval_stop_a h 1 0) ?_
      rintro a σ' ⟨h3, k4⟩
      simp (maxSteps := 1000000) (implicitDefEqProofs := false) (disch := omega) only [push_cast, ↓reduceIte, Nat.reduceEqDiff, reduceCtorEq, wz]
      exact ⟨w, h3, k4⟩
    · have es : s.back = (s.mark 5 0).pop := by
        unfold Sv.back
        rw [htop, if_neg c1, if_neg (by omega)]
      rw [es]
      have c3 : ¬ ((r.length : Int) + 1 = 1) := by omega
      simp (maxSteps := 1000000) (implicitDefEqProofs := false) (disch := omega) only [push_cast, ↓reduceIte, Nat.reduceEqDiff, reduceCtorEq, wz, hρ, c1, he, g2, c3]
      refine wpa_callG (eval_mark_a h 5 0 (by omega)) ?_
      rintro a σ' ⟨h3, k4⟩
      simp (maxSteps := 1000000) (implicitDefEqProofs := false) (disch := omega) only [push_cast, ↓reduceIte, Nat.reduceEqDiff, reduceCtorEq, wz, hρ]
      have hl3 : (s.mark 5 0).l = f :: r := hl
      refine wpa_callG (eval_pop_a h3 hl3 (by rw [hl3]; simp only [List.length_cons]; omega)) ?_
      rintro a σ4 ⟨rfl, h4, k5⟩
      simp (maxSteps := 1000000) (implicitDefEqProofs := false) (disch := omega) only [push_cast, ↓reduceIte, Nat.reduceEqDiff, reduceCtorEq, wz]
      exact ⟨w, h4, k4.trans k5⟩
end
end Go.Proofs.Ytncdnegdlkmicaa
