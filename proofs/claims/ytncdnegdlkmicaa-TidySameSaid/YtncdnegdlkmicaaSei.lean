/- Serial: the machine's small steps: what begins; an instruction. -/
import Derived.Test.YtncdnegdlkmicaaSeh
namespace Go.Proofs.Ytncdnegdlkmicaa
set_option linter.unusedVariables false
set_option linter.unusedSimpArgs false
open Go Go.Kx Go.Proofs

section
variable {m : Int} {fs : List (List Ix)} {σ : Kx.St} {w : Nat} {s : Sv}
theorem fill_tk (k fn : Int) (rs : List Int) : fillA [AV.v (.int .i64 0), AV.v (.int .i64 0), AV.v (.int .i64 0), AV.v (.int .i64 0), AV.v (.int .i64 0), AV.v (.int .i64 0), AV.v (.int .i64 0), AV.v (.int .i64 0), AV.v (.int .i64 0), AV.v (.int .i64 0), AV.v (.int .i64 0), AV.v (.bool false), AV.v (.int .i64 0), AV.v (.int .i64 0), AV.v (.int .i64 0)]
    [(0, 1), (1, 1), (3, 8)] [.v (.int .i64 k), .v (.int .i64 fn), .agg (aRg rs)] = some (aSf ⟨k, fn, 0, rs, false, 0, 0, 0⟩) := rfl
theorem fill_lp (fn n : Int) (rs : List Int) : fillA [AV.v (.int .i64 0), AV.v (.int .i64 0), AV.v (.int .i64 0), AV.v (.int .i64 0), AV.v (.int .i64 0), AV.v (.int .i64 0), AV.v (.int .i64 0), AV.v (.int .i64 0), AV.v (.int .i64 0), AV.v (.int .i64 0), AV.v (.int .i64 0), AV.v (.bool false), AV.v (.int .i64 0), AV.v (.int .i64 0), AV.v (.int .i64 0)]
    [(0, 1), (1, 1), (3, 8), (14, 1)] [.v (.int .i64 3), .v (.int .i64 fn), .agg (aRg rs), .v (.int .i64 n)] = some (aSf ⟨3, fn, 0, rs, false, 0, 0, n⟩) := rfl
theorem ev8' {n wm wo : Nat} : (evC m n w wm wo s)[6 + 2]? = some (.sl s.out.length (s.out.map aInt) (.id 8 wo 1)) := rfl
theorem ex_sl (n : Nat) (cs : List AV) (i w k : Nat) : (AV.sl n cs (.id i w k)).exact = true := rfl
set_option maxHeartbeats 8000000 in
theorem eval_begins_a (h : MA m fs σ w s) {f : Sf} {r : List Sf} (hl : s.l = f :: r) (e : Ef) (hb : s.l.length ≤ 999999) (hb2 : s.marks.length ≤ 999999) (hb3 : s.out.length ≤ 1000000) :
    FnG Try.prog 94 [.ref 4 0 0, .ref 6 w (r.length * 15), .agg (aEf e)] σ fun _ σ' => ∃ w', MA m fs σ' w' (s.begins e) ∧ Kp σ σ' := by
  refine fnG_in K_serial_eval_begins mixed rfl ?_
  simp only [S_serial_eval_begins]
  have hae : (AV.agg (aEf e)).cells = aEf e := rfl
  have g0 : (aEf e)[0]? = some (.v (.int .i64 e.k)) := rfl
  have g2 : (aEf e)[2]? = some (.v (.int .i64 e.v)) := rfl
  have h8 := h.len
  have htop : s.top = f := by simp [Sv.top, hl]
  refine wpa_seqx (fun ε σ1 => (ε 0 = .ref 4 0 0 ∧ ε 1 = .ref 6 w (r.length * 15) ∧ ε 5 = .ref σ.length 0 0) ∧ σ1 = σ ++ [.obj 0 (aEf e)]) ?_ ?_
  · intro N X R hN
    simp (maxSteps := 1000000) (implicitDefEqProofs := false) (disch := omega) only [push_cast, ↓reduceIte, Nat.reduceEqDiff, reduceCtorEq, wz]
    refine wpa_box ?_
    simp (maxSteps := 1000000) (implicitDefEqProofs := false) (disch := omega) only [push_cast, ↓reduceIte, Nat.reduceEqDiff, reduceCtorEq, wz, hae]
    exact hN _ _ ⟨by simp (maxSteps := 1000000) (implicitDefEqProofs := false) (disch := omega) only [push_cast, ↓reduceIte, Nat.reduceEqDiff, reduceCtorEq, wz], rfl⟩
  rintro ε σ1 ⟨hρ, rfl⟩
  have hB : (σ ++ [Res.obj 0 (aEf e)])[σ.length]? = some (.obj 0 (aEf e)) := at_snoc _ _
  have hk1 : Kp σ (σ ++ [Res.obj 0 (aEf e)]) := Kp.app _ _
  have h1 := h.app (τ := [Res.obj 0 (aEf e)])
  generalize σ ++ [Res.obj 0 (aEf e)] = σ1 at hB h1 hk1
  generalize σ.length = i5 at hρ hB h8
  refine wpa_seqx (fun ε σ2 => (ε 0 = .ref 4 0 0 ∧ ε 1 = .ref 6 w (r.length * 15) ∧ ε 5 = .ref i5 0 0 ∧ ε 7 = .v (.int .i64 e.k)) ∧ σ2 = σ1) ?_ ?_
  · intro N X R hN
    simp (maxSteps := 1000000) (implicitDefEqProofs := false) (disch := omega) only [push_cast, ↓reduceIte, Nat.reduceEqDiff, reduceCtorEq, wz, hρ, hB, g0]
    exact hN _ _ ⟨by simp (maxSteps := 1000000) (implicitDefEqProofs := false) (disch := omega) only [push_cast, ↓reduceIte, Nat.reduceEqDiff, reduceCtorEq, wz, hρ], rfl⟩
  clear hρ ε
  rintro ε σ2 ⟨hρ, e2⟩
  rw [e2]
  clear e2 σ2
  refine wpa_blk fun X' _ => ?_
  obtain ⟨wm, wo, he, hm, ho⟩ := h1.ev
  obtain ⟨cs, hc, hf⟩ := h1.fr1 hl
  by_cases c5 : e.k = 5
  · have es : s.begins e = ({ s with out := s.out ++ [e.v] } : Sv).mark 3 e.v := by unfold Sv.begins; rw [if_pos c5]
    rw [es]
    have h2 := (h1.set (by decide : 8 < 9) (Res.obj 0 [])).evs (s' := { s with out := s.out ++ [e.v] }) rfl rfl (get_set_ne (by decide) hm) (get_set_ne (by decide) ho)
    clear h2
    have hol : (s.out.map aInt).length = s.out.length * 1 := by simp
    have hT := get_set_eq (o := Res.tail (wo + 1)) ho
    have hev : (evC m fs.length w wm wo s).set (6 + 2) (.sl (s.out.length + 1) (s.out.map aInt ++ [.v (.int .i64 e.v)]) (.id 8 (wo + 1) 1)) = evC m fs.length w wm (wo + 1) { s with out := s.out ++ [e.v] } := by simp [evC, aInt]
    have hM : MA m fs ((σ1.set 8 (.tail (wo + 1))).set 4 (.obj 0 (evC m fs.length w wm (wo + 1) { s with out := s.out ++ [e.v] }))) w { s with out := s.out ++ [e.v] } :=
      ⟨get_set_ne (by decide) (get_set_ne (by decide) h1.fz), get_set_ne (by decide) (get_set_ne (by decide) h1.wd), get_set_ne (by decide) (get_set_ne (by decide) h1.st),
        ⟨wm, wo + 1, get_set_eq (get_set_ne (by decide) he), get_set_ne (by decide) (get_set_ne (by decide) hm), get_set_ne (by decide) hT⟩, ⟨cs, get_set_ne (by decide) (get_set_ne (by decide) hc), by rw [← hl] at hf; exact hf⟩⟩
    have kM : Kp σ1 ((σ1.set 8 (.tail (wo + 1))).set 4 (.obj 0 (evC m fs.length w wm (wo + 1) { s with out := s.out ++ [e.v] }))) := (Kp.set _ (by decide) _).trans (Kp.set _ (by decide) _)
    have hBM := kM.at h8 hB
    have hvc : (AV.v (.int .i64 e.v)).cells = [.v (.int .i64 e.v)] := rfl
    simp (maxSteps := 1000000) (implicitDefEqProofs := false) (disch := omega) only [push_cast, ↓reduceIte, Nat.reduceEqDiff, reduceCtorEq, wz, hρ, c5, he, ev8', hB, g2]
    refine wpa_bsl (sz := 1) (by intro a ha; simp at ha; subst ha; rfl) (by simp) ?_
    simp (maxSteps := 1000000) (implicitDefEqProofs := false) (disch := omega) only [push_cast, ↓reduceIte, Nat.reduceEqDiff, reduceCtorEq, wz, hρ, hvc, List.append_nil]
    refine ⟨aholds_x (by simp (maxSteps := 1000000) (implicitDefEqProofs := false) (disch := omega) only [push_cast, ↓reduceIte, Nat.reduceEqDiff, reduceCtorEq, wz, he, ev8', ex_sl]), ?_⟩
    refine wpa_app (m := 1) rfl rfl rfl rfl hol (by omega) (by omega) ho ?_
    simp (maxSteps := 1000000) (implicitDefEqProofs := false) (disch := omega) only [push_cast, ↓reduceIte, Nat.reduceEqDiff, reduceCtorEq, wz, hρ]
    refine wpa_st1 rfl rfl (get_set_ne (by decide) he) (by simp [evC]) ?_
    rw [hev]
    generalize (σ1.set 8 (.tail (wo + 1))).set 4 (.obj 0 (evC m fs.length w wm (wo + 1) { s with out := s.out ++ [e.v] })) = σ2 at hM kM hBM
    simp (maxSteps := 1000000) (implicitDefEqProofs := false) (disch := omega) only [push_cast, ↓reduceIte, Nat.reduceEqDiff, reduceCtorEq, wz, hρ, hBM, g2]
    refine wpa_callG (eval_mark_a hM 3 e.v (by show s.marks.length ≤ _; omega)) ?_
    rintro a σ' ⟨h3, k3⟩
    simp (maxSteps := 1000000) (implicitDefEqProofs := false) (disch := omega) only [push_cast, ↓reduceIte, Nat.reduceEqDiff, reduceCtorEq, wz]
    exact ⟨w, h3, (hk1.trans kM).trans k3⟩
  by_cases c6 : e.k = 6
  · have es : s.begins e = (({ s with l := { f with dirty := true } :: r } : Sv).mark 4 0).push ⟨1, e.v, 0, f.regs, false, 0, 0, 0⟩ := by
      unfold Sv.begins
      rw [if_neg c5, if_pos c6, htop]
      simp [Sv.setTop, hl]
    rw [es]
    obtain ⟨h2, hlt⟩ := h1.st1 hl hf (j := 11) (by decide) (x := .v (.bool true)) (g := { f with dirty := true }) rfl
    have k2 : Kp σ1 (σ1.set 6 (.obj w (cs.set (r.length * 15 + 11) (.v (.bool true))))) := Kp.set _ (by decide) _
    simp (maxSteps := 1000000) (implicitDefEqProofs := false) (disch := omega) only [push_cast, ↓reduceIte, Nat.reduceEqDiff, reduceCtorEq, wz, hρ, c6]
    refine wpa_st1 rfl rfl hc hlt ?_
    generalize σ1.set 6 (.obj w (cs.set (r.length * 15 + 11) (.v (.bool true)))) = σ2 at h2 k2
    simp (maxSteps := 1000000) (implicitDefEqProofs := false) (disch := omega) only [push_cast, ↓reduceIte, Nat.reduceEqDiff, reduceCtorEq, wz, hρ]
    refine wpa_callG (eval_mark_a h2 4 0 (by show s.marks.length ≤ _; omega)) ?_
    rintro a σ3 ⟨h3, k3⟩
    obtain ⟨cs3, hc3, hf3⟩ := h3.fr1 rfl
    obtain ⟨t, hr⟩ := hf3.regs (top_at _ r)
    have hB3 := (k2.trans k3).at h8 hB
    simp (maxSteps := 1000000) (implicitDefEqProofs := false) (disch := omega) only [push_cast, ↓reduceIte, Nat.reduceEqDiff, reduceCtorEq, wz, hρ, hB3, g2, hc3, hr, cells8a, fill_tk]
    refine wpa_callG (eval_push_a h3 ⟨1, e.v, 0, f.regs, false, 0, 0, 0⟩ (by show (_ :: r : List Sf).length ≤ _; rw [hl] at hb; simp only [List.length_cons] at hb ⊢; omega)) ?_
    rintro a σ4 ⟨h4, k4⟩
    simp (maxSteps := 1000000) (implicitDefEqProofs := false) (disch := omega) only [push_cast, ↓reduceIte, Nat.reduceEqDiff, reduceCtorEq, wz]
    exact ⟨w + 1, h4, ((hk1.trans k2).trans k3).trans k4⟩
  by_cases c8 : e.k = 8
  · have es : s.begins e = ((({ s with serial := IntKind.i64.wrap (s.serial + 1) } : Sv).mark 7 (IntKind.i64.wrap (s.serial + 1))).push ⟨3, e.v, 0, f.regs, false, 0, 0, IntKind.i64.wrap (s.serial + 1)⟩).iterate := by
      unfold Sv.begins
      rw [if_neg c5, if_neg c6, if_pos c8, htop]
    rw [es]
    have hev : (evC m fs.length w wm wo s).set 5 (.v (.int .i64 (IntKind.i64.wrap (s.serial + 1)))) = evC m fs.length w wm wo { s with serial := IntKind.i64.wrap (s.serial + 1) } := rfl
    have h2 := h1.evs (s' := { s with serial := IntKind.i64.wrap (s.serial + 1) }) rfl rfl hm ho
    have k2 : Kp σ1 (σ1.set 4 (.obj 0 (evC m fs.length w wm wo { s with serial := IntKind.i64.wrap (s.serial + 1) }))) := Kp.set _ (by decide) _
    simp (maxSteps := 1000000) (implicitDefEqProofs := false) (disch := omega) only [push_cast, ↓reduceIte, Nat.reduceEqDiff, reduceCtorEq, wz, hρ, c8, he, ev5]
    refine wpa_st1 rfl rfl he (by simp [evC]) ?_
    rw [hev]
    generalize σ1.set 4 (.obj 0 (evC m fs.length w wm wo { s with serial := IntKind.i64.wrap (s.serial + 1) })) = σ2 at h2 k2
    obtain ⟨wm2, wo2, he2, hm2, ho2⟩ := h2.ev
    have e52 : (evC m fs.length w wm2 wo2 { s with serial := IntKind.i64.wrap (s.serial + 1) })[5]? = some (.v (.int .i64 (IntKind.i64.wrap (s.serial + 1)))) := rfl
    simp (maxSteps := 1000000) (implicitDefEqProofs := false) (disch := omega) only [push_cast, ↓reduceIte, Nat.reduceEqDiff, reduceCtorEq, wz, hρ, he2, e52]
    refine wpa_callG (eval_mark_a h2 7 (IntKind.i64.wrap (s.serial + 1)) (by show s.marks.length ≤ _; omega)) ?_
    rintro a σ3 ⟨h3, k3⟩
    have hl3 : (({ s with serial := IntKind.i64.wrap (s.serial + 1) } : Sv).mark 7 (IntKind.i64.wrap (s.serial + 1))).l = f :: r := hl
    obtain ⟨cs3, hc3, hf3⟩ := h3.fr1 hl3
    obtain ⟨t, hr⟩ := hf3.regs (top_at _ r)
    have hB3 := (k2.trans k3).at h8 hB
    obtain ⟨wm3, wo3, he3, hm3, ho3⟩ := h3.ev
    have e53 : (evC m fs.length w wm3 wo3 (({ s with serial := IntKind.i64.wrap (s.serial + 1) } : Sv).mark 7 (IntKind.i64.wrap (s.serial + 1))))[5]? = some (.v (.int .i64 (IntKind.i64.wrap (s.serial + 1)))) := rfl
    simp (maxSteps := 1000000) (implicitDefEqProofs := false) (disch := omega) only [push_cast, ↓reduceIte, Nat.reduceEqDiff, reduceCtorEq, wz, hρ, hB3, g2, hc3, hr, he3, e53, cells8a, fill_lp]
    refine wpa_callG (eval_push_a h3 ⟨3, e.v, 0, f.regs, false, 0, 0, IntKind.i64.wrap (s.serial + 1)⟩ (by rw [hl3]; rw [hl] at hb; omega)) ?_
    rintro a σ4 ⟨h4, k4⟩
    simp (maxSteps := 1000000) (implicitDefEqProofs := false) (disch := omega) only [push_cast, ↓reduceIte, Nat.reduceEqDiff, reduceCtorEq, wz, hρ]
    refine wpa_callG (eval_iterate_a h4 (f := ⟨3, e.v, 0, f.regs, false, 0, 0, IntKind.i64.wrap (s.serial + 1)⟩) (r := s.l) rfl (by show (_ :: s.l : List Sf).length ≤ _; simp only [List.length_cons]; omega) (by show (s.marks ++ [_]).length ≤ _; simp; omega)) ?_
    rintro a σ5 ⟨h5, k5⟩
    simp (maxSteps := 1000000) (implicitDefEqProofs := false) (disch := omega) only [push_cast, ↓reduceIte, Nat.reduceEqDiff, reduceCtorEq, wz]
    exact ⟨w + 1 + 1, h5, (((hk1.trans k2).trans k3).trans k4).trans k5⟩
  have es : s.begins e = s := by
    unfold Sv.begins
    rw [if_neg c5, if_neg c6, if_neg c8]
  rw [es]
  simp (maxSteps := 1000000) (implicitDefEqProofs := false) (disch := omega) only [push_cast, ↓reduceIte, Nat.reduceEqDiff, reduceCtorEq, wz, hρ, c5, c6, c8]
  exact ⟨w, h1, hk1⟩
end
end Go.Proofs.Ytncdnegdlkmicaa
