/- Serial: the machine's small steps: what is done to frames and memory. -/
import Derived.Test.YtncdnegdlkmicaaSee
namespace Go.Proofs.Ytncdnegdlkmicaa
set_option linter.unusedVariables false
set_option linter.unusedSimpArgs false
open Go Go.Kx Go.Proofs

section
variable {m : Int} {fs : List (List Ix)} {σ : Kx.St} {w : Nat} {s : Sv}
theorem MA.fr1 (h : MA m fs σ w s) {f : Sf} {r : List Sf} (hl : s.l = f :: r) : ∃ cs, σ[6]? = some (.obj w cs) ∧ FrAt cs (f :: r) := by
  obtain ⟨cs, h1, h2⟩ := h.fr
  rw [hl] at h2
  exact ⟨cs, h1, h2⟩
theorem MA.put (h : MA m fs σ w s) {cs : List AV} {l : List Sf} (hf : FrAt cs l) (hn : l.length = s.l.length) : MA m fs (σ.set 6 (.obj w cs)) w { s with l := l } := by
  obtain ⟨wm, wo, he, hm, ho⟩ := h.ev
  obtain ⟨cs0, hc, hf0⟩ := h.fr
  have hev : evC m fs.length w wm wo s = evC m fs.length w wm wo { s with l := l } := by simp [evC, hn]
  exact ⟨get_set_ne (by decide) h.fz, get_set_ne (by decide) h.wd, get_set_ne (by decide) h.st, ⟨wm, wo, by rw [← hev]; exact get_set_ne (by decide) he, get_set_ne (by decide) hm, get_set_ne (by decide) ho⟩, ⟨cs, get_set_eq hc, hf⟩⟩
theorem MA.st1 (h : MA m fs σ w s) {f : Sf} {r : List Sf} (hl : s.l = f :: r) {cs : List AV} (hf : FrAt cs (f :: r)) {j : Nat} (hj : j < 15) {x : AV} {g : Sf} (hx : (aSf f).set j x = aSf g) :
    MA m fs (σ.set 6 (.obj w (cs.set (r.length * 15 + j) x))) w { s with l := g :: r } ∧ r.length * 15 + j < cs.length := by
  have h1 := hf.1
  simp only [List.length_cons] at h1
  exact ⟨h.put (hf.set (top_at f r) hj hx (top_set f g r)) (by rw [hl]; rfl), by omega⟩
theorem MA.stR (h : MA m fs σ w s) {f : Sf} {r : List Sf} (hl : s.l = f :: r) {cs : List AV} (hf : FrAt cs (f :: r)) (rs : List Int) :
    MA m fs (σ.set 6 (.obj w (setAtA cs (r.length * 15 + 3) (aRg rs)))) w { s with l := { f with regs := rs } :: r } ∧ r.length * 15 + 3 + 8 ≤ cs.length := by
  have h1 := hf.1
  simp only [List.length_cons] at h1
  exact ⟨h.put (hf.setR (top_at f r) (top_set f _ r)) (by rw [hl]; rfl), by omega⟩
theorem MA.stR2 (h : MA m fs σ w s) {f q : Sf} {r : List Sf} (hl : s.l = f :: q :: r) {cs : List AV} (hf : FrAt cs (f :: q :: r)) (rs : List Int) :
    MA m fs (σ.set 6 (.obj w (setAtA cs (r.length * 15 + 3) (aRg rs)))) w { s with l := f :: { q with regs := rs } :: r } ∧ r.length * 15 + 3 + 8 ≤ cs.length := by
  have h1 := hf.1
  simp only [List.length_cons] at h1
  exact ⟨h.put (hf.setR (sec_at f q r) (sec_set f q _ r)) (by rw [hl]; rfl), by omega⟩
theorem MA.words (h : MA m fs σ w s) {d : List Int} (hn : d.length = s.data.length) : MA m fs (σ.set 2 (.obj 0 (d.map aInt))) w { s with data := d } := by
  obtain ⟨wm, wo, he, hm, ho⟩ := h.ev
  obtain ⟨cs, hc, hf⟩ := h.fr
  exact ⟨get_set_ne (by decide) h.fz, get_set_eq h.wd, by rw [show ({ s with data := d } : Sv).data.length = s.data.length from hn]; exact get_set_ne (by decide) h.st, ⟨wm, wo, get_set_ne (by decide) he, get_set_ne (by decide) hm, get_set_ne (by decide) ho⟩, ⟨cs, get_set_ne (by decide) hc, hf⟩⟩
theorem fill_it (fn i : Int) (rs : List Int) : fillA [AV.v (.int .i64 0), AV.v (.int .i64 0), AV.v (.int .i64 0), AV.v (.int .i64 0), AV.v (.int .i64 0), AV.v (.int .i64 0), AV.v (.int .i64 0), AV.v (.int .i64 0), AV.v (.int .i64 0), AV.v (.int .i64 0), AV.v (.int .i64 0), AV.v (.bool false), AV.v (.int .i64 0), AV.v (.int .i64 0), AV.v (.int .i64 0)]
    [(0, 1), (1, 1), (3, 8), (12, 1)] [.v (.int .i64 2), .v (.int .i64 fn), .agg (aRg rs), .v (.int .i64 i)] = some (aSf ⟨2, fn, 0, rs, false, i, 0, 0⟩) := rfl
set_option maxHeartbeats 4000000 in
theorem eval_iterate_a (h : MA m fs σ w s) {f : Sf} {r : List Sf} (hl : s.l = f :: r) (hb : s.l.length ≤ 1000000) (hb2 : s.marks.length ≤ 1000000) : FnG Try.prog 120 [.ref 4 0 0] σ fun _ σ' => MA m fs σ' (w + 1) s.iterate ∧ Kp σ σ' := by
  refine fnG_in K_serial_eval_iterate mixed rfl ?_
  simp only [S_serial_eval_iterate]
  obtain ⟨cs, hc, hf⟩ := h.fr1 hl
  have g12 := hf.get (top_at f r) (j := 12) (x := .v (.int .i64 f.index)) rfl
  refine wpa_seqx (fun ε σ1 => (ε 0 = .ref 4 0 0 ∧ ε 2 = .ref 6 w (r.length * 15)) ∧ σ1 = σ) ?_ ?_
  · intro N X R hN
    simp (maxSteps := 1000000) (implicitDefEqProofs := false) (disch := omega) only [push_cast, ↓reduceIte, Nat.reduceEqDiff, reduceCtorEq, wz]
    refine wpa_callG (eval_top_a h hl hb) ?_
    rintro a σ' ⟨rfl, h'⟩
    simp (maxSteps := 1000000) (implicitDefEqProofs := false) (disch := omega) only [push_cast, ↓reduceIte, Nat.reduceEqDiff, reduceCtorEq, wz]
    exact hN _ _ ⟨by simp (maxSteps := 1000000) (implicitDefEqProofs := false) (disch := omega) only [push_cast, ↓reduceIte, Nat.reduceEqDiff, reduceCtorEq, wz], h'⟩
  rintro ε σ1 ⟨hρ, e1⟩
  rw [e1]
  clear e1 σ1
  refine wpa_seqx (fun ε σ1 => (ε 0 = .ref 4 0 0 ∧ ε 2 = .ref 6 w (r.length * 15) ∧ ε 3 = .v (.int .i64 f.index)) ∧ σ1 = σ) ?_ ?_
  · intro N X R hN
    simp (maxSteps := 1000000) (implicitDefEqProofs := false) (disch := omega) only [push_cast, ↓reduceIte, Nat.reduceEqDiff, reduceCtorEq, wz, hρ, hc, g12]
    exact hN _ _ ⟨by simp (maxSteps := 1000000) (implicitDefEqProofs := false) (disch := omega) only [push_cast, ↓reduceIte, Nat.reduceEqDiff, reduceCtorEq, wz, hρ], rfl⟩
  clear hρ ε
  rintro ε σ1 ⟨hρ, e1⟩
  rw [e1]
  clear e1 σ1
  obtain ⟨h1, hlt⟩ := h.st1 hl hf (j := 12) (by decide) (x := .v (.int .i64 (IntKind.i64.wrap (f.index + 1)))) (g := { f with index := IntKind.i64.wrap (f.index + 1) }) rfl
  have k1 : Kp σ (σ.set 6 (.obj w (cs.set (r.length * 15 + 12) (.v (.int .i64 (IntKind.i64.wrap (f.index + 1))))))) := Kp.set _ (by decide) _
  refine wpa_seqx (fun ε σ1 => (ε 0 = .ref 4 0 0 ∧ ε 2 = .ref 6 w (r.length * 15) ∧ ε 3 = .v (.int .i64 f.index)) ∧ σ1 = σ.set 6 (.obj w (cs.set (r.length * 15 + 12) (.v (.int .i64 (IntKind.i64.wrap (f.index + 1))))))) ?_ ?_
  · intro N X R hN
    simp (maxSteps := 1000000) (implicitDefEqProofs := false) (disch := omega) only [push_cast, ↓reduceIte, Nat.reduceEqDiff, reduceCtorEq, wz, hρ, hc, g12]
    refine wpa_st1 rfl rfl hc hlt ?_
    simp (maxSteps := 1000000) (implicitDefEqProofs := false) (disch := omega) only [push_cast, ↓reduceIte, Nat.reduceEqDiff, reduceCtorEq, wz]
    exact hN _ _ ⟨by simp (maxSteps := 1000000) (implicitDefEqProofs := false) (disch := omega) only [push_cast, ↓reduceIte, Nat.reduceEqDiff, reduceCtorEq, wz, hρ], rfl⟩
  clear hρ ε
  rintro ε σ1 ⟨hρ, rfl⟩
  generalize σ.set 6 (.obj w (cs.set (r.length * 15 + 12) (.v (.int .i64 (IntKind.i64.wrap (f.index + 1)))))) = σ1 at h1 k1
  refine wpa_seqx (fun ε σ2 => (ε 0 = .ref 4 0 0 ∧ ε 2 = .ref 6 w (r.length * 15) ∧ ε 3 = .v (.int .i64 f.index)) ∧ MA m fs σ2 w (({ s with l := { f with index := IntKind.i64.wrap (f.index + 1) } :: r } : Sv).mark 9 f.index) ∧ Kp σ σ2) ?_ ?_
  · intro N X R hN
    simp (maxSteps := 1000000) (implicitDefEqProofs := false) (disch := omega) only [push_cast, ↓reduceIte, Nat.reduceEqDiff, reduceCtorEq, wz, hρ]
    refine wpa_callG (eval_mark_a h1 9 f.index hb2) ?_
    rintro a σ' ⟨h2, k2⟩
    simp (maxSteps := 1000000) (implicitDefEqProofs := false) (disch := omega) only [push_cast, ↓reduceIte, Nat.reduceEqDiff, reduceCtorEq, wz]
    exact hN _ _ ⟨by simp (maxSteps := 1000000) (implicitDefEqProofs := false) (disch := omega) only [push_cast, ↓reduceIte, Nat.reduceEqDiff, reduceCtorEq, wz, hρ], h2, k1.trans k2⟩
  clear hρ ε h1 k1
  rintro ε σ2 ⟨hρ, h2, k2⟩
  obtain ⟨cs2, hc2, hf2⟩ := h2.fr1 rfl
  have q1 := hf2.get (top_at _ r) (j := 1) (x := .v (.int .i64 f.fn)) rfl
  obtain ⟨t, hr⟩ := hf2.regs (top_at _ r)
  simp (maxSteps := 1000000) (implicitDefEqProofs := false) (disch := omega) only [push_cast, ↓reduceIte, Nat.reduceEqDiff, reduceCtorEq, wz, hρ, hc2, q1, hr, cells8a, fill_it]
  refine wpa_callG (eval_push_a h2 ⟨2, f.fn, 0, f.regs, false, f.index, 0, 0⟩ (by rw [hl] at hb; exact hb)) ?_
  rintro a σ' ⟨h3, k3⟩
  simp (maxSteps := 1000000) (implicitDefEqProofs := false) (disch := omega) only [push_cast, ↓reduceIte, Nat.reduceEqDiff, reduceCtorEq, wz]
  have e : s.iterate = (({ s with l := { f with index := IntKind.i64.wrap (f.index + 1) } :: r } : Sv).mark 9 f.index).push ⟨2, f.fn, 0, f.regs, false, f.index, 0, 0⟩ := by
    simp [Sv.iterate, Sv.setTop, Sv.top, hl]
  rw [e]
  exact ⟨h3, k2.trans k3⟩
set_option maxHeartbeats 4000000 in
theorem eval_keep_a (h : MA m fs σ w s) {f : Sf} {r : List Sf} (hl : s.l = f :: r) (hq : f.stage = 0 → ∃ q r', r = q :: r') (hb : s.l.length ≤ 1000000) :
    FnG Try.prog 118 [.ref 4 0 0, .ref 6 w (r.length * 15)] σ fun _ σ' => MA m fs σ' w s.keep ∧ Kp σ σ' := by
  refine fnG_in K_serial_eval_keep mixed rfl ?_
  simp only [S_serial_eval_keep]
  obtain ⟨cs, hc, hf⟩ := h.fr1 hl
  have g13 := hf.get (top_at f r) (j := 13) (x := .v (.int .i64 f.stage)) rfl
  have htop : s.top = f := by simp [Sv.top, hl]
  by_cases c : f.stage = 0
  · obtain ⟨q, r', hqr⟩ := hq c
    obtain ⟨t, hr⟩ := hf.regs (top_at f _)
    have hl' : s.l = f :: q :: r' := by rw [hl, hqr]
    obtain ⟨h1, hlt⟩ := h.stR2 hl' (by rw [← hqr]; exact hf) f.regs
    have ek : s.keep = { s with l := f :: { q with regs := f.regs } :: r' } := by
      unfold Sv.keep Sv.set2
      rw [htop, if_pos c, hl']
    rw [c] at g13
    simp (maxSteps := 1000000) (implicitDefEqProofs := false) (disch := omega) only [push_cast, ↓reduceIte, Nat.reduceEqDiff, reduceCtorEq, wz, hc, g13, hr, cells8a]
    refine wpa_callG (eval_runner_a h hl' hb) ?_
    rintro a σ' ⟨rfl, e1⟩
    rw [e1]
    simp (maxSteps := 1000000) (implicitDefEqProofs := false) (disch := omega) only [push_cast, ↓reduceIte, Nat.reduceEqDiff, reduceCtorEq, wz]
    refine ⟨aholds_x (by simp (maxSteps := 1000000) (implicitDefEqProofs := false) (disch := omega) only [push_cast, ↓reduceIte, Nat.reduceEqDiff, reduceCtorEq, wz, hc, hr, cells8a, ex_Rg]), ?_⟩
    refine wpa_stn (aRg_len _) rfl hc hlt ?_
    simp (maxSteps := 1000000) (implicitDefEqProofs := false) (disch := omega) only [push_cast, ↓reduceIte, Nat.reduceEqDiff, reduceCtorEq, wz]
    rw [ek]
    exact ⟨h1, Kp.set _ (by decide) _⟩
  · have ek : s.keep = s := by
      unfold Sv.keep
      rw [htop, if_neg c]
    rw [ek]
    simp (maxSteps := 1000000) (implicitDefEqProofs := false) (disch := omega) only [push_cast, ↓reduceIte, Nat.reduceEqDiff, reduceCtorEq, wz, hc, g13, c]
    exact ⟨h, Kp.refl _⟩
theorem askD1 {d : List Int} {e : Ef} (h : e.k = 1) : askD d e = askD d ⟨1, e.at_, 0, 0, 0⟩ := by simp [askD, h]
theorem askD2 {d : List Int} {e : Ef} (h : e.k = 2) : askD d e = askD d ⟨2, e.at_, e.v, 0, 0⟩ := by simp [askD, h]
theorem askD3 {d : List Int} {e : Ef} (h : e.k = 3) : askD d e = askD d ⟨3, e.at_, e.v, 0, 0⟩ := by simp [askD, h]
theorem askD4 {d : List Int} {e : Ef} (h : e.k = 4) : askD d e = askD d ⟨4, e.at_, e.v, e.o, 0⟩ := by simp [askD, h]
theorem cells5' (e : Ef) (t : List AV) : cellsA (some 5) (aEf e ++ t) = some (.agg (aEf e)) := by rw [cellsA_n _ _ (by simp [aEf])]; rfl
theorem cells8' (rs : List Int) : cellsA (some 8) (aRg rs) = some (.agg (aRg rs)) := rfl
theorem Kp.at {a b : Kx.St} (h : Kp a b) {j : Nat} {r : Res} (hj : 8 < j) (hr : a[j]? = some r) : b[j]? = some r := h j r hj hr
set_option maxHeartbeats 8000000 in
theorem eval_ask_a (h : MA m fs σ w s) {f : Sf} {r : List Sf} (hl : s.l = f :: r) (pc : Int) (rs : List Int) (e : Ef) (hrs : rs.length = 8) (hk : 1 ≤ e.k ∧ e.k ≤ 4) (hb2 : s.marks.length ≤ 1000000) :
    FnG Try.prog 90 [.ref 4 0 0, .ref 6 w (r.length * 15), aInt pc, .agg (aRg rs), .agg (aEf e)] σ fun _ σ' => MA m fs σ' w (s.ask pc rs e) ∧ Kp σ σ' := by
  refine fnG_in K_serial_eval_ask mixed rfl ?_
  simp only [S_serial_eval_ask, aInt]
  have hae : (AV.agg (aEf e)).cells = aEf e := rfl
  have har : (AV.agg (aRg rs)).cells = aRg rs := rfl
  have g0 : (aEf e)[0]? = some (.v (.int .i64 e.k)) := rfl
  have g1 : (aEf e)[1]? = some (.v (.int .i64 e.at_)) := rfl
  have g2 : (aEf e)[2]? = some (.v (.int .i64 e.v)) := rfl
  have g3 : (aEf e)[3]? = some (.v (.int .i64 e.o)) := rfl
  have h8 := h.len
  refine wpa_seqx (fun ε σ1 => (ε 0 = .ref 4 0 0 ∧ ε 1 = .ref 6 w (r.length * 15) ∧ ε 2 = .v (.int .i64 pc) ∧ ε 8 = .ref σ.length 0 0 ∧ ε 9 = .ref (σ.length + 1) 0 0) ∧ σ1 = σ ++ [.obj 0 (aRg rs)] ++ [.obj 0 (aEf e)]) ?_ ?_
  · intro N X R hN
    simp (maxSteps := 1000000) (implicitDefEqProofs := false) (disch := omega) only [push_cast, ↓reduceIte, Nat.reduceEqDiff, reduceCtorEq, wz]
    refine wpa_box ?_
    simp (maxSteps := 1000000) (implicitDefEqProofs := false) (disch := omega) only [push_cast, ↓reduceIte, Nat.reduceEqDiff, reduceCtorEq, wz, har]
    refine wpa_box ?_
    simp (maxSteps := 1000000) (implicitDefEqProofs := false) (disch := omega) only [push_cast, ↓reduceIte, Nat.reduceEqDiff, reduceCtorEq, wz, hae]
    exact hN _ _ ⟨by simp (maxSteps := 1000000) (implicitDefEqProofs := false) (disch := omega) only [push_cast, ↓reduceIte, Nat.reduceEqDiff, reduceCtorEq, wz, List.length_append], rfl⟩
  rintro ε σ1 ⟨hρ, rfl⟩
  have hB8 : (σ ++ [Res.obj 0 (aRg rs)] ++ [Res.obj 0 (aEf e)])[σ.length]? = some (.obj 0 (aRg rs)) := get_app (at_snoc _ _)
  have hB9 : (σ ++ [Res.obj 0 (aRg rs)] ++ [Res.obj 0 (aEf e)])[σ.length + 1]? = some (.obj 0 (aEf e)) := by
    simp
  have hk1 : Kp σ (σ ++ [Res.obj 0 (aRg rs)] ++ [Res.obj 0 (aEf e)]) := (Kp.app _ _).trans (Kp.app _ _)
  have h1 := (h.app (τ := [Res.obj 0 (aRg rs)])).app (τ := [Res.obj 0 (aEf e)])
  have h9 : 8 < σ.length + 1 := by omega
  generalize σ ++ [Res.obj 0 (aRg rs)] ++ [Res.obj 0 (aEf e)] = σ1 at hB8 hB9 h1 hk1
  generalize σ.length + 1 = i9 at hρ hB9 h9
  generalize σ.length = i8 at hρ hB8 h8
  refine wpa_seqx (fun ε σ2 => (ε 0 = .ref 4 0 0 ∧ ε 1 = .ref 6 w (r.length * 15) ∧ ε 2 = .v (.int .i64 pc) ∧ ε 8 = .ref i8 0 0 ∧ ε 9 = .ref i9 0 0 ∧ ε 10 = .v (.int .i64 0)) ∧ σ2 = σ1) ?_ ?_
  · intro N X R hN
    simp (maxSteps := 1000000) (implicitDefEqProofs := false) (disch := omega) only [push_cast, ↓reduceIte, Nat.reduceEqDiff, reduceCtorEq, wz]
    exact hN _ _ ⟨by simp (maxSteps := 1000000) (implicitDefEqProofs := false) (disch := omega) only [push_cast, ↓reduceIte, Nat.reduceEqDiff, reduceCtorEq, wz, hρ], rfl⟩
  clear hρ ε
  rintro ε σ2 ⟨hρ, e2⟩
  rw [e2]
  clear e2 σ2
  refine wpa_seqx (fun ε σ2 => (ε 0 = .ref 4 0 0 ∧ ε 1 = .ref 6 w (r.length * 15) ∧ ε 2 = .v (.int .i64 pc) ∧ ε 8 = .ref i8 0 0 ∧ ε 9 = .ref i9 0 0 ∧ ε 10 = .v (.int .i64 0)) ∧ σ2 = σ1) ?_ ?_
  · intro N X R hN
    simp (maxSteps := 1000000) (implicitDefEqProofs := false) (disch := omega) only [push_cast, ↓reduceIte, Nat.reduceEqDiff, reduceCtorEq, wz]
    exact hN _ _ ⟨by simp (maxSteps := 1000000) (implicitDefEqProofs := false) (disch := omega) only [push_cast, ↓reduceIte, Nat.reduceEqDiff, reduceCtorEq, wz, hρ], rfl⟩
  clear hρ ε
  rintro ε σ2 ⟨hρ, e2⟩
  rw [e2]
  clear e2 σ2
  refine wpa_seqx (fun ε σ2 => (ε 0 = .ref 4 0 0 ∧ ε 1 = .ref 6 w (r.length * 15) ∧ ε 2 = .v (.int .i64 pc) ∧ ε 8 = .ref i8 0 0 ∧ ε 9 = .ref i9 0 0 ∧ ε 10 = .v (.int .i64 0) ∧ ε 12 = .v (.int .i64 2)) ∧ σ2 = σ1) ?_ ?_
  · intro N X R hN
    simp (maxSteps := 1000000) (implicitDefEqProofs := false) (disch := omega) only [push_cast, ↓reduceIte, Nat.reduceEqDiff, reduceCtorEq, wz]
    exact hN _ _ ⟨by simp (maxSteps := 1000000) (implicitDefEqProofs := false) (disch := omega) only [push_cast, ↓reduceIte, Nat.reduceEqDiff, reduceCtorEq, wz, hρ], rfl⟩
  clear hρ ε
  rintro ε σ2 ⟨hρ, e2⟩
  rw [e2]
  clear e2 σ2
  refine wpa_seqx (fun ε σ2 => (ε 0 = .ref 4 0 0 ∧ ε 1 = .ref 6 w (r.length * 15) ∧ ε 2 = .v (.int .i64 pc) ∧ ε 8 = .ref i8 0 0 ∧ ε 9 = .ref i9 0 0 ∧ ε 10 = .v (.int .i64 (askD s.data e).1) ∧ ε 11 = .v (.bool (askD s.data e).2.1) ∧ ε 12 = .v (.int .i64 (if e.k = 1 then 1 else 2))) ∧
      MA m fs σ2 w { s with data := (askD s.data e).2.2 } ∧ Kp σ1 σ2) ?_ ?_
  · intro N X R hN
    obtain ⟨wm, wo, he, hm, ho⟩ := h1.ev
    by_cases c1 : e.k = 1
    · rw [askD1 c1, if_pos c1] at hN
      have ed : (askD s.data ⟨1, e.at_, 0, 0, 0⟩).2.2 = s.data := by unfold askD; split; rfl; rfl
      simp (maxSteps := 1000000) (implicitDefEqProofs := false) (disch := omega) only [push_cast, ↓reduceIte, Nat.reduceEqDiff, reduceCtorEq, wz, hρ, hB9, he, ev3, g0, g1, c1]
      refine wpa_callG (store_Load_a h1.st h1.wd e.at_) ?_
      rintro a σ' ⟨rfl, e1⟩
      rw [e1]
      simp (maxSteps := 1000000) (implicitDefEqProofs := false) (disch := omega) only [push_cast, ↓reduceIte, Nat.reduceEqDiff, reduceCtorEq, wz, aInt, aBool]
      exact hN _ _ ⟨by simp (maxSteps := 1000000) (implicitDefEqProofs := false) (disch := omega) only [push_cast, ↓reduceIte, Nat.reduceEqDiff, reduceCtorEq, wz, hρ], by rw [ed]; exact h1, Kp.refl _⟩
    by_cases c2 : e.k = 2
    · rw [askD2 c2, if_neg c1] at hN
      have ez : (askD s.data ⟨2, e.at_, e.v, 0, 0⟩).1 = 0 := by unfold askD; split; rfl; rfl
      simp (maxSteps := 1000000) (implicitDefEqProofs := false) (disch := omega) only [push_cast, ↓reduceIte, Nat.reduceEqDiff, reduceCtorEq, wz, hρ, hB9, he, ev3, g0, g1, g2, c1, c2]
      refine wpa_callG (store_Store_a h1.st h1.wd e.at_ e.v) ?_
      rintro a σ' ⟨rfl, e1⟩
      rw [e1]
      simp (maxSteps := 1000000) (implicitDefEqProofs := false) (disch := omega) only [push_cast, ↓reduceIte, Nat.reduceEqDiff, reduceCtorEq, wz, aInt, aBool]
      exact hN _ _ ⟨by simp (maxSteps := 1000000) (implicitDefEqProofs := false) (disch := omega) only [push_cast, ↓reduceIte, Nat.reduceEqDiff, reduceCtorEq, wz, hρ, ez], h1.words (askD_len _ _), Kp.set _ (by decide) _⟩
    by_cases c3 : e.k = 3
    · rw [askD3 c3, if_neg c1] at hN
      simp (maxSteps := 1000000) (implicitDefEqProofs := false) (disch := omega) only [push_cast, ↓reduceIte, Nat.reduceEqDiff, reduceCtorEq, wz, hρ, hB9, he, ev3, g0, g1, g2, c1, c2, c3]
      refine wpa_callG (store_Add_a h1.st h1.wd e.at_ e.v) ?_
      rintro a σ' ⟨rfl, e1⟩
      rw [e1]
      simp (maxSteps := 1000000) (implicitDefEqProofs := false) (disch := omega) only [push_cast, ↓reduceIte, Nat.reduceEqDiff, reduceCtorEq, wz, aInt, aBool]
      exact hN _ _ ⟨by simp (maxSteps := 1000000) (implicitDefEqProofs := false) (disch := omega) only [push_cast, ↓reduceIte, Nat.reduceEqDiff, reduceCtorEq, wz, hρ], h1.words (askD_len _ _), Kp.set _ (by decide) _⟩
    have c4 : e.k = 4 := by omega
    rw [askD4 c4, if_neg c1] at hN
    simp (maxSteps := 1000000) (implicitDefEqProofs := false) (disch := omega) only [push_cast, ↓reduceIte, Nat.reduceEqDiff, reduceCtorEq, wz, hρ, hB9, he, ev3, g0, g1, g2, g3, c1, c2, c3, c4]
    refine wpa_callG (store_Swap_a h1.st h1.wd e.at_ e.v e.o) ?_
    rintro a σ' ⟨rfl, e1⟩
    rw [e1]
    simp (maxSteps := 1000000) (implicitDefEqProofs := false) (disch := omega) only [push_cast, ↓reduceIte, Nat.reduceEqDiff, reduceCtorEq, wz, aInt, aBool]
    exact hN _ _ ⟨by simp (maxSteps := 1000000) (implicitDefEqProofs := false) (disch := omega) only [push_cast, ↓reduceIte, Nat.reduceEqDiff, reduceCtorEq, wz, hρ], h1.words (askD_len _ _), Kp.set _ (by decide) _⟩
  clear hρ ε
  rintro ε σ2 ⟨hρ, h2, k2⟩
  have hB8' := k2.at h8 hB8
  have hB9' := k2.at h9 hB9
  have k3 := hk1.trans k2
  clear h1 hB8 hB9 k2 hk1
  clear σ1
  unfold Sv.ask
  have hno : (askD s.data e).2.1 = false → (askD s.data e).2.2 = s.data := by
    unfold askD
    split
    · intro _; rfl
    · split
      · intro _; rfl
      · split
        · intro h; cases h
        · split
          · intro h; cases h
          · split
            · intro h; cases h
            · intro _; rfl
  generalize askD s.data e = dd at hρ h2 hno ⊢
  obtain ⟨got, ok, d'⟩ := dd
  simp only at hρ h2 hno ⊢
  have hl2 : ({ s with data := d' } : Sv).l = f :: r := hl
  refine wpa_seq (fun ε σ3 => (ε 0 = .ref 4 0 0 ∧ ε 1 = .ref 6 w (r.length * 15) ∧ ε 2 = .v (.int .i64 pc) ∧ ε 8 = .ref i8 0 0 ∧ ε 9 = .ref i9 0 0 ∧ ε 10 = .v (.int .i64 got) ∧ ε 12 = .v (.int .i64 (if e.k = 1 then 1 else 2))) ∧ σ3 = σ2 ∧ ok = true) ?_ ?_
  · intro N hN
    cases ok with
    | false =>
      simp (maxSteps := 1000000) (implicitDefEqProofs := false) (disch := omega) only [push_cast, ↓reduceIte, Nat.reduceEqDiff, reduceCtorEq, wz, hρ]
      refine wpa_callG (eval_stop_a h2 4 2) ?_
      rintro a σ' ⟨h3, k4⟩
      simp (maxSteps := 1000000) (implicitDefEqProofs := false) (disch := omega) only [push_cast, ↓reduceIte, Nat.reduceEqDiff, reduceCtorEq, wz]
      have hd := hno rfl
      subst hd
      exact ⟨h3, k3.trans k4⟩
    | true =>
      simp (maxSteps := 1000000) (implicitDefEqProofs := false) (disch := omega) only [push_cast, ↓reduceIte, Nat.reduceEqDiff, reduceCtorEq, wz, hρ]
      exact hN _ _ ⟨by simp (maxSteps := 1000000) (implicitDefEqProofs := false) (disch := omega) only [push_cast, ↓reduceIte, Nat.reduceEqDiff, reduceCtorEq, wz, hρ], rfl, rfl⟩
  clear hρ ε
  rintro ε σ3 ⟨hρ, e3, rfl⟩
  rw [e3]
  clear e3 σ3
  rw [if_pos rfl]
  have g81 : (aEf e)[1]? = some (.v (.int .i64 e.at_)) := rfl
  refine wpa_seqx (fun ε σ3 => (ε 0 = .ref 4 0 0 ∧ ε 1 = .ref 6 w (r.length * 15) ∧ ε 2 = .v (.int .i64 pc) ∧ ε 8 = .ref i8 0 0 ∧ ε 9 = .ref i9 0 0 ∧ ε 10 = .v (.int .i64 got)) ∧ MA m fs σ3 w (({ s with data := d' } : Sv).mark (if e.k = 1 then 1 else 2) e.at_) ∧ Kp σ2 σ3) ?_ ?_
  · intro N X R hN
    simp (maxSteps := 1000000) (implicitDefEqProofs := false) (disch := omega) only [push_cast, ↓reduceIte, Nat.reduceEqDiff, reduceCtorEq, wz, hρ, hB9', g1]
    refine wpa_callG (eval_mark_a h2 (if e.k = 1 then 1 else 2) e.at_ hb2) ?_
    rintro a σ' ⟨h3, k4⟩
    simp (maxSteps := 1000000) (implicitDefEqProofs := false) (disch := omega) only [push_cast, ↓reduceIte, Nat.reduceEqDiff, reduceCtorEq, wz]
    exact hN _ _ ⟨by simp (maxSteps := 1000000) (implicitDefEqProofs := false) (disch := omega) only [push_cast, ↓reduceIte, Nat.reduceEqDiff, reduceCtorEq, wz, hρ], h3, k4⟩
  clear hρ ε
  rintro ε σ3 ⟨hρ, h3, k4⟩
  have hC8 := k4.at h8 hB8'
  have hC9 := k4.at h9 hB9'
  have k5 := k3.trans k4
  obtain ⟨cs, hc, hf⟩ := h3.fr1 hl2
  obtain ⟨h4, hlt⟩ := h3.st1 hl2 hf (j := 2) (by decide) (x := .v (.int .i64 pc)) (g := { f with pc := pc }) rfl
  have k6 : Kp σ3 (σ3.set 6 (.obj w (cs.set (r.length * 15 + 2) (.v (.int .i64 pc))))) := Kp.set _ (by decide) _
  simp (maxSteps := 1000000) (implicitDefEqProofs := false) (disch := omega) only [push_cast, ↓reduceIte, Nat.reduceEqDiff, reduceCtorEq, wz, hρ, hC8, hC9, cells8', cells5]
  refine wpa_call (step_Took_a rs e got hrs) ?_
  rintro a rfl
  simp (maxSteps := 1000000) (implicitDefEqProofs := false) (disch := omega) only [push_cast, ↓reduceIte, Nat.reduceEqDiff, reduceCtorEq, wz, hρ]
  refine wpa_st1 rfl rfl hc hlt ?_
  generalize σ3.set 6 (.obj w (cs.set (r.length * 15 + 2) (.v (.int .i64 pc)))) = σ4 at h4 k6
  obtain ⟨cs4, hc4, hf4⟩ := h4.fr1 rfl
  obtain ⟨h5, hlt5⟩ := h4.stR rfl hf4 (tookR rs e got)
  simp (maxSteps := 1000000) (implicitDefEqProofs := false) (disch := omega) only [push_cast, ↓reduceIte, Nat.reduceEqDiff, reduceCtorEq, wz, hρ]
  refine wpa_stn (aRg_len _) rfl hc4 hlt5 ?_
  simp (maxSteps := 1000000) (implicitDefEqProofs := false) (disch := omega) only [push_cast, ↓reduceIte, Nat.reduceEqDiff, reduceCtorEq, wz]
  have ee : ((({ s with data := d' } : Sv).mark (if e.k = 1 then 1 else 2) e.at_).setTop fun f => { f with pc := pc, regs := tookR rs e got }) = { (({ s with data := d' } : Sv).mark (if e.k = 1 then 1 else 2) e.at_) with l := { f with pc := pc, regs := tookR rs e got } :: r } := by
    simp [Sv.setTop, Sv.mark, hl]
  rw [ee]
  exact ⟨h5, (k5.trans k6).trans (Kp.set _ (by decide) _)⟩
end
end Go.Proofs.Ytncdnegdlkmicaa
