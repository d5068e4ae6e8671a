/- Trace: Rows: the walk. -/
import Derived.Test.YthgmfjkbgacfaaaTrg
namespace Go.Proofs.Ythgmfjkbgacfaaa
set_option linter.unusedVariables false
set_option linter.unusedSimpArgs false
open Go Go.Kx Go.Proofs
open Go.Proofs.Ythgmfjkbgacfaaa.Gr (CC aCC aCC_len aRow aRows aRows_pure)

theorem bldC (a : Int) (b : Bool) : fillA [AV.v (.int .i64 0), AV.v (.bool false)] [(0, 1), (1, 1)] [AV.v (.int .i64 a), AV.v (.bool b)] = some (aCC ⟨a, b⟩) := by simp [fillA, AV.cells, Value.cells, setAtA, aCC]
def c0C : CC := ⟨0, false⟩
theorem bldC0 : fillA [AV.v (.int .i64 0), AV.v (.bool false)] [] [] = some (aCC c0C) := by rfl
theorem ex_ms (i w o n : Nat) : (AV.ms i w o n 1).exact = true := rfl
theorem ex_ms2 (i w o n : Nat) : (AV.ms i w o n 2).exact = true := rfl
theorem RowsAt.putA {R : List (List CC)} {A A' : List (Int × Int)} {σ : Kx.St} {lab : Nat → Role} (h : RowsAt ⟨R, A⟩ σ lab) : RowsAt ⟨R, A'⟩ (σ.set 1 (.map (esI A'))) lab := by
  obtain ⟨⟨l0, m1, l1, m2, l2⟩, hR⟩ := h
  have hst := stp_set (σ := σ) (x := .map (esI A')) l1
  have b2 := hst.get m2 (by rw [l2]; intro e; injection e with _ e2; exact absurd e2 (by decide))
  refine ⟨⟨l0, get_set_eq m1, l1, b2.1, l2⟩, ?_⟩
  rcases hR with ⟨e1, e2⟩ | ⟨hp, r, w, cs, e1, e2, e3, e4, e5⟩
  · exact .inl ⟨e1, (hst.get e2 (by rw [l0]; intro e; injection e with _ e2; exact absurd e2 (by decide))).1⟩
  · refine .inr ⟨hp, r, w, cs, (hst.get e1 (by rw [l0]; intro e; injection e with _ e2; exact absurd e2 (by decide))).1, (hst.get e2 (by rw [e3]; intro e; injection e with e2 _; exact absurd e2 (by decide))).1, e3, e4, fun i row hi => ?_⟩
    obtain ⟨f0, x, v, f1, f2, f3⟩ := e5 i row hi
    exact ⟨f0, x, v, f1, (hst.get f2 (by rw [f3]; intro e; injection e with e2 _; exact absurd e2 (by decide))).1, f3⟩
theorem RowsAt.addN {s : RS} {σ : Kx.St} {lab : Nat → Role} (h : RowsAt s σ lab) (hR : s.R = []) (r0 : σ[0]? = some (.obj 0 [.sl 0 [] .nil])) :
    ∃ lab', RowsAt ⟨s.R ++ [[c0C]], s.A⟩ ((σ ++ [Res.obj 0 (aCC c0C)] ++ [Res.obj 0 [AV.ms σ.length 0 0 1 2]]).set 0 (.obj 0 [.ms (σ.length + 1) 0 0 1 1])) lab' ∧ Stp (· = (0, 1)) σ lab ((σ ++ [Res.obj 0 (aCC c0C)] ++ [Res.obj 0 [AV.ms σ.length 0 0 1 2]]).set 0 (.obj 0 [.ms (σ.length + 1) 0 0 1 1])) lab' := by
  obtain ⟨⟨l0, m1, l1, m2, l2⟩, _⟩ := h
  have s1 : Stp (fun _ => False) σ lab (σ ++ [Res.obj 0 (aCC c0C)]) (labN σ lab (2, 0)) := stp_new _
  have s2 : Stp (fun _ => False) (σ ++ [Res.obj 0 (aCC c0C)]) (labN σ lab (2, 0)) (σ ++ [Res.obj 0 (aCC c0C)] ++ [Res.obj 0 [AV.ms σ.length 0 0 1 2]]) (labN (σ ++ [Res.obj 0 (aCC c0C)]) (labN σ lab (2, 0)) (1, 0)) := stp_new _
  have n1 : (σ ++ [Res.obj 0 (aCC c0C)])[σ.length]? = some (.obj 0 (aCC c0C)) := at_snoc _ _
  have n1l := labN_self σ lab (2, 0)
  have hlen : (σ ++ [Res.obj 0 (aCC c0C)]).length = σ.length + 1 := by simp
  have n2 : (σ ++ [Res.obj 0 (aCC c0C)] ++ [Res.obj 0 [AV.ms σ.length 0 0 1 2]])[σ.length + 1]? = some (.obj 0 [AV.ms σ.length 0 0 1 2]) := by rw [← hlen]; exact at_snoc _ _
  have n2l := labN_self (σ ++ [Res.obj 0 (aCC c0C)]) (labN σ lab (2, 0)) (1, 0)
  rw [hlen] at n2l
  obtain ⟨n3, n3l⟩ := s2.get n1 id
  have s12 := s1.trans s2 (U := fun _ => False) (fun _ h => h) fun _ h => h
  obtain ⟨q0, q0l⟩ := s12.get r0 id
  obtain ⟨q1, q1l⟩ := s12.get m1 id
  obtain ⟨q2, q2l⟩ := s12.get m2 id
  generalize σ ++ [Res.obj 0 (aCC c0C)] ++ [Res.obj 0 [AV.ms σ.length 0 0 1 2]] = σ3 at *
  generalize labN (σ ++ [Res.obj 0 (aCC c0C)]) (labN σ lab (2, 0)) (1, 0) = lab3 at *
  have hst := stp_set (σ := σ3) (x := .obj 0 [.ms (σ.length + 1) 0 0 1 1]) (q0l.trans l0)
  have d : ∀ r : Role, r ≠ (0, 1) → ¬ (fun q : Role => q = (0, 1)) r := fun r h e => h e
  refine ⟨lab3, ⟨⟨q0l.trans l0, (hst.get q1 (by rw [q1l, l1]; decide)).1, q1l.trans l1, (hst.get q2 (by rw [q2l, l2]; decide)).1, q2l.trans l2⟩, .inr ⟨by simp, σ.length + 1, 0, [.ms σ.length 0 0 1 2], ?_, (hst.get n2 (by rw [n2l]; decide)).1, n2l, by simp [hR], fun i row hi => ?_⟩⟩, s12.trans hst (fun _ h => h.elim) fun _ h => h⟩
  · rw [get_set_eq q0]; simp [hR]
  · simp only [hR, List.nil_append] at hi
    cases i with
    | zero =>
      simp at hi
      subst hi
      exact ⟨by simp, σ.length, 0, rfl, by rw [(hst.get n3 (by rw [n3l, n1l]; decide)).1]; rfl, n3l.trans n1l⟩
    | succ i => simp at hi
theorem RowsAt.addM {s : RS} {σ : Kx.St} {lab : Nat → Role} (h : RowsAt s σ lab) (hp : 0 < s.R.length) {r w : Nat} {cs : List AV} (r0 : σ[0]? = some (.obj 0 [.ms r w 0 s.R.length 1])) (r1 : σ[r]? = some (.obj w cs)) (r2 : lab r = (1, 0)) (r3 : cs.length = s.R.length)
    (r4 : ∀ (i : Nat) (row : List CC), s.R[i]? = some row → 0 < row.length ∧ ∃ x v, cs[i]? = some (.ms x v 0 row.length 2) ∧ σ[x]? = some (.obj v (row.flatMap aCC)) ∧ lab x = (2, i)) :
    ∃ lab', RowsAt ⟨s.R ++ [[c0C]], s.A⟩ (((σ ++ [Res.obj 0 (aCC c0C)]).set r (.obj (w + 1) (cs ++ [.ms σ.length 0 0 1 2]))).set 0 (.obj 0 [.ms r (w + 1) 0 (s.R.length + 1) 1])) lab' ∧
      Stp (fun q => q = (0, 1) ∨ q = (1, 0)) σ lab (((σ ++ [Res.obj 0 (aCC c0C)]).set r (.obj (w + 1) (cs ++ [.ms σ.length 0 0 1 2]))).set 0 (.obj 0 [.ms r (w + 1) 0 (s.R.length + 1) 1])) lab' := by
  obtain ⟨⟨l0, m1, l1, m2, l2⟩, _⟩ := h
  have s1 : Stp (fun _ => False) σ lab (σ ++ [Res.obj 0 (aCC c0C)]) (labN σ lab (2, s.R.length)) := stp_new _
  have n1 : (σ ++ [Res.obj 0 (aCC c0C)])[σ.length]? = some (.obj 0 (aCC c0C)) := at_snoc _ _
  have n1l := labN_self σ lab (2, s.R.length)
  obtain ⟨q0, q0l⟩ := s1.get r0 id
  obtain ⟨q1, q1l⟩ := s1.get m1 id
  obtain ⟨q2, q2l⟩ := s1.get m2 id
  obtain ⟨q3, q3l⟩ := s1.get r1 id
  have q4 : ∀ (i : Nat) (row : List CC), s.R[i]? = some row → 0 < row.length ∧ ∃ x v, cs[i]? = some (.ms x v 0 row.length 2) ∧ (σ ++ [Res.obj 0 (aCC c0C)])[x]? = some (.obj v (row.flatMap aCC)) ∧ labN σ lab (2, s.R.length) x = (2, i) := fun i row hi => by
    obtain ⟨f0, x, v, f1, f2, f3⟩ := r4 i row hi
    exact ⟨f0, x, v, f1, (s1.get f2 id).1, (s1.get f2 id).2.trans f3⟩
  generalize σ ++ [Res.obj 0 (aCC c0C)] = σ2 at *
  generalize labN σ lab (2, s.R.length) = lab2 at *
  have t1 := stp_set (σ := σ2) (x := .obj (w + 1) (cs ++ [.ms σ.length 0 0 1 2])) (q3l.trans r2)
  obtain ⟨p0, _⟩ := t1.get q0 (by rw [q0l, l0]; decide)
  have t2 := stp_set (σ := σ2.set r (.obj (w + 1) (cs ++ [.ms σ.length 0 0 1 2]))) (x := .obj 0 [.ms r (w + 1) 0 (s.R.length + 1) 1]) (lab := lab2) (q0l.trans l0)
  have t12 := t1.trans t2 (U := fun q => q = (0, 1) ∨ q = (1, 0)) (fun _ h => .inr h) fun _ h => .inl h
  refine ⟨lab2, ⟨⟨q0l.trans l0, (t12.get q1 (by rw [q1l, l1]; decide)).1, q1l.trans l1, (t12.get q2 (by rw [q2l, l2]; decide)).1, q2l.trans l2⟩, .inr ⟨by simp, r, w + 1, cs ++ [.ms σ.length 0 0 1 2], ?_, (t2.get (get_set_eq q3) (by rw [q3l, r2]; decide)).1, q3l.trans r2, by simp [r3], fun i row hi => ?_⟩⟩, s1.trans t12 (fun _ h => h.elim) fun _ h => h⟩
  · rw [get_set_eq p0]; simp
  · rcases Nat.lt_or_ge i s.R.length with hil | hil
    · simp only at hi
      rw [List.getElem?_append_left hil] at hi
      obtain ⟨f0, x, v, f1, f2, f3⟩ := q4 i row hi
      exact ⟨f0, x, v, by rw [List.getElem?_append_left (by omega)]; exact f1, (t12.get f2 (by rw [f3]; rintro (e | e) <;> injection e with e1 _ <;> omega)).1, f3⟩
    · have hlt := lt_at hi
      simp only [List.length_append, List.length_singleton] at hlt
      obtain rfl : i = s.R.length := by omega
      simp only at hi
      rw [List.getElem?_append_right (Nat.le_refl _), Nat.sub_self] at hi
      cases hi
      exact ⟨by simp, σ.length, 0, by rw [← r3]; simp, by rw [(t12.get n1 (by rw [n1l]; rintro (e | e) <;> injection e with e1 _ <;> omega)).1]; rfl, n1l⟩
theorem RowsAt.updR {s : RS} {σ : Kx.St} {lab : Nat → Role} (h : RowsAt s σ lab) {r w : Nat} {cs : List AV} (r0 : σ[0]? = some (.obj 0 [.ms r w 0 s.R.length 1])) (r1 : σ[r]? = some (.obj w cs)) (r2 : lab r = (1, 0)) (r3 : cs.length = s.R.length)
    (r4 : ∀ (i : Nat) (row : List CC), s.R[i]? = some row → 0 < row.length ∧ ∃ x v, cs[i]? = some (.ms x v 0 row.length 2) ∧ σ[x]? = some (.obj v (row.flatMap aCC)) ∧ lab x = (2, i)) {n : Nat} {row : List CC} (hn : s.R[n]? = some row) {x v : Nat}
    (hx : cs[n]? = some (.ms x v 0 row.length 2)) (hxo : σ[x]? = some (.obj v (row.flatMap aCC))) (hxl : lab x = (2, n)) (c : CC) :
    RowsAt ⟨s.R.set n (row ++ [c]), s.A⟩ ((σ.set x (.obj (v + 1) (row.flatMap aCC ++ aCC c))).set r (.obj w (cs.set n (.ms x (v + 1) 0 (row.length + 1) 2)))) lab := by
  obtain ⟨⟨l0, m1, l1, m2, l2⟩, _⟩ := h
  have t1 := stp_set (σ := σ) (x := .obj (v + 1) (row.flatMap aCC ++ aCC c)) hxl
  have t2 := stp_set (σ := σ.set x (.obj (v + 1) (row.flatMap aCC ++ aCC c))) (x := .obj w (cs.set n (.ms x (v + 1) 0 (row.length + 1) 2))) r2
  have t12 := t1.trans t2 (U := fun q => q = (2, n) ∨ q = (1, 0)) (fun _ h => .inl h) fun _ h => .inr h
  have d : ∀ {a b : Nat}, (a, b) = ((2, n) : Role) ∨ (a, b) = ((1, 0) : Role) → (a = 2 ∧ b = n) ∨ (a = 1 ∧ b = 0) := by
    rintro a b (e | e) <;> injection e with e1 e2
    · exact .inl ⟨e1, e2⟩
    · exact .inr ⟨e1, e2⟩
  have hlt := lt_at hn
  refine ⟨⟨l0, (t12.get m1 (by rw [l1]; intro e; have := d e; omega)).1, l1, (t12.get m2 (by rw [l2]; intro e; have := d e; omega)).1, l2⟩, .inr ⟨by simp; omega, r, w, cs.set n (.ms x (v + 1) 0 (row.length + 1) 2), ?_, ?_, r2, by simp [r3], fun i rw_ hi => ?_⟩⟩
  · simp only [List.length_set]
    exact (t12.get r0 (by rw [l0]; intro e; have := d e; omega)).1
  · exact get_set_eq (t1.get r1 (by rw [r2]; intro e; injection e with e1 _; omega)).1
  · simp only at hi
    by_cases hin : n = i
    · subst hin
      rw [List.getElem?_set, if_pos rfl, if_pos hlt] at hi
      cases hi
      refine ⟨by simp, x, v + 1, ?_, ?_, hxl⟩
      · rw [List.getElem?_set, if_pos rfl, if_pos (lt_at hx)]; simp
      · rw [(t2.get (get_set_eq hxo) (by rw [hxl]; intro e; injection e with e1 _; omega)).1]; simp
    · rw [List.getElem?_set_ne hin] at hi
      obtain ⟨f0, x2, v2, f1, f2, f3⟩ := r4 i rw_ hi
      refine ⟨f0, x2, v2, by rw [List.getElem?_set_ne hin]; exact f1, (t12.get f2 (by rw [f3]; intro e; have := d e; omega)).1, f3⟩
set_option maxHeartbeats 8000000 in
theorem rows_round (l : List Ev) (lp : Int) (hl : l.length ≤ 100000) {k : Nat} {x : Ev × Nat} (hx : (tl (ofLp lp) l)[k]? = some x) {σ : Kx.St} {lab : Nat → Role} (hσ : RowsAt (rowsX ((tl (ofLp lp) l).take k)) σ lab) {ε : AEnv} (h5 : ε 5 = .ref 0 0 0) (h6 : ε 6 = .ref 2 0 0)
    {N : AEnv → Kx.St → Prop} (hN : ∀ ε σ, (∃ lab, RowsAt (rowsX ((tl (ofLp lp) l).take (k + 1))) σ lab) → act (N ε σ)) :
    act (wpA Try.prog S_trace_Rows_R1a (fun ε2 σ2 => wpA Try.prog S_trace_Rows_R1b N (fun _ _ _ => False) (fun _ _ => False) ε2 σ2) (fun _ _ _ => False) (fun _ _ => False) (setA ε [15, 16] [.v (.int .i64 (x.2 : Int)), .agg (aEv x.1)]) σ) := by
  have hs := rowsX_succ hx
  rw [hs] at hN
  have htl := tl_len (ofLp lp) l
  have hkl := lt_at hx
  obtain ⟨ok1, ok2, ok3⟩ := rowsX_ok (tl (ofLp lp) l) k (by omega)
  generalize rowsX ((tl (ofLp lp) l).take k) = s at hN hσ ok1 ok2 ok3
  have g0 : (aEv x.1)[0]? = some (.v (.int .i64 x.1.k)) := rfl
  have g2 : (aEv x.1)[2]? = some (.v (.int .i64 x.1.it)) := rfl
  have g3 : (aEv x.1)[3]? = some (.v (.int .i64 x.1.st)) := rfl
  have hset : setAtA [AV.v (.int .i64 0), AV.v (.int .i64 0), AV.v (.int .i64 0), AV.v (.int .i64 0)] 0 (aEv x.1) = aEv x.1 := rfl
  simp only [S_trace_Rows_R1a, S_trace_Rows_R1b, setA, List.zip_cons_cons, List.zip_nil_right, List.foldl_cons, List.foldl_nil]
  simp (maxSteps := 1000000) (implicitDefEqProofs := false) (disch := omega) only [push_cast, ↓reduceIte, Nat.reduceEqDiff, reduceCtorEq, wz]
  refine wpa_new ?_
  simp (maxSteps := 1000000) (implicitDefEqProofs := false) (disch := omega) only [push_cast, ↓reduceIte, Nat.reduceEqDiff, reduceCtorEq, wz]
  refine wpa_stn (cs := [AV.v (.int .i64 0), AV.v (.int .i64 0), AV.v (.int .i64 0), AV.v (.int .i64 0)]) rfl rfl (at_snoc _ _) (by simp) ?_
  rw [hset, set_snoc]
  have hσ1 := hσ.stp (stp_new (x := .obj 0 (aEv x.1)) (S := fun _ => False) (0, 0))
  have hbx : (σ ++ [Res.obj 0 (aEv x.1)])[σ.length]? = some (.obj 0 (aEv x.1)) := at_snoc _ _
  have hl1 : labN σ lab (0, 0) σ.length = (0, 0) := labN_self _ _ _
  generalize σ ++ [Res.obj 0 (aEv x.1)] = σ1 at hσ1 hbx ⊢
  generalize labN σ lab (0, 0) = lab1 at hσ1 hl1
  clear hσ
  by_cases hk1 : x.1.k = 1
  · rw [show stepR s x.1 = ⟨s.R ++ [[c0C]], putI s.A x.1.it (s.R.length + 1)⟩ by unfold stepR; rw [if_pos hk1]; rfl] at hN
    have hσc := hσ1
    obtain ⟨⟨l0, m1, l1, m2, l2⟩, hR⟩ := hσ1
    have hac : (AV.agg (aCC c0C)).cells = aCC c0C := rfl
    rcases hR with ⟨hR0, r0⟩ | ⟨hp, r, w, cs, r0, r1, r2, r3, r4⟩
    · obtain ⟨lab4, H4, hst4⟩ := hσc.addN hR0 r0
      have hb4 := (hst4.get hbx (by rw [hl1]; decide)).1
      simp (maxSteps := 1000000) (implicitDefEqProofs := false) (disch := omega) only [push_cast, ↓reduceIte, Nat.reduceEqDiff, reduceCtorEq, wz, hbx, g0, hk1, r0, h5, h6, bldC0]
      refine wpa_bslo (sz := 2) (by intro a ha; simp at ha; subst ha; rfl) (by simp) ?_
      simp (maxSteps := 1000000) (implicitDefEqProofs := false) (disch := omega) only [push_cast, ↓reduceIte, Nat.reduceEqDiff, reduceCtorEq, wz, List.append_nil, hac]
      refine wpa_bsl (sz := 1) (by intro a ha; simp at ha; subst ha; rfl) (by simp) ?_
      simp (maxSteps := 1000000) (implicitDefEqProofs := false) (disch := omega) only [push_cast, ↓reduceIte, Nat.reduceEqDiff, reduceCtorEq, wz, AV.cells]
      refine wpa_app_nilo (m := 1) rfl rfl rfl rfl (by omega) (by omega) (by omega) ?_
      simp (maxSteps := 1000000) (implicitDefEqProofs := false) (disch := omega) only [push_cast, ↓reduceIte, Nat.reduceEqDiff, reduceCtorEq, wz, List.append_nil, h5]
      have q0 : (σ1 ++ [Res.obj 0 (aCC c0C)] ++ [Res.obj 0 [AV.ms σ1.length 0 0 1 2]])[0]? = some (.obj 0 [.sl 0 [] .nil]) := get_app (get_app r0)
      refine wpa_st1 rfl rfl q0 (by simp) ?_
      have a0 := get_set_eq (o := .obj 0 [AV.ms (σ1.length + 1) 0 0 1 1]) q0
      rw [show ∀ t, [AV.sl 0 [] Tok.nil].set 0 t = [t] from fun _ => rfl, show (σ1 ++ [Res.obj 0 (aCC c0C)]).length = σ1.length + 1 by simp]
      generalize (σ1 ++ [Res.obj 0 (aCC c0C)] ++ [Res.obj 0 [AV.ms σ1.length 0 0 1 2]]).set 0 (.obj 0 [.ms (σ1.length + 1) 0 0 1 1]) = σ4 at H4 hb4 a0 ⊢
      have H5 := H4.putA (A' := putI s.A x.1.it (s.R.length + 1))
      obtain ⟨⟨_, a1, _, a2, _⟩, _⟩ := H4
      have hlR : s.R.length = 0 := by rw [hR0]; rfl
      have hpu := putM_I s.A x.1.it 1
      rw [hlR] at H5 hN
      simp (maxSteps := 1000000) (implicitDefEqProofs := false) (disch := omega) only [push_cast, ↓reduceIte, Nat.reduceEqDiff, reduceCtorEq, wz, hb4, g2, a0, a1, a2, h5, h6]
      refine wpa_mup a1 hpu ?_
      simp (maxSteps := 1000000) (implicitDefEqProofs := false) (disch := omega) only [push_cast, ↓reduceIte, Nat.reduceEqDiff, reduceCtorEq, wz]
      exact hN _ _ ⟨lab4, H5⟩
    · obtain ⟨lab4, H4, hst4⟩ := hσc.addM hp r0 r1 r2 r3 r4
      have hb4 := (hst4.get hbx (by rw [hl1]; decide)).1
      simp (maxSteps := 1000000) (implicitDefEqProofs := false) (disch := omega) only [push_cast, ↓reduceIte, Nat.reduceEqDiff, reduceCtorEq, wz, hbx, g0, hk1, r0, h5, h6, bldC0]
      refine wpa_bslo (sz := 2) (by intro a ha; simp at ha; subst ha; rfl) (by simp) ?_
      simp (maxSteps := 1000000) (implicitDefEqProofs := false) (disch := omega) only [push_cast, ↓reduceIte, Nat.reduceEqDiff, reduceCtorEq, wz, List.append_nil, hac]
      refine wpa_bsl (sz := 1) (by intro a ha; simp at ha; subst ha; rfl) (by simp) ?_
      simp (maxSteps := 1000000) (implicitDefEqProofs := false) (disch := omega) only [push_cast, ↓reduceIte, Nat.reduceEqDiff, reduceCtorEq, wz, AV.cells]
      refine wpa_app_ms (m := 1) rfl rfl rfl rfl (by omega) (by omega) (by omega) (get_app r1) ?_
      rw [show cs.take (s.R.length * 1) = cs from List.take_of_length_le (by omega)]
      simp (maxSteps := 1000000) (implicitDefEqProofs := false) (disch := omega) only [push_cast, ↓reduceIte, Nat.reduceEqDiff, reduceCtorEq, wz, List.append_nil, h5]
      have q0 : ((σ1 ++ [Res.obj 0 (aCC c0C)]).set r (.obj (w + 1) (cs ++ [.ms σ1.length 0 0 1 2])))[0]? = some (.obj 0 [.ms r w 0 s.R.length 1]) := get_set_ne (by rintro rfl; rw [r2] at l0; exact absurd l0 (by decide)) (get_app r0)
      refine wpa_st1 rfl rfl q0 (by simp) ?_
      have a0 := get_set_eq (o := .obj 0 [AV.ms r (w + 1) 0 (s.R.length + 1) 1]) q0
      rw [show ∀ t, [AV.ms r w 0 s.R.length 1].set 0 t = [t] from fun _ => rfl]
      generalize ((σ1 ++ [Res.obj 0 (aCC c0C)]).set r (.obj (w + 1) (cs ++ [.ms σ1.length 0 0 1 2]))).set 0 (.obj 0 [.ms r (w + 1) 0 (s.R.length + 1) 1]) = σ4 at H4 hb4 a0 ⊢
      have H5 := H4.putA (A' := putI s.A x.1.it (s.R.length + 1))
      obtain ⟨⟨_, a1, _, a2, _⟩, _⟩ := H4
      have hpu := putM_I s.A x.1.it (s.R.length + 1)
      simp (maxSteps := 1000000) (implicitDefEqProofs := false) (disch := omega) only [push_cast, ↓reduceIte, Nat.reduceEqDiff, reduceCtorEq, wz, hb4, g2, a0, a1, a2, h5, h6]
      refine wpa_mup a1 hpu ?_
      simp (maxSteps := 1000000) (implicitDefEqProofs := false) (disch := omega) only [push_cast, ↓reduceIte, Nat.reduceEqDiff, reduceCtorEq, wz]
      exact hN _ _ ⟨lab4, H5⟩
  · have hσc := hσ1
    obtain ⟨⟨l0, m1, l1, m2, l2⟩, hR⟩ := hσ1
    by_cases hk3 : x.1.k = 3
    · have hst6 : stepR s x.1 = if 0 < getI s.A x.1.it then ⟨s.R.set (getI s.A x.1.it - 1).toNat (s.R.getD (getI s.A x.1.it - 1).toNat [] ++ [⟨x.1.st, true⟩]), s.A⟩ else s := by unfold stepR; rw [if_neg hk1, if_pos (.inl hk3)]; simp [hk3]
      rw [hst6] at hN
      simp (maxSteps := 1000000) (implicitDefEqProofs := false) (disch := omega) only [push_cast, ↓reduceIte, Nat.reduceEqDiff, reduceCtorEq, wz, hbx, g0, g2, hk1, hk3, h5, h6, m1, m2]
      refine wpa_mlk m1 (getM_I s.A x.1.it) ?_
      have h3 := ok3 x.1.it
      by_cases hn0 : 0 < getI s.A x.1.it
      · rw [if_pos hn0] at hN
        rcases hR with ⟨hR0, r0⟩ | ⟨hp, r, w, cs, r0, r1, r2, r3, r4⟩
        · rw [hR0] at h3; simp at h3; omega
        · obtain ⟨n, hn⟩ : ∃ n : Nat, getI s.A x.1.it = n + 1 := ⟨(getI s.A x.1.it - 1).toNat, by omega⟩
          have hnt : ((n : Int) + 1 - 1).toNat = n := by omega
          obtain ⟨row, hrow⟩ := at_lt (l := s.R) (k := n) (by omega)
          obtain ⟨f0, y, v, f1, f2, f3⟩ := r4 n row hrow
          have hU := hσc.updR r0 r1 r2 r3 r4 hrow f1 f2 f3 ⟨x.1.st, true⟩
          have hgd : s.R.getD n [] = row := by rw [List.getD_eq_getElem?_getD, hrow]; rfl
          rw [hn, hnt, hgd] at hN
          have hro := ok2 row (List.mem_of_getElem? hrow)
          have hn1 : (0 : Int) < (n : Int) + 1 := by omega
          have hac : (AV.agg (aCC ⟨x.1.st, true⟩)).cells = aCC ⟨x.1.st, true⟩ := rfl
          have hlt : n < s.R.length := lt_at hrow
          simp (maxSteps := 1000000) (implicitDefEqProofs := false) (disch := omega) only [push_cast, ↓reduceIte, Nat.reduceEqDiff, reduceCtorEq, wz, hbx, g0, g3, hk3, h5, h6, hn, hn1, hnt, r0, r1, f1, bldC]
          refine wpa_bsl (sz := 2) (by intro a ha; simp at ha; subst ha; rfl) (by simp) ?_
          simp (maxSteps := 1000000) (implicitDefEqProofs := false) (disch := omega) only [push_cast, ↓reduceIte, Nat.reduceEqDiff, reduceCtorEq, wz, h5]
          refine ⟨aholds_e (by simp (maxSteps := 1000000) (implicitDefEqProofs := false) (disch := omega) only [push_cast, ↓reduceIte, Nat.reduceEqDiff, reduceCtorEq, wz, r1, f1, ex_ms2]), aholds_e (by simp (maxSteps := 1000000) (implicitDefEqProofs := false) (disch := omega) only [push_cast, ↓reduceIte, Nat.reduceEqDiff, reduceCtorEq, wz, h5, r0, ex_ms]), aholds_e (by simp (maxSteps := 1000000) (implicitDefEqProofs := false) (disch := omega) only [push_cast, ↓reduceIte, Nat.reduceEqDiff, reduceCtorEq, wz, h5, r0, ex_ms]), ?_⟩
          have hfl := flat_len aCC_len row
          refine wpa_app_ms (m := 1) rfl rfl rfl rfl (by omega) (by omega) (by omega) f2 ?_
          rw [show (row.flatMap aCC).take (row.length * 2) = row.flatMap aCC from List.take_of_length_le (by omega)]
          have q0 : (σ1.set y (.obj (v + 1) (row.flatMap aCC ++ aCC ⟨x.1.st, true⟩)))[0]? = some (.obj 0 [.ms r w 0 s.R.length 1]) := get_set_ne (by rintro rfl; rw [f3] at l0; injection l0 with e1 _; omega) r0
          have q1 : (σ1.set y (.obj (v + 1) (row.flatMap aCC ++ aCC ⟨x.1.st, true⟩)))[r]? = some (.obj w cs) := get_set_ne (by rintro rfl; rw [f3] at r2; injection r2 with e1 _; omega) r1
          simp (maxSteps := 1000000) (implicitDefEqProofs := false) (disch := omega) only [push_cast, ↓reduceIte, Nat.reduceEqDiff, reduceCtorEq, wz, List.append_nil, hac]
          refine ⟨aholds_e (by simp (maxSteps := 1000000) (implicitDefEqProofs := false) (disch := omega) only [push_cast, ↓reduceIte, Nat.reduceEqDiff, reduceCtorEq, wz, h5, q0, ex_ms]), ?_⟩
          refine wpa_st1 rfl rfl q1 (by omega) ?_
          simp (maxSteps := 1000000) (implicitDefEqProofs := false) (disch := omega) only [push_cast, ↓reduceIte, Nat.reduceEqDiff, reduceCtorEq, wz, hnt]
          exact hN _ _ ⟨lab1, hU⟩
      · rw [if_neg hn0] at hN
        simp (maxSteps := 1000000) (implicitDefEqProofs := false) (disch := omega) only [push_cast, ↓reduceIte, Nat.reduceEqDiff, reduceCtorEq, wz, hn0]
        exact hN _ _ ⟨lab1, hσc⟩
    by_cases hk6 : x.1.k = 6
    · have hst6 : stepR s x.1 = if 0 < getI s.A x.1.it then ⟨s.R.set (getI s.A x.1.it - 1).toNat (s.R.getD (getI s.A x.1.it - 1).toNat [] ++ [⟨x.1.st, false⟩]), s.A⟩ else s := by unfold stepR; rw [if_neg hk1, if_pos (.inr hk6)]; simp [hk6]
      rw [hst6] at hN
      simp (maxSteps := 1000000) (implicitDefEqProofs := false) (disch := omega) only [push_cast, ↓reduceIte, Nat.reduceEqDiff, reduceCtorEq, wz, hbx, g0, g2, hk1, hk3, hk6, h5, h6, m1, m2]
      refine wpa_mlk m1 (getM_I s.A x.1.it) ?_
      have h3 := ok3 x.1.it
      by_cases hn0 : 0 < getI s.A x.1.it
      · rw [if_pos hn0] at hN
        rcases hR with ⟨hR0, r0⟩ | ⟨hp, r, w, cs, r0, r1, r2, r3, r4⟩
        · rw [hR0] at h3; simp at h3; omega
        · obtain ⟨n, hn⟩ : ∃ n : Nat, getI s.A x.1.it = n + 1 := ⟨(getI s.A x.1.it - 1).toNat, by omega⟩
          have hnt : ((n : Int) + 1 - 1).toNat = n := by omega
          obtain ⟨row, hrow⟩ := at_lt (l := s.R) (k := n) (by omega)
          obtain ⟨f0, y, v, f1, f2, f3⟩ := r4 n row hrow
          have hU := hσc.updR r0 r1 r2 r3 r4 hrow f1 f2 f3 ⟨x.1.st, false⟩
          have hgd : s.R.getD n [] = row := by rw [List.getD_eq_getElem?_getD, hrow]; rfl
          rw [hn, hnt, hgd] at hN
          have hro := ok2 row (List.mem_of_getElem? hrow)
          have hn1 : (0 : Int) < (n : Int) + 1 := by omega
          have hac : (AV.agg (aCC ⟨x.1.st, false⟩)).cells = aCC ⟨x.1.st, false⟩ := rfl
          have hlt : n < s.R.length := lt_at hrow
          simp (maxSteps := 1000000) (implicitDefEqProofs := false) (disch := omega) only [push_cast, ↓reduceIte, Nat.reduceEqDiff, reduceCtorEq, wz, hbx, g0, g3, hk3, hk6, h5, h6, hn, hn1, hnt, r0, r1, f1, bldC]
          refine wpa_bsl (sz := 2) (by intro a ha; simp at ha; subst ha; rfl) (by simp) ?_
          simp (maxSteps := 1000000) (implicitDefEqProofs := false) (disch := omega) only [push_cast, ↓reduceIte, Nat.reduceEqDiff, reduceCtorEq, wz, h5]
          refine ⟨aholds_e (by simp (maxSteps := 1000000) (implicitDefEqProofs := false) (disch := omega) only [push_cast, ↓reduceIte, Nat.reduceEqDiff, reduceCtorEq, wz, r1, f1, ex_ms2]), aholds_e (by simp (maxSteps := 1000000) (implicitDefEqProofs := false) (disch := omega) only [push_cast, ↓reduceIte, Nat.reduceEqDiff, reduceCtorEq, wz, h5, r0, ex_ms]), aholds_e (by simp (maxSteps := 1000000) (implicitDefEqProofs := false) (disch := omega) only [push_cast, ↓reduceIte, Nat.reduceEqDiff, reduceCtorEq, wz, h5, r0, ex_ms]), ?_⟩
          have hfl := flat_len aCC_len row
          refine wpa_app_ms (m := 1) rfl rfl rfl rfl (by omega) (by omega) (by omega) f2 ?_
          rw [show (row.flatMap aCC).take (row.length * 2) = row.flatMap aCC from List.take_of_length_le (by omega)]
          have q0 : (σ1.set y (.obj (v + 1) (row.flatMap aCC ++ aCC ⟨x.1.st, false⟩)))[0]? = some (.obj 0 [.ms r w 0 s.R.length 1]) := get_set_ne (by rintro rfl; rw [f3] at l0; injection l0 with e1 _; omega) r0
          have q1 : (σ1.set y (.obj (v + 1) (row.flatMap aCC ++ aCC ⟨x.1.st, false⟩)))[r]? = some (.obj w cs) := get_set_ne (by rintro rfl; rw [f3] at r2; injection r2 with e1 _; omega) r1
          simp (maxSteps := 1000000) (implicitDefEqProofs := false) (disch := omega) only [push_cast, ↓reduceIte, Nat.reduceEqDiff, reduceCtorEq, wz, List.append_nil, hac]
          refine ⟨aholds_e (by simp (maxSteps := 1000000) (implicitDefEqProofs := false) (disch := omega) only [push_cast, ↓reduceIte, Nat.reduceEqDiff, reduceCtorEq, wz, h5, q0, ex_ms]), ?_⟩
          refine wpa_st1 rfl rfl q1 (by omega) ?_
          simp (maxSteps := 1000000) (implicitDefEqProofs := false) (disch := omega) only [push_cast, ↓reduceIte, Nat.reduceEqDiff, reduceCtorEq, wz, hnt]
          exact hN _ _ ⟨lab1, hU⟩
      · rw [if_neg hn0] at hN
        simp (maxSteps := 1000000) (implicitDefEqProofs := false) (disch := omega) only [push_cast, ↓reduceIte, Nat.reduceEqDiff, reduceCtorEq, wz, hn0]
        exact hN _ _ ⟨lab1, hσc⟩
    rw [show stepR s x.1 = s by unfold stepR; rw [if_neg hk1, if_neg (by simp [hk3, hk6])]] at hN
    simp (maxSteps := 1000000) (implicitDefEqProofs := false) (disch := omega) only [push_cast, ↓reduceIte, Nat.reduceEqDiff, reduceCtorEq, wz, hbx, g0, hk1, hk3, hk6, h5, h6]
    exact hN _ _ ⟨lab1, hσc⟩
theorem aRow_res (σ : Kx.St) (row : List CC) : AV.resL σ (row.flatMap aCC) = row.flatMap aCC := resL_flat _ _ _ fun c => by simp [aCC, AV.resL, AV.res]
def msIdx : AV → Nat
  | .ms x _ _ _ _ => x
  | _ => 0
theorem rows_fin {R : List (List CC)} {σ : Kx.St} {lab : Nat → Role} {r w : Nat} {cs : List AV} (r1 : σ[r]? = some (.obj w cs)) (r2 : lab r = (1, 0)) (r3 : cs.length = R.length)
    (r4 : ∀ (i : Nat) (row : List CC), R[i]? = some row → 0 < row.length ∧ ∃ x v, cs[i]? = some (.ms x v 0 row.length 2) ∧ σ[x]? = some (.obj v (row.flatMap aCC)) ∧ lab x = (2, i)) :
    ∃ is, AV.res (Kx.freeze is σ) (.ms r w 0 R.length 1) = aRows R := by
  have hjs : ∀ x ∈ cs.map msIdx, ∃ i row v, R[i]? = some row ∧ cs[i]? = some (.ms x v 0 row.length 2) ∧ σ[x]? = some (.obj v (row.flatMap aCC)) ∧ lab x = (2, i) := by
    intro x hx
    obtain ⟨a, ha, rfl⟩ := List.mem_map.1 hx
    obtain ⟨i, hi⟩ := List.getElem?_of_mem ha
    obtain ⟨row, hrow⟩ := at_lt (l := R) (k := i) (by have := lt_at hi; omega)
    obtain ⟨_, x, v, f1, f2, f3⟩ := r4 i row hrow
    rw [hi] at f1
    cases f1
    exact ⟨i, row, v, hrow, hi, f2, f3⟩
  have hfz := freeze_at (σ := σ) (cs.map msIdx) fun x hx => by
    obtain ⟨i, row, v, _, _, h, _⟩ := hjs x hx
    exact ⟨v, _, h, fun τ => aRow_res τ row⟩
  have hrn : r ∉ cs.map msIdx := fun hr => by
    obtain ⟨i, row, v, _, _, _, h⟩ := hjs r hr
    rw [r2] at h
    injection h with h1 _
    omega
  refine ⟨cs.map msIdx ++ [r], ?_⟩
  have e1 : Kx.freeze (cs.map msIdx ++ [r]) σ = freeze1 (Kx.freeze (cs.map msIdx) σ) r := by unfold Kx.freeze; rw [List.foldl_append]; rfl
  rw [e1]
  have hr1 := ((hfz r).1 hrn).trans r1
  have hres : AV.resL (Kx.freeze (cs.map msIdx) σ) cs = R.map aRow := by
    rw [resL_map]
    refine List.ext_getElem? fun i => ?_
    rw [List.getElem?_map, List.getElem?_map]
    rcases Nat.lt_or_ge i R.length with hi | hi
    · obtain ⟨row, hrow⟩ := at_lt (l := R) (k := i) hi
      obtain ⟨_, x, v, f1, f2, _⟩ := r4 i row hrow
      rw [hrow, f1]
      have hx := (hfz x).2 v _ (List.mem_map.2 ⟨_, List.mem_of_getElem? f1, rfl⟩) f2
      have hfl := flat_len aCC_len row
      simp [AV.res, hx, subA, aRow, aSlN]
      rw [List.take_of_length_le]
      omega
    · rw [List.getElem?_eq_none (by omega : cs.length ≤ i), List.getElem?_eq_none hi]
      rfl
  generalize Kx.freeze (cs.map msIdx) σ = τ at *
  have hf1 : freeze1 τ r = τ.set r (.frz w (R.map aRow)) := by unfold freeze1; rw [hr1]; simp only; rw [hres]
  rw [hf1]
  have hlt := lt_at hr1
  simp [AV.res, hlt, subA, aRows, aSl]
  exact List.take_of_length_le (by simp)
set_option maxHeartbeats 4000000 in
theorem trace_Rows_a (l : List Ev) (lp : Int) (hl : l.length ≤ 100000) : FnP Try.prog 18 [aEvs l, aInt lp] fun a => a = aRows (rowsF l lp) := by
  refine fnP_in K_trace_Rows mixed rfl (by simp [AV.pureL, aEvs_pure, AV.pure, aInt]) ?_
  simp only [S_trace_Rows]
  simp (maxSteps := 1000000) (implicitDefEqProofs := false) (disch := omega) only [push_cast, ↓reduceIte, Nat.reduceEqDiff, reduceCtorEq, wz]
  refine wpa_new ?_
  simp (maxSteps := 1000000) (implicitDefEqProofs := false) (disch := omega) only [push_cast, ↓reduceIte, Nat.reduceEqDiff, reduceCtorEq, wz]
  refine wpa_mkm ?_
  simp (maxSteps := 1000000) (implicitDefEqProofs := false) (disch := omega) only [push_cast, ↓reduceIte, Nat.reduceEqDiff, reduceCtorEq, wz]
  refine wpa_new ?_
  simp (maxSteps := 1000000) (implicitDefEqProofs := false) (disch := omega) only [push_cast, ↓reduceIte, Nat.reduceEqDiff, reduceCtorEq, wz]
  refine wpa_st1 rfl rfl rfl (by simp) ?_
  simp (maxSteps := 1000000) (implicitDefEqProofs := false) (disch := omega) only [push_cast, ↓reduceIte, Nat.reduceEqDiff, reduceCtorEq, wz]
  refine wpa_call (trace_of_a l hl) ?_
  rintro a rfl
  simp (maxSteps := 1000000) (implicitDefEqProofs := false) (disch := omega) only [push_cast, ↓reduceIte, Nat.reduceEqDiff, reduceCtorEq, wz]
  refine wpa_call (log_Of_a l lp) ?_
  rintro a rfl
  simp (maxSteps := 1000000) (implicitDefEqProofs := false) (disch := omega) only [push_cast, ↓reduceIte, Nat.reduceEqDiff, reduceCtorEq, wz, aThose]
  refine wpa_rf (GU.refl _ _) (xs := [.ep [aLg l], .ep [aLike 81 lp]]) (I := fun k σ => ∃ lab, RowsAt (rowsX ((tl (ofLp lp) l).take k)) σ lab) ?_ (by kernel_rfl) (ofLp_it l lp) (tlA_two _ _) ?_ ?_ ?_
  · simp (maxSteps := 1000000) (implicitDefEqProofs := false) (disch := omega) only [push_cast, ↓reduceIte, Nat.reduceEqDiff, reduceCtorEq, wz]
  · exact ⟨fun i => (0, i + 1), ⟨rfl, rfl, rfl, rfl, rfl⟩, .inl ⟨rfl, rfl⟩⟩
  · rintro k v σ N hv ⟨lab, hσ⟩ hN
    obtain ⟨x, hx, rfl⟩ := tlA_at hv
    exact rows_round l lp hl hx hσ (by simp (maxSteps := 1000000) (implicitDefEqProofs := false) (disch := omega) only [push_cast, ↓reduceIte, Nat.reduceEqDiff, reduceCtorEq, wz]) (by simp (maxSteps := 1000000) (implicitDefEqProofs := false) (disch := omega) only [push_cast, ↓reduceIte, Nat.reduceEqDiff, reduceCtorEq, wz]) hN
  · rintro σ ⟨lab, ⟨_, hR⟩⟩
    rw [tlA_len, List.take_length] at hR
    change act _
    unfold rowsF
    generalize rowsX (tl (ofLp lp) l) = s at hR ⊢
    rcases hR with ⟨hR0, r0⟩ | ⟨hp, r, w, cs, r0, r1, r2, r3, r4⟩
    · simp (maxSteps := 1000000) (implicitDefEqProofs := false) (disch := omega) only [push_cast, ↓reduceIte, Nat.reduceEqDiff, reduceCtorEq, wz, r0]
      rw [hR0]
      exact fin_res [] rfl rfl
    · simp (maxSteps := 1000000) (implicitDefEqProofs := false) (disch := omega) only [push_cast, ↓reduceIte, Nat.reduceEqDiff, reduceCtorEq, wz, r0]
      obtain ⟨is, he⟩ := rows_fin r1 r2 r3 r4
      exact fin_res is he (aRows_pure _)
end Go.Proofs.Ythgmfjkbgacfaaa
