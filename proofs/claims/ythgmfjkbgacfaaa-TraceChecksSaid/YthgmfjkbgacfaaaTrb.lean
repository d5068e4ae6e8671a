/- Trace: start, event, Check. -/
import Derived.Test.YthgmfjkbgacfaaaTra
namespace Go.Proofs.Ythgmfjkbgacfaaa
set_option linter.unusedVariables false
set_option linter.unusedSimpArgs false
open Go Go.Kx Go.Proofs

theorem start_a {σ : Kx.St} {lab : Nat → Role} {j o : Nat} {p : Lp} (h : LpAt σ lab j o p) (hl : p.its.length ≤ 1000000) (e : Ev) :
    FnG Try.prog 82 [.ref o 0 0, .agg (aEv e)] σ fun a σ' => a = aInt (startT p e).2 ∧ ∃ lab', LpAt σ' lab' j o (startT p e).1 ∧ Stp (isJ j) σ lab σ' lab' := by
  have hH := h.stp (stp_new (x := .obj 0 (aEv e)) (S := fun _ => False) (0, 0)) fun _ _ => id
  have hS : Stp (isJ j) σ lab (σ ++ [Res.obj 0 (aEv e)]) (labN σ lab (0, 0)) := stp_new _
  have hko := hH
  have hlo : o < (σ ++ [Res.obj 0 (aEv e)]).length := by obtain ⟨_, _, h1, _⟩ := hH; exact lt_at h1
  refine fnG_in K_trace_loop_start mixed rfl ?_
  simp only [S_trace_loop_start]
  have hcl : (AV.agg (aEv e)).cells = aEv e := rfl
  have g2 : (aEv e)[2]? = some (.v (.int .i64 e.it)) := rfl
  have g3 : (aEv e)[3]? = some (.v (.int .i64 e.st)) := rfl
  simp (maxSteps := 1000000) (implicitDefEqProofs := false) (disch := omega) only [push_cast, ↓reduceIte, Nat.reduceEqDiff, reduceCtorEq, wz]
  refine wpa_box ?_
  have hbx : (σ ++ [Res.obj 0 (aEv e)])[σ.length]? = some (.obj 0 (aEv e)) := at_snoc _ _
  rw [hcl]
  generalize σ ++ [Res.obj 0 (aEv e)] = σ1 at hH hS hko hbx hlo ⊢
  generalize labN σ lab (0, 0) = lab1 at hH hS hko
  obtain ⟨ios, T, h1, h2, h3, h4, h5⟩ := hH
  by_cases he1 : e.it = p.its.length
  · by_cases he3 : e.st = 0
    · have main : (0 < p.its.length ∧ (p.its.getD (p.its.length - 1) it0).fr = false) ∨ (p.its.length = 0 ∨ (p.its.getD (p.its.length - 1) it0).fr = true) := by
        by_cases h0 : p.its.length = 0
        · exact .inr (.inl h0)
        · cases hfr : (p.its.getD (p.its.length - 1) it0).fr
          · exact .inl ⟨by omega, rfl⟩
          · exact .inr (.inr rfl)
      rcases main with ⟨h0, hfr⟩ | hgo
      · obtain ⟨x, hx⟩ := at_lt (l := p.its) (k := p.its.length - 1) (by omega)
        obtain ⟨i, b1, b2, b3⟩ := h5 _ _ hx
        have hi : (cIos ios)[p.its.length - 1]? = some (.ref i 0 0) := by unfold cIos; rw [List.getElem?_map, b1]; rfl
        have hm1 : ((p.its.length : Int) - 1).toNat = p.its.length - 1 := by omega
        have hg : p.its.getD (p.its.length - 1) it0 = x := by rw [List.getD_eq_getElem?_getD, hx]; rfl
        rw [hg] at hfr
        have c3 : (aIt x)[3]? = some (.v (.bool false)) := by rw [← hfr]; rfl
        have h0' : (0 : Int) < (p.its.length : Int) := by omega
        rw [show startT p e = (p, 1) by unfold startT; rw [if_neg (by simp [he1, he3]), if_pos ⟨h0, by rw [hg]; exact hfr⟩]]
        simp (maxSteps := 1000000) (implicitDefEqProofs := false) (disch := omega) only [push_cast, ↓reduceIte, Nat.reduceEqDiff, reduceCtorEq, wz, hbx, h1, g2, g3, he1, he3, aInt, hi, hm1, b2, c3, h0']
        exact ⟨_, hko, hS⟩
      · rw [show startT p e = (⟨p.its ++ [it0], p.en⟩, 0) by unfold startT; rw [if_neg (by simp [he1, he3]), if_neg (by rintro ⟨a, b⟩; rcases hgo with h | h; omega; rw [h] at b; cases b)]]
        by_cases h0 : p.its.length = 0
        · have h0' : ¬ (0 : Int) < (p.its.length : Int) := by omega
          simp (maxSteps := 1000000) (implicitDefEqProofs := false) (disch := omega) only [push_cast, ↓reduceIte, Nat.reduceEqDiff, reduceCtorEq, wz, hbx, h1, g2, g3, he1, he3, aInt, h0', fillA]
          refine wpa_box ?_
          rw [show (AV.agg [AV.v (Value.int IntKind.i64 0), AV.v (Value.bool false), AV.v (Value.bool false), AV.v (Value.bool false), AV.v (Value.bool false)]).cells = aIt it0 from rfl]
          simp (maxSteps := 1000000) (implicitDefEqProofs := false) (disch := omega) only [push_cast, ↓reduceIte, Nat.reduceEqDiff, reduceCtorEq, wz]
          refine wpa_bsl (sz := 1) (by intro a ha; simp at ha; subst ha; rfl) (by simp) ?_
          simp (maxSteps := 1000000) (implicitDefEqProofs := false) (disch := omega) only [push_cast, ↓reduceIte, Nat.reduceEqDiff, reduceCtorEq, wz]
          have hs2 : Stp (isJ j) σ1 lab1 (σ1 ++ [Res.obj 0 (aIt it0)]) (labN σ1 lab1 (3 + p.its.length, j)) := stp_new _
          have hnl := labN_self σ1 lab1 (3 + p.its.length, j)
          have hni : (σ1 ++ [Res.obj 0 (aIt it0)])[σ1.length]? = some (.obj 0 (aIt it0)) := at_snoc _ _
          have hT2 := h3.stp (stp_new (x := .obj 0 (aIt it0)) (S := fun _ => False) (3 + p.its.length, j)) id
          have hs0 : Stp (fun _ => False) σ1 lab1 (σ1 ++ [Res.obj 0 (aIt it0)]) (labN σ1 lab1 (3 + p.its.length, j)) := stp_new _
          have h1' := hs0.get h1 id
          have h5' : ∀ (k : Nat) (x : It), p.its[k]? = some x → ∃ i, ios[k]? = some i ∧ (σ1 ++ [Res.obj 0 (aIt it0)])[i]? = some (.obj 0 (aIt x)) ∧ labN σ1 lab1 (3 + p.its.length, j) i = (3 + k, j) := fun k x hx => by
            obtain ⟨i, b1, b2, b3⟩ := h5 k x hx
            obtain ⟨d1, d2⟩ := hs0.get b2 id
            exact ⟨i, b1, d1, d2.trans b3⟩
          rw [h2] at h1'
          generalize σ1 ++ [Res.obj 0 (aIt it0)] = σ2 at hs2 hni hT2 h1' h5' ⊢
          generalize labN σ1 lab1 (3 + p.its.length, j) = lab2 at hs2 hnl hT2 h1' h5'
          refine wpa_app_t (m := 1) rfl hT2 rfl rfl rfl (by simp [cIos, h4]) (by omega) (by omega) ?_
          intro σ3 lab3 t3 hs3 hT3
          have ho3 := hs3.get h1'.1 (by rw [h1'.2]; intro e; injection e; omega)
          simp (maxSteps := 1000000) (implicitDefEqProofs := false) (disch := omega) only [push_cast, ↓reduceIte, Nat.reduceEqDiff, reduceCtorEq, wz]
          refine wpa_st1 rfl rfl ho3.1 (by simp) ?_
          have hlo3 : lab3 o = (1, j) := ho3.2.trans h1'.2
          have hst := stp_set (σ := σ3) (x := .obj 0 [.sl (p.its.length + 1) (cIos ios ++ [.ref σ1.length 0 0]) t3, .v (.bool p.en)]) hlo3
          simp (maxSteps := 1000000) (implicitDefEqProofs := false) (disch := omega) only [push_cast, ↓reduceIte, Nat.reduceEqDiff, reduceCtorEq, wz]
          refine ⟨lab3, ⟨ios ++ [σ1.length], t3, ?_, hlo3, ?_, by simp [h4], ?_⟩, ((hS.trans hs2 (fun _ h => h) fun _ h => h).trans hs3 (fun _ h => h) fun r e => by subst e; exact ⟨by simp, rfl⟩).trans hst (fun _ h => h) fun r e => by subst e; exact ⟨by simp, rfl⟩⟩
          · rw [get_set_eq ho3.1]; simp [cIos]
          · simp only [List.length_append, List.length_singleton]; exact hT3.stp hst (by intro e; injection e; omega)
          · intro k x hx
            rcases Nat.lt_or_ge k p.its.length with hk | hk
            · rw [List.getElem?_append_left hk] at hx
              obtain ⟨i, b1, b2, b3⟩ := h5' k x hx
              obtain ⟨d1, d2⟩ := hs3.get b2 (by rw [b3]; intro e; injection e; omega)
              obtain ⟨f1, f2⟩ := hst.get d1 (by rw [d2, b3]; intro e; injection e; omega)
              exact ⟨i, by rw [List.getElem?_append_left (by omega)]; exact b1, f1, d2.trans b3⟩
            · have hkl := lt_at hx
              rw [List.length_append, List.length_singleton] at hkl
              obtain rfl : k = p.its.length := by omega
              rw [List.getElem?_append_right (Nat.le_refl _), Nat.sub_self] at hx
              cases hx
              obtain ⟨d1, d2⟩ := hs3.get hni (by rw [hnl]; intro e; injection e; omega)
              obtain ⟨f1, f2⟩ := hst.get d1 (by rw [d2, hnl]; intro e; injection e; omega)
              exact ⟨σ1.length, by rw [← h4]; simp, f1, d2.trans hnl⟩
        · have hfr : (p.its.getD (p.its.length - 1) it0).fr = true := by rcases hgo with h | h; exact absurd h h0; exact h
          obtain ⟨x, hx⟩ := at_lt (l := p.its) (k := p.its.length - 1) (by omega)
          obtain ⟨i, b1, b2, b3⟩ := h5 _ _ hx
          have hi : (cIos ios)[p.its.length - 1]? = some (.ref i 0 0) := by unfold cIos; rw [List.getElem?_map, b1]; rfl
          have hm1 : ((p.its.length : Int) - 1).toNat = p.its.length - 1 := by omega
          have hg : p.its.getD (p.its.length - 1) it0 = x := by rw [List.getD_eq_getElem?_getD, hx]; rfl
          rw [hg] at hfr
          have c3 : (aIt x)[3]? = some (.v (.bool true)) := by rw [← hfr]; rfl
          have h0' : (0 : Int) < (p.its.length : Int) := by omega
          simp (maxSteps := 1000000) (implicitDefEqProofs := false) (disch := omega) only [push_cast, ↓reduceIte, Nat.reduceEqDiff, reduceCtorEq, wz, hbx, h1, g2, g3, he1, he3, aInt, hi, hm1, b2, c3, h0', fillA]
          refine wpa_box ?_
          rw [show (AV.agg [AV.v (Value.int IntKind.i64 0), AV.v (Value.bool false), AV.v (Value.bool false), AV.v (Value.bool false), AV.v (Value.bool false)]).cells = aIt it0 from rfl]
          simp (maxSteps := 1000000) (implicitDefEqProofs := false) (disch := omega) only [push_cast, ↓reduceIte, Nat.reduceEqDiff, reduceCtorEq, wz]
          refine wpa_bsl (sz := 1) (by intro a ha; simp at ha; subst ha; rfl) (by simp) ?_
          simp (maxSteps := 1000000) (implicitDefEqProofs := false) (disch := omega) only [push_cast, ↓reduceIte, Nat.reduceEqDiff, reduceCtorEq, wz]
          have hs2 : Stp (isJ j) σ1 lab1 (σ1 ++ [Res.obj 0 (aIt it0)]) (labN σ1 lab1 (3 + p.its.length, j)) := stp_new _
          have hnl := labN_self σ1 lab1 (3 + p.its.length, j)
          have hni : (σ1 ++ [Res.obj 0 (aIt it0)])[σ1.length]? = some (.obj 0 (aIt it0)) := at_snoc _ _
          have hT2 := h3.stp (stp_new (x := .obj 0 (aIt it0)) (S := fun _ => False) (3 + p.its.length, j)) id
          have hs0 : Stp (fun _ => False) σ1 lab1 (σ1 ++ [Res.obj 0 (aIt it0)]) (labN σ1 lab1 (3 + p.its.length, j)) := stp_new _
          have h1' := hs0.get h1 id
          have h5' : ∀ (k : Nat) (x : It), p.its[k]? = some x → ∃ i, ios[k]? = some i ∧ (σ1 ++ [Res.obj 0 (aIt it0)])[i]? = some (.obj 0 (aIt x)) ∧ labN σ1 lab1 (3 + p.its.length, j) i = (3 + k, j) := fun k x hx => by
            obtain ⟨i, b1, b2, b3⟩ := h5 k x hx
            obtain ⟨d1, d2⟩ := hs0.get b2 id
            exact ⟨i, b1, d1, d2.trans b3⟩
          rw [h2] at h1'
          generalize σ1 ++ [Res.obj 0 (aIt it0)] = σ2 at hs2 hni hT2 h1' h5' ⊢
          generalize labN σ1 lab1 (3 + p.its.length, j) = lab2 at hs2 hnl hT2 h1' h5'
          refine wpa_app_t (m := 1) rfl hT2 rfl rfl rfl (by simp [cIos, h4]) (by omega) (by omega) ?_
          intro σ3 lab3 t3 hs3 hT3
          have ho3 := hs3.get h1'.1 (by rw [h1'.2]; intro e; injection e; omega)
          simp (maxSteps := 1000000) (implicitDefEqProofs := false) (disch := omega) only [push_cast, ↓reduceIte, Nat.reduceEqDiff, reduceCtorEq, wz]
          refine wpa_st1 rfl rfl ho3.1 (by simp) ?_
          have hlo3 : lab3 o = (1, j) := ho3.2.trans h1'.2
          have hst := stp_set (σ := σ3) (x := .obj 0 [.sl (p.its.length + 1) (cIos ios ++ [.ref σ1.length 0 0]) t3, .v (.bool p.en)]) hlo3
          simp (maxSteps := 1000000) (implicitDefEqProofs := false) (disch := omega) only [push_cast, ↓reduceIte, Nat.reduceEqDiff, reduceCtorEq, wz]
          refine ⟨lab3, ⟨ios ++ [σ1.length], t3, ?_, hlo3, ?_, by simp [h4], ?_⟩, ((hS.trans hs2 (fun _ h => h) fun _ h => h).trans hs3 (fun _ h => h) fun r e => by subst e; exact ⟨by simp, rfl⟩).trans hst (fun _ h => h) fun r e => by subst e; exact ⟨by simp, rfl⟩⟩
          · rw [get_set_eq ho3.1]; simp [cIos]
          · simp only [List.length_append, List.length_singleton]; exact hT3.stp hst (by intro e; injection e; omega)
          · intro k x hx
            rcases Nat.lt_or_ge k p.its.length with hk | hk
            · rw [List.getElem?_append_left hk] at hx
              obtain ⟨i, b1, b2, b3⟩ := h5' k x hx
              obtain ⟨d1, d2⟩ := hs3.get b2 (by rw [b3]; intro e; injection e; omega)
              obtain ⟨f1, f2⟩ := hst.get d1 (by rw [d2, b3]; intro e; injection e; omega)
              exact ⟨i, by rw [List.getElem?_append_left (by omega)]; exact b1, f1, d2.trans b3⟩
            · have hkl := lt_at hx
              rw [List.length_append, List.length_singleton] at hkl
              obtain rfl : k = p.its.length := by omega
              rw [List.getElem?_append_right (Nat.le_refl _), Nat.sub_self] at hx
              cases hx
              obtain ⟨d1, d2⟩ := hs3.get hni (by rw [hnl]; intro e; injection e; omega)
              obtain ⟨f1, f2⟩ := hst.get d1 (by rw [d2, hnl]; intro e; injection e; omega)
              exact ⟨σ1.length, by rw [← h4]; simp, f1, d2.trans hnl⟩
    · rw [show startT p e = (p, 4) by unfold startT; rw [if_pos (.inr he3)]]
      simp (maxSteps := 1000000) (implicitDefEqProofs := false) (disch := omega) only [push_cast, ↓reduceIte, Nat.reduceEqDiff, reduceCtorEq, wz, hbx, h1, g2, g3, he1, he3, aInt]
      exact ⟨_, hko, hS⟩
  · rw [show startT p e = (p, 4) by unfold startT; rw [if_pos (.inl he1)]]
    simp (maxSteps := 1000000) (implicitDefEqProofs := false) (disch := omega) only [push_cast, ↓reduceIte, Nat.reduceEqDiff, reduceCtorEq, wz, hbx, h1, g2, he1, aInt]
    exact ⟨_, hko, hS⟩
theorem LpAt.upd {σ : Kx.St} {lab : Nat → Role} {j o : Nat} {p : Lp} {ios : List Nat} {T : Tok} (b : Res) (h1 : σ[o]? = some (.obj 0 [.sl p.its.length (cIos ios) T, .v (.bool p.en)])) (h2 : lab o = (1, j)) (h3 : TokOk σ lab (2, j) T p.its.length 1) (h4 : ios.length = p.its.length)
    (h5 : ∀ (k : Nat) (x : It), p.its[k]? = some x → ∃ i, ios[k]? = some i ∧ σ[i]? = some (.obj 0 (aIt x)) ∧ lab i = (3 + k, j)) {k i : Nat} {x y : It} (hx : p.its[k]? = some x) (hi : ios[k]? = some i) :
    LpAt ((σ ++ [b]).set i (.obj 0 (aIt y))) (labN σ lab (0, 0)) j o ⟨p.its.set k y, p.en⟩ ∧ Stp (isJ j) σ lab ((σ ++ [b]).set i (.obj 0 (aIt y))) (labN σ lab (0, 0)) := by
  have hs0 : Stp (fun _ => False) σ lab (σ ++ [b]) (labN σ lab (0, 0)) := stp_new _
  obtain ⟨c1, c2⟩ := hs0.get h1 id
  have := LpAt.setIt (y := y) c1 (c2.trans h2) (h3.stp hs0 id) h4 (fun k x hx => by
    obtain ⟨i, b1, b2, b3⟩ := h5 k x hx
    obtain ⟨d1, d2⟩ := hs0.get b2 id
    exact ⟨i, b1, d1, d2.trans b3⟩) hx hi
  exact ⟨this.1, hs0.trans this.2 (fun _ h => h.elim) fun _ h => h⟩
theorem set_self' {p : Lp} {k : Nat} {x : It} (hx : p.its[k]? = some x) : (⟨p.its.set k x, p.en⟩ : Lp) = p := by
  obtain ⟨h1, h2⟩ := List.getElem?_eq_some_iff.1 hx
  rw [← h2, List.set_getElem_self]
set_option maxHeartbeats 4000000 in
theorem event_a {σ : Kx.St} {lab : Nat → Role} {j o : Nat} {p : Lp} (h : LpAt σ lab j o p) (hl : p.its.length ≤ 1000000) (e : Ev) :
    FnG Try.prog 51 [.ref o 0 0, .agg (aEv e)] σ fun a σ' => a = aInt (eventT p e).2 ∧ ∃ lab', LpAt σ' lab' j o (eventT p e).1 ∧ Stp (isJ j) σ lab σ' lab' := by
  have hH := h.stp (stp_new (x := .obj 0 (aEv e)) (S := fun _ => False) (0, 0)) fun _ _ => id
  have hS : Stp (isJ j) σ lab (σ ++ [Res.obj 0 (aEv e)]) (labN σ lab (0, 0)) := stp_new _
  have hko := hH
  refine fnG_in K_trace_loop_event mixed rfl ?_
  simp only [S_trace_loop_event]
  have hcl : (AV.agg (aEv e)).cells = aEv e := rfl
  have g0 : (aEv e)[0]? = some (.v (.int .i64 e.k)) := rfl
  have g2 : (aEv e)[2]? = some (.v (.int .i64 e.it)) := rfl
  have g3 : (aEv e)[3]? = some (.v (.int .i64 e.st)) := rfl
  simp (maxSteps := 1000000) (implicitDefEqProofs := false) (disch := omega) only [push_cast, ↓reduceIte, Nat.reduceEqDiff, reduceCtorEq, wz]
  refine wpa_box ?_
  have hbx : (σ ++ [Res.obj 0 (aEv e)])[σ.length]? = some (.obj 0 (aEv e)) := at_snoc _ _
  rw [hcl]
  generalize σ ++ [Res.obj 0 (aEv e)] = σ1 at hH hS hko hbx ⊢
  generalize labN σ lab (0, 0) = lab1 at hH hS hko
  obtain ⟨ios, T, h1, h2, h3, h4, h5⟩ := hH
  cases hen : p.en with
  | true =>
    rw [show eventT p e = (p, 8) by unfold eventT; rw [if_pos hen]]
    rw [hen] at h1
    simp (maxSteps := 1000000) (implicitDefEqProofs := false) (disch := omega) only [push_cast, ↓reduceIte, Nat.reduceEqDiff, reduceCtorEq, wz, hbx, h1, aInt]
    exact ⟨_, hko, hS⟩
  | false =>
  have h1e := h1
  rw [hen] at h1e
  by_cases hk1 : e.k = 1
  · rw [show eventT p e = startT p e by unfold eventT; rw [if_neg (by simp [hen]), if_pos hk1]]
    simp (maxSteps := 1000000) (implicitDefEqProofs := false) (disch := omega) only [push_cast, ↓reduceIte, Nat.reduceEqDiff, reduceCtorEq, wz, hbx, h1e, g0, hk1, cells4]
    refine wpa_callG (start_a hko hl e) ?_
    rintro a σ' ⟨rfl, lab', hk, hs⟩
    simp (maxSteps := 1000000) (implicitDefEqProofs := false) (disch := omega) only [push_cast, ↓reduceIte, Nat.reduceEqDiff, reduceCtorEq, wz]
    exact ⟨lab', hk, hS.trans hs (fun _ h => h) fun _ h => h⟩
  by_cases hk5 : e.k = 5
  · rw [show eventT p e = endT p e by unfold eventT; rw [if_neg (by simp [hen]), if_neg hk1, if_pos hk5]]
    simp (maxSteps := 1000000) (implicitDefEqProofs := false) (disch := omega) only [push_cast, ↓reduceIte, Nat.reduceEqDiff, reduceCtorEq, wz, hbx, h1e, g0, hk1, hk5, cells4]
    refine wpa_callG (end_a hko hl e) ?_
    rintro a σ' ⟨rfl, lab', hk, hs⟩
    simp (maxSteps := 1000000) (implicitDefEqProofs := false) (disch := omega) only [push_cast, ↓reduceIte, Nat.reduceEqDiff, reduceCtorEq, wz]
    exact ⟨lab', hk, hS.trans hs (fun _ h => h) fun _ h => h⟩
  by_cases hi0 : e.it < 0
  · rw [show eventT p e = (p, 7) by unfold eventT; rw [if_neg (by simp [hen]), if_neg hk1, if_neg hk5, if_pos (.inl hi0)]]
    simp (maxSteps := 1000000) (implicitDefEqProofs := false) (disch := omega) only [push_cast, ↓reduceIte, Nat.reduceEqDiff, reduceCtorEq, wz, hbx, h1e, g0, g2, hk1, hk5, hi0, aInt]
    exact ⟨_, hko, hS⟩
  by_cases hin : (p.its.length : Int) ≤ e.it
  · rw [show eventT p e = (p, 7) by unfold eventT; rw [if_neg (by simp [hen]), if_neg hk1, if_neg hk5, if_pos (.inr hin)]]
    simp (maxSteps := 1000000) (implicitDefEqProofs := false) (disch := omega) only [push_cast, ↓reduceIte, Nat.reduceEqDiff, reduceCtorEq, wz, hbx, h1e, g0, g2, hk1, hk5, hi0, hin, aInt]
    exact ⟨_, hko, hS⟩
  obtain ⟨n, hn⟩ : ∃ n : Nat, e.it = n := ⟨e.it.toNat, by omega⟩
  have hnt : e.it.toNat = n := by omega
  obtain ⟨x, hx⟩ := at_lt (l := p.its) (k := n) (by omega)
  have hg : p.its.getD n it0 = x := by rw [List.getD_eq_getElem?_getD, hx]; rfl
  have hev : eventT p e = (⟨p.its.set n (iterT p.its x n e).1, p.en⟩, (iterT p.its x n e).2) := by
    unfold eventT
    rw [if_neg (by simp [hen]), if_neg hk1, if_neg hk5, if_neg (by rintro (h | h) <;> omega), hnt, hg]
  rw [hev]
  obtain ⟨i, b1, b2, b3⟩ := h5 _ _ hx
  have hi : (cIos ios)[n]? = some (.ref i 0 0) := by unfold cIos; rw [List.getElem?_map, b1]; rfl
  have hlt := lt_at hx
  have c0 : (aIt x)[0]? = some (.v (.int .i64 x.st)) := rfl
  have c2 : (aIt x)[2]? = some (.v (.bool x.bg)) := rfl
  have c4 : (aIt x)[4]? = some (.v (.bool x.fn)) := rfl
  have hsx := set_self' hx
  rw [hn] at g2
  cases hfn : x.fn with
  | true =>
    rw [hfn] at c4
    rw [show iterT p.its x n e = (x, 10) by unfold iterT; rw [if_pos hfn], hsx]
    simp (maxSteps := 1000000) (implicitDefEqProofs := false) (disch := omega) only [push_cast, ↓reduceIte, Nat.reduceEqDiff, reduceCtorEq, wz, hbx, h1e, g0, g2, hk1, hk5, aInt, hi, b2, c4]
    exact ⟨_, hko, hS⟩
  | false =>
  rw [hfn] at c4
  by_cases hk2 : e.k = 2
  · rw [show iterT p.its x n e = beginT p.its x n e by unfold iterT; rw [if_neg (by simp [hfn]), if_pos hk2]]
    simp (maxSteps := 1000000) (implicitDefEqProofs := false) (disch := omega) only [push_cast, ↓reduceIte, Nat.reduceEqDiff, reduceCtorEq, wz, hbx, h1e, g0, g2, hk1, hk5, hk2, aInt, hi, b2, c4, cells4]
    refine wpa_callG (begin_a hko hl hx b2 e hn) ?_
    rintro a σ' ⟨rfl, b, rfl⟩
    simp (maxSteps := 1000000) (implicitDefEqProofs := false) (disch := omega) only [push_cast, ↓reduceIte, Nat.reduceEqDiff, reduceCtorEq, wz, aInt]
    obtain ⟨k1, k2⟩ := LpAt.upd (y := (beginT p.its x n e).1) b h1 h2 h3 h4 h5 hx b1
    exact ⟨_, k1, hS.trans k2 (fun _ h => h) fun _ h => h⟩
  by_cases hk4 : e.k = 4
  · rw [show iterT p.its x n e = finT x e by unfold iterT; rw [if_neg (by simp [hfn]), if_neg hk2, if_neg (by simp [hk4])]]
    cases hbg : x.bg with
    | false =>
      rw [hbg] at c2
      rw [show finT x e = (x, 4) by unfold finT; rw [if_pos (.inl hbg)], hsx]
      simp (maxSteps := 1000000) (implicitDefEqProofs := false) (disch := omega) only [push_cast, ↓reduceIte, Nat.reduceEqDiff, reduceCtorEq, wz, hbx, h1e, g0, g2, hk1, hk5, hk2, hk4, aInt, hi, b2, c2, c4]
      exact ⟨_, hko, hS⟩
    | true =>
      rw [hbg] at c2
      by_cases hst : e.st = x.st
      · rw [show finT x e = (⟨x.st, x.wt, x.bg, true, true⟩, 0) by unfold finT; rw [if_neg (by simp [hbg, hst])]]
        simp (maxSteps := 1000000) (implicitDefEqProofs := false) (disch := omega) only [push_cast, ↓reduceIte, Nat.reduceEqDiff, reduceCtorEq, wz, hbx, h1e, g0, g2, g3, hk1, hk5, hk2, hk4, aInt, hi, b2, c0, c2, c4, hst]
        refine wpa_st1 rfl rfl b2 (by simp [aIt]) ?_
        simp (maxSteps := 1000000) (implicitDefEqProofs := false) (disch := omega) only [push_cast, ↓reduceIte, Nat.reduceEqDiff, reduceCtorEq, wz]
        refine wpa_st1 rfl rfl (get_set_eq b2) (by simp [aIt]) ?_
        simp (maxSteps := 1000000) (implicitDefEqProofs := false) (disch := omega) only [push_cast, ↓reduceIte, Nat.reduceEqDiff, reduceCtorEq, wz, List.set_set]
        obtain ⟨k1, k2⟩ := LpAt.setIt (y := ⟨x.st, x.wt, x.bg, true, true⟩) h1 h2 h3 h4 h5 hx b1
        exact ⟨_, k1, hS.trans k2 (fun _ h => h) fun _ h => h⟩
      · rw [show finT x e = (x, 4) by unfold finT; rw [if_pos (.inr hst)], hsx]
        simp (maxSteps := 1000000) (implicitDefEqProofs := false) (disch := omega) only [push_cast, ↓reduceIte, Nat.reduceEqDiff, reduceCtorEq, wz, hbx, h1e, g0, g2, g3, hk1, hk5, hk2, hk4, aInt, hi, b2, c0, c2, c4, hst]
        exact ⟨_, hko, hS⟩
  · rw [show iterT p.its x n e = goOnT x e by unfold iterT; rw [if_neg (by simp [hfn]), if_neg hk2, if_pos hk4]]
    simp (maxSteps := 1000000) (implicitDefEqProofs := false) (disch := omega) only [push_cast, ↓reduceIte, Nat.reduceEqDiff, reduceCtorEq, wz, hbx, h1e, g0, g2, hk1, hk5, hk2, hk4, aInt, hi, b2, c4, cells4]
    refine wpa_callG (goOn_a b2 e) ?_
    rintro a σ' ⟨rfl, b, rfl⟩
    simp (maxSteps := 1000000) (implicitDefEqProofs := false) (disch := omega) only [push_cast, ↓reduceIte, Nat.reduceEqDiff, reduceCtorEq, wz, aInt]
    obtain ⟨k1, k2⟩ := LpAt.upd (y := (goOnT x e).1) b h1 h2 h3 h4 h5 hx b1
    exact ⟨_, k1, hS.trans k2 (fun _ h => h) fun _ h => h⟩
end Go.Proofs.Ythgmfjkbgacfaaa
