/- Tidy, for seat r6: what tools/mkpr.py left out of the Tidy texts. -/
import Derived.Test.YtncdnegdlkmicaaPra
import Derived.Test.YtncdnegdlkmicaaCTidy
namespace Go.Proofs.Ytncdnegdlkmicaa
set_option linter.unusedVariables false
set_option linter.unusedSimpArgs false
open Go Go.Kx Go.Proofs

theorem map18 {f : Nat → Nat} {x : Ix} (h : x.op = 18) : mapX f x = { x with a := (f x.a.toNat : Nat) } := by
  unfold mapX; rw [tgt_jump h]; simp only; unfold wthX; rw [if_pos h]
theorem map19 {f : Nat → Nat} {x : Ix} (h1 : ¬ x.op = 18) (h : x.op = 19) : mapX f x = { x with b := (f x.b.toNat : Nat) } := by
  unfold mapX; rw [show tgtX x = some x.b by unfold tgtX; rw [if_neg h1, if_pos h]]; simp only; unfold wthX; rw [if_neg h1, if_pos h]
theorem map0 {f : Nat → Nat} {x : Ix} (h1 : ¬ x.op = 18) (h : ¬ x.op = 19) : mapX f x = x := by
  unfold mapX; rw [show tgtX x = none by unfold tgtX; rw [if_neg h1, if_neg h]]


theorem eqsIx (n : Bool) (x y : Ix) : PF.av (.eqs n [.int .i64, .int .i64, .int .i64, .int .i64]) [.agg (aIx x), .agg (aIx y)] = some (.v (.bool (n != decide (x = y)))) := by
  show ((PF.val (.eqs n [.int .i64, .int .i64, .int .i64, .int .i64]) [.agg [.int .i64 x.op, .int .i64 x.a, .int .i64 x.b, .int .i64 x.c].toArray, .agg [.int .i64 y.op, .int .i64 y.a, .int .i64 y.b, .int .i64 y.c].toArray]).map AV.v) = _
  obtain ⟨p, a, b, c⟩ := x
  obtain ⟨p', a', b', c'⟩ := y
  have h : (decide ((⟨p, a, b, c⟩ : Ix) = ⟨p', a', b', c'⟩)) = (decide (p = p') && (decide (a = a') && (decide (b = b') && decide (c = c')))) := by rw [Bool.eq_iff_iff]; simp
  rw [h]
  simp only [PF.val, eqCs, eqC]
  have k (u v : Int) : (u == v) = decide (u = v) := by rw [Bool.eq_iff_iff]; simp
  simp only [k]
  by_cases h1 : p = p' <;> by_cases h2 : a = a' <;> by_cases h3 : b = b' <;> by_cases h4 : c = c' <;> cases n <;> simp [h1, h2, h3, h4]
set_option maxHeartbeats 8000000 in
theorem ref04_Same_a (m : Int) (fs : List (List Ix)) (hf : okF fs) : FnP Try.prog 30 [.agg (aPr m fs), .agg (aPr m fs)] fun a => a = aBool true := by
  refine fnP_in K_forebayref04_Same mixed rfl (by simp [AV.pureL, AV.pure, aPr_pure]) ?_
  simp only [S_forebayref04_Same]
  obtain ⟨hf1, hf2⟩ := hf
  have hac : (AV.agg (aPr m fs)).cells = aPr m fs := rfl
  have g0 : (aPr m fs)[0]? = some (.v (.int .i64 m)) := rfl
  have g1 : (aPr m fs)[1]? = some (.sl fs.length (fs.map aIxs) .none) := rfl
  simp (maxSteps := 1000000) (implicitDefEqProofs := false) (disch := omega) only [push_cast, ↓reduceIte, Nat.reduceEqDiff, reduceCtorEq, wz]
  refine wpa_box ?_
  simp (maxSteps := 1000000) (implicitDefEqProofs := false) (disch := omega) only [push_cast, ↓reduceIte, Nat.reduceEqDiff, reduceCtorEq, wz]
  refine wpa_box ?_
  simp (maxSteps := 1000000) (implicitDefEqProofs := false) (disch := omega) only [push_cast, ↓reduceIte, Nat.reduceEqDiff, reduceCtorEq, wz, hac, g0, g1]
  refine wpa_bl (α := Nat) (I := fun k ε σ => (ε 2 = .ref 0 0 0 ∧ ε 3 = .ref 1 0 0 ∧ ε 5 = .v (.int .i64 k)) ∧ k ≤ fs.length ∧ σ = [.obj 0 (aPr m fs), .obj 0 (aPr m fs)])
    (μ := fun k => fs.length - k) (Q := fun ε σ => True) (x := 0) ?_ ?_ ?_
  · simp (maxSteps := 1000000) (implicitDefEqProofs := false) (disch := omega) only [push_cast, ↓reduceIte, Nat.reduceEqDiff, reduceCtorEq, wz]
    omega
  · rintro k ε σ N E ⟨hρ, hk, rfl⟩ hN hE
    simp only [S_forebayref04_Same_L1]
    by_cases hlt : k < fs.length
    · obtain ⟨l, hl⟩ := at_lt hlt
      have hll := hf2 l (List.mem_of_getElem? hl)
      have hIL : aIxs l = .sl l.length (l.flatMap aIx) .none := rfl
      simp (maxSteps := 1000000) (implicitDefEqProofs := false) (disch := omega) only [push_cast, ↓reduceIte, Nat.reduceEqDiff, reduceCtorEq, wz, hρ, g1, hl, hIL]
      refine wpa_bl (α := Nat) (I := fun j ε σ => (ε 2 = .ref 0 0 0 ∧ ε 3 = .ref 1 0 0 ∧ ε 5 = .v (.int .i64 k) ∧ ε 6 = .v (.int .i64 j)) ∧ j ≤ l.length ∧ σ = [.obj 0 (aPr m fs), .obj 0 (aPr m fs)])
        (μ := fun j => l.length - j) (Q := fun ε σ => (ε 2 = .ref 0 0 0 ∧ ε 3 = .ref 1 0 0 ∧ ε 5 = .v (.int .i64 k)) ∧ σ = [.obj 0 (aPr m fs), .obj 0 (aPr m fs)]) (x := 0) ?_ ?_ ?_
      · simp (maxSteps := 1000000) (implicitDefEqProofs := false) (disch := omega) only [push_cast, ↓reduceIte, Nat.reduceEqDiff, reduceCtorEq, wz, hρ]
        omega
      · rintro j ε σ N E ⟨hρ, hj, rfl⟩ hN hE
        simp only [S_forebayref04_Same_L2]
        by_cases hlj : j < l.length
        · obtain ⟨x, hx⟩ := at_lt hlj
          have hd := flat_drop aIx_len hx
          have hq := eqsIx true x x
          rw [show (true != decide (x = x)) = false by simp] at hq
          simp (maxSteps := 1000000) (implicitDefEqProofs := false) (disch := omega) only [push_cast, ↓reduceIte, Nat.reduceEqDiff, reduceCtorEq, wz, hρ, g1, hl, hIL, hd, cellsIx, hq]
          exact hN (j + 1) _ _ ⟨by simp (maxSteps := 1000000) (implicitDefEqProofs := false) (disch := omega) only [push_cast, ↓reduceIte, Nat.reduceEqDiff, reduceCtorEq, wz, hρ], by omega, rfl⟩ (by omega)
        · simp (maxSteps := 1000000) (implicitDefEqProofs := false) (disch := omega) only [push_cast, ↓reduceIte, Nat.reduceEqDiff, reduceCtorEq, wz, hρ, g1, hl, hIL]
          exact hE _ _ ⟨by simp (maxSteps := 1000000) (implicitDefEqProofs := false) (disch := omega) only [push_cast, ↓reduceIte, Nat.reduceEqDiff, reduceCtorEq, wz, hρ], rfl⟩
      · rintro ε σ ⟨hρ, rfl⟩
        simp (maxSteps := 1000000) (implicitDefEqProofs := false) (disch := omega) only [push_cast, ↓reduceIte, Nat.reduceEqDiff, reduceCtorEq, wz, hρ]
        exact hN (k + 1) _ _ ⟨by simp (maxSteps := 1000000) (implicitDefEqProofs := false) (disch := omega) only [push_cast, ↓reduceIte, Nat.reduceEqDiff, reduceCtorEq, wz, hρ], by omega, rfl⟩ (by omega)
    · simp (maxSteps := 1000000) (implicitDefEqProofs := false) (disch := omega) only [push_cast, ↓reduceIte, Nat.reduceEqDiff, reduceCtorEq, wz, hρ, g1]
      exact hE _ _ trivial
  · rintro ε σ -
    simp (maxSteps := 1000000) (implicitDefEqProofs := false) (disch := omega) only [push_cast, ↓reduceIte, Nat.reduceEqDiff, reduceCtorEq, wz]
    exact ⟨[], rfl, rfl⟩
/-- An instruction with a target led to another place stays right. -/
theorem ins_map {x : Ix} {f : Nat → Nat} {code' funcs : Int} {code : Int} (h : insE x = 0) (hl : leadB x code funcs = true) (ht : ∀ t, tgtX x = some t → ((f t.toNat : Nat) : Int) < code') (hc : code' ≤ 200) :
    insE (mapX f x) = 0 ∧ leadB (mapX f x) code' funcs = true := by
  have hop := insE_op h
  obtain ⟨hf1, hf2⟩ := insE_fit h
  by_cases c1 : x.op = 18
  · have hh := ht x.a (tgt_jump c1)
    rw [map18 c1]
    refine ⟨?_, by unfold leadB; simp only; rw [if_pos c1]; simpa using hh⟩
    unfold insE
    have hL : letX { x with a := ((f x.a.toNat : Nat) : Int) } = [116] := let18 c1
    rw [let18 c1] at hf2
    rw [if_neg (by simp only; omega), hL, if_pos, if_pos]
    · exact hf2
    · simp only [opsX, List.zip_cons_cons, List.zip_nil_left, List.all_cons, List.all_nil, Bool.and_true, fit_t, decide_eq_true_eq]
      omega
  by_cases c2 : x.op = 19
  · have hh := ht x.b (by unfold tgtX; rw [if_neg c1, if_pos c2])
    rw [map19 c1 c2]
    refine ⟨?_, by unfold leadB; simp only; rw [if_neg c1, if_pos c2]; simpa using hh⟩
    unfold insE
    have hL : letX { x with b := ((f x.b.toNat : Nat) : Int) } = [114, 116] := let19 c2
    rw [let19 c2] at hf1 hf2
    rw [if_neg (by simp only; omega), hL, if_pos, if_pos]
    · exact hf2
    · simp only [opsX, List.zip_cons_cons, List.zip_nil_left, List.all_cons, List.all_nil, Bool.and_true, fit_t, decide_eq_true_eq, Bool.and_eq_true] at hf1 ⊢
      exact ⟨hf1.1, by omega⟩
  rw [map0 c1 c2]
  refine ⟨h, ?_⟩
  unfold leadB at hl ⊢
  rw [if_neg c1, if_neg c2] at hl ⊢
  exact hl
theorem led_fo {l : List Ix} {funcs : Int} (h : Fo l funcs) : Fo (ledL l) funcs := by
  have hle := h.le
  refine ⟨led_rt h.rt, by rw [led_len]; exact hle, fun x hx => ?_⟩
  unfold ledL at hx
  obtain ⟨y, hy, rfl⟩ := List.mem_map.1 hx
  obtain ⟨i, hi⟩ := List.getElem?_of_mem hy
  obtain ⟨a1, a2⟩ := h.al y hy
  rw [led_len]
  refine ins_map a1 a2 (fun t ht => ?_) (by omega)
  have := h.rt.tg i y t hi ht
  have := lead_lt h.rt (t := t.toNat) (by omega)
  omega
theorem rnd_fo {l : List Ix} {funcs : Int} (h : Fo l funcs) : Fo (rnd l) funcs := by
  have hm := led_fo h
  have hle := hm.le
  have hlen : (rnd l).length = cnt (ledL l) (ledL l).length := by simp [rnd, rndM, cnt]
  have hcl := cnt_le (ledL l) (ledL l).length
  refine ⟨rnd_Rt h.rt, by omega, fun x hx => ?_⟩
  unfold rnd rndM at hx
  obtain ⟨y, hy, rfl⟩ := List.mem_map.1 hx
  obtain ⟨k, hk⟩ := List.getElem?_of_mem hy
  obtain ⟨i, h1, h2, h3, h4⟩ := kN_at _ _ _ (Nat.le_refl _) hk
  obtain ⟨a1, a2⟩ := hm.al y (List.mem_of_getElem? h3)
  refine ins_map a1 a2 (fun t ht => ?_) (by omega)
  obtain ⟨j, g1, g2, g3⟩ := stays hm.rt _ _ rfl ((kp_rc hm.rt h2).tgt h3 ht)
  have := cnt_mono (ledL l) g1
  have := cnt_lt g3 g2 g2
  omega
theorem fixN_fo {funcs : Int} : ∀ (n : Nat) {l : List Ix}, Fo l funcs → Fo (fixN n l) funcs := by
  intro n
  induction n with
  | zero => intro l h; exact h
  | succ n ih =>
    intro l h
    simp only [fixN]
    split
    · exact h
    · exact ih (rnd_fo h)
theorem fixR_fo {l : List Ix} {funcs : Int} (h : Fo l funcs) : Fo (fixR l) funcs := fixN_fo _ h
def dropS (fs : List (List Ix)) : Nat := (fs.map fun l => l.length - (fixR l).length).sum
theorem dropS_succ {fs : List (List Ix)} {k : Nat} {l : List Ix} (h : fs[k]? = some l) : dropS (fs.take (k + 1)) = dropS (fs.take k) + (l.length - (fixR l).length) := by
  unfold dropS
  rw [take_succ_at h, List.map_append, List.sum_append]
  simp
theorem dropS_le {fs : List (List Ix)} (h : ∀ l ∈ fs, l.length ≤ 300) : ∀ k, k ≤ fs.length → dropS (fs.take k) ≤ 300 * k := by
  intro k
  induction k with
  | zero => intro _; simp [dropS]
  | succ k ih =>
    intro hk
    obtain ⟨l, hl⟩ := at_lt (l := fs) (k := k) (by omega)
    have := h l (List.mem_of_getElem? hl)
    have := ih (by omega)
    rw [dropS_succ hl]
    omega
end Go.Proofs.Ytncdnegdlkmicaa
