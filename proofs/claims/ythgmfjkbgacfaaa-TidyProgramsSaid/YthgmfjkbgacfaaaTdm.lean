/- Tidy: the document's target, with, ends, Useless, Reached: the walks. -/
import Derived.Test.YthgmfjkbgacfaaaTdl
namespace Go.Proofs.Ythgmfjkbgacfaaa
set_option linter.unusedVariables false
set_option linter.unusedSimpArgs false
open Go Go.Kx Go.Proofs

def tgI (x : Ix) : Int := match tgtX x with | some t => t | none => -1
theorem tgI18 {x : Ix} (h : x.op = 18) : tgI x = x.a := by unfold tgI; rw [tgt_jump h]
theorem tgI19 {x : Ix} (h1 : ¬ x.op = 18) (h : x.op = 19) : tgI x = x.b := by unfold tgI; rw [show tgtX x = some x.b by unfold tgtX; rw [if_neg h1, if_pos h]]
theorem tgI0 {x : Ix} (h1 : ¬ x.op = 18) (h : ¬ x.op = 19) : tgI x = -1 := by unfold tgI; rw [show tgtX x = none by unfold tgtX; rw [if_neg h1, if_neg h]]
theorem ref42_target_a (x : Ix) : FnP Try.prog 96 [.agg (aIx x)] fun a => a = aInt (tgI x) := by
  refine fnP_in K_forebayref42_target mixed rfl (by simp [AV.pureL, AV.pure, aIx_pure]) ?_
  simp only [S_forebayref42_target]
  have hac : (AV.agg (aIx x)).cells = aIx x := rfl
  simp (maxSteps := 1000000) (implicitDefEqProofs := false) (disch := omega) only [push_cast, ↓reduceIte, Nat.reduceEqDiff, reduceCtorEq, wz]
  refine wpa_box ?_
  by_cases c1 : x.op = 18
  · rw [tgI18 c1]
    simp (maxSteps := 1000000) (implicitDefEqProofs := false) (disch := omega) only [push_cast, ↓reduceIte, Nat.reduceEqDiff, reduceCtorEq, wz, hac, ix0, ix1, ix2, c1]
    first | exact ⟨[], rfl, rfl⟩ | exact ⟨[], rfl⟩
  by_cases c2 : x.op = 19
  · rw [tgI19 c1 c2]
    simp (maxSteps := 1000000) (implicitDefEqProofs := false) (disch := omega) only [push_cast, ↓reduceIte, Nat.reduceEqDiff, reduceCtorEq, wz, hac, ix0, ix1, ix2, c1, c2]
    first | exact ⟨[], rfl, rfl⟩ | exact ⟨[], rfl⟩
  rw [tgI0 c1 c2]
  simp (maxSteps := 1000000) (implicitDefEqProofs := false) (disch := omega) only [push_cast, ↓reduceIte, Nat.reduceEqDiff, reduceCtorEq, wz, hac, ix0, ix1, ix2, c1, c2]
  first | exact ⟨[], rfl, rfl⟩ | exact ⟨[], rfl⟩
theorem ref42_ends_a (x : Ix) : FnP Try.prog 118 [.agg (aIx x)] fun a => a = aBool (endsX x) := by
  refine fnP_in K_forebayref42_ends mixed rfl (by simp [AV.pureL, AV.pure, aIx_pure]) ?_
  simp only [S_forebayref42_ends]
  have hac : (AV.agg (aIx x)).cells = aIx x := rfl
  simp (maxSteps := 1000000) (implicitDefEqProofs := false) (disch := omega) only [push_cast, ↓reduceIte, Nat.reduceEqDiff, reduceCtorEq, wz]
  refine wpa_box ?_
  by_cases c1 : x.op = 0
  · have e : endsX x = true := by unfold endsX; simp [c1]
    simp (maxSteps := 1000000) (implicitDefEqProofs := false) (disch := omega) only [push_cast, ↓reduceIte, Nat.reduceEqDiff, reduceCtorEq, wz, hac, ix0, c1, e]
    first | exact ⟨[], rfl, rfl⟩ | exact ⟨[], rfl⟩
  by_cases c2 : x.op = 18
  · have e : endsX x = true := by unfold endsX; simp [c2]
    simp (maxSteps := 1000000) (implicitDefEqProofs := false) (disch := omega) only [push_cast, ↓reduceIte, Nat.reduceEqDiff, reduceCtorEq, wz, hac, ix0, c1, c2, e]
    first | exact ⟨[], rfl, rfl⟩ | exact ⟨[], rfl⟩
  by_cases c3 : x.op = 25
  · have e : endsX x = true := by unfold endsX; simp [c3]
    simp (maxSteps := 1000000) (implicitDefEqProofs := false) (disch := omega) only [push_cast, ↓reduceIte, Nat.reduceEqDiff, reduceCtorEq, wz, hac, ix0, c1, c2, c3, e]
    first | exact ⟨[], rfl, rfl⟩ | exact ⟨[], rfl⟩
  have e : endsX x = false := by unfold endsX; simp [c1, c2, c3]
  simp (maxSteps := 1000000) (implicitDefEqProofs := false) (disch := omega) only [push_cast, ↓reduceIte, Nat.reduceEqDiff, reduceCtorEq, wz, hac, ix0, c1, c2, c3, e]
  first | exact ⟨[], rfl, rfl⟩ | exact ⟨[], rfl⟩
theorem wth18 {x : Ix} (h : x.op = 18) (t : Int) : wthX x t = { x with a := t } := by unfold wthX; rw [if_pos h]
theorem wth19 {x : Ix} (h1 : ¬ x.op = 18) (h : x.op = 19) (t : Int) : wthX x t = { x with b := t } := by unfold wthX; rw [if_neg h1, if_pos h]
theorem wth0 {x : Ix} (h1 : ¬ x.op = 18) (h : ¬ x.op = 19) (t : Int) : wthX x t = x := by unfold wthX; rw [if_neg h1, if_neg h]
set_option maxHeartbeats 4000000 in
theorem ref42_with_a (x : Ix) (t : Int) : FnP Try.prog 97 [.agg (aIx x), aInt t] fun a => a = .agg (aIx (wthX x t)) := by
  refine fnP_in K_forebayref42_with mixed rfl (by simp [AV.pureL, AV.pure, aIx_pure, aInt_pure]) ?_
  simp only [S_forebayref42_with, aInt]
  have hac : (AV.agg (aIx x)).cells = aIx x := rfl
  have key : ∀ y : Ix, ∀ K : AEnv → Kx.St → Prop, True := fun _ _ => trivial
  have hset : ∀ y : Ix, setAtA [AV.v (.int .i64 0), AV.v (.int .i64 0), AV.v (.int .i64 0), AV.v (.int .i64 0)] 0 (aIx y) = aIx y := fun y => rfl
  have hfin : ∀ (y : Ix) (σ : Kx.St), ∃ is, ((AV.agg (aIx y)).res (Go.Kx.freeze is σ)).pure = true ∧ (AV.agg (aIx y)).res (Go.Kx.freeze is σ) = .agg (aIx y) := fun y σ => fin_res [] (by simp [AV.res, aIx_res]) (by simp [AV.pure, aIx_pure])
  simp (maxSteps := 1000000) (implicitDefEqProofs := false) (disch := omega) only [push_cast, ↓reduceIte, Nat.reduceEqDiff, reduceCtorEq, wz]
  refine wpa_box ?_
  simp (maxSteps := 1000000) (implicitDefEqProofs := false) (disch := omega) only [push_cast, ↓reduceIte, Nat.reduceEqDiff, reduceCtorEq, wz, hac]
  refine wpa_new ?_
  by_cases c1 : x.op = 18
  · obtain ⟨y, hy⟩ : ∃ y : Ix, y = { x with a := t } := ⟨_, rfl⟩
    rw [wth18 c1, ← hy]
    have hs : (aIx x).set 1 (.v (.int .i64 t)) = aIx y := by rw [hy]; rfl
    simp (maxSteps := 1000000) (implicitDefEqProofs := false) (disch := omega) only [push_cast, ↓reduceIte, Nat.reduceEqDiff, reduceCtorEq, wz, ix0, c1]
    refine wpa_st1 rfl rfl rfl (by simp [aIx]) ?_
    rw [hs]
    have h0 : (aIx y)[0]? = some (.v (.int .i64 18)) := by rw [ix0, hy]; simp [c1]
    simp (maxSteps := 1000000) (implicitDefEqProofs := false) (disch := omega) only [push_cast, ↓reduceIte, Nat.reduceEqDiff, reduceCtorEq, wz, h0, cellsIx']
    refine wpa_stn (cs := [AV.v (.int .i64 0), AV.v (.int .i64 0), AV.v (.int .i64 0), AV.v (.int .i64 0)]) rfl rfl rfl (by decide) ?_
    rw [hset]
    simp (maxSteps := 1000000) (implicitDefEqProofs := false) (disch := omega) only [push_cast, ↓reduceIte, Nat.reduceEqDiff, reduceCtorEq, wz, cellsIx']
    exact hfin y _
  by_cases c2 : x.op = 19
  · obtain ⟨y, hy⟩ : ∃ y : Ix, y = { x with b := t } := ⟨_, rfl⟩
    rw [wth19 c1 c2, ← hy]
    have hs : (aIx x).set 2 (.v (.int .i64 t)) = aIx y := by rw [hy]; rfl
    simp (maxSteps := 1000000) (implicitDefEqProofs := false) (disch := omega) only [push_cast, ↓reduceIte, Nat.reduceEqDiff, reduceCtorEq, wz, ix0, c1, c2]
    refine wpa_st1 rfl rfl rfl (by simp [aIx]) ?_
    rw [hs]
    simp (maxSteps := 1000000) (implicitDefEqProofs := false) (disch := omega) only [push_cast, ↓reduceIte, Nat.reduceEqDiff, reduceCtorEq, wz, cellsIx']
    refine wpa_stn (cs := [AV.v (.int .i64 0), AV.v (.int .i64 0), AV.v (.int .i64 0), AV.v (.int .i64 0)]) rfl rfl rfl (by decide) ?_
    rw [hset]
    simp (maxSteps := 1000000) (implicitDefEqProofs := false) (disch := omega) only [push_cast, ↓reduceIte, Nat.reduceEqDiff, reduceCtorEq, wz, cellsIx']
    exact hfin y _
  rw [wth0 c1 c2]
  simp (maxSteps := 1000000) (implicitDefEqProofs := false) (disch := omega) only [push_cast, ↓reduceIte, Nat.reduceEqDiff, reduceCtorEq, wz, ix0, c1, c2, cellsIx']
  refine wpa_stn (cs := [AV.v (.int .i64 0), AV.v (.int .i64 0), AV.v (.int .i64 0), AV.v (.int .i64 0)]) rfl rfl rfl (by decide) ?_
  rw [hset]
  simp (maxSteps := 1000000) (implicitDefEqProofs := false) (disch := omega) only [push_cast, ↓reduceIte, Nat.reduceEqDiff, reduceCtorEq, wz, cellsIx']
  exact hfin _ _
set_option maxHeartbeats 8000000 in
theorem ref42_Useless_a (l : List Ix) (i : Nat) (hi : i < l.length) (hl : l.length ≤ 300) : FnP Try.prog 99 [aIxs l, aInt i] fun a => a = aBool (usL l i) := by
  refine fnP_in K_forebayref42_Useless mixed rfl (by simp [AV.pureL, aIxs_pure, aInt_pure]) ?_
  simp only [S_forebayref42_Useless, aInt]
  have hIL : aIxs l = .sl l.length (l.flatMap aIx) .none := rfl
  obtain ⟨x, hx⟩ := at_lt hi
  have hd := flat_drop aIx_len hx
  have hu : usL l i = usX x i := by unfold usL; rw [hx]
  rw [hu]
  have h0 := op_at hx
  have ha := a_at hx
  have hb := b_at hx
  have q0 : ∀ t, (aIx x ++ t)[0]? = some (.v (.int .i64 x.op)) := fun t => rfl
  have h1 : ¬ ((i : Int) < 0) := by omega
  have h2 : ¬ ((l.length : Int) ≤ (i : Int)) := by omega
  unfold usX
  by_cases c0 : x.op = 2
  · rw [if_pos c0]
    simp (maxSteps := 1000000) (implicitDefEqProofs := false) (disch := omega) only [push_cast, ↓reduceIte, Nat.reduceEqDiff, reduceCtorEq, wz, hIL, h1, h2, h0, ha, hb, c0]
    first | exact ⟨[], rfl, rfl⟩ | exact ⟨[], rfl⟩
  rw [if_neg c0]
  by_cases c1 : x.op = 18
  · have ht := tgI18 c1
    rw [tgt_jump c1]
    simp (maxSteps := 1000000) (implicitDefEqProofs := false) (disch := omega) only [push_cast, ↓reduceIte, Nat.reduceEqDiff, reduceCtorEq, wz, hIL, h1, h2, q0, c0, c1, hd, cellsIx]
    refine wpa_call (ref42_target_a x) ?_
    rintro a rfl
    rw [ht]
    simp (maxSteps := 1000000) (implicitDefEqProofs := false) (disch := omega) only [push_cast, ↓reduceIte, Nat.reduceEqDiff, reduceCtorEq, wz, aInt]
    first | exact ⟨[], rfl, rfl⟩ | exact ⟨[], rfl⟩
  by_cases c2 : x.op = 19
  · have ht := tgI19 c1 c2
    rw [show tgtX x = some x.b by unfold tgtX; rw [if_neg c1, if_pos c2]]
    simp (maxSteps := 1000000) (implicitDefEqProofs := false) (disch := omega) only [push_cast, ↓reduceIte, Nat.reduceEqDiff, reduceCtorEq, wz, hIL, h1, h2, q0, c0, c1, c2, hd, cellsIx]
    refine wpa_call (ref42_target_a x) ?_
    rintro a rfl
    rw [ht]
    simp (maxSteps := 1000000) (implicitDefEqProofs := false) (disch := omega) only [push_cast, ↓reduceIte, Nat.reduceEqDiff, reduceCtorEq, wz, aInt]
    first | exact ⟨[], rfl, rfl⟩ | exact ⟨[], rfl⟩
  rw [show tgtX x = none by unfold tgtX; rw [if_neg c1, if_neg c2]]
  simp (maxSteps := 1000000) (implicitDefEqProofs := false) (disch := omega) only [push_cast, ↓reduceIte, Nat.reduceEqDiff, reduceCtorEq, wz, hIL, h1, h2, h0, ha, hb, c0, c1, c2]
  first | exact ⟨[], rfl, rfl⟩ | exact ⟨[], rfl⟩

/-! ### Reached -/
structure Ps (l : List Ix) (c0 : Nat) (k : Nat) (out : List Bool) (g : Bool) : Prop where
  len : out.length = l.length
  sound : ∀ i : Nat, out[i]? = some true → Rc l i
  zero : out[0]? = some true
  le : cf out ≤ c0
  lt : g = true → cf out < c0
  clo : g = false → ∀ i j : Nat, i < k → out[i]? = some true → j ∈ succX l i → out[j]? = some true
theorem Ps.set {l : List Ix} {c0 k : Nat} {out : List Bool} {g : Bool} (h : Ps l c0 k out g) {j : Nat} (hj : out[j]? = some false) (hr : Rc l j) (k' : Nat) : Ps l c0 k' (out.set j true) true := by
  have hc := cf_set hj
  have hle := h.le
  refine ⟨by simp [h.len], fun i hi => ?_, ?_, by omega, fun _ => by omega, fun e => by cases e⟩
  · by_cases e : j = i
    · subst e; exact hr
    · rw [List.getElem?_set_ne e] at hi; exact h.sound i hi
  · by_cases e : j = 0
    · subst e; rw [h.zero] at hj; cases hj
    · rw [List.getElem?_set_ne e]; exact h.zero
theorem Ps.next {l : List Ix} {c0 k : Nat} {out : List Bool} {g : Bool} (h : Ps l c0 k out g) (hn : g = false → out[k]? = some true → ∀ j ∈ succX l k, out[j]? = some true) : Ps l c0 (k + 1) out g :=
  ⟨h.len, h.sound, h.zero, h.le, h.lt, fun e i j hi hit hj => by
    by_cases hik : i = k
    · subst hik; exact hn e hit j hj
    · exact h.clo e i j (by omega) hit hj⟩
set_option maxHeartbeats 16000000 in
theorem ref42_Reached_a (l : List Ix) (hR : Rt l) (hl : l.length ≤ 300) : FnP Try.prog 98 [aIxs l] fun a => a = aSl aBool (reachB l) := by
  refine fnP_in K_forebayref42_Reached mixed rfl (by simp [AV.pureL, aIxs_pure]) ?_
  simp only [S_forebayref42_Reached]
  have hIL : aIxs l = .sl l.length (l.flatMap aIx) .none := rfl
  have hpos := hR.pos
  refine wpa_seqx (fun ε σ => ε 0 = aIxs l ∧ σ = []) (fun N X' R' hN => by simp (maxSteps := 1000000) (implicitDefEqProofs := false) (disch := omega) only [push_cast, ↓reduceIte, Nat.reduceEqDiff, reduceCtorEq, wz]; exact hN _ _ (by simp (maxSteps := 1000000) (implicitDefEqProofs := false) (disch := omega) only [push_cast, ↓reduceIte, Nat.reduceEqDiff, reduceCtorEq, wz])) ?_
  rintro ε σ ⟨hρ, rfl⟩
  refine wpa_seqx (fun ε σ => (ε 0 = aIxs l ∧ ε 3 = .ms 0 0 0 l.length 1) ∧ σ = [.obj 0 ((List.replicate l.length false).map aBool)]) ?_ ?_
  · intro N X R hN
    simp (maxSteps := 1000000) (implicitDefEqProofs := false) (disch := omega) only [push_cast, ↓reduceIte, Nat.reduceEqDiff, reduceCtorEq, wz, hρ, hIL]
    refine wpa_mks rfl (by omega) (by omega) ?_
    simp (maxSteps := 1000000) (implicitDefEqProofs := false) (disch := omega) only [push_cast, ↓reduceIte, Nat.reduceEqDiff, reduceCtorEq, wz, repA_one, repBo]
    exact hN _ _ (by simp (maxSteps := 1000000) (implicitDefEqProofs := false) (disch := omega) only [push_cast, ↓reduceIte, Nat.reduceEqDiff, reduceCtorEq, wz, hρ, repA_one, repBo, hIL])
  clear hρ ε
  rintro ε σ ⟨hρ, rfl⟩
  refine wpa_seqx (fun ε σ => (ε 0 = aIxs l ∧ ε 3 = .ms 0 0 0 l.length 1) ∧ σ[0]? = some (.obj 0 (((List.replicate l.length false).set 0 true).map aBool))) ?_ ?_
  · intro N X R hN
    simp (maxSteps := 1000000) (implicitDefEqProofs := false) (disch := omega) only [push_cast, ↓reduceIte, Nat.reduceEqDiff, reduceCtorEq, wz, hρ]
    refine wpa_st1 rfl rfl rfl (by simp; omega) ?_
    simp (maxSteps := 1000000) (implicitDefEqProofs := false) (disch := omega) only [push_cast, ↓reduceIte, Nat.reduceEqDiff, reduceCtorEq, wz, setBo]
    exact hN _ _ ⟨by simp (maxSteps := 1000000) (implicitDefEqProofs := false) (disch := omega) only [push_cast, ↓reduceIte, Nat.reduceEqDiff, reduceCtorEq, wz, hρ], by simp (maxSteps := 1000000) (implicitDefEqProofs := false) (disch := omega) only [push_cast, ↓reduceIte, Nat.reduceEqDiff, reduceCtorEq, wz]; try rfl⟩
  clear hρ ε
  rintro ε σ ⟨hρ, hs⟩
  have hrep : (List.replicate l.length false)[0]? = some false := by rw [List.getElem?_replicate, if_pos hpos]
  have hP0 : ∀ k, Ps l l.length k ((List.replicate l.length false).set 0 true) true := by
    intro k
    have hc := cf_set hrep
    rw [cf_rep] at hc
    refine ⟨by simp, fun i hi => ?_, List.getElem?_set_self (by simpa using hpos), by omega, fun _ => by omega, fun e => by cases e⟩
    by_cases e : 0 = i
    · subst e; exact .zero
    · rw [List.getElem?_set_ne e, List.getElem?_replicate] at hi
      split at hi <;> simp at hi
  generalize (List.replicate l.length false).set 0 true = out0 at hs hP0
  refine wpa_seqx (fun ε σ => ε 3 = .ms 0 0 0 l.length 1 ∧ σ[0]? = some (.obj 0 ((reachB l).map aBool))) ?_ ?_
  · intro N X R hN
    simp (maxSteps := 1000000) (implicitDefEqProofs := false) (disch := omega) only [push_cast, ↓reduceIte, Nat.reduceEqDiff, reduceCtorEq, wz]
    refine wpa_blx (α := List Bool × Bool) (I := fun s ε σ => (ε 0 = aIxs l ∧ ε 3 = .ms 0 0 0 l.length 1 ∧ ε 4 = .v (.bool s.2)) ∧ σ[0]? = some (.obj 0 (s.1.map aBool)) ∧ Ps l l.length l.length s.1 s.2)
      (μ := fun s => 2 * cf s.1 + if s.2 then 1 else 0) (Q := fun ε σ => ε 3 = .ms 0 0 0 l.length 1 ∧ σ[0]? = some (.obj 0 ((reachB l).map aBool))) (x := (out0, true)) ?_ ?_ hN
    · simp (maxSteps := 1000000) (implicitDefEqProofs := false) (disch := omega) only [push_cast, ↓reduceIte, Nat.reduceEqDiff, reduceCtorEq, wz, hρ]
      exact ⟨hs, hP0 _⟩
    · clear hN N X R hρ hs hP0 ε σ hrep
      rintro ⟨out, g⟩ ε σ N E X R ⟨hρ, hs, hP⟩ hN hE
      simp only at hρ hs hP
      simp only [S_forebayref42_Reached_L1]
      cases g with
      | false =>
        simp (maxSteps := 1000000) (implicitDefEqProofs := false) (disch := omega) only [push_cast, ↓reduceIte, Nat.reduceEqDiff, reduceCtorEq, wz, hρ]
        refine hE _ _ ⟨by simp (maxSteps := 1000000) (implicitDefEqProofs := false) (disch := omega) only [push_cast, ↓reduceIte, Nat.reduceEqDiff, reduceCtorEq, wz, hρ], ?_⟩
        rw [← reachB_uni hR hP.len fun i => ⟨hP.sound i, fun hr => ?_⟩]
        · exact hs
        · induction hr with
          | zero => exact hP.zero
          | step hri hj ih => exact hP.clo rfl _ _ (hri.lt hR) ih hj
      | true =>
        have hN' : ∀ (out' : List Bool) (g' : Bool) (ε' : AEnv) (σ' : Kx.St), (ε' 0 = aIxs l ∧ ε' 3 = .ms 0 0 0 l.length 1 ∧ ε' 4 = .v (.bool g')) → σ'[0]? = some (.obj 0 (out'.map aBool)) → Ps l (cf out) l.length out' g' → act (N ε' σ') := by
          intro out' g' ε' σ' h1 h2 h3
          have hle := hP.le
          have hle2 := h3.le
          refine hN (out', g') ε' σ' ⟨h1, h2, ⟨h3.len, h3.sound, h3.zero, by simp only; omega, fun e => by have := h3.lt e; simp only; omega, h3.clo⟩⟩ ?_
          simp only [if_true]
          cases g' with
          | false => simp only [Bool.false_eq_true, if_false]; omega
          | true => have := h3.lt rfl; simp only [if_true]; omega
        clear hN hE
        have hPa : Ps l (cf out) 0 out false := ⟨hP.len, hP.sound, hP.zero, Nat.le_refl _, fun e => (by cases e), fun _ i j hi => absurd hi (by omega)⟩
        simp (maxSteps := 1000000) (implicitDefEqProofs := false) (disch := omega) only [push_cast, ↓reduceIte, Nat.reduceEqDiff, reduceCtorEq, wz, hρ]
        refine wpa_blx (α := Nat) (I := fun k ε σ => ∃ out' g', (ε 0 = aIxs l ∧ ε 3 = .ms 0 0 0 l.length 1 ∧ ε 4 = .v (.bool g') ∧ ε 5 = .v (.int .i64 k)) ∧ k ≤ l.length ∧ σ[0]? = some (.obj 0 (out'.map aBool)) ∧ Ps l (cf out) k out' g')
          (μ := fun k => l.length - k) (Q := fun ε σ => ∃ out' g', (ε 0 = aIxs l ∧ ε 3 = .ms 0 0 0 l.length 1 ∧ ε 4 = .v (.bool g')) ∧ σ[0]? = some (.obj 0 (out'.map aBool)) ∧ Ps l (cf out) l.length out' g') (x := 0) ?_ ?_ ?_
        · exact ⟨out, false, by simp (maxSteps := 1000000) (implicitDefEqProofs := false) (disch := omega) only [push_cast, ↓reduceIte, Nat.reduceEqDiff, reduceCtorEq, wz, hρ], by omega, hs, hPa⟩
        · clear hN' hρ hs hP hPa ε σ N E X R
          rintro k ε σ N E X R ⟨o, g, hρ, hk, hs, hP⟩ hN hE
          simp only [S_forebayref42_Reached_L2]
          by_cases hlt : k < l.length
          · obtain ⟨x, hx⟩ := at_lt hlt
            have hd := flat_drop aIx_len hx
            obtain ⟨b, hb⟩ := at_lt (l := o) (k := k) (by rw [hP.len]; exact hlt)
            have hbb : (o.map aBool)[k]? = some (.v (.bool b)) := by rw [List.getElem?_map, hb]; rfl
            have hse := succ_end hx
            cases b with
            | false =>
              simp (maxSteps := 1000000) (implicitDefEqProofs := false) (disch := omega) only [push_cast, ↓reduceIte, Nat.reduceEqDiff, reduceCtorEq, wz, hρ, hs, hbb, hIL]
              refine hN (k + 1) _ _ ?_ (by omega)
              exact ⟨o, g, by simp (maxSteps := 1000000) (implicitDefEqProofs := false) (disch := omega) only [push_cast, ↓reduceIte, Nat.reduceEqDiff, reduceCtorEq, wz, hρ, hIL], by omega, hs, hP.next fun _ h => by rw [hb] at h; cases h⟩
            | true =>
              have hRk := hP.sound k hb
              refine wpa_seq (fun ε σ => (ε 0 = aIxs l ∧ ε 3 = .ms 0 0 0 l.length 1 ∧ ε 4 = .v (.bool g) ∧ ε 5 = .v (.int .i64 k)) ∧ σ[0]? = some (.obj 0 (o.map aBool))) ?_ ?_
              · intro N2 hN2
                simp (maxSteps := 1000000) (implicitDefEqProofs := false) (disch := omega) only [push_cast, ↓reduceIte, Nat.reduceEqDiff, reduceCtorEq, wz, hρ, hIL]
                exact hN2 _ _ ⟨by simp (maxSteps := 1000000) (implicitDefEqProofs := false) (disch := omega) only [push_cast, ↓reduceIte, Nat.reduceEqDiff, reduceCtorEq, wz, hρ, hIL], hs⟩
              clear hρ hs ε σ
              rintro ε σ ⟨hρ, hs⟩
              refine wpa_seqx (fun ε σ => ∃ o2 g2, (ε 0 = aIxs l ∧ ε 3 = .ms 0 0 0 l.length 1 ∧ ε 4 = .v (.bool g2) ∧ ε 5 = .v (.int .i64 k)) ∧ σ[0]? = some (.obj 0 (o2.map aBool)) ∧ Ps l (cf out) (k + 1) o2 g2) ?_ ?_
              · intro N2 X2 R2 hN2
                refine wpa_blk fun X' hX' => ?_
                refine wpa_seq (fun ε σ => (ε 0 = aIxs l ∧ ε 3 = .ms 0 0 0 l.length 1 ∧ ε 4 = .v (.bool g) ∧ ε 5 = .v (.int .i64 k)) ∧ σ[0]? = some (.obj 0 (o.map aBool))) ?_ ?_
                · intro N3 hN3
                  simp (maxSteps := 1000000) (implicitDefEqProofs := false) (disch := omega) only [push_cast, ↓reduceIte, Nat.reduceEqDiff, reduceCtorEq, wz, hρ, hs, hbb]
                  exact hN3 _ _ ⟨by simp (maxSteps := 1000000) (implicitDefEqProofs := false) (disch := omega) only [push_cast, ↓reduceIte, Nat.reduceEqDiff, reduceCtorEq, wz, hρ], hs⟩
                clear hρ hs ε σ
                rintro ε σ ⟨hρ, hs⟩
                -- the next one
                refine wpa_seqx (fun ε σ => ∃ o1 g1, (ε 0 = aIxs l ∧ ε 3 = .ms 0 0 0 l.length 1 ∧ ε 4 = .v (.bool g1) ∧ ε 5 = .v (.int .i64 k)) ∧ σ[0]? = some (.obj 0 (o1.map aBool)) ∧ Ps l (cf out) k o1 g1 ∧ (g1 = false → endsX x = false → o1[k + 1]? = some true)) ?_ ?_
                · intro N3 X3 R3 hN3
                  simp (maxSteps := 1000000) (implicitDefEqProofs := false) (disch := omega) only [push_cast, ↓reduceIte, Nat.reduceEqDiff, reduceCtorEq, wz, hρ, hIL, hd, cellsIx]
                  refine wpa_call (ref42_ends_a x) ?_
                  rintro a rfl
                  cases he : endsX x with
                  | true =>
                    rw [he] at hN3
                    simp (maxSteps := 1000000) (implicitDefEqProofs := false) (disch := omega) only [push_cast, ↓reduceIte, Nat.reduceEqDiff, reduceCtorEq, wz, hρ, aBool]
                    exact hN3 _ _ ⟨o, g, by simp (maxSteps := 1000000) (implicitDefEqProofs := false) (disch := omega) only [push_cast, ↓reduceIte, Nat.reduceEqDiff, reduceCtorEq, wz, hρ, hIL], hs, hP, fun _ h => by cases h⟩
                  | false =>
                    have hRn := hRk.next hx he
                    have hnl := hRn.lt hR
                    obtain ⟨c, hc⟩ := at_lt (l := o) (k := k + 1) (by rw [hP.len]; exact hnl)
                    have hcb : (o.map aBool)[k + 1]? = some (.v (.bool c)) := by rw [List.getElem?_map, hc]; rfl
                    have tk : ((k : Int) + 1).toNat = k + 1 := by omega
                    cases c with
                    | true =>
                      simp (maxSteps := 1000000) (implicitDefEqProofs := false) (disch := omega) only [push_cast, ↓reduceIte, Nat.reduceEqDiff, reduceCtorEq, wz, hρ, aBool, hs, tk, hcb]
                      exact hN3 _ _ ⟨o, g, by simp (maxSteps := 1000000) (implicitDefEqProofs := false) (disch := omega) only [push_cast, ↓reduceIte, Nat.reduceEqDiff, reduceCtorEq, wz, hρ, hIL], hs, hP, fun _ _ => hc⟩
                    | false =>
                      have hol := lt_at hcb
                      simp (maxSteps := 1000000) (implicitDefEqProofs := false) (disch := omega) only [push_cast, ↓reduceIte, Nat.reduceEqDiff, reduceCtorEq, wz, hρ, aBool, hs, tk, hcb]
                      refine wpa_st1 rfl rfl hs (by simpa using hol) ?_
                      simp (maxSteps := 1000000) (implicitDefEqProofs := false) (disch := omega) only [push_cast, ↓reduceIte, Nat.reduceEqDiff, reduceCtorEq, wz, setBo]
                      exact hN3 _ _ ⟨o.set (k + 1) true, true, by simp (maxSteps := 1000000) (implicitDefEqProofs := false) (disch := omega) only [push_cast, ↓reduceIte, Nat.reduceEqDiff, reduceCtorEq, wz, hρ, hIL], get_set_eq hs, hP.set hc hRn k, fun e => by cases e⟩
                clear hρ hs hP hb hbb g ε σ
                rintro ε σ ⟨o1, g1, hρ, hs, hP, hnx⟩
                have hlast : ∀ o2 : List Bool, (∀ t, tgtX x = some t → o2[t.toNat]? = some true) → (endsX x = false → o2[k + 1]? = some true) → ∀ j ∈ succX l k, o2[j]? = some true := by
                  intro o2 h1 h2 j hj
                  rw [hse] at hj
                  rcases List.mem_append.1 hj with hj | hj
                  · cases ht : tgtX x with
                    | none => rw [ht] at hj; simp at hj
                    | some t => rw [ht] at hj; simp at hj; subst hj; exact h1 t ht
                  · cases he : endsX x with
                    | true => rw [he] at hj; simp at hj
                    | false => rw [he] at hj; simp at hj; subst hj; exact h2 he
                refine wpa_seqx (fun ε σ => (ε 0 = aIxs l ∧ ε 3 = .ms 0 0 0 l.length 1 ∧ ε 4 = .v (.bool g1) ∧ ε 5 = .v (.int .i64 k) ∧ ε 6 = .v (.int .i64 (tgI x))) ∧ σ[0]? = some (.obj 0 (o1.map aBool))) ?_ ?_
                · intro N3 X3 R3 hN3
                  simp (maxSteps := 1000000) (implicitDefEqProofs := false) (disch := omega) only [push_cast, ↓reduceIte, Nat.reduceEqDiff, reduceCtorEq, wz, hρ, hIL, hd, cellsIx]
                  refine wpa_call (ref42_target_a x) ?_
                  rintro a rfl
                  simp (maxSteps := 1000000) (implicitDefEqProofs := false) (disch := omega) only [push_cast, ↓reduceIte, Nat.reduceEqDiff, reduceCtorEq, wz, aInt]
                  exact hN3 _ _ ⟨by simp (maxSteps := 1000000) (implicitDefEqProofs := false) (disch := omega) only [push_cast, ↓reduceIte, Nat.reduceEqDiff, reduceCtorEq, wz, hρ, hIL], hs⟩
                clear hρ hs ε σ
                rintro ε σ ⟨hρ, hs⟩
                cases ht : tgtX x with
                | none =>
                  have hti : tgI x = -1 := by unfold tgI; rw [ht]
                  rw [hti] at hρ
                  simp (maxSteps := 1000000) (implicitDefEqProofs := false) (disch := omega) only [push_cast, ↓reduceIte, Nat.reduceEqDiff, reduceCtorEq, wz, hρ]
                  refine hN2 _ _ ⟨o1, g1, by simp (maxSteps := 1000000) (implicitDefEqProofs := false) (disch := omega) only [push_cast, ↓reduceIte, Nat.reduceEqDiff, reduceCtorEq, wz, hρ], hs, hP.next fun e _ => hlast o1 (fun t h => by rw [ht] at h; cases h) (hnx e)⟩
                | some u =>
                  have hti : tgI x = u := by unfold tgI; rw [ht]
                  have htg := hR.tg k x u hx ht
                  have hRt := hRk.tgt hx ht
                  obtain ⟨t, rfl⟩ : ∃ t : Nat, u = t := ⟨u.toNat, by omega⟩
                  rw [Int.toNat_natCast] at hRt
                  obtain ⟨c, hc⟩ := at_lt (l := o1) (k := t) (by rw [hP.len]; omega)
                  have hcb : (o1.map aBool)[t]? = some (.v (.bool c)) := by rw [List.getElem?_map, hc]; rfl
                  have h0t : (0 : Int) ≤ (t : Int) := by omega
                  rw [hti] at hρ
                  cases c with
                  | true =>
                    simp (maxSteps := 1000000) (implicitDefEqProofs := false) (disch := omega) only [push_cast, ↓reduceIte, Nat.reduceEqDiff, reduceCtorEq, wz, hρ, hs, hcb, h0t]
                    refine hN2 _ _ ⟨o1, g1, by simp (maxSteps := 1000000) (implicitDefEqProofs := false) (disch := omega) only [push_cast, ↓reduceIte, Nat.reduceEqDiff, reduceCtorEq, wz, hρ], hs, hP.next fun e _ => hlast o1 (fun v h => by rw [ht] at h; cases h; rw [Int.toNat_natCast]; exact hc) (hnx e)⟩
                  | false =>
                    have hol := lt_at hcb
                    simp (maxSteps := 1000000) (implicitDefEqProofs := false) (disch := omega) only [push_cast, ↓reduceIte, Nat.reduceEqDiff, reduceCtorEq, wz, hρ, hs, hcb, h0t]
                    refine wpa_st1 rfl rfl hs (by simpa using hol) ?_
                    simp (maxSteps := 1000000) (implicitDefEqProofs := false) (disch := omega) only [push_cast, ↓reduceIte, Nat.reduceEqDiff, reduceCtorEq, wz, setBo]
                    exact hN2 _ _ ⟨o1.set t true, true, by simp (maxSteps := 1000000) (implicitDefEqProofs := false) (disch := omega) only [push_cast, ↓reduceIte, Nat.reduceEqDiff, reduceCtorEq, wz, hρ], get_set_eq hs, hP.set hc hRt _⟩
              clear hρ hs hP hb hbb ε σ
              rintro ε σ ⟨o2, g2, hρ, hs, hP⟩
              simp (maxSteps := 1000000) (implicitDefEqProofs := false) (disch := omega) only [push_cast, ↓reduceIte, Nat.reduceEqDiff, reduceCtorEq, wz, hρ]
              refine hN (k + 1) _ _ ?_ (by omega)
              exact ⟨o2, g2, by simp (maxSteps := 1000000) (implicitDefEqProofs := false) (disch := omega) only [push_cast, ↓reduceIte, Nat.reduceEqDiff, reduceCtorEq, wz, hρ], by omega, hs, hP⟩
          · simp (maxSteps := 1000000) (implicitDefEqProofs := false) (disch := omega) only [push_cast, ↓reduceIte, Nat.reduceEqDiff, reduceCtorEq, wz, hρ, hIL]
            obtain rfl : k = l.length := by omega
            exact hE _ _ ⟨o, g, by simp (maxSteps := 1000000) (implicitDefEqProofs := false) (disch := omega) only [push_cast, ↓reduceIte, Nat.reduceEqDiff, reduceCtorEq, wz, hρ, hIL], hs, hP⟩
        · rintro ε σ ⟨out', g', hρ, hs, hP⟩
          exact hN' out' g' _ _ hρ hs hP
  clear hρ hs ε σ
  rintro ε σ ⟨hρ, hs0⟩
  obtain ⟨hlen, _⟩ := reachB_spec hR
  simp (maxSteps := 1000000) (implicitDefEqProofs := false) (disch := omega) only [push_cast, ↓reduceIte, Nat.reduceEqDiff, reduceCtorEq, wz, hρ]
  refine fin_res [0] ?_ (aBools_pure _)
  rw [freeze_one hs0 (aBoolL_res _ _), res_ms (get_set_eq hs0) (by simp [hlen]), ← hlen]
  rfl
end Go.Proofs.Ythgmfjkbgacfaaa
