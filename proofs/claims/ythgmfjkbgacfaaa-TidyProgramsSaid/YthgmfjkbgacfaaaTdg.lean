/- Tidy: targets, ends, check, leads; what is reached: the walks. -/
import Derived.Test.YthgmfjkbgacfaaaTdf
namespace Go.Proofs.Ythgmfjkbgacfaaa
set_option linter.unusedVariables false
set_option linter.unusedSimpArgs false
open Go Go.Kx Go.Proofs

/-- Where an instruction's target stands. -/
def tgA (op : Int) (i w off : Nat) : AV := if op = 18 then .ref i w (off + 1) else if op = 19 then .ref i w (off + 2) else .v (.pointer none)
theorem tg18 {op : Int} (h : op = 18) (i w off : Nat) : tgA op i w off = .ref i w (off + 1) := by unfold tgA; rw [if_pos h]
theorem tg19 {op : Int} (h1 : ¬ op = 18) (h : op = 19) (i w off : Nat) : tgA op i w off = .ref i w (off + 2) := by unfold tgA; rw [if_neg h1, if_pos h]
theorem tg0 {op : Int} (h1 : ¬ op = 18) (h : ¬ op = 19) (i w off : Nat) : tgA op i w off = .v (.pointer none) := by unfold tgA; rw [if_neg h1, if_neg h]
theorem tidy_target_a {σ : Kx.St} {i w off : Nat} {cs : List AV} {op : Int} (h : σ[i]? = some (.obj w cs)) (h0 : cs[off]? = some (.v (.int .i64 op))) :
    FnG Try.prog 92 [.ref i w off] σ fun a σ' => a = tgA op i w off ∧ σ' = σ := by
  refine fnG_in K_tidy_target mixed rfl ?_
  simp only [S_tidy_target]
  unfold tgA
  by_cases c1 : op = 18
  · rw [if_pos c1]
    simp (maxSteps := 1000000) (implicitDefEqProofs := false) (disch := omega) only [push_cast, ↓reduceIte, Nat.reduceEqDiff, reduceCtorEq, wz, h, h0, c1]
    exact trivial
  by_cases c2 : op = 19
  · rw [if_neg c1, if_pos c2]
    simp (maxSteps := 1000000) (implicitDefEqProofs := false) (disch := omega) only [push_cast, ↓reduceIte, Nat.reduceEqDiff, reduceCtorEq, wz, h, h0, c1, c2]
    exact trivial
  simp (maxSteps := 1000000) (implicitDefEqProofs := false) (disch := omega) only [push_cast, ↓reduceIte, Nat.reduceEqDiff, reduceCtorEq, wz, h, h0, c1, c2]
  exact trivial
theorem tidy_ends_a (x : Ix) : FnP Try.prog 114 [aInt x.op] fun a => a = aBool (endsX x) := by
  refine fnP_in K_tidy_ends mixed rfl (by simp [AV.pureL, aInt_pure]) ?_
  simp only [S_tidy_ends, aInt]
  by_cases c1 : x.op = 0
  · have e : endsX x = true := by unfold endsX; simp [c1]
    simp (maxSteps := 1000000) (implicitDefEqProofs := false) (disch := omega) only [push_cast, ↓reduceIte, Nat.reduceEqDiff, reduceCtorEq, wz, c1, e]
    first | exact ⟨[], rfl, rfl⟩ | exact ⟨[], rfl⟩
  by_cases c2 : x.op = 18
  · have e : endsX x = true := by unfold endsX; simp [c2]
    simp (maxSteps := 1000000) (implicitDefEqProofs := false) (disch := omega) only [push_cast, ↓reduceIte, Nat.reduceEqDiff, reduceCtorEq, wz, c1, c2, e]
    first | exact ⟨[], rfl, rfl⟩ | exact ⟨[], rfl⟩
  by_cases c3 : x.op = 25
  · have e : endsX x = true := by unfold endsX; simp [c3]
    simp (maxSteps := 1000000) (implicitDefEqProofs := false) (disch := omega) only [push_cast, ↓reduceIte, Nat.reduceEqDiff, reduceCtorEq, wz, c1, c2, c3, e]
    first | exact ⟨[], rfl, rfl⟩ | exact ⟨[], rfl⟩
  have e : endsX x = false := by unfold endsX; simp [c1, c2, c3]
  simp (maxSteps := 1000000) (implicitDefEqProofs := false) (disch := omega) only [push_cast, ↓reduceIte, Nat.reduceEqDiff, reduceCtorEq, wz, c1, c2, c3, e]
  first | exact ⟨[], rfl, rfl⟩ | exact ⟨[], rfl⟩
theorem z4set (x : Ix) : setAtA [AV.v (.int .i64 0), AV.v (.int .i64 0), AV.v (.int .i64 0), AV.v (.int .i64 0)] 0 (aIx x) = aIx x := rfl
theorem ix0 (x : Ix) : (aIx x)[0]? = some (.v (.int .i64 x.op)) := rfl
theorem ix1 (x : Ix) : (aIx x)[1]? = some (.v (.int .i64 x.a)) := rfl
theorem ix2 (x : Ix) : (aIx x)[2]? = some (.v (.int .i64 x.b)) := rfl
theorem op_at {l : List Ix} {k : Nat} {x : Ix} (hx : l[k]? = some x) : (l.flatMap aIx)[k * 4]? = some (.v (.int .i64 x.op)) := by
  have : ((l.flatMap aIx).drop (k * 4))[0]? = some (.v (.int .i64 x.op)) := by rw [flat_drop aIx_len hx]; rfl
  rwa [List.getElem?_drop, Nat.add_zero] at this
theorem a_at {l : List Ix} {k : Nat} {x : Ix} (hx : l[k]? = some x) : (l.flatMap aIx)[k * 4 + 1]? = some (.v (.int .i64 x.a)) := by rw [← List.getElem?_drop, flat_drop aIx_len hx]; rfl
theorem b_at {l : List Ix} {k : Nat} {x : Ix} (hx : l[k]? = some x) : (l.flatMap aIx)[k * 4 + 2]? = some (.v (.int .i64 x.b)) := by rw [← List.getElem?_drop, flat_drop aIx_len hx]; rfl
set_option maxHeartbeats 8000000 in
theorem tidy_check_a (l : List Ix) (hR : Rt l) (hl : l.length ≤ 200) : FnP Try.prog 90 [aIxs l] fun a => a = aInt 0 := by
  refine fnP_in K_tidy_check mixed rfl (by simp [AV.pureL, aIxs_pure]) ?_
  simp only [S_tidy_check]
  have hIL : aIxs l = .sl l.length (l.flatMap aIx) .none := rfl
  have hpos := hR.pos
  have hp1 : ¬ ((l.length : Int) = 0) := by omega
  have hp2 : ¬ (200 < (l.length : Int)) := by omega
  refine wpa_seqx (fun ε σ => ε 0 = aIxs l) (fun N X' R' hN => by simp (maxSteps := 1000000) (implicitDefEqProofs := false) (disch := omega) only [push_cast, ↓reduceIte, Nat.reduceEqDiff, reduceCtorEq, wz]; exact hN _ _ (by simp (maxSteps := 1000000) (implicitDefEqProofs := false) (disch := omega) only [push_cast, ↓reduceIte, Nat.reduceEqDiff, reduceCtorEq, wz])) ?_
  rintro ε σ hρ
  refine wpa_seq (fun ε σ => ε 0 = aIxs l) ?_ ?_
  · intro N hN
    simp (maxSteps := 1000000) (implicitDefEqProofs := false) (disch := omega) only [push_cast, ↓reduceIte, Nat.reduceEqDiff, reduceCtorEq, wz, hρ, hIL, hp1, hp2]
    exact hN _ _ (by simp (maxSteps := 1000000) (implicitDefEqProofs := false) (disch := omega) only [push_cast, ↓reduceIte, Nat.reduceEqDiff, reduceCtorEq, wz, hρ]; try rfl)
  clear hρ ε σ
  rintro ε σ hρ
  refine wpa_seq (fun ε σ => ε 0 = aIxs l) ?_ ?_
  · intro N hN
    simp (maxSteps := 1000000) (implicitDefEqProofs := false) (disch := omega) only [push_cast, ↓reduceIte, Nat.reduceEqDiff, reduceCtorEq, wz, hρ, hIL]
    refine wpa_bl (α := Nat) (I := fun k ε σ => (ε 0 = aIxs l ∧ ε 14 = aIxs l ∧ ε 15 = .v (.int .i64 l.length) ∧ ε 16 = .v (.int .i64 k)) ∧ k ≤ l.length)
      (μ := fun k => l.length - k) (Q := fun ε σ => ε 0 = aIxs l) (x := 0) ?_ ?_ hN
    · simp (maxSteps := 1000000) (implicitDefEqProofs := false) (disch := omega) only [push_cast, ↓reduceIte, Nat.reduceEqDiff, reduceCtorEq, wz, hρ, hIL]
      omega
    · clear hN N hρ ε σ
      rintro k ε σ N E ⟨hρ, hk⟩ hN hE
      simp only [S_tidy_check_L1]
      by_cases hlt : k < l.length
      · obtain ⟨x, hx⟩ := at_lt hlt
        have hd := flat_drop aIx_len hx
        simp (maxSteps := 1000000) (implicitDefEqProofs := false) (disch := omega) only [push_cast, ↓reduceIte, Nat.reduceEqDiff, reduceCtorEq, wz, hρ, hIL, hd, cellsIx]
        refine wpa_new ?_
        simp (maxSteps := 1000000) (implicitDefEqProofs := false) (disch := omega) only [push_cast, ↓reduceIte, Nat.reduceEqDiff, reduceCtorEq, wz]
        refine wpa_stn (cs := [AV.v (.int .i64 0), AV.v (.int .i64 0), AV.v (.int .i64 0), AV.v (.int .i64 0)]) rfl rfl (at_snoc _ _) (by simp) ?_
        rw [z4set, set_snoc]
        have hb : (σ ++ [Res.obj 0 (aIx x)])[σ.length]? = some (.obj 0 (aIx x)) := at_snoc _ _
        generalize σ ++ [Res.obj 0 (aIx x)] = S at hb ⊢
        generalize σ.length = i0 at hb ⊢
        simp (maxSteps := 1000000) (implicitDefEqProofs := false) (disch := omega) only [push_cast, ↓reduceIte, Nat.reduceEqDiff, reduceCtorEq, wz]
        refine wpa_callG (tidy_target_a hb (ix0 x)) ?_
        rintro a σ' ⟨rfl, rfl⟩
        by_cases c1 : x.op = 18
        · have ht := hR.tg k x x.a hx (by unfold tgtX; rw [if_pos c1])
          have t1 : ¬ x.a < 0 := by omega
          have t2 : ¬ (l.length : Int) ≤ x.a := by omega
          rw [tg18 c1]
          simp (maxSteps := 1000000) (implicitDefEqProofs := false) (disch := omega) only [push_cast, ↓reduceIte, Nat.reduceEqDiff, reduceCtorEq, wz, c1, hb, ix1, t1, t2, hρ, hIL]
          refine hN (k + 1) _ _ ?_ (by omega)
          exact ⟨by simp (maxSteps := 1000000) (implicitDefEqProofs := false) (disch := omega) only [push_cast, ↓reduceIte, Nat.reduceEqDiff, reduceCtorEq, wz, hρ], by omega⟩
        by_cases c2 : x.op = 19
        · have ht := hR.tg k x x.b hx (by unfold tgtX; rw [if_neg c1, if_pos c2])
          have t1 : ¬ x.b < 0 := by omega
          have t2 : ¬ (l.length : Int) ≤ x.b := by omega
          rw [tg19 c1 c2]
          simp (maxSteps := 1000000) (implicitDefEqProofs := false) (disch := omega) only [push_cast, ↓reduceIte, Nat.reduceEqDiff, reduceCtorEq, wz, c1, c2, hb, ix2, t1, t2, hρ, hIL]
          refine hN (k + 1) _ _ ?_ (by omega)
          exact ⟨by simp (maxSteps := 1000000) (implicitDefEqProofs := false) (disch := omega) only [push_cast, ↓reduceIte, Nat.reduceEqDiff, reduceCtorEq, wz, hρ], by omega⟩
        rw [tg0 c1 c2]
        simp (maxSteps := 1000000) (implicitDefEqProofs := false) (disch := omega) only [push_cast, ↓reduceIte, Nat.reduceEqDiff, reduceCtorEq, wz, c1, c2, hρ, Option.isNone_none]
        refine hN (k + 1) _ _ ?_ (by omega)
        exact ⟨by simp (maxSteps := 1000000) (implicitDefEqProofs := false) (disch := omega) only [push_cast, ↓reduceIte, Nat.reduceEqDiff, reduceCtorEq, wz, hρ], by omega⟩
      · simp (maxSteps := 1000000) (implicitDefEqProofs := false) (disch := omega) only [push_cast, ↓reduceIte, Nat.reduceEqDiff, reduceCtorEq, wz, hρ]
        exact hE _ _ (by simp (maxSteps := 1000000) (implicitDefEqProofs := false) (disch := omega) only [push_cast, ↓reduceIte, Nat.reduceEqDiff, reduceCtorEq, wz, hρ])
  clear hρ ε σ
  rintro ε σ hρ
  obtain ⟨x, hx⟩ := at_lt (l := l) (k := l.length - 1) (by omega)
  have hc0 := op_at hx
  have tn : ((l.length : Int) - 1).toNat = l.length - 1 := by omega
  have he := hR.last x hx
  simp (maxSteps := 1000000) (implicitDefEqProofs := false) (disch := omega) only [push_cast, ↓reduceIte, Nat.reduceEqDiff, reduceCtorEq, wz, hρ, hIL, tn, hc0]
  refine wpa_call (tidy_ends_a x) ?_
  rintro a rfl
  simp (maxSteps := 1000000) (implicitDefEqProofs := false) (disch := omega) only [push_cast, ↓reduceIte, Nat.reduceEqDiff, reduceCtorEq, wz, aBool, he]
  first | exact ⟨[], rfl, rfl⟩ | exact ⟨[], rfl⟩
set_option maxHeartbeats 8000000 in
theorem tidy_leads_a (l : List Ix) (hR : Rt l) (hl : l.length ≤ 300) (t : Nat) (ht : t < l.length) : FnP Try.prog 115 [aIxs l, aInt t] fun a => a = aInt (leadF l t : Nat) := by
  refine fnP_in K_tidy_leads mixed rfl (by simp [AV.pureL, aIxs_pure, aInt_pure]) ?_
  simp only [S_tidy_leads, aInt]
  have hIL : aIxs l = .sl l.length (l.flatMap aIx) .none := rfl
  simp (maxSteps := 1000000) (implicitDefEqProofs := false) (disch := omega) only [push_cast, ↓reduceIte, Nat.reduceEqDiff, reduceCtorEq, wz, hIL]
  refine wpa_bl (α := Nat) (I := fun k ε σ => (ε 0 = aIxs l ∧ ε 1 = .v (.int .i64 t) ∧ ε 5 = .v (.int .i64 (runN l k t : Nat)) ∧ ε 8 = .v (.int .i64 l.length) ∧ ε 9 = .v (.int .i64 k)) ∧ k ≤ l.length ∧ ∀ j, j < k → nxt l (runN l j t) ≠ runN l j t)
    (μ := fun k => l.length - k) (Q := fun ε σ => ε 1 = .v (.int .i64 t) ∧ ∀ j, j < l.length → nxt l (runN l j t) ≠ runN l j t) (x := 0) ?_ ?_ ?_
  · simp (maxSteps := 1000000) (implicitDefEqProofs := false) (disch := omega) only [push_cast, ↓reduceIte, Nat.reduceEqDiff, reduceCtorEq, wz, hIL, runN]
    exact ⟨by omega, fun j hj => absurd hj (by omega)⟩
  · rintro k ε σ N E ⟨hρ, hk, hno⟩ hN hE
    simp only [S_tidy_leads_L1]
    by_cases hlt : k < l.length
    · have hu := run_lt hR ht k
      have hl1 : nxt l (runN l k t) = runN l k t → leadF l t = runN l k t := lead_at hR ht
      have hnext : runN l (k + 1) t = nxt l (runN l k t) := rfl
      have hno' : nxt l (runN l k t) ≠ runN l k t → ∀ j, j < k + 1 → nxt l (runN l j t) ≠ runN l j t := fun h j hj => by
        by_cases e : j = k
        · subst e; exact h
        · exact hno j (by omega)
      generalize hU : runN l k t = u at hρ hu hl1 hnext hno'
      obtain ⟨x, hx⟩ := at_lt hu
      have hc0 := op_at hx
      have hc1 := a_at hx
      by_cases c1 : x.op = 18
      · have hn := nxt_jump hx c1
        have htg := hR.tg u x x.a hx (tgt_jump c1)
        obtain ⟨v, hv⟩ : ∃ v : Nat, x.a = v := ⟨x.a.toNat, by omega⟩
        rw [hv] at hc1 hn
        rw [show ((v : Nat) : Int).toNat = v by omega] at hn
        by_cases e : v = u
        · subst e
          rw [hl1 hn]
          simp (maxSteps := 1000000) (implicitDefEqProofs := false) (disch := omega) only [push_cast, ↓reduceIte, Nat.reduceEqDiff, reduceCtorEq, wz, hρ, hIL, hc0, hc1, c1]
          first | exact ⟨[], rfl, rfl⟩ | exact ⟨[], rfl⟩
        · have e' : ¬ ((v : Int) = (u : Int)) := by omega
          simp (maxSteps := 1000000) (implicitDefEqProofs := false) (disch := omega) only [push_cast, ↓reduceIte, Nat.reduceEqDiff, reduceCtorEq, wz, hρ, hIL, hc0, hc1, c1, e']
          refine hN (k + 1) _ _ ⟨?_, by omega, hno' (by rw [hn]; exact e)⟩ (by omega)
          rw [hnext, hn]
          simp (maxSteps := 1000000) (implicitDefEqProofs := false) (disch := omega) only [push_cast, ↓reduceIte, Nat.reduceEqDiff, reduceCtorEq, wz, hρ, hIL]
      · rw [hl1 (nxt_other hx c1)]
        simp (maxSteps := 1000000) (implicitDefEqProofs := false) (disch := omega) only [push_cast, ↓reduceIte, Nat.reduceEqDiff, reduceCtorEq, wz, hρ, hIL, hc0, hc1, c1]
        first | exact ⟨[], rfl, rfl⟩ | exact ⟨[], rfl⟩
    · simp (maxSteps := 1000000) (implicitDefEqProofs := false) (disch := omega) only [push_cast, ↓reduceIte, Nat.reduceEqDiff, reduceCtorEq, wz, hρ]
      obtain rfl : k = l.length := by omega
      exact hE _ _ ⟨by simp (maxSteps := 1000000) (implicitDefEqProofs := false) (disch := omega) only [push_cast, ↓reduceIte, Nat.reduceEqDiff, reduceCtorEq, wz, hρ], hno⟩
  · rintro ε σ ⟨hρ, hno⟩
    rw [lead_no hR ht hno]
    simp (maxSteps := 1000000) (implicitDefEqProofs := false) (disch := omega) only [push_cast, ↓reduceIte, Nat.reduceEqDiff, reduceCtorEq, wz, hρ]
    first | exact ⟨[], rfl, rfl⟩ | exact ⟨[], rfl⟩
end Go.Proofs.Ythgmfjkbgacfaaa
