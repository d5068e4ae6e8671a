/- Tidy, for seat r6: the walks of its functions, and works. (tools/mktza.py) -/
import Derived.Test.YtncdnegdlkmicaaTsc
namespace Go.Proofs.Ytncdnegdlkmicaa
set_option linter.unusedVariables false
set_option linter.unusedSimpArgs false
open Go Go.Kx Go.Proofs


/-- Where an instruction's target stands. -/
def tgA (op : Int) (i w off : Nat) : AV := if op = 18 then .ref i w (off + 1) else if op = 19 then .ref i w (off + 2) else .v (.pointer none)
theorem tg18 {op : Int} (h : op = 18) (i w off : Nat) : tgA op i w off = .ref i w (off + 1) := by unfold tgA; rw [if_pos h]
theorem tg19 {op : Int} (h1 : ¬ op = 18) (h : op = 19) (i w off : Nat) : tgA op i w off = .ref i w (off + 2) := by unfold tgA; rw [if_neg h1, if_pos h]
theorem tg0 {op : Int} (h1 : ¬ op = 18) (h : ¬ op = 19) (i w off : Nat) : tgA op i w off = .v (.pointer none) := by unfold tgA; rw [if_neg h1, if_neg h]
theorem tidy_target_a {σ : Kx.St} {i w off : Nat} {cs : List AV} {op : Int} (h : σ[i]? = some (.obj w cs)) (h0 : cs[off]? = some (.v (.int .i64 op))) :
    FnG Try.prog 59 [.ref i w off] σ fun a σ' => a = tgA op i w off ∧ σ' = σ := by
  refine fnG_in K_tidy_target mixed rfl ?_
  simp only [S_tidy_target]
  unfold tgA
  by_cases c1 : op = 18
  · rw [if_pos c1]
    simp (maxSteps := 1000000) (implicitDefEqProofs := false) (disch := omega) only [push_cast, ↓reduceIte, Nat.reduceEqDiff, reduceCtorEq, wz, h, h0, c1]
    exact trivial
  by_cases c2 : op = 19
  · rw [if_neg c1, if_pos c2]
    simp (maxSteps := 1000000) (implicitDefEqProofs := false) (disch := omega) only [push_cast, ↓reduceIte, Nat.reduceEqDiff, reduceCtorEq, wz, h, h0, c1, c2]
    exact trivial
  simp (maxSteps := 1000000) (implicitDefEqProofs := false) (disch := omega) only [push_cast, ↓reduceIte, Nat.reduceEqDiff, reduceCtorEq, wz, h, h0, c1, c2]
  exact trivial
theorem tidy_ends_a (x : Ix) : FnP Try.prog 96 [aInt x.op] fun a => a = aBool (endsX x) := by
  refine fnP_in K_tidy_ends mixed rfl (by simp [AV.pureL, aInt_pure]) ?_
  simp only [S_tidy_ends, aInt]
  by_cases c1 : x.op = 0
  · have e : endsX x = true := by unfold endsX; simp [c1]
    simp (maxSteps := 1000000) (implicitDefEqProofs := false) (disch := omega) only [push_cast, ↓reduceIte, Nat.reduceEqDiff, reduceCtorEq, wz, c1, e]
    first | exact ⟨[], rfl, rfl⟩ | exact ⟨[], rfl⟩
  by_cases c2 : x.op = 18
  · have e : endsX x = true := by unfold endsX; simp [c2]
    simp (maxSteps := 1000000) (implicitDefEqProofs := false) (disch := omega) only [push_cast, ↓reduceIte, Nat.reduceEqDiff, reduceCtorEq, wz, c1, c2, e]
    first | exact ⟨[], rfl, rfl⟩ | exact ⟨[], rfl⟩
  by_cases c3 : x.op = 25
  · have e : endsX x = true := by unfold endsX; simp [c3]
    simp (maxSteps := 1000000) (implicitDefEqProofs := false) (disch := omega) only [push_cast, ↓reduceIte, Nat.reduceEqDiff, reduceCtorEq, wz, c1, c2, c3, e]
    first | exact ⟨[], rfl, rfl⟩ | exact ⟨[], rfl⟩
  have e : endsX x = false := by unfold endsX; simp [c1, c2, c3]
  simp (maxSteps := 1000000) (implicitDefEqProofs := false) (disch := omega) only [push_cast, ↓reduceIte, Nat.reduceEqDiff, reduceCtorEq, wz, c1, c2, c3, e]
  first | exact ⟨[], rfl, rfl⟩ | exact ⟨[], rfl⟩
theorem z4set (x : Ix) : setAtA [AV.v (.int .i64 0), AV.v (.int .i64 0), AV.v (.int .i64 0), AV.v (.int .i64 0)] 0 (aIx x) = aIx x := rfl
theorem ix0 (x : Ix) : (aIx x)[0]? = some (.v (.int .i64 x.op)) := rfl
theorem ix1 (x : Ix) : (aIx x)[1]? = some (.v (.int .i64 x.a)) := rfl
theorem ix2 (x : Ix) : (aIx x)[2]? = some (.v (.int .i64 x.b)) := rfl
theorem op_at {l : List Ix} {k : Nat} {x : Ix} (hx : l[k]? = some x) : (l.flatMap aIx)[k * 4]? = some (.v (.int .i64 x.op)) := by
  have : ((l.flatMap aIx).drop (k * 4))[0]? = some (.v (.int .i64 x.op)) := by rw [flat_drop aIx_len hx]; rfl
  rwa [List.getElem?_drop, Nat.add_zero] at this
theorem a_at {l : List Ix} {k : Nat} {x : Ix} (hx : l[k]? = some x) : (l.flatMap aIx)[k * 4 + 1]? = some (.v (.int .i64 x.a)) := by rw [← List.getElem?_drop, flat_drop aIx_len hx]; rfl
theorem b_at {l : List Ix} {k : Nat} {x : Ix} (hx : l[k]? = some x) : (l.flatMap aIx)[k * 4 + 2]? = some (.v (.int .i64 x.b)) := by rw [← List.getElem?_drop, flat_drop aIx_len hx]; rfl
set_option maxHeartbeats 8000000 in
theorem tidy_check_a (l : List Ix) (hR : Rt l) (hl : l.length ≤ 200) : FnP Try.prog 57 [aIxs l] fun a => a = aInt 0 := by
  refine fnP_in K_tidy_check mixed rfl (by simp [AV.pureL, aIxs_pure]) ?_
  simp only [S_tidy_check]
  have hIL : aIxs l = .sl l.length (l.flatMap aIx) .none := rfl
  have hpos := hR.pos
  have hp1 : ¬ ((l.length : Int) = 0) := by omega
  have hp2 : ¬ (200 < (l.length : Int)) := by omega
  refine wpa_seqx (fun ε σ => ε 0 = aIxs l) (fun N X' R' hN => by simp (maxSteps := 1000000) (implicitDefEqProofs := false) (disch := omega) only [push_cast, ↓reduceIte, Nat.reduceEqDiff, reduceCtorEq, wz]; exact hN _ _ (by simp (maxSteps := 1000000) (implicitDefEqProofs := false) (disch := omega) only [push_cast, ↓reduceIte, Nat.reduceEqDiff, reduceCtorEq, wz])) ?_
  rintro ε σ hρ
  refine wpa_seq (fun ε σ => ε 0 = aIxs l) ?_ ?_
  · intro N hN
    simp (maxSteps := 1000000) (implicitDefEqProofs := false) (disch := omega) only [push_cast, ↓reduceIte, Nat.reduceEqDiff, reduceCtorEq, wz, hρ, hIL, hp1, hp2]
    exact hN _ _ (by simp (maxSteps := 1000000) (implicitDefEqProofs := false) (disch := omega) only [push_cast, ↓reduceIte, Nat.reduceEqDiff, reduceCtorEq, wz, hρ]; try rfl)
  clear hρ ε σ
  rintro ε σ hρ
  refine wpa_seq (fun ε σ => ε 0 = aIxs l) ?_ ?_
  · intro N hN
    simp (maxSteps := 1000000) (implicitDefEqProofs := false) (disch := omega) only [push_cast, ↓reduceIte, Nat.reduceEqDiff, reduceCtorEq, wz, hρ, hIL]
    refine wpa_bl (α := Nat) (I := fun k ε σ => (ε 0 = aIxs l ∧ ε 14 = aIxs l ∧ ε 15 = .v (.int .i64 l.length) ∧ ε 16 = .v (.int .i64 k)) ∧ k ≤ l.length)
      (μ := fun k => l.length - k) (Q := fun ε σ => ε 0 = aIxs l) (x := 0) ?_ ?_ hN
    · simp (maxSteps := 1000000) (implicitDefEqProofs := false) (disch := omega) only [push_cast, ↓reduceIte, Nat.reduceEqDiff, reduceCtorEq, wz, hρ, hIL]
      omega
    · clear hN N hρ ε σ
      rintro k ε σ N E ⟨hρ, hk⟩ hN hE
      simp only [S_tidy_check_L1]
      by_cases hlt : k < l.length
      · obtain ⟨x, hx⟩ := at_lt hlt
        have hd := flat_drop aIx_len hx
        simp (maxSteps := 1000000) (implicitDefEqProofs := false) (disch := omega) only [push_cast, ↓reduceIte, Nat.reduceEqDiff, reduceCtorEq, wz, hρ, hIL, hd, cellsIx]
        refine wpa_new ?_
        simp (maxSteps := 1000000) (implicitDefEqProofs := false) (disch := omega) only [push_cast, ↓reduceIte, Nat.reduceEqDiff, reduceCtorEq, wz]
        refine wpa_stn (cs := [AV.v (.int .i64 0), AV.v (.int .i64 0), AV.v (.int .i64 0), AV.v (.int .i64 0)]) rfl rfl (at_snoc _ _) (by simp) ?_
        rw [z4set, set_snoc]
        have hb : (σ ++ [Res.obj 0 (aIx x)])[σ.length]? = some (.obj 0 (aIx x)) := at_snoc _ _
        generalize σ ++ [Res.obj 0 (aIx x)] = S at hb ⊢
        generalize σ.length = i0 at hb ⊢
        simp (maxSteps := 1000000) (implicitDefEqProofs := false) (disch := omega) only [push_cast, ↓reduceIte, Nat.reduceEqDiff, reduceCtorEq, wz]
        refine wpa_callG (tidy_target_a hb (ix0 x)) ?_
        rintro a σ' ⟨rfl, rfl⟩
        by_cases c1 : x.op = 18
        · have ht := hR.tg k x x.a hx (by unfold tgtX; rw [if_pos c1])
          have t1 : ¬ x.a < 0 := by omega
          have t2 : ¬ (l.length : Int) ≤ x.a := by omega
          rw [tg18 c1]
          simp (maxSteps := 1000000) (implicitDefEqProofs := false) (disch := omega) only [push_cast, ↓reduceIte, Nat.reduceEqDiff, reduceCtorEq, wz, c1, hb, ix1, t1, t2, hρ, hIL]
          refine hN (k + 1) _ _ ?_ (by omega)
          exact ⟨by simp (maxSteps := 1000000) (implicitDefEqProofs := false) (disch := omega) only [push_cast, ↓reduceIte, Nat.reduceEqDiff, reduceCtorEq, wz, hρ], by omega⟩
        by_cases c2 : x.op = 19
        · have ht := hR.tg k x x.b hx (by unfold tgtX; rw [if_neg c1, if_pos c2])
          have t1 : ¬ x.b < 0 := by omega
          have t2 : ¬ (l.length : Int) ≤ x.b := by omega
          rw [tg19 c1 c2]
          simp (maxSteps := 1000000) (implicitDefEqProofs := false) (disch := omega) only [push_cast, ↓reduceIte, Nat.reduceEqDiff, reduceCtorEq, wz, c1, c2, hb, ix2, t1, t2, hρ, hIL]
          refine hN (k + 1) _ _ ?_ (by omega)
          exact ⟨by simp (maxSteps := 1000000) (implicitDefEqProofs := false) (disch := omega) only [push_cast, ↓reduceIte, Nat.reduceEqDiff, reduceCtorEq, wz, hρ], by omega⟩
        rw [tg0 c1 c2]
        simp (maxSteps := 1000000) (implicitDefEqProofs := false) (disch := omega) only [push_cast, ↓reduceIte, Nat.reduceEqDiff, reduceCtorEq, wz, c1, c2, hρ, Option.isNone_none]
        refine hN (k + 1) _ _ ?_ (by omega)
        exact ⟨by simp (maxSteps := 1000000) (implicitDefEqProofs := false) (disch := omega) only [push_cast, ↓reduceIte, Nat.reduceEqDiff, reduceCtorEq, wz, hρ], by omega⟩
      · simp (maxSteps := 1000000) (implicitDefEqProofs := false) (disch := omega) only [push_cast, ↓reduceIte, Nat.reduceEqDiff, reduceCtorEq, wz, hρ]
        exact hE _ _ (by simp (maxSteps := 1000000) (implicitDefEqProofs := false) (disch := omega) only [push_cast, ↓reduceIte, Nat.reduceEqDiff, reduceCtorEq, wz, hρ])
  clear hρ ε σ
  rintro ε σ hρ
  obtain ⟨x, hx⟩ := at_lt (l := l) (k := l.length - 1) (by omega)
  have hc0 := op_at hx
  have tn : ((l.length : Int) - 1).toNat = l.length - 1 := by omega
  have he := hR.last x hx
  simp (maxSteps := 1000000) (implicitDefEqProofs := false) (disch := omega) only [push_cast, ↓reduceIte, Nat.reduceEqDiff, reduceCtorEq, wz, hρ, hIL, tn, hc0]
  refine wpa_call (tidy_ends_a x) ?_
  rintro a rfl
  simp (maxSteps := 1000000) (implicitDefEqProofs := false) (disch := omega) only [push_cast, ↓reduceIte, Nat.reduceEqDiff, reduceCtorEq, wz, aBool, he]
  first | exact ⟨[], rfl, rfl⟩ | exact ⟨[], rfl⟩
set_option maxHeartbeats 8000000 in
theorem tidy_leads_a (l : List Ix) (hR : Rt l) (hl : l.length ≤ 300) (t : Nat) (ht : t < l.length) : FnP Try.prog 100 [aIxs l, aInt t] fun a => a = aInt (leadF l t : Nat) := by
  refine fnP_in K_tidy_leads mixed rfl (by simp [AV.pureL, aIxs_pure, aInt_pure]) ?_
  simp only [S_tidy_leads, aInt]
  have hIL : aIxs l = .sl l.length (l.flatMap aIx) .none := rfl
  simp (maxSteps := 1000000) (implicitDefEqProofs := false) (disch := omega) only [push_cast, ↓reduceIte, Nat.reduceEqDiff, reduceCtorEq, wz, hIL]
  refine wpa_bl (α := Nat) (I := fun k ε σ => (ε 0 = aIxs l ∧ ε 1 = .v (.int .i64 t) ∧ ε 5 = .v (.int .i64 (runN l k t : Nat)) ∧ ε 8 = .v (.int .i64 l.length) ∧ ε 9 = .v (.int .i64 k)) ∧ k ≤ l.length ∧ ∀ j, j < k → nxt l (runN l j t) ≠ runN l j t)
    (μ := fun k => l.length - k) (Q := fun ε σ => ε 1 = .v (.int .i64 t) ∧ ∀ j, j < l.length → nxt l (runN l j t) ≠ runN l j t) (x := 0) ?_ ?_ ?_
  · simp (maxSteps := 1000000) (implicitDefEqProofs := false) (disch := omega) only [push_cast, ↓reduceIte, Nat.reduceEqDiff, reduceCtorEq, wz, hIL, runN]
    exact ⟨by omega, fun j hj => absurd hj (by omega)⟩
  · rintro k ε σ N E ⟨hρ, hk, hno⟩ hN hE
    simp only [S_tidy_leads_L1]
    by_cases hlt : k < l.length
    · have hu := run_lt hR ht k
      have hl1 : nxt l (runN l k t) = runN l k t → leadF l t = runN l k t := lead_at hR ht
      have hnext : runN l (k + 1) t = nxt l (runN l k t) := rfl
      have hno' : nxt l (runN l k t) ≠ runN l k t → ∀ j, j < k + 1 → nxt l (runN l j t) ≠ runN l j t := fun h j hj => by
        by_cases e : j = k
        · subst e; exact h
        · exact hno j (by omega)
      generalize hU : runN l k t = u at hρ hu hl1 hnext hno'
      obtain ⟨x, hx⟩ := at_lt hu
      have hc0 := op_at hx
      have hc1 := a_at hx
      by_cases c1 : x.op = 18
      · have hn := nxt_jump hx c1
        have htg := hR.tg u x x.a hx (tgt_jump c1)
        obtain ⟨v, hv⟩ : ∃ v : Nat, x.a = v := ⟨x.a.toNat, by omega⟩
        rw [hv] at hc1 hn
        rw [show ((v : Nat) : Int).toNat = v by omega] at hn
        by_cases e : v = u
        · subst e
          rw [hl1 hn]
          simp (maxSteps := 1000000) (implicitDefEqProofs := false) (disch := omega) only [push_cast, ↓reduceIte, Nat.reduceEqDiff, reduceCtorEq, wz, hρ, hIL, hc0, hc1, c1]
          first | exact ⟨[], rfl, rfl⟩ | exact ⟨[], rfl⟩
        · have e' : ¬ ((v : Int) = (u : Int)) := by omega
          simp (maxSteps := 1000000) (implicitDefEqProofs := false) (disch := omega) only [push_cast, ↓reduceIte, Nat.reduceEqDiff, reduceCtorEq, wz, hρ, hIL, hc0, hc1, c1, e']
          refine hN (k + 1) _ _ ⟨?_, by omega, hno' (by rw [hn]; exact e)⟩ (by omega)
          rw [hnext, hn]
          simp (maxSteps := 1000000) (implicitDefEqProofs := false) (disch := omega) only [push_cast, ↓reduceIte, Nat.reduceEqDiff, reduceCtorEq, wz, hρ, hIL]
      · rw [hl1 (nxt_other hx c1)]
        simp (maxSteps := 1000000) (implicitDefEqProofs := false) (disch := omega) only [push_cast, ↓reduceIte, Nat.reduceEqDiff, reduceCtorEq, wz, hρ, hIL, hc0, hc1, c1]
        first | exact ⟨[], rfl, rfl⟩ | exact ⟨[], rfl⟩
    · simp (maxSteps := 1000000) (implicitDefEqProofs := false) (disch := omega) only [push_cast, ↓reduceIte, Nat.reduceEqDiff, reduceCtorEq, wz, hρ]
      obtain rfl : k = l.length := by omega
      exact hE _ _ ⟨by simp (maxSteps := 1000000) (implicitDefEqProofs := false) (disch := omega) only [push_cast, ↓reduceIte, Nat.reduceEqDiff, reduceCtorEq, wz, hρ], hno⟩
  · rintro ε σ ⟨hρ, hno⟩
    rw [lead_no hR ht hno]
    simp (maxSteps := 1000000) (implicitDefEqProofs := false) (disch := omega) only [push_cast, ↓reduceIte, Nat.reduceEqDiff, reduceCtorEq, wz, hρ]
    first | exact ⟨[], rfl, rfl⟩ | exact ⟨[], rfl⟩


def aNt (i : Nat) : AV := .v (.int .i64 i)
def TdAt (σ : Kx.St) (w : Nat) (todo : List Nat) : Prop := ∃ cs, σ[1]? = some (.obj w cs) ∧ todo.length ≤ cs.length ∧ cs.take todo.length = todo.reverse.map aNt
theorem TdAt.top {σ : Kx.St} {w i : Nat} {todo : List Nat} (h : TdAt σ w (i :: todo)) : ∃ cs, σ[1]? = some (.obj w cs) ∧ cs[todo.length]? = some (.v (.int .i64 i)) := by
  obtain ⟨cs, h1, h2, h3⟩ := h
  refine ⟨cs, h1, ?_⟩
  have : (cs.take (todo.length + 1))[todo.length]? = some (.v (.int .i64 i)) := by
    have e : cs.take (todo.length + 1) = (i :: todo).reverse.map aNt := h3
    rw [e, List.reverse_cons, List.map_append, List.getElem?_append_right (by simp)]
    simp [aNt]
  rwa [List.getElem?_take_of_lt (by omega)] at this
theorem TdAt.pop {σ : Kx.St} {w i : Nat} {todo : List Nat} (h : TdAt σ w (i :: todo)) : TdAt σ w todo := by
  obtain ⟨cs, h1, h2, h3⟩ := h
  simp only [List.length_cons] at h2
  refine ⟨cs, h1, by omega, ?_⟩
  have e : cs.take (todo.length + 1) = (i :: todo).reverse.map aNt := h3
  have : (cs.take (todo.length + 1)).take todo.length = todo.reverse.map aNt := by
    rw [e, List.reverse_cons, List.map_append, List.take_append_of_le_length (by simp), List.take_of_length_le (by simp)]
  rwa [List.take_take, Nat.min_eq_left (by omega)] at this
theorem aBools_pure (l : List Bool) : (aSl aBool l).pure = true := aSl_pure aBool_pure l
theorem aBoolL_res (σ : St) (l : List Bool) : AV.resL σ (l.map aBool) = l.map aBool := by
  rw [resL_map, List.map_map]; exact List.map_congr_left fun x _ => aBool_res σ x
theorem setBo {s : List Bool} {i : Nat} {b : Bool} : (s.map aBool).set i (.v (.bool b)) = (s.set i b).map aBool := by rw [List.map_set]; rfl
theorem repBo (n : Nat) : List.replicate n (AV.v (.bool false)) = (List.replicate n false).map aBool := by simp [aBool]
/-- Pushed on top. -/
theorem TdAt.push {σ : Kx.St} {w : Nat} {todo : List Nat} {cs : List AV} (h1 : σ[1]? = some (.obj w cs)) (h2 : todo.length ≤ cs.length) (h3 : cs.take todo.length = todo.reverse.map aNt) (j : Nat) :
    TdAt (σ.set 1 (.obj (w + 1) (cs.take todo.length ++ [.v (.int .i64 j)]))) (w + 1) (j :: todo) := by
  refine ⟨_, get_set_eq h1, by simp; omega, ?_⟩
  rw [List.take_of_length_le (by simp; omega), h3]
  simp [aNt]
theorem succ_end {l : List Ix} {i : Nat} {x : Ix} (hx : l[i]? = some x) : succX l i = (match tgtX x with | some t => [t.toNat] | none => []) ++ (if endsX x then [] else [i + 1]) := by unfold succX; rw [hx]; rfl
set_option maxHeartbeats 16000000 in
theorem tidy_reached_a (l : List Ix) (hR : Rt l) (hl : l.length ≤ 300) : FnP Try.prog 58 [aIxs l] fun a => a = aSl aBool (reachB l) := by
  refine fnP_in K_tidy_reached mixed rfl (by simp [AV.pureL, aIxs_pure]) ?_
  simp only [S_tidy_reached]
  have hIL : aIxs l = .sl l.length (l.flatMap aIx) .none := rfl
  have hpos := hR.pos
  refine wpa_seqx (fun ε σ => ε 0 = aIxs l ∧ σ = []) (fun N X' R' hN => by simp (maxSteps := 1000000) (implicitDefEqProofs := false) (disch := omega) only [push_cast, ↓reduceIte, Nat.reduceEqDiff, reduceCtorEq, wz]; exact hN _ _ (by simp (maxSteps := 1000000) (implicitDefEqProofs := false) (disch := omega) only [push_cast, ↓reduceIte, Nat.reduceEqDiff, reduceCtorEq, wz])) ?_
  rintro ε σ ⟨hρ, rfl⟩
  refine wpa_seqx (fun ε σ => (ε 0 = aIxs l ∧ ε 3 = .ms 0 0 0 l.length 1) ∧ σ = [.obj 0 ((List.replicate l.length false).map aBool)]) ?_ ?_
  · intro N X R hN
    simp (maxSteps := 1000000) (implicitDefEqProofs := false) (disch := omega) only [push_cast, ↓reduceIte, Nat.reduceEqDiff, reduceCtorEq, wz, hρ, hIL]
    refine wpa_mks rfl (by omega) (by omega) ?_
    simp (maxSteps := 1000000) (implicitDefEqProofs := false) (disch := omega) only [push_cast, ↓reduceIte, Nat.reduceEqDiff, reduceCtorEq, wz, repA_one, repBo]
    exact hN _ _ (by simp (maxSteps := 1000000) (implicitDefEqProofs := false) (disch := omega) only [push_cast, ↓reduceIte, Nat.reduceEqDiff, reduceCtorEq, wz, hρ, repA_one, repBo, hIL])
  clear hρ ε
  rintro ε σ ⟨hρ, rfl⟩
  refine wpa_seqx (fun ε σ => (ε 0 = aIxs l ∧ ε 3 = .ms 0 0 0 l.length 1 ∧ ε 4 = .ms 1 0 0 1 1) ∧ σ[0]? = some (.obj 0 ((List.replicate l.length false).map aBool)) ∧ TdAt σ 0 [0]) ?_ ?_
  · intro N X R hN
    simp (maxSteps := 1000000) (implicitDefEqProofs := false) (disch := omega) only [push_cast, ↓reduceIte, Nat.reduceEqDiff, reduceCtorEq, wz, hρ]
    refine wpa_bslo (sz := 1) (by intro a ha; simp at ha; subst ha; rfl) (by simp) ?_
    simp (maxSteps := 1000000) (implicitDefEqProofs := false) (disch := omega) only [push_cast, ↓reduceIte, Nat.reduceEqDiff, reduceCtorEq, wz]
    exact hN _ _ ⟨by simp (maxSteps := 1000000) (implicitDefEqProofs := false) (disch := omega) only [push_cast, ↓reduceIte, Nat.reduceEqDiff, reduceCtorEq, wz, hρ], rfl, ⟨_, rfl, by simp, by simp [aNt, AV.cells, Value.cells]⟩⟩
  clear hρ ε
  rintro ε σ ⟨hρ, hs0, hs1⟩
  refine wpa_seqx (fun ε σ => ε 3 = .ms 0 0 0 l.length 1 ∧ σ[0]? = some (.obj 0 ((reachB l).map aBool))) ?_ ?_
  · intro N X R hN
    simp (maxSteps := 1000000) (implicitDefEqProofs := false) (disch := omega) only [push_cast, ↓reduceIte, Nat.reduceEqDiff, reduceCtorEq, wz]
    refine wpa_blx (α := Nat × List Bool × List Nat) (I := fun s ε σ => ∃ w, (ε 0 = aIxs l ∧ ε 3 = .ms 0 0 0 l.length 1 ∧ ε 4 = .ms 1 w 0 s.2.2.length 1) ∧ σ[0]? = some (.obj 0 (s.2.1.map aBool)) ∧ TdAt σ w s.2.2 ∧ Iv l s.2.1 s.2.2 ∧ 3 * cf s.2.1 + s.2.2.length ≤ s.1 ∧ s.1 ≤ 901 ∧ reachB l = dfs l s.1 s.2.1 s.2.2)
      (μ := fun s => s.1) (Q := fun ε σ => ε 3 = .ms 0 0 0 l.length 1 ∧ σ[0]? = some (.obj 0 ((reachB l).map aBool))) (x := (3 * l.length + 1, List.replicate l.length false, [0])) ?_ ?_ hN
    · exact ⟨0, hρ, hs0, hs1, iv0 l, by rw [cf_rep]; simp, by omega, rfl⟩
    · clear hN N X R hρ hs0 hs1 ε σ
      rintro ⟨n, out, todo⟩ ε σ N E X R ⟨w, hρ, hs0, hs1, hI, hn, hn9, hD⟩ hN hE
      simp only at hρ hs0 hs1 hI hn hn9 hD
      simp only [S_tidy_reached_L1]
      cases todo with
      | nil =>
        have hz : ¬ (0 : Int) < ((0 : Nat) : Int) := by omega
        simp (maxSteps := 1000000) (implicitDefEqProofs := false) (disch := omega) only [push_cast, ↓reduceIte, Nat.reduceEqDiff, reduceCtorEq, wz, hρ]
        refine hE _ _ ⟨by simp (maxSteps := 1000000) (implicitDefEqProofs := false) (disch := omega) only [push_cast, ↓reduceIte, Nat.reduceEqDiff, reduceCtorEq, wz, hρ], ?_⟩
        have : dfs l n out [] = out := by cases n <;> rfl
        rw [hD, this]
        exact hs0
      | cons i todo =>
        obtain ⟨n, rfl⟩ : ∃ n', n = n' + 1 := ⟨n - 1, by simp at hn; omega⟩
        have hi := (hI.tdo i (by simp)).lt hR
        obtain ⟨b, hb⟩ := at_lt (l := out) (k := i) (by rw [hI.len]; exact hi)
        obtain ⟨x, hx⟩ := at_lt hi
        simp only [dfs, List.getD_eq_getElem?_getD, hb, Option.getD_some] at hD
        simp only [List.length_cons] at hρ hn
        have hgt : (0 : Int) < ((todo.length + 1 : Nat) : Int) := by omega
        have tn : (((todo.length + 1 : Nat) : Int) - 1).toNat = todo.length := by omega
        have tn2 : ((todo.length : Int) + 1 - 1).toNat = todo.length := by omega
        refine wpa_seq (fun ε' σ' => (ε' 0 = aIxs l ∧ ε' 3 = .ms 0 0 0 l.length 1 ∧ ε' 4 = .ms 1 w 0 (todo.length + 1) 1) ∧ σ = σ') ?_ ?_
        · intro N2 hN2
          have hgt' : (0 : Int) < (todo.length : Int) + 1 := by omega
          simp (maxSteps := 1000000) (implicitDefEqProofs := false) (disch := omega) only [push_cast, ↓reduceIte, Nat.reduceEqDiff, reduceCtorEq, wz, hρ, hgt']
          exact hN2 _ _ ⟨by simp (maxSteps := 1000000) (implicitDefEqProofs := false) (disch := omega) only [push_cast, ↓reduceIte, Nat.reduceEqDiff, reduceCtorEq, wz, hρ], rfl⟩
        clear hρ ε
        rintro ε σ' ⟨hρ, rfl⟩
        refine wpa_blk fun X' hX' => ?_
        have hX1 : ∀ ε σ, X' 1 ε σ = N ε σ := fun ε σ => by rw [hX']; rfl
        refine wpa_seqx (fun ε' σ' => (ε' 0 = aIxs l ∧ ε' 3 = .ms 0 0 0 l.length 1 ∧ ε' 4 = .ms 1 w 0 (todo.length + 1) 1 ∧ ε' 5 = .v (.int .i64 i)) ∧ σ = σ') ?_ ?_
        · intro N2 X2 R2 hN2
          obtain ⟨cs, t1, t2⟩ := hs1.top
          simp (maxSteps := 1000000) (implicitDefEqProofs := false) (disch := omega) only [push_cast, ↓reduceIte, Nat.reduceEqDiff, reduceCtorEq, wz, hρ, tn2, t1, t2]
          exact hN2 _ _ ⟨by simp (maxSteps := 1000000) (implicitDefEqProofs := false) (disch := omega) only [push_cast, ↓reduceIte, Nat.reduceEqDiff, reduceCtorEq, wz, hρ], rfl⟩
        clear hρ ε
        rintro ε σ' ⟨hρ, rfl⟩
        replace hs1 := hs1.pop
        refine wpa_seqx (fun ε' σ' => (ε' 0 = aIxs l ∧ ε' 3 = .ms 0 0 0 l.length 1 ∧ ε' 4 = .ms 1 w 0 todo.length 1 ∧ ε' 5 = .v (.int .i64 i)) ∧ σ = σ') ?_ ?_
        · intro N2 X2 R2 hN2
          simp (maxSteps := 1000000) (implicitDefEqProofs := false) (disch := omega) only [push_cast, ↓reduceIte, Nat.reduceEqDiff, reduceCtorEq, wz, hρ, tn2]
          exact hN2 _ _ ⟨by simp (maxSteps := 1000000) (implicitDefEqProofs := false) (disch := omega) only [push_cast, ↓reduceIte, Nat.reduceEqDiff, reduceCtorEq, wz, hρ, tn2], rfl⟩
        clear hρ ε
        rintro ε σ' ⟨hρ, rfl⟩
        have hob : (out.map aBool)[i]? = some (.v (.bool b)) := by rw [List.getElem?_map, hb]; rfl
        have hX1' := hX1
        refine wpa_seq (fun ε' σ' => (ε' 0 = aIxs l ∧ ε' 3 = .ms 0 0 0 l.length 1 ∧ ε' 4 = .ms 1 w 0 todo.length 1 ∧ ε' 5 = .v (.int .i64 i)) ∧ σ = σ' ∧ b = false) ?_ ?_
        · intro N2 hN2
          cases b with
          | true =>
            simp (maxSteps := 1000000) (implicitDefEqProofs := false) (disch := omega) only [push_cast, ↓reduceIte, Nat.reduceEqDiff, reduceCtorEq, wz, hρ, hs0, hob, hX1]
            refine hN (n, out, todo) _ _ ?_ (by simp only; omega)
            exact ⟨w, by simp (maxSteps := 1000000) (implicitDefEqProofs := false) (disch := omega) only [push_cast, ↓reduceIte, Nat.reduceEqDiff, reduceCtorEq, wz, hρ], hs0, hs1, hI.skip hb, by simp only; omega, by simp only; omega, hD⟩
          | false =>
            simp (maxSteps := 1000000) (implicitDefEqProofs := false) (disch := omega) only [push_cast, ↓reduceIte, Nat.reduceEqDiff, reduceCtorEq, wz, hρ, hs0, hob]
            exact hN2 _ _ ⟨by simp (maxSteps := 1000000) (implicitDefEqProofs := false) (disch := omega) only [push_cast, ↓reduceIte, Nat.reduceEqDiff, reduceCtorEq, wz, hρ], rfl, rfl⟩
        clear hρ ε
        rintro ε σ' ⟨hρ, rfl, rfl⟩
        simp only [Bool.false_eq_true, if_false] at hD
        have hmk := hI.mark hb
        have hcf := cf_set hb
        have hsl := succ_len l i
        have hse := succ_end hx
        clear hI
        refine wpa_seqx (fun ε' σ' => (ε' 0 = aIxs l ∧ ε' 3 = .ms 0 0 0 l.length 1 ∧ ε' 4 = .ms 1 w 0 todo.length 1 ∧ ε' 5 = .v (.int .i64 i)) ∧ σ'[0]? = some (.obj 0 ((out.set i true).map aBool)) ∧ TdAt σ' w todo) ?_ ?_
        · intro N2 X2 R2 hN2
          simp (maxSteps := 1000000) (implicitDefEqProofs := false) (disch := omega) only [push_cast, ↓reduceIte, Nat.reduceEqDiff, reduceCtorEq, wz, hρ]
          have hol := lt_at hob
          refine wpa_st1 rfl rfl hs0 (by simpa using hol) ?_
          simp (maxSteps := 1000000) (implicitDefEqProofs := false) (disch := omega) only [push_cast, ↓reduceIte, Nat.reduceEqDiff, reduceCtorEq, wz, setBo]
          obtain ⟨cs, t1, t2⟩ := hs1
          exact hN2 _ _ ⟨by simp (maxSteps := 1000000) (implicitDefEqProofs := false) (disch := omega) only [push_cast, ↓reduceIte, Nat.reduceEqDiff, reduceCtorEq, wz, hρ], get_set_eq hs0, cs, get_set_ne (by decide) t1, t2⟩
        clear hρ hs0 hs1 hob hb hX1' ε σ
        rintro ε σ ⟨hρ, hs0, hs1⟩
        generalize out.set i true = out' at hs0 hmk hcf hD
        have hd := flat_drop aIx_len hx
        refine wpa_seqx (fun ε' σ' => ∃ ip, (ε' 0 = aIxs l ∧ ε' 3 = .ms 0 0 0 l.length 1 ∧ ε' 4 = .ms 1 w 0 todo.length 1 ∧ ε' 5 = .v (.int .i64 i) ∧ ε' 6 = .ref ip 0 0) ∧ σ'[0]? = some (.obj 0 (out'.map aBool)) ∧ TdAt σ' w todo ∧ σ'[ip]? = some (.obj 0 (aIx x)) ∧ ip ≠ 1) ?_ ?_
        · intro N2 X2 R2 hN2
          simp (maxSteps := 1000000) (implicitDefEqProofs := false) (disch := omega) only [push_cast, ↓reduceIte, Nat.reduceEqDiff, reduceCtorEq, wz, hρ, hIL, hd, cellsIx]
          refine wpa_new ?_
          simp (maxSteps := 1000000) (implicitDefEqProofs := false) (disch := omega) only [push_cast, ↓reduceIte, Nat.reduceEqDiff, reduceCtorEq, wz]
          refine wpa_stn (cs := [AV.v (.int .i64 0), AV.v (.int .i64 0), AV.v (.int .i64 0), AV.v (.int .i64 0)]) rfl rfl (at_snoc _ _) (by simp) ?_
          rw [z4set, set_snoc]
          simp (maxSteps := 1000000) (implicitDefEqProofs := false) (disch := omega) only [push_cast, ↓reduceIte, Nat.reduceEqDiff, reduceCtorEq, wz]
          obtain ⟨cs, t1, t2⟩ := hs1
          exact hN2 _ _ ⟨σ.length, by simp (maxSteps := 1000000) (implicitDefEqProofs := false) (disch := omega) only [push_cast, ↓reduceIte, Nat.reduceEqDiff, reduceCtorEq, wz, hρ, hIL], get_app hs0, ⟨cs, get_app t1, t2⟩, at_snoc _ _, by have := lt_at t1; omega⟩
        clear hρ hs0 hs1 ε σ
        rintro ε σ ⟨ip, hρ, hs0, hs1, hip, hip1⟩
        -- the next one
        refine wpa_seqx (fun ε' σ' => ∃ w, (ε' 0 = aIxs l ∧ ε' 3 = .ms 0 0 0 l.length 1 ∧ ε' 4 = .ms 1 w 0 ((if endsX x then [] else [i + 1]) ++ todo).length 1 ∧ ε' 5 = .v (.int .i64 i) ∧ ε' 6 = .ref ip 0 0) ∧ σ'[0]? = some (.obj 0 (out'.map aBool)) ∧ TdAt σ' w ((if endsX x then [] else [i + 1]) ++ todo) ∧ σ'[ip]? = some (.obj 0 (aIx x))) ?_ ?_
        · intro N2 X2 R2 hN2
          simp (maxSteps := 1000000) (implicitDefEqProofs := false) (disch := omega) only [push_cast, ↓reduceIte, Nat.reduceEqDiff, reduceCtorEq, wz, hρ, hip, ix0]
          refine wpa_call (tidy_ends_a x) ?_
          rintro a rfl
          cases he : endsX x with
          | true =>
            rw [he] at hN2
            simp (maxSteps := 1000000) (implicitDefEqProofs := false) (disch := omega) only [push_cast, ↓reduceIte, Nat.reduceEqDiff, reduceCtorEq, wz, aBool]
            exact hN2 _ _ ⟨w, (by simp (maxSteps := 1000000) (implicitDefEqProofs := false) (disch := omega) only [push_cast, ↓reduceIte, Nat.reduceEqDiff, reduceCtorEq, wz, hρ]; try rfl), hs0, hs1, hip⟩
          | false =>
            rw [he] at hN2
            obtain ⟨cs, t1, t2, t3⟩ := hs1
            simp (maxSteps := 1000000) (implicitDefEqProofs := false) (disch := omega) only [push_cast, ↓reduceIte, Nat.reduceEqDiff, reduceCtorEq, wz, aBool, hρ]
            refine wpa_bsl (sz := 1) (by intro a ha; simp at ha; subst ha; rfl) (by simp) ?_
            simp (maxSteps := 1000000) (implicitDefEqProofs := false) (disch := omega) only [push_cast, ↓reduceIte, Nat.reduceEqDiff, reduceCtorEq, wz]
            refine wpa_app_ms (m := 1) rfl rfl rfl rfl (by omega) (by omega) (by omega) t1 ?_
            simp (maxSteps := 1000000) (implicitDefEqProofs := false) (disch := omega) only [push_cast, ↓reduceIte, Nat.reduceEqDiff, reduceCtorEq, wz]
            refine hN2 _ _ ⟨w + 1, (by simp (maxSteps := 1000000) (implicitDefEqProofs := false) (disch := omega) only [push_cast, ↓reduceIte, Nat.reduceEqDiff, reduceCtorEq, wz, hρ]; try simp), get_set_ne (by decide) hs0, ?_, get_set_ne (fun h => hip1 h.symm) hip⟩
            exact TdAt.push t1 t2 t3 (i + 1)
        clear hρ hs0 hs1 hip ε σ w
        rintro ε σ ⟨w, hρ, hs0, hs1, hip⟩
        generalize hT : (if endsX x then [] else [i + 1]) ++ todo = T at hρ hs1
        have hsT : succX l i ++ todo = (match tgtX x with | some t => [t.toNat] | none => []) ++ T := by rw [hse, List.append_assoc, hT]
        have hTl : T.length ≤ todo.length + 1 := by rw [← hT, List.length_append]; split <;> simp <;> omega
        rw [hsT] at hD hmk
        have hlen : (succX l i ++ todo).length = ((match tgtX x with | some t => [t.toNat] | none => []) ++ T).length := by rw [hsT]
        rw [List.length_append] at hlen
        clear hsT hT hse
        refine wpa_seqx (fun ε' σ' => (ε' 0 = aIxs l ∧ ε' 3 = .ms 0 0 0 l.length 1 ∧ ε' 4 = .ms 1 w 0 T.length 1 ∧ ε' 7 = tgA x.op ip 0 0) ∧ σ = σ') ?_ ?_
        · intro N2 X2 R2 hN2
          simp (maxSteps := 1000000) (implicitDefEqProofs := false) (disch := omega) only [push_cast, ↓reduceIte, Nat.reduceEqDiff, reduceCtorEq, wz, hρ]
          refine wpa_callG (tidy_target_a hip (ix0 x)) ?_
          rintro a σ' ⟨rfl, rfl⟩
          simp (maxSteps := 1000000) (implicitDefEqProofs := false) (disch := omega) only [push_cast, ↓reduceIte, Nat.reduceEqDiff, reduceCtorEq, wz]
          exact hN2 _ _ ⟨by simp (maxSteps := 1000000) (implicitDefEqProofs := false) (disch := omega) only [push_cast, ↓reduceIte, Nat.reduceEqDiff, reduceCtorEq, wz, hρ], rfl⟩
        clear hρ ε
        rintro ε σ' ⟨hρ, rfl⟩
        have fin : ∀ (t : Nat), tgtX x = some (t : Int) → ∀ ε' σ' w', (ε' 0 = aIxs l ∧ ε' 3 = .ms 0 0 0 l.length 1 ∧ ε' 4 = .ms 1 w' 0 (T.length + 1) 1) → σ'[0]? = some (.obj 0 (out'.map aBool)) → TdAt σ' w' (t :: T) → act (N ε' σ') := by
          intro t ht ε' σ' w' h1 h2 h3
          rw [ht] at hD hmk hlen
          simp only [Int.toNat_natCast, List.singleton_append] at hD hmk hlen
          exact hN (n, out', t :: T) ε' σ' ⟨w', by simpa using h1, h2, h3, hmk, by simp only [List.length_cons] at hlen ⊢; omega, by simp only; omega, hD⟩ (by simp only; omega)
        by_cases c1 : x.op = 18
        · have htg := hR.tg i x x.a hx (tgt_jump c1)
          obtain ⟨t, ht⟩ : ∃ t : Nat, x.a = t := ⟨x.a.toNat, by omega⟩
          have htx : tgtX x = some (t : Int) := by rw [tgt_jump c1, ht]
          have hi1 := ix1 x
          rw [ht] at hi1
          rw [tg18 c1] at hρ
          obtain ⟨cs, t1, t2, t3⟩ := hs1
          simp (maxSteps := 1000000) (implicitDefEqProofs := false) (disch := omega) only [push_cast, ↓reduceIte, Nat.reduceEqDiff, reduceCtorEq, wz, hρ, hip, hi1]
          refine wpa_bsl (sz := 1) (by intro a ha; simp at ha; subst ha; rfl) (by simp) ?_
          simp (maxSteps := 1000000) (implicitDefEqProofs := false) (disch := omega) only [push_cast, ↓reduceIte, Nat.reduceEqDiff, reduceCtorEq, wz]
          refine wpa_app_ms (m := 1) rfl rfl rfl rfl (by omega) (by omega) (by omega) t1 ?_
          simp (maxSteps := 1000000) (implicitDefEqProofs := false) (disch := omega) only [push_cast, ↓reduceIte, Nat.reduceEqDiff, reduceCtorEq, wz]
          exact fin t htx _ _ (w + 1) (by simp (maxSteps := 1000000) (implicitDefEqProofs := false) (disch := omega) only [push_cast, ↓reduceIte, Nat.reduceEqDiff, reduceCtorEq, wz, hρ]) (get_set_ne (by decide) hs0) (TdAt.push t1 t2 t3 t)
        by_cases c2 : x.op = 19
        · have htx' : tgtX x = some x.b := by unfold tgtX; rw [if_neg c1, if_pos c2]
          have htg := hR.tg i x x.b hx htx'
          obtain ⟨t, ht⟩ : ∃ t : Nat, x.b = t := ⟨x.b.toNat, by omega⟩
          have htx : tgtX x = some (t : Int) := by rw [htx', ht]
          have hi1 := ix2 x
          rw [ht] at hi1
          rw [tg19 c1 c2] at hρ
          obtain ⟨cs, t1, t2, t3⟩ := hs1
          simp (maxSteps := 1000000) (implicitDefEqProofs := false) (disch := omega) only [push_cast, ↓reduceIte, Nat.reduceEqDiff, reduceCtorEq, wz, hρ, hip, hi1]
          refine wpa_bsl (sz := 1) (by intro a ha; simp at ha; subst ha; rfl) (by simp) ?_
          simp (maxSteps := 1000000) (implicitDefEqProofs := false) (disch := omega) only [push_cast, ↓reduceIte, Nat.reduceEqDiff, reduceCtorEq, wz]
          refine wpa_app_ms (m := 1) rfl rfl rfl rfl (by omega) (by omega) (by omega) t1 ?_
          simp (maxSteps := 1000000) (implicitDefEqProofs := false) (disch := omega) only [push_cast, ↓reduceIte, Nat.reduceEqDiff, reduceCtorEq, wz]
          exact fin t htx _ _ (w + 1) (by simp (maxSteps := 1000000) (implicitDefEqProofs := false) (disch := omega) only [push_cast, ↓reduceIte, Nat.reduceEqDiff, reduceCtorEq, wz, hρ]) (get_set_ne (by decide) hs0) (TdAt.push t1 t2 t3 t)
        have htx : tgtX x = none := by unfold tgtX; rw [if_neg c1, if_neg c2]
        rw [htx] at hD hmk hlen
        simp only [List.nil_append] at hD hmk hlen
        rw [tg0 c1 c2] at hρ
        simp (maxSteps := 1000000) (implicitDefEqProofs := false) (disch := omega) only [push_cast, ↓reduceIte, Nat.reduceEqDiff, reduceCtorEq, wz, hρ, Option.isNone_none]
        refine hN (n, out', T) _ _ ⟨w, by simp (maxSteps := 1000000) (implicitDefEqProofs := false) (disch := omega) only [push_cast, ↓reduceIte, Nat.reduceEqDiff, reduceCtorEq, wz, hρ], hs0, hs1, hmk, by simp only; omega, by simp only; omega, hD⟩ (by simp only; omega)
  clear hρ hs0 hs1 ε σ
  rintro ε σ ⟨hρ, hs0⟩
  obtain ⟨hlen, _⟩ := reachB_spec hR
  simp (maxSteps := 1000000) (implicitDefEqProofs := false) (disch := omega) only [push_cast, ↓reduceIte, Nat.reduceEqDiff, reduceCtorEq, wz, hρ]
  refine fin_res [0] ?_ (aBools_pure _)
  rw [freeze_one hs0 (aBoolL_res _ _), res_ms (get_set_eq hs0) (by simp [hlen]), ← hlen]
  rfl


theorem tidy_Reached_a (l : List Ix) (hR : Rt l) (hl : l.length ≤ 200) : FnP Try.prog 29 [aIxs l] fun a => a = .tup [aSl aBool (reachB l), aInt 0] := by
  refine fnP_in K_tidy_Reached mixed rfl (by simp [AV.pureL, aIxs_pure]) ?_
  simp only [S_tidy_Reached]
  simp (maxSteps := 1000000) (implicitDefEqProofs := false) (disch := omega) only [push_cast, ↓reduceIte, Nat.reduceEqDiff, reduceCtorEq, wz]
  refine wpa_call (tidy_check_a l hR hl) ?_
  rintro a rfl
  simp (maxSteps := 1000000) (implicitDefEqProofs := false) (disch := omega) only [push_cast, ↓reduceIte, Nat.reduceEqDiff, reduceCtorEq, wz, aInt]
  refine wpa_call (tidy_reached_a l hR (by omega)) ?_
  rintro a rfl
  simp (maxSteps := 1000000) (implicitDefEqProofs := false) (disch := omega) only [push_cast, ↓reduceIte, Nat.reduceEqDiff, reduceCtorEq, wz]
  exact fin_tup2 [] (aSl_res (aBool_res _) _ .none) (res_v _ _) (aBools_pure _) rfl rfl
set_option maxHeartbeats 8000000 in
theorem tidy_Useless_a (l : List Ix) (i : Nat) (hi : i < l.length) (hl : l.length ≤ 300) : FnP Try.prog 31 [aIxs l, aInt i] fun a => a = aBool (usL l i) := by
  refine fnP_in K_tidy_Useless mixed rfl (by simp [AV.pureL, aIxs_pure, aInt_pure]) ?_
  simp only [S_tidy_Useless, aInt]
  have hIL : aIxs l = .sl l.length (l.flatMap aIx) .none := rfl
  obtain ⟨x, hx⟩ := at_lt hi
  have hd := flat_drop aIx_len hx
  have hu : usL l i = usX x i := by unfold usL; rw [hx]
  rw [hu]
  have h1 : ¬ ((i : Int) < 0) := by omega
  have h2 : ¬ ((l.length : Int) ≤ (i : Int)) := by omega
  simp (maxSteps := 1000000) (implicitDefEqProofs := false) (disch := omega) only [push_cast, ↓reduceIte, Nat.reduceEqDiff, reduceCtorEq, wz, hIL, h1, h2, hd, cellsIx]
  refine wpa_new ?_
  simp (maxSteps := 1000000) (implicitDefEqProofs := false) (disch := omega) only [push_cast, ↓reduceIte, Nat.reduceEqDiff, reduceCtorEq, wz]
  refine wpa_stn (cs := [AV.v (.int .i64 0), AV.v (.int .i64 0), AV.v (.int .i64 0), AV.v (.int .i64 0)]) rfl rfl rfl (by decide) ?_
  rw [z4set]
  have hb : ([Res.obj 0 (aIx x)] : Kx.St)[0]? = some (.obj 0 (aIx x)) := rfl
  unfold usX
  by_cases c0 : x.op = 2
  · rw [if_pos c0]
    simp (maxSteps := 1000000) (implicitDefEqProofs := false) (disch := omega) only [push_cast, ↓reduceIte, Nat.reduceEqDiff, reduceCtorEq, wz, ix0, ix1, ix2, c0]
    first | exact ⟨[], rfl, rfl⟩ | exact ⟨[], rfl⟩
  rw [if_neg c0]
  simp (maxSteps := 1000000) (implicitDefEqProofs := false) (disch := omega) only [push_cast, ↓reduceIte, Nat.reduceEqDiff, reduceCtorEq, wz, ix0, ix1, ix2, c0]
  refine wpa_callG (tidy_target_a hb (ix0 x)) ?_
  rintro a σ' ⟨rfl, rfl⟩
  by_cases c1 : x.op = 18
  · rw [tg18 c1, tgt_jump c1]
    simp (maxSteps := 1000000) (implicitDefEqProofs := false) (disch := omega) only [push_cast, ↓reduceIte, Nat.reduceEqDiff, reduceCtorEq, wz, ix0, ix1, ix2]
    first | exact ⟨[], rfl, rfl⟩ | exact ⟨[], rfl⟩
  by_cases c2 : x.op = 19
  · have ht : tgtX x = some x.b := by unfold tgtX; rw [if_neg c1, if_pos c2]
    rw [tg19 c1 c2, ht]
    simp (maxSteps := 1000000) (implicitDefEqProofs := false) (disch := omega) only [push_cast, ↓reduceIte, Nat.reduceEqDiff, reduceCtorEq, wz, ix0, ix1, ix2]
    first | exact ⟨[], rfl, rfl⟩ | exact ⟨[], rfl⟩
  have ht : tgtX x = none := by unfold tgtX; rw [if_neg c1, if_neg c2]
  rw [tg0 c1 c2, ht]
  simp (maxSteps := 1000000) (implicitDefEqProofs := false) (disch := omega) only [push_cast, ↓reduceIte, Nat.reduceEqDiff, reduceCtorEq, wz, Option.isNone_none]
  first | exact ⟨[], rfl, rfl⟩ | exact ⟨[], rfl⟩
theorem aIx_one (l : List Ix) : (l.flatMap aIx).all AV.one = true := by
  rw [List.all_flatMap]; simp only [show ∀ x, (aIx x).all AV.one = true from fun x => rfl]; simp
theorem Clone_o (l : List Ix) (h0 : 0 < l.length) (hl : l.length ≤ 300) (σ : Kx.St) : FnG Try.prog 33 [aIxs l] σ fun a σ' => a = .ms σ.length 1 0 l.length 4 ∧ σ' = σ ++ [.obj 1 (l.flatMap aIx)] := by
  refine fnG_in K_slices_Clone_api_Ins_api_Ins mixed rfl ?_
  simp only [S_slices_Clone_api_Ins_api_Ins]
  have hIL : aIxs l = .sl l.length (l.flatMap aIx) .none := rfl
  have hnil : PF.av (.eqn false 1) [.sl l.length (l.flatMap aIx) .none] = some (.v (.bool false)) := by
    show (if l.length = 0 then none else some _) = _
    rw [if_neg (by omega)]
  have hfl := flat_len aIx_len l
  simp (maxSteps := 1000000) (implicitDefEqProofs := false) (disch := omega) only [push_cast, ↓reduceIte, Nat.reduceEqDiff, reduceCtorEq, wz, hIL, hnil]
  refine wpa_bslo (sz := 4) (by simp) (by simp) ?_
  simp (maxSteps := 1000000) (implicitDefEqProofs := false) (disch := omega) only [push_cast, ↓reduceIte, Nat.reduceEqDiff, reduceCtorEq, wz]
  refine wpa_app_ms (n := 0) (m := l.length) rfl rfl hfl (aIx_one l) (by simp) (by omega) (by omega) (at_snoc _ _) ?_
  simp (maxSteps := 1000000) (implicitDefEqProofs := false) (disch := omega) only [push_cast, ↓reduceIte, Nat.reduceEqDiff, reduceCtorEq, wz, set_snoc]
  exact trivial
theorem aIxL_res (σ : St) (l : List Ix) : AV.resL σ (l.flatMap aIx) = l.flatMap aIx := by
  induction l with
  | nil => rfl
  | cons x l ih =>
    rw [resL_map] at ih ⊢
    rw [List.flatMap_cons, List.map_append, ih]
    congr 1
theorem res_ixs {σ : Kx.St} {i w : Nat} {l : List Ix} (h : σ[i]? = some (.obj w (l.flatMap aIx))) : AV.res (Go.Kx.freeze [i] σ) (.ms i w 0 l.length 4) = aIxs l := by
  rw [freeze_one h (aIxL_res _ _), res_ms (get_set_eq h) (flat_len aIx_len l)]
  rfl
theorem Clone_a (l : List Ix) (h0 : 0 < l.length) (hl : l.length ≤ 300) : FnP Try.prog 33 [aIxs l] fun a => a = aIxs l := by
  refine ⟨by simp [AV.pureL, aIxs_pure], FnG.fz ?_⟩
  refine (Clone_o l h0 hl []).mono ?_
  rintro a σ' ⟨rfl, rfl⟩
  refine ⟨[0], ?_, ?_⟩
  · have := res_ixs (σ := [.obj 1 (l.flatMap aIx)]) (i := 0) (w := 1) (l := l) rfl
    show (AV.res _ (.ms 0 1 0 l.length 4)).pure = true
    rw [List.nil_append, this]
    exact aIxs_pure l
  · exact res_ixs (σ := [.obj 1 (l.flatMap aIx)]) (i := 0) (w := 1) (l := l) rfl
set_option maxHeartbeats 8000000 in
theorem Equal_a (p q : List Ix) (hp : p.length ≤ 300) (hq : q.length ≤ 300) : FnP Try.prog 35 [aIxs p, aIxs q] fun a => a = aBool (decide (p = q)) := by
  refine fnP_in K_slices_Equal_api_Ins_api_Ins mixed rfl (by simp [AV.pureL, aIxs_pure]) ?_
  simp only [S_slices_Equal_api_Ins_api_Ins]
  have hP : aIxs p = .sl p.length (p.flatMap aIx) .none := rfl
  have hQ : aIxs q = .sl q.length (q.flatMap aIx) .none := rfl
  by_cases hlen : p.length = q.length
  · simp (maxSteps := 1000000) (implicitDefEqProofs := false) (disch := omega) only [push_cast, ↓reduceIte, Nat.reduceEqDiff, reduceCtorEq, wz, hP, hQ, hlen]
    refine wpa_bl (α := Nat) (I := fun k ε σ => (ε 0 = .sl q.length (p.flatMap aIx) .none ∧ ε 1 = aIxs q ∧ ε 12 = .v (.int .i64 q.length) ∧ ε 13 = .v (.int .i64 k)) ∧ k ≤ q.length ∧ p.take k = q.take k)
      (μ := fun k => q.length - k) (Q := fun ε σ => p = q) (x := 0) ?_ ?_ ?_
    · simp (maxSteps := 1000000) (implicitDefEqProofs := false) (disch := omega) only [push_cast, ↓reduceIte, Nat.reduceEqDiff, reduceCtorEq, wz, hP, hQ, hlen]
      first | exact ⟨by omega, by simp⟩ | omega
    · rintro k ε σ N E ⟨hρ, hk, he⟩ hN hE
      simp only [S_slices_Equal_api_Ins_api_Ins_L1]
      by_cases hlt : k < q.length
      · obtain ⟨x, hx⟩ := at_lt (l := p) (k := k) (by omega)
        obtain ⟨y, hy⟩ := at_lt (l := q) (k := k) hlt
        have hd1 := flat_drop aIx_len hx
        have hd2 := flat_drop aIx_len hy
        have hqq := eqsIx true x y
        by_cases hxy : x = y
        · rw [show (true != decide (x = y)) = false by simp [hxy]] at hqq
          simp (maxSteps := 1000000) (implicitDefEqProofs := false) (disch := omega) only [push_cast, ↓reduceIte, Nat.reduceEqDiff, reduceCtorEq, wz, hρ, hQ, hd1, hd2, cellsIx, hqq]
          refine hN (k + 1) _ _ ?_ (by omega)
          exact ⟨by simp (maxSteps := 1000000) (implicitDefEqProofs := false) (disch := omega) only [push_cast, ↓reduceIte, Nat.reduceEqDiff, reduceCtorEq, wz, hρ, hQ], by omega, by rw [take_succ_at hx, take_succ_at hy, he, hxy]⟩
        · rw [show (true != decide (x = y)) = true by simp [hxy]] at hqq
          have hne : p ≠ q := fun h => by subst h; rw [hx] at hy; cases hy; exact hxy rfl
          rw [show decide (p = q) = false by simp [hne]]
          simp (maxSteps := 1000000) (implicitDefEqProofs := false) (disch := omega) only [push_cast, ↓reduceIte, Nat.reduceEqDiff, reduceCtorEq, wz, hρ, hQ, hd1, hd2, cellsIx, hqq]
          first | exact ⟨[], rfl, rfl⟩ | exact ⟨[], rfl⟩
      · simp (maxSteps := 1000000) (implicitDefEqProofs := false) (disch := omega) only [push_cast, ↓reduceIte, Nat.reduceEqDiff, reduceCtorEq, wz, hρ, hQ]
        refine hE _ _ ?_
        rw [List.take_of_length_le (by omega), List.take_of_length_le (by omega)] at he
        exact he
    · rintro ε σ h
      rw [show decide (p = q) = true by simp [h]]
      simp (maxSteps := 1000000) (implicitDefEqProofs := false) (disch := omega) only [push_cast, ↓reduceIte, Nat.reduceEqDiff, reduceCtorEq, wz]
      first | exact ⟨[], rfl, rfl⟩ | exact ⟨[], rfl⟩
  · have hne : p ≠ q := fun h => hlen (by rw [h])
    have hlen' : ¬ ((p.length : Int) = (q.length : Int)) := by omega
    rw [show decide (p = q) = false by simp [hne]]
    simp (maxSteps := 1000000) (implicitDefEqProofs := false) (disch := omega) only [push_cast, ↓reduceIte, Nat.reduceEqDiff, reduceCtorEq, wz, hP, hQ, hlen']
    first | exact ⟨[], rfl, rfl⟩ | exact ⟨[], rfl⟩
theorem flat_set_a {t : Int} : ∀ {L : List Ix} {k : Nat} {x : Ix}, L[k]? = some x → (L.flatMap aIx).set (k * 4 + 1) (.v (.int .i64 t)) = (L.set k { x with a := t }).flatMap aIx := by
  intro L
  induction L with
  | nil => intro k x h; simp at h
  | cons y L ih =>
    intro k x h
    cases k with
    | zero => simp at h; subst h; rfl
    | succ k =>
      rw [List.getElem?_cons_succ] at h
      rw [show (k + 1) * 4 + 1 = (k * 4 + 1) + 1 + 1 + 1 + 1 by omega, List.set_cons_succ, List.flatMap_cons, List.flatMap_cons, ← ih h]
      rfl
theorem flat_set_b {t : Int} : ∀ {L : List Ix} {k : Nat} {x : Ix}, L[k]? = some x → (L.flatMap aIx).set (k * 4 + 2) (.v (.int .i64 t)) = (L.set k { x with b := t }).flatMap aIx := by
  intro L
  induction L with
  | nil => intro k x h; simp at h
  | cons y L ih =>
    intro k x h
    cases k with
    | zero => simp at h; subst h; rfl
    | succ k =>
      rw [List.getElem?_cons_succ] at h
      rw [show (k + 1) * 4 + 2 = (k * 4 + 2) + 1 + 1 + 1 + 1 by omega, List.set_cons_succ, List.flatMap_cons, List.flatMap_cons, ← ih h]
      rfl
/-- The first k with their targets turned. -/
def curL (f : Nat → Nat) (l : List Ix) (k : Nat) : List Ix := (l.take k).map (mapX f) ++ l.drop k
theorem cur_len (f : Nat → Nat) (l : List Ix) (k : Nat) : (curL f l k).length = l.length := by
  unfold curL
  rw [List.length_append, List.length_map, List.length_take, List.length_drop]; omega
theorem cur_at {f : Nat → Nat} {l : List Ix} {k : Nat} {x : Ix} (h : l[k]? = some x) : (curL f l k)[k]? = some x := by
  have hk := lt_at h
  unfold curL
  rw [List.getElem?_append_right (by simp; omega)]
  simp only [List.length_map, List.length_take, List.getElem?_drop]
  rw [show k + (k - min k l.length) = k by omega]
  exact h
theorem cur_set {f : Nat → Nat} {l : List Ix} {k : Nat} {x : Ix} (h : l[k]? = some x) : (curL f l k).set k (mapX f x) = curL f l (k + 1) := by
  have hk := lt_at h
  unfold curL
  rw [List.set_append_right _ _ (by simp; omega), take_succ_at h, List.map_append, drop_at h]
  simp only [List.length_map, List.length_take]
  rw [show k - min k l.length = 0 by omega]
  simp
theorem cur_keep {f : Nat → Nat} {l : List Ix} {k : Nat} {x : Ix} (h : l[k]? = some x) (hm : mapX f x = x) : curL f l (k + 1) = curL f l k := by
  rw [← cur_set h, hm]
  refine List.ext_getElem? fun j => ?_
  by_cases e : k = j
  · subst e; rw [cur_at h, List.getElem?_set_self (by rw [cur_len]; exact lt_at h)]
  · rw [List.getElem?_set_ne e]
theorem cur_0 (f : Nat → Nat) (l : List Ix) : curL f l 0 = l := by simp [curL]
theorem cur_all (f : Nat → Nat) (l : List Ix) : curL f l l.length = l.map (mapX f) := by simp [curL]
set_option maxHeartbeats 16000000 in
theorem tidy_ledOn_a (l : List Ix) (hR : Rt l) (hl : l.length ≤ 300) : FnP Try.prog 62 [aIxs l] fun a => a = aIxs (ledL l) := by
  refine fnP_in K_tidy_ledOn mixed rfl (by simp [AV.pureL, aIxs_pure]) ?_
  simp only [S_tidy_ledOn]
  have hIL : aIxs l = .sl l.length (l.flatMap aIx) .none := rfl
  have hpos := hR.pos
  simp (maxSteps := 1000000) (implicitDefEqProofs := false) (disch := omega) only [push_cast, ↓reduceIte, Nat.reduceEqDiff, reduceCtorEq, wz]
  refine wpa_callG (Clone_o l hpos hl []) ?_
  rintro a σ ⟨rfl, rfl⟩
  simp (maxSteps := 1000000) (implicitDefEqProofs := false) (disch := omega) only [push_cast, ↓reduceIte, Nat.reduceEqDiff, reduceCtorEq, wz]
  refine wpa_bl (α := Nat) (I := fun k ε σ => (ε 0 = aIxs l ∧ ε 3 = .ms 0 1 0 l.length 4 ∧ ε 9 = .v (.int .i64 l.length) ∧ ε 10 = .v (.int .i64 k)) ∧ k ≤ l.length ∧ σ[0]? = some (.obj 1 ((curL (leadF l) l k).flatMap aIx)))
    (μ := fun k => l.length - k) (Q := fun ε σ => ε 3 = .ms 0 1 0 l.length 4 ∧ σ[0]? = some (.obj 1 ((ledL l).flatMap aIx))) (x := 0) ?_ ?_ ?_
  · simp (maxSteps := 1000000) (implicitDefEqProofs := false) (disch := omega) only [push_cast, ↓reduceIte, Nat.reduceEqDiff, reduceCtorEq, wz, hIL]
    exact ⟨by omega, by rw [cur_0]⟩
  · rintro k ε σ N E ⟨hρ, hk, hs⟩ hN hE
    simp only [S_tidy_ledOn_L1]
    by_cases hlt : k < l.length
    · obtain ⟨x, hx⟩ := at_lt hlt
      have hcx := cur_at (f := leadF l) hx
      have h0 := op_at hcx
      have h1 := a_at hcx
      have h2 := b_at hcx
      have hll : ((curL (leadF l) l k).flatMap aIx).length = l.length * 4 := by rw [flat_len aIx_len, cur_len]
      have z : 0 + k * 4 = k * 4 := by omega
      simp (maxSteps := 1000000) (implicitDefEqProofs := false) (disch := omega) only [push_cast, ↓reduceIte, Nat.reduceEqDiff, reduceCtorEq, wz, hρ]
      refine wpa_callG (tidy_target_a hs h0) ?_
      rintro a σ' ⟨rfl, rfl⟩
      by_cases c1 : x.op = 18
      · have htg := hR.tg k x x.a hx (tgt_jump c1)
        obtain ⟨t, ht⟩ : ∃ t : Nat, x.a = t := ⟨x.a.toNat, by omega⟩
        have hst := flat_set_a (t := ((leadF l t : Nat) : Int)) hcx
        have hmx := map18 (f := leadF l) c1
        rw [ht] at h1 hmx
        rw [Int.toNat_natCast] at hmx
        rw [← hmx, cur_set hx] at hst
        rw [tg18 c1]
        simp (maxSteps := 1000000) (implicitDefEqProofs := false) (disch := omega) only [push_cast, ↓reduceIte, Nat.reduceEqDiff, reduceCtorEq, wz, hρ, hs, h1]
        refine wpa_call (tidy_leads_a l hR hl t (by omega)) ?_
        rintro a rfl
        simp (maxSteps := 1000000) (implicitDefEqProofs := false) (disch := omega) only [push_cast, ↓reduceIte, Nat.reduceEqDiff, reduceCtorEq, wz, aInt]
        refine wpa_st1 rfl rfl hs (by rw [hll]; omega) ?_
        rw [hst]
        simp (maxSteps := 1000000) (implicitDefEqProofs := false) (disch := omega) only [push_cast, ↓reduceIte, Nat.reduceEqDiff, reduceCtorEq, wz, hρ]
        refine hN (k + 1) _ _ ?_ (by omega)
        exact ⟨by simp (maxSteps := 1000000) (implicitDefEqProofs := false) (disch := omega) only [push_cast, ↓reduceIte, Nat.reduceEqDiff, reduceCtorEq, wz, hρ], by omega, get_set_eq hs⟩
      by_cases c2 : x.op = 19
      · have htx : tgtX x = some x.b := by unfold tgtX; rw [if_neg c1, if_pos c2]
        have htg := hR.tg k x x.b hx htx
        obtain ⟨t, ht⟩ : ∃ t : Nat, x.b = t := ⟨x.b.toNat, by omega⟩
        have hst := flat_set_b (t := ((leadF l t : Nat) : Int)) hcx
        have hmx := map19 (f := leadF l) c1 c2
        rw [ht] at h2 hmx
        rw [Int.toNat_natCast] at hmx
        rw [← hmx, cur_set hx] at hst
        rw [tg19 c1 c2]
        simp (maxSteps := 1000000) (implicitDefEqProofs := false) (disch := omega) only [push_cast, ↓reduceIte, Nat.reduceEqDiff, reduceCtorEq, wz, hρ, hs, h2]
        refine wpa_call (tidy_leads_a l hR hl t (by omega)) ?_
        rintro a rfl
        simp (maxSteps := 1000000) (implicitDefEqProofs := false) (disch := omega) only [push_cast, ↓reduceIte, Nat.reduceEqDiff, reduceCtorEq, wz, aInt]
        refine wpa_st1 rfl rfl hs (by rw [hll]; omega) ?_
        rw [hst]
        simp (maxSteps := 1000000) (implicitDefEqProofs := false) (disch := omega) only [push_cast, ↓reduceIte, Nat.reduceEqDiff, reduceCtorEq, wz, hρ]
        refine hN (k + 1) _ _ ?_ (by omega)
        exact ⟨by simp (maxSteps := 1000000) (implicitDefEqProofs := false) (disch := omega) only [push_cast, ↓reduceIte, Nat.reduceEqDiff, reduceCtorEq, wz, hρ], by omega, get_set_eq hs⟩
      rw [tg0 c1 c2]
      simp (maxSteps := 1000000) (implicitDefEqProofs := false) (disch := omega) only [push_cast, ↓reduceIte, Nat.reduceEqDiff, reduceCtorEq, wz, hρ, Option.isNone_none]
      refine hN (k + 1) _ _ ?_ (by omega)
      exact ⟨by simp (maxSteps := 1000000) (implicitDefEqProofs := false) (disch := omega) only [push_cast, ↓reduceIte, Nat.reduceEqDiff, reduceCtorEq, wz, hρ], by omega, by rw [cur_keep hx (map0 c1 c2)]; exact hs⟩
    · simp (maxSteps := 1000000) (implicitDefEqProofs := false) (disch := omega) only [push_cast, ↓reduceIte, Nat.reduceEqDiff, reduceCtorEq, wz, hρ]
      obtain rfl : k = l.length := by omega
      rw [cur_all] at hs
      exact hE _ _ ⟨by simp (maxSteps := 1000000) (implicitDefEqProofs := false) (disch := omega) only [push_cast, ↓reduceIte, Nat.reduceEqDiff, reduceCtorEq, wz, hρ], hs⟩
  · rintro ε σ ⟨hρ, hs⟩
    simp (maxSteps := 1000000) (implicitDefEqProofs := false) (disch := omega) only [push_cast, ↓reduceIte, Nat.reduceEqDiff, reduceCtorEq, wz, hρ]
    refine fin_res [0] ?_ (aIxs_pure _)
    rw [← led_len l]
    exact res_ixs hs


def plN (f : Nat → Nat) (Z k : Nat) : List AV := (List.range Z).map fun j => aNt (if j < k then f j else 0)
theorem pl_len (f : Nat → Nat) (Z k : Nat) : (plN f Z k).length = Z := by simp [plN]
theorem pl_0 (f : Nat → Nat) (Z : Nat) : plN f Z 0 = List.replicate Z (.v (.int .i64 0)) := by
  unfold plN
  rw [List.eq_replicate_iff]
  refine ⟨by simp, fun a ha => ?_⟩
  obtain ⟨j, _, rfl⟩ := List.mem_map.1 ha
  rfl
theorem pl_set {f : Nat → Nat} {Z k : Nat} : (plN f Z k).set k (.v (.int .i64 (f k : Nat))) = plN f Z (k + 1) := by
  refine List.ext_getElem? fun j => ?_
  by_cases e : k = j
  · subst e
    by_cases hk : k < Z
    · rw [List.getElem?_set_self (by rw [pl_len]; exact hk)]
      simp [plN, hk, aNt]
    · rw [List.getElem?_eq_none (by simp [plN]; omega), List.getElem?_eq_none (by rw [pl_len]; omega)]
  · rw [List.getElem?_set_ne e]
    unfold plN
    rw [List.getElem?_map, List.getElem?_map]
    by_cases hj : j < Z
    · rw [List.getElem?_range hj]
      have : (j < k) ↔ (j < k + 1) := by omega
      simp only [Option.map_some, this]
    · rw [List.getElem?_eq_none (by simp; omega)]; rfl
theorem pl_at {f : Nat → Nat} {Z k t : Nat} (ht : t < k) (hk : k ≤ Z) : (plN f Z k)[t]? = some (.v (.int .i64 (f t : Nat))) := by
  unfold plN
  rw [List.getElem?_map, List.getElem?_range (by omega)]
  simp [ht, aNt]
def OutAt (a : AV) (σ : Kx.St) (L : List Ix) : Prop := (L = [] ∧ a = .sl 0 [] .nil) ∨ (L ≠ [] ∧ ∃ j w, a = .ms j w 0 L.length 4 ∧ σ[j]? = some (.obj w (L.flatMap aIx)) ∧ j ≠ 0)
theorem OutAt.len {a : AV} {σ : Kx.St} {L : List Ix} (h : OutAt a σ L) : PF.av (.len false) [a] = some (.v (.int .i64 L.length)) := by
  rcases h with ⟨rfl, rfl⟩ | ⟨_, j, w, rfl, _⟩ <;> rfl
theorem OutAt.app {a : AV} {σ τ : Kx.St} {L : List Ix} (h : OutAt a σ L) : OutAt a (σ ++ τ) L := by
  rcases h with h | ⟨h1, j, w, h2, h3, h4⟩
  · exact .inl h
  · exact .inr ⟨h1, j, w, h2, get_app h3, h4⟩
theorem OutAt.set0 {a : AV} {σ : Kx.St} {L : List Ix} {o : Res} (h : OutAt a σ L) : OutAt a (σ.set 0 o) L := by
  rcases h with h | ⟨h1, j, w, h2, h3, h4⟩
  · exact .inl h
  · exact .inr ⟨h1, j, w, h2, get_set_ne (fun e => h4 e.symm) h3, h4⟩
theorem kN_len_le (m : List Ix) (n : Nat) : (kN m n).length ≤ n := cnt_le m n
set_option maxHeartbeats 16000000 in
theorem tidy_round_a (l : List Ix) (hR : Rt l) (hl : l.length ≤ 300) : FnP Try.prog 34 [aIxs l] fun a => a = aIxs (rnd l) := by
  refine fnP_in K_tidy_round mixed rfl (by simp [AV.pureL, aIxs_pure]) ?_
  simp only [S_tidy_round]
  have hM := led_rt hR
  have hml := led_len l
  refine wpa_seqx (fun ε σ => ε 0 = aIxs l ∧ σ = []) (fun N X' R' hN => by simp (maxSteps := 1000000) (implicitDefEqProofs := false) (disch := omega) only [push_cast, ↓reduceIte, Nat.reduceEqDiff, reduceCtorEq, wz]; exact hN _ _ (by simp (maxSteps := 1000000) (implicitDefEqProofs := false) (disch := omega) only [push_cast, ↓reduceIte, Nat.reduceEqDiff, reduceCtorEq, wz])) ?_
  rintro ε σ ⟨hρ, rfl⟩
  refine wpa_seqx (fun ε σ => ε 3 = aIxs (ledL l) ∧ σ = []) ?_ ?_
  · intro N X R hN
    simp (maxSteps := 1000000) (implicitDefEqProofs := false) (disch := omega) only [push_cast, ↓reduceIte, Nat.reduceEqDiff, reduceCtorEq, wz, hρ]
    refine wpa_call (tidy_ledOn_a l hR hl) ?_
    rintro a rfl
    simp (maxSteps := 1000000) (implicitDefEqProofs := false) (disch := omega) only [push_cast, ↓reduceIte, Nat.reduceEqDiff, reduceCtorEq, wz]
    exact hN _ _ (by simp (maxSteps := 1000000) (implicitDefEqProofs := false) (disch := omega) only [push_cast, ↓reduceIte, Nat.reduceEqDiff, reduceCtorEq, wz])
  clear hρ ε
  rintro ε σ ⟨hρ, rfl⟩
  unfold rnd
  generalize ledL l = m at hρ hM hml
  replace hl : m.length ≤ 300 := by omega
  clear hml hR
  clear l
  have hIL : aIxs m = .sl m.length (m.flatMap aIx) .none := rfl
  have hpos := hM.pos
  obtain ⟨hbl, hbs⟩ := reachB_spec hM
  have hBL : aSl aBool (reachB m) = .sl m.length ((reachB m).map aBool) .none := by unfold aSl; rw [hbl]
  obtain ⟨Z, hZ⟩ : ∃ Z : Nat, Z = m.length + 1 := ⟨_, rfl⟩
  have hZi : ((m.length : Int) + 1) = (Z : Int) := by omega
  refine wpa_seqx (fun ε σ => (ε 3 = aIxs m ∧ ε 4 = aSl aBool (reachB m)) ∧ σ = []) ?_ ?_
  · intro N X R hN
    simp (maxSteps := 1000000) (implicitDefEqProofs := false) (disch := omega) only [push_cast, ↓reduceIte, Nat.reduceEqDiff, reduceCtorEq, wz, hρ]
    refine wpa_call (tidy_reached_a m hM hl) ?_
    rintro a rfl
    simp (maxSteps := 1000000) (implicitDefEqProofs := false) (disch := omega) only [push_cast, ↓reduceIte, Nat.reduceEqDiff, reduceCtorEq, wz]
    exact hN _ _ (by simp (maxSteps := 1000000) (implicitDefEqProofs := false) (disch := omega) only [push_cast, ↓reduceIte, Nat.reduceEqDiff, reduceCtorEq, wz, hρ])
  clear hρ ε
  rintro ε σ ⟨hρ, rfl⟩
  refine wpa_seqx (fun ε σ => (ε 3 = aIxs m ∧ ε 4 = aSl aBool (reachB m) ∧ ε 5 = .ms 0 0 0 Z 1) ∧ σ = [.obj 0 (plN (cnt m) Z 0)]) ?_ ?_
  · intro N X R hN
    simp (maxSteps := 1000000) (implicitDefEqProofs := false) (disch := omega) only [push_cast, ↓reduceIte, Nat.reduceEqDiff, reduceCtorEq, wz, hρ, hIL, hZi]
    refine wpa_mks rfl (by omega) (by omega) ?_
    simp (maxSteps := 1000000) (implicitDefEqProofs := false) (disch := omega) only [push_cast, ↓reduceIte, Nat.reduceEqDiff, reduceCtorEq, wz, repA_one]
    exact hN _ _ ⟨by simp (maxSteps := 1000000) (implicitDefEqProofs := false) (disch := omega) only [push_cast, ↓reduceIte, Nat.reduceEqDiff, reduceCtorEq, wz, hρ, hIL], by rw [pl_0]⟩
  clear hρ ε
  rintro ε σ ⟨hρ, rfl⟩
  refine wpa_seqx (fun ε σ => (ε 3 = aIxs m ∧ ε 4 = aSl aBool (reachB m) ∧ ε 5 = .ms 0 0 0 Z 1 ∧ ε 6 = .sl 0 [] .nil) ∧ σ = [.obj 0 (plN (cnt m) Z 0)]) ?_ ?_
  · intro N X R hN
    simp (maxSteps := 1000000) (implicitDefEqProofs := false) (disch := omega) only [push_cast, ↓reduceIte, Nat.reduceEqDiff, reduceCtorEq, wz, hρ]
    exact hN _ _ (by simp (maxSteps := 1000000) (implicitDefEqProofs := false) (disch := omega) only [push_cast, ↓reduceIte, Nat.reduceEqDiff, reduceCtorEq, wz, hρ])
  clear hρ ε
  rintro ε σ ⟨hρ, rfl⟩
  refine wpa_seqx (fun ε σ => (ε 5 = .ms 0 0 0 Z 1 ∧ σ[0]? = some (.obj 0 (plN (cnt m) Z m.length))) ∧ OutAt (ε 6) σ (kN m m.length)) ?_ ?_
  · intro N X R hN
    simp (maxSteps := 1000000) (implicitDefEqProofs := false) (disch := omega) only [push_cast, ↓reduceIte, Nat.reduceEqDiff, reduceCtorEq, wz, hρ, hIL]
    refine wpa_blx (α := Nat) (I := fun k ε σ => (ε 3 = aIxs m ∧ ε 4 = aSl aBool (reachB m) ∧ ε 5 = .ms 0 0 0 Z 1 ∧ ε 19 = aIxs m ∧ ε 20 = .v (.int .i64 m.length) ∧ ε 21 = .v (.int .i64 k)) ∧ k ≤ m.length ∧ σ[0]? = some (.obj 0 (plN (cnt m) Z k)) ∧ OutAt (ε 6) σ (kN m k))
      (μ := fun k => m.length - k) (Q := fun ε σ => (ε 5 = .ms 0 0 0 Z 1 ∧ σ[0]? = some (.obj 0 (plN (cnt m) Z m.length))) ∧ OutAt (ε 6) σ (kN m m.length)) (x := 0) ?_ ?_ hN
    · simp (maxSteps := 1000000) (implicitDefEqProofs := false) (disch := omega) only [push_cast, ↓reduceIte, Nat.reduceEqDiff, reduceCtorEq, wz, hρ, hIL]
      exact ⟨by omega, .inl ⟨rfl, rfl⟩⟩
    · clear hN N X R hρ ε
      rintro k ε σ N E X R ⟨hρ, hk, hs0, hO⟩ hN hE
      simp only [S_tidy_round_L1]
      by_cases hlt : k < m.length
      · obtain ⟨x, hx⟩ := at_lt hlt
        have hd := flat_drop aIx_len hx
        obtain ⟨b, hb⟩ := at_lt (l := reachB m) (k := k) (by omega)
        have hkn := kN_succ hx
        have hkp : kp m k = (b && !usL m k) := by unfold kp; rw [List.getD_eq_getElem?_getD, hb]; rfl
        have hkl := kN_len_le m k
        have hpset := pl_set (f := cnt m) (Z := Z) (k := k)
        have hpl := pl_len (cnt m) Z k
        have hcnt : cnt m k = (kN m k).length := rfl
        rw [hcnt] at hpset
        have hbb : ((reachB m).map aBool)[k]? = some (.v (.bool b)) := by rw [List.getElem?_map, hb]; rfl
        refine wpa_seqx (fun ε σ => (ε 3 = aIxs m ∧ ε 4 = aSl aBool (reachB m) ∧ ε 5 = .ms 0 0 0 Z 1 ∧ ε 19 = aIxs m ∧ ε 20 = .v (.int .i64 m.length) ∧ ε 21 = .v (.int .i64 k) ∧ ε 22 = .v (.bool true)) ∧ σ[0]? = some (.obj 0 (plN (cnt m) Z k)) ∧ OutAt (ε 6) σ (kN m k)) ?_ ?_
        · intro N2 X2 R2 hN2
          simp (maxSteps := 1000000) (implicitDefEqProofs := false) (disch := omega) only [push_cast, ↓reduceIte, Nat.reduceEqDiff, reduceCtorEq, wz, hρ]
          exact hN2 _ _ ⟨by simp (maxSteps := 1000000) (implicitDefEqProofs := false) (disch := omega) only [push_cast, ↓reduceIte, Nat.reduceEqDiff, reduceCtorEq, wz, hρ], hs0, by simp (maxSteps := 1000000) (implicitDefEqProofs := false) (disch := omega) only [push_cast, ↓reduceIte, Nat.reduceEqDiff, reduceCtorEq, wz, hO]⟩
        clear hρ hs0 hO ε σ
        rintro ε σ ⟨hρ, hs0, hO⟩
        refine wpa_seq (fun ε σ => (ε 3 = aIxs m ∧ ε 4 = aSl aBool (reachB m) ∧ ε 5 = .ms 0 0 0 Z 1 ∧ ε 19 = aIxs m ∧ ε 20 = .v (.int .i64 m.length) ∧ ε 21 = .v (.int .i64 k)) ∧ σ[0]? = some (.obj 0 (plN (cnt m) Z k)) ∧ OutAt (ε 6) σ (kN m k)) ?_ ?_
        · intro N2 hN2
          simp (maxSteps := 1000000) (implicitDefEqProofs := false) (disch := omega) only [push_cast, ↓reduceIte, Nat.reduceEqDiff, reduceCtorEq, wz, hρ]
          exact hN2 _ _ ⟨by simp (maxSteps := 1000000) (implicitDefEqProofs := false) (disch := omega) only [push_cast, ↓reduceIte, Nat.reduceEqDiff, reduceCtorEq, wz, hρ], hs0, by simp (maxSteps := 1000000) (implicitDefEqProofs := false) (disch := omega) only [push_cast, ↓reduceIte, Nat.reduceEqDiff, reduceCtorEq, wz, hO]⟩
        clear hρ hs0 hO ε σ
        rintro ε σ ⟨hρ, hs0, hO⟩
        refine wpa_seqx (fun ε σ => (ε 3 = aIxs m ∧ ε 4 = aSl aBool (reachB m) ∧ ε 5 = .ms 0 0 0 Z 1 ∧ ε 19 = aIxs m ∧ ε 20 = .v (.int .i64 m.length) ∧ ε 21 = .v (.int .i64 k)) ∧ σ[0]? = some (.obj 0 (plN (cnt m) Z (k + 1))) ∧ OutAt (ε 6) σ (kN m (k + 1))) ?_ ?_
        · intro N2 X2 R2 hN2
          refine wpa_blk fun X' _ => ?_
          refine wpa_seqx (fun ε' σ' => ∃ ip, (ε' 3 = aIxs m ∧ ε' 4 = aSl aBool (reachB m) ∧ ε' 5 = .ms 0 0 0 Z 1 ∧ ε' 19 = aIxs m ∧ ε' 20 = .v (.int .i64 m.length) ∧ ε' 21 = .v (.int .i64 k) ∧ ε' 7 = .v (.int .i64 k) ∧ ε' 8 = .ref ip 0 0) ∧ σ'[0]? = some (.obj 0 (plN (cnt m) Z k)) ∧ OutAt (ε' 6) σ' (kN m k) ∧ σ'[ip]? = some (.obj 0 (aIx x)) ∧ ip ≠ 0) ?_ ?_
          · intro N3 X3 R3 hN3
            simp (maxSteps := 1000000) (implicitDefEqProofs := false) (disch := omega) only [push_cast, ↓reduceIte, Nat.reduceEqDiff, reduceCtorEq, wz, hρ, hIL, hd, cellsIx]
            refine wpa_new ?_
            simp (maxSteps := 1000000) (implicitDefEqProofs := false) (disch := omega) only [push_cast, ↓reduceIte, Nat.reduceEqDiff, reduceCtorEq, wz]
            refine wpa_stn (cs := [AV.v (.int .i64 0), AV.v (.int .i64 0), AV.v (.int .i64 0), AV.v (.int .i64 0)]) rfl rfl (at_snoc _ _) (by simp) ?_
            rw [z4set, set_snoc]
            simp (maxSteps := 1000000) (implicitDefEqProofs := false) (disch := omega) only [push_cast, ↓reduceIte, Nat.reduceEqDiff, reduceCtorEq, wz]
            exact hN3 _ _ ⟨σ.length, by simp (maxSteps := 1000000) (implicitDefEqProofs := false) (disch := omega) only [push_cast, ↓reduceIte, Nat.reduceEqDiff, reduceCtorEq, wz, hρ, hIL], get_app hs0, by simp (maxSteps := 1000000) (implicitDefEqProofs := false) (disch := omega) only [push_cast, ↓reduceIte, Nat.reduceEqDiff, reduceCtorEq, wz, hO.app], at_snoc _ _, by have := lt_at hs0; omega⟩
          clear hρ hs0 hO ε σ
          rintro ε σ ⟨ip, hρ, hs0, hO, hip, hip0⟩
          refine wpa_seqx (fun ε' σ' => (ε' 3 = aIxs m ∧ ε' 4 = aSl aBool (reachB m) ∧ ε' 5 = .ms 0 0 0 Z 1 ∧ ε' 19 = aIxs m ∧ ε' 20 = .v (.int .i64 m.length) ∧ ε' 21 = .v (.int .i64 k) ∧ ε' 7 = .v (.int .i64 k) ∧ ε' 8 = .ref ip 0 0) ∧ σ'[0]? = some (.obj 0 (plN (cnt m) Z (k + 1))) ∧ OutAt (ε' 6) σ' (kN m k) ∧ σ'[ip]? = some (.obj 0 (aIx x))) ?_ ?_
          · intro N3 X3 R3 hN3
            have hol := hO.len
            simp (maxSteps := 1000000) (implicitDefEqProofs := false) (disch := omega) only [push_cast, ↓reduceIte, Nat.reduceEqDiff, reduceCtorEq, wz, hρ, hol]
            refine wpa_st1 rfl rfl hs0 (by rw [hpl]; omega) ?_
            rw [hpset]
            simp (maxSteps := 1000000) (implicitDefEqProofs := false) (disch := omega) only [push_cast, ↓reduceIte, Nat.reduceEqDiff, reduceCtorEq, wz]
            exact hN3 _ _ ⟨by simp (maxSteps := 1000000) (implicitDefEqProofs := false) (disch := omega) only [push_cast, ↓reduceIte, Nat.reduceEqDiff, reduceCtorEq, wz, hρ], get_set_eq hs0, by simp (maxSteps := 1000000) (implicitDefEqProofs := false) (disch := omega) only [push_cast, ↓reduceIte, Nat.reduceEqDiff, reduceCtorEq, wz, hO.set0], get_set_ne (fun h => hip0 h.symm) hip⟩
          clear hρ hs0 hO hip ε σ
          rintro ε σ ⟨hρ, hs0, hO, hip⟩
          refine wpa_seqx (fun ε' σ' => (ε' 3 = aIxs m ∧ ε' 4 = aSl aBool (reachB m) ∧ ε' 5 = .ms 0 0 0 Z 1 ∧ ε' 19 = aIxs m ∧ ε' 20 = .v (.int .i64 m.length) ∧ ε' 21 = .v (.int .i64 k) ∧ ε' 8 = .ref ip 0 0 ∧ ε' 40 = .v (.bool (kp m k))) ∧ σ'[0]? = some (.obj 0 (plN (cnt m) Z (k + 1))) ∧ OutAt (ε' 6) σ' (kN m k) ∧ σ'[ip]? = some (.obj 0 (aIx x))) ?_ ?_
          · intro N3 X3 R3 hN3
            cases b with
            | false =>
              simp (maxSteps := 1000000) (implicitDefEqProofs := false) (disch := omega) only [push_cast, ↓reduceIte, Nat.reduceEqDiff, reduceCtorEq, wz, hρ, hBL, hbb]
              exact hN3 _ _ ⟨by simp (maxSteps := 1000000) (implicitDefEqProofs := false) (disch := omega) only [push_cast, ↓reduceIte, Nat.reduceEqDiff, reduceCtorEq, wz, hρ, hkp, Bool.false_and, hBL], hs0, by simp (maxSteps := 1000000) (implicitDefEqProofs := false) (disch := omega) only [push_cast, ↓reduceIte, Nat.reduceEqDiff, reduceCtorEq, wz, hO], hip⟩
            | true =>
              simp (maxSteps := 1000000) (implicitDefEqProofs := false) (disch := omega) only [push_cast, ↓reduceIte, Nat.reduceEqDiff, reduceCtorEq, wz, hρ, hBL, hbb]
              refine wpa_call (tidy_Useless_a m k hlt hl) ?_
              rintro a rfl
              simp (maxSteps := 1000000) (implicitDefEqProofs := false) (disch := omega) only [push_cast, ↓reduceIte, Nat.reduceEqDiff, reduceCtorEq, wz, aBool]
              exact hN3 _ _ ⟨by simp (maxSteps := 1000000) (implicitDefEqProofs := false) (disch := omega) only [push_cast, ↓reduceIte, Nat.reduceEqDiff, reduceCtorEq, wz, hρ, hkp, Bool.true_and, hBL], hs0, by simp (maxSteps := 1000000) (implicitDefEqProofs := false) (disch := omega) only [push_cast, ↓reduceIte, Nat.reduceEqDiff, reduceCtorEq, wz, hO], hip⟩
          clear hρ hs0 hO hip ε σ
          rintro ε σ ⟨hρ, hs0, hO, hip⟩
          rw [hkn] at hN2
          cases hq : kp m k with
          | false =>
            rw [hq] at hρ hN2
            simp only [Bool.false_eq_true, if_false, List.append_nil] at hN2
            simp (maxSteps := 1000000) (implicitDefEqProofs := false) (disch := omega) only [push_cast, ↓reduceIte, Nat.reduceEqDiff, reduceCtorEq, wz, hρ]
            exact hN2 _ _ ⟨by simp (maxSteps := 1000000) (implicitDefEqProofs := false) (disch := omega) only [push_cast, ↓reduceIte, Nat.reduceEqDiff, reduceCtorEq, wz, hρ], hs0, by simp (maxSteps := 1000000) (implicitDefEqProofs := false) (disch := omega) only [push_cast, ↓reduceIte, Nat.reduceEqDiff, reduceCtorEq, wz, hO]⟩
          | true =>
            rw [hq] at hρ hN2
            simp only [if_true] at hN2
            have hfl := flat_len aIx_len (kN m k)
            have hax : (AV.agg (aIx x)).cells = aIx x := rfl
            rcases hO with ⟨hO1, hO2⟩ | ⟨hO1, j, w, hO2, hO3, hO4⟩
            · rw [hO1] at hN2
              simp (maxSteps := 1000000) (implicitDefEqProofs := false) (disch := omega) only [push_cast, ↓reduceIte, Nat.reduceEqDiff, reduceCtorEq, wz, hρ, hO2, hip, cellsIx']
              refine wpa_bsl (sz := 4) (by intro a ha; simp at ha; subst ha; rfl) (by simp) ?_
              simp (maxSteps := 1000000) (implicitDefEqProofs := false) (disch := omega) only [push_cast, ↓reduceIte, Nat.reduceEqDiff, reduceCtorEq, wz, hax, List.append_nil]
              refine wpa_app_nilo (m := 1) rfl rfl rfl rfl (by omega) (by omega) (by omega) ?_
              simp (maxSteps := 1000000) (implicitDefEqProofs := false) (disch := omega) only [push_cast, ↓reduceIte, Nat.reduceEqDiff, reduceCtorEq, wz]
              exact hN2 _ _ ⟨by simp (maxSteps := 1000000) (implicitDefEqProofs := false) (disch := omega) only [push_cast, ↓reduceIte, Nat.reduceEqDiff, reduceCtorEq, wz, hρ], get_app hs0, .inr ⟨by simp, σ.length, 0, (by simp (maxSteps := 1000000) (implicitDefEqProofs := false) (disch := omega) only [push_cast, ↓reduceIte, Nat.reduceEqDiff, reduceCtorEq, wz]; try rfl), by rw [at_snoc]; simp, by have := lt_at hs0; omega⟩⟩
            · simp (maxSteps := 1000000) (implicitDefEqProofs := false) (disch := omega) only [push_cast, ↓reduceIte, Nat.reduceEqDiff, reduceCtorEq, wz, hρ, hO2, hip, cellsIx']
              refine wpa_bsl (sz := 4) (by intro a ha; simp at ha; subst ha; rfl) (by simp) ?_
              simp (maxSteps := 1000000) (implicitDefEqProofs := false) (disch := omega) only [push_cast, ↓reduceIte, Nat.reduceEqDiff, reduceCtorEq, wz, hax, List.append_nil]
              refine wpa_app_ms (m := 1) rfl rfl rfl rfl (by omega) (by omega) (by omega) hO3 ?_
              simp (maxSteps := 1000000) (implicitDefEqProofs := false) (disch := omega) only [push_cast, ↓reduceIte, Nat.reduceEqDiff, reduceCtorEq, wz]
              refine hN2 _ _ ⟨by simp (maxSteps := 1000000) (implicitDefEqProofs := false) (disch := omega) only [push_cast, ↓reduceIte, Nat.reduceEqDiff, reduceCtorEq, wz, hρ], get_set_ne hO4 hs0, .inr ⟨by simp, j, w + 1, (by simp (maxSteps := 1000000) (implicitDefEqProofs := false) (disch := omega) only [push_cast, ↓reduceIte, Nat.reduceEqDiff, reduceCtorEq, wz]; try simp), ?_, hO4⟩⟩
              rw [get_set_eq hO3, List.take_of_length_le (by omega)]
              simp
        clear hρ hs0 hO ε σ
        rintro ε σ ⟨hρ, hs0, hO⟩
        simp (maxSteps := 1000000) (implicitDefEqProofs := false) (disch := omega) only [push_cast, ↓reduceIte, Nat.reduceEqDiff, reduceCtorEq, wz, hρ]
        refine hN (k + 1) _ _ ?_ (by omega)
        exact ⟨by simp (maxSteps := 1000000) (implicitDefEqProofs := false) (disch := omega) only [push_cast, ↓reduceIte, Nat.reduceEqDiff, reduceCtorEq, wz, hρ], by omega, hs0, by simp (maxSteps := 1000000) (implicitDefEqProofs := false) (disch := omega) only [push_cast, ↓reduceIte, Nat.reduceEqDiff, reduceCtorEq, wz, hO]⟩
      · simp (maxSteps := 1000000) (implicitDefEqProofs := false) (disch := omega) only [push_cast, ↓reduceIte, Nat.reduceEqDiff, reduceCtorEq, wz, hρ]
        obtain rfl : k = m.length := by omega
        exact hE _ _ ⟨⟨by simp (maxSteps := 1000000) (implicitDefEqProofs := false) (disch := omega) only [push_cast, ↓reduceIte, Nat.reduceEqDiff, reduceCtorEq, wz, hρ], hs0⟩, by simp (maxSteps := 1000000) (implicitDefEqProofs := false) (disch := omega) only [push_cast, ↓reduceIte, Nat.reduceEqDiff, reduceCtorEq, wz, hO]⟩
  clear hρ ε
  rintro ε σ ⟨⟨hρ, hs0⟩, hO⟩
  have hne : kN m m.length ≠ [] := by
    obtain ⟨j, h1, h2, h3⟩ := stays hM _ 0 rfl .zero
    have h4 := cnt_lt h3 h2 h2
    intro e
    unfold cnt at h4
    rw [e] at h4
    simp at h4
  have hkn := kN_len_le m m.length
  have hat := fun k x => kN_at m.length k x (Nat.le_refl m.length)
  have hrm : rndM m = (kN m m.length).map (mapX (cnt m)) := rfl
  rw [hrm]
  generalize kN m m.length = L at hO hne hkn hat
  rcases hO with ⟨hO1, _⟩ | ⟨_, j, w, hO2, hO3, hO4⟩
  · exact absurd hO1 hne
  refine wpa_seqx (fun ε σ => ε 6 = .ms j w 0 L.length 4 ∧ σ[j]? = some (.obj w ((L.map (mapX (cnt m))).flatMap aIx))) ?_ ?_
  · intro N X R hN
    simp (maxSteps := 1000000) (implicitDefEqProofs := false) (disch := omega) only [push_cast, ↓reduceIte, Nat.reduceEqDiff, reduceCtorEq, wz, hρ, hO2]
    refine wpa_blx (α := Nat) (I := fun k ε σ => (ε 5 = .ms 0 0 0 Z 1 ∧ ε 6 = .ms j w 0 L.length 4 ∧ ε 47 = .v (.int .i64 L.length) ∧ ε 48 = .v (.int .i64 k)) ∧ k ≤ L.length ∧ σ[0]? = some (.obj 0 (plN (cnt m) Z m.length)) ∧ σ[j]? = some (.obj w ((curL (cnt m) L k).flatMap aIx)))
      (μ := fun k => L.length - k) (Q := fun ε σ => ε 6 = .ms j w 0 L.length 4 ∧ σ[j]? = some (.obj w ((L.map (mapX (cnt m))).flatMap aIx))) (x := 0) ?_ ?_ hN
    · simp (maxSteps := 1000000) (implicitDefEqProofs := false) (disch := omega) only [push_cast, ↓reduceIte, Nat.reduceEqDiff, reduceCtorEq, wz, hρ, hO2]
      exact ⟨by omega, hs0, by rw [cur_0]; exact hO3⟩
    · clear hN N X R hρ hs0 hO2 hO3 ε σ
      rintro k ε σ N E X R ⟨hρ, hk, hs0, hs⟩ hN hE
      simp only [S_tidy_round_L2]
      by_cases hlt : k < L.length
      · obtain ⟨x, hx⟩ := at_lt hlt
        obtain ⟨i, _, _, hxm, _⟩ := hat k x hx
        have hcx := cur_at (f := cnt m) hx
        have h0 := op_at hcx
        have h1 := a_at hcx
        have h2 := b_at hcx
        have hll : ((curL (cnt m) L k).flatMap aIx).length = L.length * 4 := by rw [flat_len aIx_len, cur_len]
        simp (maxSteps := 1000000) (implicitDefEqProofs := false) (disch := omega) only [push_cast, ↓reduceIte, Nat.reduceEqDiff, reduceCtorEq, wz, hρ]
        refine wpa_callG (tidy_target_a hs h0) ?_
        rintro a σ' ⟨rfl, rfl⟩
        by_cases c1 : x.op = 18
        · have htg := hM.tg i x x.a hxm (tgt_jump c1)
          obtain ⟨t, ht⟩ : ∃ t : Nat, x.a = t := ⟨x.a.toNat, by omega⟩
          have hst := flat_set_a (t := ((cnt m t : Nat) : Int)) hcx
          have hmx := map18 (f := cnt m) c1
          have hpa := pl_at (f := cnt m) (Z := Z) (k := m.length) (t := t) (by omega) (by omega)
          rw [ht] at h1 hmx
          rw [Int.toNat_natCast] at hmx
          rw [← hmx, cur_set hx] at hst
          rw [tg18 c1]
          simp (maxSteps := 1000000) (implicitDefEqProofs := false) (disch := omega) only [push_cast, ↓reduceIte, Nat.reduceEqDiff, reduceCtorEq, wz, hρ, hs, h1, hs0, hpa]
          refine wpa_st1 rfl rfl hs (by rw [hll]; omega) ?_
          rw [hst]
          simp (maxSteps := 1000000) (implicitDefEqProofs := false) (disch := omega) only [push_cast, ↓reduceIte, Nat.reduceEqDiff, reduceCtorEq, wz, hρ]
          refine hN (k + 1) _ _ ?_ (by omega)
          exact ⟨by simp (maxSteps := 1000000) (implicitDefEqProofs := false) (disch := omega) only [push_cast, ↓reduceIte, Nat.reduceEqDiff, reduceCtorEq, wz, hρ], by omega, get_set_ne hO4 hs0, get_set_eq hs⟩
        by_cases c2 : x.op = 19
        · have htx : tgtX x = some x.b := by unfold tgtX; rw [if_neg c1, if_pos c2]
          have htg := hM.tg i x x.b hxm htx
          obtain ⟨t, ht⟩ : ∃ t : Nat, x.b = t := ⟨x.b.toNat, by omega⟩
          have hst := flat_set_b (t := ((cnt m t : Nat) : Int)) hcx
          have hmx := map19 (f := cnt m) c1 c2
          have hpa := pl_at (f := cnt m) (Z := Z) (k := m.length) (t := t) (by omega) (by omega)
          rw [ht] at h2 hmx
          rw [Int.toNat_natCast] at hmx
          rw [← hmx, cur_set hx] at hst
          rw [tg19 c1 c2]
          simp (maxSteps := 1000000) (implicitDefEqProofs := false) (disch := omega) only [push_cast, ↓reduceIte, Nat.reduceEqDiff, reduceCtorEq, wz, hρ, hs, h2, hs0, hpa]
          refine wpa_st1 rfl rfl hs (by rw [hll]; omega) ?_
          rw [hst]
          simp (maxSteps := 1000000) (implicitDefEqProofs := false) (disch := omega) only [push_cast, ↓reduceIte, Nat.reduceEqDiff, reduceCtorEq, wz, hρ]
          refine hN (k + 1) _ _ ?_ (by omega)
          exact ⟨by simp (maxSteps := 1000000) (implicitDefEqProofs := false) (disch := omega) only [push_cast, ↓reduceIte, Nat.reduceEqDiff, reduceCtorEq, wz, hρ], by omega, get_set_ne hO4 hs0, get_set_eq hs⟩
        rw [tg0 c1 c2]
        simp (maxSteps := 1000000) (implicitDefEqProofs := false) (disch := omega) only [push_cast, ↓reduceIte, Nat.reduceEqDiff, reduceCtorEq, wz, hρ, Option.isNone_none]
        refine hN (k + 1) _ _ ?_ (by omega)
        exact ⟨by simp (maxSteps := 1000000) (implicitDefEqProofs := false) (disch := omega) only [push_cast, ↓reduceIte, Nat.reduceEqDiff, reduceCtorEq, wz, hρ], by omega, hs0, by rw [cur_keep hx (map0 c1 c2)]; exact hs⟩
      · simp (maxSteps := 1000000) (implicitDefEqProofs := false) (disch := omega) only [push_cast, ↓reduceIte, Nat.reduceEqDiff, reduceCtorEq, wz, hρ]
        obtain rfl : k = L.length := by omega
        rw [cur_all] at hs
        exact hE _ _ ⟨by simp (maxSteps := 1000000) (implicitDefEqProofs := false) (disch := omega) only [push_cast, ↓reduceIte, Nat.reduceEqDiff, reduceCtorEq, wz, hρ], hs⟩
  clear hρ hs0 hO2 hO3 ε σ
  rintro ε σ ⟨hρ, hs⟩
  simp (maxSteps := 1000000) (implicitDefEqProofs := false) (disch := omega) only [push_cast, ↓reduceIte, Nat.reduceEqDiff, reduceCtorEq, wz, hρ]
  refine fin_res [j] ?_ (aIxs_pure _)
  have := res_ixs hs
  rwa [List.length_map] at this


def tidyM (m : Int) (fs : List (List Ix)) : Int := if prgE m fs = 0 then m else 0
def tidyF (m : Int) (fs : List (List Ix)) : List (List Ix) := if prgE m fs = 0 then fs.map fixR else []
def tidyN (m : Int) (fs : List (List Ix)) : Nat := if prgE m fs = 0 then dropS fs else 0
def tidyA (m : Int) (fs : List (List Ix)) : AV := .tup [.agg (aPr (tidyM m fs) (tidyF m fs)), aInt (tidyN m fs : Nat), aInt (prgE m fs)]
theorem pr_res (σ : St) (m : Int) (fs : List (List Ix)) (t : Tok) : (AV.agg [AV.v (.int .i64 m), .sl fs.length (fs.map aIxs) t]).res σ = .agg (aPr m fs) := by
  have h1 := aFs_res σ fs t
  simp only [AV.res, AV.resL] at h1 ⊢
  rw [h1]
  rfl
theorem fin_tup3 {a b c a' b' c' : AV} {σ : St} {e : AV} (is : List Nat) (h1 : a.res (Go.Kx.freeze is σ) = a') (h2 : b.res (Go.Kx.freeze is σ) = b') (h3 : c.res (Go.Kx.freeze is σ) = c') (ha : a'.pure = true) (hb : b'.pure = true) (hc : c'.pure = true) (he : AV.tup [a', b', c'] = e) :
    ∃ is, ((AV.tup [a, b, c]).res (Go.Kx.freeze is σ)).pure = true ∧ (AV.tup [a, b, c]).res (Go.Kx.freeze is σ) = e := by
  subst he
  exact ⟨is, by simp [AV.res, AV.resL, AV.pure, AV.pureL, h1, h2, h3, ha, hb, hc], by simp [AV.res, AV.resL, h1, h2, h3]⟩
theorem aPr_pure' (m : Int) (fs : List (List Ix)) : (AV.agg (aPr m fs)).pure = true := by simp [AV.pure, aPr_pure]
set_option maxHeartbeats 16000000 in
theorem tidy_Program_a (m : Int) (fs : List (List Ix)) (hf : okF fs) : FnP Try.prog 16 [.agg (aPr m fs)] fun a => a = tidyA m fs := by
  refine fnP_in K_tidy_Program mixed rfl (by simp [AV.pureL, AV.pure, aPr_pure]) ?_
  simp only [S_tidy_Program]
  have hf' := hf
  obtain ⟨hf1, hf2⟩ := hf
  have hac : (AV.agg (aPr m fs)).cells = aPr m fs := rfl
  have g0 : (aPr m fs)[0]? = some (.v (.int .i64 m)) := rfl
  have g1 : (aPr m fs)[1]? = some (.sl fs.length (fs.map aIxs) .none) := rfl
  have hb : fillA [AV.v (.int .i64 0), AV.sl 0 [] .nil] [(0, 1)] [AV.v (.int .i64 m)] = some [AV.v (.int .i64 m), AV.sl 0 [] .nil] := by simp [fillA, AV.cells, Value.cells, setAtA]
  refine wpa_seqx (fun ε σ => (ε 1 = .ref 0 0 0 ∧ ε 2 = .ref 1 0 0) ∧ σ = [.obj 0 (aPr m fs), .obj 0 [.v (.int .i64 0), .sl 0 [] .nil]]) ?_ ?_
  · intro N X R hN
    simp (maxSteps := 1000000) (implicitDefEqProofs := false) (disch := omega) only [push_cast, ↓reduceIte, Nat.reduceEqDiff, reduceCtorEq, wz]
    refine wpa_box ?_
    simp (maxSteps := 1000000) (implicitDefEqProofs := false) (disch := omega) only [push_cast, ↓reduceIte, Nat.reduceEqDiff, reduceCtorEq, wz, hac]
    refine wpa_new ?_
    simp (maxSteps := 1000000) (implicitDefEqProofs := false) (disch := omega) only [push_cast, ↓reduceIte, Nat.reduceEqDiff, reduceCtorEq, wz]
    exact hN _ _ (by simp (maxSteps := 1000000) (implicitDefEqProofs := false) (disch := omega) only [push_cast, ↓reduceIte, Nat.reduceEqDiff, reduceCtorEq, wz])
  rintro ε σ ⟨hρ, rfl⟩
  refine wpa_seq (fun ε σ => (ε 1 = .ref 0 0 0 ∧ ε 2 = .ref 1 0 0) ∧ σ = [.obj 0 (aPr m fs), .obj 0 [.v (.int .i64 0), .sl 0 [] .nil]] ∧ prgE m fs = 0) ?_ ?_
  · intro N hN
    simp (maxSteps := 1000000) (implicitDefEqProofs := false) (disch := omega) only [push_cast, ↓reduceIte, Nat.reduceEqDiff, reduceCtorEq, wz, hρ, cellsPr]
    refine wpa_call (prog_Check_a m fs hf') ?_
    rintro a rfl
    by_cases hz : prgE m fs = 0
    · simp (maxSteps := 1000000) (implicitDefEqProofs := false) (disch := omega) only [push_cast, ↓reduceIte, Nat.reduceEqDiff, reduceCtorEq, wz, aInt, hz]
      exact hN _ _ ⟨by simp (maxSteps := 1000000) (implicitDefEqProofs := false) (disch := omega) only [push_cast, ↓reduceIte, Nat.reduceEqDiff, reduceCtorEq, wz, hρ], rfl, hz⟩
    · have hT : tidyA m fs = .tup [.agg (aPr 0 []), aInt 0, aInt (prgE m fs)] := by
        unfold tidyA tidyM tidyF tidyN
        rw [if_neg hz, if_neg hz, if_neg hz]
        rfl
      rw [hT]
      have hb0 : fillA [AV.v (.int .i64 0), AV.sl 0 [] .nil] [] [] = some [AV.v (.int .i64 0), AV.sl 0 [] .nil] := by simp [fillA]
      have hset : setAtA [AV.v (.int .i64 0), AV.sl 0 [] .nil] 0 [AV.v (.int .i64 0), AV.sl 0 [] .nil] = [AV.v (.int .i64 0), AV.sl 0 [] .nil] := rfl
      have hc2 : cellsA (some 2) [AV.v (.int .i64 0), AV.sl 0 [] .nil] = some (.agg [AV.v (.int .i64 0), AV.sl 0 [] .nil]) := rfl
      simp (maxSteps := 1000000) (implicitDefEqProofs := false) (disch := omega) only [push_cast, ↓reduceIte, Nat.reduceEqDiff, reduceCtorEq, wz, aInt, hz, hρ, hb0]
      refine wpa_stn (cs := [AV.v (.int .i64 0), AV.sl 0 [] .nil]) rfl rfl rfl (by decide) ?_
      rw [hset]
      simp (maxSteps := 1000000) (implicitDefEqProofs := false) (disch := omega) only [push_cast, ↓reduceIte, Nat.reduceEqDiff, reduceCtorEq, wz, hρ, hc2]
      exact fin_tup3 [] (pr_res _ 0 [] .nil) (res_v _ _) (res_v _ _) (aPr_pure' _ _) rfl rfl rfl
  clear hρ ε
  rintro ε σ ⟨hρ, rfl, hz⟩
  obtain ⟨_, _, hFo⟩ := prg_ok hz
  have hT : tidyA m fs = .tup [.agg (aPr m (fs.map fixR)), aInt (dropS fs : Nat), aInt 0] := by
    unfold tidyA tidyM tidyF tidyN
    rw [if_pos hz, if_pos hz, if_pos hz, hz]
  rw [hT]
  refine wpa_seqx (fun ε σ => (ε 1 = .ref 0 0 0 ∧ ε 2 = .ref 1 0 0 ∧ ε 6 = .ref 2 0 0 ∧ ε 7 = .v (.int .i64 0)) ∧ σ = [.obj 0 (aPr m fs), .obj 0 [.v (.int .i64 0), .sl 0 [] .nil], .obj 0 [.v (.int .i64 m), .sl 0 [] .nil]]) ?_ ?_
  · intro N X R hN
    simp (maxSteps := 1000000) (implicitDefEqProofs := false) (disch := omega) only [push_cast, ↓reduceIte, Nat.reduceEqDiff, reduceCtorEq, wz, hρ, g0, hb]
    refine wpa_new ?_
    simp (maxSteps := 1000000) (implicitDefEqProofs := false) (disch := omega) only [push_cast, ↓reduceIte, Nat.reduceEqDiff, reduceCtorEq, wz]
    refine wpa_stn (cs := [AV.v (.int .i64 0), AV.sl 0 [] .nil]) rfl rfl rfl (by decide) ?_
    have hset : setAtA [AV.v (.int .i64 0), AV.sl 0 [] .nil] 0 [AV.v (.int .i64 m), AV.sl 0 [] .nil] = [AV.v (.int .i64 m), AV.sl 0 [] .nil] := rfl
    rw [hset]
    simp (maxSteps := 1000000) (implicitDefEqProofs := false) (disch := omega) only [push_cast, ↓reduceIte, Nat.reduceEqDiff, reduceCtorEq, wz]
    exact hN _ _ (by simp (maxSteps := 1000000) (implicitDefEqProofs := false) (disch := omega) only [push_cast, ↓reduceIte, Nat.reduceEqDiff, reduceCtorEq, wz, hρ])
  clear hρ ε
  rintro ε σ ⟨hρ, rfl⟩
  refine wpa_seqx (fun ε σ => (ε 2 = .ref 1 0 0 ∧ ε 6 = .ref 2 0 0 ∧ ε 7 = .v (.int .i64 (dropS fs : Nat))) ∧ ∃ w, σ = [.obj 0 (aPr m fs), .obj 0 [.v (.int .i64 0), .sl 0 [] .nil], .obj 0 [.v (.int .i64 m), .sl fs.length ((fs.map fixR).map aIxs) (.id 3 w 1)], .tail w]) ?_ ?_
  · intro N X R hN
    simp (maxSteps := 1000000) (implicitDefEqProofs := false) (disch := omega) only [push_cast, ↓reduceIte, Nat.reduceEqDiff, reduceCtorEq, wz, hρ, g1]
    refine wpa_blgx (GU.tokO (i := 2) (j := 1) 1 rfl rfl) (α := Nat) (I := fun k ε σ => (ε 2 = .ref 1 0 0 ∧ ε 6 = .ref 2 0 0 ∧ ε 7 = .v (.int .i64 (dropS (fs.take k) : Nat)) ∧ ε 22 = .sl fs.length (fs.map aIxs) .none ∧ ε 23 = .v (.int .i64 fs.length) ∧ ε 24 = .v (.int .i64 k)) ∧ k ≤ fs.length ∧
        ∃ w, σ = [.obj 0 (aPr m fs), .obj 0 [.v (.int .i64 0), .sl 0 [] .nil], .obj 0 [.v (.int .i64 m), .sl k (((fs.take k).map fixR).map aIxs) (.id 3 w 1)], .tail w])
      (μ := fun k => fs.length - k) (Q := fun ε σ => (ε 2 = .ref 1 0 0 ∧ ε 6 = .ref 2 0 0 ∧ ε 7 = .v (.int .i64 (dropS fs : Nat))) ∧ ∃ w, σ = [.obj 0 (aPr m fs), .obj 0 [.v (.int .i64 0), .sl 0 [] .nil], .obj 0 [.v (.int .i64 m), .sl fs.length ((fs.map fixR).map aIxs) (.id 3 w 1)], .tail w]) (x := 0) ?_ ?_ hN
    · simp (maxSteps := 1000000) (implicitDefEqProofs := false) (disch := omega) only [push_cast, ↓reduceIte, Nat.reduceEqDiff, reduceCtorEq, wz, hρ]
      exact ⟨rfl, by omega, 0, rfl⟩
    · clear hN N X R hρ ε
      rintro k ε σ N E X R ⟨hρ, hk, w, rfl⟩ hN hE
      simp only [S_tidy_Program_L1]
      by_cases hlt : k < fs.length
      · obtain ⟨l, hl⟩ := at_lt hlt
        have hll := hf2 l (List.mem_of_getElem? hl)
        have hRt := (hFo l (List.mem_of_getElem? hl)).rt
        have hpos := hRt.pos
        obtain ⟨hfx1, hfx2, hfx3⟩ := fixR_spec hRt
        have hIL : aIxs l = .sl l.length (l.flatMap aIx) .none := rfl
        have hFL : aIxs (fixR l) = .sl (fixR l).length ((fixR l).flatMap aIx) .none := rfl
        have hds := dropS_succ hl
        have hdl := dropS_le hf2 k hk
        have hlk : (fs.take k).length = k := by rw [List.length_take]; omega
        have hts := take_succ_at hl
        generalize hD0 : dropS (fs.take k) = D0 at hρ hds hdl
        refine wpa_seqx (fun ε' σ' => (ε' 2 = .ref 1 0 0 ∧ ε' 6 = .ref 2 0 0 ∧ ε' 7 = .v (.int .i64 D0) ∧ ε' 22 = .sl fs.length (fs.map aIxs) .none ∧ ε' 23 = .v (.int .i64 fs.length) ∧ ε' 24 = .v (.int .i64 k) ∧ ε' 25 = .v (.bool true)) ∧ σ' = [.obj 0 (aPr m fs), .obj 0 [.v (.int .i64 0), .sl 0 [] .nil], .obj 0 [.v (.int .i64 m), .sl k (((fs.take k).map fixR).map aIxs) (.id 3 w 1)], .tail w]) ?_ ?_
        · intro N2 X2 R2 hN2
          simp (maxSteps := 1000000) (implicitDefEqProofs := false) (disch := omega) only [push_cast, ↓reduceIte, Nat.reduceEqDiff, reduceCtorEq, wz, hρ]
          exact hN2 _ _ (by simp (maxSteps := 1000000) (implicitDefEqProofs := false) (disch := omega) only [push_cast, ↓reduceIte, Nat.reduceEqDiff, reduceCtorEq, wz, hρ])
        clear hρ ε
        rintro ε σ ⟨hρ, rfl⟩
        refine wpa_seq (fun ε' σ' => (ε' 2 = .ref 1 0 0 ∧ ε' 6 = .ref 2 0 0 ∧ ε' 7 = .v (.int .i64 D0) ∧ ε' 22 = .sl fs.length (fs.map aIxs) .none ∧ ε' 23 = .v (.int .i64 fs.length) ∧ ε' 24 = .v (.int .i64 k)) ∧ σ' = [.obj 0 (aPr m fs), .obj 0 [.v (.int .i64 0), .sl 0 [] .nil], .obj 0 [.v (.int .i64 m), .sl k (((fs.take k).map fixR).map aIxs) (.id 3 w 1)], .tail w]) ?_ ?_
        · intro N2 hN2
          simp (maxSteps := 1000000) (implicitDefEqProofs := false) (disch := omega) only [push_cast, ↓reduceIte, Nat.reduceEqDiff, reduceCtorEq, wz, hρ]
          exact hN2 _ _ (by simp (maxSteps := 1000000) (implicitDefEqProofs := false) (disch := omega) only [push_cast, ↓reduceIte, Nat.reduceEqDiff, reduceCtorEq, wz, hρ])
        clear hρ ε
        rintro ε σ ⟨hρ, rfl⟩
        refine wpa_seqx (fun ε' σ' => (ε' 2 = .ref 1 0 0 ∧ ε' 6 = .ref 2 0 0 ∧ ε' 7 = .v (.int .i64 (dropS (fs.take (k + 1)) : Nat)) ∧ ε' 22 = .sl fs.length (fs.map aIxs) .none ∧ ε' 23 = .v (.int .i64 fs.length) ∧ ε' 24 = .v (.int .i64 k)) ∧ ∃ w, σ' = [.obj 0 (aPr m fs), .obj 0 [.v (.int .i64 0), .sl 0 [] .nil], .obj 0 [.v (.int .i64 m), .sl (k + 1) (((fs.take (k + 1)).map fixR).map aIxs) (.id 3 w 1)], .tail w]) ?_ ?_
        · intro N2 X2 R2 hN2
          refine wpa_blk fun X' _ => ?_
          refine wpa_seqx (fun ε' σ' => (ε' 2 = .ref 1 0 0 ∧ ε' 6 = .ref 2 0 0 ∧ ε' 7 = .v (.int .i64 D0) ∧ ε' 22 = .sl fs.length (fs.map aIxs) .none ∧ ε' 23 = .v (.int .i64 fs.length) ∧ ε' 24 = .v (.int .i64 k) ∧ ε' 9 = aIxs l) ∧ σ' = [.obj 0 (aPr m fs), .obj 0 [.v (.int .i64 0), .sl 0 [] .nil], .obj 0 [.v (.int .i64 m), .sl k (((fs.take k).map fixR).map aIxs) (.id 3 w 1)], .tail w]) ?_ ?_
          · intro N3 X3 R3 hN3
            simp (maxSteps := 1000000) (implicitDefEqProofs := false) (disch := omega) only [push_cast, ↓reduceIte, Nat.reduceEqDiff, reduceCtorEq, wz, hρ, hl]
            exact hN3 _ _ (by simp (maxSteps := 1000000) (implicitDefEqProofs := false) (disch := omega) only [push_cast, ↓reduceIte, Nat.reduceEqDiff, reduceCtorEq, wz, hρ])
          clear hρ ε
          rintro ε σ ⟨hρ, rfl⟩
          refine wpa_seqx (fun ε' σ' => (ε' 2 = .ref 1 0 0 ∧ ε' 6 = .ref 2 0 0 ∧ ε' 7 = .v (.int .i64 D0) ∧ ε' 22 = .sl fs.length (fs.map aIxs) .none ∧ ε' 23 = .v (.int .i64 fs.length) ∧ ε' 24 = .v (.int .i64 k) ∧ ε' 9 = aIxs l ∧ ε' 10 = aIxs l) ∧ σ' = [.obj 0 (aPr m fs), .obj 0 [.v (.int .i64 0), .sl 0 [] .nil], .obj 0 [.v (.int .i64 m), .sl k (((fs.take k).map fixR).map aIxs) (.id 3 w 1)], .tail w]) ?_ ?_
          · intro N3 X3 R3 hN3
            simp (maxSteps := 1000000) (implicitDefEqProofs := false) (disch := omega) only [push_cast, ↓reduceIte, Nat.reduceEqDiff, reduceCtorEq, wz, hρ]
            refine wpa_call (Clone_a l hpos hll) ?_
            rintro a rfl
            simp (maxSteps := 1000000) (implicitDefEqProofs := false) (disch := omega) only [push_cast, ↓reduceIte, Nat.reduceEqDiff, reduceCtorEq, wz]
            exact hN3 _ _ (by simp (maxSteps := 1000000) (implicitDefEqProofs := false) (disch := omega) only [push_cast, ↓reduceIte, Nat.reduceEqDiff, reduceCtorEq, wz, hρ])
          clear hρ ε
          rintro ε σ ⟨hρ, rfl⟩
          refine wpa_seqx (fun ε' σ' => (ε' 2 = .ref 1 0 0 ∧ ε' 6 = .ref 2 0 0 ∧ ε' 7 = .v (.int .i64 D0) ∧ ε' 22 = .sl fs.length (fs.map aIxs) .none ∧ ε' 23 = .v (.int .i64 fs.length) ∧ ε' 24 = .v (.int .i64 k) ∧ ε' 9 = aIxs l ∧ ε' 10 = aIxs (fixR l)) ∧ σ' = [.obj 0 (aPr m fs), .obj 0 [.v (.int .i64 0), .sl 0 [] .nil], .obj 0 [.v (.int .i64 m), .sl k (((fs.take k).map fixR).map aIxs) (.id 3 w 1)], .tail w]) ?_ ?_
          · intro N3 X3 R3 hN3
            simp (maxSteps := 1000000) (implicitDefEqProofs := false) (disch := omega) only [push_cast, ↓reduceIte, Nat.reduceEqDiff, reduceCtorEq, wz, hρ]
            refine wpa_call (tidy_round_a l hRt hll) ?_
            rintro a rfl
            simp (maxSteps := 1000000) (implicitDefEqProofs := false) (disch := omega) only [push_cast, ↓reduceIte, Nat.reduceEqDiff, reduceCtorEq, wz, hρ]
            refine wpa_blx (α := Nat × List Ix) (I := fun s ε' σ' => (ε' 2 = .ref 1 0 0 ∧ ε' 6 = .ref 2 0 0 ∧ ε' 7 = .v (.int .i64 D0) ∧ ε' 22 = .sl fs.length (fs.map aIxs) .none ∧ ε' 23 = .v (.int .i64 fs.length) ∧ ε' 24 = .v (.int .i64 k) ∧ ε' 9 = aIxs l ∧ ε' 10 = aIxs s.2 ∧ ε' 11 = aIxs (rnd s.2)) ∧
                  σ' = [.obj 0 (aPr m fs), .obj 0 [.v (.int .i64 0), .sl 0 [] .nil], .obj 0 [.v (.int .i64 m), .sl k (((fs.take k).map fixR).map aIxs) (.id 3 w 1)], .tail w] ∧ Rt s.2 ∧ s.2.length ≤ 300 ∧ muR s.2 ≤ s.1 ∧ fixR l = fixN s.1 s.2)
              (μ := fun s => s.1) (Q := fun ε' σ' => (ε' 2 = .ref 1 0 0 ∧ ε' 6 = .ref 2 0 0 ∧ ε' 7 = .v (.int .i64 D0) ∧ ε' 22 = .sl fs.length (fs.map aIxs) .none ∧ ε' 23 = .v (.int .i64 fs.length) ∧ ε' 24 = .v (.int .i64 k) ∧ ε' 9 = aIxs l ∧ ε' 10 = aIxs (fixR l)) ∧ σ' = [.obj 0 (aPr m fs), .obj 0 [.v (.int .i64 0), .sl 0 [] .nil], .obj 0 [.v (.int .i64 m), .sl k (((fs.take k).map fixR).map aIxs) (.id 3 w 1)], .tail w]) (x := (l.length + 1, l)) ?_ ?_ hN3
            · simp (maxSteps := 1000000) (implicitDefEqProofs := false) (disch := omega) only [push_cast, ↓reduceIte, Nat.reduceEqDiff, reduceCtorEq, wz, hρ]
              exact ⟨hRt, hll, muR_le l, rfl⟩
            · clear hN3 N3 X3 R3 hρ ε
              rintro ⟨n, now⟩ ε σ N E X R ⟨hρ, rfl, hRn, hnl, hmu, hfx⟩ hN3 hE3
              simp only at hρ hRn hnl hmu hfx
              simp only [S_tidy_Program_L2]
              have hrl := rnd_len now
              simp (maxSteps := 1000000) (implicitDefEqProofs := false) (disch := omega) only [push_cast, ↓reduceIte, Nat.reduceEqDiff, reduceCtorEq, wz, hρ]
              refine wpa_call (Equal_a now (rnd now) hnl (by omega)) ?_
              rintro a rfl
              by_cases he : now = rnd now
              · rw [show decide (now = rnd now) = true by simp only [decide_eq_true_eq]; exact he]
                rw [fixN_done he.symm] at hfx
                simp (maxSteps := 1000000) (implicitDefEqProofs := false) (disch := omega) only [push_cast, ↓reduceIte, Nat.reduceEqDiff, reduceCtorEq, wz, hρ, aBool]
                exact hE3 _ _ ⟨by simp (maxSteps := 1000000) (implicitDefEqProofs := false) (disch := omega) only [push_cast, ↓reduceIte, Nat.reduceEqDiff, reduceCtorEq, wz, hρ, hfx], rfl⟩
              · rw [show decide (now = rnd now) = false by simp only [decide_eq_false_iff_not]; exact he]
                have hne : rnd now ≠ now := fun h => he h.symm
                have hlt2 := muR_lt hRn hne
                obtain ⟨n, rfl⟩ : ∃ n', n = n' + 1 := ⟨n - 1, by omega⟩
                rw [fixN_step hne] at hfx
                simp (maxSteps := 1000000) (implicitDefEqProofs := false) (disch := omega) only [push_cast, ↓reduceIte, Nat.reduceEqDiff, reduceCtorEq, wz, hρ, aBool]
                refine wpa_call (tidy_round_a (rnd now) (rnd_Rt hRn) (by omega)) ?_
                rintro a rfl
                simp (maxSteps := 1000000) (implicitDefEqProofs := false) (disch := omega) only [push_cast, ↓reduceIte, Nat.reduceEqDiff, reduceCtorEq, wz, hρ]
                refine hN3 (n, rnd now) _ _ ?_ (by simp only; omega)
                exact ⟨by simp (maxSteps := 1000000) (implicitDefEqProofs := false) (disch := omega) only [push_cast, ↓reduceIte, Nat.reduceEqDiff, reduceCtorEq, wz, hρ], rfl, rnd_Rt hRn, by simp only; omega, by simp only; omega, hfx⟩
          clear hρ ε
          rintro ε σ ⟨hρ, rfl⟩
          obtain ⟨D, hD⟩ : ∃ D, D = l.length - (fixR l).length := ⟨_, rfl⟩
          have hsub : ((l.length : Int) - ((fixR l).length : Int)) = (D : Int) := by omega
          rw [← hD] at hds
          have hsum : ((D0 : Int) + (D : Int)) = ((dropS (fs.take (k + 1)) : Nat) : Int) := by omega
          refine wpa_seqx (fun ε' σ' => (ε' 2 = .ref 1 0 0 ∧ ε' 6 = .ref 2 0 0 ∧ ε' 7 = .v (.int .i64 (dropS (fs.take (k + 1)) : Nat)) ∧ ε' 22 = .sl fs.length (fs.map aIxs) .none ∧ ε' 23 = .v (.int .i64 fs.length) ∧ ε' 24 = .v (.int .i64 k) ∧ ε' 10 = aIxs (fixR l)) ∧ σ' = [.obj 0 (aPr m fs), .obj 0 [.v (.int .i64 0), .sl 0 [] .nil], .obj 0 [.v (.int .i64 m), .sl k (((fs.take k).map fixR).map aIxs) (.id 3 w 1)], .tail w]) ?_ ?_
          · intro N3 X3 R3 hN3
            rw [hIL] at hρ
            rw [hFL] at hρ
            rw [← hsum] at hN3
            simp (maxSteps := 1000000) (implicitDefEqProofs := false) (disch := omega) only [push_cast, ↓reduceIte, Nat.reduceEqDiff, reduceCtorEq, wz, hρ, hsub]
            rw [hFL] at hN3
            exact hN3 _ _ ⟨by simp (maxSteps := 1000000) (implicitDefEqProofs := false) (disch := omega) only [push_cast, ↓reduceIte, Nat.reduceEqDiff, reduceCtorEq, wz, hρ, hsub], rfl⟩
          clear hρ ε
          rintro ε σ ⟨hρ, rfl⟩
          have hone : (AV.v (.int .i64 m)).one = true := rfl
          simp (maxSteps := 1000000) (implicitDefEqProofs := false) (disch := omega) only [push_cast, ↓reduceIte, Nat.reduceEqDiff, reduceCtorEq, wz, hρ]
          refine wpa_bsl (sz := 1) (by intro a ha; simp at ha; subst ha; rfl) (by simp) ?_
          simp (maxSteps := 1000000) (implicitDefEqProofs := false) (disch := omega) only [push_cast, ↓reduceIte, Nat.reduceEqDiff, reduceCtorEq, wz]
          refine wpa_app (m := 1) rfl rfl rfl rfl (by simp; omega) (by omega) (by omega) rfl ?_
          simp (maxSteps := 1000000) (implicitDefEqProofs := false) (disch := omega) only [push_cast, ↓reduceIte, Nat.reduceEqDiff, reduceCtorEq, wz, hρ]
          refine wpa_st1 rfl rfl rfl (by simp) ?_
          simp (maxSteps := 1000000) (implicitDefEqProofs := false) (disch := omega) only [push_cast, ↓reduceIte, Nat.reduceEqDiff, reduceCtorEq, wz, hρ]
          refine hN2 _ _ ⟨by simp (maxSteps := 1000000) (implicitDefEqProofs := false) (disch := omega) only [push_cast, ↓reduceIte, Nat.reduceEqDiff, reduceCtorEq, wz, hρ], w + 1, ?_⟩
          rw [hts]
          simp [AV.cells, aIxs, aSlN]
        clear hρ ε
        rintro ε σ ⟨hρ, w, rfl⟩
        simp (maxSteps := 1000000) (implicitDefEqProofs := false) (disch := omega) only [push_cast, ↓reduceIte, Nat.reduceEqDiff, reduceCtorEq, wz, hρ]
        refine hN (k + 1) _ _ ?_ (by omega)
        exact ⟨by simp (maxSteps := 1000000) (implicitDefEqProofs := false) (disch := omega) only [push_cast, ↓reduceIte, Nat.reduceEqDiff, reduceCtorEq, wz, hρ], by omega, w, rfl⟩
      · simp (maxSteps := 1000000) (implicitDefEqProofs := false) (disch := omega) only [push_cast, ↓reduceIte, Nat.reduceEqDiff, reduceCtorEq, wz, hρ]
        obtain rfl : k = fs.length := by omega
        rw [List.take_length] at hρ ⊢
        exact hE _ _ ⟨by simp (maxSteps := 1000000) (implicitDefEqProofs := false) (disch := omega) only [push_cast, ↓reduceIte, Nat.reduceEqDiff, reduceCtorEq, wz, hρ], w, rfl⟩
  clear hρ ε
  rintro ε σ ⟨hρ, w, rfl⟩
  have hc2 : cellsA (some 2) [AV.v (.int .i64 m), .sl fs.length ((fs.map fixR).map aIxs) (.id 3 w 1)] = some (.agg [AV.v (.int .i64 m), .sl fs.length ((fs.map fixR).map aIxs) (.id 3 w 1)]) := rfl
  have hset : setAtA [AV.v (.int .i64 0), AV.sl 0 [] .nil] 0 [AV.v (.int .i64 m), .sl fs.length ((fs.map fixR).map aIxs) (.id 3 w 1)] = [AV.v (.int .i64 m), .sl fs.length ((fs.map fixR).map aIxs) (.id 3 w 1)] := rfl
  simp (maxSteps := 1000000) (implicitDefEqProofs := false) (disch := omega) only [push_cast, ↓reduceIte, Nat.reduceEqDiff, reduceCtorEq, wz, hρ, hc2]
  refine wpa_stn (cs := [AV.v (.int .i64 0), AV.sl 0 [] .nil]) rfl rfl rfl (by decide) ?_
  rw [hset]
  simp (maxSteps := 1000000) (implicitDefEqProofs := false) (disch := omega) only [push_cast, ↓reduceIte, Nat.reduceEqDiff, reduceCtorEq, wz, hρ, hc2]
  refine fin_tup3 [] ?_ (res_v _ _) (res_v _ _) (aPr_pure' m (fs.map fixR)) rfl rfl rfl
  have := pr_res [Res.obj 0 (aPr m fs), Res.obj 0 [AV.v (.int .i64 m), .sl fs.length ((fs.map fixR).map aIxs) (.id 3 w 1)], Res.obj 0 [AV.v (.int .i64 m), .sl fs.length ((fs.map fixR).map aIxs) (.id 3 w 1)], Res.tail w] m (fs.map fixR) (.id 3 w 1)
  rw [List.length_map] at this
  exact this


def L0 : List Ix := [⟨18, 2, 0, 0⟩, ⟨17, 1, 0, 0⟩, ⟨18, 3, 0, 0⟩, ⟨0, 0, 0, 0⟩]
def L9 : List Ix := [⟨0, 0, 0, 0⟩]
theorem prg_L0 : prgE 0 [L0] = 0 := by rfl
theorem fix_L0 : fixR L0 = L9 := by rfl
theorem drop_L0 : dropS [L0] = 3 := by rfl
theorem reach_L0 : reachB L0 = [true, false, true, true] := by rfl
theorem us_2 : usL L0 2 = true := by rfl
theorem us_0 : usL L0 0 = false := by rfl
theorem tidy_L0 : tidyA 0 [L0] = .tup [.agg (aPr 0 [L9]), aInt 3, aInt 0] := by
  unfold tidyA tidyM tidyF tidyN
  rw [if_pos prg_L0, if_pos prg_L0, if_pos prg_L0, prg_L0, drop_L0]
  simp only [List.map_cons, List.map_nil, fix_L0]
  rfl
theorem rt_L0 : Rt L0 := ((prg_ok prg_L0).2.2 L0 (by simp)).rt
set_option maxHeartbeats 8000000 in
theorem law42_works_a : FnP Try.prog 15 [] fun a => a = aBool true := by
  refine fnP_in K_forebaylaw42_works mixed rfl (by simp [AV.pureL]) ?_
  simp only [S_forebaylaw42_works]
  have b2 : ∀ o a : Int, fillA [AV.v (.int .i64 0), AV.v (.int .i64 0), AV.v (.int .i64 0), AV.v (.int .i64 0)] [(0, 1), (1, 1)] [AV.v (.int .i64 o), AV.v (.int .i64 a)] = some (aIx ⟨o, a, 0, 0⟩) := fun o a => by simp [fillA, AV.cells, Value.cells, setAtA, aIx]
  have b1 : ∀ o : Int, fillA [AV.v (.int .i64 0), AV.v (.int .i64 0), AV.v (.int .i64 0), AV.v (.int .i64 0)] [(0, 1)] [AV.v (.int .i64 o)] = some (aIx ⟨o, 0, 0, 0⟩) := fun o => by simp [fillA, AV.cells, Value.cells, setAtA, aIx]
  have bp : ∀ c : AV, c.cells = [c] → fillA [AV.v (.int .i64 0), AV.sl 0 [] .nil] [(1, 1)] [c] = some [AV.v (.int .i64 0), c] := fun c hc => by simp [fillA, setAtA, hc]
  have hac : ∀ x : Ix, (AV.agg (aIx x)).cells = aIx x := fun x => rfl
  have hset : setAtA [AV.v (.int .i64 0), AV.sl 0 [] .nil] 0 (aPr 0 [L9]) = aPr 0 [L9] := rfl
  refine wpa_seqx (fun ε σ => σ = []) (fun N X' R' hN => by simp (maxSteps := 1000000) (implicitDefEqProofs := false) (disch := omega) only [push_cast, ↓reduceIte, Nat.reduceEqDiff, reduceCtorEq, wz]; exact hN _ _ (by simp (maxSteps := 1000000) (implicitDefEqProofs := false) (disch := omega) only [push_cast, ↓reduceIte, Nat.reduceEqDiff, reduceCtorEq, wz]; try rfl)) ?_
  rintro ε σ rfl
  refine wpa_seqx (fun ε σ => ε 1 = .sl 4 (L0.flatMap aIx) .full ∧ σ = []) ?_ ?_
  · intro N X R hN
    simp (maxSteps := 1000000) (implicitDefEqProofs := false) (disch := omega) only [push_cast, ↓reduceIte, Nat.reduceEqDiff, reduceCtorEq, wz, b2, b1]
    refine wpa_bsl (sz := 4) (by intro a ha; simp at ha; rcases ha with rfl | rfl | rfl | rfl <;> rfl) (by simp) ?_
    simp (maxSteps := 1000000) (implicitDefEqProofs := false) (disch := omega) only [push_cast, ↓reduceIte, Nat.reduceEqDiff, reduceCtorEq, wz]
    exact hN _ _ ⟨by simp (maxSteps := 1000000) (implicitDefEqProofs := false) (disch := omega) only [push_cast, ↓reduceIte, Nat.reduceEqDiff, reduceCtorEq, wz]; try rfl, rfl⟩
  clear ε
  rintro ε σ ⟨hρ, rfl⟩
  refine wpa_seqx (fun ε σ => (ε 1 = .sl 4 (L0.flatMap aIx) .full ∧ ε 2 = .ref 0 0 0 ∧ ε 3 = .v (.int .i64 3) ∧ ε 4 = .v (.int .i64 0)) ∧ σ = [.obj 0 (aPr 0 [L9])]) ?_ ?_
  · intro N X R hN
    have hw : weak (Go.Kx.freeze [] []) [true] [AV.agg [.v (.int .i64 0), .sl 1 [.sl 4 (L0.flatMap aIx) .full] .full]] = [.agg (aPr 0 [L0])] := rfl
    have bq := bp (.sl 1 [.sl 4 (L0.flatMap aIx) .full] .full) rfl
    simp (maxSteps := 1000000) (implicitDefEqProofs := false) (disch := omega) only [push_cast, ↓reduceIte, Nat.reduceEqDiff, reduceCtorEq, wz, hρ]
    refine wpa_bsl (sz := 1) (by intro a ha; simp at ha; subst ha; rfl) (by simp) ?_
    have hcl : (AV.sl 4 (L0.flatMap aIx) .full).cells = [.sl 4 (L0.flatMap aIx) .full] := rfl
    simp (maxSteps := 1000000) (implicitDefEqProofs := false) (disch := omega) only [push_cast, ↓reduceIte, Nat.reduceEqDiff, reduceCtorEq, wz, hcl, bq]
    refine wpa_callw [] [true] (tidy_Program_a 0 [L0] ⟨by simp, by simp [L0]⟩) hw ?_
    rintro a rfl
    rw [tidy_L0]
    simp (maxSteps := 1000000) (implicitDefEqProofs := false) (disch := omega) only [push_cast, ↓reduceIte, Nat.reduceEqDiff, reduceCtorEq, wz]
    refine wpa_new ?_
    simp (maxSteps := 1000000) (implicitDefEqProofs := false) (disch := omega) only [push_cast, ↓reduceIte, Nat.reduceEqDiff, reduceCtorEq, wz]
    refine wpa_stn (cs := [AV.v (.int .i64 0), AV.sl 0 [] .nil]) rfl rfl rfl (by decide) ?_
    rw [hset]
    simp (maxSteps := 1000000) (implicitDefEqProofs := false) (disch := omega) only [push_cast, ↓reduceIte, Nat.reduceEqDiff, reduceCtorEq, wz]
    exact hN _ _ ⟨by simp (maxSteps := 1000000) (implicitDefEqProofs := false) (disch := omega) only [push_cast, ↓reduceIte, Nat.reduceEqDiff, reduceCtorEq, wz, hρ]; exact ⟨rfl, rfl, rfl⟩, rfl⟩
  clear hρ ε
  rintro ε σ ⟨hρ, rfl⟩
  refine wpa_seqx (fun ε σ => (ε 1 = .sl 4 (L0.flatMap aIx) .full ∧ ε 2 = .ref 0 0 0 ∧ ε 3 = .v (.int .i64 3) ∧ ε 4 = .v (.int .i64 0) ∧ ε 5 = .sl 4 ([true, false, true, true].map aBool) .none ∧ ε 6 = .v (.int .i64 0)) ∧ σ = [.obj 0 (aPr 0 [L9])]) ?_ ?_
  · intro N X R hN
    have hw : weak (Go.Kx.freeze [] [.obj 0 (aPr 0 [L9])]) [true] [AV.sl 4 (L0.flatMap aIx) .full] = [aIxs L0] := rfl
    simp (maxSteps := 1000000) (implicitDefEqProofs := false) (disch := omega) only [push_cast, ↓reduceIte, Nat.reduceEqDiff, reduceCtorEq, wz, hρ]
    refine wpa_callw [] [true] (tidy_Reached_a L0 rt_L0 (by decide)) hw ?_
    rintro a rfl
    rw [reach_L0]
    simp (maxSteps := 1000000) (implicitDefEqProofs := false) (disch := omega) only [push_cast, ↓reduceIte, Nat.reduceEqDiff, reduceCtorEq, wz]
    exact hN _ _ ⟨by simp (maxSteps := 1000000) (implicitDefEqProofs := false) (disch := omega) only [push_cast, ↓reduceIte, Nat.reduceEqDiff, reduceCtorEq, wz, hρ]; try exact ⟨rfl, rfl⟩, rfl⟩
  clear hρ ε
  rintro ε σ ⟨hρ, rfl⟩
  have hw1 : weak (Go.Kx.freeze [] [.obj 0 (aPr 0 [L9])]) [false, true] [.agg (aPr 0 [L9]), AV.agg [.v (.int .i64 0), .sl 1 [.sl 1 (L9.flatMap aIx) .full] .full]] = [.agg (aPr 0 [L9]), .agg (aPr 0 [L9])] := rfl
  have hw2 : ∀ i : Int, weak (Go.Kx.freeze [] [.obj 0 (aPr 0 [L9])]) [true] [AV.sl 4 (L0.flatMap aIx) .full, .v (.int .i64 i)] = [aIxs L0, aInt i] := fun i => rfl
  have bq := bp (.sl 1 [.sl 1 (L9.flatMap aIx) .full] .full) rfl
  have hcl : (AV.sl 1 (L9.flatMap aIx) .full).cells = [.sl 1 (L9.flatMap aIx) .full] := rfl
  have hf1 : [AV.agg (aIx ⟨0, 0, 0, 0⟩)].flatMap AV.cells = L9.flatMap aIx := rfl
  have hb1 : ([true, false, true, true].map aBool)[Int.toNat 1]? = some (.v (.bool false)) := rfl
  simp (maxSteps := 1000000) (implicitDefEqProofs := false) (disch := omega) only [push_cast, ↓reduceIte, Nat.reduceEqDiff, reduceCtorEq, wz, hρ, b1, cellsPr]
  refine wpa_bsl (sz := 4) (by intro a ha; simp at ha; subst ha; rfl) (by simp) ?_
  rw [hf1]
  simp (maxSteps := 1000000) (implicitDefEqProofs := false) (disch := omega) only [push_cast, ↓reduceIte, Nat.reduceEqDiff, reduceCtorEq, wz, hρ]
  refine wpa_bsl (sz := 1) (by intro a ha; simp at ha; subst ha; rfl) (by simp) ?_
  simp (maxSteps := 1000000) (implicitDefEqProofs := false) (disch := omega) only [push_cast, ↓reduceIte, Nat.reduceEqDiff, reduceCtorEq, wz, hcl, bq]
  refine wpa_callw [] [false, true] (ref04_Same_a 0 [L9] ⟨by simp, by simp [L9]⟩) hw1 ?_
  rintro a rfl
  simp (maxSteps := 1000000) (implicitDefEqProofs := false) (disch := omega) only [push_cast, ↓reduceIte, Nat.reduceEqDiff, reduceCtorEq, wz, hρ, aBool, hb1]
  refine wpa_callw [] [true] (tidy_Useless_a L0 2 (by decide) (by decide)) (hw2 2) ?_
  rintro a rfl
  rw [us_2]
  simp (maxSteps := 1000000) (implicitDefEqProofs := false) (disch := omega) only [push_cast, ↓reduceIte, Nat.reduceEqDiff, reduceCtorEq, wz, hρ, aBool]
  refine wpa_callw [] [true] (tidy_Useless_a L0 0 (by decide) (by decide)) (hw2 0) ?_
  rintro a rfl
  rw [us_0]
  simp (maxSteps := 1000000) (implicitDefEqProofs := false) (disch := omega) only [push_cast, ↓reduceIte, Nat.reduceEqDiff, reduceCtorEq, wz, hρ, aBool]
  first | exact ⟨[], rfl, rfl⟩ | exact ⟨[], rfl⟩
end Go.Proofs.Ytncdnegdlkmicaa
