/- Tidy: Reached, Useless, Clone, Equal, ledOn: the walks. -/
import Derived.Test.YthgmfjkbgacfaaaTdh
namespace Go.Proofs.Ythgmfjkbgacfaaa
set_option linter.unusedVariables false
set_option linter.unusedSimpArgs false
open Go Go.Kx Go.Proofs

theorem tidy_Reached_a (l : List Ix) (hR : Rt l) (hl : l.length ≤ 200) : FnP Try.prog 59 [aIxs l] fun a => a = .tup [aSl aBool (reachB l), aInt 0] := by
  refine fnP_in K_tidy_Reached mixed rfl (by simp [AV.pureL, aIxs_pure]) ?_
  simp only [S_tidy_Reached]
  simp (maxSteps := 1000000) (implicitDefEqProofs := false) (disch := omega) only [push_cast, ↓reduceIte, Nat.reduceEqDiff, reduceCtorEq, wz]
  refine wpa_call (tidy_check_a l hR hl) ?_
  rintro a rfl
  simp (maxSteps := 1000000) (implicitDefEqProofs := false) (disch := omega) only [push_cast, ↓reduceIte, Nat.reduceEqDiff, reduceCtorEq, wz, aInt]
  refine wpa_call (tidy_reached_a l hR (by omega)) ?_
  rintro a rfl
  simp (maxSteps := 1000000) (implicitDefEqProofs := false) (disch := omega) only [push_cast, ↓reduceIte, Nat.reduceEqDiff, reduceCtorEq, wz]
  exact fin_tup2 [] (aSl_res (aBool_res _) _ .none) (res_v _ _) (aBools_pure _) rfl rfl
set_option maxHeartbeats 8000000 in
theorem tidy_Useless_a (l : List Ix) (i : Nat) (hi : i < l.length) (hl : l.length ≤ 300) : FnP Try.prog 60 [aIxs l, aInt i] fun a => a = aBool (usL l i) := by
  refine fnP_in K_tidy_Useless mixed rfl (by simp [AV.pureL, aIxs_pure, aInt_pure]) ?_
  simp only [S_tidy_Useless, aInt]
  have hIL : aIxs l = .sl l.length (l.flatMap aIx) .none := rfl
  obtain ⟨x, hx⟩ := at_lt hi
  have hd := flat_drop aIx_len hx
  have hu : usL l i = usX x i := by unfold usL; rw [hx]
  rw [hu]
  have h1 : ¬ ((i : Int) < 0) := by omega
  have h2 : ¬ ((l.length : Int) ≤ (i : Int)) := by omega
  simp (maxSteps := 1000000) (implicitDefEqProofs := false) (disch := omega) only [push_cast, ↓reduceIte, Nat.reduceEqDiff, reduceCtorEq, wz, hIL, h1, h2, hd, cellsIx]
  refine wpa_new ?_
  simp (maxSteps := 1000000) (implicitDefEqProofs := false) (disch := omega) only [push_cast, ↓reduceIte, Nat.reduceEqDiff, reduceCtorEq, wz]
  refine wpa_stn (cs := [AV.v (.int .i64 0), AV.v (.int .i64 0), AV.v (.int .i64 0), AV.v (.int .i64 0)]) rfl rfl rfl (by decide) ?_
  rw [z4set]
  have hb : ([Res.obj 0 (aIx x)] : Kx.St)[0]? = some (.obj 0 (aIx x)) := rfl
  unfold usX
  by_cases c0 : x.op = 2
  · rw [if_pos c0]
    simp (maxSteps := 1000000) (implicitDefEqProofs := false) (disch := omega) only [push_cast, ↓reduceIte, Nat.reduceEqDiff, reduceCtorEq, wz, ix0, ix1, ix2, c0]
    first | exact ⟨[], rfl, rfl⟩ | exact ⟨[], rfl⟩
  rw [if_neg c0]
  simp (maxSteps := 1000000) (implicitDefEqProofs := false) (disch := omega) only [push_cast, ↓reduceIte, Nat.reduceEqDiff, reduceCtorEq, wz, ix0, ix1, ix2, c0]
  refine wpa_callG (tidy_target_a hb (ix0 x)) ?_
  rintro a σ' ⟨rfl, rfl⟩
  by_cases c1 : x.op = 18
  · rw [tg18 c1, tgt_jump c1]
    simp (maxSteps := 1000000) (implicitDefEqProofs := false) (disch := omega) only [push_cast, ↓reduceIte, Nat.reduceEqDiff, reduceCtorEq, wz, ix0, ix1, ix2]
    first | exact ⟨[], rfl, rfl⟩ | exact ⟨[], rfl⟩
  by_cases c2 : x.op = 19
  · have ht : tgtX x = some x.b := by unfold tgtX; rw [if_neg c1, if_pos c2]
    rw [tg19 c1 c2, ht]
    simp (maxSteps := 1000000) (implicitDefEqProofs := false) (disch := omega) only [push_cast, ↓reduceIte, Nat.reduceEqDiff, reduceCtorEq, wz, ix0, ix1, ix2]
    first | exact ⟨[], rfl, rfl⟩ | exact ⟨[], rfl⟩
  have ht : tgtX x = none := by unfold tgtX; rw [if_neg c1, if_neg c2]
  rw [tg0 c1 c2, ht]
  simp (maxSteps := 1000000) (implicitDefEqProofs := false) (disch := omega) only [push_cast, ↓reduceIte, Nat.reduceEqDiff, reduceCtorEq, wz, Option.isNone_none]
  first | exact ⟨[], rfl, rfl⟩ | exact ⟨[], rfl⟩
theorem aIx_one (l : List Ix) : (l.flatMap aIx).all AV.one = true := by
  rw [List.all_flatMap]; simp only [show ∀ x, (aIx x).all AV.one = true from fun x => rfl]; simp
theorem Clone_o (l : List Ix) (h0 : 0 < l.length) (hl : l.length ≤ 300) (σ : Kx.St) : FnG Try.prog 61 [aIxs l] σ fun a σ' => a = .ms σ.length 1 0 l.length 4 ∧ σ' = σ ++ [.obj 1 (l.flatMap aIx)] := by
  refine fnG_in K_slices_Clone_api_Ins_api_Ins mixed rfl ?_
  simp only [S_slices_Clone_api_Ins_api_Ins]
  have hIL : aIxs l = .sl l.length (l.flatMap aIx) .none := rfl
  have hnil : PF.av (.eqn false 1) [.sl l.length (l.flatMap aIx) .none] = some (.v (.bool false)) := by
    show (if l.length = 0 then none else some _) = _
    rw [if_neg (by omega)]
  have hfl := flat_len aIx_len l
  simp (maxSteps := 1000000) (implicitDefEqProofs := false) (disch := omega) only [push_cast, ↓reduceIte, Nat.reduceEqDiff, reduceCtorEq, wz, hIL, hnil]
  refine wpa_bslo (sz := 4) (by simp) (by simp) ?_
  simp (maxSteps := 1000000) (implicitDefEqProofs := false) (disch := omega) only [push_cast, ↓reduceIte, Nat.reduceEqDiff, reduceCtorEq, wz]
  refine wpa_app_ms (n := 0) (m := l.length) rfl rfl hfl (aIx_one l) (by simp) (by omega) (by omega) (at_snoc _ _) ?_
  simp (maxSteps := 1000000) (implicitDefEqProofs := false) (disch := omega) only [push_cast, ↓reduceIte, Nat.reduceEqDiff, reduceCtorEq, wz, set_snoc]
  exact trivial
theorem aIxL_res (σ : St) (l : List Ix) : AV.resL σ (l.flatMap aIx) = l.flatMap aIx := by
  induction l with
  | nil => rfl
  | cons x l ih =>
    rw [resL_map] at ih ⊢
    rw [List.flatMap_cons, List.map_append, ih]
    congr 1
theorem res_ixs {σ : Kx.St} {i w : Nat} {l : List Ix} (h : σ[i]? = some (.obj w (l.flatMap aIx))) : AV.res (Go.Kx.freeze [i] σ) (.ms i w 0 l.length 4) = aIxs l := by
  rw [freeze_one h (aIxL_res _ _), res_ms (get_set_eq h) (flat_len aIx_len l)]
  rfl
theorem Clone_a (l : List Ix) (h0 : 0 < l.length) (hl : l.length ≤ 300) : FnP Try.prog 61 [aIxs l] fun a => a = aIxs l := by
  refine ⟨by simp [AV.pureL, aIxs_pure], FnG.fz ?_⟩
  refine (Clone_o l h0 hl []).mono ?_
  rintro a σ' ⟨rfl, rfl⟩
  refine ⟨[0], ?_, ?_⟩
  · have := res_ixs (σ := [.obj 1 (l.flatMap aIx)]) (i := 0) (w := 1) (l := l) rfl
    show (AV.res _ (.ms 0 1 0 l.length 4)).pure = true
    rw [List.nil_append, this]
    exact aIxs_pure l
  · exact res_ixs (σ := [.obj 1 (l.flatMap aIx)]) (i := 0) (w := 1) (l := l) rfl
set_option maxHeartbeats 8000000 in
theorem Equal_a (p q : List Ix) (hp : p.length ≤ 300) (hq : q.length ≤ 300) : FnP Try.prog 63 [aIxs p, aIxs q] fun a => a = aBool (decide (p = q)) := by
  refine fnP_in K_slices_Equal_api_Ins_api_Ins mixed rfl (by simp [AV.pureL, aIxs_pure]) ?_
  simp only [S_slices_Equal_api_Ins_api_Ins]
  have hP : aIxs p = .sl p.length (p.flatMap aIx) .none := rfl
  have hQ : aIxs q = .sl q.length (q.flatMap aIx) .none := rfl
  by_cases hlen : p.length = q.length
  · simp (maxSteps := 1000000) (implicitDefEqProofs := false) (disch := omega) only [push_cast, ↓reduceIte, Nat.reduceEqDiff, reduceCtorEq, wz, hP, hQ, hlen]
    refine wpa_bl (α := Nat) (I := fun k ε σ => (ε 0 = .sl q.length (p.flatMap aIx) .none ∧ ε 1 = aIxs q ∧ ε 12 = .v (.int .i64 q.length) ∧ ε 13 = .v (.int .i64 k)) ∧ k ≤ q.length ∧ p.take k = q.take k)
      (μ := fun k => q.length - k) (Q := fun ε σ => p = q) (x := 0) ?_ ?_ ?_
    · simp (maxSteps := 1000000) (implicitDefEqProofs := false) (disch := omega) only [push_cast, ↓reduceIte, Nat.reduceEqDiff, reduceCtorEq, wz, hP, hQ, hlen]
      first | exact ⟨by omega, by simp⟩ | omega
    · rintro k ε σ N E ⟨hρ, hk, he⟩ hN hE
      simp only [S_slices_Equal_api_Ins_api_Ins_L1]
      by_cases hlt : k < q.length
      · obtain ⟨x, hx⟩ := at_lt (l := p) (k := k) (by omega)
        obtain ⟨y, hy⟩ := at_lt (l := q) (k := k) hlt
        have hd1 := flat_drop aIx_len hx
        have hd2 := flat_drop aIx_len hy
        have hqq := eqsIx true x y
        by_cases hxy : x = y
        · rw [show (true != decide (x = y)) = false by simp [hxy]] at hqq
          simp (maxSteps := 1000000) (implicitDefEqProofs := false) (disch := omega) only [push_cast, ↓reduceIte, Nat.reduceEqDiff, reduceCtorEq, wz, hρ, hQ, hd1, hd2, cellsIx, hqq]
          refine hN (k + 1) _ _ ?_ (by omega)
          exact ⟨by simp (maxSteps := 1000000) (implicitDefEqProofs := false) (disch := omega) only [push_cast, ↓reduceIte, Nat.reduceEqDiff, reduceCtorEq, wz, hρ, hQ], by omega, by rw [take_succ_at hx, take_succ_at hy, he, hxy]⟩
        · rw [show (true != decide (x = y)) = true by simp [hxy]] at hqq
          have hne : p ≠ q := fun h => by subst h; rw [hx] at hy; cases hy; exact hxy rfl
          rw [show decide (p = q) = false by simp [hne]]
          simp (maxSteps := 1000000) (implicitDefEqProofs := false) (disch := omega) only [push_cast, ↓reduceIte, Nat.reduceEqDiff, reduceCtorEq, wz, hρ, hQ, hd1, hd2, cellsIx, hqq]
          first | exact ⟨[], rfl, rfl⟩ | exact ⟨[], rfl⟩
      · simp (maxSteps := 1000000) (implicitDefEqProofs := false) (disch := omega) only [push_cast, ↓reduceIte, Nat.reduceEqDiff, reduceCtorEq, wz, hρ, hQ]
        refine hE _ _ ?_
        rw [List.take_of_length_le (by omega), List.take_of_length_le (by omega)] at he
        exact he
    · rintro ε σ h
      rw [show decide (p = q) = true by simp [h]]
      simp (maxSteps := 1000000) (implicitDefEqProofs := false) (disch := omega) only [push_cast, ↓reduceIte, Nat.reduceEqDiff, reduceCtorEq, wz]
      first | exact ⟨[], rfl, rfl⟩ | exact ⟨[], rfl⟩
  · have hne : p ≠ q := fun h => hlen (by rw [h])
    have hlen' : ¬ ((p.length : Int) = (q.length : Int)) := by omega
    rw [show decide (p = q) = false by simp [hne]]
    simp (maxSteps := 1000000) (implicitDefEqProofs := false) (disch := omega) only [push_cast, ↓reduceIte, Nat.reduceEqDiff, reduceCtorEq, wz, hP, hQ, hlen']
    first | exact ⟨[], rfl, rfl⟩ | exact ⟨[], rfl⟩
theorem flat_set_a {t : Int} : ∀ {L : List Ix} {k : Nat} {x : Ix}, L[k]? = some x → (L.flatMap aIx).set (k * 4 + 1) (.v (.int .i64 t)) = (L.set k { x with a := t }).flatMap aIx := by
  intro L
  induction L with
  | nil => intro k x h; simp at h
  | cons y L ih =>
    intro k x h
    cases k with
    | zero => simp at h; subst h; rfl
    | succ k =>
      rw [List.getElem?_cons_succ] at h
      rw [show (k + 1) * 4 + 1 = (k * 4 + 1) + 1 + 1 + 1 + 1 by omega, List.set_cons_succ, List.flatMap_cons, List.flatMap_cons, ← ih h]
      rfl
theorem flat_set_b {t : Int} : ∀ {L : List Ix} {k : Nat} {x : Ix}, L[k]? = some x → (L.flatMap aIx).set (k * 4 + 2) (.v (.int .i64 t)) = (L.set k { x with b := t }).flatMap aIx := by
  intro L
  induction L with
  | nil => intro k x h; simp at h
  | cons y L ih =>
    intro k x h
    cases k with
    | zero => simp at h; subst h; rfl
    | succ k =>
      rw [List.getElem?_cons_succ] at h
      rw [show (k + 1) * 4 + 2 = (k * 4 + 2) + 1 + 1 + 1 + 1 by omega, List.set_cons_succ, List.flatMap_cons, List.flatMap_cons, ← ih h]
      rfl
/-- The first k with their targets turned. -/
def curL (f : Nat → Nat) (l : List Ix) (k : Nat) : List Ix := (l.take k).map (mapX f) ++ l.drop k
theorem cur_len (f : Nat → Nat) (l : List Ix) (k : Nat) : (curL f l k).length = l.length := by
  unfold curL
  rw [List.length_append, List.length_map, List.length_take, List.length_drop]; omega
theorem cur_at {f : Nat → Nat} {l : List Ix} {k : Nat} {x : Ix} (h : l[k]? = some x) : (curL f l k)[k]? = some x := by
  have hk := lt_at h
  unfold curL
  rw [List.getElem?_append_right (by simp; omega)]
  simp only [List.length_map, List.length_take, List.getElem?_drop]
  rw [show k + (k - min k l.length) = k by omega]
  exact h
theorem cur_set {f : Nat → Nat} {l : List Ix} {k : Nat} {x : Ix} (h : l[k]? = some x) : (curL f l k).set k (mapX f x) = curL f l (k + 1) := by
  have hk := lt_at h
  unfold curL
  rw [List.set_append_right _ _ (by simp; omega), take_succ_at h, List.map_append, drop_at h]
  simp only [List.length_map, List.length_take]
  rw [show k - min k l.length = 0 by omega]
  simp
theorem cur_keep {f : Nat → Nat} {l : List Ix} {k : Nat} {x : Ix} (h : l[k]? = some x) (hm : mapX f x = x) : curL f l (k + 1) = curL f l k := by
  rw [← cur_set h, hm]
  refine List.ext_getElem? fun j => ?_
  by_cases e : k = j
  · subst e; rw [cur_at h, List.getElem?_set_self (by rw [cur_len]; exact lt_at h)]
  · rw [List.getElem?_set_ne e]
theorem cur_0 (f : Nat → Nat) (l : List Ix) : curL f l 0 = l := by simp [curL]
theorem cur_all (f : Nat → Nat) (l : List Ix) : curL f l l.length = l.map (mapX f) := by simp [curL]
theorem map18 {f : Nat → Nat} {x : Ix} (h : x.op = 18) : mapX f x = { x with a := (f x.a.toNat : Nat) } := by
  unfold mapX; rw [tgt_jump h]; simp only; unfold wthX; rw [if_pos h]
theorem map19 {f : Nat → Nat} {x : Ix} (h1 : ¬ x.op = 18) (h : x.op = 19) : mapX f x = { x with b := (f x.b.toNat : Nat) } := by
  unfold mapX; rw [show tgtX x = some x.b by unfold tgtX; rw [if_neg h1, if_pos h]]; simp only; unfold wthX; rw [if_neg h1, if_pos h]
theorem map0 {f : Nat → Nat} {x : Ix} (h1 : ¬ x.op = 18) (h : ¬ x.op = 19) : mapX f x = x := by
  unfold mapX; rw [show tgtX x = none by unfold tgtX; rw [if_neg h1, if_neg h]]
set_option maxHeartbeats 16000000 in
theorem tidy_ledOn_a (l : List Ix) (hR : Rt l) (hl : l.length ≤ 300) : FnP Try.prog 93 [aIxs l] fun a => a = aIxs (ledL l) := by
  refine fnP_in K_tidy_ledOn mixed rfl (by simp [AV.pureL, aIxs_pure]) ?_
  simp only [S_tidy_ledOn]
  have hIL : aIxs l = .sl l.length (l.flatMap aIx) .none := rfl
  have hpos := hR.pos
  simp (maxSteps := 1000000) (implicitDefEqProofs := false) (disch := omega) only [push_cast, ↓reduceIte, Nat.reduceEqDiff, reduceCtorEq, wz]
  refine wpa_callG (Clone_o l hpos hl []) ?_
  rintro a σ ⟨rfl, rfl⟩
  simp (maxSteps := 1000000) (implicitDefEqProofs := false) (disch := omega) only [push_cast, ↓reduceIte, Nat.reduceEqDiff, reduceCtorEq, wz]
  refine wpa_bl (α := Nat) (I := fun k ε σ => (ε 0 = aIxs l ∧ ε 3 = .ms 0 1 0 l.length 4 ∧ ε 9 = .v (.int .i64 l.length) ∧ ε 10 = .v (.int .i64 k)) ∧ k ≤ l.length ∧ σ[0]? = some (.obj 1 ((curL (leadF l) l k).flatMap aIx)))
    (μ := fun k => l.length - k) (Q := fun ε σ => ε 3 = .ms 0 1 0 l.length 4 ∧ σ[0]? = some (.obj 1 ((ledL l).flatMap aIx))) (x := 0) ?_ ?_ ?_
  · simp (maxSteps := 1000000) (implicitDefEqProofs := false) (disch := omega) only [push_cast, ↓reduceIte, Nat.reduceEqDiff, reduceCtorEq, wz, hIL]
    exact ⟨by omega, by rw [cur_0]⟩
  · rintro k ε σ N E ⟨hρ, hk, hs⟩ hN hE
    simp only [S_tidy_ledOn_L1]
    by_cases hlt : k < l.length
    · obtain ⟨x, hx⟩ := at_lt hlt
      have hcx := cur_at (f := leadF l) hx
      have h0 := op_at hcx
      have h1 := a_at hcx
      have h2 := b_at hcx
      have hll : ((curL (leadF l) l k).flatMap aIx).length = l.length * 4 := by rw [flat_len aIx_len, cur_len]
      have z : 0 + k * 4 = k * 4 := by omega
      simp (maxSteps := 1000000) (implicitDefEqProofs := false) (disch := omega) only [push_cast, ↓reduceIte, Nat.reduceEqDiff, reduceCtorEq, wz, hρ]
      refine wpa_callG (tidy_target_a hs h0) ?_
      rintro a σ' ⟨rfl, rfl⟩
      by_cases c1 : x.op = 18
      · have htg := hR.tg k x x.a hx (tgt_jump c1)
        obtain ⟨t, ht⟩ : ∃ t : Nat, x.a = t := ⟨x.a.toNat, by omega⟩
        have hst := flat_set_a (t := ((leadF l t : Nat) : Int)) hcx
        have hmx := map18 (f := leadF l) c1
        rw [ht] at h1 hmx
        rw [Int.toNat_natCast] at hmx
        rw [← hmx, cur_set hx] at hst
        rw [tg18 c1]
        simp (maxSteps := 1000000) (implicitDefEqProofs := false) (disch := omega) only [push_cast, ↓reduceIte, Nat.reduceEqDiff, reduceCtorEq, wz, hρ, hs, h1]
        refine wpa_call (tidy_leads_a l hR hl t (by omega)) ?_
        rintro a rfl
        simp (maxSteps := 1000000) (implicitDefEqProofs := false) (disch := omega) only [push_cast, ↓reduceIte, Nat.reduceEqDiff, reduceCtorEq, wz, aInt]
        refine wpa_st1 rfl rfl hs (by rw [hll]; omega) ?_
        rw [hst]
        simp (maxSteps := 1000000) (implicitDefEqProofs := false) (disch := omega) only [push_cast, ↓reduceIte, Nat.reduceEqDiff, reduceCtorEq, wz, hρ]
        refine hN (k + 1) _ _ ?_ (by omega)
        exact ⟨by simp (maxSteps := 1000000) (implicitDefEqProofs := false) (disch := omega) only [push_cast, ↓reduceIte, Nat.reduceEqDiff, reduceCtorEq, wz, hρ], by omega, get_set_eq hs⟩
      by_cases c2 : x.op = 19
      · have htx : tgtX x = some x.b := by unfold tgtX; rw [if_neg c1, if_pos c2]
        have htg := hR.tg k x x.b hx htx
        obtain ⟨t, ht⟩ : ∃ t : Nat, x.b = t := ⟨x.b.toNat, by omega⟩
        have hst := flat_set_b (t := ((leadF l t : Nat) : Int)) hcx
        have hmx := map19 (f := leadF l) c1 c2
        rw [ht] at h2 hmx
        rw [Int.toNat_natCast] at hmx
        rw [← hmx, cur_set hx] at hst
        rw [tg19 c1 c2]
        simp (maxSteps := 1000000) (implicitDefEqProofs := false) (disch := omega) only [push_cast, ↓reduceIte, Nat.reduceEqDiff, reduceCtorEq, wz, hρ, hs, h2]
        refine wpa_call (tidy_leads_a l hR hl t (by omega)) ?_
        rintro a rfl
        simp (maxSteps := 1000000) (implicitDefEqProofs := false) (disch := omega) only [push_cast, ↓reduceIte, Nat.reduceEqDiff, reduceCtorEq, wz, aInt]
        refine wpa_st1 rfl rfl hs (by rw [hll]; omega) ?_
        rw [hst]
        simp (maxSteps := 1000000) (implicitDefEqProofs := false) (disch := omega) only [push_cast, ↓reduceIte, Nat.reduceEqDiff, reduceCtorEq, wz, hρ]
        refine hN (k + 1) _ _ ?_ (by omega)
        exact ⟨by simp (maxSteps := 1000000) (implicitDefEqProofs := false) (disch := omega) only [push_cast, ↓reduceIte, Nat.reduceEqDiff, reduceCtorEq, wz, hρ], by omega, get_set_eq hs⟩
      rw [tg0 c1 c2]
      simp (maxSteps := 1000000) (implicitDefEqProofs := false) (disch := omega) only [push_cast, ↓reduceIte, Nat.reduceEqDiff, reduceCtorEq, wz, hρ, Option.isNone_none]
      refine hN (k + 1) _ _ ?_ (by omega)
      exact ⟨by simp (maxSteps := 1000000) (implicitDefEqProofs := false) (disch := omega) only [push_cast, ↓reduceIte, Nat.reduceEqDiff, reduceCtorEq, wz, hρ], by omega, by rw [cur_keep hx (map0 c1 c2)]; exact hs⟩
    · simp (maxSteps := 1000000) (implicitDefEqProofs := false) (disch := omega) only [push_cast, ↓reduceIte, Nat.reduceEqDiff, reduceCtorEq, wz, hρ]
      obtain rfl : k = l.length := by omega
      rw [cur_all] at hs
      exact hE _ _ ⟨by simp (maxSteps := 1000000) (implicitDefEqProofs := false) (disch := omega) only [push_cast, ↓reduceIte, Nat.reduceEqDiff, reduceCtorEq, wz, hρ], hs⟩
  · rintro ε σ ⟨hρ, hs⟩
    simp (maxSteps := 1000000) (implicitDefEqProofs := false) (disch := omega) only [push_cast, ↓reduceIte, Nat.reduceEqDiff, reduceCtorEq, wz, hρ]
    refine fin_res [0] ?_ (aIxs_pure _)
    rw [← led_len l]
    exact res_ixs hs
end Go.Proofs.Ythgmfjkbgacfaaa
