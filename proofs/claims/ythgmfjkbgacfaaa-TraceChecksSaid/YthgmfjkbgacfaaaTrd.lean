/- Trace: Check: the walk. -/
import Derived.Test.YthgmfjkbgacfaaaTrc
namespace Go.Proofs.Ythgmfjkbgacfaaa
set_option linter.unusedVariables false
set_option linter.unusedSimpArgs false
open Go Go.Kx Go.Proofs

theorem TrAt.add {Q : List Qe} {σ : Kx.St} {lab : Nat → Role} (h : TrAt Q σ lab) (id : Int) :
    TrAt (Q ++ [⟨id, σ.length, lp0⟩]) ((σ ++ [Res.obj 0 [AV.sl 0 [] Tok.nil, AV.v (Value.bool false)]]).set 0 (.map (esQ Q ++ [(.int .i64 id, .ref σ.length 0 0)]))) (labN σ lab (1, Q.length)) := by
  obtain ⟨h1, h2, h3⟩ := h
  have hpos := lt_at h1
  have hs0 : Stp (fun _ => False) σ lab (σ ++ [Res.obj 0 [AV.sl 0 [] Tok.nil, AV.v (Value.bool false)]]) (labN σ lab (1, Q.length)) := stp_new _
  obtain ⟨a1, a2⟩ := hs0.get h1 fun h => h
  have hst := stp_set (σ := σ ++ [Res.obj 0 [AV.sl 0 [] Tok.nil, AV.v (Value.bool false)]]) (x := .map (esQ Q ++ [(.int .i64 id, .ref σ.length 0 0)])) (a2.trans h2)
  refine ⟨?_, a2.trans h2, fun j q hq => ?_⟩
  · rw [get_set_eq a1]; simp [esQ]
  · rcases Nat.lt_or_ge j Q.length with hj | hj
    · rw [List.getElem?_append_left hj] at hq
      exact ((h3 j q hq).stp hs0 fun _ _ h => h).stp hst fun q hq e => by injection e; omega
    · have := lt_at hq
      rw [List.length_append, List.length_singleton] at this
      obtain rfl : j = Q.length := by omega
      rw [List.getElem?_append_right (Nat.le_refl _), Nat.sub_self] at hq
      cases hq
      refine ⟨[], .nil, ?_, labN_self _ _ _, .nil, rfl, fun k x hx => by simp [lp0] at hx⟩
      rw [get_set_ne (by omega) (at_snoc _ _)]
      rfl
set_option maxHeartbeats 8000000 in
theorem trace_Check_a (l : List Ev) (hl : l.length ≤ 100000) : FnP Try.prog 15 [aEvs l] fun a => a = .tup [aInt (checkF S0 0 l).1, aInt (checkF S0 0 l).2] := by
  refine fnP_in K_trace_Check mixed rfl (by simp [AV.pureL, aEvs_pure]) ?_
  simp only [S_trace_Check]
  simp (maxSteps := 1000000) (implicitDefEqProofs := false) (disch := omega) only [push_cast, ↓reduceIte, Nat.reduceEqDiff, reduceCtorEq, wz]
  refine wpa_mkm ?_
  simp (maxSteps := 1000000) (implicitDefEqProofs := false) (disch := omega) only [push_cast, ↓reduceIte, Nat.reduceEqDiff, reduceCtorEq, wz, aEvs, aSlN]
  refine wpa_bl (α := Nat × List Qe × (Int → Lp) × (Nat → Role)) (I := fun s ε σ => (ε 4 = .mp 0 ∧ ε 10 = .sl l.length (l.flatMap aEv) .none ∧ ε 11 = .v (.int .i64 l.length) ∧ ε 12 = .v (.int .i64 s.1)) ∧ s.1 ≤ l.length ∧
      TrAt s.2.1 σ s.2.2.2 ∧ (∀ id, lkQ s.2.1 id = s.2.2.1 id) ∧ (∀ id, (s.2.2.1 id).its.length ≤ s.1) ∧ checkF S0 0 l = checkF s.2.2.1 s.1 (l.drop s.1))
    (μ := fun s => l.length - s.1) (Q := fun ε σ => checkF S0 0 l = (0, 0)) (x := (0, [], S0, fun _ => (0, 1))) ?_ ?_ ?_
  · simp (maxSteps := 1000000) (implicitDefEqProofs := false) (disch := omega) only [push_cast, ↓reduceIte, Nat.reduceEqDiff, reduceCtorEq, wz]
    refine ⟨by omega, ⟨rfl, rfl, fun j q h => by simp at h⟩, fun id => rfl, fun id => Nat.zero_le _⟩
  · rintro ⟨k, Q, S, lab⟩ ε σ N E ⟨hρ, hk, hT, hR, hL, hC⟩ hN hE
    simp only at hρ hk hT hR hL hC
    simp only [S_trace_Check_L1]
    by_cases hlt : k < l.length
    · obtain ⟨e, he⟩ := at_lt hlt
      rw [drop_at he] at hC
      have hd := flat_drop aEv_len he
      have hc4 : ∀ t : List AV, cellsA (some 4) (aEv e ++ t) = some (.agg (aEv e)) := fun t => by simp [cellsA, aEv]
      have hset : setAtA [AV.v (.int .i64 0), AV.v (.int .i64 0), AV.v (.int .i64 0), AV.v (.int .i64 0)] 0 (aEv e) = aEv e := rfl
      have g0 : (aEv e)[0]? = some (.v (.int .i64 e.k)) := rfl
      have g1 : (aEv e)[1]? = some (.v (.int .i64 e.lp)) := rfl
      simp (maxSteps := 1000000) (implicitDefEqProofs := false) (disch := omega) only [push_cast, ↓reduceIte, Nat.reduceEqDiff, reduceCtorEq, wz, hρ, hd, hc4]
      refine wpa_new ?_
      simp (maxSteps := 1000000) (implicitDefEqProofs := false) (disch := omega) only [push_cast, ↓reduceIte, Nat.reduceEqDiff, reduceCtorEq, wz]
      refine wpa_stn (cs := [AV.v (.int .i64 0), AV.v (.int .i64 0), AV.v (.int .i64 0), AV.v (.int .i64 0)]) rfl rfl (at_snoc _ _) (by simp) ?_
      rw [hset, set_snoc]
      have hT1 := hT.stp (stp_new (x := .obj 0 (aEv e)) (S := fun _ => False) (0, 0))
      have hbx : (σ ++ [Res.obj 0 (aEv e)])[σ.length]? = some (.obj 0 (aEv e)) := at_snoc _ _
      have hl1 : labN σ lab (0, 0) σ.length = (0, 0) := labN_self _ _ _
      generalize σ ++ [Res.obj 0 (aEv e)] = σ1 at hT1 hbx ⊢
      generalize labN σ lab (0, 0) = lab1 at hT1 hl1
      by_cases hk1 : e.k < 1
      · have hF : checkF S0 0 l = ((k : Int), 5) := by rw [hC]; simp only [checkF]; rw [if_pos (.inl hk1)]
        simp (maxSteps := 1000000) (implicitDefEqProofs := false) (disch := omega) only [push_cast, ↓reduceIte, Nat.reduceEqDiff, reduceCtorEq, wz, hρ, hbx, g0, hk1]
        rw [hF]
        exact ⟨[], rfl, rfl⟩
      by_cases hk6 : 6 < e.k
      · have hF : checkF S0 0 l = ((k : Int), 5) := by rw [hC]; simp only [checkF]; rw [if_pos (.inr hk6)]
        simp (maxSteps := 1000000) (implicitDefEqProofs := false) (disch := omega) only [push_cast, ↓reduceIte, Nat.reduceEqDiff, reduceCtorEq, wz, hρ, hbx, g0, hk1, hk6]
        rw [hF]
        exact ⟨[], rfl, rfl⟩
      simp only [checkF] at hC
      rw [if_neg (by simp [hk1, hk6])] at hC
      have hmap := hT1.1
      simp (maxSteps := 1000000) (implicitDefEqProofs := false) (disch := omega) only [push_cast, ↓reduceIte, Nat.reduceEqDiff, reduceCtorEq, wz, hρ, hbx, g0, g1, hk1, hk6]
      rcases find_split (Q := Q) (id := e.lp) with ⟨j, q, hq, hid, hall⟩ | hno
      · obtain ⟨m1, m2⟩ := getM_hit (z := absV (.pointer none)) hq hid hall
        refine wpa_mlk hmap m1 ?_
        have hpS : q.p = S e.lp := by rw [← m2, hR]
        have hlp := hT1.2.2 j q hq
        rw [hpS] at hlp
        simp (maxSteps := 1000000) (implicitDefEqProofs := false) (disch := omega) only [push_cast, ↓reduceIte, Nat.reduceEqDiff, reduceCtorEq, wz, hbx, cells4]
        refine wpa_callG (event_a hlp (by have := hL e.lp; omega) e) ?_
        rintro a σ' ⟨rfl, lab', h1, h2⟩
        have hT2 := hT1.upd hq h1 h2
        by_cases hz : (eventT (S e.lp) e).2 = 0
        · rw [if_neg (by simp [hz])] at hC
          simp (maxSteps := 1000000) (implicitDefEqProofs := false) (disch := omega) only [push_cast, ↓reduceIte, Nat.reduceEqDiff, reduceCtorEq, wz, hρ, aInt, hz]
          refine hN (k + 1, Q.set j ⟨q.id, q.o, (eventT (S e.lp) e).1⟩, updS S e.lp (eventT (S e.lp) e).1, lab') _ _ ⟨?_, by simp only; omega, hT2, ?_, ?_, hC⟩ (by simp only; omega)
          · simp (maxSteps := 1000000) (implicitDefEqProofs := false) (disch := omega) only [push_cast, ↓reduceIte, Nat.reduceEqDiff, reduceCtorEq, wz, hρ]
          · intro id
            simp only [updS]
            rw [lkQ_set hq (by rw [hid]; exact hall), hid, hR]
          · intro id
            simp only [updS]
            have hle := hL e.lp
            have hle2 := hL id
            have hel := eventT_len (S e.lp) e
            split <;> omega
        · rw [if_pos hz] at hC
          simp (maxSteps := 1000000) (implicitDefEqProofs := false) (disch := omega) only [push_cast, ↓reduceIte, Nat.reduceEqDiff, reduceCtorEq, wz, aInt, hz]
          rw [hC]
          exact ⟨[], rfl, rfl⟩
      · obtain ⟨m1, m2, m3⟩ := getM_miss (z := absV (.pointer none)) hno
        refine wpa_mlk hmap m1 ?_
        have hpS : S e.lp = lp0 := by rw [← hR, m2]
        simp (maxSteps := 1000000) (implicitDefEqProofs := false) (disch := omega) only [push_cast, ↓reduceIte, Nat.reduceEqDiff, reduceCtorEq, wz, hbx, g1, hρ, fillA]
        refine wpa_box ?_
        rw [show (AV.agg [AV.sl 0 [] Tok.nil, AV.v (Value.bool false)]).cells = [AV.sl 0 [] Tok.nil, AV.v (Value.bool false)] from rfl]
        have hT3 := hT1.add e.lp
        have hbx2 : (σ1 ++ [Res.obj 0 [AV.sl 0 [] Tok.nil, AV.v (Value.bool false)]])[σ.length]? = some (.obj 0 (aEv e)) := get_app hbx
        have hmap2 : (σ1 ++ [Res.obj 0 [AV.sl 0 [] Tok.nil, AV.v (Value.bool false)]])[0]? = some (.map (esQ Q)) := get_app hmap
        simp (maxSteps := 1000000) (implicitDefEqProofs := false) (disch := omega) only [push_cast, ↓reduceIte, Nat.reduceEqDiff, reduceCtorEq, wz, hbx2, g1, hρ]
        refine wpa_mup hmap2 (m3 _) ?_
        have hs0 : 0 < σ.length := by have := lt_at hT.1; omega
        have hbx3 : ((σ1 ++ [Res.obj 0 [AV.sl 0 [] Tok.nil, AV.v (Value.bool false)]]).set 0 (.map (esQ Q ++ [(.int .i64 e.lp, .ref σ1.length 0 0)])))[σ.length]? = some (.obj 0 (aEv e)) := get_set_ne (by omega) hbx2
        generalize (σ1 ++ [Res.obj 0 [AV.sl 0 [] Tok.nil, AV.v (Value.bool false)]]).set 0 (.map (esQ Q ++ [(.int .i64 e.lp, .ref σ1.length 0 0)])) = σ3 at hT3 hbx3 ⊢
        generalize labN σ1 lab1 (1, Q.length) = lab3 at hT3
        have hq : (Q ++ [(⟨e.lp, σ1.length, lp0⟩ : Qe)])[Q.length]? = some ⟨e.lp, σ1.length, lp0⟩ := by simp
        have hlp := hT3.2.2 _ _ hq
        simp only at hlp
        rw [← hpS] at hlp
        simp (maxSteps := 1000000) (implicitDefEqProofs := false) (disch := omega) only [push_cast, ↓reduceIte, Nat.reduceEqDiff, reduceCtorEq, wz, hbx3, cells4]
        refine wpa_callG (event_a hlp (by have := hL e.lp; omega) e) ?_
        rintro a σ' ⟨rfl, lab', h1, h2⟩
        have hT2 := hT3.upd hq h1 h2
        have hset2 : (Q ++ [(⟨e.lp, σ1.length, lp0⟩ : Qe)]).set Q.length ⟨e.lp, σ1.length, (eventT (S e.lp) e).1⟩ = Q ++ [⟨e.lp, σ1.length, (eventT (S e.lp) e).1⟩] := by simp
        simp only at hT2
        rw [hset2] at hT2
        by_cases hz : (eventT (S e.lp) e).2 = 0
        · rw [if_neg (by simp [hz])] at hC
          simp (maxSteps := 1000000) (implicitDefEqProofs := false) (disch := omega) only [push_cast, ↓reduceIte, Nat.reduceEqDiff, reduceCtorEq, wz, hρ, aInt, hz]
          refine hN (k + 1, Q ++ [⟨e.lp, σ1.length, (eventT (S e.lp) e).1⟩], updS S e.lp (eventT (S e.lp) e).1, lab') _ _ ⟨?_, by simp only; omega, hT2, ?_, ?_, hC⟩ (by simp only; omega)
          · simp (maxSteps := 1000000) (implicitDefEqProofs := false) (disch := omega) only [push_cast, ↓reduceIte, Nat.reduceEqDiff, reduceCtorEq, wz, hρ]
          · intro id
            simp only [updS]
            rw [lkQ_snoc hno, hR]
          · intro id
            simp only [updS]
            have hle := hL e.lp
            have hle2 := hL id
            have hel := eventT_len (S e.lp) e
            split <;> omega
        · rw [if_pos hz] at hC
          simp (maxSteps := 1000000) (implicitDefEqProofs := false) (disch := omega) only [push_cast, ↓reduceIte, Nat.reduceEqDiff, reduceCtorEq, wz, aInt, hz]
          rw [hC]
          exact ⟨[], rfl, rfl⟩
    · simp (maxSteps := 1000000) (implicitDefEqProofs := false) (disch := omega) only [push_cast, ↓reduceIte, Nat.reduceEqDiff, reduceCtorEq, wz, hρ]
      obtain rfl : k = l.length := by omega
      rw [List.drop_length] at hC
      exact hE _ _ hC
  · intro ε σ hC
    simp (maxSteps := 1000000) (implicitDefEqProofs := false) (disch := omega) only [push_cast, ↓reduceIte, Nat.reduceEqDiff, reduceCtorEq, wz]
    rw [hC]
    exact ⟨[], rfl, rfl⟩
end Go.Proofs.Ythgmfjkbgacfaaa
