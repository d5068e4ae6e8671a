/- Tidy: the document's Round: the walk. -/
import Derived.Test.YthgmfjkbgacfaaaTdm
namespace Go.Proofs.Ythgmfjkbgacfaaa
set_option linter.unusedVariables false
set_option linter.unusedSimpArgs false
open Go Go.Kx Go.Proofs

theorem ledL_eq (l : List Ix) : ledL l = l.map (mapX (leadF l)) := rfl
theorem map_wth {f : Nat → Nat} {x : Ix} {t : Nat} (h : tgtX x = some (t : Int)) : mapX f x = wthX x (f t : Nat) := by unfold mapX; rw [h]; simp only [Int.toNat_natCast]
theorem map_wth0 {f : Nat → Nat} {x : Ix} (h : tgtX x = none) (e : Int) : mapX f x = wthX x e := by unfold mapX; rw [h]; exact (wth_none e h).symm
set_option maxHeartbeats 16000000 in
theorem ref42_Round_a (l : List Ix) (hR : Rt l) (hl : l.length ≤ 300) : FnP Try.prog 65 [aIxs l] fun a => a = aIxs (rnd l) := by
  refine fnP_in K_forebayref42_Round mixed rfl (by simp [AV.pureL, aIxs_pure]) ?_
  simp only [S_forebayref42_Round]
  have hIL : aIxs l = .sl l.length (l.flatMap aIx) .none := rfl
  have hpos := hR.pos
  have hM := led_rt hR
  have hml := led_len l
  refine wpa_seqx (fun ε σ => ε 0 = aIxs l ∧ σ = []) (fun N X' R' hN => by simp (maxSteps := 1000000) (implicitDefEqProofs := false) (disch := omega) only [push_cast, ↓reduceIte, Nat.reduceEqDiff, reduceCtorEq, wz]; exact hN _ _ (by simp (maxSteps := 1000000) (implicitDefEqProofs := false) (disch := omega) only [push_cast, ↓reduceIte, Nat.reduceEqDiff, reduceCtorEq, wz])) ?_
  rintro ε σ ⟨hρ, rfl⟩
  refine wpa_seqx (fun ε σ => (ε 0 = aIxs l ∧ ε 3 = .sl 0 [] .nil) ∧ σ = []) (fun N X' R' hN => by simp (maxSteps := 1000000) (implicitDefEqProofs := false) (disch := omega) only [push_cast, ↓reduceIte, Nat.reduceEqDiff, reduceCtorEq, wz, hρ]; exact hN _ _ (by simp (maxSteps := 1000000) (implicitDefEqProofs := false) (disch := omega) only [push_cast, ↓reduceIte, Nat.reduceEqDiff, reduceCtorEq, wz, hρ])) ?_
  clear hρ ε
  rintro ε σ ⟨hρ, rfl⟩
  refine wpa_seqx (fun ε σ => ∃ w, ε 3 = .sl l.length ((ledL l).flatMap aIx) (.id 0 w 4)) ?_ ?_
  · intro N X R hN
    simp (maxSteps := 1000000) (implicitDefEqProofs := false) (disch := omega) only [push_cast, ↓reduceIte, Nat.reduceEqDiff, reduceCtorEq, wz]
    refine wpa_blgx (GU.tok 3 4 (by simp (maxSteps := 1000000) (implicitDefEqProofs := false) (disch := omega) only [push_cast, ↓reduceIte, Nat.reduceEqDiff, reduceCtorEq, wz, hρ])) (α := Nat) (I := fun k ε σ => ∃ w, (ε 0 = aIxs l ∧ ε 3 = .sl k (((l.take k).map (mapX (leadF l))).flatMap aIx) (.id 0 w 4) ∧ ε 4 = .v (.int .i64 k)) ∧ k ≤ l.length ∧ σ[0]? = some (.tail w))
      (μ := fun k => l.length - k) (Q := fun ε σ => ∃ w, ε 3 = .sl l.length ((ledL l).flatMap aIx) (.id 0 w 4)) (x := 0) ?_ ?_ hN
    · exact ⟨0, by simp (maxSteps := 1000000) (implicitDefEqProofs := false) (disch := omega) only [push_cast, ↓reduceIte, Nat.reduceEqDiff, reduceCtorEq, wz, hρ]; try rfl, by omega, rfl⟩
    · clear hN N X R hρ ε
      rintro k ε σ N E X R ⟨w, hρ, hk, hs⟩ hN hE
      simp only [S_forebayref42_Round_L1]
      by_cases hlt : k < l.length
      · obtain ⟨x, hx⟩ := at_lt hlt
        have hd := flat_drop aIx_len hx
        have hts := take_succ_at hx
        have hMl : ((l.take k).map (mapX (leadF l))).length = k := by rw [List.length_map, List.length_take]; omega
        have hfl := flat_len aIx_len ((l.take k).map (mapX (leadF l)))
        rw [hMl] at hfl
        generalize hCC : ((l.take k).map (mapX (leadF l))).flatMap aIx = CC at hρ hfl
        refine wpa_seq (fun ε σ => (ε 0 = aIxs l ∧ ε 3 = .sl k CC (.id 0 w 4) ∧ ε 4 = .v (.int .i64 k)) ∧ σ[0]? = some (.tail w)) ?_ ?_
        · intro N2 hN2
          simp (maxSteps := 1000000) (implicitDefEqProofs := false) (disch := omega) only [push_cast, ↓reduceIte, Nat.reduceEqDiff, reduceCtorEq, wz, hρ, hIL]
          exact hN2 _ _ ⟨by simp (maxSteps := 1000000) (implicitDefEqProofs := false) (disch := omega) only [push_cast, ↓reduceIte, Nat.reduceEqDiff, reduceCtorEq, wz, hρ, hIL], hs⟩
        clear hρ hs ε σ
        rintro ε σ ⟨hρ, hs⟩
        refine wpa_seqx (fun ε σ => ∃ w, (ε 0 = aIxs l ∧ ε 3 = .sl (k + 1) (CC ++ aIx (mapX (leadF l) x)) (.id 0 w 4) ∧ ε 4 = .v (.int .i64 k)) ∧ σ[0]? = some (.tail w)) ?_ ?_
        · intro N2 X2 R2 hN2
          refine wpa_blk fun X' hX' => ?_
          refine wpa_seqx (fun ε σ => (ε 0 = aIxs l ∧ ε 3 = .sl k CC (.id 0 w 4) ∧ ε 4 = .v (.int .i64 k) ∧ ε 5 = .v (.int .i64 (tgI x))) ∧ σ[0]? = some (.tail w)) ?_ ?_
          · intro N3 X3 R3 hN3
            simp (maxSteps := 1000000) (implicitDefEqProofs := false) (disch := omega) only [push_cast, ↓reduceIte, Nat.reduceEqDiff, reduceCtorEq, wz, hρ, hIL, hd, cellsIx]
            refine wpa_call (ref42_target_a x) ?_
            rintro a rfl
            simp (maxSteps := 1000000) (implicitDefEqProofs := false) (disch := omega) only [push_cast, ↓reduceIte, Nat.reduceEqDiff, reduceCtorEq, wz, aInt]
            exact hN3 _ _ ⟨by simp (maxSteps := 1000000) (implicitDefEqProofs := false) (disch := omega) only [push_cast, ↓reduceIte, Nat.reduceEqDiff, reduceCtorEq, wz, hρ, hIL], hs⟩
          clear hρ hs ε σ
          rintro ε σ ⟨hρ, hs⟩
          refine wpa_seqx (fun ε σ => ∃ e : Int, (ε 0 = aIxs l ∧ ε 3 = .sl k CC (.id 0 w 4) ∧ ε 4 = .v (.int .i64 k) ∧ ε 5 = .v (.int .i64 e)) ∧ σ[0]? = some (.tail w) ∧ ((tgtX x = none ∧ e = -1) ∨ ∃ t : Nat, tgtX x = some (t : Int) ∧ t < l.length ∧ e = (runN l l.length t : Nat))) ?_ ?_
          · intro N3 X3 R3 hN3
            cases ht : tgtX x with
            | none =>
              have hti : tgI x = -1 := by unfold tgI; rw [ht]
              rw [hti] at hρ
              simp (maxSteps := 1000000) (implicitDefEqProofs := false) (disch := omega) only [push_cast, ↓reduceIte, Nat.reduceEqDiff, reduceCtorEq, wz]
              refine wpa_blx (α := Unit) (I := fun _ ε σ => (ε 0 = aIxs l ∧ ε 3 = .sl k CC (.id 0 w 4) ∧ ε 4 = .v (.int .i64 k) ∧ ε 5 = .v (.int .i64 (-1)) ∧ ε 6 = .v (.int .i64 0)) ∧ σ[0]? = some (.tail w))
                (μ := fun _ => 0) (Q := fun ε σ => (ε 0 = aIxs l ∧ ε 3 = .sl k CC (.id 0 w 4) ∧ ε 4 = .v (.int .i64 k) ∧ ε 5 = .v (.int .i64 (-1))) ∧ σ[0]? = some (.tail w)) (x := ()) ?_ ?_ ?_
              · exact ⟨by simp (maxSteps := 1000000) (implicitDefEqProofs := false) (disch := omega) only [push_cast, ↓reduceIte, Nat.reduceEqDiff, reduceCtorEq, wz, hρ], hs⟩
              · rintro _ ε σ N E X R ⟨hρ, hs⟩ hN hE
                simp only [S_forebayref42_Round_L2]
                simp (maxSteps := 1000000) (implicitDefEqProofs := false) (disch := omega) only [push_cast, ↓reduceIte, Nat.reduceEqDiff, reduceCtorEq, wz, hρ]
                exact hE _ _ ⟨by simp (maxSteps := 1000000) (implicitDefEqProofs := false) (disch := omega) only [push_cast, ↓reduceIte, Nat.reduceEqDiff, reduceCtorEq, wz, hρ], hs⟩
              · rintro ε σ ⟨hρ, hs⟩
                exact hN3 _ _ ⟨-1, hρ, hs, .inl ⟨ht, rfl⟩⟩
            | some u =>
              have hti : tgI x = u := by unfold tgI; rw [ht]
              have htg := hR.tg k x u hx ht
              obtain ⟨t, rfl⟩ : ∃ t : Nat, u = t := ⟨u.toNat, by omega⟩
              have htl : t < l.length := by omega
              rw [hti] at hρ
              simp (maxSteps := 1000000) (implicitDefEqProofs := false) (disch := omega) only [push_cast, ↓reduceIte, Nat.reduceEqDiff, reduceCtorEq, wz]
              refine wpa_blx (α := Nat) (I := fun n ε σ => (ε 0 = aIxs l ∧ ε 3 = .sl k CC (.id 0 w 4) ∧ ε 4 = .v (.int .i64 k) ∧ ε 5 = .v (.int .i64 (runN l n t : Nat)) ∧ ε 6 = .v (.int .i64 n)) ∧ n ≤ l.length ∧ σ[0]? = some (.tail w))
                (μ := fun n => l.length - n) (Q := fun ε σ => (ε 0 = aIxs l ∧ ε 3 = .sl k CC (.id 0 w 4) ∧ ε 4 = .v (.int .i64 k) ∧ ε 5 = .v (.int .i64 (runN l l.length t : Nat))) ∧ σ[0]? = some (.tail w)) (x := 0) ?_ ?_ ?_
              · exact ⟨by simp (maxSteps := 1000000) (implicitDefEqProofs := false) (disch := omega) only [push_cast, ↓reduceIte, Nat.reduceEqDiff, reduceCtorEq, wz, hρ, runN], by omega, hs⟩
              · clear hN3 N3 X3 R3 hρ hs ε σ hX' X'
                rintro n ε σ N E X R ⟨hρ, hn, hs⟩ hN hE
                simp only [S_forebayref42_Round_L2]
                have hu := run_lt hR htl n
                have hnx : runN l (n + 1) t = nxt l (runN l n t) := rfl
                by_cases hnl : n < l.length
                · have h0u : (0 : Int) ≤ ((runN l n t : Nat) : Int) := by omega
                  generalize runN l n t = u at hρ hu hnx h0u
                  obtain ⟨y, hy⟩ := at_lt hu
                  have h0 := op_at hy
                  have h1 := a_at hy
                  by_cases c1 : y.op = 18
                  · have hj := nxt_jump hy c1
                    have hyg := hR.tg u y y.a hy (tgt_jump c1)
                    obtain ⟨v, hv⟩ : ∃ v : Nat, y.a = v := ⟨y.a.toNat, by omega⟩
                    rw [hv] at h1 hj
                    rw [Int.toNat_natCast] at hj
                    by_cases e : v = u
                    · subst e
                      simp (maxSteps := 1000000) (implicitDefEqProofs := false) (disch := omega) only [push_cast, ↓reduceIte, Nat.reduceEqDiff, reduceCtorEq, wz, hρ, h0u, hIL, h0, h1, c1]
                      refine hN (n + 1) _ _ ?_ (by omega)
                      exact ⟨by rw [hnx, hj]; simp (maxSteps := 1000000) (implicitDefEqProofs := false) (disch := omega) only [push_cast, ↓reduceIte, Nat.reduceEqDiff, reduceCtorEq, wz, hρ, hIL], by omega, hs⟩
                    · have e' : ¬ ((v : Int) = (u : Int)) := by omega
                      simp (maxSteps := 1000000) (implicitDefEqProofs := false) (disch := omega) only [push_cast, ↓reduceIte, Nat.reduceEqDiff, reduceCtorEq, wz, hρ, h0u, hIL, h0, h1, c1, e']
                      refine hN (n + 1) _ _ ?_ (by omega)
                      exact ⟨by rw [hnx, hj]; simp (maxSteps := 1000000) (implicitDefEqProofs := false) (disch := omega) only [push_cast, ↓reduceIte, Nat.reduceEqDiff, reduceCtorEq, wz, hρ, hIL], by omega, hs⟩
                  · have hj := nxt_other hy c1
                    simp (maxSteps := 1000000) (implicitDefEqProofs := false) (disch := omega) only [push_cast, ↓reduceIte, Nat.reduceEqDiff, reduceCtorEq, wz, hρ, h0u, hIL, h0, h1, c1]
                    refine hN (n + 1) _ _ ?_ (by omega)
                    exact ⟨by rw [hnx, hj]; simp (maxSteps := 1000000) (implicitDefEqProofs := false) (disch := omega) only [push_cast, ↓reduceIte, Nat.reduceEqDiff, reduceCtorEq, wz, hρ, hIL], by omega, hs⟩
                · obtain rfl : n = l.length := by omega
                  have h0u : (0 : Int) ≤ ((runN l l.length t : Nat) : Int) := by omega
                  simp (maxSteps := 1000000) (implicitDefEqProofs := false) (disch := omega) only [push_cast, ↓reduceIte, Nat.reduceEqDiff, reduceCtorEq, wz, hρ, hIL, h0u]
                  exact hE _ _ ⟨by simp (maxSteps := 1000000) (implicitDefEqProofs := false) (disch := omega) only [push_cast, ↓reduceIte, Nat.reduceEqDiff, reduceCtorEq, wz, hρ, hIL], hs⟩
              · rintro ε σ ⟨hρ, hs⟩
                exact hN3 _ _ ⟨_, hρ, hs, .inr ⟨t, ht, htl, rfl⟩⟩
          clear hρ hs ε σ
          rintro ε σ ⟨e, hρ, hs, he⟩
          refine wpa_seqx (fun ε σ => ∃ e : Int, (ε 0 = aIxs l ∧ ε 3 = .sl k CC (.id 0 w 4) ∧ ε 4 = .v (.int .i64 k) ∧ ε 5 = .v (.int .i64 e)) ∧ σ[0]? = some (.tail w) ∧ wthX x e = mapX (leadF l) x) ?_ ?_
          · intro N3 X3 R3 hN3
            rcases he with ⟨ht, rfl⟩ | ⟨t, ht, htl, rfl⟩
            · simp (maxSteps := 1000000) (implicitDefEqProofs := false) (disch := omega) only [push_cast, ↓reduceIte, Nat.reduceEqDiff, reduceCtorEq, wz, hρ]
              exact hN3 _ _ ⟨-1, by simp (maxSteps := 1000000) (implicitDefEqProofs := false) (disch := omega) only [push_cast, ↓reduceIte, Nat.reduceEqDiff, reduceCtorEq, wz, hρ], hs, (map_wth0 ht _).symm⟩
            · have hmw := map_wth (f := leadF l) ht
              have hti : tgI x = t := by unfold tgI; rw [ht]
              have hu := run_lt hR htl l.length
              have hlf : leadF l t = if nxt l (runN l l.length t) = runN l l.length t then runN l l.length t else t := rfl
              generalize runN l l.length t = u at hρ hu hlf
              obtain ⟨y, hy⟩ := at_lt hu
              have h0 := op_at hy
              have h1 := a_at hy
              have h0u : (0 : Int) ≤ (u : Int) := by omega
              by_cases c1 : y.op = 18
              · have hj := nxt_jump hy c1
                have hyg := hR.tg u y y.a hy (tgt_jump c1)
                obtain ⟨v, hv⟩ : ∃ v : Nat, y.a = v := ⟨y.a.toNat, by omega⟩
                rw [hv] at h1 hj
                rw [Int.toNat_natCast] at hj
                rw [hj] at hlf
                by_cases e : v = u
                · rw [if_pos e] at hlf
                  have e' : ((v : Int) = (u : Int)) := by omega
                  simp (maxSteps := 1000000) (implicitDefEqProofs := false) (disch := omega) only [push_cast, ↓reduceIte, Nat.reduceEqDiff, reduceCtorEq, wz, hρ, h0u, hIL, h0, h1, c1, e']
                  exact hN3 _ _ ⟨u, by simp (maxSteps := 1000000) (implicitDefEqProofs := false) (disch := omega) only [push_cast, ↓reduceIte, Nat.reduceEqDiff, reduceCtorEq, wz, hρ, hIL], hs, by rw [hmw, hlf]⟩
                · rw [if_neg e] at hlf
                  have e' : ¬ ((v : Int) = (u : Int)) := by omega
                  simp (maxSteps := 1000000) (implicitDefEqProofs := false) (disch := omega) only [push_cast, ↓reduceIte, Nat.reduceEqDiff, reduceCtorEq, wz, hρ, h0u, hIL, h0, h1, c1, e', hd, cellsIx]
                  refine wpa_call (ref42_target_a x) ?_
                  rintro a rfl
                  rw [hti]
                  simp (maxSteps := 1000000) (implicitDefEqProofs := false) (disch := omega) only [push_cast, ↓reduceIte, Nat.reduceEqDiff, reduceCtorEq, wz, aInt]
                  exact hN3 _ _ ⟨t, by simp (maxSteps := 1000000) (implicitDefEqProofs := false) (disch := omega) only [push_cast, ↓reduceIte, Nat.reduceEqDiff, reduceCtorEq, wz, hρ, hIL], hs, by rw [hmw, hlf]⟩
              · rw [nxt_other hy c1, if_pos rfl] at hlf
                simp (maxSteps := 1000000) (implicitDefEqProofs := false) (disch := omega) only [push_cast, ↓reduceIte, Nat.reduceEqDiff, reduceCtorEq, wz, hρ, h0u, hIL, h0, h1, c1]
                exact hN3 _ _ ⟨u, by simp (maxSteps := 1000000) (implicitDefEqProofs := false) (disch := omega) only [push_cast, ↓reduceIte, Nat.reduceEqDiff, reduceCtorEq, wz, hρ, hIL], hs, by rw [hmw, hlf]⟩
          clear hρ hs he ε σ e
          rintro ε σ ⟨e, hρ, hs, he⟩
          have hax : (AV.agg (aIx (wthX x e))).cells = aIx (wthX x e) := rfl
          simp (maxSteps := 1000000) (implicitDefEqProofs := false) (disch := omega) only [push_cast, ↓reduceIte, Nat.reduceEqDiff, reduceCtorEq, wz, hρ, hIL, hd, cellsIx]
          refine wpa_call (ref42_with_a x e) ?_
          rintro a rfl
          simp (maxSteps := 1000000) (implicitDefEqProofs := false) (disch := omega) only [push_cast, ↓reduceIte, Nat.reduceEqDiff, reduceCtorEq, wz]
          refine wpa_bsl (sz := 4) (by intro a ha; simp at ha; subst ha; rfl) (by simp) ?_
          simp (maxSteps := 1000000) (implicitDefEqProofs := false) (disch := omega) only [push_cast, ↓reduceIte, Nat.reduceEqDiff, reduceCtorEq, wz, hax, List.append_nil]
          refine wpa_app (m := 1) rfl rfl rfl rfl hfl (by omega) (by omega) hs ?_
          simp (maxSteps := 1000000) (implicitDefEqProofs := false) (disch := omega) only [push_cast, ↓reduceIte, Nat.reduceEqDiff, reduceCtorEq, wz, he]
          exact hN2 _ _ ⟨w + 1, by simp (maxSteps := 1000000) (implicitDefEqProofs := false) (disch := omega) only [push_cast, ↓reduceIte, Nat.reduceEqDiff, reduceCtorEq, wz, hρ, hIL], get_set_eq hs⟩
        clear hρ hs ε σ
        rintro ε σ ⟨w, hρ, hs⟩
        simp (maxSteps := 1000000) (implicitDefEqProofs := false) (disch := omega) only [push_cast, ↓reduceIte, Nat.reduceEqDiff, reduceCtorEq, wz, hρ]
        refine hN (k + 1) _ _ ?_ (by omega)
        refine ⟨w, ?_, by omega, hs⟩
        rw [hts, List.map_append, List.flatMap_append, hCC]
        simp (maxSteps := 1000000) (implicitDefEqProofs := false) (disch := omega) only [push_cast, ↓reduceIte, Nat.reduceEqDiff, reduceCtorEq, wz, hρ]
        simp
      · simp (maxSteps := 1000000) (implicitDefEqProofs := false) (disch := omega) only [push_cast, ↓reduceIte, Nat.reduceEqDiff, reduceCtorEq, wz, hρ, hIL]
        obtain rfl : k = l.length := by omega
        rw [List.take_length] at hρ
        exact hE _ _ ⟨w, by simp (maxSteps := 1000000) (implicitDefEqProofs := false) (disch := omega) only [push_cast, ↓reduceIte, Nat.reduceEqDiff, reduceCtorEq, wz, hρ, hIL]; try rfl⟩
  clear hρ ε
  rintro ε σ ⟨w0, hρ⟩
  rw [← hml] at hρ
  unfold rnd
  generalize ledL l = m at hρ hM hml
  replace hl : m.length ≤ 300 := by omega
  clear hml hR hpos hIL
  clear l
  have hIM : aIxs m = .sl m.length (m.flatMap aIx) .none := rfl
  obtain ⟨hbl, hbs⟩ := reachB_spec hM
  have hBL : aSl aBool (reachB m) = .sl m.length ((reachB m).map aBool) .none := by unfold aSl; rw [hbl]
  have hpos := hM.pos
  refine wpa_seqx (fun ε σ => ε 3 = .sl m.length (m.flatMap aIx) (.id 0 w0 4) ∧ ε 7 = aSl aBool (reachB m)) ?_ ?_
  · intro N X R hN
    have hwk : weak (Go.Kx.freeze [] σ) [true] [AV.sl m.length (m.flatMap aIx) (.id 0 w0 4)] = [aIxs m] := congrArg (fun x => [x]) (aIxs_res σ m (.id 0 w0 4))
    simp (maxSteps := 1000000) (implicitDefEqProofs := false) (disch := omega) only [push_cast, ↓reduceIte, Nat.reduceEqDiff, reduceCtorEq, wz, hρ]
    refine wpa_callw [] [true] (ref42_Reached_a m hM hl) hwk ?_
    rintro a rfl
    simp (maxSteps := 1000000) (implicitDefEqProofs := false) (disch := omega) only [push_cast, ↓reduceIte, Nat.reduceEqDiff, reduceCtorEq, wz]
    exact hN _ _ (by simp (maxSteps := 1000000) (implicitDefEqProofs := false) (disch := omega) only [push_cast, ↓reduceIte, Nat.reduceEqDiff, reduceCtorEq, wz, hρ])
  clear hρ ε σ
  rintro ε σ hρ
  refine wpa_seqx (fun ε σ => ε 3 = .sl m.length (m.flatMap aIx) (.id 0 w0 4) ∧ ε 7 = aSl aBool (reachB m) ∧ ε 8 = .sl 0 [] .nil) (fun N X' R' hN => by simp (maxSteps := 1000000) (implicitDefEqProofs := false) (disch := omega) only [push_cast, ↓reduceIte, Nat.reduceEqDiff, reduceCtorEq, wz, hρ]; exact hN _ _ (by simp (maxSteps := 1000000) (implicitDefEqProofs := false) (disch := omega) only [push_cast, ↓reduceIte, Nat.reduceEqDiff, reduceCtorEq, wz, hρ])) ?_
  clear hρ ε σ
  rintro ε σ hρ
  obtain ⟨i8, hi8⟩ : ∃ i8, i8 = σ.length := ⟨_, rfl⟩
  refine wpa_seqx (fun ε σ => ∃ w, ε 8 = .sl (rndM m).length ((rndM m).flatMap aIx) (.id i8 w 4)) ?_ ?_
  · intro N X R hN
    simp (maxSteps := 1000000) (implicitDefEqProofs := false) (disch := omega) only [push_cast, ↓reduceIte, Nat.reduceEqDiff, reduceCtorEq, wz]
    refine wpa_blgx (GU.tok 8 4 (by simp (maxSteps := 1000000) (implicitDefEqProofs := false) (disch := omega) only [push_cast, ↓reduceIte, Nat.reduceEqDiff, reduceCtorEq, wz, hρ])) (α := Nat) (I := fun k ε σ => ∃ w, (ε 3 = .sl m.length (m.flatMap aIx) (.id 0 w0 4) ∧ ε 7 = aSl aBool (reachB m) ∧ ε 8 = .sl (kN m k).length (((kN m k).map (mapX (cnt m))).flatMap aIx) (.id i8 w 4) ∧ ε 9 = .v (.int .i64 k)) ∧ k ≤ m.length ∧ σ[i8]? = some (.tail w))
      (μ := fun k => m.length - k) (Q := fun ε σ => ∃ w, ε 8 = .sl (rndM m).length ((rndM m).flatMap aIx) (.id i8 w 4)) (x := 0) ?_ ?_ hN
    · rw [← hi8]
      exact ⟨0, by simp (maxSteps := 1000000) (implicitDefEqProofs := false) (disch := omega) only [push_cast, ↓reduceIte, Nat.reduceEqDiff, reduceCtorEq, wz, hρ]; try rfl, by omega, by rw [hi8]; exact at_snoc _ _⟩
    · clear hN N X R hρ hi8 ε σ
      rintro k ε σ N E X R ⟨w, hρ, hk, hs⟩ hN hE
      simp only [S_forebayref42_Round_L3]
      by_cases hlt : k < m.length
      · obtain ⟨x, hx⟩ := at_lt hlt
        have hd := flat_drop aIx_len hx
        obtain ⟨b, hb⟩ := at_lt (l := reachB m) (k := k) (by omega)
        have hkn := kN_succ hx
        have hkp : kp m k = (b && !usL m k) := by unfold kp; rw [List.getD_eq_getElem?_getD, hb]; rfl
        have hkl := kN_len_le m k
        have hbb : ((reachB m).map aBool)[k]? = some (.v (.bool b)) := by rw [List.getElem?_map, hb]; rfl
        have hfl := flat_len aIx_len ((kN m k).map (mapX (cnt m)))
        rw [List.length_map] at hfl
        have hwk : ∀ (σ : Kx.St) (j : Nat), weak (Go.Kx.freeze [] σ) [true] [AV.sl m.length (m.flatMap aIx) (.id 0 w0 4), .v (.int .i64 j)] = [aIxs m, aInt j] := fun σ j => by
          show [AV.res _ _, _] = _
          rw [aIxs_res]; rfl
        refine wpa_seq (fun ε σ => (ε 3 = .sl m.length (m.flatMap aIx) (.id 0 w0 4) ∧ ε 7 = aSl aBool (reachB m) ∧ ε 8 = .sl (kN m k).length (((kN m k).map (mapX (cnt m))).flatMap aIx) (.id i8 w 4) ∧ ε 9 = .v (.int .i64 k)) ∧ σ[i8]? = some (.tail w)) ?_ ?_
        · intro N2 hN2
          simp (maxSteps := 1000000) (implicitDefEqProofs := false) (disch := omega) only [push_cast, ↓reduceIte, Nat.reduceEqDiff, reduceCtorEq, wz, hρ]
          exact hN2 _ _ ⟨by simp (maxSteps := 1000000) (implicitDefEqProofs := false) (disch := omega) only [push_cast, ↓reduceIte, Nat.reduceEqDiff, reduceCtorEq, wz, hρ], hs⟩
        clear hρ hs ε σ
        rintro ε σ ⟨hρ, hs⟩
        refine wpa_seqx (fun ε σ => ∃ w, (ε 3 = .sl m.length (m.flatMap aIx) (.id 0 w0 4) ∧ ε 7 = aSl aBool (reachB m) ∧ ε 8 = .sl (kN m (k + 1)).length (((kN m (k + 1)).map (mapX (cnt m))).flatMap aIx) (.id i8 w 4) ∧ ε 9 = .v (.int .i64 k)) ∧ σ[i8]? = some (.tail w)) ?_ ?_
        · intro N2 X2 R2 hN2
          refine wpa_blk fun X' hX' => ?_
          have hX5 : ∀ ε σ, X' 5 ε σ = N2 ε σ := fun ε σ => by rw [hX']; rfl
          refine wpa_seq (fun ε σ => (ε 3 = .sl m.length (m.flatMap aIx) (.id 0 w0 4) ∧ ε 7 = aSl aBool (reachB m) ∧ ε 8 = .sl (kN m k).length (((kN m k).map (mapX (cnt m))).flatMap aIx) (.id i8 w 4) ∧ ε 9 = .v (.int .i64 k)) ∧ σ[i8]? = some (.tail w) ∧ kp m k = true) ?_ ?_
          · intro N3 hN3
            cases b with
            | false =>
              have hq : kp m k = false := by rw [hkp]; rfl
              rw [hkn, hq] at hN2
              simp only [Bool.false_eq_true, if_false, List.append_nil] at hN2
              simp (maxSteps := 1000000) (implicitDefEqProofs := false) (disch := omega) only [push_cast, ↓reduceIte, Nat.reduceEqDiff, reduceCtorEq, wz, hρ, hBL, hbb, hX5]
              exact hN2 _ _ ⟨w, by simp (maxSteps := 1000000) (implicitDefEqProofs := false) (disch := omega) only [push_cast, ↓reduceIte, Nat.reduceEqDiff, reduceCtorEq, wz, hρ, hBL], hs⟩
            | true =>
              simp (maxSteps := 1000000) (implicitDefEqProofs := false) (disch := omega) only [push_cast, ↓reduceIte, Nat.reduceEqDiff, reduceCtorEq, wz, hρ, hBL, hbb]
              refine wpa_callw [] [true] (ref42_Useless_a m k hlt hl) (hwk σ k) ?_
              rintro a rfl
              cases hu : usL m k with
              | true =>
                have hq : kp m k = false := by rw [hkp, hu]; rfl
                rw [hkn, hq] at hN2
                simp only [Bool.false_eq_true, if_false, List.append_nil] at hN2
                simp (maxSteps := 1000000) (implicitDefEqProofs := false) (disch := omega) only [push_cast, ↓reduceIte, Nat.reduceEqDiff, reduceCtorEq, wz, aBool, hX5]
                exact hN2 _ _ ⟨w, by simp (maxSteps := 1000000) (implicitDefEqProofs := false) (disch := omega) only [push_cast, ↓reduceIte, Nat.reduceEqDiff, reduceCtorEq, wz, hρ, hBL], hs⟩
              | false =>
                have hq : kp m k = true := by rw [hkp, hu]; rfl
                simp (maxSteps := 1000000) (implicitDefEqProofs := false) (disch := omega) only [push_cast, ↓reduceIte, Nat.reduceEqDiff, reduceCtorEq, wz, aBool]
                exact hN3 _ _ ⟨by simp (maxSteps := 1000000) (implicitDefEqProofs := false) (disch := omega) only [push_cast, ↓reduceIte, Nat.reduceEqDiff, reduceCtorEq, wz, hρ, hBL], hs, hq⟩
          clear hρ hs ε σ hX5
          rintro ε σ ⟨hρ, hs, hq⟩
          rw [hkn, hq] at hN2
          simp only [if_true] at hN2
          have hRk := kp_rc hM hq
          generalize hKK : ((kN m k).map (mapX (cnt m))).flatMap aIx = KK at hρ hfl
          refine wpa_seqx (fun ε σ => ∃ ip, (ε 3 = .sl m.length (m.flatMap aIx) (.id 0 w0 4) ∧ ε 7 = aSl aBool (reachB m) ∧ ε 8 = .sl (kN m k).length KK (.id i8 w 4) ∧ ε 9 = .v (.int .i64 k) ∧ ε 10 = .ref ip 0 0) ∧ σ[i8]? = some (.tail w) ∧ σ[ip]? = some (.obj 0 (aIx x)) ∧ ip ≠ i8) ?_ ?_
          · intro N3 X3 R3 hN3
            simp (maxSteps := 1000000) (implicitDefEqProofs := false) (disch := omega) only [push_cast, ↓reduceIte, Nat.reduceEqDiff, reduceCtorEq, wz, hρ, hd, cellsIx]
            refine wpa_new ?_
            simp (maxSteps := 1000000) (implicitDefEqProofs := false) (disch := omega) only [push_cast, ↓reduceIte, Nat.reduceEqDiff, reduceCtorEq, wz]
            refine wpa_stn (cs := [AV.v (.int .i64 0), AV.v (.int .i64 0), AV.v (.int .i64 0), AV.v (.int .i64 0)]) rfl rfl (at_snoc _ _) (by simp) ?_
            rw [z4set, set_snoc]
            simp (maxSteps := 1000000) (implicitDefEqProofs := false) (disch := omega) only [push_cast, ↓reduceIte, Nat.reduceEqDiff, reduceCtorEq, wz]
            exact hN3 _ _ ⟨σ.length, by simp (maxSteps := 1000000) (implicitDefEqProofs := false) (disch := omega) only [push_cast, ↓reduceIte, Nat.reduceEqDiff, reduceCtorEq, wz, hρ], get_app hs, at_snoc _ _, by have := lt_at hs; omega⟩
          clear hρ hs ε σ
          rintro ε σ ⟨ip, hρ, hs, hip, hne⟩
          refine wpa_seqx (fun ε σ => (ε 3 = .sl m.length (m.flatMap aIx) (.id 0 w0 4) ∧ ε 7 = aSl aBool (reachB m) ∧ ε 8 = .sl (kN m k).length KK (.id i8 w 4) ∧ ε 9 = .v (.int .i64 k) ∧ ε 10 = .ref ip 0 0 ∧ ε 11 = .v (.int .i64 (tgI x))) ∧ σ[i8]? = some (.tail w) ∧ σ[ip]? = some (.obj 0 (aIx x))) ?_ ?_
          · intro N3 X3 R3 hN3
            simp (maxSteps := 1000000) (implicitDefEqProofs := false) (disch := omega) only [push_cast, ↓reduceIte, Nat.reduceEqDiff, reduceCtorEq, wz, hρ, hip, cellsIx']
            refine wpa_call (ref42_target_a x) ?_
            rintro a rfl
            simp (maxSteps := 1000000) (implicitDefEqProofs := false) (disch := omega) only [push_cast, ↓reduceIte, Nat.reduceEqDiff, reduceCtorEq, wz, aInt]
            exact hN3 _ _ ⟨by simp (maxSteps := 1000000) (implicitDefEqProofs := false) (disch := omega) only [push_cast, ↓reduceIte, Nat.reduceEqDiff, reduceCtorEq, wz, hρ], hs, hip⟩
          clear hρ hs hip ε σ
          rintro ε σ ⟨hρ, hs, hip⟩
          refine wpa_seqx (fun ε σ => (ε 3 = .sl m.length (m.flatMap aIx) (.id 0 w0 4) ∧ ε 7 = aSl aBool (reachB m) ∧ ε 8 = .sl (kN m k).length KK (.id i8 w 4) ∧ ε 9 = .v (.int .i64 k) ∧ ε 10 = .ref ip 0 0) ∧ σ[i8]? = some (.tail w) ∧ σ[ip]? = some (.obj 0 (aIx (mapX (cnt m) x)))) ?_ ?_
          · intro N3 X3 R3 hN3
            cases ht : tgtX x with
            | none =>
              have hti : tgI x = -1 := by unfold tgI; rw [ht]
              have hmx : mapX (cnt m) x = x := by unfold mapX; rw [ht]
              rw [hti] at hρ
              rw [hmx] at hN3
              simp (maxSteps := 1000000) (implicitDefEqProofs := false) (disch := omega) only [push_cast, ↓reduceIte, Nat.reduceEqDiff, reduceCtorEq, wz, hρ]
              exact hN3 _ _ ⟨by simp (maxSteps := 1000000) (implicitDefEqProofs := false) (disch := omega) only [push_cast, ↓reduceIte, Nat.reduceEqDiff, reduceCtorEq, wz, hρ], hs, hip⟩
            | some u =>
              have hti : tgI x = u := by unfold tgI; rw [ht]
              have htg := hM.tg k x u hx ht
              obtain ⟨t, rfl⟩ : ∃ t : Nat, u = t := ⟨u.toNat, by omega⟩
              have htl : t < m.length := by omega
              have hmw := map_wth (f := cnt m) ht
              have h0t : (0 : Int) ≤ (t : Int) := by omega
              rw [hti] at hρ
              simp (maxSteps := 1000000) (implicitDefEqProofs := false) (disch := omega) only [push_cast, ↓reduceIte, Nat.reduceEqDiff, reduceCtorEq, wz, hρ, h0t]
              refine wpa_blx (α := Nat) (I := fun j ε σ => (ε 3 = .sl m.length (m.flatMap aIx) (.id 0 w0 4) ∧ ε 7 = aSl aBool (reachB m) ∧ ε 8 = .sl (kN m k).length KK (.id i8 w 4) ∧ ε 9 = .v (.int .i64 k) ∧ ε 10 = .ref ip 0 0 ∧ ε 11 = .v (.int .i64 t) ∧ ε 12 = .v (.int .i64 (cnt m j : Nat)) ∧ ε 13 = .v (.int .i64 j)) ∧ j ≤ t ∧ σ[i8]? = some (.tail w) ∧ σ[ip]? = some (.obj 0 (aIx x)))
                (μ := fun j => t - j) (Q := fun ε σ => (ε 3 = .sl m.length (m.flatMap aIx) (.id 0 w0 4) ∧ ε 7 = aSl aBool (reachB m) ∧ ε 8 = .sl (kN m k).length KK (.id i8 w 4) ∧ ε 9 = .v (.int .i64 k) ∧ ε 10 = .ref ip 0 0 ∧ ε 12 = .v (.int .i64 (cnt m t : Nat))) ∧ σ[i8]? = some (.tail w) ∧ σ[ip]? = some (.obj 0 (aIx x))) (x := 0) ?_ ?_ ?_
              · exact ⟨by simp (maxSteps := 1000000) (implicitDefEqProofs := false) (disch := omega) only [push_cast, ↓reduceIte, Nat.reduceEqDiff, reduceCtorEq, wz, hρ]; try rfl, by omega, hs, hip⟩
              · clear hN3 N3 X3 R3 hN2 hρ hs hip ε σ hX' X'
                rintro j ε σ N E X R ⟨hρ, hj, hs, hip⟩ hN hE
                simp only [S_forebayref42_Round_L4]
                by_cases hjt : j < t
                · obtain ⟨y, hy⟩ := at_lt (l := m) (k := j) (by omega)
                  have hcs := cnt_succ hy
                  have hcle := cnt_le m j
                  obtain ⟨c, hc⟩ := at_lt (l := reachB m) (k := j) (by omega)
                  have hkc : kp m j = (c && !usL m j) := by unfold kp; rw [List.getD_eq_getElem?_getD, hc]; rfl
                  have hcb : ((reachB m).map aBool)[j]? = some (.v (.bool c)) := by rw [List.getElem?_map, hc]; rfl
                  cases c with
                  | false =>
                    have hq : kp m j = false := by rw [hkc]; rfl
                    rw [hq] at hcs
                    simp only [Bool.false_eq_true, if_false, Nat.add_zero] at hcs
                    simp (maxSteps := 1000000) (implicitDefEqProofs := false) (disch := omega) only [push_cast, ↓reduceIte, Nat.reduceEqDiff, reduceCtorEq, wz, hρ, hBL, hcb]
                    refine hN (j + 1) _ _ ?_ (by omega)
                    exact ⟨by rw [hcs]; simp (maxSteps := 1000000) (implicitDefEqProofs := false) (disch := omega) only [push_cast, ↓reduceIte, Nat.reduceEqDiff, reduceCtorEq, wz, hρ, hBL], by omega, hs, hip⟩
                  | true =>
                    simp (maxSteps := 1000000) (implicitDefEqProofs := false) (disch := omega) only [push_cast, ↓reduceIte, Nat.reduceEqDiff, reduceCtorEq, wz, hρ, hBL, hcb]
                    refine wpa_callw [] [true] (ref42_Useless_a m j (by omega) hl) (hwk σ j) ?_
                    rintro a rfl
                    cases hu : usL m j with
                    | true =>
                      have hq : kp m j = false := by rw [hkc, hu]; rfl
                      rw [hq] at hcs
                      simp only [Bool.false_eq_true, if_false, Nat.add_zero] at hcs
                      simp (maxSteps := 1000000) (implicitDefEqProofs := false) (disch := omega) only [push_cast, ↓reduceIte, Nat.reduceEqDiff, reduceCtorEq, wz, hρ, aBool]
                      refine hN (j + 1) _ _ ?_ (by omega)
                      exact ⟨by rw [hcs]; simp (maxSteps := 1000000) (implicitDefEqProofs := false) (disch := omega) only [push_cast, ↓reduceIte, Nat.reduceEqDiff, reduceCtorEq, wz, hρ, hBL], by omega, hs, hip⟩
                    | false =>
                      have hq : kp m j = true := by rw [hkc, hu]; rfl
                      rw [hq] at hcs
                      simp only [if_true] at hcs
                      simp (maxSteps := 1000000) (implicitDefEqProofs := false) (disch := omega) only [push_cast, ↓reduceIte, Nat.reduceEqDiff, reduceCtorEq, wz, hρ, aBool]
                      refine hN (j + 1) _ _ ?_ (by omega)
                      exact ⟨by rw [hcs]; simp (maxSteps := 1000000) (implicitDefEqProofs := false) (disch := omega) only [push_cast, ↓reduceIte, Nat.reduceEqDiff, reduceCtorEq, wz, hρ, hBL], by omega, hs, hip⟩
                · simp (maxSteps := 1000000) (implicitDefEqProofs := false) (disch := omega) only [push_cast, ↓reduceIte, Nat.reduceEqDiff, reduceCtorEq, wz, hρ]
                  obtain rfl : j = t := by omega
                  exact hE _ _ ⟨by simp (maxSteps := 1000000) (implicitDefEqProofs := false) (disch := omega) only [push_cast, ↓reduceIte, Nat.reduceEqDiff, reduceCtorEq, wz, hρ], hs, hip⟩
              · clear hρ hs hip ε σ
                rintro ε σ ⟨hρ, hs, hip⟩
                have hset : setAtA (aIx x) 0 (aIx (mapX (cnt m) x)) = aIx (mapX (cnt m) x) := rfl
                simp (maxSteps := 1000000) (implicitDefEqProofs := false) (disch := omega) only [push_cast, ↓reduceIte, Nat.reduceEqDiff, reduceCtorEq, wz, hρ, hip, cellsIx']
                refine wpa_call (ref42_with_a x (cnt m t : Nat)) ?_
                rintro a rfl
                rw [← hmw]
                simp (maxSteps := 1000000) (implicitDefEqProofs := false) (disch := omega) only [push_cast, ↓reduceIte, Nat.reduceEqDiff, reduceCtorEq, wz, hρ]
                refine wpa_stn (aIx_len _) rfl hip (by simp [aIx]) ?_
                rw [hset]
                simp (maxSteps := 1000000) (implicitDefEqProofs := false) (disch := omega) only [push_cast, ↓reduceIte, Nat.reduceEqDiff, reduceCtorEq, wz]
                exact hN3 _ _ ⟨by simp (maxSteps := 1000000) (implicitDefEqProofs := false) (disch := omega) only [push_cast, ↓reduceIte, Nat.reduceEqDiff, reduceCtorEq, wz, hρ], get_set_ne hne hs, get_set_eq hip⟩
          clear hρ hs hip ε σ
          rintro ε σ ⟨hρ, hs, hip⟩
          have hax : (AV.agg (aIx (mapX (cnt m) x))).cells = aIx (mapX (cnt m) x) := rfl
          simp (maxSteps := 1000000) (implicitDefEqProofs := false) (disch := omega) only [push_cast, ↓reduceIte, Nat.reduceEqDiff, reduceCtorEq, wz, hρ, hip, cellsIx']
          refine wpa_bsl (sz := 4) (by intro a ha; simp at ha; subst ha; rfl) (by simp) ?_
          simp (maxSteps := 1000000) (implicitDefEqProofs := false) (disch := omega) only [push_cast, ↓reduceIte, Nat.reduceEqDiff, reduceCtorEq, wz, hax, List.append_nil]
          refine wpa_app (m := 1) rfl rfl rfl rfl hfl (by omega) (by omega) hs ?_
          simp (maxSteps := 1000000) (implicitDefEqProofs := false) (disch := omega) only [push_cast, ↓reduceIte, Nat.reduceEqDiff, reduceCtorEq, wz]
          refine hN2 _ _ ⟨w + 1, ?_, get_set_eq hs⟩
          rw [List.map_append, List.flatMap_append, hKK]
          simp (maxSteps := 1000000) (implicitDefEqProofs := false) (disch := omega) only [push_cast, ↓reduceIte, Nat.reduceEqDiff, reduceCtorEq, wz, hρ]
          simp
        clear hρ hs ε σ
        rintro ε σ ⟨w, hρ, hs⟩
        simp (maxSteps := 1000000) (implicitDefEqProofs := false) (disch := omega) only [push_cast, ↓reduceIte, Nat.reduceEqDiff, reduceCtorEq, wz, hρ]
        refine hN (k + 1) _ _ ?_ (by omega)
        exact ⟨w, by simp (maxSteps := 1000000) (implicitDefEqProofs := false) (disch := omega) only [push_cast, ↓reduceIte, Nat.reduceEqDiff, reduceCtorEq, wz, hρ], by omega, hs⟩
      · simp (maxSteps := 1000000) (implicitDefEqProofs := false) (disch := omega) only [push_cast, ↓reduceIte, Nat.reduceEqDiff, reduceCtorEq, wz, hρ]
        obtain rfl : k = m.length := by omega
        have e : (rndM m).length = (kN m m.length).length := by unfold rndM; rw [List.length_map]
        exact hE _ _ ⟨w, by rw [e]; simp (maxSteps := 1000000) (implicitDefEqProofs := false) (disch := omega) only [push_cast, ↓reduceIte, Nat.reduceEqDiff, reduceCtorEq, wz, hρ]; try rfl⟩
  clear hρ hi8 ε σ
  rintro ε σ ⟨w, hρ⟩
  simp (maxSteps := 1000000) (implicitDefEqProofs := false) (disch := omega) only [push_cast, ↓reduceIte, Nat.reduceEqDiff, reduceCtorEq, wz, hρ]
  exact fin_res [] (aIxs_res _ _ _) (aIxs_pure _)
end Go.Proofs.Ythgmfjkbgacfaaa
