/- Trace: Follows. -/
import Derived.Test.YthgmfjkbgacfaaaTrh
namespace Go.Proofs.Ythgmfjkbgacfaaa
set_option linter.unusedVariables false
set_option linter.unusedSimpArgs false
open Go Go.Kx Go.Proofs Go.Proofs.Ythgmfjkbgacfaaa.Gr
open Go.Proofs.Ythgmfjkbgacfaaa (mixed)

def stepW (M : Mp) (x : (Int × Int) × Nat) : Mp := if getE M x.1 = 0 then putE M x.1 (x.2 + 1) else M
/-- When a node began, from 1 on. -/
def whenF (b : List (Int × Int)) : Mp := b.zipIdx.foldl stepW []
theorem whenF_succ {b : List (Int × Int)} {k : Nat} {p : Int × Int} (h : b[k]? = some p) : whenF (b.take (k + 1)) = stepW (whenF (b.take k)) (p, k) := by
  have hlt := lt_at h
  unfold whenF
  rw [take_succ_at h, List.zipIdx_append, List.foldl_append, List.length_take, show min k b.length = k by omega]
  simp
def badE (M : Mp) (e : Ed) : Bool := decide (0 < getE M e.2) && (decide (getE M e.1 = 0) || decide (getE M e.2 < getE M e.1))
def followsF (l : List Ev) (lp : Int) : Bool := decide (gchk (rowsF l lp) = 0) && (edgeL (rowsF l lp)).all fun e => !badE (whenF (begunF l lp)) e
theorem begunF_ok (l : List Ev) (lp : Int) : ∀ p ∈ begunF l lp, okP p := by
  intro p hp
  unfold begunF begunX at hp
  obtain ⟨x, _, rfl⟩ := List.mem_map.1 hp
  exact ⟨heldI_ok _, heldI_ok _⟩
theorem begunF_len (l : List Ev) (lp : Int) : (begunF l lp).length ≤ l.length := by
  have h1 := begunX_len (tl (ofLp lp) l)
  have h2 := tl_len (ofLp lp) l
  unfold begunF; omega
theorem stepW_ok {M : Mp} (hM : (∀ e ∈ M, okP e.1) ∧ ∀ p, 0 ≤ getE M p) {x : (Int × Int) × Nat} (hx : okP x.1) : (∀ e ∈ stepW M x, okP e.1) ∧ ∀ p, 0 ≤ getE (stepW M x) p := by
  unfold stepW
  split
  · refine ⟨putE_ok hM.1 hx _, fun p => ?_⟩
    rw [getE_put]
    have := hM.2 p
    split <;> omega
  · exact hM
theorem whenF_ok {b : List (Int × Int)} (hb : ∀ p ∈ b, okP p) : ∀ k, k ≤ b.length → (∀ e ∈ whenF (b.take k), okP e.1) ∧ ∀ p, 0 ≤ getE (whenF (b.take k)) p := by
  intro k
  induction k with
  | zero => intro _; exact ⟨fun e he => by simp [whenF] at he, fun p => by simp [whenF, getE]⟩
  | succ k ih =>
    intro hk
    obtain ⟨p, hp⟩ := at_lt (l := b) (k := k) (by omega)
    rw [whenF_succ hp]
    exact stepW_ok (ih (by omega)) (hb p (List.mem_of_getElem? hp))
theorem rowsF_ok (l : List Ev) (lp : Int) : (rowsF l lp).length ≤ l.length ∧ ∀ r ∈ rowsF l lp, r.length ≤ l.length := by
  have h2 := tl_len (ofLp lp) l
  have h := rowsX_ok (tl (ofLp lp) l) _ (Nat.le_refl _)
  rw [List.take_length] at h
  exact ⟨by have := h.1; unfold rowsF; omega, fun r hr => by have := h.2.1 r hr; omega⟩
theorem ex_N (p : Int × Int) : (AV.v (vN p)).exact = true := rfl
theorem all_bad {M : Mp} {es : List Ed} {n : Nat} {e : Ed} (he : es[n]? = some e) (hb : badE M e = true) : (es.all fun e => !badE M e) = false := by
  rw [List.all_eq_false]
  exact ⟨e, List.mem_of_getElem? he, by simp [hb]⟩
set_option maxHeartbeats 4000000 in
theorem trace_Follows_a (l : List Ev) (lp : Int) (hl : l.length ≤ 100000) : FnP Try.prog 22 [aEvs l, aInt lp] fun a => a = aBool (followsF l lp) := by
  refine fnP_in K_trace_Follows Go.Proofs.Ythgmfjkbgacfaaa.mixed rfl (by simp [AV.pureL, aEvs_pure, AV.pure, aInt]) ?_
  simp only [S_trace_Follows]
  obtain ⟨hR1, hR2⟩ := rowsF_ok l lp
  simp (maxSteps := 1000000) (implicitDefEqProofs := false) (disch := omega) only [push_cast, ↓reduceIte, Nat.reduceEqDiff, reduceCtorEq, wz]
  refine wpa_call (trace_Rows_a l lp hl) ?_
  rintro a rfl
  simp (maxSteps := 1000000) (implicitDefEqProofs := false) (disch := omega) only [push_cast, ↓reduceIte, Nat.reduceEqDiff, reduceCtorEq, wz]
  refine wpa_call (grid_Edges_a _ (by omega) fun r hr => by have := hR2 r hr; omega) ?_
  rintro a rfl
  by_cases h0 : gchk (rowsF l lp) = 0
  · rw [if_pos h0]
    obtain ⟨hok, hlen⟩ := edgeL_ok h0
    have hF : followsF l lp = (edgeL (rowsF l lp)).all fun e => !badE (whenF (begunF l lp)) e := by unfold followsF; rw [h0]; simp
    rw [hF]
    have hbok := begunF_ok l lp
    have hbl := begunF_len l lp
    generalize hE : edgeL (rowsF l lp) = es at hok hlen
    simp (maxSteps := 1000000) (implicitDefEqProofs := false) (disch := omega) only [push_cast, ↓reduceIte, Nat.reduceEqDiff, reduceCtorEq, wz, aInt, h0, aEds, aSlN]
    refine wpa_mkm ?_
    simp (maxSteps := 1000000) (implicitDefEqProofs := false) (disch := omega) only [push_cast, ↓reduceIte, Nat.reduceEqDiff, reduceCtorEq, wz]
    refine wpa_call (trace_Begun_a l lp hl) ?_
    rintro a rfl
    generalize begunF l lp = b at hbok hbl
    simp (maxSteps := 1000000) (implicitDefEqProofs := false) (disch := omega) only [push_cast, ↓reduceIte, Nat.reduceEqDiff, reduceCtorEq, wz, aNs, aSl]
    refine wpa_bl (α := Nat) (I := fun n ε σ => (ε 5 = .sl es.length (es.flatMap aEd) .none ∧ ε 7 = .mp 0 ∧ ε 26 = .sl b.length (b.map aN) .none ∧ ε 27 = .v (.int .i64 b.length) ∧ ε 28 = .v (.int .i64 n)) ∧ n ≤ b.length ∧ σ[0]? = some (.map ((whenF (b.take n)).map kvN)))
        (μ := fun n => b.length - n) (Q := fun ε σ => (ε 5 = .sl es.length (es.flatMap aEd) .none ∧ ε 7 = .mp 0) ∧ σ[0]? = some (.map ((whenF b).map kvN))) (x := 0) ?_ ?_ ?_
    · simp (maxSteps := 1000000) (implicitDefEqProofs := false) (disch := omega) only [push_cast, ↓reduceIte, Nat.reduceEqDiff, reduceCtorEq, wz]
      exact ⟨Nat.zero_le _, rfl⟩
    · rintro n ε σ N E ⟨hρ, hn, hs⟩ hN hE'
      simp only [S_trace_Follows_L1]
      by_cases hlt : n < b.length
      · obtain ⟨p, hp⟩ := at_lt hlt
        have hpo := hbok p (List.mem_of_getElem? hp)
        obtain ⟨hM, hM0⟩ := whenF_ok hbok n (by omega)
        have hst := whenF_succ hp
        have hpx : (b.map aN)[n]? = some (aN p) := by rw [List.getElem?_map, hp]; rfl
        generalize whenF (b.take n) = M at hs hM hM0 hst
        simp (maxSteps := 1000000) (implicitDefEqProofs := false) (disch := omega) only [push_cast, ↓reduceIte, Nat.reduceEqDiff, reduceCtorEq, wz, hρ, hpx]
        refine wpa_mlk hs (getM_N hM hpo) ?_
        by_cases hg : getE M p = 0
        · simp (maxSteps := 1000000) (implicitDefEqProofs := false) (disch := omega) only [push_cast, ↓reduceIte, Nat.reduceEqDiff, reduceCtorEq, wz, hg, hρ]
          refine wpa_mup hs (putM_N hM hpo _) ?_
          simp (maxSteps := 1000000) (implicitDefEqProofs := false) (disch := omega) only [push_cast, ↓reduceIte, Nat.reduceEqDiff, reduceCtorEq, wz, hρ]
          refine hN (n + 1) _ _ ?_ (by omega)
          simp (maxSteps := 1000000) (implicitDefEqProofs := false) (disch := omega) only [push_cast, ↓reduceIte, Nat.reduceEqDiff, reduceCtorEq, wz, hρ]
          refine ⟨by omega, ?_⟩
          rw [get_set_eq hs, hst, stepW, if_pos hg]
        · simp (maxSteps := 1000000) (implicitDefEqProofs := false) (disch := omega) only [push_cast, ↓reduceIte, Nat.reduceEqDiff, reduceCtorEq, wz, hg, hρ]
          refine hN (n + 1) _ _ ?_ (by omega)
          simp (maxSteps := 1000000) (implicitDefEqProofs := false) (disch := omega) only [push_cast, ↓reduceIte, Nat.reduceEqDiff, reduceCtorEq, wz, hρ]
          refine ⟨by omega, ?_⟩
          rw [hs, hst, stepW, if_neg hg]
      · simp (maxSteps := 1000000) (implicitDefEqProofs := false) (disch := omega) only [push_cast, ↓reduceIte, Nat.reduceEqDiff, reduceCtorEq, wz, hρ]
        refine hE' _ _ ?_
        rw [List.take_of_length_le (by omega)] at hs
        simp (maxSteps := 1000000) (implicitDefEqProofs := false) (disch := omega) only [push_cast, ↓reduceIte, Nat.reduceEqDiff, reduceCtorEq, wz, hρ]
        exact hs
    · rintro ε σ ⟨hρ, hs⟩
      obtain ⟨hM, hM0⟩ := whenF_ok hbok b.length (Nat.le_refl _)
      rw [List.take_length] at hM hM0
      generalize whenF b = M at hs hM hM0
      simp (maxSteps := 1000000) (implicitDefEqProofs := false) (disch := omega) only [push_cast, ↓reduceIte, Nat.reduceEqDiff, reduceCtorEq, wz, hρ]
      refine wpa_bl (α := Nat) (I := fun n ε σ => (ε 7 = .mp 0 ∧ ε 42 = .sl es.length (es.flatMap aEd) .none ∧ ε 43 = .v (.int .i64 es.length) ∧ ε 44 = .v (.int .i64 n)) ∧ n ≤ es.length ∧ ((es.take n).all fun e => !badE M e) = true ∧ σ[0]? = some (.map (M.map kvN)))
        (μ := fun n => es.length - n) (Q := fun ε σ => (es.all fun e => !badE M e) = true) (x := 0) ?_ ?_ ?_
      · simp (maxSteps := 1000000) (implicitDefEqProofs := false) (disch := omega) only [push_cast, ↓reduceIte, Nat.reduceEqDiff, reduceCtorEq, wz, hρ]
        exact ⟨Nat.zero_le _, rfl, hs⟩
      · rintro n ε σ N E ⟨hρ, hn, hall, hs⟩ hN hE'
        simp only [S_trace_Follows_L2]
        by_cases hlt : n < es.length
        · obtain ⟨e, he⟩ := at_lt hlt
          have heo := hok e (List.mem_of_getElem? he)
          have hde := flat_drop aEd_len he
          have hcl : ∀ m : List AV, cellsA (some 2) (aEd e ++ m) = some (.agg (aEd e)) := fun m => by rw [cellsA_n _ _ (by simp [aEd_len])]; rfl
          have hsucc := take_succ_at he
          simp (maxSteps := 1000000) (implicitDefEqProofs := false) (disch := omega) only [push_cast, ↓reduceIte, Nat.reduceEqDiff, reduceCtorEq, wz, hρ, hde, hcl]
          refine wpa_new ?_
          simp (maxSteps := 1000000) (implicitDefEqProofs := false) (disch := omega) only [push_cast, ↓reduceIte, Nat.reduceEqDiff, reduceCtorEq, wz]
          refine wpa_stn (aEd_len e) (by rfl) (at_snoc _ _) (by simp) ?_
          have hset : setAtA [AV.v (.complex .f64 0 0), AV.v (.complex .f64 0 0)] 0 (aEd e) = aEd e := rfl
          have f0 : (aEd e)[Int.toNat 0]? = some (.v (vN e.1)) := rfl
          have f1 : (aEd e)[Int.toNat 1]? = some (.v (vN e.2)) := rfl
          have hs1 : (σ ++ [Res.obj 0 (aEd e)])[0]? = some (.map (M.map kvN)) := get_app hs
          have hb3 : (σ ++ [Res.obj 0 (aEd e)])[σ.length]? = some (.obj 0 (aEd e)) := at_snoc _ _
          simp (maxSteps := 1000000) (implicitDefEqProofs := false) (disch := omega) only [push_cast, ↓reduceIte, Nat.reduceEqDiff, reduceCtorEq, wz, hset, set_snoc]
          generalize hS : σ ++ [Res.obj 0 (aEd e)] = S at hs1 hb3 ⊢
          generalize hb : σ.length = i0 at hb3 ⊢
          clear hS hb
          simp (maxSteps := 1000000) (implicitDefEqProofs := false) (disch := omega) only [push_cast, ↓reduceIte, Nat.reduceEqDiff, reduceCtorEq, wz, hρ, hb3, f0, f1]
          have h1 := hM0 e.1
          have h2 := hM0 e.2
          refine ⟨?_, ?_⟩
          · refine wpa_mlk hs1 (getM_N hM heo.1) ?_
            simp (maxSteps := 1000000) (implicitDefEqProofs := false) (disch := omega) only [push_cast, ↓reduceIte, Nat.reduceEqDiff, reduceCtorEq, wz]
            refine ⟨aholds_e (by simp (maxSteps := 1000000) (implicitDefEqProofs := false) (disch := omega) only [push_cast, ↓reduceIte, Nat.reduceEqDiff, reduceCtorEq, wz, hb3, f1, ex_N]), ?_⟩
            refine wpa_mlk hs1 (getM_N hM heo.2) ?_
            simp (maxSteps := 1000000) (implicitDefEqProofs := false) (disch := omega) only [push_cast, ↓reduceIte, Nat.reduceEqDiff, reduceCtorEq, wz]
            by_cases g1 : 0 < getE M e.2
            · by_cases g2 : getE M e.1 = 0
              · have hbad : badE M e = true := by simp [badE, g1, g2]
                simp (maxSteps := 1000000) (implicitDefEqProofs := false) (disch := omega) only [push_cast, ↓reduceIte, Nat.reduceEqDiff, reduceCtorEq, wz, g1, g2]
                exact ⟨[], rfl, by rw [all_bad he hbad]; rfl⟩
              · by_cases g3 : getE M e.2 < getE M e.1
                · have hbad : badE M e = true := by simp [badE, g1, g3]
                  simp (maxSteps := 1000000) (implicitDefEqProofs := false) (disch := omega) only [push_cast, ↓reduceIte, Nat.reduceEqDiff, reduceCtorEq, wz, g1, g2, g3]
                  exact ⟨[], rfl, by rw [all_bad he hbad]; rfl⟩
                · have hgd : badE M e = false := by simp [badE, g2, g3]
                  simp (maxSteps := 1000000) (implicitDefEqProofs := false) (disch := omega) only [push_cast, ↓reduceIte, Nat.reduceEqDiff, reduceCtorEq, wz, g1, g2, g3, hρ]
                  refine hN (n + 1) _ _ ?_ (by omega)
                  simp (maxSteps := 1000000) (implicitDefEqProofs := false) (disch := omega) only [push_cast, ↓reduceIte, Nat.reduceEqDiff, reduceCtorEq, wz, hρ]
                  exact ⟨by omega, by rw [hsucc, List.all_append, hall]; simp [hgd], hs1⟩
            · have hgd : badE M e = false := by simp [badE, g1]
              simp (maxSteps := 1000000) (implicitDefEqProofs := false) (disch := omega) only [push_cast, ↓reduceIte, Nat.reduceEqDiff, reduceCtorEq, wz, g1, hρ]
              refine hN (n + 1) _ _ ?_ (by omega)
              simp (maxSteps := 1000000) (implicitDefEqProofs := false) (disch := omega) only [push_cast, ↓reduceIte, Nat.reduceEqDiff, reduceCtorEq, wz, hρ]
              exact ⟨by omega, by rw [hsucc, List.all_append, hall]; simp [hgd], hs1⟩
          · refine wpa_mlk hs1 (getM_N hM heo.2) ?_
            simp (maxSteps := 1000000) (implicitDefEqProofs := false) (disch := omega) only [push_cast, ↓reduceIte, Nat.reduceEqDiff, reduceCtorEq, wz]
            refine ⟨aholds_e (by simp (maxSteps := 1000000) (implicitDefEqProofs := false) (disch := omega) only [push_cast, ↓reduceIte, Nat.reduceEqDiff, reduceCtorEq, wz, hb3, f0, ex_N]), ?_⟩
            refine wpa_mlk hs1 (getM_N hM heo.1) ?_
            simp (maxSteps := 1000000) (implicitDefEqProofs := false) (disch := omega) only [push_cast, ↓reduceIte, Nat.reduceEqDiff, reduceCtorEq, wz]
            by_cases g1 : 0 < getE M e.2
            · by_cases g2 : getE M e.1 = 0
              · have hbad : badE M e = true := by simp [badE, g1, g2]
                simp (maxSteps := 1000000) (implicitDefEqProofs := false) (disch := omega) only [push_cast, ↓reduceIte, Nat.reduceEqDiff, reduceCtorEq, wz, g1, g2]
                exact ⟨[], rfl, by rw [all_bad he hbad]; rfl⟩
              · by_cases g3 : getE M e.2 < getE M e.1
                · have hbad : badE M e = true := by simp [badE, g1, g3]
                  simp (maxSteps := 1000000) (implicitDefEqProofs := false) (disch := omega) only [push_cast, ↓reduceIte, Nat.reduceEqDiff, reduceCtorEq, wz, g1, g2, g3]
                  exact ⟨[], rfl, by rw [all_bad he hbad]; rfl⟩
                · have hgd : badE M e = false := by simp [badE, g2, g3]
                  simp (maxSteps := 1000000) (implicitDefEqProofs := false) (disch := omega) only [push_cast, ↓reduceIte, Nat.reduceEqDiff, reduceCtorEq, wz, g1, g2, g3, hρ]
                  refine hN (n + 1) _ _ ?_ (by omega)
                  simp (maxSteps := 1000000) (implicitDefEqProofs := false) (disch := omega) only [push_cast, ↓reduceIte, Nat.reduceEqDiff, reduceCtorEq, wz, hρ]
                  exact ⟨by omega, by rw [hsucc, List.all_append, hall]; simp [hgd], hs1⟩
            · have hgd : badE M e = false := by simp [badE, g1]
              simp (maxSteps := 1000000) (implicitDefEqProofs := false) (disch := omega) only [push_cast, ↓reduceIte, Nat.reduceEqDiff, reduceCtorEq, wz, g1, hρ]
              refine hN (n + 1) _ _ ?_ (by omega)
              simp (maxSteps := 1000000) (implicitDefEqProofs := false) (disch := omega) only [push_cast, ↓reduceIte, Nat.reduceEqDiff, reduceCtorEq, wz, hρ]
              exact ⟨by omega, by rw [hsucc, List.all_append, hall]; simp [hgd], hs1⟩
        · simp (maxSteps := 1000000) (implicitDefEqProofs := false) (disch := omega) only [push_cast, ↓reduceIte, Nat.reduceEqDiff, reduceCtorEq, wz, hρ]
          refine hE' _ _ ?_
          rw [List.take_of_length_le (by omega)] at hall
          exact hall
      · rintro ε σ hall
        simp (maxSteps := 1000000) (implicitDefEqProofs := false) (disch := omega) only [push_cast, ↓reduceIte, Nat.reduceEqDiff, reduceCtorEq, wz]
        exact ⟨[], rfl, by rw [hall]; rfl⟩
  · have hF : followsF l lp = false := by unfold followsF; simp [h0]
    rw [hF]
    simp (maxSteps := 1000000) (implicitDefEqProofs := false) (disch := omega) only [push_cast, ↓reduceIte, Nat.reduceEqDiff, reduceCtorEq, wz, aInt, h0]
    exact ⟨[], rfl, rfl⟩
end Go.Proofs.Ythgmfjkbgacfaaa
