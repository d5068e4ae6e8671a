/- Contracts on annotated values: grid.Edges. -/
import Derived.Test.YtilofhocodbknaaGrd
namespace Go.Proofs.Ytilofhocodbknaa
set_option linter.unusedVariables false
set_option linter.unusedSimpArgs false
open Go Go.Kx Go.Proofs

/-- An edge: from where, and to where. -/
abbrev Ed := (Int × Int) × (Int × Int)
def aEd (e : Ed) : List AV := [aN e.1, aN e.2]
theorem aEd_len (e : Ed) : (aEd e).length = 2 := rfl
theorem aEd_one (e : Ed) : (aEd e).all AV.one = true := rfl
theorem aEd_pure (e : Ed) : AV.pureL (aEd e) = true := by simp [aEd, AV.pureL, aN_pure]
theorem aEd_res (σ : St) (e : Ed) : AV.resL σ (aEd e) = aEd e := by simp [aEd, AV.resL, aN_res]
def aEds (l : List Ed) : AV := aSlN aEd l
theorem aEds_pure (l : List Ed) : (aEds l).pure = true := aSlN_pure aEd_pure l
theorem aEds_res (σ : St) (l : List Ed) (t : Tok) : (AV.sl l.length (l.flatMap aEd) t).res σ = aEds l := aSlN_res (aEd_res σ) l t
def cellEd (i : Nat) (q r : List CC) (j : Nat) : List Ed := (cellP i q r j).map fun p => (p, ((i : Int), (r.getD j nc).st))
def rowEd (i : Nat) (q r : List CC) (k : Nat) : List Ed := (List.range k).flatMap (cellEd i q r)
def gEd (l : List (List CC)) (n : Nat) : List Ed := (List.range n).flatMap fun i => rowEd i (l.getD (i - 1) []) (l.getD i []) (l.getD i []).length
def edgeL (l : List (List CC)) : List Ed := gEd l l.length
theorem rowEd_succ (i : Nat) (q r : List CC) (k : Nat) : rowEd i q r (k + 1) = rowEd i q r k ++ cellEd i q r k := by simp [rowEd, List.range_succ]
theorem gEd_succ (l : List (List CC)) (n : Nat) : gEd l (n + 1) = gEd l n ++ rowEd n (l.getD (n - 1) []) (l.getD n []) (l.getD n []).length := by simp [gEd, List.range_succ]
theorem cellP_len (i k : Nat) (q r : List CC) : (cellP i q r k).length ≤ 2 := by
  unfold cellP
  rw [List.length_append]
  have h1 : (if k = 0 then ([] : List (Int × Int)) else [((i : Int), (r.getD (k - 1) nc).st)]).length ≤ 1 := by split <;> simp
  have h2 : (if i = 0 then ([] : List (Int × Int)) else if k = 0 then [((i : Int) - 1, 0)] else if (r.getD k nc).wt = true then [((i : Int) - 1, lastLE q (r.getD k nc).st)] else []).length ≤ 1 := by
    split
    · simp
    · split
      · simp
      · split <;> simp
  omega
theorem rowEd_len (i : Nat) (q r : List CC) (k : Nat) : (rowEd i q r k).length ≤ 2 * k := by
  induction k with
  | zero => simp [rowEd]
  | succ k ih =>
    rw [rowEd_succ, List.length_append]
    have := cellP_len i k q r
    have e : (cellEd i q r k).length = (cellP i q r k).length := by simp [cellEd]
    omega
theorem gEd_len {l : List (List CC)} (h : ∀ r ∈ l, r.length ≤ 100) (n : Nat) : (gEd l n).length ≤ 200 * n := by
  induction n with
  | zero => simp [gEd]
  | succ n ih =>
    rw [gEd_succ, List.length_append]
    have h1 := rowEd_len n (l.getD (n - 1) []) (l.getD n []) (l.getD n []).length
    have h2 : (l.getD n []).length ≤ 100 := by
      rw [List.getD_eq_getElem?_getD]
      cases hx : l[n]? with
      | none => simp
      | some r => exact h r (List.mem_of_getElem? hx)
    omega

theorem app_step (A M : List Ed) (e : Ed) (t : Tok) : AV.sl ((A ++ M).length + 1) ((A ++ M).flatMap aEd ++ (aEd e ++ [])) t = AV.sl (A ++ (M ++ [e])).length ((A ++ (M ++ [e])).flatMap aEd) t := by
  simp only [List.flatMap_append, List.length_append, List.flatMap_cons, List.flatMap_nil, List.append_nil, List.append_assoc, List.length_singleton, Nat.add_assoc]
set_option maxHeartbeats 2000000 in
theorem grid_Edges_a (l : List (List CC)) (hl : l.length ≤ 9223372036854775807) (hl2 : ∀ r ∈ l, r.length ≤ 9223372036854775807) :
    FnP Try.prog 30 [aRows l] fun a => a = .tup [aEds (if gchk l = 0 then edgeL l else []), aInt (gchk l)] := by
  refine fnP_in K_grid_Edges mixed rfl (by simp [AV.pureL, aRows_pure]) ?_
  simp only [S_grid_Edges]
  simp (maxSteps := 1000000) (implicitDefEqProofs := false) (disch := omega) only [push_cast, ↓reduceIte, Nat.reduceEqDiff, reduceCtorEq, decide_true, decide_false, Bool.not_true, Bool.not_false, Option.isNone_some, Option.isNone_none, List.drop_zero, List.drop_succ_cons, List.getElem?_cons_zero, List.getElem?_cons_succ, List.length_cons, List.length_nil, List.take_succ_cons, List.take_zero, Nat.mul_one, Nat.zero_add, Nat.add_zero, Nat.one_mul, Nat.zero_mul, List.getElem?_map, List.getElem?_drop, List.getElem?_take, List.length_map, Option.map_some, List.set_cons_zero, List.set_cons_succ, and_true, true_and, List.flatMap_cons, List.flatMap_nil, Bool.not_not]
  refine wpa_call (grid_Check_a l hl hl2) ?_
  rintro a rfl
  by_cases h0 : gchk l = 0
  · obtain ⟨hll, hok⟩ := gchk_ok h0
    have hlr : ∀ r ∈ l, r.length ≤ 100 := fun r hr => (hok r hr).len
    rw [if_pos h0]
    simp (maxSteps := 1000000) (implicitDefEqProofs := false) (disch := omega) only [push_cast, ↓reduceIte, Nat.reduceEqDiff, reduceCtorEq, decide_true, decide_false, Bool.not_true, Bool.not_false, Option.isNone_some, Option.isNone_none, List.drop_zero, List.drop_succ_cons, List.getElem?_cons_zero, List.getElem?_cons_succ, List.length_cons, List.length_nil, List.take_succ_cons, List.take_zero, Nat.mul_one, Nat.zero_add, Nat.add_zero, Nat.one_mul, Nat.zero_mul, List.getElem?_map, List.getElem?_drop, List.getElem?_take, List.length_map, Option.map_some, List.set_cons_zero, List.set_cons_succ, and_true, true_and, List.flatMap_cons, List.flatMap_nil, Bool.not_not, aInt, h0, aRows, aSl]
    refine wpa_blgx (GU.tok 5 2 rfl) (α := Nat) (I := fun n ε σ => (ε 0 = .sl l.length (l.map aRow) .none ∧ ε 17 = .sl l.length (l.map aRow) .none ∧ ε 18 = .v (.int .i64 l.length) ∧ ε 19 = .v (.int .i64 n)) ∧ n ≤ l.length ∧
        ∃ w, ε 5 = .sl (gEd l n).length ((gEd l n).flatMap aEd) (.id 0 w 2) ∧ σ[0]? = some (.tail w))
      (μ := fun n => l.length - n) (Q := fun ε σ => ∃ w, ε 5 = .sl (edgeL l).length ((edgeL l).flatMap aEd) (.id 0 w 2)) (x := 0) ?_ ?_ ?_
    · simp (maxSteps := 1000000) (implicitDefEqProofs := false) (disch := omega) only [push_cast, ↓reduceIte, Nat.reduceEqDiff, reduceCtorEq, decide_true, decide_false, Bool.not_true, Bool.not_false, Option.isNone_some, Option.isNone_none, List.drop_zero, List.drop_succ_cons, List.getElem?_cons_zero, List.getElem?_cons_succ, List.length_cons, List.length_nil, List.take_succ_cons, List.take_zero, Nat.mul_one, Nat.zero_add, Nat.add_zero, Nat.one_mul, Nat.zero_mul, List.getElem?_map, List.getElem?_drop, List.getElem?_take, List.length_map, Option.map_some, List.set_cons_zero, List.set_cons_succ, and_true, true_and, List.flatMap_cons, List.flatMap_nil, Bool.not_not]
      exact ⟨by omega, 0, rfl, rfl⟩
    · rintro n ε σ N E X R ⟨hρ, hn, w, h5, ht⟩ hN hE
      simp only [S_grid_Edges_L1]
      by_cases hlt : n < l.length
      · obtain ⟨r, hr⟩ := at_lt hlt
        have hrok := hok r (List.mem_of_getElem? hr)
        have hr100 := hrok.len
        have hgr : l.getD n [] = r := by rw [List.getD_eq_getElem?_getD, hr]; rfl
        generalize hq : l.getD (n - 1) [] = q
        have hqq : 0 < n → l[n - 1]? = some q := by
          intro h
          obtain ⟨q', hq'⟩ := at_lt (l := l) (k := n - 1) (by omega)
          rw [← hq, List.getD_eq_getElem?_getD, hq']; rfl
        have hqm : q ∈ l ∨ q = [] := by
          rw [← hq, List.getD_eq_getElem?_getD]
          cases hx : l[n - 1]? with
          | none => exact .inr rfl
          | some q' => exact .inl (List.mem_of_getElem? hx)
        have hql : q.length ≤ 100 := by rcases hqm with h | h; exact hlr q h; rw [h]; simp
        have hqb : ∀ c ∈ q, 0 ≤ c.st ∧ c.st ≤ 1048575 := by rcases hqm with h | h; exact (hok q h).bd; rw [h]; intro c hc; cases hc
        have hgl := gEd_len hlr n
        simp (maxSteps := 1000000) (implicitDefEqProofs := false) (disch := omega) only [push_cast, ↓reduceIte, Nat.reduceEqDiff, reduceCtorEq, decide_true, decide_false, Bool.not_true, Bool.not_false, Option.isNone_some, Option.isNone_none, List.drop_zero, List.drop_succ_cons, List.getElem?_cons_zero, List.getElem?_cons_succ, List.length_cons, List.length_nil, List.take_succ_cons, List.take_zero, Nat.mul_one, Nat.zero_add, Nat.add_zero, Nat.one_mul, Nat.zero_mul, List.getElem?_map, List.getElem?_drop, List.getElem?_take, List.length_map, Option.map_some, List.set_cons_zero, List.set_cons_succ, and_true, true_and, List.flatMap_cons, List.flatMap_nil, Bool.not_not, hρ, hr, aRow, aSlN]
        refine wpa_blx (α := Nat) (I := fun k ε σ => (ε 0 = .sl l.length (l.map aRow) .none ∧ ε 17 = .sl l.length (l.map aRow) .none ∧ ε 18 = .v (.int .i64 l.length) ∧ ε 19 = .v (.int .i64 n) ∧ ε 6 = .v (.int .i64 n) ∧
            ε 24 = .sl r.length (r.flatMap aCC) .none ∧ ε 25 = .v (.int .i64 r.length) ∧ ε 26 = .v (.int .i64 k)) ∧ k ≤ r.length ∧
            ∃ w, ε 5 = .sl (gEd l n ++ rowEd n q r k).length ((gEd l n ++ rowEd n q r k).flatMap aEd) (.id 0 w 2) ∧ σ[0]? = some (.tail w))
          (μ := fun k => r.length - k) (Q := fun ε σ => (ε 0 = .sl l.length (l.map aRow) .none ∧ ε 17 = .sl l.length (l.map aRow) .none ∧ ε 18 = .v (.int .i64 l.length) ∧ ε 19 = .v (.int .i64 n)) ∧
            ∃ w, ε 5 = .sl (gEd l (n + 1)).length ((gEd l (n + 1)).flatMap aEd) (.id 0 w 2) ∧ σ[0]? = some (.tail w)) (x := 0) ?_ ?_ ?_
        · simp (maxSteps := 1000000) (implicitDefEqProofs := false) (disch := omega) only [push_cast, ↓reduceIte, Nat.reduceEqDiff, reduceCtorEq, decide_true, decide_false, Bool.not_true, Bool.not_false, Option.isNone_some, Option.isNone_none, List.drop_zero, List.drop_succ_cons, List.getElem?_cons_zero, List.getElem?_cons_succ, List.length_cons, List.length_nil, List.take_succ_cons, List.take_zero, Nat.mul_one, Nat.zero_add, Nat.add_zero, Nat.one_mul, Nat.zero_mul, List.getElem?_map, List.getElem?_drop, List.getElem?_take, List.length_map, Option.map_some, List.set_cons_zero, List.set_cons_succ, and_true, true_and, List.flatMap_cons, List.flatMap_nil, Bool.not_not, hρ, h5]
          refine ⟨by omega, w, by simp [rowEd], ht⟩
        · rintro k ε σ N' E' X' R' ⟨hρ, hk, w, h5, ht⟩ hN' hE'
          simp only [S_grid_Edges_L2]
          by_cases hkl : k < r.length
          · obtain ⟨c, hc⟩ := at_lt hkl
            have hcb := hrok.bd c (List.mem_of_getElem? hc)
            have hgc : r.getD k nc = c := by rw [List.getD_eq_getElem?_getD, hc]; rfl
            have hdc := flat_drop aCC_len hc
            have hcl : ∀ m : List AV, cellsA (some 2) (aCC c ++ m) = some (.agg (aCC c)) := fun m => by rw [cellsA_n _ _ (by simp [aCC_len])]; rfl
            have hrl := rowEd_len n q r k
            have hps := cellP_ok (i := n) (k := k) (by omega) hqb hrok.bd
            have hpl := cellP_len n k q r
            simp (maxSteps := 1000000) (implicitDefEqProofs := false) (disch := omega) only [push_cast, ↓reduceIte, Nat.reduceEqDiff, reduceCtorEq, decide_true, decide_false, Bool.not_true, Bool.not_false, Option.isNone_some, Option.isNone_none, List.drop_zero, List.drop_succ_cons, List.getElem?_cons_zero, List.getElem?_cons_succ, List.length_cons, List.length_nil, List.take_succ_cons, List.take_zero, Nat.mul_one, Nat.zero_add, Nat.add_zero, Nat.one_mul, Nat.zero_mul, List.getElem?_map, List.getElem?_drop, List.getElem?_take, List.length_map, Option.map_some, List.set_cons_zero, List.set_cons_succ, and_true, true_and, List.flatMap_cons, List.flatMap_nil, Bool.not_not, hρ, hdc, hcl]
            refine wpa_new ?_
            simp (maxSteps := 1000000) (implicitDefEqProofs := false) (disch := omega) only [push_cast, ↓reduceIte, Nat.reduceEqDiff, reduceCtorEq, decide_true, decide_false, Bool.not_true, Bool.not_false, Option.isNone_some, Option.isNone_none, List.drop_zero, List.drop_succ_cons, List.getElem?_cons_zero, List.getElem?_cons_succ, List.length_cons, List.length_nil, List.take_succ_cons, List.take_zero, Nat.mul_one, Nat.zero_add, Nat.add_zero, Nat.one_mul, Nat.zero_mul, List.getElem?_map, List.getElem?_drop, List.getElem?_take, List.length_map, Option.map_some, List.set_cons_zero, List.set_cons_succ, and_true, true_and, List.flatMap_cons, List.flatMap_nil, Bool.not_not]
            refine wpa_stn (aCC_len c) (by rfl) (at_snoc _ _) (by simp) ?_
            have hset : setAtA [AV.v (.int .i64 0), AV.v (.bool false)] 0 (aCC c) = aCC c := rfl
            have ht1 : (σ ++ [Res.obj 0 (aCC c)])[0]? = some (.tail w) := get_app ht
            have hb1 : (σ ++ [Res.obj 0 (aCC c)])[σ.length]? = some (.obj 0 (aCC c)) := at_snoc _ _
            have hl0 := lt_at ht
            simp (maxSteps := 1000000) (implicitDefEqProofs := false) (disch := omega) only [push_cast, ↓reduceIte, Nat.reduceEqDiff, reduceCtorEq, decide_true, decide_false, Bool.not_true, Bool.not_false, Option.isNone_some, Option.isNone_none, List.drop_zero, List.drop_succ_cons, List.getElem?_cons_zero, List.getElem?_cons_succ, List.length_cons, List.length_nil, List.take_succ_cons, List.take_zero, Nat.mul_one, Nat.zero_add, Nat.add_zero, Nat.one_mul, Nat.zero_mul, List.getElem?_map, List.getElem?_drop, List.getElem?_take, List.length_map, Option.map_some, List.set_cons_zero, List.set_cons_succ, and_true, true_and, List.flatMap_cons, List.flatMap_nil, Bool.not_not, hset, hρ, h5]
            generalize hS : σ ++ [Res.obj 0 (aCC c)] = S at ht1 hb1 ⊢
            generalize hb : σ.length = b at hb1 hl0 ⊢
            clear hS hb
            refine wpa_callw [] [false, false, false] (grid_into_a l n k q r c hll hr hc hqq hrok.len hql hqb hrok.bd) (by simp [weak, aRows, aSl, aInt]) ?_
            rintro a rfl
            rw [fzn]
            have hce : cellEd n q r k = (cellP n q r k).map fun p => (p, ((n : Int), c.st)) := by unfold cellEd; rw [hgc]
            generalize hps2 : cellP n q r k = ps at hps hpl hce
            simp (maxSteps := 1000000) (implicitDefEqProofs := false) (disch := omega) only [push_cast, ↓reduceIte, Nat.reduceEqDiff, reduceCtorEq, decide_true, decide_false, Bool.not_true, Bool.not_false, Option.isNone_some, Option.isNone_none, List.drop_zero, List.drop_succ_cons, List.getElem?_cons_zero, List.getElem?_cons_succ, List.length_cons, List.length_nil, List.take_succ_cons, List.take_zero, Nat.mul_one, Nat.zero_add, Nat.add_zero, Nat.one_mul, Nat.zero_mul, List.getElem?_map, List.getElem?_drop, List.getElem?_take, List.length_map, Option.map_some, List.set_cons_zero, List.set_cons_succ, and_true, true_and, List.flatMap_cons, List.flatMap_nil, Bool.not_not, hρ, aNs, aSl]
            refine wpa_blx (α := Nat) (I := fun m ε σ => (ε 0 = .sl l.length (l.map aRow) .none ∧ ε 17 = .sl l.length (l.map aRow) .none ∧ ε 18 = .v (.int .i64 l.length) ∧ ε 19 = .v (.int .i64 n) ∧ ε 6 = .v (.int .i64 n) ∧
                ε 24 = .sl r.length (r.flatMap aCC) .none ∧ ε 25 = .v (.int .i64 r.length) ∧ ε 26 = .v (.int .i64 k) ∧ ε 9 = .ref b 0 0 ∧ ε 34 = .sl ps.length (ps.map aN) .none ∧ ε 35 = .v (.int .i64 ps.length) ∧ ε 36 = .v (.int .i64 m)) ∧ m ≤ ps.length ∧ σ[b]? = some (.obj 0 (aCC c)) ∧
                ∃ w, ε 5 = .sl ((gEd l n ++ rowEd n q r k) ++ (ps.take m).map fun p => (p, ((n : Int), c.st))).length (((gEd l n ++ rowEd n q r k) ++ (ps.take m).map fun p => (p, ((n : Int), c.st))).flatMap aEd) (.id 0 w 2) ∧ σ[0]? = some (.tail w))
              (μ := fun m => ps.length - m) (Q := fun ε σ => (ε 0 = .sl l.length (l.map aRow) .none ∧ ε 17 = .sl l.length (l.map aRow) .none ∧ ε 18 = .v (.int .i64 l.length) ∧ ε 19 = .v (.int .i64 n) ∧ ε 6 = .v (.int .i64 n) ∧
                ε 24 = .sl r.length (r.flatMap aCC) .none ∧ ε 25 = .v (.int .i64 r.length) ∧ ε 26 = .v (.int .i64 k)) ∧
                ∃ w, ε 5 = .sl (gEd l n ++ rowEd n q r (k + 1)).length ((gEd l n ++ rowEd n q r (k + 1)).flatMap aEd) (.id 0 w 2) ∧ σ[0]? = some (.tail w)) (x := 0) ?_ ?_ ?_
            · simp (maxSteps := 1000000) (implicitDefEqProofs := false) (disch := omega) only [push_cast, ↓reduceIte, Nat.reduceEqDiff, reduceCtorEq, decide_true, decide_false, Bool.not_true, Bool.not_false, Option.isNone_some, Option.isNone_none, List.drop_zero, List.drop_succ_cons, List.getElem?_cons_zero, List.getElem?_cons_succ, List.length_cons, List.length_nil, List.take_succ_cons, List.take_zero, Nat.mul_one, Nat.zero_add, Nat.add_zero, Nat.one_mul, Nat.zero_mul, List.getElem?_map, List.getElem?_drop, List.getElem?_take, List.length_map, Option.map_some, List.set_cons_zero, List.set_cons_succ, and_true, true_and, List.flatMap_cons, List.flatMap_nil, Bool.not_not, hρ, h5]
              exact ⟨by omega, hb1, w, by simp, ht1⟩
            · rintro m ε σ N2 E2 X2 R2 ⟨hρ, hm, hs, w, h5, ht⟩ hN2 hE2
              simp only [S_grid_Edges_L3]
              by_cases hml : m < ps.length
              · obtain ⟨p, hp⟩ := at_lt hml
                have hpo := hps p (List.mem_of_getElem? hp)
                have f0 : (aCC c)[0]? = some (.v (.int .i64 c.st)) := rfl
                simp (maxSteps := 1000000) (implicitDefEqProofs := false) (disch := omega) only [push_cast, ↓reduceIte, Nat.reduceEqDiff, reduceCtorEq, decide_true, decide_false, Bool.not_true, Bool.not_false, Option.isNone_some, Option.isNone_none, List.drop_zero, List.drop_succ_cons, List.getElem?_cons_zero, List.getElem?_cons_succ, List.length_cons, List.length_nil, List.take_succ_cons, List.take_zero, Nat.mul_one, Nat.zero_add, Nat.add_zero, Nat.one_mul, Nat.zero_mul, List.getElem?_map, List.getElem?_drop, List.getElem?_take, List.length_map, Option.map_some, List.set_cons_zero, List.set_cons_succ, and_true, true_and, List.flatMap_cons, List.flatMap_nil, Bool.not_not, hρ, hp, hs, f0]
                refine wpa_call (grid_Node_a _ _) ?_
                rintro a rfl
                have e3 : heldI (n : Int) = n := heldI_id ⟨by omega, by omega⟩
                have e4 : heldI c.st = c.st := heldI_id ⟨by omega, by omega⟩
                rw [e3, e4]
                have hf : fillA [AV.v (.complex .f64 0 0), AV.v (.complex .f64 0 0)] [(0, 1), (1, 1)] [aN p, aN ((n : Int), c.st)] = some (aEd (p, ((n : Int), c.st))) := by simp [fillA, AV.cells, Value.cells, setAtA, aEd, aN, vN]
                simp (maxSteps := 1000000) (implicitDefEqProofs := false) (disch := omega) only [push_cast, ↓reduceIte, Nat.reduceEqDiff, reduceCtorEq, decide_true, decide_false, Bool.not_true, Bool.not_false, Option.isNone_some, Option.isNone_none, List.drop_zero, List.drop_succ_cons, List.getElem?_cons_zero, List.getElem?_cons_succ, List.length_cons, List.length_nil, List.take_succ_cons, List.take_zero, Nat.mul_one, Nat.zero_add, Nat.add_zero, Nat.one_mul, Nat.zero_mul, List.getElem?_map, List.getElem?_drop, List.getElem?_take, List.length_map, Option.map_some, List.set_cons_zero, List.set_cons_succ, and_true, true_and, List.flatMap_cons, List.flatMap_nil, Bool.not_not, hf]
                refine wpa_bsl (sz := 2) (by intro a ha; simp at ha; subst ha; rfl) (by simp) ?_
                have hcc : (AV.agg (aEd (p, ((n : Int), c.st)))).cells = aEd (p, ((n : Int), c.st)) := rfl
                simp (maxSteps := 1000000) (implicitDefEqProofs := false) (disch := omega) only [push_cast, ↓reduceIte, Nat.reduceEqDiff, reduceCtorEq, decide_true, decide_false, Bool.not_true, Bool.not_false, Option.isNone_some, Option.isNone_none, List.drop_zero, List.drop_succ_cons, List.getElem?_cons_zero, List.getElem?_cons_succ, List.length_cons, List.length_nil, List.take_succ_cons, List.take_zero, Nat.mul_one, Nat.zero_add, Nat.add_zero, Nat.one_mul, Nat.zero_mul, List.getElem?_map, List.getElem?_drop, List.getElem?_take, List.length_map, Option.map_some, List.set_cons_zero, List.set_cons_succ, and_true, true_and, List.flatMap_cons, List.flatMap_nil, Bool.not_not, hcc, hρ, h5]
                have hlen : ((gEd l n ++ rowEd n q r k) ++ (ps.take m).map fun p => (p, ((n : Int), c.st))).length ≤ 100000 := by
                  rw [List.length_append, List.length_append, List.length_map, List.length_take]
                  have := hrok.len
                  omega
                refine wpa_app rfl rfl (by simp [aEd_len]) (aEd_one _) (flat_len aEd_len _) (by omega) (by omega) ht ?_
                simp (maxSteps := 1000000) (implicitDefEqProofs := false) (disch := omega) only [push_cast, ↓reduceIte, Nat.reduceEqDiff, reduceCtorEq, decide_true, decide_false, Bool.not_true, Bool.not_false, Option.isNone_some, Option.isNone_none, List.drop_zero, List.drop_succ_cons, List.getElem?_cons_zero, List.getElem?_cons_succ, List.length_cons, List.length_nil, List.take_succ_cons, List.take_zero, Nat.mul_one, Nat.zero_add, Nat.add_zero, Nat.one_mul, Nat.zero_mul, List.getElem?_map, List.getElem?_drop, List.getElem?_take, List.length_map, Option.map_some, List.set_cons_zero, List.set_cons_succ, and_true, true_and, List.flatMap_cons, List.flatMap_nil, Bool.not_not, hρ]
                refine hN2 (m + 1) _ _ ?_ (by omega)
                have hne : b ≠ 0 := by omega
                simp (maxSteps := 1000000) (implicitDefEqProofs := false) (disch := omega) only [push_cast, ↓reduceIte, Nat.reduceEqDiff, reduceCtorEq, decide_true, decide_false, Bool.not_true, Bool.not_false, Option.isNone_some, Option.isNone_none, List.drop_zero, List.drop_succ_cons, List.getElem?_cons_zero, List.getElem?_cons_succ, List.length_cons, List.length_nil, List.take_succ_cons, List.take_zero, Nat.mul_one, Nat.zero_add, Nat.add_zero, Nat.one_mul, Nat.zero_mul, List.getElem?_map, List.getElem?_drop, List.getElem?_take, List.length_map, Option.map_some, List.set_cons_zero, List.set_cons_succ, and_true, true_and, List.flatMap_cons, List.flatMap_nil, Bool.not_not, hρ]
                refine ⟨by omega, get_set_ne (by omega) hs, w + 1, ?_, get_set_eq ht⟩
                rw [take_succ_at hp, List.map_append, List.map_singleton]
                exact app_step _ _ _ _
              · simp (maxSteps := 1000000) (implicitDefEqProofs := false) (disch := omega) only [push_cast, ↓reduceIte, Nat.reduceEqDiff, reduceCtorEq, decide_true, decide_false, Bool.not_true, Bool.not_false, Option.isNone_some, Option.isNone_none, List.drop_zero, List.drop_succ_cons, List.getElem?_cons_zero, List.getElem?_cons_succ, List.length_cons, List.length_nil, List.take_succ_cons, List.take_zero, Nat.mul_one, Nat.zero_add, Nat.add_zero, Nat.one_mul, Nat.zero_mul, List.getElem?_map, List.getElem?_drop, List.getElem?_take, List.length_map, Option.map_some, List.set_cons_zero, List.set_cons_succ, and_true, true_and, List.flatMap_cons, List.flatMap_nil, Bool.not_not, hρ]
                refine hE2 _ _ ?_
                rw [List.take_of_length_le (by omega), ← hce, List.append_assoc, ← rowEd_succ] at h5
                simp (maxSteps := 1000000) (implicitDefEqProofs := false) (disch := omega) only [push_cast, ↓reduceIte, Nat.reduceEqDiff, reduceCtorEq, decide_true, decide_false, Bool.not_true, Bool.not_false, Option.isNone_some, Option.isNone_none, List.drop_zero, List.drop_succ_cons, List.getElem?_cons_zero, List.getElem?_cons_succ, List.length_cons, List.length_nil, List.take_succ_cons, List.take_zero, Nat.mul_one, Nat.zero_add, Nat.add_zero, Nat.one_mul, Nat.zero_mul, List.getElem?_map, List.getElem?_drop, List.getElem?_take, List.length_map, Option.map_some, List.set_cons_zero, List.set_cons_succ, and_true, true_and, List.flatMap_cons, List.flatMap_nil, Bool.not_not, hρ]
                exact ⟨w, h5, ht⟩
            · rintro ε σ ⟨hρ, w, h5, ht⟩
              simp (maxSteps := 1000000) (implicitDefEqProofs := false) (disch := omega) only [push_cast, ↓reduceIte, Nat.reduceEqDiff, reduceCtorEq, decide_true, decide_false, Bool.not_true, Bool.not_false, Option.isNone_some, Option.isNone_none, List.drop_zero, List.drop_succ_cons, List.getElem?_cons_zero, List.getElem?_cons_succ, List.length_cons, List.length_nil, List.take_succ_cons, List.take_zero, Nat.mul_one, Nat.zero_add, Nat.add_zero, Nat.one_mul, Nat.zero_mul, List.getElem?_map, List.getElem?_drop, List.getElem?_take, List.length_map, Option.map_some, List.set_cons_zero, List.set_cons_succ, and_true, true_and, List.flatMap_cons, List.flatMap_nil, Bool.not_not, hρ]
              refine hN' (k + 1) _ _ ?_ (by omega)
              simp (maxSteps := 1000000) (implicitDefEqProofs := false) (disch := omega) only [push_cast, ↓reduceIte, Nat.reduceEqDiff, reduceCtorEq, decide_true, decide_false, Bool.not_true, Bool.not_false, Option.isNone_some, Option.isNone_none, List.drop_zero, List.drop_succ_cons, List.getElem?_cons_zero, List.getElem?_cons_succ, List.length_cons, List.length_nil, List.take_succ_cons, List.take_zero, Nat.mul_one, Nat.zero_add, Nat.add_zero, Nat.one_mul, Nat.zero_mul, List.getElem?_map, List.getElem?_drop, List.getElem?_take, List.length_map, Option.map_some, List.set_cons_zero, List.set_cons_succ, and_true, true_and, List.flatMap_cons, List.flatMap_nil, Bool.not_not, hρ]
              exact ⟨by omega, w, h5, ht⟩
          · simp (maxSteps := 1000000) (implicitDefEqProofs := false) (disch := omega) only [push_cast, ↓reduceIte, Nat.reduceEqDiff, reduceCtorEq, decide_true, decide_false, Bool.not_true, Bool.not_false, Option.isNone_some, Option.isNone_none, List.drop_zero, List.drop_succ_cons, List.getElem?_cons_zero, List.getElem?_cons_succ, List.length_cons, List.length_nil, List.take_succ_cons, List.take_zero, Nat.mul_one, Nat.zero_add, Nat.add_zero, Nat.one_mul, Nat.zero_mul, List.getElem?_map, List.getElem?_drop, List.getElem?_take, List.length_map, Option.map_some, List.set_cons_zero, List.set_cons_succ, and_true, true_and, List.flatMap_cons, List.flatMap_nil, Bool.not_not, hρ]
            refine hE' _ _ ?_
            have hkr : k = r.length := by omega
            subst hkr
            have hgs : gEd l n ++ rowEd n q r r.length = gEd l (n + 1) := by rw [gEd_succ, hgr, hq]
            rw [hgs] at h5
            simp (maxSteps := 1000000) (implicitDefEqProofs := false) (disch := omega) only [push_cast, ↓reduceIte, Nat.reduceEqDiff, reduceCtorEq, decide_true, decide_false, Bool.not_true, Bool.not_false, Option.isNone_some, Option.isNone_none, List.drop_zero, List.drop_succ_cons, List.getElem?_cons_zero, List.getElem?_cons_succ, List.length_cons, List.length_nil, List.take_succ_cons, List.take_zero, Nat.mul_one, Nat.zero_add, Nat.add_zero, Nat.one_mul, Nat.zero_mul, List.getElem?_map, List.getElem?_drop, List.getElem?_take, List.length_map, Option.map_some, List.set_cons_zero, List.set_cons_succ, and_true, true_and, List.flatMap_cons, List.flatMap_nil, Bool.not_not, hρ]
            exact ⟨w, h5, ht⟩
        · rintro ε σ ⟨hρ, w, h5, ht⟩
          simp (maxSteps := 1000000) (implicitDefEqProofs := false) (disch := omega) only [push_cast, ↓reduceIte, Nat.reduceEqDiff, reduceCtorEq, decide_true, decide_false, Bool.not_true, Bool.not_false, Option.isNone_some, Option.isNone_none, List.drop_zero, List.drop_succ_cons, List.getElem?_cons_zero, List.getElem?_cons_succ, List.length_cons, List.length_nil, List.take_succ_cons, List.take_zero, Nat.mul_one, Nat.zero_add, Nat.add_zero, Nat.one_mul, Nat.zero_mul, List.getElem?_map, List.getElem?_drop, List.getElem?_take, List.length_map, Option.map_some, List.set_cons_zero, List.set_cons_succ, and_true, true_and, List.flatMap_cons, List.flatMap_nil, Bool.not_not, hρ]
          refine hN (n + 1) _ _ ?_ (by omega)
          simp (maxSteps := 1000000) (implicitDefEqProofs := false) (disch := omega) only [push_cast, ↓reduceIte, Nat.reduceEqDiff, reduceCtorEq, decide_true, decide_false, Bool.not_true, Bool.not_false, Option.isNone_some, Option.isNone_none, List.drop_zero, List.drop_succ_cons, List.getElem?_cons_zero, List.getElem?_cons_succ, List.length_cons, List.length_nil, List.take_succ_cons, List.take_zero, Nat.mul_one, Nat.zero_add, Nat.add_zero, Nat.one_mul, Nat.zero_mul, List.getElem?_map, List.getElem?_drop, List.getElem?_take, List.length_map, Option.map_some, List.set_cons_zero, List.set_cons_succ, and_true, true_and, List.flatMap_cons, List.flatMap_nil, Bool.not_not, hρ]
          exact ⟨by omega, w, h5, ht⟩
      · simp (maxSteps := 1000000) (implicitDefEqProofs := false) (disch := omega) only [push_cast, ↓reduceIte, Nat.reduceEqDiff, reduceCtorEq, decide_true, decide_false, Bool.not_true, Bool.not_false, Option.isNone_some, Option.isNone_none, List.drop_zero, List.drop_succ_cons, List.getElem?_cons_zero, List.getElem?_cons_succ, List.length_cons, List.length_nil, List.take_succ_cons, List.take_zero, Nat.mul_one, Nat.zero_add, Nat.add_zero, Nat.one_mul, Nat.zero_mul, List.getElem?_map, List.getElem?_drop, List.getElem?_take, List.length_map, Option.map_some, List.set_cons_zero, List.set_cons_succ, and_true, true_and, List.flatMap_cons, List.flatMap_nil, Bool.not_not, hρ]
        refine hE _ _ ⟨w, ?_⟩
        have : n = l.length := by omega
        subst this
        simp (maxSteps := 1000000) (implicitDefEqProofs := false) (disch := omega) only [push_cast, ↓reduceIte, Nat.reduceEqDiff, reduceCtorEq, decide_true, decide_false, Bool.not_true, Bool.not_false, Option.isNone_some, Option.isNone_none, List.drop_zero, List.drop_succ_cons, List.getElem?_cons_zero, List.getElem?_cons_succ, List.length_cons, List.length_nil, List.take_succ_cons, List.take_zero, Nat.mul_one, Nat.zero_add, Nat.add_zero, Nat.one_mul, Nat.zero_mul, List.getElem?_map, List.getElem?_drop, List.getElem?_take, List.length_map, Option.map_some, List.set_cons_zero, List.set_cons_succ, and_true, true_and, List.flatMap_cons, List.flatMap_nil, Bool.not_not]
        exact h5
    · rintro ε σ ⟨w, h5⟩
      simp (maxSteps := 1000000) (implicitDefEqProofs := false) (disch := omega) only [push_cast, ↓reduceIte, Nat.reduceEqDiff, reduceCtorEq, decide_true, decide_false, Bool.not_true, Bool.not_false, Option.isNone_some, Option.isNone_none, List.drop_zero, List.drop_succ_cons, List.getElem?_cons_zero, List.getElem?_cons_succ, List.length_cons, List.length_nil, List.take_succ_cons, List.take_zero, Nat.mul_one, Nat.zero_add, Nat.add_zero, Nat.one_mul, Nat.zero_mul, List.getElem?_map, List.getElem?_drop, List.getElem?_take, List.length_map, Option.map_some, List.set_cons_zero, List.set_cons_succ, and_true, true_and, List.flatMap_cons, List.flatMap_nil, Bool.not_not, h5]
      exact fin_tup2 [] (aEds_res _ _ _) (res_v _ _) (aEds_pure _) rfl rfl
  · rw [if_neg h0]
    simp (maxSteps := 1000000) (implicitDefEqProofs := false) (disch := omega) only [push_cast, ↓reduceIte, Nat.reduceEqDiff, reduceCtorEq, decide_true, decide_false, Bool.not_true, Bool.not_false, Option.isNone_some, Option.isNone_none, List.drop_zero, List.drop_succ_cons, List.getElem?_cons_zero, List.getElem?_cons_succ, List.length_cons, List.length_nil, List.take_succ_cons, List.take_zero, Nat.mul_one, Nat.zero_add, Nat.add_zero, Nat.one_mul, Nat.zero_mul, List.getElem?_map, List.getElem?_drop, List.getElem?_take, List.length_map, Option.map_some, List.set_cons_zero, List.set_cons_succ, and_true, true_and, List.flatMap_cons, List.flatMap_nil, Bool.not_not, aInt, h0]
    exact fin_tup2 [] (aEds_res _ [] _) (res_v _ _) (aEds_pure _) rfl rfl
end Go.Proofs.Ytilofhocodbknaa
