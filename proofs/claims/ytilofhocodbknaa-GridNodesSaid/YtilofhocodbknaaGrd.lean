/- Contracts on annotated values: grid.into, Edges. -/
import Derived.Test.YtilofhocodbknaaGrc
namespace Go.Proofs.Ytilofhocodbknaa
set_option linter.unusedVariables false
set_option linter.unusedSimpArgs false
open Go Go.Kx Go.Proofs

def lastLE (r : List CC) (s : Int) : Int := r.foldl (fun l d => if d.st ≤ s then d.st else l) 0
theorem lastLE_snoc (r : List CC) (d : CC) (s : Int) : lastLE (r ++ [d]) s = if d.st ≤ s then d.st else lastLE r s := by simp [lastLE]
theorem lastLE_ok {r : List CC} (h : ∀ c ∈ r, 0 ≤ c.st ∧ c.st ≤ 1048575) (s : Int) : 0 ≤ lastLE r s ∧ lastLE r s ≤ 1048575 := by
  induction r using snoc_ind with
  | h0 => simp [lastLE]
  | hs r d ih =>
    rw [lastLE_snoc]
    have h1 := h d (by simp)
    have h2 := ih fun c hc => h c (by simp [hc])
    split <;> omega
def nc : CC := ⟨0, false⟩
/-- The nodes that lead to a cell of the row r, behind the row q. -/
def cellP (i : Nat) (q r : List CC) (k : Nat) : List (Int × Int) :=
  (if k = 0 then [] else [((i : Int), (r.getD (k - 1) nc).st)]) ++
    (if i = 0 then [] else if k = 0 then [((i : Int) - 1, 0)] else if (r.getD k nc).wt = true then [((i : Int) - 1, lastLE q (r.getD k nc).st)] else [])
theorem cellP_ok {i k : Nat} {q r : List CC} (hi : i ≤ 100) (hq : ∀ c ∈ q, 0 ≤ c.st ∧ c.st ≤ 1048575) (hr : ∀ c ∈ r, 0 ≤ c.st ∧ c.st ≤ 1048575) : ∀ p ∈ cellP i q r k, okP p := by
  intro p hp
  unfold cellP at hp
  rcases List.mem_append.1 hp with h | h
  · split at h
    · cases h
    · rw [List.mem_singleton] at h
      subst h
      refine ⟨⟨by simp only; omega, by simp only; omega⟩, ?_⟩
      rw [List.getD_eq_getElem?_getD]
      cases hx : r[k - 1]? with
      | none => exact ⟨by simp [nc], by simp [nc]⟩
      | some c => have := hr c (List.mem_of_getElem? hx); exact ⟨by simp; omega, by simp; omega⟩
  · split at h
    · cases h
    · split at h
      · rw [List.mem_singleton] at h
        subst h
        exact ⟨⟨by simp only; omega, by simp only; omega⟩, by simp [okN]⟩
      · split at h
        · rw [List.mem_singleton] at h
          subst h
          have := lastLE_ok hq (r.getD k nc).st
          exact ⟨⟨by simp only; omega, by simp only; omega⟩, ⟨this.1, by simp only; omega⟩⟩
        · cases h
def aNs (l : List (Int × Int)) : AV := aSl aN l
theorem aN_res (σ : St) (p : Int × Int) : (aN p).res σ = aN p := by simp [aN, AV.res]
theorem aN_pure (p : Int × Int) : (aN p).pure = true := by simp [aN, AV.pure]
theorem aNs_pure (l : List (Int × Int)) : (aNs l).pure = true := aSl_pure aN_pure l
theorem aNs_res (σ : St) (l : List (Int × Int)) (t : Tok) : (AV.sl l.length (l.map aN) t).res σ = aNs l := aSl_res (aN_res σ) l t

set_option maxHeartbeats 2000000 in
theorem grid_into_a (l : List (List CC)) (i k : Nat) (q r : List CC) (c : CC) (hl : l.length ≤ 100) (hr : l[i]? = some r) (hc : r[k]? = some c) (hq : 0 < i → l[i - 1]? = some q) (hrl : r.length ≤ 100) (hql : q.length ≤ 100)
    (hqb : ∀ c ∈ q, 0 ≤ c.st ∧ c.st ≤ 1048575) (hrb : ∀ c ∈ r, 0 ≤ c.st ∧ c.st ≤ 1048575) :
    FnP Try.prog 90 [aRows l, aInt i, aInt k] fun a => a = aNs (cellP i q r k) := by
  have hil := lt_at hr
  have hkl := lt_at hc
  have hgd : r.getD k nc = c := by rw [List.getD_eq_getElem?_getD, hc]; rfl
  have hcb := hrb c (List.mem_of_getElem? hc)
  refine fnP_in K_grid_into mixed rfl (by simp [AV.pureL, aRows_pure, aInt_pure]) ?_
  simp only [S_grid_into, aRows, aSl, aInt]
  have hd := flat_drop aCC_len hc
  have hcl : ∀ (c : CC) (m : List AV), cellsA (some 2) (aCC c ++ m) = some (.agg (aCC c)) := fun c m => by rw [cellsA_n _ _ (by simp [aCC_len])]; rfl
  simp (maxSteps := 1000000) (implicitDefEqProofs := false) (disch := omega) only [push_cast, ↓reduceIte, Nat.reduceEqDiff, reduceCtorEq, decide_true, decide_false, Bool.not_true, Bool.not_false, Option.isNone_some, Option.isNone_none, List.drop_zero, List.drop_succ_cons, List.getElem?_cons_zero, List.getElem?_cons_succ, List.length_cons, List.length_nil, List.take_succ_cons, List.take_zero, Nat.mul_one, Nat.zero_add, Nat.add_zero, Nat.one_mul, Nat.zero_mul, List.getElem?_map, List.getElem?_drop, List.getElem?_take, List.length_map, Option.map_some, List.set_cons_zero, List.set_cons_succ, and_true, true_and, List.flatMap_cons, List.flatMap_nil, Bool.not_not, hr, aRow, aSlN, hd, hcl]
  refine wpa_new ?_
  simp (maxSteps := 1000000) (implicitDefEqProofs := false) (disch := omega) only [push_cast, ↓reduceIte, Nat.reduceEqDiff, reduceCtorEq, decide_true, decide_false, Bool.not_true, Bool.not_false, Option.isNone_some, Option.isNone_none, List.drop_zero, List.drop_succ_cons, List.getElem?_cons_zero, List.getElem?_cons_succ, List.length_cons, List.length_nil, List.take_succ_cons, List.take_zero, Nat.mul_one, Nat.zero_add, Nat.add_zero, Nat.one_mul, Nat.zero_mul, List.getElem?_map, List.getElem?_drop, List.getElem?_take, List.length_map, Option.map_some, List.set_cons_zero, List.set_cons_succ, and_true, true_and, List.flatMap_cons, List.flatMap_nil, Bool.not_not]
  refine wpa_stn (aCC_len c) (by rfl) rfl (by simp) ?_
  have hset : setAtA [AV.v (.int .i64 0), AV.v (.bool false)] 0 (aCC c) = aCC c := rfl
  have g0 : ∀ (c : CC) (m : List AV), (aCC c ++ m)[0]? = some (.v (.int .i64 c.st)) := fun c m => rfl
  have f0 : (aCC c)[0]? = some (.v (.int .i64 c.st)) := rfl
  have f1 : (aCC c)[1]? = some (.v (.bool c.wt)) := rfl
  by_cases hk0 : k = 0
  · subst hk0
    by_cases hi0 : i = 0
    · subst hi0
      simp (maxSteps := 1000000) (implicitDefEqProofs := false) (disch := omega) only [push_cast, ↓reduceIte, Nat.reduceEqDiff, reduceCtorEq, decide_true, decide_false, Bool.not_true, Bool.not_false, Option.isNone_some, Option.isNone_none, List.drop_zero, List.drop_succ_cons, List.getElem?_cons_zero, List.getElem?_cons_succ, List.length_cons, List.length_nil, List.take_succ_cons, List.take_zero, Nat.mul_one, Nat.zero_add, Nat.add_zero, Nat.one_mul, Nat.zero_mul, List.getElem?_map, List.getElem?_drop, List.getElem?_take, List.length_map, Option.map_some, List.set_cons_zero, List.set_cons_succ, and_true, true_and, List.flatMap_cons, List.flatMap_nil, Bool.not_not, hset]
      refine fin_res [] ?_ (aNs_pure _)
      simp [AV.res, AV.resL, aNs, aSl, cellP]
    · have hi1 : ¬ ((i : Int) = 0) := by omega
      simp (maxSteps := 1000000) (implicitDefEqProofs := false) (disch := omega) only [push_cast, ↓reduceIte, Nat.reduceEqDiff, reduceCtorEq, decide_true, decide_false, Bool.not_true, Bool.not_false, Option.isNone_some, Option.isNone_none, List.drop_zero, List.drop_succ_cons, List.getElem?_cons_zero, List.getElem?_cons_succ, List.length_cons, List.length_nil, List.take_succ_cons, List.take_zero, Nat.mul_one, Nat.zero_add, Nat.add_zero, Nat.one_mul, Nat.zero_mul, List.getElem?_map, List.getElem?_drop, List.getElem?_take, List.length_map, Option.map_some, List.set_cons_zero, List.set_cons_succ, and_true, true_and, List.flatMap_cons, List.flatMap_nil, Bool.not_not, hset, hi1]
      refine wpa_call (grid_Node_a _ 0) ?_
      rintro a rfl
      have e1 : heldI ((i : Int) - 1) = (i : Int) - 1 := heldI_id ⟨by omega, by omega⟩
      have e2 : heldI 0 = 0 := rfl
      simp (maxSteps := 1000000) (implicitDefEqProofs := false) (disch := omega) only [push_cast, ↓reduceIte, Nat.reduceEqDiff, reduceCtorEq, decide_true, decide_false, Bool.not_true, Bool.not_false, Option.isNone_some, Option.isNone_none, List.drop_zero, List.drop_succ_cons, List.getElem?_cons_zero, List.getElem?_cons_succ, List.length_cons, List.length_nil, List.take_succ_cons, List.take_zero, Nat.mul_one, Nat.zero_add, Nat.add_zero, Nat.one_mul, Nat.zero_mul, List.getElem?_map, List.getElem?_drop, List.getElem?_take, List.length_map, Option.map_some, List.set_cons_zero, List.set_cons_succ, and_true, true_and, List.flatMap_cons, List.flatMap_nil, Bool.not_not, e1, e2]
      refine wpa_bsl (by simp [AV.cells, aN, vN, Value.cells]) (by simp) ?_
      simp (maxSteps := 1000000) (implicitDefEqProofs := false) (disch := omega) only [push_cast, ↓reduceIte, Nat.reduceEqDiff, reduceCtorEq, decide_true, decide_false, Bool.not_true, Bool.not_false, Option.isNone_some, Option.isNone_none, List.drop_zero, List.drop_succ_cons, List.getElem?_cons_zero, List.getElem?_cons_succ, List.length_cons, List.length_nil, List.take_succ_cons, List.take_zero, Nat.mul_one, Nat.zero_add, Nat.add_zero, Nat.one_mul, Nat.zero_mul, List.getElem?_map, List.getElem?_drop, List.getElem?_take, List.length_map, Option.map_some, List.set_cons_zero, List.set_cons_succ, and_true, true_and, List.flatMap_cons, List.flatMap_nil, Bool.not_not]
      refine wpa_app_nil rfl rfl (by simp [AV.cells, aN, vN, Value.cells]) (by rfl) (by simp) (by simp) ?_
      simp (maxSteps := 1000000) (implicitDefEqProofs := false) (disch := omega) only [push_cast, ↓reduceIte, Nat.reduceEqDiff, reduceCtorEq, decide_true, decide_false, Bool.not_true, Bool.not_false, Option.isNone_some, Option.isNone_none, List.drop_zero, List.drop_succ_cons, List.getElem?_cons_zero, List.getElem?_cons_succ, List.length_cons, List.length_nil, List.take_succ_cons, List.take_zero, Nat.mul_one, Nat.zero_add, Nat.add_zero, Nat.one_mul, Nat.zero_mul, List.getElem?_map, List.getElem?_drop, List.getElem?_take, List.length_map, Option.map_some, List.set_cons_zero, List.set_cons_succ, and_true, true_and, List.flatMap_cons, List.flatMap_nil, Bool.not_not]
      refine fin_res [] ?_ (aNs_pure _)
      have hcp : cellP i q r 0 = [((i : Int) - 1, 0)] := by simp [cellP, hi0]
      rw [hcp]
      rfl
  · have hk1 : 0 < (k : Int) := by omega
    have hk2 : ¬ ((k : Int) = 0) := by omega
    obtain ⟨p, hp⟩ := at_lt (l := r) (k := k - 1) (by omega)
    have hpb := hrb p (List.mem_of_getElem? hp)
    have hgp : r.getD (k - 1) nc = p := by rw [List.getD_eq_getElem?_getD, hp]; rfl
    have hdp := flat_drop aCC_len hp
    have hdq : (r.flatMap aCC).drop (((k : Int) - 1).toNat * 2) = aCC p ++ (r.drop (k - 1 + 1)).flatMap aCC := by rw [show ((k : Int) - 1).toNat = k - 1 by omega]; exact hdp
    simp (maxSteps := 1000000) (implicitDefEqProofs := false) (disch := omega) only [push_cast, ↓reduceIte, Nat.reduceEqDiff, reduceCtorEq, decide_true, decide_false, Bool.not_true, Bool.not_false, Option.isNone_some, Option.isNone_none, List.drop_zero, List.drop_succ_cons, List.getElem?_cons_zero, List.getElem?_cons_succ, List.length_cons, List.length_nil, List.take_succ_cons, List.take_zero, Nat.mul_one, Nat.zero_add, Nat.add_zero, Nat.one_mul, Nat.zero_mul, List.getElem?_map, List.getElem?_drop, List.getElem?_take, List.length_map, Option.map_some, List.set_cons_zero, List.set_cons_succ, and_true, true_and, List.flatMap_cons, List.flatMap_nil, Bool.not_not, hset, hk1, hr, aRow, aSlN, hdq, g0]
    refine wpa_call (grid_Node_a _ _) ?_
    rintro a rfl
    have e1 : heldI (i : Int) = (i : Int) := heldI_id ⟨by omega, by omega⟩
    have e2 : heldI p.st = p.st := heldI_id ⟨by omega, by omega⟩
    rw [e1, e2]
    simp (maxSteps := 1000000) (implicitDefEqProofs := false) (disch := omega) only [push_cast, ↓reduceIte, Nat.reduceEqDiff, reduceCtorEq, decide_true, decide_false, Bool.not_true, Bool.not_false, Option.isNone_some, Option.isNone_none, List.drop_zero, List.drop_succ_cons, List.getElem?_cons_zero, List.getElem?_cons_succ, List.length_cons, List.length_nil, List.take_succ_cons, List.take_zero, Nat.mul_one, Nat.zero_add, Nat.add_zero, Nat.one_mul, Nat.zero_mul, List.getElem?_map, List.getElem?_drop, List.getElem?_take, List.length_map, Option.map_some, List.set_cons_zero, List.set_cons_succ, and_true, true_and, List.flatMap_cons, List.flatMap_nil, Bool.not_not]
    refine wpa_bsl (by simp [AV.cells, aN, vN, Value.cells]) (by simp) ?_
    simp (maxSteps := 1000000) (implicitDefEqProofs := false) (disch := omega) only [push_cast, ↓reduceIte, Nat.reduceEqDiff, reduceCtorEq, decide_true, decide_false, Bool.not_true, Bool.not_false, Option.isNone_some, Option.isNone_none, List.drop_zero, List.drop_succ_cons, List.getElem?_cons_zero, List.getElem?_cons_succ, List.length_cons, List.length_nil, List.take_succ_cons, List.take_zero, Nat.mul_one, Nat.zero_add, Nat.add_zero, Nat.one_mul, Nat.zero_mul, List.getElem?_map, List.getElem?_drop, List.getElem?_take, List.length_map, Option.map_some, List.set_cons_zero, List.set_cons_succ, and_true, true_and, List.flatMap_cons, List.flatMap_nil, Bool.not_not]
    refine wpa_app_nil rfl rfl (by simp [AV.cells, aN, vN, Value.cells]) (by rfl) (by simp) (by simp) ?_
    have hcs : [aN ((i : Int), p.st)].flatMap AV.cells = [aN ((i : Int), p.st)] := rfl
    by_cases hi0 : i = 0
    · have hcp : cellP i q r k = [((i : Int), p.st)] := by simp only [cellP, if_neg hk0, hgp, if_pos hi0]; rfl
      have hi1 : ((i : Int) = 0) := by omega
      simp (maxSteps := 1000000) (implicitDefEqProofs := false) (disch := omega) only [push_cast, ↓reduceIte, Nat.reduceEqDiff, reduceCtorEq, decide_true, decide_false, Bool.not_true, Bool.not_false, Option.isNone_some, Option.isNone_none, List.drop_zero, List.drop_succ_cons, List.getElem?_cons_zero, List.getElem?_cons_succ, List.length_cons, List.length_nil, List.take_succ_cons, List.take_zero, Nat.mul_one, Nat.zero_add, Nat.add_zero, Nat.one_mul, Nat.zero_mul, List.getElem?_map, List.getElem?_drop, List.getElem?_take, List.length_map, Option.map_some, List.set_cons_zero, List.set_cons_succ, and_true, true_and, List.flatMap_cons, List.flatMap_nil, Bool.not_not, hi1]
      refine fin_res [] ?_ (aNs_pure _)
      rw [hcp]
      subst hi0
      rfl
    · have hi1 : ¬ ((i : Int) = 0) := by omega
      cases hw : c.wt with
      | false =>
        have hcp : cellP i q r k = [((i : Int), p.st)] := by simp only [cellP, if_neg hk0, hgp, if_neg hi0, hgd, hw]; rfl
        simp (maxSteps := 1000000) (implicitDefEqProofs := false) (disch := omega) only [push_cast, ↓reduceIte, Nat.reduceEqDiff, reduceCtorEq, decide_true, decide_false, Bool.not_true, Bool.not_false, Option.isNone_some, Option.isNone_none, List.drop_zero, List.drop_succ_cons, List.getElem?_cons_zero, List.getElem?_cons_succ, List.length_cons, List.length_nil, List.take_succ_cons, List.take_zero, Nat.mul_one, Nat.zero_add, Nat.add_zero, Nat.one_mul, Nat.zero_mul, List.getElem?_map, List.getElem?_drop, List.getElem?_take, List.length_map, Option.map_some, List.set_cons_zero, List.set_cons_succ, and_true, true_and, List.flatMap_cons, List.flatMap_nil, Bool.not_not, hi1, hk2, f1, hw]
        refine fin_res [] ?_ (aNs_pure _)
        rw [hcp]
        rfl
      | true =>
        have hcp : cellP i q r k = [((i : Int), p.st), ((i : Int) - 1, lastLE q c.st)] := by simp only [cellP, if_neg hk0, hgp, if_neg hi0, hgd, hw]; rfl
        have hqq := hq (by omega)
        have hqi : l[((i : Int) - 1).toNat]? = some q := by rw [show ((i : Int) - 1).toNat = i - 1 by omega]; exact hqq
        simp (maxSteps := 1000000) (implicitDefEqProofs := false) (disch := omega) only [push_cast, ↓reduceIte, Nat.reduceEqDiff, reduceCtorEq, decide_true, decide_false, Bool.not_true, Bool.not_false, Option.isNone_some, Option.isNone_none, List.drop_zero, List.drop_succ_cons, List.getElem?_cons_zero, List.getElem?_cons_succ, List.length_cons, List.length_nil, List.take_succ_cons, List.take_zero, Nat.mul_one, Nat.zero_add, Nat.add_zero, Nat.one_mul, Nat.zero_mul, List.getElem?_map, List.getElem?_drop, List.getElem?_take, List.length_map, Option.map_some, List.set_cons_zero, List.set_cons_succ, and_true, true_and, List.flatMap_cons, List.flatMap_nil, Bool.not_not, hi1, hk2, f1, hw, hqi, aRow, aSlN]
        refine wpa_bl (α := Nat) (I := fun n ε σ => (ε 1 = .v (.int .i64 i) ∧ ε 7 = .sl 1 [aN ((i : Int), p.st)] (.id 1 1 1) ∧ ε 8 = .ref 0 0 0 ∧ ε 9 = .v (.int .i64 (lastLE (q.take n) c.st)) ∧ ε 54 = .sl q.length (q.flatMap aCC) .none ∧ ε 55 = .v (.int .i64 q.length) ∧ ε 56 = .v (.int .i64 n)) ∧ n ≤ q.length ∧
            σ[0]? = some (.obj 0 (aCC c)) ∧ σ[1]? = some (.tail 1))
          (μ := fun n => q.length - n) (Q := fun ε σ => (ε 1 = .v (.int .i64 i) ∧ ε 7 = .sl 1 [aN ((i : Int), p.st)] (.id 1 1 1) ∧ ε 9 = .v (.int .i64 (lastLE q c.st))) ∧ σ[1]? = some (.tail 1)) (x := 0) ?_ ?_ ?_
        · simp (maxSteps := 1000000) (implicitDefEqProofs := false) (disch := omega) only [push_cast, ↓reduceIte, Nat.reduceEqDiff, reduceCtorEq, decide_true, decide_false, Bool.not_true, Bool.not_false, Option.isNone_some, Option.isNone_none, List.drop_zero, List.drop_succ_cons, List.getElem?_cons_zero, List.getElem?_cons_succ, List.length_cons, List.length_nil, List.take_succ_cons, List.take_zero, Nat.mul_one, Nat.zero_add, Nat.add_zero, Nat.one_mul, Nat.zero_mul, List.getElem?_map, List.getElem?_drop, List.getElem?_take, List.length_map, Option.map_some, List.set_cons_zero, List.set_cons_succ, and_true, true_and, List.flatMap_cons, List.flatMap_nil, Bool.not_not]
          exact ⟨⟨rfl, rfl⟩, by omega⟩
        · rintro n ε σ N E ⟨hρ, hn, hs0, hs1⟩ hN hE
          simp only [S_grid_into_L1]
          by_cases hlt : n < q.length
          · obtain ⟨d, hd⟩ := at_lt hlt
            have hdd := flat_drop aCC_len hd
            have hs0' : ∀ τ : St, (σ ++ τ)[0]? = some (.obj 0 (aCC c)) := fun τ => get_app hs0
            have hs1' : ∀ τ : St, (σ ++ τ)[1]? = some (.tail 1) := fun τ => get_app hs1
            have hset2 : ∀ d, setAtA [AV.v (.int .i64 0), AV.v (.bool false)] 0 (aCC d) = aCC d := fun d => rfl
            have f0' : ∀ d, (aCC d)[0]? = some (.v (.int .i64 d.st)) := fun d => rfl
            simp (maxSteps := 1000000) (implicitDefEqProofs := false) (disch := omega) only [push_cast, ↓reduceIte, Nat.reduceEqDiff, reduceCtorEq, decide_true, decide_false, Bool.not_true, Bool.not_false, Option.isNone_some, Option.isNone_none, List.drop_zero, List.drop_succ_cons, List.getElem?_cons_zero, List.getElem?_cons_succ, List.length_cons, List.length_nil, List.take_succ_cons, List.take_zero, Nat.mul_one, Nat.zero_add, Nat.add_zero, Nat.one_mul, Nat.zero_mul, List.getElem?_map, List.getElem?_drop, List.getElem?_take, List.length_map, Option.map_some, List.set_cons_zero, List.set_cons_succ, and_true, true_and, List.flatMap_cons, List.flatMap_nil, Bool.not_not, hρ, hdd, hcl]
            refine wpa_new ?_
            simp (maxSteps := 1000000) (implicitDefEqProofs := false) (disch := omega) only [push_cast, ↓reduceIte, Nat.reduceEqDiff, reduceCtorEq, decide_true, decide_false, Bool.not_true, Bool.not_false, Option.isNone_some, Option.isNone_none, List.drop_zero, List.drop_succ_cons, List.getElem?_cons_zero, List.getElem?_cons_succ, List.length_cons, List.length_nil, List.take_succ_cons, List.take_zero, Nat.mul_one, Nat.zero_add, Nat.add_zero, Nat.one_mul, Nat.zero_mul, List.getElem?_map, List.getElem?_drop, List.getElem?_take, List.length_map, Option.map_some, List.set_cons_zero, List.set_cons_succ, and_true, true_and, List.flatMap_cons, List.flatMap_nil, Bool.not_not]
            refine wpa_stn (aCC_len d) (by rfl) (at_snoc _ _) (by simp) ?_
            have hls := lastLE_snoc (q.take n) d c.st
            rw [← take_succ_at hd] at hls
            by_cases h1 : d.st ≤ c.st
            · rw [if_pos h1] at hls
              simp (maxSteps := 1000000) (implicitDefEqProofs := false) (disch := omega) only [push_cast, ↓reduceIte, Nat.reduceEqDiff, reduceCtorEq, decide_true, decide_false, Bool.not_true, Bool.not_false, Option.isNone_some, Option.isNone_none, List.drop_zero, List.drop_succ_cons, List.getElem?_cons_zero, List.getElem?_cons_succ, List.length_cons, List.length_nil, List.take_succ_cons, List.take_zero, Nat.mul_one, Nat.zero_add, Nat.add_zero, Nat.one_mul, Nat.zero_mul, List.getElem?_map, List.getElem?_drop, List.getElem?_take, List.length_map, Option.map_some, List.set_cons_zero, List.set_cons_succ, and_true, true_and, List.flatMap_cons, List.flatMap_nil, Bool.not_not, hset2, hρ, hs0', f0', h1]
              refine hN (n + 1) _ _ ?_ (by omega)
              simp (maxSteps := 1000000) (implicitDefEqProofs := false) (disch := omega) only [push_cast, ↓reduceIte, Nat.reduceEqDiff, reduceCtorEq, decide_true, decide_false, Bool.not_true, Bool.not_false, Option.isNone_some, Option.isNone_none, List.drop_zero, List.drop_succ_cons, List.getElem?_cons_zero, List.getElem?_cons_succ, List.length_cons, List.length_nil, List.take_succ_cons, List.take_zero, Nat.mul_one, Nat.zero_add, Nat.add_zero, Nat.one_mul, Nat.zero_mul, List.getElem?_map, List.getElem?_drop, List.getElem?_take, List.length_map, Option.map_some, List.set_cons_zero, List.set_cons_succ, and_true, true_and, List.flatMap_cons, List.flatMap_nil, Bool.not_not, hρ, hls]
              exact ⟨by omega, hs0' _, hs1' _⟩
            · rw [if_neg h1] at hls
              simp (maxSteps := 1000000) (implicitDefEqProofs := false) (disch := omega) only [push_cast, ↓reduceIte, Nat.reduceEqDiff, reduceCtorEq, decide_true, decide_false, Bool.not_true, Bool.not_false, Option.isNone_some, Option.isNone_none, List.drop_zero, List.drop_succ_cons, List.getElem?_cons_zero, List.getElem?_cons_succ, List.length_cons, List.length_nil, List.take_succ_cons, List.take_zero, Nat.mul_one, Nat.zero_add, Nat.add_zero, Nat.one_mul, Nat.zero_mul, List.getElem?_map, List.getElem?_drop, List.getElem?_take, List.length_map, Option.map_some, List.set_cons_zero, List.set_cons_succ, and_true, true_and, List.flatMap_cons, List.flatMap_nil, Bool.not_not, hset2, hρ, hs0', f0', h1]
              refine hN (n + 1) _ _ ?_ (by omega)
              simp (maxSteps := 1000000) (implicitDefEqProofs := false) (disch := omega) only [push_cast, ↓reduceIte, Nat.reduceEqDiff, reduceCtorEq, decide_true, decide_false, Bool.not_true, Bool.not_false, Option.isNone_some, Option.isNone_none, List.drop_zero, List.drop_succ_cons, List.getElem?_cons_zero, List.getElem?_cons_succ, List.length_cons, List.length_nil, List.take_succ_cons, List.take_zero, Nat.mul_one, Nat.zero_add, Nat.add_zero, Nat.one_mul, Nat.zero_mul, List.getElem?_map, List.getElem?_drop, List.getElem?_take, List.length_map, Option.map_some, List.set_cons_zero, List.set_cons_succ, and_true, true_and, List.flatMap_cons, List.flatMap_nil, Bool.not_not, hρ, hls]
              exact ⟨by omega, hs0' _, hs1' _⟩
          · simp (maxSteps := 1000000) (implicitDefEqProofs := false) (disch := omega) only [push_cast, ↓reduceIte, Nat.reduceEqDiff, reduceCtorEq, decide_true, decide_false, Bool.not_true, Bool.not_false, Option.isNone_some, Option.isNone_none, List.drop_zero, List.drop_succ_cons, List.getElem?_cons_zero, List.getElem?_cons_succ, List.length_cons, List.length_nil, List.take_succ_cons, List.take_zero, Nat.mul_one, Nat.zero_add, Nat.add_zero, Nat.one_mul, Nat.zero_mul, List.getElem?_map, List.getElem?_drop, List.getElem?_take, List.length_map, Option.map_some, List.set_cons_zero, List.set_cons_succ, and_true, true_and, List.flatMap_cons, List.flatMap_nil, Bool.not_not, hρ]
            refine hE _ _ ?_
            rw [List.take_of_length_le (by omega)] at hρ
            simp (maxSteps := 1000000) (implicitDefEqProofs := false) (disch := omega) only [push_cast, ↓reduceIte, Nat.reduceEqDiff, reduceCtorEq, decide_true, decide_false, Bool.not_true, Bool.not_false, Option.isNone_some, Option.isNone_none, List.drop_zero, List.drop_succ_cons, List.getElem?_cons_zero, List.getElem?_cons_succ, List.length_cons, List.length_nil, List.take_succ_cons, List.take_zero, Nat.mul_one, Nat.zero_add, Nat.add_zero, Nat.one_mul, Nat.zero_mul, List.getElem?_map, List.getElem?_drop, List.getElem?_take, List.length_map, Option.map_some, List.set_cons_zero, List.set_cons_succ, and_true, true_and, List.flatMap_cons, List.flatMap_nil, Bool.not_not, hρ]
            exact hs1
        · rintro ε σ ⟨hρ, hs1⟩
          simp (maxSteps := 1000000) (implicitDefEqProofs := false) (disch := omega) only [push_cast, ↓reduceIte, Nat.reduceEqDiff, reduceCtorEq, decide_true, decide_false, Bool.not_true, Bool.not_false, Option.isNone_some, Option.isNone_none, List.drop_zero, List.drop_succ_cons, List.getElem?_cons_zero, List.getElem?_cons_succ, List.length_cons, List.length_nil, List.take_succ_cons, List.take_zero, Nat.mul_one, Nat.zero_add, Nat.add_zero, Nat.one_mul, Nat.zero_mul, List.getElem?_map, List.getElem?_drop, List.getElem?_take, List.length_map, Option.map_some, List.set_cons_zero, List.set_cons_succ, and_true, true_and, List.flatMap_cons, List.flatMap_nil, Bool.not_not, hρ]
          refine wpa_call (grid_Node_a _ _) ?_
          rintro a rfl
          have hlo := lastLE_ok hqb c.st
          have e3 : heldI ((i : Int) - 1) = (i : Int) - 1 := heldI_id ⟨by omega, by omega⟩
          have e4 : heldI (lastLE q c.st) = lastLE q c.st := heldI_id ⟨by omega, by omega⟩
          rw [e3, e4]
          simp (maxSteps := 1000000) (implicitDefEqProofs := false) (disch := omega) only [push_cast, ↓reduceIte, Nat.reduceEqDiff, reduceCtorEq, decide_true, decide_false, Bool.not_true, Bool.not_false, Option.isNone_some, Option.isNone_none, List.drop_zero, List.drop_succ_cons, List.getElem?_cons_zero, List.getElem?_cons_succ, List.length_cons, List.length_nil, List.take_succ_cons, List.take_zero, Nat.mul_one, Nat.zero_add, Nat.add_zero, Nat.one_mul, Nat.zero_mul, List.getElem?_map, List.getElem?_drop, List.getElem?_take, List.length_map, Option.map_some, List.set_cons_zero, List.set_cons_succ, and_true, true_and, List.flatMap_cons, List.flatMap_nil, Bool.not_not]
          refine wpa_bsl (by simp [AV.cells, aN, vN, Value.cells]) (by simp) ?_
          simp (maxSteps := 1000000) (implicitDefEqProofs := false) (disch := omega) only [push_cast, ↓reduceIte, Nat.reduceEqDiff, reduceCtorEq, decide_true, decide_false, Bool.not_true, Bool.not_false, Option.isNone_some, Option.isNone_none, List.drop_zero, List.drop_succ_cons, List.getElem?_cons_zero, List.getElem?_cons_succ, List.length_cons, List.length_nil, List.take_succ_cons, List.take_zero, Nat.mul_one, Nat.zero_add, Nat.add_zero, Nat.one_mul, Nat.zero_mul, List.getElem?_map, List.getElem?_drop, List.getElem?_take, List.length_map, Option.map_some, List.set_cons_zero, List.set_cons_succ, and_true, true_and, List.flatMap_cons, List.flatMap_nil, Bool.not_not, hρ]
          refine wpa_app rfl rfl (by simp [AV.cells, aN, vN, Value.cells]) (by rfl) (by simp) (by omega) (by omega) hs1 ?_
          simp (maxSteps := 1000000) (implicitDefEqProofs := false) (disch := omega) only [push_cast, ↓reduceIte, Nat.reduceEqDiff, reduceCtorEq, decide_true, decide_false, Bool.not_true, Bool.not_false, Option.isNone_some, Option.isNone_none, List.drop_zero, List.drop_succ_cons, List.getElem?_cons_zero, List.getElem?_cons_succ, List.length_cons, List.length_nil, List.take_succ_cons, List.take_zero, Nat.mul_one, Nat.zero_add, Nat.add_zero, Nat.one_mul, Nat.zero_mul, List.getElem?_map, List.getElem?_drop, List.getElem?_take, List.length_map, Option.map_some, List.set_cons_zero, List.set_cons_succ, and_true, true_and, List.flatMap_cons, List.flatMap_nil, Bool.not_not]
          refine fin_res [] ?_ (aNs_pure _)
          rw [hcp]
          exact aNs_res _ [_, _] _
end Go.Proofs.Ytilofhocodbknaa
