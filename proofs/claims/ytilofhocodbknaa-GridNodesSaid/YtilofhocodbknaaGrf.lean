/- Contracts on annotated values: grid.Before. -/
import Derived.Test.YtilofhocodbknaaGre
namespace Go.Proofs.Ytilofhocodbknaa
set_option linter.unusedVariables false
set_option linter.unusedSimpArgs false
open Go Go.Kx Go.Proofs

abbrev Mp := List ((Int × Int) × Int)
def getE : Mp → Int × Int → Int
  | [], _ => 0
  | e :: M, p => if p = e.1 then e.2 else getE M p
def putE : Mp → Int × Int → Int → Mp
  | [], p, x => [(p, x)]
  | e :: M, p, x => if p = e.1 then (p, x) :: M else e :: putE M p x
theorem getE_put (M : Mp) (p q : Int × Int) (x : Int) : getE (putE M p x) q = if q = p then x else getE M q := by
  induction M with
  | nil => simp [putE, getE]
  | cons e M ih =>
    simp only [putE]
    split
    · rename_i h
      subst h
      simp only [getE]
      split <;> rfl
    · rename_i h
      simp only [getE, ih]
      by_cases h1 : q = e.1
      · rw [if_pos h1, if_pos h1, if_neg]
        intro h2; exact h (h2.symm.trans h1)
      · rw [if_neg h1, if_neg h1]
def kvN (e : (Int × Int) × Int) : Value × Value := (vN e.1, .int .i64 e.2)
theorem getM_N {M : Mp} (hM : ∀ e ∈ M, okP e.1) {p : Int × Int} (hp : okP p) : getM (.complex .f64) (.int .i64 0) (vN p) (M.map kvN) = some (.int .i64 (getE M p)) := by
  induction M with
  | nil => rfl
  | cons e M ih =>
    simp only [List.map_cons, getM, kvN, eqC_N hp (hM e (by simp)), getE]
    by_cases h : p = e.1
    · simp [h]
    · simp only [h, decide_false, if_false]
      exact ih fun x hx => hM x (by simp [hx])
theorem putM_N {M : Mp} (hM : ∀ e ∈ M, okP e.1) {p : Int × Int} (hp : okP p) (x : Int) : putM (.complex .f64) (vN p) (.int .i64 x) (M.map kvN) = some ((putE M p x).map kvN) := by
  induction M with
  | nil => rfl
  | cons e M ih =>
    simp only [List.map_cons, putM, kvN, eqC_N hp (hM e (by simp)), putE]
    by_cases h : p = e.1
    · have hs : Instr.sameBits 10000 (vN e.1) (vN p) = true := by
        rw [h]
        simp [vN, Instr.sameBits]
      simp only [h, decide_true, if_true]
      rw [h] at hs
      rw [if_pos hs]
      rfl
    · simp only [h, decide_false, if_false]
      have := ih fun x hx => hM x (by simp [hx])
      rw [this]
      rfl
theorem putE_ok {M : Mp} (hM : ∀ e ∈ M, okP e.1) {p : Int × Int} (hp : okP p) (x : Int) : ∀ e ∈ putE M p x, okP e.1 := by
  induction M with
  | nil => intro e he; simp [putE] at he; subst he; exact hp
  | cons d M ih =>
    intro e he
    simp only [putE] at he
    split at he
    · rcases List.mem_cons.1 he with h | h
      · subst h; exact hp
      · exact hM e (by simp [h])
    · rcases List.mem_cons.1 he with h | h
      · subst h; exact hM _ (by simp)
      · exact ih (fun x hx => hM x (by simp [hx])) e h
def stepM (M : Mp) (e : Ed) : Mp := if 0 < getE M e.1 then putE M e.2 (getE M e.2 + 1) else M
def foldM (l : List Ed) (a : Int × Int) : Mp := l.foldl stepM [(a, 1)]
theorem foldM_snoc (l : List Ed) (e : Ed) (a : Int × Int) : foldM (l ++ [e]) a = stepM (foldM l a) e := by simp [foldM]
theorem foldM_ok {l : List Ed} (hl : ∀ e ∈ l, okP e.1 ∧ okP e.2) {a : Int × Int} (ha : okP a) : (∀ e ∈ foldM l a, okP e.1) ∧ ∀ p, 0 ≤ getE (foldM l a) p ∧ getE (foldM l a) p ≤ l.length + 1 := by
  induction l using snoc_ind with
  | h0 =>
    refine ⟨fun e he => by simp [foldM] at he; subst he; exact ha, fun p => ?_⟩
    simp only [foldM, List.foldl_nil, getE]
    split <;> simp
  | hs l e ih =>
    obtain ⟨i1, i2⟩ := ih fun e he => hl e (by simp [he])
    have he := hl e (by simp)
    rw [foldM_snoc, stepM]
    split
    · refine ⟨putE_ok i1 he.2 _, fun p => ?_⟩
      rw [getE_put]
      have h1 := i2 p
      have h2 := i2 e.2
      rw [List.length_append, List.length_singleton]
      split <;> omega
    · refine ⟨i1, fun p => ?_⟩
      have h1 := i2 p
      rw [List.length_append, List.length_singleton]
      omega
theorem edgeL_ok {l : List (List CC)} (h : gchk l = 0) : (∀ e ∈ edgeL l, okP e.1 ∧ okP e.2) ∧ (edgeL l).length ≤ 20000 := by
  obtain ⟨hll, hok⟩ := gchk_ok h
  have hlr : ∀ r ∈ l, r.length ≤ 100 := fun r hr => (hok r hr).len
  refine ⟨fun e he => ?_, by have := gEd_len hlr l.length; unfold edgeL; omega⟩
  have hb : ∀ n, ∀ c ∈ l.getD n [], 0 ≤ c.st ∧ c.st ≤ 1048575 := by
    intro n c hc
    rw [List.getD_eq_getElem?_getD] at hc
    cases hx : l[n]? with
    | none => rw [hx] at hc; cases hc
    | some r => rw [hx] at hc; exact (hok r (List.mem_of_getElem? hx)).bd c hc
  unfold edgeL gEd at he
  obtain ⟨i, hi, he⟩ := List.mem_flatMap.1 he
  rw [List.mem_range] at hi
  unfold rowEd at he
  obtain ⟨k, hk, he⟩ := List.mem_flatMap.1 he
  rw [List.mem_range] at hk
  unfold cellEd at he
  obtain ⟨p, hp, rfl⟩ := List.mem_map.1 he
  refine ⟨cellP_ok (by omega) (hb _) (hb _) p hp, ⟨by simp only; omega, by simp only; omega⟩, ?_⟩
  rw [List.getD_eq_getElem?_getD]
  cases hx : (l.getD i [])[k]? with
  | none => exact ⟨by simp [nc], by simp [nc]⟩
  | some c => have := hb i c (List.mem_of_getElem? hx); exact ⟨by simp; omega, by simp; omega⟩
def bfE (l : List (List CC)) (p q : Int × Int) : Bool := decide (gchk l = 0) && !decide (p = q) && decide (0 < getE (foldM (edgeL l) p) q)

set_option maxHeartbeats 2000000 in
theorem grid_Before_a (l : List (List CC)) (p q : Int × Int) (hl : l.length ≤ 9223372036854775807) (hl2 : ∀ r ∈ l, r.length ≤ 9223372036854775807) (hp : okP p) (hq : okP q) :
    FnP Try.prog 36 [aRows l, aN p, aN q] fun a => a = aBool (bfE l p q) := by
  refine fnP_in K_grid_Before mixed rfl (by simp [AV.pureL, aRows_pure, aN_pure]) ?_
  simp only [S_grid_Before]
  simp (maxSteps := 1000000) (implicitDefEqProofs := false) (disch := omega) only [push_cast, ↓reduceIte, Nat.reduceEqDiff, reduceCtorEq, decide_true, decide_false, Bool.not_true, Bool.not_false, Option.isNone_some, Option.isNone_none, List.drop_zero, List.drop_succ_cons, List.getElem?_cons_zero, List.getElem?_cons_succ, List.length_cons, List.length_nil, List.take_succ_cons, List.take_zero, Nat.mul_one, Nat.zero_add, Nat.add_zero, Nat.one_mul, Nat.zero_mul, List.getElem?_map, List.getElem?_drop, List.getElem?_take, List.length_map, Option.map_some, List.set_cons_zero, List.set_cons_succ, and_true, true_and, List.flatMap_cons, List.flatMap_nil, Bool.not_not]
  refine wpa_call (grid_Edges_a l hl hl2) ?_
  rintro a rfl
  by_cases h0 : gchk l = 0
  · obtain ⟨hok, hlen⟩ := edgeL_ok h0
    by_cases hpq : p = q
    · subst hpq
      have hb : bfE l p p = false := by unfold bfE; simp
      have hv : PF.val (.bin .eql) [vN p, vN p] = some (.bool true) := by rw [v_ceq hp hp]; simp
      simp (maxSteps := 1000000) (implicitDefEqProofs := false) (disch := omega) only [push_cast, ↓reduceIte, Nat.reduceEqDiff, reduceCtorEq, decide_true, decide_false, Bool.not_true, Bool.not_false, Option.isNone_some, Option.isNone_none, List.drop_zero, List.drop_succ_cons, List.getElem?_cons_zero, List.getElem?_cons_succ, List.length_cons, List.length_nil, List.take_succ_cons, List.take_zero, Nat.mul_one, Nat.zero_add, Nat.add_zero, Nat.one_mul, Nat.zero_mul, List.getElem?_map, List.getElem?_drop, List.getElem?_take, List.length_map, Option.map_some, List.set_cons_zero, List.set_cons_succ, and_true, true_and, List.flatMap_cons, List.flatMap_nil, Bool.not_not, aInt, h0, aN, hv]
      exact ⟨[], rfl, by rw [hb]; rfl⟩
    · have hb : bfE l p q = decide (0 < getE (foldM (edgeL l) p) q) := by unfold bfE; simp [hpq, h0]
      have hv := v_ceq hp hq
      rw [if_pos h0, hb]
      generalize hE : edgeL l = es at hok hlen
      simp (maxSteps := 1000000) (implicitDefEqProofs := false) (disch := omega) only [push_cast, ↓reduceIte, Nat.reduceEqDiff, reduceCtorEq, decide_true, decide_false, Bool.not_true, Bool.not_false, Option.isNone_some, Option.isNone_none, List.drop_zero, List.drop_succ_cons, List.getElem?_cons_zero, List.getElem?_cons_succ, List.length_cons, List.length_nil, List.take_succ_cons, List.take_zero, Nat.mul_one, Nat.zero_add, Nat.add_zero, Nat.one_mul, Nat.zero_mul, List.getElem?_map, List.getElem?_drop, List.getElem?_take, List.length_map, Option.map_some, List.set_cons_zero, List.set_cons_succ, and_true, true_and, List.flatMap_cons, List.flatMap_nil, Bool.not_not, aInt, h0, aN, hv, hpq, aEds, aSlN]
      refine wpa_mkm ?_
      simp (maxSteps := 1000000) (implicitDefEqProofs := false) (disch := omega) only [push_cast, ↓reduceIte, Nat.reduceEqDiff, reduceCtorEq, decide_true, decide_false, Bool.not_true, Bool.not_false, Option.isNone_some, Option.isNone_none, List.drop_zero, List.drop_succ_cons, List.getElem?_cons_zero, List.getElem?_cons_succ, List.length_cons, List.length_nil, List.take_succ_cons, List.take_zero, Nat.mul_one, Nat.zero_add, Nat.add_zero, Nat.one_mul, Nat.zero_mul, List.getElem?_map, List.getElem?_drop, List.getElem?_take, List.length_map, Option.map_some, List.set_cons_zero, List.set_cons_succ, and_true, true_and, List.flatMap_cons, List.flatMap_nil, Bool.not_not]
      refine wpa_mup (es := []) (ys := (foldM [] p).map kvN) rfl rfl ?_
      simp (maxSteps := 1000000) (implicitDefEqProofs := false) (disch := omega) only [push_cast, ↓reduceIte, Nat.reduceEqDiff, reduceCtorEq, decide_true, decide_false, Bool.not_true, Bool.not_false, Option.isNone_some, Option.isNone_none, List.drop_zero, List.drop_succ_cons, List.getElem?_cons_zero, List.getElem?_cons_succ, List.length_cons, List.length_nil, List.take_succ_cons, List.take_zero, Nat.mul_one, Nat.zero_add, Nat.add_zero, Nat.one_mul, Nat.zero_mul, List.getElem?_map, List.getElem?_drop, List.getElem?_take, List.length_map, Option.map_some, List.set_cons_zero, List.set_cons_succ, and_true, true_and, List.flatMap_cons, List.flatMap_nil, Bool.not_not]
      refine wpa_bl (α := Nat) (I := fun n ε σ => (ε 2 = .v (vN q) ∧ ε 9 = .mp 0 ∧ ε 27 = .sl es.length (es.flatMap aEd) .none ∧ ε 28 = .v (.int .i64 es.length) ∧ ε 29 = .v (.int .i64 n)) ∧ n ≤ es.length ∧ σ[0]? = some (.map ((foldM (es.take n) p).map kvN)))
        (μ := fun n => es.length - n) (Q := fun ε σ => (ε 2 = .v (vN q) ∧ ε 9 = .mp 0) ∧ σ[0]? = some (.map ((foldM es p).map kvN))) (x := 0) ?_ ?_ ?_
      · simp (maxSteps := 1000000) (implicitDefEqProofs := false) (disch := omega) only [push_cast, ↓reduceIte, Nat.reduceEqDiff, reduceCtorEq, decide_true, decide_false, Bool.not_true, Bool.not_false, Option.isNone_some, Option.isNone_none, List.drop_zero, List.drop_succ_cons, List.getElem?_cons_zero, List.getElem?_cons_succ, List.length_cons, List.length_nil, List.take_succ_cons, List.take_zero, Nat.mul_one, Nat.zero_add, Nat.add_zero, Nat.one_mul, Nat.zero_mul, List.getElem?_map, List.getElem?_drop, List.getElem?_take, List.length_map, Option.map_some, List.set_cons_zero, List.set_cons_succ, and_true, true_and, List.flatMap_cons, List.flatMap_nil, Bool.not_not]
        exact Nat.zero_le _
      · rintro n ε σ N E ⟨hρ, hn, hs⟩ hN hE'
        simp only [S_grid_Before_L1]
        by_cases hlt : n < es.length
        · obtain ⟨e, he⟩ := at_lt hlt
          have heo := hok e (List.mem_of_getElem? he)
          have hde := flat_drop aEd_len he
          have hcl : ∀ m : List AV, cellsA (some 2) (aEd e ++ m) = some (.agg (aEd e)) := fun m => by rw [cellsA_n _ _ (by simp [aEd_len])]; rfl
          obtain ⟨hM, hMb⟩ := foldM_ok (l := es.take n) (fun x hx => hok x (List.mem_of_mem_take hx)) hp
          have hst := foldM_snoc (es.take n) e p
          rw [← take_succ_at he] at hst
          have hb1 := hMb e.1
          have hb2 := hMb e.2
          rw [List.length_take] at hb1 hb2
          generalize hF : foldM (es.take n) p = M at hs hM hst hb1 hb2
          simp (maxSteps := 1000000) (implicitDefEqProofs := false) (disch := omega) only [push_cast, ↓reduceIte, Nat.reduceEqDiff, reduceCtorEq, decide_true, decide_false, Bool.not_true, Bool.not_false, Option.isNone_some, Option.isNone_none, List.drop_zero, List.drop_succ_cons, List.getElem?_cons_zero, List.getElem?_cons_succ, List.length_cons, List.length_nil, List.take_succ_cons, List.take_zero, Nat.mul_one, Nat.zero_add, Nat.add_zero, Nat.one_mul, Nat.zero_mul, List.getElem?_map, List.getElem?_drop, List.getElem?_take, List.length_map, Option.map_some, List.set_cons_zero, List.set_cons_succ, and_true, true_and, List.flatMap_cons, List.flatMap_nil, Bool.not_not, hρ, hde, hcl]
          refine wpa_new ?_
          simp (maxSteps := 1000000) (implicitDefEqProofs := false) (disch := omega) only [push_cast, ↓reduceIte, Nat.reduceEqDiff, reduceCtorEq, decide_true, decide_false, Bool.not_true, Bool.not_false, Option.isNone_some, Option.isNone_none, List.drop_zero, List.drop_succ_cons, List.getElem?_cons_zero, List.getElem?_cons_succ, List.length_cons, List.length_nil, List.take_succ_cons, List.take_zero, Nat.mul_one, Nat.zero_add, Nat.add_zero, Nat.one_mul, Nat.zero_mul, List.getElem?_map, List.getElem?_drop, List.getElem?_take, List.length_map, Option.map_some, List.set_cons_zero, List.set_cons_succ, and_true, true_and, List.flatMap_cons, List.flatMap_nil, Bool.not_not]
          refine wpa_stn (aEd_len e) (by rfl) (at_snoc _ _) (by simp) ?_
          have hset : setAtA [AV.v (.complex .f64 0 0), AV.v (.complex .f64 0 0)] 0 (aEd e) = aEd e := rfl
          have f0 : (aEd e)[Int.toNat 0]? = some (.v (vN e.1)) := rfl
          have f1 : (aEd e)[Int.toNat 1]? = some (.v (vN e.2)) := rfl
          have hs1 : (σ ++ [Res.obj 0 (aEd e)])[0]? = some (.map (M.map kvN)) := get_app hs
          have hb3 : (σ ++ [Res.obj 0 (aEd e)])[σ.length]? = some (.obj 0 (aEd e)) := at_snoc _ _
          have hl0 := lt_at hs
          simp (maxSteps := 1000000) (implicitDefEqProofs := false) (disch := omega) only [push_cast, ↓reduceIte, Nat.reduceEqDiff, reduceCtorEq, decide_true, decide_false, Bool.not_true, Bool.not_false, Option.isNone_some, Option.isNone_none, List.drop_zero, List.drop_succ_cons, List.getElem?_cons_zero, List.getElem?_cons_succ, List.length_cons, List.length_nil, List.take_succ_cons, List.take_zero, Nat.mul_one, Nat.zero_add, Nat.add_zero, Nat.one_mul, Nat.zero_mul, List.getElem?_map, List.getElem?_drop, List.getElem?_take, List.length_map, Option.map_some, List.set_cons_zero, List.set_cons_succ, and_true, true_and, List.flatMap_cons, List.flatMap_nil, Bool.not_not, hset]
          generalize hS : σ ++ [Res.obj 0 (aEd e)] = S at hs1 hb3 ⊢
          generalize hb : σ.length = b at hb3 hl0 ⊢
          clear hS hb
          simp (maxSteps := 1000000) (implicitDefEqProofs := false) (disch := omega) only [push_cast, ↓reduceIte, Nat.reduceEqDiff, reduceCtorEq, decide_true, decide_false, Bool.not_true, Bool.not_false, Option.isNone_some, Option.isNone_none, List.drop_zero, List.drop_succ_cons, List.getElem?_cons_zero, List.getElem?_cons_succ, List.length_cons, List.length_nil, List.take_succ_cons, List.take_zero, Nat.mul_one, Nat.zero_add, Nat.add_zero, Nat.one_mul, Nat.zero_mul, List.getElem?_map, List.getElem?_drop, List.getElem?_take, List.length_map, Option.map_some, List.set_cons_zero, List.set_cons_succ, and_true, true_and, List.flatMap_cons, List.flatMap_nil, Bool.not_not, hρ, hb3, f0]
          refine wpa_mlk hs1 (getM_N hM heo.1) ?_
          by_cases hg : 0 < getE M e.1
          · simp (maxSteps := 1000000) (implicitDefEqProofs := false) (disch := omega) only [push_cast, ↓reduceIte, Nat.reduceEqDiff, reduceCtorEq, decide_true, decide_false, Bool.not_true, Bool.not_false, Option.isNone_some, Option.isNone_none, List.drop_zero, List.drop_succ_cons, List.getElem?_cons_zero, List.getElem?_cons_succ, List.length_cons, List.length_nil, List.take_succ_cons, List.take_zero, Nat.mul_one, Nat.zero_add, Nat.add_zero, Nat.one_mul, Nat.zero_mul, List.getElem?_map, List.getElem?_drop, List.getElem?_take, List.length_map, Option.map_some, List.set_cons_zero, List.set_cons_succ, and_true, true_and, List.flatMap_cons, List.flatMap_nil, Bool.not_not, hg, hρ, hb3, f1]
            refine wpa_mlk hs1 (getM_N hM heo.2) ?_
            simp (maxSteps := 1000000) (implicitDefEqProofs := false) (disch := omega) only [push_cast, ↓reduceIte, Nat.reduceEqDiff, reduceCtorEq, decide_true, decide_false, Bool.not_true, Bool.not_false, Option.isNone_some, Option.isNone_none, List.drop_zero, List.drop_succ_cons, List.getElem?_cons_zero, List.getElem?_cons_succ, List.length_cons, List.length_nil, List.take_succ_cons, List.take_zero, Nat.mul_one, Nat.zero_add, Nat.add_zero, Nat.one_mul, Nat.zero_mul, List.getElem?_map, List.getElem?_drop, List.getElem?_take, List.length_map, Option.map_some, List.set_cons_zero, List.set_cons_succ, and_true, true_and, List.flatMap_cons, List.flatMap_nil, Bool.not_not]
            refine wpa_mup hs1 (putM_N hM heo.2 _) ?_
            simp (maxSteps := 1000000) (implicitDefEqProofs := false) (disch := omega) only [push_cast, ↓reduceIte, Nat.reduceEqDiff, reduceCtorEq, decide_true, decide_false, Bool.not_true, Bool.not_false, Option.isNone_some, Option.isNone_none, List.drop_zero, List.drop_succ_cons, List.getElem?_cons_zero, List.getElem?_cons_succ, List.length_cons, List.length_nil, List.take_succ_cons, List.take_zero, Nat.mul_one, Nat.zero_add, Nat.add_zero, Nat.one_mul, Nat.zero_mul, List.getElem?_map, List.getElem?_drop, List.getElem?_take, List.length_map, Option.map_some, List.set_cons_zero, List.set_cons_succ, and_true, true_and, List.flatMap_cons, List.flatMap_nil, Bool.not_not, hρ]
            refine hN (n + 1) _ _ ?_ (by omega)
            simp (maxSteps := 1000000) (implicitDefEqProofs := false) (disch := omega) only [push_cast, ↓reduceIte, Nat.reduceEqDiff, reduceCtorEq, decide_true, decide_false, Bool.not_true, Bool.not_false, Option.isNone_some, Option.isNone_none, List.drop_zero, List.drop_succ_cons, List.getElem?_cons_zero, List.getElem?_cons_succ, List.length_cons, List.length_nil, List.take_succ_cons, List.take_zero, Nat.mul_one, Nat.zero_add, Nat.add_zero, Nat.one_mul, Nat.zero_mul, List.getElem?_map, List.getElem?_drop, List.getElem?_take, List.length_map, Option.map_some, List.set_cons_zero, List.set_cons_succ, and_true, true_and, List.flatMap_cons, List.flatMap_nil, Bool.not_not, hρ]
            refine ⟨by omega, ?_⟩
            rw [get_set_eq hs1, hst, stepM, if_pos hg]
          · simp (maxSteps := 1000000) (implicitDefEqProofs := false) (disch := omega) only [push_cast, ↓reduceIte, Nat.reduceEqDiff, reduceCtorEq, decide_true, decide_false, Bool.not_true, Bool.not_false, Option.isNone_some, Option.isNone_none, List.drop_zero, List.drop_succ_cons, List.getElem?_cons_zero, List.getElem?_cons_succ, List.length_cons, List.length_nil, List.take_succ_cons, List.take_zero, Nat.mul_one, Nat.zero_add, Nat.add_zero, Nat.one_mul, Nat.zero_mul, List.getElem?_map, List.getElem?_drop, List.getElem?_take, List.length_map, Option.map_some, List.set_cons_zero, List.set_cons_succ, and_true, true_and, List.flatMap_cons, List.flatMap_nil, Bool.not_not, hg, hρ]
            refine hN (n + 1) _ _ ?_ (by omega)
            simp (maxSteps := 1000000) (implicitDefEqProofs := false) (disch := omega) only [push_cast, ↓reduceIte, Nat.reduceEqDiff, reduceCtorEq, decide_true, decide_false, Bool.not_true, Bool.not_false, Option.isNone_some, Option.isNone_none, List.drop_zero, List.drop_succ_cons, List.getElem?_cons_zero, List.getElem?_cons_succ, List.length_cons, List.length_nil, List.take_succ_cons, List.take_zero, Nat.mul_one, Nat.zero_add, Nat.add_zero, Nat.one_mul, Nat.zero_mul, List.getElem?_map, List.getElem?_drop, List.getElem?_take, List.length_map, Option.map_some, List.set_cons_zero, List.set_cons_succ, and_true, true_and, List.flatMap_cons, List.flatMap_nil, Bool.not_not, hρ]
            refine ⟨by omega, ?_⟩
            rw [hs1, hst, stepM, if_neg hg]
        · simp (maxSteps := 1000000) (implicitDefEqProofs := false) (disch := omega) only [push_cast, ↓reduceIte, Nat.reduceEqDiff, reduceCtorEq, decide_true, decide_false, Bool.not_true, Bool.not_false, Option.isNone_some, Option.isNone_none, List.drop_zero, List.drop_succ_cons, List.getElem?_cons_zero, List.getElem?_cons_succ, List.length_cons, List.length_nil, List.take_succ_cons, List.take_zero, Nat.mul_one, Nat.zero_add, Nat.add_zero, Nat.one_mul, Nat.zero_mul, List.getElem?_map, List.getElem?_drop, List.getElem?_take, List.length_map, Option.map_some, List.set_cons_zero, List.set_cons_succ, and_true, true_and, List.flatMap_cons, List.flatMap_nil, Bool.not_not, hρ]
          refine hE' _ _ ?_
          rw [List.take_of_length_le (by omega)] at hs
          simp (maxSteps := 1000000) (implicitDefEqProofs := false) (disch := omega) only [push_cast, ↓reduceIte, Nat.reduceEqDiff, reduceCtorEq, decide_true, decide_false, Bool.not_true, Bool.not_false, Option.isNone_some, Option.isNone_none, List.drop_zero, List.drop_succ_cons, List.getElem?_cons_zero, List.getElem?_cons_succ, List.length_cons, List.length_nil, List.take_succ_cons, List.take_zero, Nat.mul_one, Nat.zero_add, Nat.add_zero, Nat.one_mul, Nat.zero_mul, List.getElem?_map, List.getElem?_drop, List.getElem?_take, List.length_map, Option.map_some, List.set_cons_zero, List.set_cons_succ, and_true, true_and, List.flatMap_cons, List.flatMap_nil, Bool.not_not, hρ]
          exact hs
      · rintro ε σ ⟨hρ, hs⟩
        obtain ⟨hM, _⟩ := foldM_ok hok hp
        simp (maxSteps := 1000000) (implicitDefEqProofs := false) (disch := omega) only [push_cast, ↓reduceIte, Nat.reduceEqDiff, reduceCtorEq, decide_true, decide_false, Bool.not_true, Bool.not_false, Option.isNone_some, Option.isNone_none, List.drop_zero, List.drop_succ_cons, List.getElem?_cons_zero, List.getElem?_cons_succ, List.length_cons, List.length_nil, List.take_succ_cons, List.take_zero, Nat.mul_one, Nat.zero_add, Nat.add_zero, Nat.one_mul, Nat.zero_mul, List.getElem?_map, List.getElem?_drop, List.getElem?_take, List.length_map, Option.map_some, List.set_cons_zero, List.set_cons_succ, and_true, true_and, List.flatMap_cons, List.flatMap_nil, Bool.not_not, hρ]
        refine wpa_mlk hs (getM_N hM hq) ?_
        simp (maxSteps := 1000000) (implicitDefEqProofs := false) (disch := omega) only [push_cast, ↓reduceIte, Nat.reduceEqDiff, reduceCtorEq, decide_true, decide_false, Bool.not_true, Bool.not_false, Option.isNone_some, Option.isNone_none, List.drop_zero, List.drop_succ_cons, List.getElem?_cons_zero, List.getElem?_cons_succ, List.length_cons, List.length_nil, List.take_succ_cons, List.take_zero, Nat.mul_one, Nat.zero_add, Nat.add_zero, Nat.one_mul, Nat.zero_mul, List.getElem?_map, List.getElem?_drop, List.getElem?_take, List.length_map, Option.map_some, List.set_cons_zero, List.set_cons_succ, and_true, true_and, List.flatMap_cons, List.flatMap_nil, Bool.not_not]
        exact ⟨[], rfl, rfl⟩
  · have hb : bfE l p q = false := by unfold bfE; simp [h0]
    simp (maxSteps := 1000000) (implicitDefEqProofs := false) (disch := omega) only [push_cast, ↓reduceIte, Nat.reduceEqDiff, reduceCtorEq, decide_true, decide_false, Bool.not_true, Bool.not_false, Option.isNone_some, Option.isNone_none, List.drop_zero, List.drop_succ_cons, List.getElem?_cons_zero, List.getElem?_cons_succ, List.length_cons, List.length_nil, List.take_succ_cons, List.take_zero, Nat.mul_one, Nat.zero_add, Nat.add_zero, Nat.one_mul, Nat.zero_mul, List.getElem?_map, List.getElem?_drop, List.getElem?_take, List.length_map, Option.map_some, List.set_cons_zero, List.set_cons_succ, and_true, true_and, List.flatMap_cons, List.flatMap_nil, Bool.not_not, aInt, h0]
    exact ⟨[], rfl, by rw [hb]; rfl⟩
end Go.Proofs.Ytilofhocodbknaa
