/- Contracts on annotated values: span.plan.ready, next. -/
import Derived.Test.YtilofhocodbknaaSpc
import Derived.Test.YtilofhocodbknaaRxf
namespace Go.Proofs.Ytilofhocodbknaa
set_option linter.unusedVariables false
set_option linter.unusedSimpArgs false
open Go Go.Kx Go.Proofs

def readyD (xss : List (List Int)) (D : List Int) (i : Nat) : Bool := !D.contains (i : Int) && (xss.getD i []).all fun p => D.contains p
def rowK (xss : List (List Int)) (n : Nat) (D : List Int) (k : Nat) : List Int := (((List.range k).filter (readyD xss D)).take n).map fun i : Nat => (i : Int)
def rowD (xss : List (List Int)) (n : Nat) (D : List Int) : List Int := rowK xss n D xss.length
theorem rowK_zero (xss : List (List Int)) (n : Nat) (D : List Int) : rowK xss n D 0 = [] := by simp [rowK]
theorem rowK_len (xss : List (List Int)) (n : Nat) (D : List Int) (k : Nat) : (rowK xss n D k).length ≤ n ∧ (rowK xss n D k).length ≤ k := by
  unfold rowK
  rw [List.length_map, List.length_take]
  have := List.length_filter_le (readyD xss D) (List.range k)
  rw [List.length_range] at this
  omega
theorem rowK_full {xss : List (List Int)} {n : Nat} {D : List Int} {k : Nat} (h : ¬ (rowK xss n D k).length < n) : rowK xss n D (k + 1) = rowK xss n D k := by
  unfold rowK at *
  rw [List.length_map, List.length_take] at h
  rw [List.range_succ, List.filter_append, List.take_append_of_le_length (by omega)]
theorem rowK_no {xss : List (List Int)} {n : Nat} {D : List Int} {k : Nat} (h : readyD xss D k = false) : rowK xss n D (k + 1) = rowK xss n D k := by
  unfold rowK
  rw [List.range_succ, List.filter_append]
  simp [h]
theorem rowK_yes {xss : List (List Int)} {n : Nat} {D : List Int} {k : Nat} (h : readyD xss D k = true) (hl : (rowK xss n D k).length < n) : rowK xss n D (k + 1) = rowK xss n D k ++ [(k : Int)] := by
  unfold rowK at *
  rw [List.length_map, List.length_take] at hl
  rw [List.range_succ, List.filter_append]
  simp only [List.filter_cons, h, if_true, List.filter_nil]
  have hle : ((List.range k).filter (readyD xss D)).length < n := by omega
  rw [List.take_of_length_le (l := _ ++ _) (by simp; omega), List.take_of_length_le (by omega)]
  simp
theorem rowD_mem {xss : List (List Int)} {n : Nat} {D : List Int} {x : Int} (h : x ∈ rowD xss n D) : ∃ i : Nat, x = i ∧ i < xss.length ∧ readyD xss D i = true := by
  unfold rowD rowK at h
  simp only [List.mem_map] at h
  obtain ⟨i, hi, rfl⟩ := h
  have := List.mem_of_mem_take hi
  simp only [List.mem_filter, List.mem_range] at this
  exact ⟨i, rfl, this.1, this.2⟩

/-- In which row each thing is, and 1. -/
def rsOk (n : Nat) (D : List Int) (row : Int) (rs : List Int) : Prop := rs.length = n ∧ ∀ i, i < n → ∃ r, rs[i]? = some r ∧ 0 ≤ r ∧ r ≤ row ∧ (0 < r ↔ D.contains (i : Int) = true)

set_option maxHeartbeats 2000000 in
theorem plan_ready_g (xss : List (List Int)) (hs : xss.length ≤ 1000) (hs2 : ∀ l ∈ xss, l.length ≤ 1000000) (hok : okB 0 xss = true) (D : List Int) (i : Nat) (hi : i < xss.length) (row : Int) (rs : List Int) (hrs : rsOk xss.length D row rs)
    (σ : St) (ip j : Nat) (h1 : σ[ip]? = some (.obj 0 [aInts2 xss, .ms j 0 0 xss.length 1])) (h2 : σ[j]? = some (.obj 0 (rs.map aInt))) :
    FnG Try.prog 114 [.ref ip 0 0, aInt i, aInt row] σ fun a σ' => a = aBool (readyD xss D i) ∧ σ' = σ := by
  refine fnG_in K_span_plan_ready mixed rfl ?_
  simp only [S_span_plan_ready, aInt]
  obtain ⟨x, hx, hx0, hx1, hxD⟩ := hrs.2 i hi
  obtain ⟨l, hl⟩ := at_lt hi
  have hll := hs2 l (List.mem_of_getElem? hl)
  have hG : xss.getD i [] = l := by simp [List.getD_eq_getElem?_getD, hl]
  by_cases hp : 0 < x
  · simp (maxSteps := 1000000) (implicitDefEqProofs := false) (disch := omega) only [push_cast, ↓reduceIte, Nat.reduceEqDiff, reduceCtorEq, decide_true, decide_false, Bool.not_true, Bool.not_false, Option.isNone_some, Option.isNone_none, List.drop_zero, List.drop_succ_cons, List.getElem?_cons_zero, List.getElem?_cons_succ, List.length_cons, List.length_nil, List.take_succ_cons, List.take_zero, Nat.mul_one, Nat.zero_add, Nat.add_zero, Nat.one_mul, Nat.zero_mul, List.getElem?_map, List.getElem?_drop, List.getElem?_take, List.length_map, Option.map_some, List.set_cons_zero, List.set_cons_succ, and_true, true_and, List.flatMap_cons, List.flatMap_nil, Bool.not_not, h1, h2, hx, aInt]
    have := hxD.1 hp
    rw [show readyD xss D i = false by unfold readyD; rw [this]; rfl]; rfl
  · have hD : D.contains (i : Int) = false := by
      rw [← Bool.not_eq_true]; exact fun h => hp (hxD.2 h)
    have hR : readyD xss D i = l.all fun p => D.contains p := by unfold readyD; rw [hD, hG]; rfl
    simp (maxSteps := 1000000) (implicitDefEqProofs := false) (disch := omega) only [push_cast, ↓reduceIte, Nat.reduceEqDiff, reduceCtorEq, decide_true, decide_false, Bool.not_true, Bool.not_false, Option.isNone_some, Option.isNone_none, List.drop_zero, List.drop_succ_cons, List.getElem?_cons_zero, List.getElem?_cons_succ, List.length_cons, List.length_nil, List.take_succ_cons, List.take_zero, Nat.mul_one, Nat.zero_add, Nat.add_zero, Nat.one_mul, Nat.zero_mul, List.getElem?_map, List.getElem?_drop, List.getElem?_take, List.length_map, Option.map_some, List.set_cons_zero, List.set_cons_succ, and_true, true_and, List.flatMap_cons, List.flatMap_nil, Bool.not_not, h1, h2, hx, aInt, aInts2, aSl, hl, aInts]
    refine wpa_bl (α := Nat) (I := fun t ε σ' => (ε 0 = .ref ip 0 0 ∧ ε 2 = .v (.int .i64 row) ∧ ε 23 = .sl l.length (l.map aInt) .none ∧ ε 24 = .v (.int .i64 l.length) ∧ ε 25 = .v (.int .i64 t)) ∧ t ≤ l.length ∧
        (l.take t).all (fun p => D.contains p) = true ∧ σ' = σ)
      (μ := fun t => l.length - t) (Q := fun _ σ' => l.all (fun p => D.contains p) = true ∧ σ' = σ) (x := 0) ?_ ?_ ?_
    · simp (maxSteps := 1000000) (implicitDefEqProofs := false) (disch := omega) only [push_cast, ↓reduceIte, Nat.reduceEqDiff, reduceCtorEq, decide_true, decide_false, Bool.not_true, Bool.not_false, Option.isNone_some, Option.isNone_none, List.drop_zero, List.drop_succ_cons, List.getElem?_cons_zero, List.getElem?_cons_succ, List.length_cons, List.length_nil, List.take_succ_cons, List.take_zero, Nat.mul_one, Nat.zero_add, Nat.add_zero, Nat.one_mul, Nat.zero_mul, List.getElem?_map, List.getElem?_drop, List.getElem?_take, List.length_map, Option.map_some, List.set_cons_zero, List.set_cons_succ, and_true, true_and, List.flatMap_cons, List.flatMap_nil, Bool.not_not]
      exact ⟨by omega, by simp⟩
    · rintro t ε σ' N E ⟨hρ, ht, hall, rfl⟩ hN hE
      simp only [S_span_plan_ready_L1]
      by_cases htl : t < l.length
      · obtain ⟨p, hp⟩ := at_lt htl
        have hpm := List.mem_of_getElem? hp
        have hpk := okB_at hok hl p hpm
        obtain ⟨q, rfl⟩ : ∃ q : Nat, p = q := ⟨p.toNat, by omega⟩
        obtain ⟨y, hy, hy0, hy1, hyD⟩ := hrs.2 q (by omega)
        by_cases hz : y = 0
        · have hc : D.contains (q : Int) = false := by
            rw [← Bool.not_eq_true]; exact fun h => by have := hyD.2 h; omega
          simp (maxSteps := 1000000) (implicitDefEqProofs := false) (disch := omega) only [push_cast, ↓reduceIte, Nat.reduceEqDiff, reduceCtorEq, decide_true, decide_false, Bool.not_true, Bool.not_false, Option.isNone_some, Option.isNone_none, List.drop_zero, List.drop_succ_cons, List.getElem?_cons_zero, List.getElem?_cons_succ, List.length_cons, List.length_nil, List.take_succ_cons, List.take_zero, Nat.mul_one, Nat.zero_add, Nat.add_zero, Nat.one_mul, Nat.zero_mul, List.getElem?_map, List.getElem?_drop, List.getElem?_take, List.length_map, Option.map_some, List.set_cons_zero, List.set_cons_succ, and_true, true_and, List.flatMap_cons, List.flatMap_nil, Bool.not_not, hρ, hp, h1, h2, hy, hz, aInt]
          have : (l.all fun p => D.contains p) = false := by rw [List.all_eq_false]; exact ⟨_, hpm, by rw [hc]; simp⟩
          rw [hR, this]; rfl
        · have hc : D.contains (q : Int) = true := hyD.1 (by omega)
          simp (maxSteps := 1000000) (implicitDefEqProofs := false) (disch := omega) only [push_cast, ↓reduceIte, Nat.reduceEqDiff, reduceCtorEq, decide_true, decide_false, Bool.not_true, Bool.not_false, Option.isNone_some, Option.isNone_none, List.drop_zero, List.drop_succ_cons, List.getElem?_cons_zero, List.getElem?_cons_succ, List.length_cons, List.length_nil, List.take_succ_cons, List.take_zero, Nat.mul_one, Nat.zero_add, Nat.add_zero, Nat.one_mul, Nat.zero_mul, List.getElem?_map, List.getElem?_drop, List.getElem?_take, List.length_map, Option.map_some, List.set_cons_zero, List.set_cons_succ, and_true, true_and, List.flatMap_cons, List.flatMap_nil, Bool.not_not, hρ, hp, h1, h2, hy, hz, aInt]
          refine hN (t + 1) _ _ ?_ (by omega)
          simp (maxSteps := 1000000) (implicitDefEqProofs := false) (disch := omega) only [push_cast, ↓reduceIte, Nat.reduceEqDiff, reduceCtorEq, decide_true, decide_false, Bool.not_true, Bool.not_false, Option.isNone_some, Option.isNone_none, List.drop_zero, List.drop_succ_cons, List.getElem?_cons_zero, List.getElem?_cons_succ, List.length_cons, List.length_nil, List.take_succ_cons, List.take_zero, Nat.mul_one, Nat.zero_add, Nat.add_zero, Nat.one_mul, Nat.zero_mul, List.getElem?_map, List.getElem?_drop, List.getElem?_take, List.length_map, Option.map_some, List.set_cons_zero, List.set_cons_succ, and_true, true_and, List.flatMap_cons, List.flatMap_nil, Bool.not_not, hρ]
          refine ⟨by omega, ?_⟩
          rw [take_succ_at hp, List.all_append, hall]
          simp only [List.all_cons, List.all_nil, Bool.and_true, Bool.true_and]
          exact hc
      · simp (maxSteps := 1000000) (implicitDefEqProofs := false) (disch := omega) only [push_cast, ↓reduceIte, Nat.reduceEqDiff, reduceCtorEq, decide_true, decide_false, Bool.not_true, Bool.not_false, Option.isNone_some, Option.isNone_none, List.drop_zero, List.drop_succ_cons, List.getElem?_cons_zero, List.getElem?_cons_succ, List.length_cons, List.length_nil, List.take_succ_cons, List.take_zero, Nat.mul_one, Nat.zero_add, Nat.add_zero, Nat.one_mul, Nat.zero_mul, List.getElem?_map, List.getElem?_drop, List.getElem?_take, List.length_map, Option.map_some, List.set_cons_zero, List.set_cons_succ, and_true, true_and, List.flatMap_cons, List.flatMap_nil, Bool.not_not, hρ]
        refine hE _ _ ?_
        rw [List.take_of_length_le (by omega)] at hall
        exact ⟨hall, rfl⟩
    · rintro ε σ' ⟨hall, rfl⟩
      simp (maxSteps := 1000000) (implicitDefEqProofs := false) (disch := omega) only [push_cast, ↓reduceIte, Nat.reduceEqDiff, reduceCtorEq, decide_true, decide_false, Bool.not_true, Bool.not_false, Option.isNone_some, Option.isNone_none, List.drop_zero, List.drop_succ_cons, List.getElem?_cons_zero, List.getElem?_cons_succ, List.length_cons, List.length_nil, List.take_succ_cons, List.take_zero, Nat.mul_one, Nat.zero_add, Nat.add_zero, Nat.one_mul, Nat.zero_mul, List.getElem?_map, List.getElem?_drop, List.getElem?_take, List.length_map, Option.map_some, List.set_cons_zero, List.set_cons_succ, and_true, true_and, List.flatMap_cons, List.flatMap_nil, Bool.not_not]
      rw [hR, hall]; rfl
end Go.Proofs.Ytilofhocodbknaa
