/- Rxa Rxb:5-93 Rxc Rxd:5-83 Rxh Rxl:159-160 Rxm:5-130 Rxn Rxo:5-34 -/
import Derived.Test.YthgmfjkbgacfaaaVm
import Derived.Test.YthgmfjkbgacfaaaCReach
import Derived.Test.YthgmfjkbgacfaaaVw
namespace Go.Proofs.Ythgmfjkbgacfaaa.Rx
set_option linter.unusedVariables false
set_option linter.unusedSimpArgs false
open Go Go.Kx Go.Proofs
section
theorem mixed : Try.prog.follows .mixedOrders = true := by kernel_rfl
theorem drop_at {α : Type} {l : List α} {k : Nat} {a : α} (h : l[k]? = some a) : l.drop k = a :: l.drop (k + 1) := by
  obtain ⟨hlt, rfl⟩ := List.getElem?_eq_some_iff.1 h
  exact List.drop_eq_getElem_cons hlt
theorem at_lt {α : Type} {l : List α} {k : Nat} (h : k < l.length) : ∃ a, l[k]? = some a := ⟨_, List.getElem?_eq_getElem h⟩

def okPs (i : Nat) (l : List Int) : Bool := l.all fun p => decide (0 ≤ p) && decide (p < (i : Int))
def okB : Nat → List (List Int) → Bool
  | _, [] => true
  | i, l :: ls => okPs i l && okB (i + 1) ls
/-- What is wrong with predecessors. -/
def chk (xss : List (List Int)) : Int := if 1000 < xss.length then 9 else if okB 0 xss then 0 else 3

theorem reach_check_a (xss : List (List Int)) (hs : xss.length ≤ 1000000) (hs2 : ∀ l ∈ xss, l.length ≤ 1000000) : FnP Try.prog 75 [aInts2 xss] fun a => a = aInt (chk xss) := by
  refine fnP_in K_reach_check mixed rfl (by simp [AV.pureL, aInts2_pure]) ?_
  simp only [S_reach_check, aInts2, aSl]
  simp (maxSteps := 1000000) (implicitDefEqProofs := false) (disch := omega) only [push_cast, ↓reduceIte, Nat.reduceEqDiff, reduceCtorEq, decide_true, decide_false, Bool.not_true, Bool.not_false, Option.isNone_some, Option.isNone_none, List.drop_zero, List.drop_succ_cons, List.getElem?_cons_zero, List.getElem?_cons_succ, List.length_cons, List.length_nil, List.take_succ_cons, List.take_zero, Nat.mul_one, Nat.zero_add, Nat.add_zero, Nat.one_mul, Nat.zero_mul, List.getElem?_map, List.getElem?_drop, List.getElem?_take, List.length_map, Option.map_some, List.set_cons_zero, List.set_cons_succ, and_true, true_and, List.flatMap_cons, List.flatMap_nil, Bool.not_not]
  refine cndA_dec (fun hgt => ?_) (fun hgt => ?_)
  · simp (maxSteps := 1000000) (implicitDefEqProofs := false) (disch := omega) only [push_cast, ↓reduceIte, Nat.reduceEqDiff, reduceCtorEq, decide_true, decide_false, Bool.not_true, Bool.not_false, Option.isNone_some, Option.isNone_none, List.drop_zero, List.drop_succ_cons, List.getElem?_cons_zero, List.getElem?_cons_succ, List.length_cons, List.length_nil, List.take_succ_cons, List.take_zero, Nat.mul_one, Nat.zero_add, Nat.add_zero, Nat.one_mul, Nat.zero_mul, List.getElem?_map, List.getElem?_drop, List.getElem?_take, List.length_map, Option.map_some, List.set_cons_zero, List.set_cons_succ, and_true, true_and, List.flatMap_cons, List.flatMap_nil, Bool.not_not]
    exact fin_v (by simp [aInt, chk, show 1000 < xss.length by omega])
  · simp (maxSteps := 1000000) (implicitDefEqProofs := false) (disch := omega) only [push_cast, ↓reduceIte, Nat.reduceEqDiff, reduceCtorEq, decide_true, decide_false, Bool.not_true, Bool.not_false, Option.isNone_some, Option.isNone_none, List.drop_zero, List.drop_succ_cons, List.getElem?_cons_zero, List.getElem?_cons_succ, List.length_cons, List.length_nil, List.take_succ_cons, List.take_zero, Nat.mul_one, Nat.zero_add, Nat.add_zero, Nat.one_mul, Nat.zero_mul, List.getElem?_map, List.getElem?_drop, List.getElem?_take, List.length_map, Option.map_some, List.set_cons_zero, List.set_cons_succ, and_true, true_and, List.flatMap_cons, List.flatMap_nil, Bool.not_not]
    refine wpa_bl (α := Nat) (I := fun k ε σ => (ε 10 = .sl xss.length (xss.map aInts) .none ∧ ε 11 = .v (.int .i64 xss.length) ∧ ε 12 = .v (.int .i64 k)) ∧ k ≤ xss.length ∧ okB 0 xss = okB k (xss.drop k))
      (μ := fun k => xss.length - k) (Q := fun _ _ => okB 0 xss = true) (x := 0) ?_ ?_ ?_
    · simp (maxSteps := 1000000) (implicitDefEqProofs := false) (disch := omega) only [push_cast, ↓reduceIte, Nat.reduceEqDiff, reduceCtorEq, decide_true, decide_false, Bool.not_true, Bool.not_false, Option.isNone_some, Option.isNone_none, List.drop_zero, List.drop_succ_cons, List.getElem?_cons_zero, List.getElem?_cons_succ, List.length_cons, List.length_nil, List.take_succ_cons, List.take_zero, Nat.mul_one, Nat.zero_add, Nat.add_zero, Nat.one_mul, Nat.zero_mul, List.getElem?_map, List.getElem?_drop, List.getElem?_take, List.length_map, Option.map_some, List.set_cons_zero, List.set_cons_succ, and_true, true_and, List.flatMap_cons, List.flatMap_nil, Bool.not_not]
      omega
    · rintro k ε σ N E ⟨hρ, hk, hok⟩ hN hE
      simp only [S_reach_check_L1]
      by_cases hlt : k < xss.length
      · obtain ⟨l, hl⟩ := at_lt hlt
        rw [drop_at hl] at hok
        have hll := hs2 l (List.mem_of_getElem? hl)
        simp (maxSteps := 1000000) (implicitDefEqProofs := false) (disch := omega) only [push_cast, ↓reduceIte, Nat.reduceEqDiff, reduceCtorEq, decide_true, decide_false, Bool.not_true, Bool.not_false, Option.isNone_some, Option.isNone_none, List.drop_zero, List.drop_succ_cons, List.getElem?_cons_zero, List.getElem?_cons_succ, List.length_cons, List.length_nil, List.take_succ_cons, List.take_zero, Nat.mul_one, Nat.zero_add, Nat.add_zero, Nat.one_mul, Nat.zero_mul, List.getElem?_map, List.getElem?_drop, List.getElem?_take, List.length_map, Option.map_some, List.set_cons_zero, List.set_cons_succ, and_true, true_and, List.flatMap_cons, List.flatMap_nil, Bool.not_not, hρ, hl, aInts, aSl]
        refine wpa_bl (α := Nat) (I := fun j ε σ => (ε 10 = .sl xss.length (xss.map aInts) .none ∧ ε 11 = .v (.int .i64 xss.length) ∧ ε 12 = .v (.int .i64 k) ∧ ε 3 = .v (.int .i64 k) ∧
            ε 17 = .sl l.length (l.map aInt) .none ∧ ε 18 = .v (.int .i64 l.length) ∧ ε 19 = .v (.int .i64 j)) ∧ j ≤ l.length ∧ okPs k l = okPs k (l.drop j))
          (μ := fun j => l.length - j) (Q := fun ε _ => (ε 10 = .sl xss.length (xss.map aInts) .none ∧ ε 11 = .v (.int .i64 xss.length) ∧ ε 12 = .v (.int .i64 k)) ∧ okPs k l = true) (x := 0) ?_ ?_ ?_
        · simp (maxSteps := 1000000) (implicitDefEqProofs := false) (disch := omega) only [push_cast, ↓reduceIte, Nat.reduceEqDiff, reduceCtorEq, decide_true, decide_false, Bool.not_true, Bool.not_false, Option.isNone_some, Option.isNone_none, List.drop_zero, List.drop_succ_cons, List.getElem?_cons_zero, List.getElem?_cons_succ, List.length_cons, List.length_nil, List.take_succ_cons, List.take_zero, Nat.mul_one, Nat.zero_add, Nat.add_zero, Nat.one_mul, Nat.zero_mul, List.getElem?_map, List.getElem?_drop, List.getElem?_take, List.length_map, Option.map_some, List.set_cons_zero, List.set_cons_succ, and_true, true_and, List.flatMap_cons, List.flatMap_nil, Bool.not_not, hρ]
          omega
        · rintro j ε σ N' E' ⟨hρ, hj, hps⟩ hN' hE'
          simp only [S_reach_check_L2]
          by_cases hjl : j < l.length
          · obtain ⟨p, hp⟩ := at_lt hjl
            rw [drop_at hp] at hps
            simp only [okPs, List.all_cons] at hps
            by_cases hb : 0 ≤ p ∧ p < (k : Int)
            · simp (maxSteps := 1000000) (implicitDefEqProofs := false) (disch := omega) only [push_cast, ↓reduceIte, Nat.reduceEqDiff, reduceCtorEq, decide_true, decide_false, Bool.not_true, Bool.not_false, Option.isNone_some, Option.isNone_none, List.drop_zero, List.drop_succ_cons, List.getElem?_cons_zero, List.getElem?_cons_succ, List.length_cons, List.length_nil, List.take_succ_cons, List.take_zero, Nat.mul_one, Nat.zero_add, Nat.add_zero, Nat.one_mul, Nat.zero_mul, List.getElem?_map, List.getElem?_drop, List.getElem?_take, List.length_map, Option.map_some, List.set_cons_zero, List.set_cons_succ, and_true, true_and, List.flatMap_cons, List.flatMap_nil, Bool.not_not, hρ, hp, aInt]
              refine hN' (j + 1) _ _ ?_ (by omega)
              simp (maxSteps := 1000000) (implicitDefEqProofs := false) (disch := omega) only [push_cast, ↓reduceIte, Nat.reduceEqDiff, reduceCtorEq, decide_true, decide_false, Bool.not_true, Bool.not_false, Option.isNone_some, Option.isNone_none, List.drop_zero, List.drop_succ_cons, List.getElem?_cons_zero, List.getElem?_cons_succ, List.length_cons, List.length_nil, List.take_succ_cons, List.take_zero, Nat.mul_one, Nat.zero_add, Nat.add_zero, Nat.one_mul, Nat.zero_mul, List.getElem?_map, List.getElem?_drop, List.getElem?_take, List.length_map, Option.map_some, List.set_cons_zero, List.set_cons_succ, and_true, true_and, List.flatMap_cons, List.flatMap_nil, Bool.not_not, hρ]
              refine ⟨by omega, ?_⟩
              simpa [okPs, hb] using hps
            · have hbad : okB 0 xss = false := by
                rw [hok]
                have : okPs k l = false := by
                  unfold okPs
                  rw [hps]
                  simp only [Bool.and_eq_false_iff, decide_eq_false_iff_not]
                  exact .inl (by omega)
                simp [okB, this]
              by_cases hb0 : p < 0
              · simp (maxSteps := 1000000) (implicitDefEqProofs := false) (disch := omega) only [push_cast, ↓reduceIte, Nat.reduceEqDiff, reduceCtorEq, decide_true, decide_false, Bool.not_true, Bool.not_false, Option.isNone_some, Option.isNone_none, List.drop_zero, List.drop_succ_cons, List.getElem?_cons_zero, List.getElem?_cons_succ, List.length_cons, List.length_nil, List.take_succ_cons, List.take_zero, Nat.mul_one, Nat.zero_add, Nat.add_zero, Nat.one_mul, Nat.zero_mul, List.getElem?_map, List.getElem?_drop, List.getElem?_take, List.length_map, Option.map_some, List.set_cons_zero, List.set_cons_succ, and_true, true_and, List.flatMap_cons, List.flatMap_nil, Bool.not_not, hρ, hp, aInt]
                exact fin_v (by simp [aInt, chk, hbad, show ¬ 1000 < xss.length by omega])
              · simp (maxSteps := 1000000) (implicitDefEqProofs := false) (disch := omega) only [push_cast, ↓reduceIte, Nat.reduceEqDiff, reduceCtorEq, decide_true, decide_false, Bool.not_true, Bool.not_false, Option.isNone_some, Option.isNone_none, List.drop_zero, List.drop_succ_cons, List.getElem?_cons_zero, List.getElem?_cons_succ, List.length_cons, List.length_nil, List.take_succ_cons, List.take_zero, Nat.mul_one, Nat.zero_add, Nat.add_zero, Nat.one_mul, Nat.zero_mul, List.getElem?_map, List.getElem?_drop, List.getElem?_take, List.length_map, Option.map_some, List.set_cons_zero, List.set_cons_succ, and_true, true_and, List.flatMap_cons, List.flatMap_nil, Bool.not_not, hρ, hp, aInt]
                exact fin_v (by simp [aInt, chk, hbad, show ¬ 1000 < xss.length by omega])
          · simp (maxSteps := 1000000) (implicitDefEqProofs := false) (disch := omega) only [push_cast, ↓reduceIte, Nat.reduceEqDiff, reduceCtorEq, decide_true, decide_false, Bool.not_true, Bool.not_false, Option.isNone_some, Option.isNone_none, List.drop_zero, List.drop_succ_cons, List.getElem?_cons_zero, List.getElem?_cons_succ, List.length_cons, List.length_nil, List.take_succ_cons, List.take_zero, Nat.mul_one, Nat.zero_add, Nat.add_zero, Nat.one_mul, Nat.zero_mul, List.getElem?_map, List.getElem?_drop, List.getElem?_take, List.length_map, Option.map_some, List.set_cons_zero, List.set_cons_succ, and_true, true_and, List.flatMap_cons, List.flatMap_nil, Bool.not_not, hρ]
            refine hE' _ _ ?_
            simp (maxSteps := 1000000) (implicitDefEqProofs := false) (disch := omega) only [push_cast, ↓reduceIte, Nat.reduceEqDiff, reduceCtorEq, decide_true, decide_false, Bool.not_true, Bool.not_false, Option.isNone_some, Option.isNone_none, List.drop_zero, List.drop_succ_cons, List.getElem?_cons_zero, List.getElem?_cons_succ, List.length_cons, List.length_nil, List.take_succ_cons, List.take_zero, Nat.mul_one, Nat.zero_add, Nat.add_zero, Nat.one_mul, Nat.zero_mul, List.getElem?_map, List.getElem?_drop, List.getElem?_take, List.length_map, Option.map_some, List.set_cons_zero, List.set_cons_succ, and_true, true_and, List.flatMap_cons, List.flatMap_nil, Bool.not_not, hρ]
            rw [hps, List.drop_of_length_le (by omega)]
            rfl
        · rintro ε σ ⟨hρ, hps⟩
          simp (maxSteps := 1000000) (implicitDefEqProofs := false) (disch := omega) only [push_cast, ↓reduceIte, Nat.reduceEqDiff, reduceCtorEq, decide_true, decide_false, Bool.not_true, Bool.not_false, Option.isNone_some, Option.isNone_none, List.drop_zero, List.drop_succ_cons, List.getElem?_cons_zero, List.getElem?_cons_succ, List.length_cons, List.length_nil, List.take_succ_cons, List.take_zero, Nat.mul_one, Nat.zero_add, Nat.add_zero, Nat.one_mul, Nat.zero_mul, List.getElem?_map, List.getElem?_drop, List.getElem?_take, List.length_map, Option.map_some, List.set_cons_zero, List.set_cons_succ, and_true, true_and, List.flatMap_cons, List.flatMap_nil, Bool.not_not, hρ]
          refine hN (k + 1) _ _ ?_ (by omega)
          simp (maxSteps := 1000000) (implicitDefEqProofs := false) (disch := omega) only [push_cast, ↓reduceIte, Nat.reduceEqDiff, reduceCtorEq, decide_true, decide_false, Bool.not_true, Bool.not_false, Option.isNone_some, Option.isNone_none, List.drop_zero, List.drop_succ_cons, List.getElem?_cons_zero, List.getElem?_cons_succ, List.length_cons, List.length_nil, List.take_succ_cons, List.take_zero, Nat.mul_one, Nat.zero_add, Nat.add_zero, Nat.one_mul, Nat.zero_mul, List.getElem?_map, List.getElem?_drop, List.getElem?_take, List.length_map, Option.map_some, List.set_cons_zero, List.set_cons_succ, and_true, true_and, List.flatMap_cons, List.flatMap_nil, Bool.not_not, hρ]
          refine ⟨by omega, ?_⟩
          simpa [okB, hps] using hok
      · simp (maxSteps := 1000000) (implicitDefEqProofs := false) (disch := omega) only [push_cast, ↓reduceIte, Nat.reduceEqDiff, reduceCtorEq, decide_true, decide_false, Bool.not_true, Bool.not_false, Option.isNone_some, Option.isNone_none, List.drop_zero, List.drop_succ_cons, List.getElem?_cons_zero, List.getElem?_cons_succ, List.length_cons, List.length_nil, List.take_succ_cons, List.take_zero, Nat.mul_one, Nat.zero_add, Nat.add_zero, Nat.one_mul, Nat.zero_mul, List.getElem?_map, List.getElem?_drop, List.getElem?_take, List.length_map, Option.map_some, List.set_cons_zero, List.set_cons_succ, and_true, true_and, List.flatMap_cons, List.flatMap_nil, Bool.not_not, hρ]
        refine hE _ _ ?_
        rw [hok, List.drop_of_length_le (by omega)]
        rfl
    · intro ε σ hok
      simp (maxSteps := 1000000) (implicitDefEqProofs := false) (disch := omega) only [push_cast, ↓reduceIte, Nat.reduceEqDiff, reduceCtorEq, decide_true, decide_false, Bool.not_true, Bool.not_false, Option.isNone_some, Option.isNone_none, List.drop_zero, List.drop_succ_cons, List.getElem?_cons_zero, List.getElem?_cons_succ, List.length_cons, List.length_nil, List.take_succ_cons, List.take_zero, Nat.mul_one, Nat.zero_add, Nat.add_zero, Nat.one_mul, Nat.zero_mul, List.getElem?_map, List.getElem?_drop, List.getElem?_take, List.length_map, Option.map_some, List.set_cons_zero, List.set_cons_succ, and_true, true_and, List.flatMap_cons, List.flatMap_nil, Bool.not_not]
      exact fin_v (by simp [aInt, chk, hok]; omega)
end
section
theorem set_mid {α : Type} {A B : List α} {x y : α} {k : Nat} (h : k = A.length) : (A ++ x :: B).set k y = A ++ y :: B := by
  subst h; simp
theorem get_mid {α : Type} {A B : List α} {x : α} {k : Nat} (h : k = A.length) : (A ++ x :: B)[k]? = some x := by
  subst h; simp
theorem set_midI {A B : List Int} {x y : Int} {k : Nat} (h : k = A.length) : ((A ++ x :: B).map aInt).set k (.v (.int .i64 y)) = (A ++ y :: B).map aInt := by
  rw [← set_mid (x := x) (y := y) h, List.map_set]; rfl
theorem get_left {α : Type} {A B : List α} {k : Nat} (h : k < A.length) : (A ++ B)[k]? = A[k]? := List.getElem?_append_left h

def rankP (rs : List Int) (l : List Int) : Int := l.foldl (fun m p => max m (rs.getD p.toNat 0)) 0
/-- For each thing the greatest sum of weights of a row that ends with it. -/
def rkF (w : Nat → Int) (xss : List (List Int)) : List Int := xss.foldl (fun rs l => rs ++ [rankP rs l + w rs.length]) []
def ranks (xss : List (List Int)) : List Int := rkF (fun _ => 1) xss
def maxL (l : List Int) : Int := l.foldl max 0
theorem rkF_snoc (w : Nat → Int) (xss : List (List Int)) (l : List Int) : rkF w (xss ++ [l]) = rkF w xss ++ [rankP (rkF w xss) l + w (rkF w xss).length] := by simp [rkF]
theorem maxL_snoc (l : List Int) (x : Int) : maxL (l ++ [x]) = max (maxL l) x := by simp [maxL]
theorem rankP_snoc (rs : List Int) (l : List Int) (p : Int) : rankP rs (l ++ [p]) = max (rankP rs l) (rs.getD p.toNat 0) := by simp [rankP]
theorem rankP_bd (rs : List Int) (M : Int) (h0 : 0 ≤ M) (h : ∀ r ∈ rs, r ≤ M) (l : List Int) : 0 ≤ rankP rs l ∧ rankP rs l ≤ M := by
  unfold rankP
  suffices H : ∀ (l : List Int) (a : Int), 0 ≤ a → a ≤ M → 0 ≤ l.foldl (fun m p => max m (rs.getD p.toNat 0)) a ∧ l.foldl (fun m p => max m (rs.getD p.toNat 0)) a ≤ M from H l 0 (Int.le_refl _) h0
  intro l
  induction l with
  | nil => intro a h1 h2; exact ⟨h1, h2⟩
  | cons x xs ih =>
    intro a h1 h2
    simp only [List.foldl_cons]
    have : rs.getD x.toNat 0 ≤ M := by
      rw [List.getD_eq_getElem?_getD]
      cases hx : rs[x.toNat]? with
      | none => simpa using h0
      | some r => exact h r (List.mem_of_getElem? hx)
    exact ih _ (by omega) (by omega)
theorem snoc_ind {α : Type} {P : List α → Prop} (h0 : P []) (hs : ∀ xs l, P xs → P (xs ++ [l])) (xs : List α) : P xs := by
  have : ∀ n, ∀ xs : List α, xs.length = n → P xs := by
    intro n
    induction n with
    | zero => intro xs h; rw [List.eq_nil_of_length_eq_zero h]; exact h0
    | succ n ih =>
      intro xs h
      have hne : xs ≠ [] := by intro e; subst e; simp at h
      rw [← List.dropLast_concat_getLast hne]
      exact hs _ _ (ih _ (by simp; omega))
  exact this _ xs rfl
theorem rkF_len (w : Nat → Int) (xss : List (List Int)) : (rkF w xss).length = xss.length := by
  induction xss using snoc_ind with
  | h0 => rfl
  | hs xs l ih => rw [rkF_snoc]; simp [ih]
theorem ranks_bd (xss : List (List Int)) : ∀ r ∈ ranks xss, 1 ≤ r ∧ r ≤ xss.length := by
  induction xss using snoc_ind with
  | h0 => intro r hr; simp [ranks, rkF] at hr
  | hs xs l ih =>
    intro r hr
    rw [ranks, rkF_snoc, List.mem_append] at hr
    rw [List.length_append, List.length_singleton]
    rcases hr with hr | hr
    · have := ih r hr; omega
    · simp only [List.mem_singleton] at hr
      have := rankP_bd (ranks xs) xs.length (by omega) (fun r hr => (ih r hr).2) l
      rw [ranks] at this
      omega
theorem take_succ_at {α : Type} {l : List α} {k : Nat} {a : α} (h : l[k]? = some a) : l.take (k + 1) = l.take k ++ [a] := by
  obtain ⟨hlt, rfl⟩ := List.getElem?_eq_some_iff.1 h
  exact List.take_succ_eq_append_getElem hlt
theorem okB_at {xss : List (List Int)} : ∀ {i : Nat}, okB i xss = true → ∀ {k : Nat} {l : List Int}, xss[k]? = some l → ∀ p ∈ l, 0 ≤ p ∧ p < ((i + k : Nat) : Int) := by
  induction xss with
  | nil => intro i _ k l h; simp at h
  | cons x xs ih =>
    intro i h k l hl p hp
    simp only [okB, Bool.and_eq_true] at h
    cases k with
    | zero =>
      simp at hl
      subst hl
      have := h.1
      simp only [okPs, List.all_eq_true, Bool.and_eq_true, decide_eq_true_eq] at this
      simpa using this p hp
    | succ k =>
      have := ih h.2 (by simpa using hl) p hp
      omega
theorem chk_zero {xss : List (List Int)} (h : chk xss = 0) : xss.length ≤ 1000 ∧ okB 0 xss = true := by
  unfold chk at h
  split at h
  · omega
  · split at h
    · exact ⟨by omega, by assumption⟩
    · omega
theorem rep_split {α : Type} (n k : Nat) (x : α) (h : k < n) : List.replicate (n - k) x = x :: List.replicate (n - (k + 1)) x := by
  rw [show n - k = (n - (k + 1)) + 1 by omega, List.replicate_succ]
end
section
def aU64 (w : Nat) : AV := .v (.int .u64 (w : Int))
def aU64s (ws : List Nat) : AV := aSl aU64 ws
theorem aU64_res (σ : St) (x : Nat) : (aU64 x).res σ = aU64 x := by simp [aU64, AV.res]
theorem aU64s_res (σ : St) (xs : List Nat) : (aU64s xs).res σ = aU64s xs := aSl_res (aU64_res σ) xs .none
theorem aU64_pure (x : Nat) : (aU64 x).pure = true := by simp [aU64, AV.pure]
theorem aU64s_pure (xs : List Nat) : (aU64s xs).pure = true := aSl_pure aU64_pure xs
theorem aU64L_res (σ : St) (ws : List Nat) : AV.resL σ (ws.map aU64) = ws.map aU64 := by
  rw [resL_map, List.map_map]; exact List.map_congr_left fun x _ => aU64_res σ x

abbrev W64 : Nat := 18446744073709551616
def orAt (s : List Nat) (i x : Nat) : List Nat := s.set i (orN (s.getD i 0) x)
def orK (s t : List Nat) : Nat → List Nat
  | 0 => s
  | k + 1 => orAt (orK s t k) k (t.getD k 0)
def addP (M : List (List Nat)) (s : List Nat) (p : Int) : List Nat := orK (orAt s (p.toNat / 64) (pow2 (p.toNat % 64))) (M.getD p.toNat []) (M.getD p.toNat []).length
def newRow (M : List (List Nat)) (i : Nat) (l : List Int) : List Nat := l.foldl (addP M) (List.replicate (i / 64 + 1) 0)
def mkM (xss : List (List Int)) : List (List Nat) := xss.foldl (fun M l => M ++ [newRow M M.length l]) []

def B64 (s : List Nat) : Prop := ∀ w ∈ s, w < 18446744073709551616
theorem B64.getD {s : List Nat} (h : B64 s) (i : Nat) : s.getD i 0 < 18446744073709551616 := by
  rw [List.getD_eq_getElem?_getD]
  cases hx : s[i]? with
  | none => simp
  | some w => exact h w (List.mem_of_getElem? hx)
theorem orN_lt {m n : Nat} (h1 : m < 18446744073709551616) (h2 : n < 18446744073709551616) : orN m n < 18446744073709551616 := Nat.or_lt_two_pow (n := 64) h1 h2
theorem pow2_lt {s : Nat} (h : s < 64) : pow2 s < 18446744073709551616 := by
  unfold pow2
  have : (2 : Nat) ^ s < 2 ^ 64 := Nat.pow_lt_pow_right (by omega) h
  simpa using this
theorem B64.orAt {s : List Nat} (h : B64 s) (i : Nat) {x : Nat} (hx : x < 18446744073709551616) : B64 (orAt s i x) := by
  intro w hw
  rcases List.mem_or_eq_of_mem_set hw with hw | hw
  · exact h w hw
  · rw [hw]; exact orN_lt (h.getD i) hx
theorem B64.orK {s t : List Nat} (h : B64 s) (ht : B64 t) (k : Nat) : B64 (orK s t k) := by
  induction k with
  | zero => exact h
  | succ k ih => exact ih.orAt k (ht.getD k)
theorem orAt_len (s : List Nat) (i x : Nat) : (orAt s i x).length = s.length := by simp [orAt]
theorem orK_len (s t : List Nat) (k : Nat) : (orK s t k).length = s.length := by
  induction k with
  | zero => rfl
  | succ k ih => simp [orK, orAt_len, ih]
theorem addP_len (M : List (List Nat)) (s : List Nat) (p : Int) : (addP M s p).length = s.length := by simp [addP, orK_len, orAt_len]
theorem row_len (M : List (List Nat)) (l : List Int) : ∀ (s : List Nat), (l.foldl (addP M) s).length = s.length := by
  induction l with
  | nil => intro s; rfl
  | cons p l ih => intro s; simp [ih, addP_len]
def B64s (M : List (List Nat)) : Prop := ∀ s ∈ M, B64 s
theorem B64s.getD {M : List (List Nat)} (h : B64s M) (i : Nat) : B64 (M.getD i []) := by
  rw [List.getD_eq_getElem?_getD]
  cases hx : M[i]? with
  | none => intro w hw; simp at hw
  | some w => exact h w (List.mem_of_getElem? hx)
theorem addP_B64 {M : List (List Nat)} (hM : B64s M) {s : List Nat} (hs : B64 s) (p : Int) : B64 (addP M s p) := (hs.orAt _ (pow2_lt (Nat.mod_lt _ (by omega)))).orK (hM.getD _) _
theorem row_B64 {M : List (List Nat)} (hM : B64s M) (l : List Int) : ∀ {s : List Nat}, B64 s → B64 (l.foldl (addP M) s) := by
  induction l with
  | nil => intro s hs; exact hs
  | cons p l ih => intro s hs; exact ih (addP_B64 hM hs p)
theorem mkM_snoc (xss : List (List Int)) (l : List Int) : mkM (xss ++ [l]) = mkM xss ++ [newRow (mkM xss) (mkM xss).length l] := by simp [mkM]
theorem mkM_len (xss : List (List Int)) : (mkM xss).length = xss.length := by
  induction xss using snoc_ind with
  | h0 => rfl
  | hs xs l ih => rw [mkM_snoc]; simp [ih]
theorem B64_rep (n : Nat) : B64 (List.replicate n 0) := by
  intro w hw
  rw [(List.mem_replicate.1 hw).2]; omega
theorem mkM_B64 (xss : List (List Int)) : B64s (mkM xss) := by
  induction xss using snoc_ind with
  | h0 => intro s hs; simp [mkM] at hs
  | hs xs l ih =>
    rw [mkM_snoc]
    intro s hs
    rcases List.mem_append.1 hs with hs | hs
    · exact ih s hs
    · simp only [List.mem_singleton] at hs
      subst hs
      exact row_B64 ih l (B64_rep _)
theorem mkM_at (xss : List (List Int)) : ∀ (i : Nat) (ws : List Nat), (mkM xss)[i]? = some ws → ws.length = i / 64 + 1 := by
  induction xss using snoc_ind with
  | h0 => intro i ws h; simp [mkM] at h
  | hs xs l ih =>
    intro i ws h
    rw [mkM_snoc] at h
    by_cases hi : i < (mkM xs).length
    · rw [List.getElem?_append_left hi] at h; exact ih i ws h
    · rw [List.getElem?_append_right (by omega)] at h
      have : i - (mkM xs).length = 0 := by have := (List.getElem?_eq_some_iff.1 h).1; simp at this; omega
      rw [this] at h
      simp at h
      subst h
      rw [newRow, row_len, List.length_replicate]
      have : i = (mkM xs).length := by omega
      rw [this]
theorem setU {s : List Nat} {i x : Nat} : (s.map aU64).set i (.v (.int .u64 (x : Nat))) = (s.set i x).map aU64 := by rw [List.map_set]; rfl
theorem div64 (a : Nat) : ((a : Int) / 64).toNat = a / 64 := by omega

/-- What lies ahead, as the program holds it. -/
def aReach (M : List (List Nat)) : AV := .ep [.sl M.length (M.map aU64s) .none]
theorem aReach_pure (M : List (List Nat)) : (aReach M).pure = true := by
  have := aSl_pure aU64s_pure M
  simp only [aSl] at this
  simp only [aReach, AV.pure, AV.pureL, Bool.and_true, Bool.true_and] at this ⊢
  exact this
theorem aReach_res (σ : St) (M : List (List Nat)) : (aReach M).res σ = aReach M := by
  have := aSl_res (aU64s_res σ) M .none
  simp only [aSl] at this
  simp only [aReach, AV.res, AV.resL] at this ⊢
  rw [this]

set_option maxHeartbeats 2000000 in
theorem reach_New_a (xss : List (List Int)) (hs : xss.length ≤ 1000000) (hs2 : ∀ l ∈ xss, l.length ≤ 1000000) :
    FnP Try.prog 37 [aInts2 xss] fun a => a = if chk xss = 0 then .tup [aReach (mkM xss), aInt 0] else .tup [.v (.pointer none), aInt (chk xss)] := by
  refine fnP_in K_reach_New mixed rfl (by simp [AV.pureL, aInts2_pure]) ?_
  simp only [S_reach_New]
  simp (maxSteps := 1000000) (implicitDefEqProofs := false) (disch := omega) only [push_cast, ↓reduceIte, Nat.reduceEqDiff, reduceCtorEq, decide_true, decide_false, Bool.not_true, Bool.not_false, Option.isNone_some, Option.isNone_none, List.drop_zero, List.drop_succ_cons, List.getElem?_cons_zero, List.getElem?_cons_succ, List.length_cons, List.length_nil, List.take_succ_cons, List.take_zero, Nat.mul_one, Nat.zero_add, Nat.add_zero, Nat.one_mul, Nat.zero_mul, List.getElem?_map, List.getElem?_drop, List.getElem?_take, List.length_map, Option.map_some, List.set_cons_zero, List.set_cons_succ, and_true, true_and, List.flatMap_cons, List.flatMap_nil, Bool.not_not]
  refine wpa_call (reach_check_a xss hs hs2) ?_
  rintro a rfl
  by_cases hc : chk xss = 0
  · obtain ⟨hl, hok⟩ := chk_zero hc
    simp (maxSteps := 1000000) (implicitDefEqProofs := false) (disch := omega) only [push_cast, ↓reduceIte, Nat.reduceEqDiff, reduceCtorEq, decide_true, decide_false, Bool.not_true, Bool.not_false, Option.isNone_some, Option.isNone_none, List.drop_zero, List.drop_succ_cons, List.getElem?_cons_zero, List.getElem?_cons_succ, List.length_cons, List.length_nil, List.take_succ_cons, List.take_zero, Nat.mul_one, Nat.zero_add, Nat.add_zero, Nat.one_mul, Nat.zero_mul, List.getElem?_map, List.getElem?_drop, List.getElem?_take, List.length_map, Option.map_some, List.set_cons_zero, List.set_cons_succ, and_true, true_and, List.flatMap_cons, List.flatMap_nil, Bool.not_not, aInt, aInts2, aSl, hc]
    refine wpa_box ?_
    simp (maxSteps := 1000000) (implicitDefEqProofs := false) (disch := omega) only [push_cast, ↓reduceIte, Nat.reduceEqDiff, reduceCtorEq, decide_true, decide_false, Bool.not_true, Bool.not_false, Option.isNone_some, Option.isNone_none, List.drop_zero, List.drop_succ_cons, List.getElem?_cons_zero, List.getElem?_cons_succ, List.length_cons, List.length_nil, List.take_succ_cons, List.take_zero, Nat.mul_one, Nat.zero_add, Nat.add_zero, Nat.one_mul, Nat.zero_mul, List.getElem?_map, List.getElem?_drop, List.getElem?_take, List.length_map, Option.map_some, List.set_cons_zero, List.set_cons_succ, and_true, true_and, List.flatMap_cons, List.flatMap_nil, Bool.not_not, AV.cells]
    refine wpa_blg (GU.tokO (i := 0) (j := 0) 1 rfl rfl) (α := Nat) (I := fun k ε σ => (ε 20 = .sl xss.length (xss.map aInts) .none ∧ ε 21 = .v (.int .i64 xss.length) ∧ ε 22 = .v (.int .i64 k) ∧ ε 5 = .ref 0 0 0) ∧ k ≤ xss.length ∧
        ∃ w τ, σ = .obj 0 [.sl k ((mkM (xss.take k)).map aU64s) (.id 1 w 1)] :: .tail w :: τ)
      (μ := fun k => xss.length - k) (Q := fun ε σ => ε 5 = .ref 0 0 0 ∧ ∃ w τ, σ = .obj 0 [.sl xss.length ((mkM xss).map aU64s) (.id 1 w 1)] :: .tail w :: τ) (x := 0) ?_ ?_ ?_
    · simp (maxSteps := 1000000) (implicitDefEqProofs := false) (disch := omega) only [push_cast, ↓reduceIte, Nat.reduceEqDiff, reduceCtorEq, decide_true, decide_false, Bool.not_true, Bool.not_false, Option.isNone_some, Option.isNone_none, List.drop_zero, List.drop_succ_cons, List.getElem?_cons_zero, List.getElem?_cons_succ, List.length_cons, List.length_nil, List.take_succ_cons, List.take_zero, Nat.mul_one, Nat.zero_add, Nat.add_zero, Nat.one_mul, Nat.zero_mul, List.getElem?_map, List.getElem?_drop, List.getElem?_take, List.length_map, Option.map_some, List.set_cons_zero, List.set_cons_succ, and_true, true_and, List.flatMap_cons, List.flatMap_nil, Bool.not_not]
      exact ⟨by omega, 0, [], rfl⟩
    · rintro k ε σ N E ⟨hρ, hk, w, τ, rfl⟩ hN hE
      simp only [S_reach_New_L1]
      by_cases hlt : k < xss.length
      · obtain ⟨l, hl⟩ := at_lt hlt
        have hll := hs2 l (List.mem_of_getElem? hl)
        have hMl : (mkM (xss.take k)).length = k := by rw [mkM_len]; simp; omega
        have hMB := mkM_B64 (xss.take k)
        obtain ⟨Z, hZ⟩ : ∃ Z : Nat, Z = k / 64 + 1 := ⟨_, rfl⟩
        have hkq : ((k : Int) / 64 + 1) = (Z : Int) := by omega
        simp (maxSteps := 1000000) (implicitDefEqProofs := false) (disch := omega) only [push_cast, ↓reduceIte, Nat.reduceEqDiff, reduceCtorEq, decide_true, decide_false, Bool.not_true, Bool.not_false, Option.isNone_some, Option.isNone_none, List.drop_zero, List.drop_succ_cons, List.getElem?_cons_zero, List.getElem?_cons_succ, List.length_cons, List.length_nil, List.take_succ_cons, List.take_zero, Nat.mul_one, Nat.zero_add, Nat.add_zero, Nat.one_mul, Nat.zero_mul, List.getElem?_map, List.getElem?_drop, List.getElem?_take, List.length_map, Option.map_some, List.set_cons_zero, List.set_cons_succ, and_true, true_and, List.flatMap_cons, List.flatMap_nil, Bool.not_not, hρ, hl, aInts, aSl, hkq]
        refine wpa_mks rfl (by omega) (by omega) ?_
        simp (maxSteps := 1000000) (implicitDefEqProofs := false) (disch := omega) only [push_cast, ↓reduceIte, Nat.reduceEqDiff, reduceCtorEq, decide_true, decide_false, Bool.not_true, Bool.not_false, Option.isNone_some, Option.isNone_none, List.drop_zero, List.drop_succ_cons, List.getElem?_cons_zero, List.getElem?_cons_succ, List.length_cons, List.length_nil, List.take_succ_cons, List.take_zero, Nat.mul_one, Nat.zero_add, Nat.add_zero, Nat.one_mul, Nat.zero_mul, List.getElem?_map, List.getElem?_drop, List.getElem?_take, List.length_map, Option.map_some, List.set_cons_zero, List.set_cons_succ, and_true, true_and, List.flatMap_cons, List.flatMap_nil, Bool.not_not, repA_one, hρ]
        refine wpa_bl (α := Nat) (I := fun t ε σ => (ε 20 = .sl xss.length (xss.map aInts) .none ∧ ε 21 = .v (.int .i64 xss.length) ∧ ε 22 = .v (.int .i64 k) ∧ ε 5 = .ref 0 0 0 ∧ ε 8 = .ms (τ.length + 1 + 1) 0 0 Z 1 ∧
            ε 31 = .sl l.length (l.map aInt) .none ∧ ε 32 = .v (.int .i64 l.length) ∧ ε 33 = .v (.int .i64 t)) ∧ t ≤ l.length ∧
            σ = .obj 0 [.sl k ((mkM (xss.take k)).map aU64s) (.id 1 w 1)] :: .tail w :: (τ ++ [.obj 0 (((l.take t).foldl (addP (mkM (xss.take k))) (List.replicate Z 0)).map aU64)]))
          (μ := fun t => l.length - t) (Q := fun ε σ => (ε 20 = .sl xss.length (xss.map aInts) .none ∧ ε 21 = .v (.int .i64 xss.length) ∧ ε 22 = .v (.int .i64 k) ∧ ε 5 = .ref 0 0 0 ∧ ε 8 = .ms (τ.length + 1 + 1) 0 0 Z 1) ∧
            σ = .obj 0 [.sl k ((mkM (xss.take k)).map aU64s) (.id 1 w 1)] :: .tail w :: (τ ++ [.obj 0 ((newRow (mkM (xss.take k)) k l).map aU64)])) (x := 0) ?_ ?_ ?_
        · simp (maxSteps := 1000000) (implicitDefEqProofs := false) (disch := omega) only [push_cast, ↓reduceIte, Nat.reduceEqDiff, reduceCtorEq, decide_true, decide_false, Bool.not_true, Bool.not_false, Option.isNone_some, Option.isNone_none, List.drop_zero, List.drop_succ_cons, List.getElem?_cons_zero, List.getElem?_cons_succ, List.length_cons, List.length_nil, List.take_succ_cons, List.take_zero, Nat.mul_one, Nat.zero_add, Nat.add_zero, Nat.one_mul, Nat.zero_mul, List.getElem?_map, List.getElem?_drop, List.getElem?_take, List.length_map, Option.map_some, List.set_cons_zero, List.set_cons_succ, and_true, true_and, List.flatMap_cons, List.flatMap_nil, Bool.not_not, hρ]
          exact ⟨by omega, by simp [aU64]⟩
        · rintro t ε σ N' E' ⟨hρ, ht, rfl⟩ hN' hE'
          simp only [S_reach_New_L2]
          by_cases htl : t < l.length
          · obtain ⟨p, hp⟩ := at_lt htl
            have hpk := okB_at hok hl p (List.mem_of_getElem? hp)
            obtain ⟨q, rfl⟩ : ∃ q : Nat, p = q := ⟨p.toNat, by omega⟩
            have hqk : q < k := by omega
            obtain ⟨s, hsdef⟩ : ∃ s, s = (l.take t).foldl (addP (mkM (xss.take k))) (List.replicate Z 0) := ⟨_, rfl⟩
            have hsl : s.length = Z := by rw [hsdef, row_len, List.length_replicate]
            have hsB : B64 s := by rw [hsdef]; exact row_B64 hMB _ (B64_rep _)
            obtain ⟨M, hM⟩ : ∃ M, M = mkM (xss.take k) := ⟨_, rfl⟩
            rw [← hsdef, ← hM]
            rw [← hM] at hMl hMB hsdef
            obtain ⟨v, hv⟩ := at_lt (l := s) (k := q / 64) (by omega)
            obtain ⟨u, hu⟩ := at_lt (l := M) (k := q) (by omega)
            have hv64 := hsB v (List.mem_of_getElem? hv)
            have hp64 : pow2 (q % 64) < 18446744073709551616 := pow2_lt (Nat.mod_lt _ (by omega))
            have huB := hMB u (List.mem_of_getElem? hu)
            have hul : u.length = q / 64 + 1 := mkM_at (xss.take k) q u (by rw [← hM]; exact hu)
            simp (maxSteps := 1000000) (implicitDefEqProofs := false) (disch := omega) only [push_cast, ↓reduceIte, Nat.reduceEqDiff, reduceCtorEq, decide_true, decide_false, Bool.not_true, Bool.not_false, Option.isNone_some, Option.isNone_none, List.drop_zero, List.drop_succ_cons, List.getElem?_cons_zero, List.getElem?_cons_succ, List.length_cons, List.length_nil, List.take_succ_cons, List.take_zero, Nat.mul_one, Nat.zero_add, Nat.add_zero, Nat.one_mul, Nat.zero_mul, List.getElem?_map, List.getElem?_drop, List.getElem?_take, List.length_map, Option.map_some, List.set_cons_zero, List.set_cons_succ, and_true, true_and, List.flatMap_cons, List.flatMap_nil, Bool.not_not, hρ, hp, aInt, div64, mod64, hv, aU64]
            refine wpa_st1 rfl rfl (by simp only [List.getElem?_cons_succ, at_snoc]; rfl) (by simp; omega) ?_
            simp (maxSteps := 1000000) (implicitDefEqProofs := false) (disch := omega) only [push_cast, ↓reduceIte, Nat.reduceEqDiff, reduceCtorEq, decide_true, decide_false, Bool.not_true, Bool.not_false, Option.isNone_some, Option.isNone_none, List.drop_zero, List.drop_succ_cons, List.getElem?_cons_zero, List.getElem?_cons_succ, List.length_cons, List.length_nil, List.take_succ_cons, List.take_zero, Nat.mul_one, Nat.zero_add, Nat.add_zero, Nat.one_mul, Nat.zero_mul, List.getElem?_map, List.getElem?_drop, List.getElem?_take, List.length_map, Option.map_some, List.set_cons_zero, List.set_cons_succ, and_true, true_and, List.flatMap_cons, List.flatMap_nil, Bool.not_not, hρ, hu, setU, aU64s, aSl]
            have e1 : orAt s (q / 64) (pow2 (q % 64)) = s.set (q / 64) (orN v (pow2 (q % 64))) := by simp [orAt, List.getD_eq_getElem?_getD, hv]
            rw [← e1]
            refine wpa_bl (α := Nat) (I := fun r ε σ => (ε 20 = .sl xss.length (xss.map aInts) .none ∧ ε 21 = .v (.int .i64 xss.length) ∧ ε 22 = .v (.int .i64 k) ∧ ε 5 = .ref 0 0 0 ∧ ε 8 = .ms (τ.length + 1 + 1) 0 0 Z 1 ∧
                ε 31 = .sl l.length (l.map aInt) .none ∧ ε 32 = .v (.int .i64 l.length) ∧ ε 33 = .v (.int .i64 t) ∧ ε 53 = .sl u.length (u.map aU64) .none ∧ ε 54 = .v (.int .i64 u.length) ∧ ε 55 = .v (.int .i64 r)) ∧ r ≤ u.length ∧
                σ = .obj 0 [.sl k (M.map aU64s) (.id 1 w 1)] :: .tail w :: (τ ++ [.obj 0 ((orK (orAt s (q / 64) (pow2 (q % 64))) u r).map aU64)]))
              (μ := fun r => u.length - r) (Q := fun ε σ => (ε 20 = .sl xss.length (xss.map aInts) .none ∧ ε 21 = .v (.int .i64 xss.length) ∧ ε 22 = .v (.int .i64 k) ∧ ε 5 = .ref 0 0 0 ∧ ε 8 = .ms (τ.length + 1 + 1) 0 0 Z 1 ∧
                ε 31 = .sl l.length (l.map aInt) .none ∧ ε 32 = .v (.int .i64 l.length) ∧ ε 33 = .v (.int .i64 t)) ∧
                σ = .obj 0 [.sl k (M.map aU64s) (.id 1 w 1)] :: .tail w :: (τ ++ [.obj 0 ((orK (orAt s (q / 64) (pow2 (q % 64))) u u.length).map aU64)])) (x := 0) ?_ ?_ ?_
            · simp (maxSteps := 1000000) (implicitDefEqProofs := false) (disch := omega) only [push_cast, ↓reduceIte, Nat.reduceEqDiff, reduceCtorEq, decide_true, decide_false, Bool.not_true, Bool.not_false, Option.isNone_some, Option.isNone_none, List.drop_zero, List.drop_succ_cons, List.getElem?_cons_zero, List.getElem?_cons_succ, List.length_cons, List.length_nil, List.take_succ_cons, List.take_zero, Nat.mul_one, Nat.zero_add, Nat.add_zero, Nat.one_mul, Nat.zero_mul, List.getElem?_map, List.getElem?_drop, List.getElem?_take, List.length_map, Option.map_some, List.set_cons_zero, List.set_cons_succ, and_true, true_and, List.flatMap_cons, List.flatMap_nil, Bool.not_not, hρ, orK]
              omega
            · rintro r ε σ N3 E3 ⟨hρ, hr, rfl⟩ hN3 hE3
              simp only [S_reach_New_L3]
              by_cases hrl : r < u.length
              · obtain ⟨x, hx⟩ := at_lt hrl
                have hlen3 : (orK (orAt s (q / 64) (pow2 (q % 64))) u r).length = Z := by rw [orK_len, orAt_len, hsl]
                obtain ⟨y, hy⟩ := at_lt (l := orK (orAt s (q / 64) (pow2 (q % 64))) u r) (k := r) (by omega)
                have hx64 := huB x (List.mem_of_getElem? hx)
                have hy64 := ((hsB.orAt (q / 64) hp64).orK huB r) y (List.mem_of_getElem? hy)
                simp (maxSteps := 1000000) (implicitDefEqProofs := false) (disch := omega) only [push_cast, ↓reduceIte, Nat.reduceEqDiff, reduceCtorEq, decide_true, decide_false, Bool.not_true, Bool.not_false, Option.isNone_some, Option.isNone_none, List.drop_zero, List.drop_succ_cons, List.getElem?_cons_zero, List.getElem?_cons_succ, List.length_cons, List.length_nil, List.take_succ_cons, List.take_zero, Nat.mul_one, Nat.zero_add, Nat.add_zero, Nat.one_mul, Nat.zero_mul, List.getElem?_map, List.getElem?_drop, List.getElem?_take, List.length_map, Option.map_some, List.set_cons_zero, List.set_cons_succ, and_true, true_and, List.flatMap_cons, List.flatMap_nil, Bool.not_not, hρ, hx, hy, aU64]
                refine wpa_st1 rfl rfl (by simp only [List.getElem?_cons_succ, at_snoc]; rfl) (by simp; omega) ?_
                simp (maxSteps := 1000000) (implicitDefEqProofs := false) (disch := omega) only [push_cast, ↓reduceIte, Nat.reduceEqDiff, reduceCtorEq, decide_true, decide_false, Bool.not_true, Bool.not_false, Option.isNone_some, Option.isNone_none, List.drop_zero, List.drop_succ_cons, List.getElem?_cons_zero, List.getElem?_cons_succ, List.length_cons, List.length_nil, List.take_succ_cons, List.take_zero, Nat.mul_one, Nat.zero_add, Nat.add_zero, Nat.one_mul, Nat.zero_mul, List.getElem?_map, List.getElem?_drop, List.getElem?_take, List.length_map, Option.map_some, List.set_cons_zero, List.set_cons_succ, and_true, true_and, List.flatMap_cons, List.flatMap_nil, Bool.not_not, hρ, setU]
                refine hN3 (r + 1) _ _ ?_ (by omega)
                simp (maxSteps := 1000000) (implicitDefEqProofs := false) (disch := omega) only [push_cast, ↓reduceIte, Nat.reduceEqDiff, reduceCtorEq, decide_true, decide_false, Bool.not_true, Bool.not_false, Option.isNone_some, Option.isNone_none, List.drop_zero, List.drop_succ_cons, List.getElem?_cons_zero, List.getElem?_cons_succ, List.length_cons, List.length_nil, List.take_succ_cons, List.take_zero, Nat.mul_one, Nat.zero_add, Nat.add_zero, Nat.one_mul, Nat.zero_mul, List.getElem?_map, List.getElem?_drop, List.getElem?_take, List.length_map, Option.map_some, List.set_cons_zero, List.set_cons_succ, and_true, true_and, List.flatMap_cons, List.flatMap_nil, Bool.not_not, hρ]
                refine ⟨by omega, ?_⟩
                have e2 : orK (orAt s (q / 64) (pow2 (q % 64))) u (r + 1) = (orK (orAt s (q / 64) (pow2 (q % 64))) u r).set r (orN y x) := by
                  simp [orK, orAt, List.getD_eq_getElem?_getD, hx]
                  rw [show (orK (s.set (q / 64) (orN (s[q / 64]?.getD 0) (pow2 (q % 64)))) u r)[r]? = some y from by simpa [orAt, List.getD_eq_getElem?_getD] using hy]
                  rfl
                rw [e2]
              · simp (maxSteps := 1000000) (implicitDefEqProofs := false) (disch := omega) only [push_cast, ↓reduceIte, Nat.reduceEqDiff, reduceCtorEq, decide_true, decide_false, Bool.not_true, Bool.not_false, Option.isNone_some, Option.isNone_none, List.drop_zero, List.drop_succ_cons, List.getElem?_cons_zero, List.getElem?_cons_succ, List.length_cons, List.length_nil, List.take_succ_cons, List.take_zero, Nat.mul_one, Nat.zero_add, Nat.add_zero, Nat.one_mul, Nat.zero_mul, List.getElem?_map, List.getElem?_drop, List.getElem?_take, List.length_map, Option.map_some, List.set_cons_zero, List.set_cons_succ, and_true, true_and, List.flatMap_cons, List.flatMap_nil, Bool.not_not, hρ]
                refine hE3 _ _ ?_
                simp (maxSteps := 1000000) (implicitDefEqProofs := false) (disch := omega) only [push_cast, ↓reduceIte, Nat.reduceEqDiff, reduceCtorEq, decide_true, decide_false, Bool.not_true, Bool.not_false, Option.isNone_some, Option.isNone_none, List.drop_zero, List.drop_succ_cons, List.getElem?_cons_zero, List.getElem?_cons_succ, List.length_cons, List.length_nil, List.take_succ_cons, List.take_zero, Nat.mul_one, Nat.zero_add, Nat.add_zero, Nat.one_mul, Nat.zero_mul, List.getElem?_map, List.getElem?_drop, List.getElem?_take, List.length_map, Option.map_some, List.set_cons_zero, List.set_cons_succ, and_true, true_and, List.flatMap_cons, List.flatMap_nil, Bool.not_not, hρ]
                have : r = u.length := by omega
                subst this; rfl
            · rintro ε σ ⟨hρ, rfl⟩
              simp (maxSteps := 1000000) (implicitDefEqProofs := false) (disch := omega) only [push_cast, ↓reduceIte, Nat.reduceEqDiff, reduceCtorEq, decide_true, decide_false, Bool.not_true, Bool.not_false, Option.isNone_some, Option.isNone_none, List.drop_zero, List.drop_succ_cons, List.getElem?_cons_zero, List.getElem?_cons_succ, List.length_cons, List.length_nil, List.take_succ_cons, List.take_zero, Nat.mul_one, Nat.zero_add, Nat.add_zero, Nat.one_mul, Nat.zero_mul, List.getElem?_map, List.getElem?_drop, List.getElem?_take, List.length_map, Option.map_some, List.set_cons_zero, List.set_cons_succ, and_true, true_and, List.flatMap_cons, List.flatMap_nil, Bool.not_not, hρ]
              refine hN' (t + 1) _ _ ?_ (by omega)
              simp (maxSteps := 1000000) (implicitDefEqProofs := false) (disch := omega) only [push_cast, ↓reduceIte, Nat.reduceEqDiff, reduceCtorEq, decide_true, decide_false, Bool.not_true, Bool.not_false, Option.isNone_some, Option.isNone_none, List.drop_zero, List.drop_succ_cons, List.getElem?_cons_zero, List.getElem?_cons_succ, List.length_cons, List.length_nil, List.take_succ_cons, List.take_zero, Nat.mul_one, Nat.zero_add, Nat.add_zero, Nat.one_mul, Nat.zero_mul, List.getElem?_map, List.getElem?_drop, List.getElem?_take, List.length_map, Option.map_some, List.set_cons_zero, List.set_cons_succ, and_true, true_and, List.flatMap_cons, List.flatMap_nil, Bool.not_not, hρ]
              refine ⟨by omega, ?_⟩
              have e3 : addP M s (q : Int) = orK (orAt s (q / 64) (pow2 (q % 64))) u u.length := by
                simp [addP, List.getD_eq_getElem?_getD, hu]
              rw [take_succ_at hp, List.foldl_append, ← hM, ← hsdef, ← e3]
              rfl
          · simp (maxSteps := 1000000) (implicitDefEqProofs := false) (disch := omega) only [push_cast, ↓reduceIte, Nat.reduceEqDiff, reduceCtorEq, decide_true, decide_false, Bool.not_true, Bool.not_false, Option.isNone_some, Option.isNone_none, List.drop_zero, List.drop_succ_cons, List.getElem?_cons_zero, List.getElem?_cons_succ, List.length_cons, List.length_nil, List.take_succ_cons, List.take_zero, Nat.mul_one, Nat.zero_add, Nat.add_zero, Nat.one_mul, Nat.zero_mul, List.getElem?_map, List.getElem?_drop, List.getElem?_take, List.length_map, Option.map_some, List.set_cons_zero, List.set_cons_succ, and_true, true_and, List.flatMap_cons, List.flatMap_nil, Bool.not_not, hρ]
            refine hE' _ _ ?_
            simp (maxSteps := 1000000) (implicitDefEqProofs := false) (disch := omega) only [push_cast, ↓reduceIte, Nat.reduceEqDiff, reduceCtorEq, decide_true, decide_false, Bool.not_true, Bool.not_false, Option.isNone_some, Option.isNone_none, List.drop_zero, List.drop_succ_cons, List.getElem?_cons_zero, List.getElem?_cons_succ, List.length_cons, List.length_nil, List.take_succ_cons, List.take_zero, Nat.mul_one, Nat.zero_add, Nat.add_zero, Nat.one_mul, Nat.zero_mul, List.getElem?_map, List.getElem?_drop, List.getElem?_take, List.length_map, Option.map_some, List.set_cons_zero, List.set_cons_succ, and_true, true_and, List.flatMap_cons, List.flatMap_nil, Bool.not_not, hρ]
            rw [List.take_of_length_le (l := l) (by omega), newRow, hZ]
        · rintro ε σ ⟨hρ, rfl⟩
          simp (maxSteps := 1000000) (implicitDefEqProofs := false) (disch := omega) only [push_cast, ↓reduceIte, Nat.reduceEqDiff, reduceCtorEq, decide_true, decide_false, Bool.not_true, Bool.not_false, Option.isNone_some, Option.isNone_none, List.drop_zero, List.drop_succ_cons, List.getElem?_cons_zero, List.getElem?_cons_succ, List.length_cons, List.length_nil, List.take_succ_cons, List.take_zero, Nat.mul_one, Nat.zero_add, Nat.add_zero, Nat.one_mul, Nat.zero_mul, List.getElem?_map, List.getElem?_drop, List.getElem?_take, List.length_map, Option.map_some, List.set_cons_zero, List.set_cons_succ, and_true, true_and, List.flatMap_cons, List.flatMap_nil, Bool.not_not, hρ]
          refine wpa_frz1 (by simp only [List.getElem?_cons_succ, at_snoc]; rfl) (aU64L_res _ _) (by simp [newRow, row_len, hZ]) ?_
          refine wpa_bsl (by simp [AV.cells]) (by simp) ?_
          simp (maxSteps := 1000000) (implicitDefEqProofs := false) (disch := omega) only [push_cast, ↓reduceIte, Nat.reduceEqDiff, reduceCtorEq, decide_true, decide_false, Bool.not_true, Bool.not_false, Option.isNone_some, Option.isNone_none, List.drop_zero, List.drop_succ_cons, List.getElem?_cons_zero, List.getElem?_cons_succ, List.length_cons, List.length_nil, List.take_succ_cons, List.take_zero, Nat.mul_one, Nat.zero_add, Nat.add_zero, Nat.one_mul, Nat.zero_mul, List.getElem?_map, List.getElem?_drop, List.getElem?_take, List.length_map, Option.map_some, List.set_cons_zero, List.set_cons_succ, and_true, true_and, List.flatMap_cons, List.flatMap_nil, Bool.not_not, hρ]
          refine wpa_app rfl rfl rfl rfl (by simp [hMl]) (by omega) (by omega) rfl ?_
          simp (maxSteps := 1000000) (implicitDefEqProofs := false) (disch := omega) only [push_cast, ↓reduceIte, Nat.reduceEqDiff, reduceCtorEq, decide_true, decide_false, Bool.not_true, Bool.not_false, Option.isNone_some, Option.isNone_none, List.drop_zero, List.drop_succ_cons, List.getElem?_cons_zero, List.getElem?_cons_succ, List.length_cons, List.length_nil, List.take_succ_cons, List.take_zero, Nat.mul_one, Nat.zero_add, Nat.add_zero, Nat.one_mul, Nat.zero_mul, List.getElem?_map, List.getElem?_drop, List.getElem?_take, List.length_map, Option.map_some, List.set_cons_zero, List.set_cons_succ, and_true, true_and, List.flatMap_cons, List.flatMap_nil, Bool.not_not, hρ]
          refine wpa_st1 rfl rfl rfl (by simp) ?_
          simp (maxSteps := 1000000) (implicitDefEqProofs := false) (disch := omega) only [push_cast, ↓reduceIte, Nat.reduceEqDiff, reduceCtorEq, decide_true, decide_false, Bool.not_true, Bool.not_false, Option.isNone_some, Option.isNone_none, List.drop_zero, List.drop_succ_cons, List.getElem?_cons_zero, List.getElem?_cons_succ, List.length_cons, List.length_nil, List.take_succ_cons, List.take_zero, Nat.mul_one, Nat.zero_add, Nat.add_zero, Nat.one_mul, Nat.zero_mul, List.getElem?_map, List.getElem?_drop, List.getElem?_take, List.length_map, Option.map_some, List.set_cons_zero, List.set_cons_succ, and_true, true_and, List.flatMap_cons, List.flatMap_nil, Bool.not_not, hρ]
          refine hN (k + 1) _ _ ?_ (by omega)
          simp (maxSteps := 1000000) (implicitDefEqProofs := false) (disch := omega) only [push_cast, ↓reduceIte, Nat.reduceEqDiff, reduceCtorEq, decide_true, decide_false, Bool.not_true, Bool.not_false, Option.isNone_some, Option.isNone_none, List.drop_zero, List.drop_succ_cons, List.getElem?_cons_zero, List.getElem?_cons_succ, List.length_cons, List.length_nil, List.take_succ_cons, List.take_zero, Nat.mul_one, Nat.zero_add, Nat.add_zero, Nat.one_mul, Nat.zero_mul, List.getElem?_map, List.getElem?_drop, List.getElem?_take, List.length_map, Option.map_some, List.set_cons_zero, List.set_cons_succ, and_true, true_and, List.flatMap_cons, List.flatMap_nil, Bool.not_not, hρ]
          refine ⟨by omega, w + 1, τ ++ [.frz 0 ((newRow (mkM (xss.take k)) k l).map aU64)], ?_⟩
          rw [take_succ_at hl, mkM_snoc, List.map_append, hMl]
          have : (newRow (mkM (xss.take k)) k l).length = Z := by rw [newRow, row_len, List.length_replicate, hZ]
          simp [aU64s, aSl, this]
      · simp (maxSteps := 1000000) (implicitDefEqProofs := false) (disch := omega) only [push_cast, ↓reduceIte, Nat.reduceEqDiff, reduceCtorEq, decide_true, decide_false, Bool.not_true, Bool.not_false, Option.isNone_some, Option.isNone_none, List.drop_zero, List.drop_succ_cons, List.getElem?_cons_zero, List.getElem?_cons_succ, List.length_cons, List.length_nil, List.take_succ_cons, List.take_zero, Nat.mul_one, Nat.zero_add, Nat.add_zero, Nat.one_mul, Nat.zero_mul, List.getElem?_map, List.getElem?_drop, List.getElem?_take, List.length_map, Option.map_some, List.set_cons_zero, List.set_cons_succ, and_true, true_and, List.flatMap_cons, List.flatMap_nil, Bool.not_not, hρ]
        refine hE _ _ ?_
        simp (maxSteps := 1000000) (implicitDefEqProofs := false) (disch := omega) only [push_cast, ↓reduceIte, Nat.reduceEqDiff, reduceCtorEq, decide_true, decide_false, Bool.not_true, Bool.not_false, Option.isNone_some, Option.isNone_none, List.drop_zero, List.drop_succ_cons, List.getElem?_cons_zero, List.getElem?_cons_succ, List.length_cons, List.length_nil, List.take_succ_cons, List.take_zero, Nat.mul_one, Nat.zero_add, Nat.add_zero, Nat.one_mul, Nat.zero_mul, List.getElem?_map, List.getElem?_drop, List.getElem?_take, List.length_map, Option.map_some, List.set_cons_zero, List.set_cons_succ, and_true, true_and, List.flatMap_cons, List.flatMap_nil, Bool.not_not, hρ]
        have : k = xss.length := by omega
        subst this
        rw [List.take_length]
        exact ⟨w, τ, rfl⟩
    · rintro ε σ ⟨hρ, w, τ, rfl⟩
      simp (maxSteps := 1000000) (implicitDefEqProofs := false) (disch := omega) only [push_cast, ↓reduceIte, Nat.reduceEqDiff, reduceCtorEq, decide_true, decide_false, Bool.not_true, Bool.not_false, Option.isNone_some, Option.isNone_none, List.drop_zero, List.drop_succ_cons, List.getElem?_cons_zero, List.getElem?_cons_succ, List.length_cons, List.length_nil, List.take_succ_cons, List.take_zero, Nat.mul_one, Nat.zero_add, Nat.add_zero, Nat.one_mul, Nat.zero_mul, List.getElem?_map, List.getElem?_drop, List.getElem?_take, List.length_map, Option.map_some, List.set_cons_zero, List.set_cons_succ, and_true, true_and, List.flatMap_cons, List.flatMap_nil, Bool.not_not, hρ]
      refine fin_tup2 [0] (c := aReach (mkM xss)) (d := aInt 0) ?_ (by simp [AV.res, aInt]) (aReach_pure _) (aInt_pure 0) rfl
      have := aSl_res (aU64s_res (.obj 0 [.sl xss.length ((mkM xss).map aU64s) (.id 1 w 1)] :: .tail w :: τ)) (mkM xss) (.id 1 w 1)
      rw [mkM_len] at this
      simp [Go.Kx.freeze, freeze1, AV.res, AV.resL, aReach, mkM_len] at this ⊢
      simp [AV.res, aSl, mkM_len] at this ⊢
      exact this
  · simp (maxSteps := 1000000) (implicitDefEqProofs := false) (disch := omega) only [push_cast, ↓reduceIte, Nat.reduceEqDiff, reduceCtorEq, decide_true, decide_false, Bool.not_true, Bool.not_false, Option.isNone_some, Option.isNone_none, List.drop_zero, List.drop_succ_cons, List.getElem?_cons_zero, List.getElem?_cons_succ, List.length_cons, List.length_nil, List.take_succ_cons, List.take_zero, Nat.mul_one, Nat.zero_add, Nat.add_zero, Nat.one_mul, Nat.zero_mul, List.getElem?_map, List.getElem?_drop, List.getElem?_take, List.length_map, Option.map_some, List.set_cons_zero, List.set_cons_succ, and_true, true_and, List.flatMap_cons, List.flatMap_nil, Bool.not_not, aInt, hc]
    exact fin_vv rfl
end
section
def aR : Option (List (List Nat)) → AV
  | none => .v (.pointer none)
  | some M => aReach M
theorem aR_pure (o : Option (List (List Nat))) : (aR o).pure = true := by
  cases o with
  | none => rfl
  | some M => exact aReach_pure M
def lenR : Option (List (List Nat)) → Nat
  | none => 0
  | some M => M.length
def inR (o : Option (List (List Nat))) (n : Int) : Bool := decide (0 ≤ n) && decide (n < (lenR o : Int))
def bitR (o : Option (List (List Nat))) (a b : Int) : Bool := (((o.getD []).getD b.toNat []).getD (a.toNat / 64) 0).testBit (a.toNat % 64)
def befR (o : Option (List (List Nat))) (a b : Int) : Bool := inR o a && inR o b && decide (a < b) && bitR o a b
def aparR (o : Option (List (List Nat))) (a b : Int) : Bool := inR o a && inR o b && decide (a ≠ b) && !befR o a b && !befR o b a
def wfR (o : Option (List (List Nat))) : Prop := lenR o ≤ 1000000 ∧ ∀ (i : Nat) (ws : List Nat), (o.getD [])[i]? = some ws → ws.length = i / 64 + 1

theorem Len_a (o : Option (List (List Nat))) : FnP Try.prog 110 [aR o] fun a => a = aInt (lenR o) := by
  refine fnP_in K_reach_Reach_Len mixed rfl (by simp [AV.pureL, aR_pure]) ?_
  simp only [S_reach_Reach_Len]
  cases o with
  | none =>
    simp (maxSteps := 1000000) (implicitDefEqProofs := false) (disch := omega) only [push_cast, ↓reduceIte, Nat.reduceEqDiff, reduceCtorEq, decide_true, decide_false, Bool.not_true, Bool.not_false, Option.isNone_some, Option.isNone_none, List.drop_zero, List.drop_succ_cons, List.getElem?_cons_zero, List.getElem?_cons_succ, List.length_cons, List.length_nil, List.take_succ_cons, List.take_zero, Nat.mul_one, Nat.zero_add, Nat.add_zero, Nat.one_mul, Nat.zero_mul, List.getElem?_map, List.getElem?_drop, List.getElem?_take, List.length_map, Option.map_some, List.set_cons_zero, List.set_cons_succ, and_true, true_and, List.flatMap_cons, List.flatMap_nil, Bool.not_not, aR, Option.isNone_none]
    exact fin_v rfl
  | some M =>
    simp (maxSteps := 1000000) (implicitDefEqProofs := false) (disch := omega) only [push_cast, ↓reduceIte, Nat.reduceEqDiff, reduceCtorEq, decide_true, decide_false, Bool.not_true, Bool.not_false, Option.isNone_some, Option.isNone_none, List.drop_zero, List.drop_succ_cons, List.getElem?_cons_zero, List.getElem?_cons_succ, List.length_cons, List.length_nil, List.take_succ_cons, List.take_zero, Nat.mul_one, Nat.zero_add, Nat.add_zero, Nat.one_mul, Nat.zero_mul, List.getElem?_map, List.getElem?_drop, List.getElem?_take, List.length_map, Option.map_some, List.set_cons_zero, List.set_cons_succ, and_true, true_and, List.flatMap_cons, List.flatMap_nil, Bool.not_not, aR, aReach]
    exact fin_v rfl
theorem is_a (o : Option (List (List Nat))) (n : Int) : FnP Try.prog 76 [aR o, aInt n] fun a => a = aBool (inR o n) := by
  refine fnP_in K_reach_Reach_is mixed rfl (by simp [AV.pureL, aR_pure, aInt, AV.pure]) ?_
  simp only [S_reach_Reach_is]
  by_cases h0 : 0 ≤ n
  · simp (maxSteps := 1000000) (implicitDefEqProofs := false) (disch := omega) only [push_cast, ↓reduceIte, Nat.reduceEqDiff, reduceCtorEq, decide_true, decide_false, Bool.not_true, Bool.not_false, Option.isNone_some, Option.isNone_none, List.drop_zero, List.drop_succ_cons, List.getElem?_cons_zero, List.getElem?_cons_succ, List.length_cons, List.length_nil, List.take_succ_cons, List.take_zero, Nat.mul_one, Nat.zero_add, Nat.add_zero, Nat.one_mul, Nat.zero_mul, List.getElem?_map, List.getElem?_drop, List.getElem?_take, List.length_map, Option.map_some, List.set_cons_zero, List.set_cons_succ, and_true, true_and, List.flatMap_cons, List.flatMap_nil, Bool.not_not, aInt]
    refine wpa_call (Len_a o) ?_
    rintro a rfl
    simp (maxSteps := 1000000) (implicitDefEqProofs := false) (disch := omega) only [push_cast, ↓reduceIte, Nat.reduceEqDiff, reduceCtorEq, decide_true, decide_false, Bool.not_true, Bool.not_false, Option.isNone_some, Option.isNone_none, List.drop_zero, List.drop_succ_cons, List.getElem?_cons_zero, List.getElem?_cons_succ, List.length_cons, List.length_nil, List.take_succ_cons, List.take_zero, Nat.mul_one, Nat.zero_add, Nat.add_zero, Nat.one_mul, Nat.zero_mul, List.getElem?_map, List.getElem?_drop, List.getElem?_take, List.length_map, Option.map_some, List.set_cons_zero, List.set_cons_succ, and_true, true_and, List.flatMap_cons, List.flatMap_nil, Bool.not_not, aInt]
    exact fin_v (by simp [aBool, inR, h0])
  · simp (maxSteps := 1000000) (implicitDefEqProofs := false) (disch := omega) only [push_cast, ↓reduceIte, Nat.reduceEqDiff, reduceCtorEq, decide_true, decide_false, Bool.not_true, Bool.not_false, Option.isNone_some, Option.isNone_none, List.drop_zero, List.drop_succ_cons, List.getElem?_cons_zero, List.getElem?_cons_succ, List.length_cons, List.length_nil, List.take_succ_cons, List.take_zero, Nat.mul_one, Nat.zero_add, Nat.add_zero, Nat.one_mul, Nat.zero_mul, List.getElem?_map, List.getElem?_drop, List.getElem?_take, List.length_map, Option.map_some, List.set_cons_zero, List.set_cons_succ, and_true, true_and, List.flatMap_cons, List.flatMap_nil, Bool.not_not, aInt]
    exact fin_v (by simp [aBool, inR, h0])
theorem Before_a (o : Option (List (List Nat))) (ho : wfR o) (a b : Int) : FnP Try.prog 38 [aR o, aInt a, aInt b] fun r => r = aBool (befR o a b) := by
  refine fnP_in K_reach_Reach_Before mixed rfl (by simp [AV.pureL, aR_pure, aInt, AV.pure]) ?_
  simp only [S_reach_Reach_Before]
  simp (maxSteps := 1000000) (implicitDefEqProofs := false) (disch := omega) only [push_cast, ↓reduceIte, Nat.reduceEqDiff, reduceCtorEq, decide_true, decide_false, Bool.not_true, Bool.not_false, Option.isNone_some, Option.isNone_none, List.drop_zero, List.drop_succ_cons, List.getElem?_cons_zero, List.getElem?_cons_succ, List.length_cons, List.length_nil, List.take_succ_cons, List.take_zero, Nat.mul_one, Nat.zero_add, Nat.add_zero, Nat.one_mul, Nat.zero_mul, List.getElem?_map, List.getElem?_drop, List.getElem?_take, List.length_map, Option.map_some, List.set_cons_zero, List.set_cons_succ, and_true, true_and, List.flatMap_cons, List.flatMap_nil, Bool.not_not]
  refine wpa_call (is_a o a) ?_
  rintro x rfl
  cases ha : inR o a with
  | false =>
    simp (maxSteps := 1000000) (implicitDefEqProofs := false) (disch := omega) only [push_cast, ↓reduceIte, Nat.reduceEqDiff, reduceCtorEq, decide_true, decide_false, Bool.not_true, Bool.not_false, Option.isNone_some, Option.isNone_none, List.drop_zero, List.drop_succ_cons, List.getElem?_cons_zero, List.getElem?_cons_succ, List.length_cons, List.length_nil, List.take_succ_cons, List.take_zero, Nat.mul_one, Nat.zero_add, Nat.add_zero, Nat.one_mul, Nat.zero_mul, List.getElem?_map, List.getElem?_drop, List.getElem?_take, List.length_map, Option.map_some, List.set_cons_zero, List.set_cons_succ, and_true, true_and, List.flatMap_cons, List.flatMap_nil, Bool.not_not, aBool]
    exact fin_v (by simp [befR, ha, aBool])
  | true =>
    simp (maxSteps := 1000000) (implicitDefEqProofs := false) (disch := omega) only [push_cast, ↓reduceIte, Nat.reduceEqDiff, reduceCtorEq, decide_true, decide_false, Bool.not_true, Bool.not_false, Option.isNone_some, Option.isNone_none, List.drop_zero, List.drop_succ_cons, List.getElem?_cons_zero, List.getElem?_cons_succ, List.length_cons, List.length_nil, List.take_succ_cons, List.take_zero, Nat.mul_one, Nat.zero_add, Nat.add_zero, Nat.one_mul, Nat.zero_mul, List.getElem?_map, List.getElem?_drop, List.getElem?_take, List.length_map, Option.map_some, List.set_cons_zero, List.set_cons_succ, and_true, true_and, List.flatMap_cons, List.flatMap_nil, Bool.not_not, aBool]
    refine wpa_call (is_a o b) ?_
    rintro x rfl
    cases hb : inR o b with
    | false =>
      simp (maxSteps := 1000000) (implicitDefEqProofs := false) (disch := omega) only [push_cast, ↓reduceIte, Nat.reduceEqDiff, reduceCtorEq, decide_true, decide_false, Bool.not_true, Bool.not_false, Option.isNone_some, Option.isNone_none, List.drop_zero, List.drop_succ_cons, List.getElem?_cons_zero, List.getElem?_cons_succ, List.length_cons, List.length_nil, List.take_succ_cons, List.take_zero, Nat.mul_one, Nat.zero_add, Nat.add_zero, Nat.one_mul, Nat.zero_mul, List.getElem?_map, List.getElem?_drop, List.getElem?_take, List.length_map, Option.map_some, List.set_cons_zero, List.set_cons_succ, and_true, true_and, List.flatMap_cons, List.flatMap_nil, Bool.not_not, aBool]
      exact fin_v (by simp [befR, ha, hb, aBool])
    | true =>
      by_cases hab : a < b
      · have ha' := ha
        have hb' := hb
        simp only [inR, Bool.and_eq_true, decide_eq_true_eq] at ha' hb'
        cases o with
        | none => simp [lenR] at ha'; omega
        | some M =>
          simp only [lenR] at ha' hb'
          obtain ⟨p, rfl⟩ : ∃ p : Nat, a = p := ⟨a.toNat, by omega⟩
          obtain ⟨q, rfl⟩ : ∃ q : Nat, b = q := ⟨b.toNat, by omega⟩
          obtain ⟨ws, hws⟩ := at_lt (l := M) (k := q) (by omega)
          have hwl := ho.2 q ws hws
          have hlim := ho.1
          simp only [lenR] at hlim
          obtain ⟨w, hw⟩ := at_lt (l := ws) (k := p / 64) (by omega)
          simp (maxSteps := 1000000) (implicitDefEqProofs := false) (disch := omega) only [push_cast, ↓reduceIte, Nat.reduceEqDiff, reduceCtorEq, decide_true, decide_false, Bool.not_true, Bool.not_false, Option.isNone_some, Option.isNone_none, List.drop_zero, List.drop_succ_cons, List.getElem?_cons_zero, List.getElem?_cons_succ, List.length_cons, List.length_nil, List.take_succ_cons, List.take_zero, Nat.mul_one, Nat.zero_add, Nat.add_zero, Nat.one_mul, Nat.zero_mul, List.getElem?_map, List.getElem?_drop, List.getElem?_take, List.length_map, Option.map_some, List.set_cons_zero, List.set_cons_succ, and_true, true_and, List.flatMap_cons, List.flatMap_nil, Bool.not_not, aBool, aInt, aR, aReach, hws, aU64s, aSl, div64, hw, aU64]
          refine fin_v ?_
          rw [mod64, bit_spec]
          simp [befR, ha, hb, aBool, bitR, List.getD_eq_getElem?_getD, hws, hw]
          omega
      · simp (maxSteps := 1000000) (implicitDefEqProofs := false) (disch := omega) only [push_cast, ↓reduceIte, Nat.reduceEqDiff, reduceCtorEq, decide_true, decide_false, Bool.not_true, Bool.not_false, Option.isNone_some, Option.isNone_none, List.drop_zero, List.drop_succ_cons, List.getElem?_cons_zero, List.getElem?_cons_succ, List.length_cons, List.length_nil, List.take_succ_cons, List.take_zero, Nat.mul_one, Nat.zero_add, Nat.add_zero, Nat.one_mul, Nat.zero_mul, List.getElem?_map, List.getElem?_drop, List.getElem?_take, List.length_map, Option.map_some, List.set_cons_zero, List.set_cons_succ, and_true, true_and, List.flatMap_cons, List.flatMap_nil, Bool.not_not, aBool, aInt]
        exact fin_v (by simp [befR, aBool, hab])
end
section
def andN (a b : Nat) : Nat := a &&& b
def addW (a b : Nat) : Nat := (a + b) % 18446744073709551616
theorem v_andN (m c : Nat) (hc : c < 18446744073709551616) : PF.val (.bin .and) [.int .u64 m, .int .u64 (c : Nat)] = some (.int .u64 (andN m c : Nat)) := by
  simp only [PF.val, binV, isSh, binI, if_true, Bool.false_eq_true, if_false]
  have : (BitVec.ofInt IntKind.u64.bits (m : Int) &&& BitVec.ofInt IntKind.u64.bits (c : Int)).toNat = m &&& c := by
    show (BitVec.ofInt 64 (m : Int) &&& BitVec.ofInt 64 (c : Int)).toNat = _
    rw [bv_nat, bv_nat]
    simp only [BitVec.toNat_and, BitVec.toNat_ofNat]
    apply Nat.eq_of_testBit_eq
    intro i
    simp only [Nat.testBit_and, Nat.testBit_mod_two_pow]
    by_cases hi : i < 64
    · simp [hi]
    · have : c.testBit i = false := Nat.testBit_lt_two_pow (Nat.lt_of_lt_of_le hc (by
        have : (2 : Nat) ^ 64 ≤ 2 ^ i := Nat.pow_le_pow_right (by omega) (by omega)
        simpa using this))
      simp [hi, this]
  have h3 : m &&& c < 18446744073709551616 := Nat.lt_of_le_of_lt Nat.and_le_right hc
  rw [this, wrap_u64 h3]
  rfl
theorem v_addW (a b : Nat) : PF.val (.bin .add) [.int .u64 a, .int .u64 b] = some (.int .u64 (addW a b : Nat)) := by
  rw [v_add]
  have : IntKind.u64.wrap ((a : Int) + (b : Int)) = (addW a b : Nat) := by
    simp only [IntKind.wrap, IntKind.bits, IntKind.signed, Bool.false_and]
    simp [addW]
  rw [this]
def mod128 (x : Nat) : Nat := x % 128
theorem v_and127 (x : Nat) : PF.val (.bin .and) [.int .i64 (IntKind.i64.wrap x), .int .i64 127] = some (.int .i64 (mod128 x : Nat)) := by
  simp only [PF.val, binV, isSh, binI, if_true, Bool.false_eq_true, if_false]
  have h1 : BitVec.ofInt 64 (IntKind.i64.wrap x) = BitVec.ofNat 64 x := by
    apply BitVec.eq_of_toNat_eq
    simp only [BitVec.toNat_ofInt, BitVec.toNat_ofNat, IntKind.wrap, IntKind.bits, IntKind.signed]
    simp
    split <;> omega
  have : (BitVec.ofInt IntKind.i64.bits (IntKind.i64.wrap x) &&& BitVec.ofInt IntKind.i64.bits 127).toNat = x % 128 := by
    show (BitVec.ofInt 64 (IntKind.i64.wrap x) &&& 127#64).toNat = _
    rw [h1]
    simp only [BitVec.toNat_and, BitVec.toNat_ofNat]
    have : 127 % 2 ^ 64 = 2 ^ 7 - 1 := by decide
    rw [this, Nat.and_two_pow_sub_one_eq_mod]
    omega
  rw [this, IntWalk.i64_in _ ⟨by omega, by omega⟩]
  rfl
def m0 : Nat := 6148914691236517205
def m1 : Nat := 3689348814741910323
def m2 : Nat := 1085102592571150095
theorem v_m0 (m : Nat) : PF.val (.bin .and) [.int .u64 m, .int .u64 6148914691236517205] = some (.int .u64 (andN m m0 : Nat)) := v_andN m m0 (by unfold m0; omega)
theorem v_m1 (m : Nat) : PF.val (.bin .and) [.int .u64 m, .int .u64 3689348814741910323] = some (.int .u64 (andN m m1 : Nat)) := v_andN m m1 (by unfold m1; omega)
theorem v_m2 (m : Nat) : PF.val (.bin .and) [.int .u64 m, .int .u64 1085102592571150095] = some (.int .u64 (andN m m2 : Nat)) := v_andN m m2 (by unfold m2; omega)
theorem v_shrN (w : Nat) (s : Nat) (h1 : s < 64) : PF.val (.bin .shr) [.int .u64 w, .int .u64 (s : Nat)] = some (.int .u64 (shrN w s : Nat)) := v_shr_u64 w .u64 s (by omega) (by omega)
theorem v_s1 (w : Nat) : PF.val (.bin .shr) [.int .u64 w, .int .u64 1] = some (.int .u64 (shrN w 1 : Nat)) := v_shrN w 1 (by omega)
theorem v_s2 (w : Nat) : PF.val (.bin .shr) [.int .u64 w, .int .u64 2] = some (.int .u64 (shrN w 2 : Nat)) := v_shrN w 2 (by omega)
theorem v_s4 (w : Nat) : PF.val (.bin .shr) [.int .u64 w, .int .u64 4] = some (.int .u64 (shrN w 4 : Nat)) := v_shrN w 4 (by omega)
theorem v_s8 (w : Nat) : PF.val (.bin .shr) [.int .u64 w, .int .u64 8] = some (.int .u64 (shrN w 8 : Nat)) := v_shrN w 8 (by omega)
theorem v_s16 (w : Nat) : PF.val (.bin .shr) [.int .u64 w, .int .u64 16] = some (.int .u64 (shrN w 16 : Nat)) := v_shrN w 16 (by omega)
theorem v_s32 (w : Nat) : PF.val (.bin .shr) [.int .u64 w, .int .u64 32] = some (.int .u64 (shrN w 32 : Nat)) := v_shrN w 32 (by omega)
def pc1 (x : Nat) : Nat := addW (andN (shrN x 1) m0) (andN x m0)
def pc2 (x : Nat) : Nat := addW (andN (shrN x 2) m1) (andN x m1)
def pc3 (x : Nat) : Nat := andN (addW (shrN x 4) x) m2
def pc4 (x : Nat) (s : Nat) : Nat := addW x (shrN x s)
theorem f1 (x : Nat) : addW (andN (shrN x 1) m0) (andN x m0) = pc1 x := rfl
theorem f2 (x : Nat) : addW (andN (shrN x 2) m1) (andN x m1) = pc2 x := rfl
theorem f3 (x : Nat) : andN (addW (shrN x 4) x) m2 = pc3 x := rfl
theorem f4 (x s : Nat) : addW x (shrN x s) = pc4 x s := rfl
def popF (x : Nat) : Nat := mod128 (pc4 (pc4 (pc4 (pc3 (pc2 (pc1 x))) 8) 16) 32)
theorem popF_7 : popF 7 = 3 := by kernel_rfl


set_option maxRecDepth 8000 in
theorem OnesCount64_a (x : Nat) : FnP Try.prog 77 [aU64 x] fun a => a = aInt (popF x : Nat) := by
  refine fnP_in K_math_bits_OnesCount64 mixed rfl (by simp [AV.pureL, aU64_pure]) ?_
  simp only [S_math_bits_OnesCount64, aU64]
  simp (maxSteps := 1000000) (implicitDefEqProofs := false) (disch := omega) only [push_cast, ↓reduceIte, Nat.reduceEqDiff, reduceCtorEq, decide_true, decide_false, Bool.not_true, Bool.not_false, Option.isNone_some, Option.isNone_none, List.drop_zero, List.drop_succ_cons, List.getElem?_cons_zero, List.getElem?_cons_succ, List.length_cons, List.length_nil, List.take_succ_cons, List.take_zero, Nat.mul_one, Nat.zero_add, Nat.add_zero, Nat.one_mul, Nat.zero_mul, List.getElem?_map, List.getElem?_drop, List.getElem?_take, List.length_map, Option.map_some, List.set_cons_zero, List.set_cons_succ, and_true, true_and, List.flatMap_cons, List.flatMap_nil, Bool.not_not, v_addW, v_m0, v_m1, v_m2, v_s1, v_s2, v_s4, v_s8, v_s16, v_s32, v_and127, f1, f2, f3, f4]
  exact fin_v (by rw [popF] <;> rfl)

theorem popF_lt (x : Nat) : popF x < 128 := Nat.mod_lt _ (by omega)
def popS (ws : List Nat) : Nat := (ws.map popF).sum
theorem popS_le (ws : List Nat) : popS ws ≤ 127 * ws.length := by
  induction ws with
  | nil => simp [popS]
  | cons w ws ih =>
    have := popF_lt w
    simp only [popS, List.map_cons, List.sum_cons, List.length_cons] at ih ⊢
    omega
theorem popS_snoc (ws : List Nat) (w : Nat) : popS (ws ++ [w]) = popS ws + popF w := by simp [popS]

def aheadR (o : Option (List (List Nat))) (b : Int) : Int := if inR o b then (popS ((o.getD []).getD b.toNat []) : Nat) else 0
theorem Ahead_a (o : Option (List (List Nat))) (ho : wfR o) (b : Int) : FnP Try.prog 41 [aR o, aInt b] fun r => r = aInt (aheadR o b) := by
  refine fnP_in K_reach_Reach_Ahead mixed rfl (by simp [AV.pureL, aR_pure, aInt, AV.pure]) ?_
  simp only [S_reach_Reach_Ahead]
  simp (maxSteps := 1000000) (implicitDefEqProofs := false) (disch := omega) only [push_cast, ↓reduceIte, Nat.reduceEqDiff, reduceCtorEq, decide_true, decide_false, Bool.not_true, Bool.not_false, Option.isNone_some, Option.isNone_none, List.drop_zero, List.drop_succ_cons, List.getElem?_cons_zero, List.getElem?_cons_succ, List.length_cons, List.length_nil, List.take_succ_cons, List.take_zero, Nat.mul_one, Nat.zero_add, Nat.add_zero, Nat.one_mul, Nat.zero_mul, List.getElem?_map, List.getElem?_drop, List.getElem?_take, List.length_map, Option.map_some, List.set_cons_zero, List.set_cons_succ, and_true, true_and, List.flatMap_cons, List.flatMap_nil, Bool.not_not]
  refine wpa_call (is_a o b) ?_
  rintro x rfl
  cases hb : inR o b with
  | false =>
    simp (maxSteps := 1000000) (implicitDefEqProofs := false) (disch := omega) only [push_cast, ↓reduceIte, Nat.reduceEqDiff, reduceCtorEq, decide_true, decide_false, Bool.not_true, Bool.not_false, Option.isNone_some, Option.isNone_none, List.drop_zero, List.drop_succ_cons, List.getElem?_cons_zero, List.getElem?_cons_succ, List.length_cons, List.length_nil, List.take_succ_cons, List.take_zero, Nat.mul_one, Nat.zero_add, Nat.add_zero, Nat.one_mul, Nat.zero_mul, List.getElem?_map, List.getElem?_drop, List.getElem?_take, List.length_map, Option.map_some, List.set_cons_zero, List.set_cons_succ, and_true, true_and, List.flatMap_cons, List.flatMap_nil, Bool.not_not, aBool]
    exact fin_v (by simp [aInt, aheadR, hb])
  | true =>
    have hb' := hb
    simp only [inR, Bool.and_eq_true, decide_eq_true_eq] at hb'
    cases o with
    | none => simp [lenR] at hb'; omega
    | some M =>
      simp only [lenR] at hb'
      obtain ⟨q, rfl⟩ : ∃ q : Nat, b = q := ⟨b.toNat, by omega⟩
      obtain ⟨ws, hws⟩ := at_lt (l := M) (k := q) (by omega)
      have hwl := ho.2 q ws hws
      have hlim := ho.1
      simp only [lenR] at hlim
      simp (maxSteps := 1000000) (implicitDefEqProofs := false) (disch := omega) only [push_cast, ↓reduceIte, Nat.reduceEqDiff, reduceCtorEq, decide_true, decide_false, Bool.not_true, Bool.not_false, Option.isNone_some, Option.isNone_none, List.drop_zero, List.drop_succ_cons, List.getElem?_cons_zero, List.getElem?_cons_succ, List.length_cons, List.length_nil, List.take_succ_cons, List.take_zero, Nat.mul_one, Nat.zero_add, Nat.add_zero, Nat.one_mul, Nat.zero_mul, List.getElem?_map, List.getElem?_drop, List.getElem?_take, List.length_map, Option.map_some, List.set_cons_zero, List.set_cons_succ, and_true, true_and, List.flatMap_cons, List.flatMap_nil, Bool.not_not, aBool, aInt, aR, aReach, hws, aU64s, aSl]
      refine wpa_bl (α := Nat) (I := fun k ε σ => (ε 18 = .sl ws.length (ws.map aU64) .none ∧ ε 19 = .v (.int .i64 ws.length) ∧ ε 20 = .v (.int .i64 k) ∧ ε 5 = .v (.int .i64 (popS (ws.take k) : Nat))) ∧ k ≤ ws.length)
        (μ := fun k => ws.length - k) (Q := fun ε σ => ε 5 = .v (.int .i64 (popS ws : Nat))) (x := 0) ?_ ?_ ?_
      · simp (maxSteps := 1000000) (implicitDefEqProofs := false) (disch := omega) only [push_cast, ↓reduceIte, Nat.reduceEqDiff, reduceCtorEq, decide_true, decide_false, Bool.not_true, Bool.not_false, Option.isNone_some, Option.isNone_none, List.drop_zero, List.drop_succ_cons, List.getElem?_cons_zero, List.getElem?_cons_succ, List.length_cons, List.length_nil, List.take_succ_cons, List.take_zero, Nat.mul_one, Nat.zero_add, Nat.add_zero, Nat.one_mul, Nat.zero_mul, List.getElem?_map, List.getElem?_drop, List.getElem?_take, List.length_map, Option.map_some, List.set_cons_zero, List.set_cons_succ, and_true, true_and, List.flatMap_cons, List.flatMap_nil, Bool.not_not]
        exact ⟨rfl, by omega⟩
      · rintro k ε σ N E ⟨hρ, hk⟩ hN hE
        simp only [S_reach_Reach_Ahead_L1]
        by_cases hlt : k < ws.length
        · obtain ⟨w, hw⟩ := at_lt hlt
          simp (maxSteps := 1000000) (implicitDefEqProofs := false) (disch := omega) only [push_cast, ↓reduceIte, Nat.reduceEqDiff, reduceCtorEq, decide_true, decide_false, Bool.not_true, Bool.not_false, Option.isNone_some, Option.isNone_none, List.drop_zero, List.drop_succ_cons, List.getElem?_cons_zero, List.getElem?_cons_succ, List.length_cons, List.length_nil, List.take_succ_cons, List.take_zero, Nat.mul_one, Nat.zero_add, Nat.add_zero, Nat.one_mul, Nat.zero_mul, List.getElem?_map, List.getElem?_drop, List.getElem?_take, List.length_map, Option.map_some, List.set_cons_zero, List.set_cons_succ, and_true, true_and, List.flatMap_cons, List.flatMap_nil, Bool.not_not, hρ, hw]
          refine wpa_call (OnesCount64_a w) ?_
          rintro x rfl
          have hp1 := popF_lt w
          have hp2 := popS_le (ws.take k)
          have hp3 : (ws.take k).length = k := by simp; omega
          simp (maxSteps := 1000000) (implicitDefEqProofs := false) (disch := omega) only [push_cast, ↓reduceIte, Nat.reduceEqDiff, reduceCtorEq, decide_true, decide_false, Bool.not_true, Bool.not_false, Option.isNone_some, Option.isNone_none, List.drop_zero, List.drop_succ_cons, List.getElem?_cons_zero, List.getElem?_cons_succ, List.length_cons, List.length_nil, List.take_succ_cons, List.take_zero, Nat.mul_one, Nat.zero_add, Nat.add_zero, Nat.one_mul, Nat.zero_mul, List.getElem?_map, List.getElem?_drop, List.getElem?_take, List.length_map, Option.map_some, List.set_cons_zero, List.set_cons_succ, and_true, true_and, List.flatMap_cons, List.flatMap_nil, Bool.not_not, hρ, aInt]
          refine hN (k + 1) _ _ ?_ (by omega)
          simp (maxSteps := 1000000) (implicitDefEqProofs := false) (disch := omega) only [push_cast, ↓reduceIte, Nat.reduceEqDiff, reduceCtorEq, decide_true, decide_false, Bool.not_true, Bool.not_false, Option.isNone_some, Option.isNone_none, List.drop_zero, List.drop_succ_cons, List.getElem?_cons_zero, List.getElem?_cons_succ, List.length_cons, List.length_nil, List.take_succ_cons, List.take_zero, Nat.mul_one, Nat.zero_add, Nat.add_zero, Nat.one_mul, Nat.zero_mul, List.getElem?_map, List.getElem?_drop, List.getElem?_take, List.length_map, Option.map_some, List.set_cons_zero, List.set_cons_succ, and_true, true_and, List.flatMap_cons, List.flatMap_nil, Bool.not_not, hρ]
          refine ⟨?_, by omega⟩
          rw [take_succ_at hw, popS_snoc]
          push_cast
          rfl
        · simp (maxSteps := 1000000) (implicitDefEqProofs := false) (disch := omega) only [push_cast, ↓reduceIte, Nat.reduceEqDiff, reduceCtorEq, decide_true, decide_false, Bool.not_true, Bool.not_false, Option.isNone_some, Option.isNone_none, List.drop_zero, List.drop_succ_cons, List.getElem?_cons_zero, List.getElem?_cons_succ, List.length_cons, List.length_nil, List.take_succ_cons, List.take_zero, Nat.mul_one, Nat.zero_add, Nat.add_zero, Nat.one_mul, Nat.zero_mul, List.getElem?_map, List.getElem?_drop, List.getElem?_take, List.length_map, Option.map_some, List.set_cons_zero, List.set_cons_succ, and_true, true_and, List.flatMap_cons, List.flatMap_nil, Bool.not_not, hρ]
          refine hE _ _ ?_
          simp (maxSteps := 1000000) (implicitDefEqProofs := false) (disch := omega) only [push_cast, ↓reduceIte, Nat.reduceEqDiff, reduceCtorEq, decide_true, decide_false, Bool.not_true, Bool.not_false, Option.isNone_some, Option.isNone_none, List.drop_zero, List.drop_succ_cons, List.getElem?_cons_zero, List.getElem?_cons_succ, List.length_cons, List.length_nil, List.take_succ_cons, List.take_zero, Nat.mul_one, Nat.zero_add, Nat.add_zero, Nat.one_mul, Nat.zero_mul, List.getElem?_map, List.getElem?_drop, List.getElem?_take, List.length_map, Option.map_some, List.set_cons_zero, List.set_cons_succ, and_true, true_and, List.flatMap_cons, List.flatMap_nil, Bool.not_not, hρ]
          rw [List.take_of_length_le (by omega)]
      · rintro ε σ hρ
        simp (maxSteps := 1000000) (implicitDefEqProofs := false) (disch := omega) only [push_cast, ↓reduceIte, Nat.reduceEqDiff, reduceCtorEq, decide_true, decide_false, Bool.not_true, Bool.not_false, Option.isNone_some, Option.isNone_none, List.drop_zero, List.drop_succ_cons, List.getElem?_cons_zero, List.getElem?_cons_succ, List.length_cons, List.length_nil, List.take_succ_cons, List.take_zero, Nat.mul_one, Nat.zero_add, Nat.add_zero, Nat.one_mul, Nat.zero_mul, List.getElem?_map, List.getElem?_drop, List.getElem?_take, List.length_map, Option.map_some, List.set_cons_zero, List.set_cons_succ, and_true, true_and, List.flatMap_cons, List.flatMap_nil, Bool.not_not, hρ]
        exact fin_v (by simp [aInt, aheadR, hb, List.getD_eq_getElem?_getD, hws])
end
section
theorem getD_take {α : Type} (l : List α) (k i : Nat) (d : α) (h : i < k) : (l.take k).getD i d = l.getD i d := by
  simp [List.getD_eq_getElem?_getD, List.getElem?_take, h]
end
section
inductive Anc (xss : List (List Int)) : Nat → Nat → Prop
  | dir {i j : Nat} {l : List Int} : xss[i]? = some l → (j : Int) ∈ l → Anc xss j i
  | via {i p j : Nat} {l : List Int} : xss[i]? = some l → (p : Int) ∈ l → Anc xss j p → Anc xss j i
theorem Anc.lt {xss : List (List Int)} (hok : okB 0 xss = true) {i j : Nat} (h : Anc xss j i) : j < i := by
  induction h with
  | dir h1 h2 => have := okB_at hok h1 _ h2; omega
  | via h1 h2 _ ih => have := okB_at hok h1 _ h2; omega
theorem Anc.trans {xss : List (List Int)} {k j i : Nat} (h1 : Anc xss k j) (h2 : Anc xss j i) : Anc xss k i := by
  induction h2 with
  | dir e1 e2 => exact .via e1 e2 h1
  | via e1 e2 _ ih => exact .via e1 e2 (ih h1)

def bitW (ws : List Nat) (j : Nat) : Bool := (ws.getD (j / 64) 0).testBit (j % 64)
theorem bitW_zero (n j : Nat) : bitW (List.replicate n 0) j = false := by
  unfold bitW
  by_cases h : j / 64 < n
  · simp [List.getD_eq_getElem?_getD, h]
  · rw [List.getD_eq_getElem?_getD, List.getElem?_eq_none (by simpa using h)]; simp
theorem bitW_orAt (ws : List Nat) (q x j : Nat) (hq : q < ws.length) : bitW (orAt ws q x) j = (bitW ws j || (decide (j / 64 = q) && x.testBit (j % 64))) := by
  unfold bitW orAt
  simp only [List.getD_eq_getElem?_getD, List.getElem?_set]
  by_cases h : q = j / 64
  · subst h; simp [hq, orN]
  · have : ¬ j / 64 = q := fun e => h e.symm
    simp [h, this]
theorem bitW_orK (s t : List Nat) (j : Nat) : ∀ k, k ≤ s.length → bitW (orK s t k) j = (bitW s j || (decide (j / 64 < k) && bitW t j)) := by
  intro k
  induction k with
  | zero => intro _; simp [orK]
  | succ k ih =>
    intro hk
    rw [orK, bitW_orAt _ _ _ _ (by rw [orK_len]; omega), ih (by omega), Bool.or_assoc]
    congr 1
    by_cases h : j / 64 = k
    · have h2 : ¬ j / 64 < k := by omega
      have h3 : j / 64 < k + 1 := by omega
      simp only [h2, h3, h, decide_true, decide_false, Bool.false_and, Bool.true_and, Bool.false_or]
      unfold bitW
      rw [h]
      simp
    · have : (j / 64 < k + 1) ↔ j / 64 < k := by omega
      simp [h, this]
theorem pow2_bit (s k : Nat) : (pow2 s).testBit k = decide (s = k) := by
  unfold pow2
  rw [Nat.testBit_two_pow]
theorem bitW_out (t : List Nat) (j : Nat) (h : t.length ≤ j / 64) : bitW t j = false := by
  unfold bitW
  rw [List.getD_eq_getElem?_getD, List.getElem?_eq_none h]
  simp
theorem bitW_addP (M : List (List Nat)) (s : List Nat) (q j : Nat) (h1 : q / 64 < s.length) (h2 : (M.getD q []).length ≤ s.length) : bitW (addP M s (q : Int)) j = (bitW s j || (decide (j = q) || bitW (M.getD q []) j)) := by
  unfold addP
  rw [Int.toNat_natCast, bitW_orK _ _ _ _ (by rw [orAt_len]; exact h2), bitW_orAt _ _ _ _ h1, pow2_bit, Bool.or_assoc]
  congr 1
  congr 1
  · rw [Bool.eq_iff_iff]
    simp only [Bool.and_eq_true, decide_eq_true_eq]
    omega
  · by_cases h : j / 64 < (M.getD q []).length
    · rw [decide_eq_true h, Bool.true_and]
    · rw [bitW_out _ _ (by omega)]; simp
theorem bitW_row (M : List (List Nat)) (j : Nat) : ∀ (l : List Int) (s : List Nat), (∀ p ∈ l, 0 ≤ p ∧ p.toNat / 64 < s.length ∧ (M.getD p.toNat []).length ≤ s.length) →
    bitW (l.foldl (addP M) s) j = (bitW s j || l.any fun p => decide (j = p.toNat) || bitW (M.getD p.toNat []) j) := by
  intro l
  induction l with
  | nil => intro s _; simp
  | cons p l ih =>
    intro s h
    obtain ⟨h0, h1, h2⟩ := h p (by simp)
    obtain ⟨q, rfl⟩ : ∃ q : Nat, p = q := ⟨p.toNat, by omega⟩
    simp only [Int.toNat_natCast] at h1 h2
    rw [List.foldl_cons, ih _ (fun r hr => by rw [addP_len]; exact h r (by simp [hr])), bitW_addP _ _ _ _ h1 h2]
    simp [Bool.or_assoc]
theorem mkM_take (xss : List (List Int)) : ∀ k, (mkM xss).take k = mkM (xss.take k) := by
  induction xss using snoc_ind with
  | h0 => intro k; simp [mkM]
  | hs xs l ih =>
    intro k
    by_cases hk : k ≤ xs.length
    · rw [mkM_snoc, List.take_append_of_le_length (by rw [mkM_len]; exact hk), ih, List.take_append_of_le_length hk]
    · rw [List.take_of_length_le (by rw [mkM_len]; simp; omega), List.take_of_length_le (l := xs ++ [l]) (by simp; omega)]
theorem mkM_row {xss : List (List Int)} {k : Nat} {l : List Int} (hl : xss[k]? = some l) : (mkM xss).getD k [] = newRow (mkM (xss.take k)) k l := by
  have hk : k < xss.length := (List.getElem?_eq_some_iff.1 hl).1
  have h1 : (mkM xss).getD k [] = (mkM (xss.take (k + 1))).getD k [] := by rw [← mkM_take, getD_take _ _ _ _ (by omega)]
  have hlen : (mkM (xss.take k)).length = k := by rw [mkM_len]; simp; omega
  rw [h1, take_succ_at hl, mkM_snoc, List.getD_eq_getElem?_getD, List.getElem?_append_right (by omega), hlen, Nat.sub_self]
  rfl
theorem mkM_bit {xss : List (List Int)} (hok : okB 0 xss = true) : ∀ (i : Nat), i < xss.length → ∀ j, bitW ((mkM xss).getD i []) j = true ↔ Anc xss j i := by
  intro i
  induction i using Nat.strongRecOn with
  | ind i ih =>
    intro hi j
    obtain ⟨l, hl⟩ := at_lt hi
    rw [mkM_row hl, newRow]
    have hget : ∀ q, q < i → (mkM (xss.take i)).getD q [] = (mkM xss).getD q [] := fun q hq => by rw [← mkM_take, getD_take _ _ _ _ hq]
    rw [bitW_row]
    · rw [bitW_zero, Bool.false_or, List.any_eq_true]
      constructor
      · rintro ⟨p, hp, h⟩
        have hpi := okB_at hok hl p hp
        obtain ⟨q, rfl⟩ : ∃ q : Nat, p = q := ⟨p.toNat, by omega⟩
        simp only [Int.toNat_natCast, Bool.or_eq_true, decide_eq_true_eq] at h
        rcases h with rfl | h
        · exact .dir hl hp
        · rw [hget q (by omega)] at h
          exact .via hl hp ((ih q (by omega) (by omega) j).1 h)
      · intro h
        cases h with
        | dir e1 e2 => rw [hl] at e1; cases e1; exact ⟨_, e2, by simp⟩
        | @via _ p _ _ e1 e2 e3 =>
          rw [hl] at e1; cases e1
          have := okB_at hok hl _ e2
          refine ⟨_, e2, ?_⟩
          simp only [Int.toNat_natCast, Bool.or_eq_true]
          right
          rw [hget p (by omega)]
          exact (ih p (by omega) (by omega) j).2 e3
    · intro p hp
      have hpi := okB_at hok hl p hp
      refine ⟨hpi.1, by rw [List.length_replicate]; omega, ?_⟩
      rw [hget p.toNat (by omega), List.length_replicate, List.getD_eq_getElem?_getD]
      obtain ⟨ws, hws⟩ := at_lt (l := mkM xss) (k := p.toNat) (by rw [mkM_len]; omega)
      rw [hws, Option.getD_some, mkM_at xss _ _ hws]
      omega
end
section
/-- How many of the first n bits are set. -/
def cnt (n x : Nat) : Nat := (List.range n).countP fun k => x.testBit k
theorem cnt_add (m n x : Nat) : cnt (m + n) x = cnt m x + cnt n (x / 2 ^ m) := by
  unfold cnt
  rw [List.range_add, List.countP_append, List.countP_map]
  congr 1
  apply List.countP_congr
  intro k _
  simp only [Function.comp_apply]
  rw [Nat.testBit_div_two_pow]
  rw [Nat.add_comm]
theorem cnt_low (a y : Nat) (h : a < 256) : cnt 8 (a + 256 * y) = cnt 8 a := by
  unfold cnt
  apply List.countP_congr
  intro k hk
  have hk8 : k < 8 := List.mem_range.1 hk
  have e : a + 256 * y = 2 ^ 8 * y + a := by omega
  rw [e, Nat.testBit_two_pow_mul_add y (by omega : a < 2 ^ 8)]
  simp [hk8]
theorem and256 (a y c m : Nat) (ha : a < 256) (hc : c < 256) : andN (a + 256 * y) (c + 256 * m) = andN a c + 256 * andN y m := by
  unfold andN
  have h1 : a &&& c < 2 ^ 8 := Nat.and_lt_two_pow _ (by omega)
  apply Nat.eq_of_testBit_eq
  intro i
  rw [Nat.testBit_and, show a + 256 * y = 2 ^ 8 * y + a by omega, show c + 256 * m = 2 ^ 8 * m + c by omega, show (a &&& c) + 256 * (y &&& m) = 2 ^ 8 * (y &&& m) + (a &&& c) by omega,
    Nat.testBit_two_pow_mul_add y (by omega : a < 2 ^ 8), Nat.testBit_two_pow_mul_add m (by omega : c < 2 ^ 8), Nat.testBit_two_pow_mul_add (y &&& m) h1]
  by_cases hi : i < 8
  · simp [hi, Nat.testBit_and]
  · simp [hi, Nat.testBit_and]
def mask (c : Nat) : Nat → Nat
  | 0 => 0
  | k + 1 => c + 256 * mask c k
def s1 (k x : Nat) : Nat := andN (x / 2) (mask 85 k) + andN x (mask 85 k)
def s2 (k x : Nat) : Nat := andN (x / 4) (mask 51 k) + andN x (mask 51 k)
def s3 (k x : Nat) : Nat := andN (x / 16 + x) (mask 15 k)
def b1 (a : Nat) : Nat := andN (a / 2) 85 + andN a 85
def b2 (a : Nat) : Nat := andN (a / 4) 51 + andN a 51
theorem b1_fact : ∀ a : Fin 256, b1 a < 256 ∧ (∀ t : Fin 2, andN (a / 2 + 128 * t) 85 = andN (a / 2) 85) := by decide +kernel
theorem b2_fact : ∀ a : Fin 256, b2 a < 256 ∧ (∀ t : Fin 4, andN (a / 4 + 64 * t) 51 = andN (a / 4) 51) := by decide +kernel
theorem b3_fact : ∀ a : Fin 256, b2 (b1 a) ≤ 68 ∧ b2 (b1 a) % 16 ≤ 4 ∧ (b2 (b1 a) / 16 + b2 (b1 a)) % 16 = cnt 8 a ∧ cnt 8 a ≤ 8 := by decide +kernel
theorem s1_step (k a y : Nat) (ha : a < 256) : s1 (k + 1) (a + 256 * y) = b1 a + 256 * s1 k y := by
  unfold s1 b1
  simp only [mask]
  have e : (a + 256 * y) / 2 = (a / 2 + 128 * (y % 2)) + 256 * (y / 2) := by omega
  have hf := (b1_fact ⟨a, ha⟩).2 ⟨y % 2, by omega⟩
  simp only at hf
  rw [e, and256 _ _ _ _ (by omega) (by omega), and256 _ _ _ _ ha (by omega), hf]
  omega
theorem s2_step (k a y : Nat) (ha : a < 256) : s2 (k + 1) (a + 256 * y) = b2 a + 256 * s2 k y := by
  unfold s2 b2
  simp only [mask]
  have e : (a + 256 * y) / 4 = (a / 4 + 64 * (y % 4)) + 256 * (y / 4) := by omega
  have hf := (b2_fact ⟨a, ha⟩).2 ⟨y % 4, by omega⟩
  simp only at hf
  rw [e, and256 _ _ _ _ (by omega) (by omega), and256 _ _ _ _ ha (by omega), hf]
  omega
theorem and15 (z : Nat) : andN z 15 = z % 16 := by
  unfold andN
  exact Nat.and_two_pow_sub_one_eq_mod z 4
theorem s3_step (k a y : Nat) (ha : a ≤ 68) (hy : y % 16 ≤ 4) : s3 (k + 1) (a + 256 * y) = (a / 16 + a) % 16 + 256 * s3 k y := by
  unfold s3
  simp only [mask]
  have e : (a + 256 * y) / 16 + (a + 256 * y) = (a / 16 + 16 * (y % 16) + a) + 256 * (y / 16 + y) := by omega
  rw [e, and256 _ _ _ _ (by omega) (by omega), and15]
  have : (a / 16 + 16 * (y % 16) + a) % 16 = (a / 16 + a) % 16 := by omega
  rw [this]
theorem s12_step (k a y : Nat) (ha : a < 256) : s2 (k + 1) (s1 (k + 1) (a + 256 * y)) = b2 (b1 a) + 256 * s2 k (s1 k y) := by
  rw [s1_step k a y ha, s2_step k _ _ (b1_fact ⟨a, ha⟩).1]
theorem byte_split (x : Nat) : x = x % 256 + 256 * (x / 256) := by omega
theorem s_zero (x : Nat) : s1 0 x = 0 ∧ s2 0 x = 0 ∧ s3 0 x = 0 := by simp [s1, s2, s3, mask, andN]
theorem s12_nib (k x : Nat) : s2 k (s1 k x) % 16 ≤ 4 ∧ s2 k (s1 k x) * 3 < 256 ^ k ∧ s1 k x < 256 ^ k := by
  induction k generalizing x with
  | zero => simp [s_zero]
  | succ k ih =>
    rw [byte_split x]
    have ha : x % 256 < 256 := by omega
    rw [s12_step k _ _ ha, s1_step k _ _ ha]
    have f1 := b3_fact ⟨x % 256, ha⟩
    have f2 := b1_fact ⟨x % 256, ha⟩
    have f3 := ih (x / 256)
    simp only at f1 f2
    rw [Nat.pow_succ]
    omega
def gg (k x : Nat) : Nat := s3 k (s2 k (s1 k x))
theorem gg_step (k x : Nat) : gg (k + 1) x = cnt 8 (x % 256) + 256 * gg k (x / 256) := by
  have ha : x % 256 < 256 := by omega
  have f1 := b3_fact ⟨x % 256, ha⟩
  simp only at f1
  unfold gg
  conv => lhs; rw [byte_split x]
  rw [s12_step k _ _ ha, s3_step k _ _ f1.1 (s12_nib k _).1, f1.2.2.1]
theorem gg_zero (x : Nat) : gg 0 x = 0 := (s_zero _).2.2
theorem cnt_le8 (x : Nat) : cnt 8 x ≤ 8 := by
  unfold cnt
  exact Nat.le_trans List.countP_le_length (by simp)
theorem cnt_mod (x : Nat) : cnt 8 (x % 256) = cnt 8 x := by
  conv => rhs; rw [byte_split x]
  rw [cnt_low _ _ (by omega)]
theorem cnt_step (n x : Nat) : cnt (8 + n) x = cnt 8 (x % 256) + cnt n (x / 256) := by rw [cnt_add, cnt_mod]
theorem mask_m0 : mask 85 8 = m0 := by decide
theorem mask_m1 : mask 51 8 = m1 := by decide
theorem mask_m2 : mask 15 8 = m2 := by decide
theorem q8 (z : Nat) : pc4 z 8 = (z + z / 256) % 18446744073709551616 := by
  unfold pc4 addW shrN
  rw [Nat.shiftRight_eq_div_pow]
theorem q16 (z : Nat) : pc4 z 16 = (z + z / 65536) % 18446744073709551616 := by
  unfold pc4 addW shrN
  rw [Nat.shiftRight_eq_div_pow]
theorem q32 (z : Nat) : pc4 z 32 = (z + z / 4294967296) % 18446744073709551616 := by
  unfold pc4 addW shrN
  rw [Nat.shiftRight_eq_div_pow]
theorem div_nest (a b : Nat) (h : a < 256) : (a + 256 * b) / 256 = b := by omega
theorem add_nest (a b c d : Nat) : (a + 256 * b) + (c + 256 * d) = (a + c) + 256 * (b + d) := by omega
theorem mod_nest (a b : Nat) : mod128 (a + 256 * b) = a % 128 := by unfold mod128; omega
theorem lt_nest (a b m : Nat) (ha : a < 256) (hb : b < m) : a + 256 * b < 256 * m := by omega
theorem div_65536 (z : Nat) : z / 65536 = z / 256 / 256 := by omega
theorem div_2p32 (z : Nat) : z / 4294967296 = z / 256 / 256 / 256 / 256 := by omega
set_option maxHeartbeats 2000000 in
theorem fold8 (c0 c1 c2 c3 c4 c5 c6 c7 : Nat) (h0 : c0 ≤ 8) (h1 : c1 ≤ 8) (h2 : c2 ≤ 8) (h3 : c3 ≤ 8) (h4 : c4 ≤ 8) (h5 : c5 ≤ 8) (h6 : c6 ≤ 8) (h7 : c7 ≤ 8) :
    mod128 (pc4 (pc4 (pc4 (c0 + 256 * (c1 + 256 * (c2 + 256 * (c3 + 256 * (c4 + 256 * (c5 + 256 * (c6 + 256 * (c7 + 256 * 0)))))))) 8) 16) 32) = c0 + (c1 + (c2 + (c3 + (c4 + (c5 + (c6 + (c7 + 0))))))) := by
  have lt8 : ∀ a b c d e f g h : Nat, a < 256 → b < 256 → c < 256 → d < 256 → e < 256 → f < 256 → g < 256 → h < 256 → (a + 256 * (b + 256 * (c + 256 * (d + 256 * (e + 256 * (f + 256 * (g + 256 * h))))))) < 18446744073709551616 := by
    intro a b c d e f g h ha hb hc hd he hf hg hh
    have := lt_nest _ _ _ ha (lt_nest _ _ _ hb (lt_nest _ _ _ hc (lt_nest _ _ _ hd (lt_nest _ _ _ he (lt_nest _ _ _ hf (lt_nest _ _ _ hg hh))))))
    simpa using this
  rw [q8, div_nest _ _ (by omega)]
  have e1 : (c0 + 256 * (c1 + 256 * (c2 + 256 * (c3 + 256 * (c4 + 256 * (c5 + 256 * (c6 + 256 * (c7 + 256 * 0)))))))) + (c1 + 256 * (c2 + 256 * (c3 + 256 * (c4 + 256 * (c5 + 256 * (c6 + 256 * (c7 + 256 * 0))))))) = ((c0 + c1) + 256 * ((c1 + c2) + 256 * ((c2 + c3) + 256 * ((c3 + c4) + 256 * ((c4 + c5) + 256 * ((c5 + c6) + 256 * ((c6 + c7) + 256 * c7))))))) := by omega
  rw [e1, Nat.mod_eq_of_lt (lt8 _ _ _ _ _ _ _ _ (by omega) (by omega) (by omega) (by omega) (by omega) (by omega) (by omega) (by omega)), q16, div_65536, div_nest _ _ (by omega), div_nest _ _ (by omega)]
  have e2 : ((c0 + c1) + 256 * ((c1 + c2) + 256 * ((c2 + c3) + 256 * ((c3 + c4) + 256 * ((c4 + c5) + 256 * ((c5 + c6) + 256 * ((c6 + c7) + 256 * c7))))))) + ((c2 + c3) + 256 * ((c3 + c4) + 256 * ((c4 + c5) + 256 * ((c5 + c6) + 256 * ((c6 + c7) + 256 * c7))))) = (((c0 + c1) + (c2 + c3)) + 256 * (((c1 + c2) + (c3 + c4)) + 256 * (((c2 + c3) + (c4 + c5)) + 256 * (((c3 + c4) + (c5 + c6)) + 256 * (((c4 + c5) + (c6 + c7)) + 256 * (((c5 + c6) + c7) + 256 * ((c6 + c7) + 256 * c7))))))) := by omega
  rw [e2, Nat.mod_eq_of_lt (lt8 _ _ _ _ _ _ _ _ (by omega) (by omega) (by omega) (by omega) (by omega) (by omega) (by omega) (by omega)), q32, div_2p32, div_nest _ _ (by omega), div_nest _ _ (by omega), div_nest _ _ (by omega), div_nest _ _ (by omega)]
  have e3 : (((c0 + c1) + (c2 + c3)) + 256 * (((c1 + c2) + (c3 + c4)) + 256 * (((c2 + c3) + (c4 + c5)) + 256 * (((c3 + c4) + (c5 + c6)) + 256 * (((c4 + c5) + (c6 + c7)) + 256 * (((c5 + c6) + c7) + 256 * ((c6 + c7) + 256 * c7))))))) + (((c4 + c5) + (c6 + c7)) + 256 * (((c5 + c6) + c7) + 256 * ((c6 + c7) + 256 * c7))) = ((((c0 + c1) + (c2 + c3)) + ((c4 + c5) + (c6 + c7))) + 256 * ((((c1 + c2) + (c3 + c4)) + ((c5 + c6) + c7)) + 256 * ((((c2 + c3) + (c4 + c5)) + (c6 + c7)) + 256 * ((((c3 + c4) + (c5 + c6)) + c7) + 256 * (((c4 + c5) + (c6 + c7)) + 256 * (((c5 + c6) + c7) + 256 * ((c6 + c7) + 256 * c7))))))) := by omega
  rw [e3, Nat.mod_eq_of_lt (lt8 _ _ _ _ _ _ _ _ (by omega) (by omega) (by omega) (by omega) (by omega) (by omega) (by omega) (by omega))]
  rw [mod_nest]
  omega
theorem popF_cnt (x : Nat) : popF x = cnt 64 x := by
  have h1 : pc1 x = s1 8 x := by
    have := (s12_nib 8 x).2.2
    unfold pc1 addW s1 shrN at *
    rw [mask_m0] at *
    rw [Nat.shiftRight_eq_div_pow, Nat.pow_one]
    exact Nat.mod_eq_of_lt (by simpa using this)
  have h2 : pc2 (pc1 x) = s2 8 (s1 8 x) := by
    have := (s12_nib 8 x).2.1
    rw [h1]
    generalize s1 8 x = y at *
    unfold pc2 addW s2 shrN at *
    rw [mask_m1] at *
    rw [Nat.shiftRight_eq_div_pow]
    exact Nat.mod_eq_of_lt (by
      have e : (256 : Nat) ^ 8 = 18446744073709551616 := by decide
      rw [e] at this
      have e2 : y / 2 ^ 2 = y / 4 := rfl
      rw [e2]
      omega)
  have h3 : pc3 (pc2 (pc1 x)) = gg 8 x := by
    have := (s12_nib 8 x).2.1
    rw [h2]
    unfold gg
    generalize s2 8 (s1 8 x) = y at *
    unfold pc3 addW s3 shrN
    rw [mask_m2, Nat.shiftRight_eq_div_pow]
    congr 1
    have e : (256 : Nat) ^ 8 = 18446744073709551616 := by decide
    rw [e] at this
    exact Nat.mod_eq_of_lt (by
      have e2 : y / 2 ^ 4 = y / 16 := rfl
      rw [e2]
      omega)
  have h4 : cnt 64 x = cnt 8 (x % 256) + (cnt 8 (x / 256 % 256) + (cnt 8 (x / 256 / 256 % 256) + (cnt 8 (x / 256 / 256 / 256 % 256) + (cnt 8 (x / 256 / 256 / 256 / 256 % 256) + (cnt 8 (x / 256 / 256 / 256 / 256 / 256 % 256) +
      (cnt 8 (x / 256 / 256 / 256 / 256 / 256 / 256 % 256) + (cnt 8 (x / 256 / 256 / 256 / 256 / 256 / 256 / 256 % 256) + 0))))))) := by
    rw [show 64 = 8 + (8 + (8 + (8 + (8 + (8 + (8 + (8 + 0))))))) from rfl, cnt_step, cnt_step, cnt_step, cnt_step, cnt_step, cnt_step, cnt_step, cnt_step]
    rfl
  unfold popF
  rw [h3, h4]
  have hg : gg 8 x = cnt 8 (x % 256) + 256 * (cnt 8 (x / 256 % 256) + 256 * (cnt 8 (x / 256 / 256 % 256) + 256 * (cnt 8 (x / 256 / 256 / 256 % 256) + 256 * (cnt 8 (x / 256 / 256 / 256 / 256 % 256) + 256 * (cnt 8 (x / 256 / 256 / 256 / 256 / 256 % 256) +
      256 * (cnt 8 (x / 256 / 256 / 256 / 256 / 256 / 256 % 256) + 256 * (cnt 8 (x / 256 / 256 / 256 / 256 / 256 / 256 / 256 % 256) + 256 * 0))))))) := by
    rw [gg_step, gg_step, gg_step, gg_step, gg_step, gg_step, gg_step, gg_step, gg_zero]
  rw [hg]
  exact fold8 _ _ _ _ _ _ _ _ (cnt_le8 _) (cnt_le8 _) (cnt_le8 _) (cnt_le8 _) (cnt_le8 _) (cnt_le8 _) (cnt_le8 _) (cnt_le8 _)
end
section
theorem countP_out {f : Nat → Bool} {a : Nat} (h : ∀ j, a ≤ j → f j = false) (d : Nat) : (List.range (a + d)).countP f = (List.range a).countP f := by
  rw [List.range_add, List.countP_append]
  have : ((List.range d).map (a + ·)).countP f = 0 := by
    rw [List.countP_eq_zero]
    intro x hx
    obtain ⟨y, _, rfl⟩ := List.mem_map.1 hx
    rw [h _ (by omega)]; simp
  omega
theorem popS_cons (w : Nat) (ws : List Nat) : popS (w :: ws) = popF w + popS ws := by simp [popS]
theorem popS_cnt (ws : List Nat) : popS ws = (List.range (64 * ws.length)).countP (bitW ws) := by
  induction ws with
  | nil => simp [popS]
  | cons w ws ih =>
    rw [popS_cons, popF_cnt, ih, List.length_cons, Nat.mul_succ, Nat.add_comm (64 * ws.length) 64, List.range_add, List.countP_append, List.countP_map]
    have e1 : cnt 64 w = (List.range 64).countP (bitW (w :: ws)) := by
      unfold cnt
      apply List.countP_congr
      intro k hk
      have hk : k < 64 := List.mem_range.1 hk
      have h1 : k / 64 = 0 := by omega
      have h2 : k % 64 = k := by omega
      simp [bitW, h1, h2]
    have e2 : (List.range (64 * ws.length)).countP (bitW ws) = (List.range (64 * ws.length)).countP (bitW (w :: ws) ∘ fun x => 64 + x) := by
      apply List.countP_congr
      intro k _
      have h1 : (64 + k) / 64 = k / 64 + 1 := by omega
      have h2 : (64 + k) % 64 = k % 64 := by omega
      simp [bitW, h1, h2]
    rw [e1, e2]
end
end Go.Proofs.Ythgmfjkbgacfaaa.Rx
