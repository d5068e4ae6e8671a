/- Contracts on annotated values: reach.Longest. -/
import Derived.Test.YtilofhocodbknaaRxa
namespace Go.Proofs.Ytilofhocodbknaa
set_option linter.unusedVariables false
set_option linter.unusedSimpArgs false
open Go Go.Kx Go.Proofs

theorem set_mid {α : Type} {A B : List α} {x y : α} {k : Nat} (h : k = A.length) : (A ++ x :: B).set k y = A ++ y :: B := by
  subst h; simp
theorem get_mid {α : Type} {A B : List α} {x : α} {k : Nat} (h : k = A.length) : (A ++ x :: B)[k]? = some x := by
  subst h; simp
theorem set_midI {A B : List Int} {x y : Int} {k : Nat} (h : k = A.length) : ((A ++ x :: B).map aInt).set k (.v (.int .i64 y)) = (A ++ y :: B).map aInt := by
  rw [← set_mid (x := x) (y := y) h, List.map_set]; rfl
theorem get_left {α : Type} {A B : List α} {k : Nat} (h : k < A.length) : (A ++ B)[k]? = A[k]? := List.getElem?_append_left h

def rankP (rs : List Int) (l : List Int) : Int := l.foldl (fun m p => max m (rs.getD p.toNat 0)) 0
/-- For each thing the greatest sum of weights of a row that ends with it. -/
def rkF (w : Nat → Int) (xss : List (List Int)) : List Int := xss.foldl (fun rs l => rs ++ [rankP rs l + w rs.length]) []
def ranks (xss : List (List Int)) : List Int := rkF (fun _ => 1) xss
def maxL (l : List Int) : Int := l.foldl max 0
theorem rkF_snoc (w : Nat → Int) (xss : List (List Int)) (l : List Int) : rkF w (xss ++ [l]) = rkF w xss ++ [rankP (rkF w xss) l + w (rkF w xss).length] := by simp [rkF]
theorem maxL_snoc (l : List Int) (x : Int) : maxL (l ++ [x]) = max (maxL l) x := by simp [maxL]
theorem rankP_snoc (rs : List Int) (l : List Int) (p : Int) : rankP rs (l ++ [p]) = max (rankP rs l) (rs.getD p.toNat 0) := by simp [rankP]
theorem rankP_bd (rs : List Int) (M : Int) (h0 : 0 ≤ M) (h : ∀ r ∈ rs, r ≤ M) (l : List Int) : 0 ≤ rankP rs l ∧ rankP rs l ≤ M := by
  unfold rankP
  suffices H : ∀ (l : List Int) (a : Int), 0 ≤ a → a ≤ M → 0 ≤ l.foldl (fun m p => max m (rs.getD p.toNat 0)) a ∧ l.foldl (fun m p => max m (rs.getD p.toNat 0)) a ≤ M from H l 0 (Int.le_refl _) h0
  intro l
  induction l with
  | nil => intro a h1 h2; exact ⟨h1, h2⟩
  | cons x xs ih =>
    intro a h1 h2
    simp only [List.foldl_cons]
    have : rs.getD x.toNat 0 ≤ M := by
      rw [List.getD_eq_getElem?_getD]
      cases hx : rs[x.toNat]? with
      | none => simpa using h0
      | some r => exact h r (List.mem_of_getElem? hx)
    exact ih _ (by omega) (by omega)
theorem snoc_ind {α : Type} {P : List α → Prop} (h0 : P []) (hs : ∀ xs l, P xs → P (xs ++ [l])) (xs : List α) : P xs := by
  have : ∀ n, ∀ xs : List α, xs.length = n → P xs := by
    intro n
    induction n with
    | zero => intro xs h; rw [List.eq_nil_of_length_eq_zero h]; exact h0
    | succ n ih =>
      intro xs h
      have hne : xs ≠ [] := by intro e; subst e; simp at h
      rw [← List.dropLast_concat_getLast hne]
      exact hs _ _ (ih _ (by simp; omega))
  exact this _ xs rfl
theorem rkF_len (w : Nat → Int) (xss : List (List Int)) : (rkF w xss).length = xss.length := by
  induction xss using snoc_ind with
  | h0 => rfl
  | hs xs l ih => rw [rkF_snoc]; simp [ih]
theorem ranks_bd (xss : List (List Int)) : ∀ r ∈ ranks xss, 1 ≤ r ∧ r ≤ xss.length := by
  induction xss using snoc_ind with
  | h0 => intro r hr; simp [ranks, rkF] at hr
  | hs xs l ih =>
    intro r hr
    rw [ranks, rkF_snoc, List.mem_append] at hr
    rw [List.length_append, List.length_singleton]
    rcases hr with hr | hr
    · have := ih r hr; omega
    · simp only [List.mem_singleton] at hr
      have := rankP_bd (ranks xs) xs.length (by omega) (fun r hr => (ih r hr).2) l
      rw [ranks] at this
      omega
theorem take_succ_at {α : Type} {l : List α} {k : Nat} {a : α} (h : l[k]? = some a) : l.take (k + 1) = l.take k ++ [a] := by
  obtain ⟨hlt, rfl⟩ := List.getElem?_eq_some_iff.1 h
  exact List.take_succ_eq_append_getElem hlt
theorem okB_at {xss : List (List Int)} : ∀ {i : Nat}, okB i xss = true → ∀ {k : Nat} {l : List Int}, xss[k]? = some l → ∀ p ∈ l, 0 ≤ p ∧ p < ((i + k : Nat) : Int) := by
  induction xss with
  | nil => intro i _ k l h; simp at h
  | cons x xs ih =>
    intro i h k l hl p hp
    simp only [okB, Bool.and_eq_true] at h
    cases k with
    | zero =>
      simp at hl
      subst hl
      have := h.1
      simp only [okPs, List.all_eq_true, Bool.and_eq_true, decide_eq_true_eq] at this
      simpa using this p hp
    | succ k =>
      have := ih h.2 (by simpa using hl) p hp
      omega
theorem chk_zero {xss : List (List Int)} (h : chk xss = 0) : xss.length ≤ 1000 ∧ okB 0 xss = true := by
  unfold chk at h
  split at h
  · omega
  · split at h
    · exact ⟨by omega, by assumption⟩
    · omega
theorem rep_split {α : Type} (n k : Nat) (x : α) (h : k < n) : List.replicate (n - k) x = x :: List.replicate (n - (k + 1)) x := by
  rw [show n - k = (n - (k + 1)) + 1 by omega, List.replicate_succ]

set_option maxHeartbeats 1000000 in
theorem reach_Longest_a (xss : List (List Int)) (hs : xss.length ≤ 1000000) (hs2 : ∀ l ∈ xss, l.length ≤ 1000000) :
    FnP Try.prog 48 [aInts2 xss] fun a => a = if chk xss = 0 then .tup [aInt (maxL (ranks xss)), aInt 0] else .tup [aInt 0, aInt (chk xss)] := by
  refine fnP_in K_reach_Longest mixed rfl (by simp [AV.pureL, aInts2_pure]) ?_
  simp only [S_reach_Longest]
  simp (maxSteps := 1000000) (implicitDefEqProofs := false) (disch := omega) only [push_cast, ↓reduceIte, Nat.reduceEqDiff, reduceCtorEq, decide_true, decide_false, Bool.not_true, Bool.not_false, Option.isNone_some, Option.isNone_none, List.drop_zero, List.drop_succ_cons, List.getElem?_cons_zero, List.getElem?_cons_succ, List.length_cons, List.length_nil, List.take_succ_cons, List.take_zero, Nat.mul_one, Nat.zero_add, Nat.add_zero, Nat.one_mul, Nat.zero_mul, List.getElem?_map, List.getElem?_drop, List.getElem?_take, List.length_map, Option.map_some, List.set_cons_zero, List.set_cons_succ, and_true, true_and, List.flatMap_cons, List.flatMap_nil, Bool.not_not]
  refine wpa_call (reach_check_a xss hs hs2) ?_
  rintro a rfl
  by_cases hc : chk xss = 0
  · obtain ⟨hl, hok⟩ := chk_zero hc
    simp (maxSteps := 1000000) (implicitDefEqProofs := false) (disch := omega) only [push_cast, ↓reduceIte, Nat.reduceEqDiff, reduceCtorEq, decide_true, decide_false, Bool.not_true, Bool.not_false, Option.isNone_some, Option.isNone_none, List.drop_zero, List.drop_succ_cons, List.getElem?_cons_zero, List.getElem?_cons_succ, List.length_cons, List.length_nil, List.take_succ_cons, List.take_zero, Nat.mul_one, Nat.zero_add, Nat.add_zero, Nat.one_mul, Nat.zero_mul, List.getElem?_map, List.getElem?_drop, List.getElem?_take, List.length_map, Option.map_some, List.set_cons_zero, List.set_cons_succ, and_true, true_and, List.flatMap_cons, List.flatMap_nil, Bool.not_not, aInt, aInts2, aSl, hc]
    refine wpa_mks rfl (by omega) (by omega) ?_
    simp (maxSteps := 1000000) (implicitDefEqProofs := false) (disch := omega) only [push_cast, ↓reduceIte, Nat.reduceEqDiff, reduceCtorEq, decide_true, decide_false, Bool.not_true, Bool.not_false, Option.isNone_some, Option.isNone_none, List.drop_zero, List.drop_succ_cons, List.getElem?_cons_zero, List.getElem?_cons_succ, List.length_cons, List.length_nil, List.take_succ_cons, List.take_zero, Nat.mul_one, Nat.zero_add, Nat.add_zero, Nat.one_mul, Nat.zero_mul, List.getElem?_map, List.getElem?_drop, List.getElem?_take, List.length_map, Option.map_some, List.set_cons_zero, List.set_cons_succ, and_true, true_and, List.flatMap_cons, List.flatMap_nil, Bool.not_not, repA_one]
    refine wpa_bl (α := Nat) (I := fun k ε σ => (ε 19 = .sl xss.length (xss.map aInts) .none ∧ ε 20 = .v (.int .i64 xss.length) ∧ ε 21 = .v (.int .i64 k) ∧ ε 6 = .ms 0 0 0 xss.length 1 ∧ ε 5 = aInt (maxL (ranks (xss.take k)))) ∧ k ≤ xss.length ∧
        σ = [.obj 0 ((ranks (xss.take k) ++ List.replicate (xss.length - k) 0).map aInt)])
      (μ := fun k => xss.length - k) (Q := fun ε _ => ε 5 = aInt (maxL (ranks xss))) (x := 0) ?_ ?_ ?_
    · simp (maxSteps := 1000000) (implicitDefEqProofs := false) (disch := omega) only [push_cast, ↓reduceIte, Nat.reduceEqDiff, reduceCtorEq, decide_true, decide_false, Bool.not_true, Bool.not_false, Option.isNone_some, Option.isNone_none, List.drop_zero, List.drop_succ_cons, List.getElem?_cons_zero, List.getElem?_cons_succ, List.length_cons, List.length_nil, List.take_succ_cons, List.take_zero, Nat.mul_one, Nat.zero_add, Nat.add_zero, Nat.one_mul, Nat.zero_mul, List.getElem?_map, List.getElem?_drop, List.getElem?_take, List.length_map, Option.map_some, List.set_cons_zero, List.set_cons_succ, and_true, true_and, List.flatMap_cons, List.flatMap_nil, Bool.not_not]
      exact ⟨rfl, by omega, by simp [ranks, rkF, aInt]⟩
    · rintro k ε σ N E ⟨hρ, hk, rfl⟩ hN hE
      simp only [S_reach_Longest_L1]
      by_cases hlt : k < xss.length
      · obtain ⟨l, hl⟩ := at_lt hlt
        have hll := hs2 l (List.mem_of_getElem? hl)
        have hrl : (ranks (xss.take k)).length = k := by rw [ranks, rkF_len]; simp; omega
        have hrb := ranks_bd (xss.take k)
        simp only [List.length_take, Nat.min_eq_left hk] at hrb
        have hpb := fun l' => rankP_bd (ranks (xss.take k)) k (by omega) (fun r hr => (hrb r hr).2) l'
        simp (maxSteps := 1000000) (implicitDefEqProofs := false) (disch := omega) only [push_cast, ↓reduceIte, Nat.reduceEqDiff, reduceCtorEq, decide_true, decide_false, Bool.not_true, Bool.not_false, Option.isNone_some, Option.isNone_none, List.drop_zero, List.drop_succ_cons, List.getElem?_cons_zero, List.getElem?_cons_succ, List.length_cons, List.length_nil, List.take_succ_cons, List.take_zero, Nat.mul_one, Nat.zero_add, Nat.add_zero, Nat.one_mul, Nat.zero_mul, List.getElem?_map, List.getElem?_drop, List.getElem?_take, List.length_map, Option.map_some, List.set_cons_zero, List.set_cons_succ, and_true, true_and, List.flatMap_cons, List.flatMap_nil, Bool.not_not, hρ, hl, aInts, aSl]
        rw [rep_split _ _ _ hlt]
        refine wpa_bl (α := Nat) (I := fun j ε σ => (ε 19 = .sl xss.length (xss.map aInts) .none ∧ ε 20 = .v (.int .i64 xss.length) ∧ ε 21 = .v (.int .i64 k) ∧ ε 6 = .ms 0 0 0 xss.length 1 ∧ ε 5 = aInt (maxL (ranks (xss.take k))) ∧
            ε 7 = .v (.int .i64 k) ∧ ε 26 = .sl l.length (l.map aInt) .none ∧ ε 27 = .v (.int .i64 l.length) ∧ ε 28 = .v (.int .i64 j)) ∧ j ≤ l.length ∧
            σ = [.obj 0 ((ranks (xss.take k) ++ rankP (ranks (xss.take k)) (l.take j) :: List.replicate (xss.length - (k + 1)) 0).map aInt)])
          (μ := fun j => l.length - j) (Q := fun ε σ => (ε 19 = .sl xss.length (xss.map aInts) .none ∧ ε 20 = .v (.int .i64 xss.length) ∧ ε 21 = .v (.int .i64 k) ∧ ε 6 = .ms 0 0 0 xss.length 1 ∧ ε 5 = aInt (maxL (ranks (xss.take k))) ∧ ε 7 = .v (.int .i64 k)) ∧
            σ = [.obj 0 ((ranks (xss.take k) ++ rankP (ranks (xss.take k)) l :: List.replicate (xss.length - (k + 1)) 0).map aInt)]) (x := 0) ?_ ?_ ?_
        · simp (maxSteps := 1000000) (implicitDefEqProofs := false) (disch := omega) only [push_cast, ↓reduceIte, Nat.reduceEqDiff, reduceCtorEq, decide_true, decide_false, Bool.not_true, Bool.not_false, Option.isNone_some, Option.isNone_none, List.drop_zero, List.drop_succ_cons, List.getElem?_cons_zero, List.getElem?_cons_succ, List.length_cons, List.length_nil, List.take_succ_cons, List.take_zero, Nat.mul_one, Nat.zero_add, Nat.add_zero, Nat.one_mul, Nat.zero_mul, List.getElem?_map, List.getElem?_drop, List.getElem?_take, List.length_map, Option.map_some, List.set_cons_zero, List.set_cons_succ, and_true, true_and, List.flatMap_cons, List.flatMap_nil, Bool.not_not, hρ]
          exact ⟨by omega, by simp [rankP]⟩
        · rintro j ε σ N' E' ⟨hρ, hj, rfl⟩ hN' hE'
          simp only [S_reach_Longest_L2]
          by_cases hjl : j < l.length
          · obtain ⟨p, hp⟩ := at_lt hjl
            have hpk := okB_at hok hl p (List.mem_of_getElem? hp)
            obtain ⟨q, rfl⟩ : ∃ q : Nat, p = q := ⟨p.toNat, by omega⟩
            have hqk : q < k := by omega
            obtain ⟨m, hm⟩ := at_lt (l := ranks (xss.take k)) (k := q) (by omega)
            have e1 := get_mid (A := ranks (xss.take k)) (B := List.replicate (xss.length - (k + 1)) 0) (x := rankP (ranks (xss.take k)) (l.take j)) hrl.symm
            have e2 : (ranks (xss.take k) ++ rankP (ranks (xss.take k)) (l.take j) :: List.replicate (xss.length - (k + 1)) 0)[q]? = some m := by rw [get_left (by omega), hm]
            simp (maxSteps := 1000000) (implicitDefEqProofs := false) (disch := omega) only [push_cast, ↓reduceIte, Nat.reduceEqDiff, reduceCtorEq, decide_true, decide_false, Bool.not_true, Bool.not_false, Option.isNone_some, Option.isNone_none, List.drop_zero, List.drop_succ_cons, List.getElem?_cons_zero, List.getElem?_cons_succ, List.length_cons, List.length_nil, List.take_succ_cons, List.take_zero, Nat.mul_one, Nat.zero_add, Nat.add_zero, Nat.one_mul, Nat.zero_mul, List.getElem?_map, List.getElem?_drop, List.getElem?_take, List.length_map, Option.map_some, List.set_cons_zero, List.set_cons_succ, and_true, true_and, List.flatMap_cons, List.flatMap_nil, Bool.not_not, hρ, hp, aInt, e1, e2]
            refine wpa_st1 rfl rfl rfl (by simp; omega) ?_
            simp (maxSteps := 1000000) (implicitDefEqProofs := false) (disch := omega) only [push_cast, ↓reduceIte, Nat.reduceEqDiff, reduceCtorEq, decide_true, decide_false, Bool.not_true, Bool.not_false, Option.isNone_some, Option.isNone_none, List.drop_zero, List.drop_succ_cons, List.getElem?_cons_zero, List.getElem?_cons_succ, List.length_cons, List.length_nil, List.take_succ_cons, List.take_zero, Nat.mul_one, Nat.zero_add, Nat.add_zero, Nat.one_mul, Nat.zero_mul, List.getElem?_map, List.getElem?_drop, List.getElem?_take, List.length_map, Option.map_some, List.set_cons_zero, List.set_cons_succ, and_true, true_and, List.flatMap_cons, List.flatMap_nil, Bool.not_not, hρ]
            refine hN' (j + 1) _ _ ?_ (by omega)
            simp (maxSteps := 1000000) (implicitDefEqProofs := false) (disch := omega) only [push_cast, ↓reduceIte, Nat.reduceEqDiff, reduceCtorEq, decide_true, decide_false, Bool.not_true, Bool.not_false, Option.isNone_some, Option.isNone_none, List.drop_zero, List.drop_succ_cons, List.getElem?_cons_zero, List.getElem?_cons_succ, List.length_cons, List.length_nil, List.take_succ_cons, List.take_zero, Nat.mul_one, Nat.zero_add, Nat.add_zero, Nat.one_mul, Nat.zero_mul, List.getElem?_map, List.getElem?_drop, List.getElem?_take, List.length_map, Option.map_some, List.set_cons_zero, List.set_cons_succ, and_true, true_and, List.flatMap_cons, List.flatMap_nil, Bool.not_not, hρ]
            refine ⟨by omega, ?_⟩
            have e3 : (ranks (xss.take k)).getD ((q : Int).toNat) 0 = m := by simp [List.getD_eq_getElem?_getD, hm]
            rw [take_succ_at hp, rankP_snoc, e3, set_midI hrl.symm]
          · simp (maxSteps := 1000000) (implicitDefEqProofs := false) (disch := omega) only [push_cast, ↓reduceIte, Nat.reduceEqDiff, reduceCtorEq, decide_true, decide_false, Bool.not_true, Bool.not_false, Option.isNone_some, Option.isNone_none, List.drop_zero, List.drop_succ_cons, List.getElem?_cons_zero, List.getElem?_cons_succ, List.length_cons, List.length_nil, List.take_succ_cons, List.take_zero, Nat.mul_one, Nat.zero_add, Nat.add_zero, Nat.one_mul, Nat.zero_mul, List.getElem?_map, List.getElem?_drop, List.getElem?_take, List.length_map, Option.map_some, List.set_cons_zero, List.set_cons_succ, and_true, true_and, List.flatMap_cons, List.flatMap_nil, Bool.not_not, hρ]
            refine hE' _ _ ?_
            simp (maxSteps := 1000000) (implicitDefEqProofs := false) (disch := omega) only [push_cast, ↓reduceIte, Nat.reduceEqDiff, reduceCtorEq, decide_true, decide_false, Bool.not_true, Bool.not_false, Option.isNone_some, Option.isNone_none, List.drop_zero, List.drop_succ_cons, List.getElem?_cons_zero, List.getElem?_cons_succ, List.length_cons, List.length_nil, List.take_succ_cons, List.take_zero, Nat.mul_one, Nat.zero_add, Nat.add_zero, Nat.one_mul, Nat.zero_mul, List.getElem?_map, List.getElem?_drop, List.getElem?_take, List.length_map, Option.map_some, List.set_cons_zero, List.set_cons_succ, and_true, true_and, List.flatMap_cons, List.flatMap_nil, Bool.not_not, hρ]
            rw [List.take_of_length_le (l := l) (by omega)]
        · rintro ε σ ⟨hρ, rfl⟩
          have hb := hpb l
          have e1 := get_mid (A := ranks (xss.take k)) (B := List.replicate (xss.length - (k + 1)) 0) (x := rankP (ranks (xss.take k)) l) hrl.symm
          simp (maxSteps := 1000000) (implicitDefEqProofs := false) (disch := omega) only [push_cast, ↓reduceIte, Nat.reduceEqDiff, reduceCtorEq, decide_true, decide_false, Bool.not_true, Bool.not_false, Option.isNone_some, Option.isNone_none, List.drop_zero, List.drop_succ_cons, List.getElem?_cons_zero, List.getElem?_cons_succ, List.length_cons, List.length_nil, List.take_succ_cons, List.take_zero, Nat.mul_one, Nat.zero_add, Nat.add_zero, Nat.one_mul, Nat.zero_mul, List.getElem?_map, List.getElem?_drop, List.getElem?_take, List.length_map, Option.map_some, List.set_cons_zero, List.set_cons_succ, and_true, true_and, List.flatMap_cons, List.flatMap_nil, Bool.not_not, hρ, e1, aInt]
          refine wpa_st1 rfl rfl rfl (by simp; omega) ?_
          have e2 := set_midI (B := List.replicate (xss.length - (k + 1)) 0) (x := rankP (ranks (xss.take k)) l) (y := rankP (ranks (xss.take k)) l + 1) hrl.symm
          have e3 := get_mid (A := ranks (xss.take k)) (B := List.replicate (xss.length - (k + 1)) 0) (x := rankP (ranks (xss.take k)) l + 1) hrl.symm
          simp (maxSteps := 1000000) (implicitDefEqProofs := false) (disch := omega) only [push_cast, ↓reduceIte, Nat.reduceEqDiff, reduceCtorEq, decide_true, decide_false, Bool.not_true, Bool.not_false, Option.isNone_some, Option.isNone_none, List.drop_zero, List.drop_succ_cons, List.getElem?_cons_zero, List.getElem?_cons_succ, List.length_cons, List.length_nil, List.take_succ_cons, List.take_zero, Nat.mul_one, Nat.zero_add, Nat.add_zero, Nat.one_mul, Nat.zero_mul, List.getElem?_map, List.getElem?_drop, List.getElem?_take, List.length_map, Option.map_some, List.set_cons_zero, List.set_cons_succ, and_true, true_and, List.flatMap_cons, List.flatMap_nil, Bool.not_not, hρ, e2, e3, aInt]
          refine hN (k + 1) _ _ ?_ (by omega)
          simp (maxSteps := 1000000) (implicitDefEqProofs := false) (disch := omega) only [push_cast, ↓reduceIte, Nat.reduceEqDiff, reduceCtorEq, decide_true, decide_false, Bool.not_true, Bool.not_false, Option.isNone_some, Option.isNone_none, List.drop_zero, List.drop_succ_cons, List.getElem?_cons_zero, List.getElem?_cons_succ, List.length_cons, List.length_nil, List.take_succ_cons, List.take_zero, Nat.mul_one, Nat.zero_add, Nat.add_zero, Nat.one_mul, Nat.zero_mul, List.getElem?_map, List.getElem?_drop, List.getElem?_take, List.length_map, Option.map_some, List.set_cons_zero, List.set_cons_succ, and_true, true_and, List.flatMap_cons, List.flatMap_nil, Bool.not_not, hρ]
          have e4 : ranks (xss.take (k + 1)) = ranks (xss.take k) ++ [rankP (ranks (xss.take k)) l + 1] := by rw [take_succ_at hl]; exact rkF_snoc _ _ _
          rw [e4, maxL_snoc]
          exact ⟨rfl, by omega, by simp⟩
      · simp (maxSteps := 1000000) (implicitDefEqProofs := false) (disch := omega) only [push_cast, ↓reduceIte, Nat.reduceEqDiff, reduceCtorEq, decide_true, decide_false, Bool.not_true, Bool.not_false, Option.isNone_some, Option.isNone_none, List.drop_zero, List.drop_succ_cons, List.getElem?_cons_zero, List.getElem?_cons_succ, List.length_cons, List.length_nil, List.take_succ_cons, List.take_zero, Nat.mul_one, Nat.zero_add, Nat.add_zero, Nat.one_mul, Nat.zero_mul, List.getElem?_map, List.getElem?_drop, List.getElem?_take, List.length_map, Option.map_some, List.set_cons_zero, List.set_cons_succ, and_true, true_and, List.flatMap_cons, List.flatMap_nil, Bool.not_not, hρ]
        refine hE _ _ ?_
        simp (maxSteps := 1000000) (implicitDefEqProofs := false) (disch := omega) only [push_cast, ↓reduceIte, Nat.reduceEqDiff, reduceCtorEq, decide_true, decide_false, Bool.not_true, Bool.not_false, Option.isNone_some, Option.isNone_none, List.drop_zero, List.drop_succ_cons, List.getElem?_cons_zero, List.getElem?_cons_succ, List.length_cons, List.length_nil, List.take_succ_cons, List.take_zero, Nat.mul_one, Nat.zero_add, Nat.add_zero, Nat.one_mul, Nat.zero_mul, List.getElem?_map, List.getElem?_drop, List.getElem?_take, List.length_map, Option.map_some, List.set_cons_zero, List.set_cons_succ, and_true, true_and, List.flatMap_cons, List.flatMap_nil, Bool.not_not, hρ]
        rw [List.take_of_length_le (by omega)]
    · intro ε σ hρ
      simp (maxSteps := 1000000) (implicitDefEqProofs := false) (disch := omega) only [push_cast, ↓reduceIte, Nat.reduceEqDiff, reduceCtorEq, decide_true, decide_false, Bool.not_true, Bool.not_false, Option.isNone_some, Option.isNone_none, List.drop_zero, List.drop_succ_cons, List.getElem?_cons_zero, List.getElem?_cons_succ, List.length_cons, List.length_nil, List.take_succ_cons, List.take_zero, Nat.mul_one, Nat.zero_add, Nat.add_zero, Nat.one_mul, Nat.zero_mul, List.getElem?_map, List.getElem?_drop, List.getElem?_take, List.length_map, Option.map_some, List.set_cons_zero, List.set_cons_succ, and_true, true_and, List.flatMap_cons, List.flatMap_nil, Bool.not_not, hρ, aInt]
      exact fin_vv rfl
  · simp (maxSteps := 1000000) (implicitDefEqProofs := false) (disch := omega) only [push_cast, ↓reduceIte, Nat.reduceEqDiff, reduceCtorEq, decide_true, decide_false, Bool.not_true, Bool.not_false, Option.isNone_some, Option.isNone_none, List.drop_zero, List.drop_succ_cons, List.getElem?_cons_zero, List.getElem?_cons_succ, List.length_cons, List.length_nil, List.take_succ_cons, List.take_zero, Nat.mul_one, Nat.zero_add, Nat.add_zero, Nat.one_mul, Nat.zero_mul, List.getElem?_map, List.getElem?_drop, List.getElem?_take, List.length_map, Option.map_some, List.set_cons_zero, List.set_cons_succ, and_true, true_and, List.flatMap_cons, List.flatMap_nil, Bool.not_not, aInt, hc]
    exact fin_vv rfl
end Go.Proofs.Ytilofhocodbknaa
