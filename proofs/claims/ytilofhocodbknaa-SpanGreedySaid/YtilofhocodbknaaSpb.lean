/- Contracts on annotated values: span.Work, Span. -/
import Derived.Test.YtilofhocodbknaaSpa
namespace Go.Proofs.Ytilofhocodbknaa
set_option linter.unusedVariables false
set_option linter.unusedSimpArgs false
open Go Go.Kx Go.Proofs

theorem sum_snoc (l : List Int) (x : Int) : (l ++ [x]).sum = l.sum + x := by simp
theorem sum_bd (B : Int) {l : List Int} (h : ∀ x ∈ l, 0 ≤ x ∧ x ≤ B) : 0 ≤ l.sum ∧ l.sum ≤ l.length * B := by
  induction l with
  | nil => simp
  | cons x xs ih =>
    have h1 := h x (by simp)
    have h2 := ih fun y hy => h y (by simp [hy])
    simp only [List.sum_cons, List.length_cons]
    have e : ((xs.length + 1 : Nat) : Int) * B = xs.length * B + B := by rw [Int.natCast_add, Int.add_mul]; simp
    omega
theorem wsE_bd {xss : List (List Int)} {l : List Acc} (hl : l.length ≤ 1000000) : ∀ x ∈ wsE xss l, 0 ≤ x ∧ x ≤ 1000001 := by
  intro x hx
  unfold wsE at hx
  split at hx
  · obtain ⟨i, hi⟩ := List.getElem?_of_mem hx
    have := wtL_bd hi
    omega
  · cases hx
theorem wchk_zero {xss : List (List Int)} {l : List Acc} (h : wchk xss l = 0) : chk xss = 0 ∧ ∀ a ∈ l, 0 ≤ a.s ∧ a.s < (xss.length : Int) := by
  unfold wchk at h
  split at h
  · rename_i hc
    refine ⟨hc, fun a ha => ?_⟩
    split at h
    · rename_i h2
      have := List.all_eq_true.1 h2 a ha
      simpa [accIn] using this
    · omega
  · omega
theorem wsE_len {xss : List (List Int)} (l : List Acc) : (wsE xss l).length ≤ xss.length ∧ (wsE xss l).length ≤ 1000 := by
  unfold wsE
  split
  · rename_i h
    have := (chk_zero (wchk_zero h).1).1
    rw [wtL_len]; omega
  · simp

set_option maxHeartbeats 1000000 in
theorem span_Work_a (xss : List (List Int)) (l : List Acc) (hs : xss.length ≤ 1000000) (hs2 : ∀ l ∈ xss, l.length ≤ 1000000) (hl : l.length ≤ 1000000) : FnP Try.prog 69 [aDag xss l] fun a => a = .tup [aInt (wsE xss l).sum, aInt (wchk xss l)] := by
  refine fnP_in K_span_Work mixed rfl (by simp [AV.pureL, aDag_pure]) ?_
  simp only [S_span_Work, aDag]
  simp (maxSteps := 1000000) (implicitDefEqProofs := false) (disch := omega) only [push_cast, ↓reduceIte, Nat.reduceEqDiff, reduceCtorEq, decide_true, decide_false, Bool.not_true, Bool.not_false, Option.isNone_some, Option.isNone_none, List.drop_zero, List.drop_succ_cons, List.getElem?_cons_zero, List.getElem?_cons_succ, List.length_cons, List.length_nil, List.take_succ_cons, List.take_zero, Nat.mul_one, Nat.zero_add, Nat.add_zero, Nat.one_mul, Nat.zero_mul, List.getElem?_map, List.getElem?_drop, List.getElem?_take, List.length_map, Option.map_some, List.set_cons_zero, List.set_cons_succ, and_true, true_and, List.flatMap_cons, List.flatMap_nil, Bool.not_not]
  refine wpa_box ?_
  simp (maxSteps := 1000000) (implicitDefEqProofs := false) (disch := omega) only [push_cast, ↓reduceIte, Nat.reduceEqDiff, reduceCtorEq, decide_true, decide_false, Bool.not_true, Bool.not_false, Option.isNone_some, Option.isNone_none, List.drop_zero, List.drop_succ_cons, List.getElem?_cons_zero, List.getElem?_cons_succ, List.length_cons, List.length_nil, List.take_succ_cons, List.take_zero, Nat.mul_one, Nat.zero_add, Nat.add_zero, Nat.one_mul, Nat.zero_mul, List.getElem?_map, List.getElem?_drop, List.getElem?_take, List.length_map, Option.map_some, List.set_cons_zero, List.set_cons_succ, and_true, true_and, List.flatMap_cons, List.flatMap_nil, Bool.not_not]
  refine wpa_call (span_Weights_a xss l hs hs2 hl) ?_
  rintro a rfl
  have hb := @wsE_bd xss l hl
  have hn := (@wsE_len xss l).2
  generalize hW : wsE xss l = ws at hb hn ⊢
  simp (maxSteps := 1000000) (implicitDefEqProofs := false) (disch := omega) only [push_cast, ↓reduceIte, Nat.reduceEqDiff, reduceCtorEq, decide_true, decide_false, Bool.not_true, Bool.not_false, Option.isNone_some, Option.isNone_none, List.drop_zero, List.drop_succ_cons, List.getElem?_cons_zero, List.getElem?_cons_succ, List.length_cons, List.length_nil, List.take_succ_cons, List.take_zero, Nat.mul_one, Nat.zero_add, Nat.add_zero, Nat.one_mul, Nat.zero_mul, List.getElem?_map, List.getElem?_drop, List.getElem?_take, List.length_map, Option.map_some, List.set_cons_zero, List.set_cons_succ, and_true, true_and, List.flatMap_cons, List.flatMap_nil, Bool.not_not, aInts, aSl]
  refine wpa_bl (α := Nat) (I := fun k ε _ => (ε 5 = aInt (wchk xss l) ∧ ε 14 = .sl ws.length (ws.map aInt) .none ∧ ε 15 = .v (.int .i64 ws.length) ∧ ε 16 = .v (.int .i64 k) ∧ ε 6 = .v (.int .i64 (ws.take k).sum)) ∧ k ≤ ws.length)
    (μ := fun k => ws.length - k) (Q := fun ε _ => ε 5 = aInt (wchk xss l) ∧ ε 6 = .v (.int .i64 ws.sum)) (x := 0) ?_ ?_ ?_
  · simp (maxSteps := 1000000) (implicitDefEqProofs := false) (disch := omega) only [push_cast, ↓reduceIte, Nat.reduceEqDiff, reduceCtorEq, decide_true, decide_false, Bool.not_true, Bool.not_false, Option.isNone_some, Option.isNone_none, List.drop_zero, List.drop_succ_cons, List.getElem?_cons_zero, List.getElem?_cons_succ, List.length_cons, List.length_nil, List.take_succ_cons, List.take_zero, Nat.mul_one, Nat.zero_add, Nat.add_zero, Nat.one_mul, Nat.zero_mul, List.getElem?_map, List.getElem?_drop, List.getElem?_take, List.length_map, Option.map_some, List.set_cons_zero, List.set_cons_succ, and_true, true_and, List.flatMap_cons, List.flatMap_nil, Bool.not_not]
    exact ⟨rfl, by omega⟩
  · rintro k ε σ N E ⟨hρ, hk⟩ hN hE
    simp only [S_span_Work_L1]
    by_cases hlt : k < ws.length
    · obtain ⟨x, hx⟩ := at_lt hlt
      have h1 := hb x (List.mem_of_getElem? hx)
      have h2 := sum_bd 1000001 (l := ws.take k) fun y hy => hb y (List.mem_of_mem_take hy)
      rw [List.length_take, Nat.min_eq_left hk] at h2
      simp (maxSteps := 1000000) (implicitDefEqProofs := false) (disch := omega) only [push_cast, ↓reduceIte, Nat.reduceEqDiff, reduceCtorEq, decide_true, decide_false, Bool.not_true, Bool.not_false, Option.isNone_some, Option.isNone_none, List.drop_zero, List.drop_succ_cons, List.getElem?_cons_zero, List.getElem?_cons_succ, List.length_cons, List.length_nil, List.take_succ_cons, List.take_zero, Nat.mul_one, Nat.zero_add, Nat.add_zero, Nat.one_mul, Nat.zero_mul, List.getElem?_map, List.getElem?_drop, List.getElem?_take, List.length_map, Option.map_some, List.set_cons_zero, List.set_cons_succ, and_true, true_and, List.flatMap_cons, List.flatMap_nil, Bool.not_not, hρ, hx, aInt]
      refine hN (k + 1) _ _ ?_ (by omega)
      simp (maxSteps := 1000000) (implicitDefEqProofs := false) (disch := omega) only [push_cast, ↓reduceIte, Nat.reduceEqDiff, reduceCtorEq, decide_true, decide_false, Bool.not_true, Bool.not_false, Option.isNone_some, Option.isNone_none, List.drop_zero, List.drop_succ_cons, List.getElem?_cons_zero, List.getElem?_cons_succ, List.length_cons, List.length_nil, List.take_succ_cons, List.take_zero, Nat.mul_one, Nat.zero_add, Nat.add_zero, Nat.one_mul, Nat.zero_mul, List.getElem?_map, List.getElem?_drop, List.getElem?_take, List.length_map, Option.map_some, List.set_cons_zero, List.set_cons_succ, and_true, true_and, List.flatMap_cons, List.flatMap_nil, Bool.not_not, hρ]
      exact ⟨by rw [take_succ_at hx, sum_snoc], by omega⟩
    · simp (maxSteps := 1000000) (implicitDefEqProofs := false) (disch := omega) only [push_cast, ↓reduceIte, Nat.reduceEqDiff, reduceCtorEq, decide_true, decide_false, Bool.not_true, Bool.not_false, Option.isNone_some, Option.isNone_none, List.drop_zero, List.drop_succ_cons, List.getElem?_cons_zero, List.getElem?_cons_succ, List.length_cons, List.length_nil, List.take_succ_cons, List.take_zero, Nat.mul_one, Nat.zero_add, Nat.add_zero, Nat.one_mul, Nat.zero_mul, List.getElem?_map, List.getElem?_drop, List.getElem?_take, List.length_map, Option.map_some, List.set_cons_zero, List.set_cons_succ, and_true, true_and, List.flatMap_cons, List.flatMap_nil, Bool.not_not, hρ]
      refine hE _ _ ?_
      simp (maxSteps := 1000000) (implicitDefEqProofs := false) (disch := omega) only [push_cast, ↓reduceIte, Nat.reduceEqDiff, reduceCtorEq, decide_true, decide_false, Bool.not_true, Bool.not_false, Option.isNone_some, Option.isNone_none, List.drop_zero, List.drop_succ_cons, List.getElem?_cons_zero, List.getElem?_cons_succ, List.length_cons, List.length_nil, List.take_succ_cons, List.take_zero, Nat.mul_one, Nat.zero_add, Nat.add_zero, Nat.one_mul, Nat.zero_mul, List.getElem?_map, List.getElem?_drop, List.getElem?_take, List.length_map, Option.map_some, List.set_cons_zero, List.set_cons_succ, and_true, true_and, List.flatMap_cons, List.flatMap_nil, Bool.not_not, hρ]
      rw [List.take_of_length_le (by omega)]
  · intro ε σ hρ
    simp (maxSteps := 1000000) (implicitDefEqProofs := false) (disch := omega) only [push_cast, ↓reduceIte, Nat.reduceEqDiff, reduceCtorEq, decide_true, decide_false, Bool.not_true, Bool.not_false, Option.isNone_some, Option.isNone_none, List.drop_zero, List.drop_succ_cons, List.getElem?_cons_zero, List.getElem?_cons_succ, List.length_cons, List.length_nil, List.take_succ_cons, List.take_zero, Nat.mul_one, Nat.zero_add, Nat.add_zero, Nat.one_mul, Nat.zero_mul, List.getElem?_map, List.getElem?_drop, List.getElem?_take, List.length_map, Option.map_some, List.set_cons_zero, List.set_cons_succ, and_true, true_and, List.flatMap_cons, List.flatMap_nil, Bool.not_not, hρ]
    exact fin_vv rfl

/-! ### Span -/
def wF (xss : List (List Int)) (l : List Acc) (k : Nat) : Int := (wtL xss.length l).getD k 0
def spanE (xss : List (List Int)) (l : List Acc) : Int := if wchk xss l = 0 then maxL (rkF (wF xss l) xss) else 0
theorem rkF_bd {w : Nat → Int} {B : Int} (hB : 0 ≤ B) (hw : ∀ k, 0 ≤ w k ∧ w k ≤ B) (xss : List (List Int)) : ∀ r ∈ rkF w xss, 0 ≤ r ∧ r ≤ xss.length * B := by
  induction xss using snoc_ind with
  | h0 => intro r hr; simp [rkF] at hr
  | hs xs l ih =>
    intro r hr
    rw [rkF_snoc, List.mem_append] at hr
    have e : ((xs ++ [l]).length : Int) * B = xs.length * B + B := by rw [List.length_append, List.length_singleton, Int.natCast_add, Int.add_mul]; simp
    rw [e]
    rcases hr with hr | hr
    · have := ih r hr; omega
    · simp only [List.mem_singleton] at hr
      have := rankP_bd (rkF w xs) (xs.length * B) (Int.mul_nonneg (by omega) hB) (fun r hr => (ih r hr).2) l
      have := hw (rkF w xs).length
      omega
theorem wF_bd {xss : List (List Int)} {l : List Acc} (hl : l.length ≤ 1000000) : ∀ k, 0 ≤ wF xss l k ∧ wF xss l k ≤ 1000001 := by
  intro k
  unfold wF
  rw [List.getD_eq_getElem?_getD]
  cases hx : (wtL xss.length l)[k]? with
  | none => simp
  | some x => have := wtL_bd hx; simp; omega
theorem shiftI (k : Nat) (l : List Int) : AV.shiftL k (l.map aInt) = l.map aInt := by
  rw [shiftL_map, List.map_map]; rfl

set_option maxHeartbeats 2000000 in
theorem span_Span_a (xss : List (List Int)) (l : List Acc) (hs : xss.length ≤ 1000000) (hs2 : ∀ l ∈ xss, l.length ≤ 1000000) (hl : l.length ≤ 1000000) : FnP Try.prog 67 [aDag xss l] fun a => a = .tup [aInt (spanE xss l), aInt (wchk xss l)] := by
  refine fnP_in K_span_Span mixed rfl (by simp [AV.pureL, aDag_pure]) ?_
  simp only [S_span_Span, aDag]
  simp (maxSteps := 1000000) (implicitDefEqProofs := false) (disch := omega) only [push_cast, ↓reduceIte, Nat.reduceEqDiff, reduceCtorEq, decide_true, decide_false, Bool.not_true, Bool.not_false, Option.isNone_some, Option.isNone_none, List.drop_zero, List.drop_succ_cons, List.getElem?_cons_zero, List.getElem?_cons_succ, List.length_cons, List.length_nil, List.take_succ_cons, List.take_zero, Nat.mul_one, Nat.zero_add, Nat.add_zero, Nat.one_mul, Nat.zero_mul, List.getElem?_map, List.getElem?_drop, List.getElem?_take, List.length_map, Option.map_some, List.set_cons_zero, List.set_cons_succ, and_true, true_and, List.flatMap_cons, List.flatMap_nil, Bool.not_not]
  refine wpa_box ?_
  simp (maxSteps := 1000000) (implicitDefEqProofs := false) (disch := omega) only [push_cast, ↓reduceIte, Nat.reduceEqDiff, reduceCtorEq, decide_true, decide_false, Bool.not_true, Bool.not_false, Option.isNone_some, Option.isNone_none, List.drop_zero, List.drop_succ_cons, List.getElem?_cons_zero, List.getElem?_cons_succ, List.length_cons, List.length_nil, List.take_succ_cons, List.take_zero, Nat.mul_one, Nat.zero_add, Nat.add_zero, Nat.one_mul, Nat.zero_mul, List.getElem?_map, List.getElem?_drop, List.getElem?_take, List.length_map, Option.map_some, List.set_cons_zero, List.set_cons_succ, and_true, true_and, List.flatMap_cons, List.flatMap_nil, Bool.not_not]
  refine wpa_callF (span_Weights_g xss l hs hs2 hl) (by simp [AV.pureL, AV.pure, aInts2_pure, aAccs_pure]) ?_
  rintro a τ (⟨hw, rfl, o, τ, rfl⟩ | ⟨hw, rfl⟩)
  · obtain ⟨hc, hacc⟩ := wchk_zero hw
    obtain ⟨hn, hok⟩ := chk_zero hc
    have hwb := @wF_bd xss l hl
    generalize hW : wF xss l = w at hwb
    have hwl := wtL_len xss.length l
    have hwg : ∀ k, k < xss.length → (wtL xss.length l)[k]? = some (w k) := by
      intro k hk
      obtain ⟨x, hx⟩ := at_lt (l := wtL xss.length l) (k := k) (by omega)
      rw [hx, ← hW, wF, List.getD_eq_getElem?_getD, hx]; rfl
    have hsp : spanE xss l = maxL (rkF w xss) := by unfold spanE; rw [if_pos hw, hW]
    rw [hsp, hw]
    generalize wtL xss.length l = ws at hwl hwg ⊢
    simp (maxSteps := 1000000) (implicitDefEqProofs := false) (disch := omega) only [push_cast, ↓reduceIte, Nat.reduceEqDiff, reduceCtorEq, decide_true, decide_false, Bool.not_true, Bool.not_false, Option.isNone_some, Option.isNone_none, List.drop_zero, List.drop_succ_cons, List.getElem?_cons_zero, List.getElem?_cons_succ, List.length_cons, List.length_nil, List.take_succ_cons, List.take_zero, Nat.mul_one, Nat.zero_add, Nat.add_zero, Nat.one_mul, Nat.zero_mul, List.getElem?_map, List.getElem?_drop, List.getElem?_take, List.length_map, Option.map_some, List.set_cons_zero, List.set_cons_succ, and_true, true_and, List.flatMap_cons, List.flatMap_nil, Bool.not_not, AV.shift, AV.shiftL, Res.shift, shiftI, List.map_cons, aInt, aInts2, aSl]
    refine wpa_bl (α := Nat) (I := fun k ε σ => (ε 4 = .ms 2 0 0 xss.length 1 ∧ ε 21 = .sl xss.length (xss.map aInts) .none ∧ ε 22 = .v (.int .i64 xss.length) ∧ ε 23 = .v (.int .i64 k) ∧ ε 6 = .v (.int .i64 (maxL (rkF w (xss.take k))))) ∧ k ≤ xss.length ∧
        ∃ o1 o2 τ, σ = o1 :: o2 :: .obj 0 ((rkF w (xss.take k) ++ ws.drop k).map aInt) :: τ)
      (μ := fun k => xss.length - k) (Q := fun ε _ => ε 6 = .v (.int .i64 (maxL (rkF w xss)))) (x := 0) ?_ ?_ ?_
    · simp (maxSteps := 1000000) (implicitDefEqProofs := false) (disch := omega) only [push_cast, ↓reduceIte, Nat.reduceEqDiff, reduceCtorEq, decide_true, decide_false, Bool.not_true, Bool.not_false, Option.isNone_some, Option.isNone_none, List.drop_zero, List.drop_succ_cons, List.getElem?_cons_zero, List.getElem?_cons_succ, List.length_cons, List.length_nil, List.take_succ_cons, List.take_zero, Nat.mul_one, Nat.zero_add, Nat.add_zero, Nat.one_mul, Nat.zero_mul, List.getElem?_map, List.getElem?_drop, List.getElem?_take, List.length_map, Option.map_some, List.set_cons_zero, List.set_cons_succ, and_true, true_and, List.flatMap_cons, List.flatMap_nil, Bool.not_not]
      exact ⟨rfl, by omega, _, _, _, by simp [rkF]; exact ⟨rfl, rfl, rfl⟩⟩
    · rintro k ε σ N E ⟨hρ, hk, o1, o2, τ, rfl⟩ hN hE
      simp only [S_span_Span_L1]
      by_cases hlt : k < xss.length
      · obtain ⟨m, hm⟩ := at_lt hlt
        have hml := hs2 m (List.mem_of_getElem? hm)
        have hrl : (rkF w (xss.take k)).length = k := by rw [rkF_len]; simp; omega
        have hwk := hwb k
        have hrb := rkF_bd (by omega) hwb (xss.take k)
        rw [List.length_take, Nat.min_eq_left hk] at hrb
        have hpb := fun l' => rankP_bd (rkF w (xss.take k)) (k * 1000001) (by omega) (fun r hr => (hrb r hr).2) l'
        have hd := drop_at (hwg k hlt)
        simp (maxSteps := 1000000) (implicitDefEqProofs := false) (disch := omega) only [push_cast, ↓reduceIte, Nat.reduceEqDiff, reduceCtorEq, decide_true, decide_false, Bool.not_true, Bool.not_false, Option.isNone_some, Option.isNone_none, List.drop_zero, List.drop_succ_cons, List.getElem?_cons_zero, List.getElem?_cons_succ, List.length_cons, List.length_nil, List.take_succ_cons, List.take_zero, Nat.mul_one, Nat.zero_add, Nat.add_zero, Nat.one_mul, Nat.zero_mul, List.getElem?_map, List.getElem?_drop, List.getElem?_take, List.length_map, Option.map_some, List.set_cons_zero, List.set_cons_succ, and_true, true_and, List.flatMap_cons, List.flatMap_nil, Bool.not_not, hρ, hm, aInts, aSl]
        refine wpa_bl (α := Nat) (I := fun j ε σ => (ε 4 = .ms 2 0 0 xss.length 1 ∧ ε 21 = .sl xss.length (xss.map aInts) .none ∧ ε 22 = .v (.int .i64 xss.length) ∧ ε 23 = .v (.int .i64 k) ∧ ε 6 = .v (.int .i64 (maxL (rkF w (xss.take k)))) ∧
            ε 7 = .v (.int .i64 k) ∧ ε 28 = .sl m.length (m.map aInt) .none ∧ ε 29 = .v (.int .i64 m.length) ∧ ε 30 = .v (.int .i64 j) ∧ ε 9 = .v (.int .i64 (rankP (rkF w (xss.take k)) (m.take j)))) ∧ j ≤ m.length ∧
            σ = o1 :: o2 :: .obj 0 ((rkF w (xss.take k) ++ ws.drop k).map aInt) :: τ)
          (μ := fun j => m.length - j) (Q := fun ε σ => (ε 4 = .ms 2 0 0 xss.length 1 ∧ ε 21 = .sl xss.length (xss.map aInts) .none ∧ ε 22 = .v (.int .i64 xss.length) ∧ ε 23 = .v (.int .i64 k) ∧ ε 6 = .v (.int .i64 (maxL (rkF w (xss.take k)))) ∧
            ε 7 = .v (.int .i64 k) ∧ ε 9 = .v (.int .i64 (rankP (rkF w (xss.take k)) m))) ∧ σ = o1 :: o2 :: .obj 0 ((rkF w (xss.take k) ++ ws.drop k).map aInt) :: τ) (x := 0) ?_ ?_ ?_
        · simp (maxSteps := 1000000) (implicitDefEqProofs := false) (disch := omega) only [push_cast, ↓reduceIte, Nat.reduceEqDiff, reduceCtorEq, decide_true, decide_false, Bool.not_true, Bool.not_false, Option.isNone_some, Option.isNone_none, List.drop_zero, List.drop_succ_cons, List.getElem?_cons_zero, List.getElem?_cons_succ, List.length_cons, List.length_nil, List.take_succ_cons, List.take_zero, Nat.mul_one, Nat.zero_add, Nat.add_zero, Nat.one_mul, Nat.zero_mul, List.getElem?_map, List.getElem?_drop, List.getElem?_take, List.length_map, Option.map_some, List.set_cons_zero, List.set_cons_succ, and_true, true_and, List.flatMap_cons, List.flatMap_nil, Bool.not_not, hρ]
          exact ⟨by simp [rankP], by omega⟩
        · rintro j ε σ N' E' ⟨hρ, hj, rfl⟩ hN' hE'
          simp only [S_span_Span_L2]
          by_cases hjl : j < m.length
          · obtain ⟨p, hp⟩ := at_lt hjl
            have hpk := okB_at hok hm p (List.mem_of_getElem? hp)
            obtain ⟨q, rfl⟩ : ∃ q : Nat, p = q := ⟨p.toNat, by omega⟩
            have hqk : q < k := by omega
            obtain ⟨r, hr⟩ := at_lt (l := rkF w (xss.take k)) (k := q) (by omega)
            have e2 : (rkF w (xss.take k) ++ ws.drop k)[q]? = some r := by rw [get_left (by omega), hr]
            simp (maxSteps := 1000000) (implicitDefEqProofs := false) (disch := omega) only [push_cast, ↓reduceIte, Nat.reduceEqDiff, reduceCtorEq, decide_true, decide_false, Bool.not_true, Bool.not_false, Option.isNone_some, Option.isNone_none, List.drop_zero, List.drop_succ_cons, List.getElem?_cons_zero, List.getElem?_cons_succ, List.length_cons, List.length_nil, List.take_succ_cons, List.take_zero, Nat.mul_one, Nat.zero_add, Nat.add_zero, Nat.one_mul, Nat.zero_mul, List.getElem?_map, List.getElem?_drop, List.getElem?_take, List.length_map, Option.map_some, List.set_cons_zero, List.set_cons_succ, and_true, true_and, List.flatMap_cons, List.flatMap_nil, Bool.not_not, hρ, hp, aInt, e2]
            refine hN' (j + 1) _ _ ?_ (by omega)
            simp (maxSteps := 1000000) (implicitDefEqProofs := false) (disch := omega) only [push_cast, ↓reduceIte, Nat.reduceEqDiff, reduceCtorEq, decide_true, decide_false, Bool.not_true, Bool.not_false, Option.isNone_some, Option.isNone_none, List.drop_zero, List.drop_succ_cons, List.getElem?_cons_zero, List.getElem?_cons_succ, List.length_cons, List.length_nil, List.take_succ_cons, List.take_zero, Nat.mul_one, Nat.zero_add, Nat.add_zero, Nat.one_mul, Nat.zero_mul, List.getElem?_map, List.getElem?_drop, List.getElem?_take, List.length_map, Option.map_some, List.set_cons_zero, List.set_cons_succ, and_true, true_and, List.flatMap_cons, List.flatMap_nil, Bool.not_not, hρ]
            have e3 : (rkF w (xss.take k)).getD ((q : Int).toNat) 0 = r := by simp [List.getD_eq_getElem?_getD, hr]
            exact ⟨by rw [take_succ_at hp, rankP_snoc, e3], by omega⟩
          · simp (maxSteps := 1000000) (implicitDefEqProofs := false) (disch := omega) only [push_cast, ↓reduceIte, Nat.reduceEqDiff, reduceCtorEq, decide_true, decide_false, Bool.not_true, Bool.not_false, Option.isNone_some, Option.isNone_none, List.drop_zero, List.drop_succ_cons, List.getElem?_cons_zero, List.getElem?_cons_succ, List.length_cons, List.length_nil, List.take_succ_cons, List.take_zero, Nat.mul_one, Nat.zero_add, Nat.add_zero, Nat.one_mul, Nat.zero_mul, List.getElem?_map, List.getElem?_drop, List.getElem?_take, List.length_map, Option.map_some, List.set_cons_zero, List.set_cons_succ, and_true, true_and, List.flatMap_cons, List.flatMap_nil, Bool.not_not, hρ]
            refine hE' _ _ ?_
            simp (maxSteps := 1000000) (implicitDefEqProofs := false) (disch := omega) only [push_cast, ↓reduceIte, Nat.reduceEqDiff, reduceCtorEq, decide_true, decide_false, Bool.not_true, Bool.not_false, Option.isNone_some, Option.isNone_none, List.drop_zero, List.drop_succ_cons, List.getElem?_cons_zero, List.getElem?_cons_succ, List.length_cons, List.length_nil, List.take_succ_cons, List.take_zero, Nat.mul_one, Nat.zero_add, Nat.add_zero, Nat.one_mul, Nat.zero_mul, List.getElem?_map, List.getElem?_drop, List.getElem?_take, List.length_map, Option.map_some, List.set_cons_zero, List.set_cons_succ, and_true, true_and, List.flatMap_cons, List.flatMap_nil, Bool.not_not, hρ]
            rw [List.take_of_length_le (l := m) (by omega)]
        · rintro ε σ ⟨hρ, rfl⟩
          have hb := hpb m
          rw [hd]
          have e1 := get_mid (A := rkF w (xss.take k)) (B := ws.drop (k + 1)) (x := w k) hrl.symm
          simp (maxSteps := 1000000) (implicitDefEqProofs := false) (disch := omega) only [push_cast, ↓reduceIte, Nat.reduceEqDiff, reduceCtorEq, decide_true, decide_false, Bool.not_true, Bool.not_false, Option.isNone_some, Option.isNone_none, List.drop_zero, List.drop_succ_cons, List.getElem?_cons_zero, List.getElem?_cons_succ, List.length_cons, List.length_nil, List.take_succ_cons, List.take_zero, Nat.mul_one, Nat.zero_add, Nat.add_zero, Nat.one_mul, Nat.zero_mul, List.getElem?_map, List.getElem?_drop, List.getElem?_take, List.length_map, Option.map_some, List.set_cons_zero, List.set_cons_succ, and_true, true_and, List.flatMap_cons, List.flatMap_nil, Bool.not_not, hρ, e1, aInt]
          refine wpa_st1 (cs := (rkF w (xss.take k) ++ w k :: ws.drop (k + 1)).map aInt) rfl rfl rfl (by simp; omega) ?_
          have e2 := set_midI (B := ws.drop (k + 1)) (x := w k) (y := w k + rankP (rkF w (xss.take k)) m) hrl.symm
          have e3 := get_mid (A := rkF w (xss.take k)) (B := ws.drop (k + 1)) (x := w k + rankP (rkF w (xss.take k)) m) hrl.symm
          simp (maxSteps := 1000000) (implicitDefEqProofs := false) (disch := omega) only [push_cast, ↓reduceIte, Nat.reduceEqDiff, reduceCtorEq, decide_true, decide_false, Bool.not_true, Bool.not_false, Option.isNone_some, Option.isNone_none, List.drop_zero, List.drop_succ_cons, List.getElem?_cons_zero, List.getElem?_cons_succ, List.length_cons, List.length_nil, List.take_succ_cons, List.take_zero, Nat.mul_one, Nat.zero_add, Nat.add_zero, Nat.one_mul, Nat.zero_mul, List.getElem?_map, List.getElem?_drop, List.getElem?_take, List.length_map, Option.map_some, List.set_cons_zero, List.set_cons_succ, and_true, true_and, List.flatMap_cons, List.flatMap_nil, Bool.not_not, hρ, e2, e3, aInt]
          refine hN (k + 1) _ _ ?_ (by omega)
          simp (maxSteps := 1000000) (implicitDefEqProofs := false) (disch := omega) only [push_cast, ↓reduceIte, Nat.reduceEqDiff, reduceCtorEq, decide_true, decide_false, Bool.not_true, Bool.not_false, Option.isNone_some, Option.isNone_none, List.drop_zero, List.drop_succ_cons, List.getElem?_cons_zero, List.getElem?_cons_succ, List.length_cons, List.length_nil, List.take_succ_cons, List.take_zero, Nat.mul_one, Nat.zero_add, Nat.add_zero, Nat.one_mul, Nat.zero_mul, List.getElem?_map, List.getElem?_drop, List.getElem?_take, List.length_map, Option.map_some, List.set_cons_zero, List.set_cons_succ, and_true, true_and, List.flatMap_cons, List.flatMap_nil, Bool.not_not, hρ]
          have e4 : rkF w (xss.take (k + 1)) = rkF w (xss.take k) ++ [w k + rankP (rkF w (xss.take k)) m] := by rw [take_succ_at hm, rkF_snoc, hrl, Int.add_comm]
          rw [e4, maxL_snoc]
          exact ⟨rfl, by omega, o1, o2, τ, by simp⟩
      · simp (maxSteps := 1000000) (implicitDefEqProofs := false) (disch := omega) only [push_cast, ↓reduceIte, Nat.reduceEqDiff, reduceCtorEq, decide_true, decide_false, Bool.not_true, Bool.not_false, Option.isNone_some, Option.isNone_none, List.drop_zero, List.drop_succ_cons, List.getElem?_cons_zero, List.getElem?_cons_succ, List.length_cons, List.length_nil, List.take_succ_cons, List.take_zero, Nat.mul_one, Nat.zero_add, Nat.add_zero, Nat.one_mul, Nat.zero_mul, List.getElem?_map, List.getElem?_drop, List.getElem?_take, List.length_map, Option.map_some, List.set_cons_zero, List.set_cons_succ, and_true, true_and, List.flatMap_cons, List.flatMap_nil, Bool.not_not, hρ]
        refine hE _ _ ?_
        simp (maxSteps := 1000000) (implicitDefEqProofs := false) (disch := omega) only [push_cast, ↓reduceIte, Nat.reduceEqDiff, reduceCtorEq, decide_true, decide_false, Bool.not_true, Bool.not_false, Option.isNone_some, Option.isNone_none, List.drop_zero, List.drop_succ_cons, List.getElem?_cons_zero, List.getElem?_cons_succ, List.length_cons, List.length_nil, List.take_succ_cons, List.take_zero, Nat.mul_one, Nat.zero_add, Nat.add_zero, Nat.one_mul, Nat.zero_mul, List.getElem?_map, List.getElem?_drop, List.getElem?_take, List.length_map, Option.map_some, List.set_cons_zero, List.set_cons_succ, and_true, true_and, List.flatMap_cons, List.flatMap_nil, Bool.not_not, hρ]
        rw [List.take_of_length_le (by omega)]
    · intro ε σ hρ
      simp (maxSteps := 1000000) (implicitDefEqProofs := false) (disch := omega) only [push_cast, ↓reduceIte, Nat.reduceEqDiff, reduceCtorEq, decide_true, decide_false, Bool.not_true, Bool.not_false, Option.isNone_some, Option.isNone_none, List.drop_zero, List.drop_succ_cons, List.getElem?_cons_zero, List.getElem?_cons_succ, List.length_cons, List.length_nil, List.take_succ_cons, List.take_zero, Nat.mul_one, Nat.zero_add, Nat.add_zero, Nat.one_mul, Nat.zero_mul, List.getElem?_map, List.getElem?_drop, List.getElem?_take, List.length_map, Option.map_some, List.set_cons_zero, List.set_cons_succ, and_true, true_and, List.flatMap_cons, List.flatMap_nil, Bool.not_not, hρ, aInt]
      exact fin_vv rfl
  · simp (maxSteps := 1000000) (implicitDefEqProofs := false) (disch := omega) only [push_cast, ↓reduceIte, Nat.reduceEqDiff, reduceCtorEq, decide_true, decide_false, Bool.not_true, Bool.not_false, Option.isNone_some, Option.isNone_none, List.drop_zero, List.drop_succ_cons, List.getElem?_cons_zero, List.getElem?_cons_succ, List.length_cons, List.length_nil, List.take_succ_cons, List.take_zero, Nat.mul_one, Nat.zero_add, Nat.add_zero, Nat.one_mul, Nat.zero_mul, List.getElem?_map, List.getElem?_drop, List.getElem?_take, List.length_map, Option.map_some, List.set_cons_zero, List.set_cons_succ, and_true, true_and, List.flatMap_cons, List.flatMap_nil, Bool.not_not, AV.shift, AV.shiftL, aInt]
    have : spanE xss l = 0 := by unfold spanE; rw [if_neg hw]
    rw [this]
    exact fin_vv rfl
end Go.Proofs.Ytilofhocodbknaa
