/- Contracts on annotated values: compare.Add. -/
import Derived.Test.YtilofhocodbknaaCpb
namespace Go.Proofs.Ytilofhocodbknaa
set_option linter.unusedVariables false
set_option linter.unusedSimpArgs false
open Go Go.Kx Go.Proofs

def addR (s : List RR) (r : RR) : List RR := if s.any (fun x => alikeB x r) then s else s ++ [r]
def seenF (l : List RR) : List RR := l.foldl addR []
theorem seenF_snoc (l : List RR) (r : RR) : seenF (l ++ [r]) = addR (seenF l) r := by simp [seenF]
def cSt (l : List RR) (k : Int) : Nat := l.countP fun r => decide (r.st = k)
theorem cSt_snoc (l : List RR) (r : RR) (k : Int) : cSt (l ++ [r]) k = cSt l k + (if r.st = k then 1 else 0) := by
  unfold cSt
  rw [List.countP_append]
  by_cases h : r.st = k <;> simp [h]
theorem cSt_le (l : List RR) (k : Int) : cSt l k ≤ l.length := List.countP_le_length
theorem seenF_mem {l : List RR} : ∀ x ∈ seenF l, x ∈ l := by
  induction l using snoc_ind with
  | h0 => intro x hx; cases hx
  | hs l r ih =>
    intro x hx
    rw [seenF_snoc, addR] at hx
    split at hx
    · exact List.mem_append.2 (.inl (ih x hx))
    · rcases List.mem_append.1 hx with h | h
      · exact List.mem_append.2 (.inl (ih x h))
      · exact List.mem_append.2 (.inr h)
theorem seenF_len (l : List RR) : (seenF l).length ≤ l.length := by
  induction l using snoc_ind with
  | h0 => simp [seenF]
  | hs l r ih =>
    rw [seenF_snoc, addR, List.length_append]
    split
    · omega
    · rw [List.length_append]; simp; omega
/-- How many results are what. -/
def sumA (n : Int) (l : List RR) (d : Int) : List AV := [.v (.int .i64 n), .v (.int .i64 (cSt l 1)), .v (.int .i64 (cSt l 4)), .v (.int .i64 (cSt l 5)), .v (.int .i64 (cSt l 6)), .v (.int .i64 d)]
def z11 : List AV := [.v (.int .i64 0), .v (.int .i64 0), .sl 0 [] .nil, .sl 0 [] .nil, .v (.int .i64 0), .v (.int .i64 0), .v (.int .i64 0), .v (.int .i64 0), .v (.int .i64 0), .v (.int .i64 0), .v (.int .i64 0)]

theorem set_selfC {α : Type} {l : List α} {i : Nat} {a : α} (h : l[i]? = some a) : l.set i a = l := by
  obtain ⟨_, he⟩ := List.getElem?_eq_some_iff.1 h
  rw [← he]; simp
theorem aRR_one (r : RR) : (aRR r).all AV.one = true := rfl
theorem wkC (S : St) (i : Nat) (r : RR) (seen : List RR) (t : Tok) (f : Fn) (hS : S[i]? = some (.obj 0 (aRR r))) : weak (Go.Kx.freeze [i] S) [true, true] [.sl seen.length (seen.flatMap aRR) t, .fn f 0 [.ref i 0 0]] = [aRRs seen, .fn f 0 [.ep (aRR r)]] := by
  rw [freeze_one hS (aRR_res _ r)]
  have hi : i < S.length := (List.getElem?_eq_some_iff.1 hS).1
  simp only [weak, if_true]
  rw [aRRs_res]
  have : (S.set i (.frz 0 (aRR r)))[i]? = some (.frz 0 (aRR r)) := by rw [List.getElem?_set, if_pos rfl, if_pos hi]
  simp only [AV.res, AV.resL, this, if_true, List.drop_zero]

set_option maxHeartbeats 4000000 in
theorem compare_Add_a (l : List RR) (hl : ∀ x ∈ l, okR x) (hn : l.length ≤ 1000000) : FnP Try.prog 26 [aRRs l] fun a => a = .agg (sumA l.length l (seenF l).length) := by
  refine fnP_in K_compare_Add mixed rfl (by simp [AV.pureL, aRRs_pure]) ?_
  simp only [S_compare_Add]
  simp (maxSteps := 1000000) (implicitDefEqProofs := false) (disch := omega) only [push_cast, ↓reduceIte, Nat.reduceEqDiff, reduceCtorEq, decide_true, decide_false, Bool.not_true, Bool.not_false, Option.isNone_some, Option.isNone_none, List.drop_zero, List.drop_succ_cons, List.getElem?_cons_zero, List.getElem?_cons_succ, List.length_cons, List.length_nil, List.take_succ_cons, List.take_zero, Nat.mul_one, Nat.zero_add, Nat.add_zero, Nat.one_mul, Nat.zero_mul, List.getElem?_map, List.getElem?_drop, List.getElem?_take, List.length_map, Option.map_some, List.set_cons_zero, List.set_cons_succ, and_true, true_and, List.flatMap_cons, List.flatMap_nil, Bool.not_not]
  refine wpa_new ?_
  have hf : fillA [AV.v (.int .i64 0), AV.v (.int .i64 0), AV.v (.int .i64 0), AV.v (.int .i64 0), AV.v (.int .i64 0), AV.v (.int .i64 0)] [(0, 1)] [AV.v (.int .i64 l.length)] = some [AV.v (.int .i64 l.length), AV.v (.int .i64 0), AV.v (.int .i64 0), AV.v (.int .i64 0), AV.v (.int .i64 0), AV.v (.int .i64 0)] := by simp [fillA, AV.cells, Value.cells, setAtA]
  simp (maxSteps := 1000000) (implicitDefEqProofs := false) (disch := omega) only [push_cast, ↓reduceIte, Nat.reduceEqDiff, reduceCtorEq, decide_true, decide_false, Bool.not_true, Bool.not_false, Option.isNone_some, Option.isNone_none, List.drop_zero, List.drop_succ_cons, List.getElem?_cons_zero, List.getElem?_cons_succ, List.length_cons, List.length_nil, List.take_succ_cons, List.take_zero, Nat.mul_one, Nat.zero_add, Nat.add_zero, Nat.one_mul, Nat.zero_mul, List.getElem?_map, List.getElem?_drop, List.getElem?_take, List.length_map, Option.map_some, List.set_cons_zero, List.set_cons_succ, and_true, true_and, List.flatMap_cons, List.flatMap_nil, Bool.not_not, aRRs, aSlN, hf]
  refine wpa_new ?_
  simp (maxSteps := 1000000) (implicitDefEqProofs := false) (disch := omega) only [push_cast, ↓reduceIte, Nat.reduceEqDiff, reduceCtorEq, decide_true, decide_false, Bool.not_true, Bool.not_false, Option.isNone_some, Option.isNone_none, List.drop_zero, List.drop_succ_cons, List.getElem?_cons_zero, List.getElem?_cons_succ, List.length_cons, List.length_nil, List.take_succ_cons, List.take_zero, Nat.mul_one, Nat.zero_add, Nat.add_zero, Nat.one_mul, Nat.zero_mul, List.getElem?_map, List.getElem?_drop, List.getElem?_take, List.length_map, Option.map_some, List.set_cons_zero, List.set_cons_succ, and_true, true_and, List.flatMap_cons, List.flatMap_nil, Bool.not_not]
  refine wpa_stn rfl rfl rfl (by simp) ?_
  simp (maxSteps := 1000000) (implicitDefEqProofs := false) (disch := omega) only [push_cast, ↓reduceIte, Nat.reduceEqDiff, reduceCtorEq, decide_true, decide_false, Bool.not_true, Bool.not_false, Option.isNone_some, Option.isNone_none, List.drop_zero, List.drop_succ_cons, List.getElem?_cons_zero, List.getElem?_cons_succ, List.length_cons, List.length_nil, List.take_succ_cons, List.take_zero, Nat.mul_one, Nat.zero_add, Nat.add_zero, Nat.one_mul, Nat.zero_mul, List.getElem?_map, List.getElem?_drop, List.getElem?_take, List.length_map, Option.map_some, List.set_cons_zero, List.set_cons_succ, and_true, true_and, List.flatMap_cons, List.flatMap_nil, Bool.not_not]
  refine wpa_blg (GU.tok 4 11 rfl) (α := Nat) (I := fun k ε σ => (ε 2 = .ref 0 0 0 ∧ ε 3 = .ref 1 0 0 ∧ ε 10 = .sl l.length (l.flatMap aRR) .none ∧ ε 11 = .v (.int .i64 l.length) ∧ ε 12 = .v (.int .i64 k)) ∧ k ≤ l.length ∧
      ∃ w z, ε 4 = .sl (seenF (l.take k)).length ((seenF (l.take k)).flatMap aRR) (.id 2 w 11) ∧ σ[0]? = some (.obj 0 z) ∧ z.length = 6 ∧ σ[1]? = some (.obj 0 (sumA l.length (l.take k) 0)) ∧ σ[2]? = some (.tail w))
    (μ := fun k => l.length - k) (Q := fun ε σ => (ε 2 = .ref 0 0 0 ∧ ε 3 = .ref 1 0 0) ∧ ∃ w z, ε 4 = .sl (seenF l).length ((seenF l).flatMap aRR) (.id 2 w 11) ∧ σ[0]? = some (.obj 0 z) ∧ z.length = 6 ∧ σ[1]? = some (.obj 0 (sumA l.length l 0))) (x := 0) ?_ ?_ ?_
  · simp (maxSteps := 1000000) (implicitDefEqProofs := false) (disch := omega) only [push_cast, ↓reduceIte, Nat.reduceEqDiff, reduceCtorEq, decide_true, decide_false, Bool.not_true, Bool.not_false, Option.isNone_some, Option.isNone_none, List.drop_zero, List.drop_succ_cons, List.getElem?_cons_zero, List.getElem?_cons_succ, List.length_cons, List.length_nil, List.take_succ_cons, List.take_zero, Nat.mul_one, Nat.zero_add, Nat.add_zero, Nat.one_mul, Nat.zero_mul, List.getElem?_map, List.getElem?_drop, List.getElem?_take, List.length_map, Option.map_some, List.set_cons_zero, List.set_cons_succ, and_true, true_and, List.flatMap_cons, List.flatMap_nil, Bool.not_not]
    exact ⟨by omega, 0, _, rfl, rfl, rfl, rfl, rfl⟩
  · rintro k ε σ N E ⟨hρ, hk, w, z, h4, hz, hzl, hs, ht⟩ hN hE
    simp only [S_compare_Add_L1]
    by_cases hlt : k < l.length
    · obtain ⟨r, hr⟩ := at_lt hlt
      have hd := flat_drop aRR_len hr
      have hcl : ∀ m : List AV, cellsA (some 11) (aRR r ++ m) = some (.agg (aRR r)) := fun m => by rw [cellsA_n _ _ (by simp [aRR_len])]; rfl
      simp (maxSteps := 1000000) (implicitDefEqProofs := false) (disch := omega) only [push_cast, ↓reduceIte, Nat.reduceEqDiff, reduceCtorEq, decide_true, decide_false, Bool.not_true, Bool.not_false, Option.isNone_some, Option.isNone_none, List.drop_zero, List.drop_succ_cons, List.getElem?_cons_zero, List.getElem?_cons_succ, List.length_cons, List.length_nil, List.take_succ_cons, List.take_zero, Nat.mul_one, Nat.zero_add, Nat.add_zero, Nat.one_mul, Nat.zero_mul, List.getElem?_map, List.getElem?_drop, List.getElem?_take, List.length_map, Option.map_some, List.set_cons_zero, List.set_cons_succ, and_true, true_and, List.flatMap_cons, List.flatMap_nil, Bool.not_not, hρ, hd, hcl]
      refine wpa_new ?_
      simp (maxSteps := 1000000) (implicitDefEqProofs := false) (disch := omega) only [push_cast, ↓reduceIte, Nat.reduceEqDiff, reduceCtorEq, decide_true, decide_false, Bool.not_true, Bool.not_false, Option.isNone_some, Option.isNone_none, List.drop_zero, List.drop_succ_cons, List.getElem?_cons_zero, List.getElem?_cons_succ, List.length_cons, List.length_nil, List.take_succ_cons, List.take_zero, Nat.mul_one, Nat.zero_add, Nat.add_zero, Nat.one_mul, Nat.zero_mul, List.getElem?_map, List.getElem?_drop, List.getElem?_take, List.length_map, Option.map_some, List.set_cons_zero, List.set_cons_succ, and_true, true_and, List.flatMap_cons, List.flatMap_nil, Bool.not_not]
      refine wpa_stn (aRR_len r) (by rfl) (at_snoc _ _) (by simp) ?_
      have hset : setAtA [AV.v (.int .i64 0), AV.v (.int .i64 0), AV.sl 0 [] Tok.nil, AV.sl 0 [] Tok.nil, AV.v (.int .i64 0), AV.v (.int .i64 0), AV.v (.int .i64 0), AV.v (.int .i64 0), AV.v (.int .i64 0), AV.v (.int .i64 0), AV.v (.int .i64 0)] 0 (aRR r) = aRR r := rfl
      have h0 : (aRR r)[0]? = some (.v (.int .i64 r.st)) := rfl
      have hl2 : 2 < σ.length := (List.getElem?_eq_some_iff.1 ht).1
      have hs1 : ∀ o, (σ ++ [Res.obj 0 o])[1]? = some (.obj 0 (sumA l.length (l.take k) 0)) := fun o => by rw [List.getElem?_append_left (by omega)]; exact hs
      have b1 := cSt_le (l.take k) 1
      have b4 := cSt_le (l.take k) 4
      have b5 := cSt_le (l.take k) 5
      have b6 := cSt_le (l.take k) 6
      rw [List.length_take] at b1 b4 b5 b6
      have hrk := hl r (List.mem_of_getElem? hr)
      have hsk : ∀ x ∈ seenF (l.take k), okR x := fun x hx => hl x (List.mem_of_mem_take (seenF_mem x hx))
      have hsl := seenF_len (l.take k)
      rw [List.length_take] at hsl
      have hsn : (seenF (l.take k)).length ≤ 1000000 := by omega
      --ARMS
      by_cases q1 : r.st = 1
      · simp (maxSteps := 1000000) (implicitDefEqProofs := false) (disch := omega) only [push_cast, ↓reduceIte, Nat.reduceEqDiff, reduceCtorEq, decide_true, decide_false, Bool.not_true, Bool.not_false, Option.isNone_some, Option.isNone_none, List.drop_zero, List.drop_succ_cons, List.getElem?_cons_zero, List.getElem?_cons_succ, List.length_cons, List.length_nil, List.take_succ_cons, List.take_zero, Nat.mul_one, Nat.zero_add, Nat.add_zero, Nat.one_mul, Nat.zero_mul, List.getElem?_map, List.getElem?_drop, List.getElem?_take, List.length_map, Option.map_some, List.set_cons_zero, List.set_cons_succ, and_true, true_and, List.flatMap_cons, List.flatMap_nil, Bool.not_not, hset, h0, hρ, hs1, q1, sumA]
        refine wpa_st1 (cs := sumA l.length (l.take k) 0) rfl rfl (hs1 _) (by simp [sumA]) ?_
        have hcs : (sumA l.length (l.take k) 0).set 1 (.v (.int .i64 ((cSt (l.take k) 1 : Int) + 1))) = sumA l.length (l.take (k + 1)) 0 := by simp [sumA, take_succ_at hr, cSt_snoc, q1]
        rw [hcs]
        have f0 : ((σ ++ [Res.obj 0 (aRR r)]).set 1 (.obj 0 (sumA l.length (l.take (k + 1)) 0)))[0]? = some (.obj 0 z) := by rw [List.getElem?_set_ne (by omega), List.getElem?_append_left (by omega)]; exact hz
        have f1 : ((σ ++ [Res.obj 0 (aRR r)]).set 1 (.obj 0 (sumA l.length (l.take (k + 1)) 0)))[1]? = some (.obj 0 (sumA l.length (l.take (k + 1)) 0)) := by rw [List.getElem?_set, if_pos rfl, if_pos (by rw [List.length_append]; omega)]
        have f2 : ((σ ++ [Res.obj 0 (aRR r)]).set 1 (.obj 0 (sumA l.length (l.take (k + 1)) 0)))[2]? = some (.tail w) := by rw [List.getElem?_set_ne (by omega), List.getElem?_append_left (by omega)]; exact ht
        have f3 : ((σ ++ [Res.obj 0 (aRR r)]).set 1 (.obj 0 (sumA l.length (l.take (k + 1)) 0)))[σ.length]? = some (.obj 0 (aRR r)) := by rw [List.getElem?_set_ne (by omega)]; simp
        have f4 : ((σ ++ [Res.obj 0 (aRR r)]).set 1 (.obj 0 (sumA l.length (l.take (k + 1)) 0))).length = σ.length + 1 := by simp
        generalize hS : ((σ ++ [Res.obj 0 (aRR r)]).set 1 (.obj 0 (sumA l.length (l.take (k + 1)) 0))) = S at f0 f1 f2 f3 f4 ⊢
        simp (maxSteps := 1000000) (implicitDefEqProofs := false) (disch := omega) only [push_cast, ↓reduceIte, Nat.reduceEqDiff, reduceCtorEq, decide_true, decide_false, Bool.not_true, Bool.not_false, Option.isNone_some, Option.isNone_none, List.drop_zero, List.drop_succ_cons, List.getElem?_cons_zero, List.getElem?_cons_succ, List.length_cons, List.length_nil, List.take_succ_cons, List.take_zero, Nat.mul_one, Nat.zero_add, Nat.add_zero, Nat.one_mul, Nat.zero_mul, List.getElem?_map, List.getElem?_drop, List.getElem?_take, List.length_map, Option.map_some, List.set_cons_zero, List.set_cons_succ, and_true, true_and, List.flatMap_cons, List.flatMap_nil, Bool.not_not, hρ, h4]
        refine wpa_callw [σ.length] [true, true] (ContainsFunc_a (seenF (l.take k)) r hsk hsn hrk) (wkC _ _ _ _ _ _ f3) ?_
        rintro a rfl
        rw [freeze_one f3 (aRR_res _ r)]
        have e0 : (S.set σ.length (.frz 0 (aRR r)))[0]? = some (.obj 0 z) := by rw [List.getElem?_set_ne (by omega)]; exact f0
        have e1 : (S.set σ.length (.frz 0 (aRR r)))[1]? = some (.obj 0 (sumA l.length (l.take (k + 1)) 0)) := by rw [List.getElem?_set_ne (by omega)]; exact f1
        have e2 : (S.set σ.length (.frz 0 (aRR r)))[2]? = some (.tail w) := by rw [List.getElem?_set_ne (by omega)]; exact f2
        have e3 : (S.set σ.length (.frz 0 (aRR r)))[σ.length]? = some (.frz 0 (aRR r)) := by rw [List.getElem?_set, if_pos rfl, if_pos (by omega)]
        have e4 : (S.set σ.length (.frz 0 (aRR r))).length = σ.length + 1 := by rw [List.length_set]; exact f4
        generalize S.set σ.length (.frz 0 (aRR r)) = S2 at e0 e1 e2 e3 e4 ⊢
        cases hb : ((seenF (l.take k)).any fun x => alikeB x r) with
        | true =>
          simp (maxSteps := 1000000) (implicitDefEqProofs := false) (disch := omega) only [push_cast, ↓reduceIte, Nat.reduceEqDiff, reduceCtorEq, decide_true, decide_false, Bool.not_true, Bool.not_false, Option.isNone_some, Option.isNone_none, List.drop_zero, List.drop_succ_cons, List.getElem?_cons_zero, List.getElem?_cons_succ, List.length_cons, List.length_nil, List.take_succ_cons, List.take_zero, Nat.mul_one, Nat.zero_add, Nat.add_zero, Nat.one_mul, Nat.zero_mul, List.getElem?_map, List.getElem?_drop, List.getElem?_take, List.length_map, Option.map_some, List.set_cons_zero, List.set_cons_succ, and_true, true_and, List.flatMap_cons, List.flatMap_nil, Bool.not_not, hρ, h4, aBool]
          refine hN (k + 1) _ _ ?_ (by omega)
          simp (maxSteps := 1000000) (implicitDefEqProofs := false) (disch := omega) only [push_cast, ↓reduceIte, Nat.reduceEqDiff, reduceCtorEq, decide_true, decide_false, Bool.not_true, Bool.not_false, Option.isNone_some, Option.isNone_none, List.drop_zero, List.drop_succ_cons, List.getElem?_cons_zero, List.getElem?_cons_succ, List.length_cons, List.length_nil, List.take_succ_cons, List.take_zero, Nat.mul_one, Nat.zero_add, Nat.add_zero, Nat.one_mul, Nat.zero_mul, List.getElem?_map, List.getElem?_drop, List.getElem?_take, List.length_map, Option.map_some, List.set_cons_zero, List.set_cons_succ, and_true, true_and, List.flatMap_cons, List.flatMap_nil, Bool.not_not, hρ]
          have hsn1 : seenF (l.take (k + 1)) = seenF (l.take k) := by rw [take_succ_at hr, seenF_snoc, addR, hb]; rfl
          exact ⟨by omega, w, z, by rw [hsn1]; exact h4, e0, hzl, e1, e2⟩
        | false =>
          have hc0 : cellsA (some 11) (aRR r) = some (.agg (aRR r)) := rfl
          simp (maxSteps := 1000000) (implicitDefEqProofs := false) (disch := omega) only [push_cast, ↓reduceIte, Nat.reduceEqDiff, reduceCtorEq, decide_true, decide_false, Bool.not_true, Bool.not_false, Option.isNone_some, Option.isNone_none, List.drop_zero, List.drop_succ_cons, List.getElem?_cons_zero, List.getElem?_cons_succ, List.length_cons, List.length_nil, List.take_succ_cons, List.take_zero, Nat.mul_one, Nat.zero_add, Nat.add_zero, Nat.one_mul, Nat.zero_mul, List.getElem?_map, List.getElem?_drop, List.getElem?_take, List.length_map, Option.map_some, List.set_cons_zero, List.set_cons_succ, and_true, true_and, List.flatMap_cons, List.flatMap_nil, Bool.not_not, hρ, h4, aBool, e3, hc0]
          refine wpa_bsl (sz := 11) (by intro a ha; simp at ha; subst ha; rfl) (by simp) ?_
          have hcc : (AV.agg (aRR r)).cells = aRR r := rfl
          simp (maxSteps := 1000000) (implicitDefEqProofs := false) (disch := omega) only [push_cast, ↓reduceIte, Nat.reduceEqDiff, reduceCtorEq, decide_true, decide_false, Bool.not_true, Bool.not_false, Option.isNone_some, Option.isNone_none, List.drop_zero, List.drop_succ_cons, List.getElem?_cons_zero, List.getElem?_cons_succ, List.length_cons, List.length_nil, List.take_succ_cons, List.take_zero, Nat.mul_one, Nat.zero_add, Nat.add_zero, Nat.one_mul, Nat.zero_mul, List.getElem?_map, List.getElem?_drop, List.getElem?_take, List.length_map, Option.map_some, List.set_cons_zero, List.set_cons_succ, and_true, true_and, List.flatMap_cons, List.flatMap_nil, Bool.not_not, hρ, h4, hcc]
          refine wpa_app rfl rfl (by simp [aRR_len]) (aRR_one r) (flat_len aRR_len _) (by omega) (by omega) e2 ?_
          simp (maxSteps := 1000000) (implicitDefEqProofs := false) (disch := omega) only [push_cast, ↓reduceIte, Nat.reduceEqDiff, reduceCtorEq, decide_true, decide_false, Bool.not_true, Bool.not_false, Option.isNone_some, Option.isNone_none, List.drop_zero, List.drop_succ_cons, List.getElem?_cons_zero, List.getElem?_cons_succ, List.length_cons, List.length_nil, List.take_succ_cons, List.take_zero, Nat.mul_one, Nat.zero_add, Nat.add_zero, Nat.one_mul, Nat.zero_mul, List.getElem?_map, List.getElem?_drop, List.getElem?_take, List.length_map, Option.map_some, List.set_cons_zero, List.set_cons_succ, and_true, true_and, List.flatMap_cons, List.flatMap_nil, Bool.not_not, hρ, h4]
          refine hN (k + 1) _ _ ?_ (by omega)
          simp (maxSteps := 1000000) (implicitDefEqProofs := false) (disch := omega) only [push_cast, ↓reduceIte, Nat.reduceEqDiff, reduceCtorEq, decide_true, decide_false, Bool.not_true, Bool.not_false, Option.isNone_some, Option.isNone_none, List.drop_zero, List.drop_succ_cons, List.getElem?_cons_zero, List.getElem?_cons_succ, List.length_cons, List.length_nil, List.take_succ_cons, List.take_zero, Nat.mul_one, Nat.zero_add, Nat.add_zero, Nat.one_mul, Nat.zero_mul, List.getElem?_map, List.getElem?_drop, List.getElem?_take, List.length_map, Option.map_some, List.set_cons_zero, List.set_cons_succ, and_true, true_and, List.flatMap_cons, List.flatMap_nil, Bool.not_not, hρ]
          have hsn1 : seenF (l.take (k + 1)) = seenF (l.take k) ++ [r] := by rw [take_succ_at hr, seenF_snoc, addR, hb]; rfl
          refine ⟨by omega, w + 1, z, by rw [hsn1]; simp, ?_, hzl, ?_, ?_⟩
          · rw [List.getElem?_set_ne (by omega)]; exact e0
          · rw [List.getElem?_set_ne (by omega)]; exact e1
          · rw [List.getElem?_set, if_pos rfl, if_pos (by omega)]
      by_cases q4 : r.st = 4
      · simp (maxSteps := 1000000) (implicitDefEqProofs := false) (disch := omega) only [push_cast, ↓reduceIte, Nat.reduceEqDiff, reduceCtorEq, decide_true, decide_false, Bool.not_true, Bool.not_false, Option.isNone_some, Option.isNone_none, List.drop_zero, List.drop_succ_cons, List.getElem?_cons_zero, List.getElem?_cons_succ, List.length_cons, List.length_nil, List.take_succ_cons, List.take_zero, Nat.mul_one, Nat.zero_add, Nat.add_zero, Nat.one_mul, Nat.zero_mul, List.getElem?_map, List.getElem?_drop, List.getElem?_take, List.length_map, Option.map_some, List.set_cons_zero, List.set_cons_succ, and_true, true_and, List.flatMap_cons, List.flatMap_nil, Bool.not_not, hset, h0, hρ, hs1, q1, q4, sumA]
        refine wpa_st1 (cs := sumA l.length (l.take k) 0) rfl rfl (hs1 _) (by simp [sumA]) ?_
        have hcs : (sumA l.length (l.take k) 0).set 2 (.v (.int .i64 ((cSt (l.take k) 4 : Int) + 1))) = sumA l.length (l.take (k + 1)) 0 := by simp [sumA, take_succ_at hr, cSt_snoc, q1, q4]
        rw [hcs]
        have f0 : ((σ ++ [Res.obj 0 (aRR r)]).set 1 (.obj 0 (sumA l.length (l.take (k + 1)) 0)))[0]? = some (.obj 0 z) := by rw [List.getElem?_set_ne (by omega), List.getElem?_append_left (by omega)]; exact hz
        have f1 : ((σ ++ [Res.obj 0 (aRR r)]).set 1 (.obj 0 (sumA l.length (l.take (k + 1)) 0)))[1]? = some (.obj 0 (sumA l.length (l.take (k + 1)) 0)) := by rw [List.getElem?_set, if_pos rfl, if_pos (by rw [List.length_append]; omega)]
        have f2 : ((σ ++ [Res.obj 0 (aRR r)]).set 1 (.obj 0 (sumA l.length (l.take (k + 1)) 0)))[2]? = some (.tail w) := by rw [List.getElem?_set_ne (by omega), List.getElem?_append_left (by omega)]; exact ht
        have f3 : ((σ ++ [Res.obj 0 (aRR r)]).set 1 (.obj 0 (sumA l.length (l.take (k + 1)) 0)))[σ.length]? = some (.obj 0 (aRR r)) := by rw [List.getElem?_set_ne (by omega)]; simp
        have f4 : ((σ ++ [Res.obj 0 (aRR r)]).set 1 (.obj 0 (sumA l.length (l.take (k + 1)) 0))).length = σ.length + 1 := by simp
        generalize hS : ((σ ++ [Res.obj 0 (aRR r)]).set 1 (.obj 0 (sumA l.length (l.take (k + 1)) 0))) = S at f0 f1 f2 f3 f4 ⊢
        simp (maxSteps := 1000000) (implicitDefEqProofs := false) (disch := omega) only [push_cast, ↓reduceIte, Nat.reduceEqDiff, reduceCtorEq, decide_true, decide_false, Bool.not_true, Bool.not_false, Option.isNone_some, Option.isNone_none, List.drop_zero, List.drop_succ_cons, List.getElem?_cons_zero, List.getElem?_cons_succ, List.length_cons, List.length_nil, List.take_succ_cons, List.take_zero, Nat.mul_one, Nat.zero_add, Nat.add_zero, Nat.one_mul, Nat.zero_mul, List.getElem?_map, List.getElem?_drop, List.getElem?_take, List.length_map, Option.map_some, List.set_cons_zero, List.set_cons_succ, and_true, true_and, List.flatMap_cons, List.flatMap_nil, Bool.not_not, hρ, h4]
        refine wpa_callw [σ.length] [true, true] (ContainsFunc_a (seenF (l.take k)) r hsk hsn hrk) (wkC _ _ _ _ _ _ f3) ?_
        rintro a rfl
        rw [freeze_one f3 (aRR_res _ r)]
        have e0 : (S.set σ.length (.frz 0 (aRR r)))[0]? = some (.obj 0 z) := by rw [List.getElem?_set_ne (by omega)]; exact f0
        have e1 : (S.set σ.length (.frz 0 (aRR r)))[1]? = some (.obj 0 (sumA l.length (l.take (k + 1)) 0)) := by rw [List.getElem?_set_ne (by omega)]; exact f1
        have e2 : (S.set σ.length (.frz 0 (aRR r)))[2]? = some (.tail w) := by rw [List.getElem?_set_ne (by omega)]; exact f2
        have e3 : (S.set σ.length (.frz 0 (aRR r)))[σ.length]? = some (.frz 0 (aRR r)) := by rw [List.getElem?_set, if_pos rfl, if_pos (by omega)]
        have e4 : (S.set σ.length (.frz 0 (aRR r))).length = σ.length + 1 := by rw [List.length_set]; exact f4
        generalize S.set σ.length (.frz 0 (aRR r)) = S2 at e0 e1 e2 e3 e4 ⊢
        cases hb : ((seenF (l.take k)).any fun x => alikeB x r) with
        | true =>
          simp (maxSteps := 1000000) (implicitDefEqProofs := false) (disch := omega) only [push_cast, ↓reduceIte, Nat.reduceEqDiff, reduceCtorEq, decide_true, decide_false, Bool.not_true, Bool.not_false, Option.isNone_some, Option.isNone_none, List.drop_zero, List.drop_succ_cons, List.getElem?_cons_zero, List.getElem?_cons_succ, List.length_cons, List.length_nil, List.take_succ_cons, List.take_zero, Nat.mul_one, Nat.zero_add, Nat.add_zero, Nat.one_mul, Nat.zero_mul, List.getElem?_map, List.getElem?_drop, List.getElem?_take, List.length_map, Option.map_some, List.set_cons_zero, List.set_cons_succ, and_true, true_and, List.flatMap_cons, List.flatMap_nil, Bool.not_not, hρ, h4, aBool]
          refine hN (k + 1) _ _ ?_ (by omega)
          simp (maxSteps := 1000000) (implicitDefEqProofs := false) (disch := omega) only [push_cast, ↓reduceIte, Nat.reduceEqDiff, reduceCtorEq, decide_true, decide_false, Bool.not_true, Bool.not_false, Option.isNone_some, Option.isNone_none, List.drop_zero, List.drop_succ_cons, List.getElem?_cons_zero, List.getElem?_cons_succ, List.length_cons, List.length_nil, List.take_succ_cons, List.take_zero, Nat.mul_one, Nat.zero_add, Nat.add_zero, Nat.one_mul, Nat.zero_mul, List.getElem?_map, List.getElem?_drop, List.getElem?_take, List.length_map, Option.map_some, List.set_cons_zero, List.set_cons_succ, and_true, true_and, List.flatMap_cons, List.flatMap_nil, Bool.not_not, hρ]
          have hsn1 : seenF (l.take (k + 1)) = seenF (l.take k) := by rw [take_succ_at hr, seenF_snoc, addR, hb]; rfl
          exact ⟨by omega, w, z, by rw [hsn1]; exact h4, e0, hzl, e1, e2⟩
        | false =>
          have hc0 : cellsA (some 11) (aRR r) = some (.agg (aRR r)) := rfl
          simp (maxSteps := 1000000) (implicitDefEqProofs := false) (disch := omega) only [push_cast, ↓reduceIte, Nat.reduceEqDiff, reduceCtorEq, decide_true, decide_false, Bool.not_true, Bool.not_false, Option.isNone_some, Option.isNone_none, List.drop_zero, List.drop_succ_cons, List.getElem?_cons_zero, List.getElem?_cons_succ, List.length_cons, List.length_nil, List.take_succ_cons, List.take_zero, Nat.mul_one, Nat.zero_add, Nat.add_zero, Nat.one_mul, Nat.zero_mul, List.getElem?_map, List.getElem?_drop, List.getElem?_take, List.length_map, Option.map_some, List.set_cons_zero, List.set_cons_succ, and_true, true_and, List.flatMap_cons, List.flatMap_nil, Bool.not_not, hρ, h4, aBool, e3, hc0]
          refine wpa_bsl (sz := 11) (by intro a ha; simp at ha; subst ha; rfl) (by simp) ?_
          have hcc : (AV.agg (aRR r)).cells = aRR r := rfl
          simp (maxSteps := 1000000) (implicitDefEqProofs := false) (disch := omega) only [push_cast, ↓reduceIte, Nat.reduceEqDiff, reduceCtorEq, decide_true, decide_false, Bool.not_true, Bool.not_false, Option.isNone_some, Option.isNone_none, List.drop_zero, List.drop_succ_cons, List.getElem?_cons_zero, List.getElem?_cons_succ, List.length_cons, List.length_nil, List.take_succ_cons, List.take_zero, Nat.mul_one, Nat.zero_add, Nat.add_zero, Nat.one_mul, Nat.zero_mul, List.getElem?_map, List.getElem?_drop, List.getElem?_take, List.length_map, Option.map_some, List.set_cons_zero, List.set_cons_succ, and_true, true_and, List.flatMap_cons, List.flatMap_nil, Bool.not_not, hρ, h4, hcc]
          refine wpa_app rfl rfl (by simp [aRR_len]) (aRR_one r) (flat_len aRR_len _) (by omega) (by omega) e2 ?_
          simp (maxSteps := 1000000) (implicitDefEqProofs := false) (disch := omega) only [push_cast, ↓reduceIte, Nat.reduceEqDiff, reduceCtorEq, decide_true, decide_false, Bool.not_true, Bool.not_false, Option.isNone_some, Option.isNone_none, List.drop_zero, List.drop_succ_cons, List.getElem?_cons_zero, List.getElem?_cons_succ, List.length_cons, List.length_nil, List.take_succ_cons, List.take_zero, Nat.mul_one, Nat.zero_add, Nat.add_zero, Nat.one_mul, Nat.zero_mul, List.getElem?_map, List.getElem?_drop, List.getElem?_take, List.length_map, Option.map_some, List.set_cons_zero, List.set_cons_succ, and_true, true_and, List.flatMap_cons, List.flatMap_nil, Bool.not_not, hρ, h4]
          refine hN (k + 1) _ _ ?_ (by omega)
          simp (maxSteps := 1000000) (implicitDefEqProofs := false) (disch := omega) only [push_cast, ↓reduceIte, Nat.reduceEqDiff, reduceCtorEq, decide_true, decide_false, Bool.not_true, Bool.not_false, Option.isNone_some, Option.isNone_none, List.drop_zero, List.drop_succ_cons, List.getElem?_cons_zero, List.getElem?_cons_succ, List.length_cons, List.length_nil, List.take_succ_cons, List.take_zero, Nat.mul_one, Nat.zero_add, Nat.add_zero, Nat.one_mul, Nat.zero_mul, List.getElem?_map, List.getElem?_drop, List.getElem?_take, List.length_map, Option.map_some, List.set_cons_zero, List.set_cons_succ, and_true, true_and, List.flatMap_cons, List.flatMap_nil, Bool.not_not, hρ]
          have hsn1 : seenF (l.take (k + 1)) = seenF (l.take k) ++ [r] := by rw [take_succ_at hr, seenF_snoc, addR, hb]; rfl
          refine ⟨by omega, w + 1, z, by rw [hsn1]; simp, ?_, hzl, ?_, ?_⟩
          · rw [List.getElem?_set_ne (by omega)]; exact e0
          · rw [List.getElem?_set_ne (by omega)]; exact e1
          · rw [List.getElem?_set, if_pos rfl, if_pos (by omega)]
      by_cases q5 : r.st = 5
      · simp (maxSteps := 1000000) (implicitDefEqProofs := false) (disch := omega) only [push_cast, ↓reduceIte, Nat.reduceEqDiff, reduceCtorEq, decide_true, decide_false, Bool.not_true, Bool.not_false, Option.isNone_some, Option.isNone_none, List.drop_zero, List.drop_succ_cons, List.getElem?_cons_zero, List.getElem?_cons_succ, List.length_cons, List.length_nil, List.take_succ_cons, List.take_zero, Nat.mul_one, Nat.zero_add, Nat.add_zero, Nat.one_mul, Nat.zero_mul, List.getElem?_map, List.getElem?_drop, List.getElem?_take, List.length_map, Option.map_some, List.set_cons_zero, List.set_cons_succ, and_true, true_and, List.flatMap_cons, List.flatMap_nil, Bool.not_not, hset, h0, hρ, hs1, q1, q4, q5, sumA]
        refine wpa_st1 (cs := sumA l.length (l.take k) 0) rfl rfl (hs1 _) (by simp [sumA]) ?_
        have hcs : (sumA l.length (l.take k) 0).set 3 (.v (.int .i64 ((cSt (l.take k) 5 : Int) + 1))) = sumA l.length (l.take (k + 1)) 0 := by simp [sumA, take_succ_at hr, cSt_snoc, q1, q4, q5]
        rw [hcs]
        have f0 : ((σ ++ [Res.obj 0 (aRR r)]).set 1 (.obj 0 (sumA l.length (l.take (k + 1)) 0)))[0]? = some (.obj 0 z) := by rw [List.getElem?_set_ne (by omega), List.getElem?_append_left (by omega)]; exact hz
        have f1 : ((σ ++ [Res.obj 0 (aRR r)]).set 1 (.obj 0 (sumA l.length (l.take (k + 1)) 0)))[1]? = some (.obj 0 (sumA l.length (l.take (k + 1)) 0)) := by rw [List.getElem?_set, if_pos rfl, if_pos (by rw [List.length_append]; omega)]
        have f2 : ((σ ++ [Res.obj 0 (aRR r)]).set 1 (.obj 0 (sumA l.length (l.take (k + 1)) 0)))[2]? = some (.tail w) := by rw [List.getElem?_set_ne (by omega), List.getElem?_append_left (by omega)]; exact ht
        have f3 : ((σ ++ [Res.obj 0 (aRR r)]).set 1 (.obj 0 (sumA l.length (l.take (k + 1)) 0)))[σ.length]? = some (.obj 0 (aRR r)) := by rw [List.getElem?_set_ne (by omega)]; simp
        have f4 : ((σ ++ [Res.obj 0 (aRR r)]).set 1 (.obj 0 (sumA l.length (l.take (k + 1)) 0))).length = σ.length + 1 := by simp
        generalize hS : ((σ ++ [Res.obj 0 (aRR r)]).set 1 (.obj 0 (sumA l.length (l.take (k + 1)) 0))) = S at f0 f1 f2 f3 f4 ⊢
        simp (maxSteps := 1000000) (implicitDefEqProofs := false) (disch := omega) only [push_cast, ↓reduceIte, Nat.reduceEqDiff, reduceCtorEq, decide_true, decide_false, Bool.not_true, Bool.not_false, Option.isNone_some, Option.isNone_none, List.drop_zero, List.drop_succ_cons, List.getElem?_cons_zero, List.getElem?_cons_succ, List.length_cons, List.length_nil, List.take_succ_cons, List.take_zero, Nat.mul_one, Nat.zero_add, Nat.add_zero, Nat.one_mul, Nat.zero_mul, List.getElem?_map, List.getElem?_drop, List.getElem?_take, List.length_map, Option.map_some, List.set_cons_zero, List.set_cons_succ, and_true, true_and, List.flatMap_cons, List.flatMap_nil, Bool.not_not, hρ, h4]
        refine wpa_callw [σ.length] [true, true] (ContainsFunc_a (seenF (l.take k)) r hsk hsn hrk) (wkC _ _ _ _ _ _ f3) ?_
        rintro a rfl
        rw [freeze_one f3 (aRR_res _ r)]
        have e0 : (S.set σ.length (.frz 0 (aRR r)))[0]? = some (.obj 0 z) := by rw [List.getElem?_set_ne (by omega)]; exact f0
        have e1 : (S.set σ.length (.frz 0 (aRR r)))[1]? = some (.obj 0 (sumA l.length (l.take (k + 1)) 0)) := by rw [List.getElem?_set_ne (by omega)]; exact f1
        have e2 : (S.set σ.length (.frz 0 (aRR r)))[2]? = some (.tail w) := by rw [List.getElem?_set_ne (by omega)]; exact f2
        have e3 : (S.set σ.length (.frz 0 (aRR r)))[σ.length]? = some (.frz 0 (aRR r)) := by rw [List.getElem?_set, if_pos rfl, if_pos (by omega)]
        have e4 : (S.set σ.length (.frz 0 (aRR r))).length = σ.length + 1 := by rw [List.length_set]; exact f4
        generalize S.set σ.length (.frz 0 (aRR r)) = S2 at e0 e1 e2 e3 e4 ⊢
        cases hb : ((seenF (l.take k)).any fun x => alikeB x r) with
        | true =>
          simp (maxSteps := 1000000) (implicitDefEqProofs := false) (disch := omega) only [push_cast, ↓reduceIte, Nat.reduceEqDiff, reduceCtorEq, decide_true, decide_false, Bool.not_true, Bool.not_false, Option.isNone_some, Option.isNone_none, List.drop_zero, List.drop_succ_cons, List.getElem?_cons_zero, List.getElem?_cons_succ, List.length_cons, List.length_nil, List.take_succ_cons, List.take_zero, Nat.mul_one, Nat.zero_add, Nat.add_zero, Nat.one_mul, Nat.zero_mul, List.getElem?_map, List.getElem?_drop, List.getElem?_take, List.length_map, Option.map_some, List.set_cons_zero, List.set_cons_succ, and_true, true_and, List.flatMap_cons, List.flatMap_nil, Bool.not_not, hρ, h4, aBool]
          refine hN (k + 1) _ _ ?_ (by omega)
          simp (maxSteps := 1000000) (implicitDefEqProofs := false) (disch := omega) only [push_cast, ↓reduceIte, Nat.reduceEqDiff, reduceCtorEq, decide_true, decide_false, Bool.not_true, Bool.not_false, Option.isNone_some, Option.isNone_none, List.drop_zero, List.drop_succ_cons, List.getElem?_cons_zero, List.getElem?_cons_succ, List.length_cons, List.length_nil, List.take_succ_cons, List.take_zero, Nat.mul_one, Nat.zero_add, Nat.add_zero, Nat.one_mul, Nat.zero_mul, List.getElem?_map, List.getElem?_drop, List.getElem?_take, List.length_map, Option.map_some, List.set_cons_zero, List.set_cons_succ, and_true, true_and, List.flatMap_cons, List.flatMap_nil, Bool.not_not, hρ]
          have hsn1 : seenF (l.take (k + 1)) = seenF (l.take k) := by rw [take_succ_at hr, seenF_snoc, addR, hb]; rfl
          exact ⟨by omega, w, z, by rw [hsn1]; exact h4, e0, hzl, e1, e2⟩
        | false =>
          have hc0 : cellsA (some 11) (aRR r) = some (.agg (aRR r)) := rfl
          simp (maxSteps := 1000000) (implicitDefEqProofs := false) (disch := omega) only [push_cast, ↓reduceIte, Nat.reduceEqDiff, reduceCtorEq, decide_true, decide_false, Bool.not_true, Bool.not_false, Option.isNone_some, Option.isNone_none, List.drop_zero, List.drop_succ_cons, List.getElem?_cons_zero, List.getElem?_cons_succ, List.length_cons, List.length_nil, List.take_succ_cons, List.take_zero, Nat.mul_one, Nat.zero_add, Nat.add_zero, Nat.one_mul, Nat.zero_mul, List.getElem?_map, List.getElem?_drop, List.getElem?_take, List.length_map, Option.map_some, List.set_cons_zero, List.set_cons_succ, and_true, true_and, List.flatMap_cons, List.flatMap_nil, Bool.not_not, hρ, h4, aBool, e3, hc0]
          refine wpa_bsl (sz := 11) (by intro a ha; simp at ha; subst ha; rfl) (by simp) ?_
          have hcc : (AV.agg (aRR r)).cells = aRR r := rfl
          simp (maxSteps := 1000000) (implicitDefEqProofs := false) (disch := omega) only [push_cast, ↓reduceIte, Nat.reduceEqDiff, reduceCtorEq, decide_true, decide_false, Bool.not_true, Bool.not_false, Option.isNone_some, Option.isNone_none, List.drop_zero, List.drop_succ_cons, List.getElem?_cons_zero, List.getElem?_cons_succ, List.length_cons, List.length_nil, List.take_succ_cons, List.take_zero, Nat.mul_one, Nat.zero_add, Nat.add_zero, Nat.one_mul, Nat.zero_mul, List.getElem?_map, List.getElem?_drop, List.getElem?_take, List.length_map, Option.map_some, List.set_cons_zero, List.set_cons_succ, and_true, true_and, List.flatMap_cons, List.flatMap_nil, Bool.not_not, hρ, h4, hcc]
          refine wpa_app rfl rfl (by simp [aRR_len]) (aRR_one r) (flat_len aRR_len _) (by omega) (by omega) e2 ?_
          simp (maxSteps := 1000000) (implicitDefEqProofs := false) (disch := omega) only [push_cast, ↓reduceIte, Nat.reduceEqDiff, reduceCtorEq, decide_true, decide_false, Bool.not_true, Bool.not_false, Option.isNone_some, Option.isNone_none, List.drop_zero, List.drop_succ_cons, List.getElem?_cons_zero, List.getElem?_cons_succ, List.length_cons, List.length_nil, List.take_succ_cons, List.take_zero, Nat.mul_one, Nat.zero_add, Nat.add_zero, Nat.one_mul, Nat.zero_mul, List.getElem?_map, List.getElem?_drop, List.getElem?_take, List.length_map, Option.map_some, List.set_cons_zero, List.set_cons_succ, and_true, true_and, List.flatMap_cons, List.flatMap_nil, Bool.not_not, hρ, h4]
          refine hN (k + 1) _ _ ?_ (by omega)
          simp (maxSteps := 1000000) (implicitDefEqProofs := false) (disch := omega) only [push_cast, ↓reduceIte, Nat.reduceEqDiff, reduceCtorEq, decide_true, decide_false, Bool.not_true, Bool.not_false, Option.isNone_some, Option.isNone_none, List.drop_zero, List.drop_succ_cons, List.getElem?_cons_zero, List.getElem?_cons_succ, List.length_cons, List.length_nil, List.take_succ_cons, List.take_zero, Nat.mul_one, Nat.zero_add, Nat.add_zero, Nat.one_mul, Nat.zero_mul, List.getElem?_map, List.getElem?_drop, List.getElem?_take, List.length_map, Option.map_some, List.set_cons_zero, List.set_cons_succ, and_true, true_and, List.flatMap_cons, List.flatMap_nil, Bool.not_not, hρ]
          have hsn1 : seenF (l.take (k + 1)) = seenF (l.take k) ++ [r] := by rw [take_succ_at hr, seenF_snoc, addR, hb]; rfl
          refine ⟨by omega, w + 1, z, by rw [hsn1]; simp, ?_, hzl, ?_, ?_⟩
          · rw [List.getElem?_set_ne (by omega)]; exact e0
          · rw [List.getElem?_set_ne (by omega)]; exact e1
          · rw [List.getElem?_set, if_pos rfl, if_pos (by omega)]
      by_cases q6 : r.st = 6
      · simp (maxSteps := 1000000) (implicitDefEqProofs := false) (disch := omega) only [push_cast, ↓reduceIte, Nat.reduceEqDiff, reduceCtorEq, decide_true, decide_false, Bool.not_true, Bool.not_false, Option.isNone_some, Option.isNone_none, List.drop_zero, List.drop_succ_cons, List.getElem?_cons_zero, List.getElem?_cons_succ, List.length_cons, List.length_nil, List.take_succ_cons, List.take_zero, Nat.mul_one, Nat.zero_add, Nat.add_zero, Nat.one_mul, Nat.zero_mul, List.getElem?_map, List.getElem?_drop, List.getElem?_take, List.length_map, Option.map_some, List.set_cons_zero, List.set_cons_succ, and_true, true_and, List.flatMap_cons, List.flatMap_nil, Bool.not_not, hset, h0, hρ, hs1, q1, q4, q5, q6, sumA]
        refine wpa_st1 (cs := sumA l.length (l.take k) 0) rfl rfl (hs1 _) (by simp [sumA]) ?_
        have hcs : (sumA l.length (l.take k) 0).set 4 (.v (.int .i64 ((cSt (l.take k) 6 : Int) + 1))) = sumA l.length (l.take (k + 1)) 0 := by simp [sumA, take_succ_at hr, cSt_snoc, q1, q4, q5, q6]
        rw [hcs]
        have f0 : ((σ ++ [Res.obj 0 (aRR r)]).set 1 (.obj 0 (sumA l.length (l.take (k + 1)) 0)))[0]? = some (.obj 0 z) := by rw [List.getElem?_set_ne (by omega), List.getElem?_append_left (by omega)]; exact hz
        have f1 : ((σ ++ [Res.obj 0 (aRR r)]).set 1 (.obj 0 (sumA l.length (l.take (k + 1)) 0)))[1]? = some (.obj 0 (sumA l.length (l.take (k + 1)) 0)) := by rw [List.getElem?_set, if_pos rfl, if_pos (by rw [List.length_append]; omega)]
        have f2 : ((σ ++ [Res.obj 0 (aRR r)]).set 1 (.obj 0 (sumA l.length (l.take (k + 1)) 0)))[2]? = some (.tail w) := by rw [List.getElem?_set_ne (by omega), List.getElem?_append_left (by omega)]; exact ht
        have f3 : ((σ ++ [Res.obj 0 (aRR r)]).set 1 (.obj 0 (sumA l.length (l.take (k + 1)) 0)))[σ.length]? = some (.obj 0 (aRR r)) := by rw [List.getElem?_set_ne (by omega)]; simp
        have f4 : ((σ ++ [Res.obj 0 (aRR r)]).set 1 (.obj 0 (sumA l.length (l.take (k + 1)) 0))).length = σ.length + 1 := by simp
        generalize hS : ((σ ++ [Res.obj 0 (aRR r)]).set 1 (.obj 0 (sumA l.length (l.take (k + 1)) 0))) = S at f0 f1 f2 f3 f4 ⊢
        simp (maxSteps := 1000000) (implicitDefEqProofs := false) (disch := omega) only [push_cast, ↓reduceIte, Nat.reduceEqDiff, reduceCtorEq, decide_true, decide_false, Bool.not_true, Bool.not_false, Option.isNone_some, Option.isNone_none, List.drop_zero, List.drop_succ_cons, List.getElem?_cons_zero, List.getElem?_cons_succ, List.length_cons, List.length_nil, List.take_succ_cons, List.take_zero, Nat.mul_one, Nat.zero_add, Nat.add_zero, Nat.one_mul, Nat.zero_mul, List.getElem?_map, List.getElem?_drop, List.getElem?_take, List.length_map, Option.map_some, List.set_cons_zero, List.set_cons_succ, and_true, true_and, List.flatMap_cons, List.flatMap_nil, Bool.not_not, hρ, h4]
        refine wpa_callw [σ.length] [true, true] (ContainsFunc_a (seenF (l.take k)) r hsk hsn hrk) (wkC _ _ _ _ _ _ f3) ?_
        rintro a rfl
        rw [freeze_one f3 (aRR_res _ r)]
        have e0 : (S.set σ.length (.frz 0 (aRR r)))[0]? = some (.obj 0 z) := by rw [List.getElem?_set_ne (by omega)]; exact f0
        have e1 : (S.set σ.length (.frz 0 (aRR r)))[1]? = some (.obj 0 (sumA l.length (l.take (k + 1)) 0)) := by rw [List.getElem?_set_ne (by omega)]; exact f1
        have e2 : (S.set σ.length (.frz 0 (aRR r)))[2]? = some (.tail w) := by rw [List.getElem?_set_ne (by omega)]; exact f2
        have e3 : (S.set σ.length (.frz 0 (aRR r)))[σ.length]? = some (.frz 0 (aRR r)) := by rw [List.getElem?_set, if_pos rfl, if_pos (by omega)]
        have e4 : (S.set σ.length (.frz 0 (aRR r))).length = σ.length + 1 := by rw [List.length_set]; exact f4
        generalize S.set σ.length (.frz 0 (aRR r)) = S2 at e0 e1 e2 e3 e4 ⊢
        cases hb : ((seenF (l.take k)).any fun x => alikeB x r) with
        | true =>
          simp (maxSteps := 1000000) (implicitDefEqProofs := false) (disch := omega) only [push_cast, ↓reduceIte, Nat.reduceEqDiff, reduceCtorEq, decide_true, decide_false, Bool.not_true, Bool.not_false, Option.isNone_some, Option.isNone_none, List.drop_zero, List.drop_succ_cons, List.getElem?_cons_zero, List.getElem?_cons_succ, List.length_cons, List.length_nil, List.take_succ_cons, List.take_zero, Nat.mul_one, Nat.zero_add, Nat.add_zero, Nat.one_mul, Nat.zero_mul, List.getElem?_map, List.getElem?_drop, List.getElem?_take, List.length_map, Option.map_some, List.set_cons_zero, List.set_cons_succ, and_true, true_and, List.flatMap_cons, List.flatMap_nil, Bool.not_not, hρ, h4, aBool]
          refine hN (k + 1) _ _ ?_ (by omega)
          simp (maxSteps := 1000000) (implicitDefEqProofs := false) (disch := omega) only [push_cast, ↓reduceIte, Nat.reduceEqDiff, reduceCtorEq, decide_true, decide_false, Bool.not_true, Bool.not_false, Option.isNone_some, Option.isNone_none, List.drop_zero, List.drop_succ_cons, List.getElem?_cons_zero, List.getElem?_cons_succ, List.length_cons, List.length_nil, List.take_succ_cons, List.take_zero, Nat.mul_one, Nat.zero_add, Nat.add_zero, Nat.one_mul, Nat.zero_mul, List.getElem?_map, List.getElem?_drop, List.getElem?_take, List.length_map, Option.map_some, List.set_cons_zero, List.set_cons_succ, and_true, true_and, List.flatMap_cons, List.flatMap_nil, Bool.not_not, hρ]
          have hsn1 : seenF (l.take (k + 1)) = seenF (l.take k) := by rw [take_succ_at hr, seenF_snoc, addR, hb]; rfl
          exact ⟨by omega, w, z, by rw [hsn1]; exact h4, e0, hzl, e1, e2⟩
        | false =>
          have hc0 : cellsA (some 11) (aRR r) = some (.agg (aRR r)) := rfl
          simp (maxSteps := 1000000) (implicitDefEqProofs := false) (disch := omega) only [push_cast, ↓reduceIte, Nat.reduceEqDiff, reduceCtorEq, decide_true, decide_false, Bool.not_true, Bool.not_false, Option.isNone_some, Option.isNone_none, List.drop_zero, List.drop_succ_cons, List.getElem?_cons_zero, List.getElem?_cons_succ, List.length_cons, List.length_nil, List.take_succ_cons, List.take_zero, Nat.mul_one, Nat.zero_add, Nat.add_zero, Nat.one_mul, Nat.zero_mul, List.getElem?_map, List.getElem?_drop, List.getElem?_take, List.length_map, Option.map_some, List.set_cons_zero, List.set_cons_succ, and_true, true_and, List.flatMap_cons, List.flatMap_nil, Bool.not_not, hρ, h4, aBool, e3, hc0]
          refine wpa_bsl (sz := 11) (by intro a ha; simp at ha; subst ha; rfl) (by simp) ?_
          have hcc : (AV.agg (aRR r)).cells = aRR r := rfl
          simp (maxSteps := 1000000) (implicitDefEqProofs := false) (disch := omega) only [push_cast, ↓reduceIte, Nat.reduceEqDiff, reduceCtorEq, decide_true, decide_false, Bool.not_true, Bool.not_false, Option.isNone_some, Option.isNone_none, List.drop_zero, List.drop_succ_cons, List.getElem?_cons_zero, List.getElem?_cons_succ, List.length_cons, List.length_nil, List.take_succ_cons, List.take_zero, Nat.mul_one, Nat.zero_add, Nat.add_zero, Nat.one_mul, Nat.zero_mul, List.getElem?_map, List.getElem?_drop, List.getElem?_take, List.length_map, Option.map_some, List.set_cons_zero, List.set_cons_succ, and_true, true_and, List.flatMap_cons, List.flatMap_nil, Bool.not_not, hρ, h4, hcc]
          refine wpa_app rfl rfl (by simp [aRR_len]) (aRR_one r) (flat_len aRR_len _) (by omega) (by omega) e2 ?_
          simp (maxSteps := 1000000) (implicitDefEqProofs := false) (disch := omega) only [push_cast, ↓reduceIte, Nat.reduceEqDiff, reduceCtorEq, decide_true, decide_false, Bool.not_true, Bool.not_false, Option.isNone_some, Option.isNone_none, List.drop_zero, List.drop_succ_cons, List.getElem?_cons_zero, List.getElem?_cons_succ, List.length_cons, List.length_nil, List.take_succ_cons, List.take_zero, Nat.mul_one, Nat.zero_add, Nat.add_zero, Nat.one_mul, Nat.zero_mul, List.getElem?_map, List.getElem?_drop, List.getElem?_take, List.length_map, Option.map_some, List.set_cons_zero, List.set_cons_succ, and_true, true_and, List.flatMap_cons, List.flatMap_nil, Bool.not_not, hρ, h4]
          refine hN (k + 1) _ _ ?_ (by omega)
          simp (maxSteps := 1000000) (implicitDefEqProofs := false) (disch := omega) only [push_cast, ↓reduceIte, Nat.reduceEqDiff, reduceCtorEq, decide_true, decide_false, Bool.not_true, Bool.not_false, Option.isNone_some, Option.isNone_none, List.drop_zero, List.drop_succ_cons, List.getElem?_cons_zero, List.getElem?_cons_succ, List.length_cons, List.length_nil, List.take_succ_cons, List.take_zero, Nat.mul_one, Nat.zero_add, Nat.add_zero, Nat.one_mul, Nat.zero_mul, List.getElem?_map, List.getElem?_drop, List.getElem?_take, List.length_map, Option.map_some, List.set_cons_zero, List.set_cons_succ, and_true, true_and, List.flatMap_cons, List.flatMap_nil, Bool.not_not, hρ]
          have hsn1 : seenF (l.take (k + 1)) = seenF (l.take k) ++ [r] := by rw [take_succ_at hr, seenF_snoc, addR, hb]; rfl
          refine ⟨by omega, w + 1, z, by rw [hsn1]; simp, ?_, hzl, ?_, ?_⟩
          · rw [List.getElem?_set_ne (by omega)]; exact e0
          · rw [List.getElem?_set_ne (by omega)]; exact e1
          · rw [List.getElem?_set, if_pos rfl, if_pos (by omega)]
      have hcs : sumA l.length (l.take (k + 1)) 0 = sumA l.length (l.take k) 0 := by simp [sumA, take_succ_at hr, cSt_snoc, q1, q4, q5, q6]
      simp (maxSteps := 1000000) (implicitDefEqProofs := false) (disch := omega) only [push_cast, ↓reduceIte, Nat.reduceEqDiff, reduceCtorEq, decide_true, decide_false, Bool.not_true, Bool.not_false, Option.isNone_some, Option.isNone_none, List.drop_zero, List.drop_succ_cons, List.getElem?_cons_zero, List.getElem?_cons_succ, List.length_cons, List.length_nil, List.take_succ_cons, List.take_zero, Nat.mul_one, Nat.zero_add, Nat.add_zero, Nat.one_mul, Nat.zero_mul, List.getElem?_map, List.getElem?_drop, List.getElem?_take, List.length_map, Option.map_some, List.set_cons_zero, List.set_cons_succ, and_true, true_and, List.flatMap_cons, List.flatMap_nil, Bool.not_not, hset, h0, hρ, hs1, q1, q4, q5, q6, sumA]
      rw [show (σ ++ [Res.obj 0 (aRR r)]) = (σ ++ [Res.obj 0 (aRR r)]).set 1 (.obj 0 (sumA l.length (l.take (k + 1)) 0)) by rw [hcs, set_selfC (hs1 _)]]
      have f0 : ((σ ++ [Res.obj 0 (aRR r)]).set 1 (.obj 0 (sumA l.length (l.take (k + 1)) 0)))[0]? = some (.obj 0 z) := by rw [List.getElem?_set_ne (by omega), List.getElem?_append_left (by omega)]; exact hz
      have f1 : ((σ ++ [Res.obj 0 (aRR r)]).set 1 (.obj 0 (sumA l.length (l.take (k + 1)) 0)))[1]? = some (.obj 0 (sumA l.length (l.take (k + 1)) 0)) := by rw [List.getElem?_set, if_pos rfl, if_pos (by rw [List.length_append]; omega)]
      have f2 : ((σ ++ [Res.obj 0 (aRR r)]).set 1 (.obj 0 (sumA l.length (l.take (k + 1)) 0)))[2]? = some (.tail w) := by rw [List.getElem?_set_ne (by omega), List.getElem?_append_left (by omega)]; exact ht
      have f3 : ((σ ++ [Res.obj 0 (aRR r)]).set 1 (.obj 0 (sumA l.length (l.take (k + 1)) 0)))[σ.length]? = some (.obj 0 (aRR r)) := by rw [List.getElem?_set_ne (by omega)]; simp
      have f4 : ((σ ++ [Res.obj 0 (aRR r)]).set 1 (.obj 0 (sumA l.length (l.take (k + 1)) 0))).length = σ.length + 1 := by simp
      generalize hS : ((σ ++ [Res.obj 0 (aRR r)]).set 1 (.obj 0 (sumA l.length (l.take (k + 1)) 0))) = S at f0 f1 f2 f3 f4 ⊢
      simp (maxSteps := 1000000) (implicitDefEqProofs := false) (disch := omega) only [push_cast, ↓reduceIte, Nat.reduceEqDiff, reduceCtorEq, decide_true, decide_false, Bool.not_true, Bool.not_false, Option.isNone_some, Option.isNone_none, List.drop_zero, List.drop_succ_cons, List.getElem?_cons_zero, List.getElem?_cons_succ, List.length_cons, List.length_nil, List.take_succ_cons, List.take_zero, Nat.mul_one, Nat.zero_add, Nat.add_zero, Nat.one_mul, Nat.zero_mul, List.getElem?_map, List.getElem?_drop, List.getElem?_take, List.length_map, Option.map_some, List.set_cons_zero, List.set_cons_succ, and_true, true_and, List.flatMap_cons, List.flatMap_nil, Bool.not_not, hρ, h4]
      refine wpa_callw [σ.length] [true, true] (ContainsFunc_a (seenF (l.take k)) r hsk hsn hrk) (wkC _ _ _ _ _ _ f3) ?_
      rintro a rfl
      rw [freeze_one f3 (aRR_res _ r)]
      have e0 : (S.set σ.length (.frz 0 (aRR r)))[0]? = some (.obj 0 z) := by rw [List.getElem?_set_ne (by omega)]; exact f0
      have e1 : (S.set σ.length (.frz 0 (aRR r)))[1]? = some (.obj 0 (sumA l.length (l.take (k + 1)) 0)) := by rw [List.getElem?_set_ne (by omega)]; exact f1
      have e2 : (S.set σ.length (.frz 0 (aRR r)))[2]? = some (.tail w) := by rw [List.getElem?_set_ne (by omega)]; exact f2
      have e3 : (S.set σ.length (.frz 0 (aRR r)))[σ.length]? = some (.frz 0 (aRR r)) := by rw [List.getElem?_set, if_pos rfl, if_pos (by omega)]
      have e4 : (S.set σ.length (.frz 0 (aRR r))).length = σ.length + 1 := by rw [List.length_set]; exact f4
      generalize S.set σ.length (.frz 0 (aRR r)) = S2 at e0 e1 e2 e3 e4 ⊢
      cases hb : ((seenF (l.take k)).any fun x => alikeB x r) with
      | true =>
        simp (maxSteps := 1000000) (implicitDefEqProofs := false) (disch := omega) only [push_cast, ↓reduceIte, Nat.reduceEqDiff, reduceCtorEq, decide_true, decide_false, Bool.not_true, Bool.not_false, Option.isNone_some, Option.isNone_none, List.drop_zero, List.drop_succ_cons, List.getElem?_cons_zero, List.getElem?_cons_succ, List.length_cons, List.length_nil, List.take_succ_cons, List.take_zero, Nat.mul_one, Nat.zero_add, Nat.add_zero, Nat.one_mul, Nat.zero_mul, List.getElem?_map, List.getElem?_drop, List.getElem?_take, List.length_map, Option.map_some, List.set_cons_zero, List.set_cons_succ, and_true, true_and, List.flatMap_cons, List.flatMap_nil, Bool.not_not, hρ, h4, aBool]
        refine hN (k + 1) _ _ ?_ (by omega)
        simp (maxSteps := 1000000) (implicitDefEqProofs := false) (disch := omega) only [push_cast, ↓reduceIte, Nat.reduceEqDiff, reduceCtorEq, decide_true, decide_false, Bool.not_true, Bool.not_false, Option.isNone_some, Option.isNone_none, List.drop_zero, List.drop_succ_cons, List.getElem?_cons_zero, List.getElem?_cons_succ, List.length_cons, List.length_nil, List.take_succ_cons, List.take_zero, Nat.mul_one, Nat.zero_add, Nat.add_zero, Nat.one_mul, Nat.zero_mul, List.getElem?_map, List.getElem?_drop, List.getElem?_take, List.length_map, Option.map_some, List.set_cons_zero, List.set_cons_succ, and_true, true_and, List.flatMap_cons, List.flatMap_nil, Bool.not_not, hρ]
        have hsn1 : seenF (l.take (k + 1)) = seenF (l.take k) := by rw [take_succ_at hr, seenF_snoc, addR, hb]; rfl
        exact ⟨by omega, w, z, by rw [hsn1]; exact h4, e0, hzl, e1, e2⟩
      | false =>
        have hc0 : cellsA (some 11) (aRR r) = some (.agg (aRR r)) := rfl
        simp (maxSteps := 1000000) (implicitDefEqProofs := false) (disch := omega) only [push_cast, ↓reduceIte, Nat.reduceEqDiff, reduceCtorEq, decide_true, decide_false, Bool.not_true, Bool.not_false, Option.isNone_some, Option.isNone_none, List.drop_zero, List.drop_succ_cons, List.getElem?_cons_zero, List.getElem?_cons_succ, List.length_cons, List.length_nil, List.take_succ_cons, List.take_zero, Nat.mul_one, Nat.zero_add, Nat.add_zero, Nat.one_mul, Nat.zero_mul, List.getElem?_map, List.getElem?_drop, List.getElem?_take, List.length_map, Option.map_some, List.set_cons_zero, List.set_cons_succ, and_true, true_and, List.flatMap_cons, List.flatMap_nil, Bool.not_not, hρ, h4, aBool, e3, hc0]
        refine wpa_bsl (sz := 11) (by intro a ha; simp at ha; subst ha; rfl) (by simp) ?_
        have hcc : (AV.agg (aRR r)).cells = aRR r := rfl
        simp (maxSteps := 1000000) (implicitDefEqProofs := false) (disch := omega) only [push_cast, ↓reduceIte, Nat.reduceEqDiff, reduceCtorEq, decide_true, decide_false, Bool.not_true, Bool.not_false, Option.isNone_some, Option.isNone_none, List.drop_zero, List.drop_succ_cons, List.getElem?_cons_zero, List.getElem?_cons_succ, List.length_cons, List.length_nil, List.take_succ_cons, List.take_zero, Nat.mul_one, Nat.zero_add, Nat.add_zero, Nat.one_mul, Nat.zero_mul, List.getElem?_map, List.getElem?_drop, List.getElem?_take, List.length_map, Option.map_some, List.set_cons_zero, List.set_cons_succ, and_true, true_and, List.flatMap_cons, List.flatMap_nil, Bool.not_not, hρ, h4, hcc]
        refine wpa_app rfl rfl (by simp [aRR_len]) (aRR_one r) (flat_len aRR_len _) (by omega) (by omega) e2 ?_
        simp (maxSteps := 1000000) (implicitDefEqProofs := false) (disch := omega) only [push_cast, ↓reduceIte, Nat.reduceEqDiff, reduceCtorEq, decide_true, decide_false, Bool.not_true, Bool.not_false, Option.isNone_some, Option.isNone_none, List.drop_zero, List.drop_succ_cons, List.getElem?_cons_zero, List.getElem?_cons_succ, List.length_cons, List.length_nil, List.take_succ_cons, List.take_zero, Nat.mul_one, Nat.zero_add, Nat.add_zero, Nat.one_mul, Nat.zero_mul, List.getElem?_map, List.getElem?_drop, List.getElem?_take, List.length_map, Option.map_some, List.set_cons_zero, List.set_cons_succ, and_true, true_and, List.flatMap_cons, List.flatMap_nil, Bool.not_not, hρ, h4]
        refine hN (k + 1) _ _ ?_ (by omega)
        simp (maxSteps := 1000000) (implicitDefEqProofs := false) (disch := omega) only [push_cast, ↓reduceIte, Nat.reduceEqDiff, reduceCtorEq, decide_true, decide_false, Bool.not_true, Bool.not_false, Option.isNone_some, Option.isNone_none, List.drop_zero, List.drop_succ_cons, List.getElem?_cons_zero, List.getElem?_cons_succ, List.length_cons, List.length_nil, List.take_succ_cons, List.take_zero, Nat.mul_one, Nat.zero_add, Nat.add_zero, Nat.one_mul, Nat.zero_mul, List.getElem?_map, List.getElem?_drop, List.getElem?_take, List.length_map, Option.map_some, List.set_cons_zero, List.set_cons_succ, and_true, true_and, List.flatMap_cons, List.flatMap_nil, Bool.not_not, hρ]
        have hsn1 : seenF (l.take (k + 1)) = seenF (l.take k) ++ [r] := by rw [take_succ_at hr, seenF_snoc, addR, hb]; rfl
        refine ⟨by omega, w + 1, z, by rw [hsn1]; simp, ?_, hzl, ?_, ?_⟩
        · rw [List.getElem?_set_ne (by omega)]; exact e0
        · rw [List.getElem?_set_ne (by omega)]; exact e1
        · rw [List.getElem?_set, if_pos rfl, if_pos (by omega)]
      --END
    · simp (maxSteps := 1000000) (implicitDefEqProofs := false) (disch := omega) only [push_cast, ↓reduceIte, Nat.reduceEqDiff, reduceCtorEq, decide_true, decide_false, Bool.not_true, Bool.not_false, Option.isNone_some, Option.isNone_none, List.drop_zero, List.drop_succ_cons, List.getElem?_cons_zero, List.getElem?_cons_succ, List.length_cons, List.length_nil, List.take_succ_cons, List.take_zero, Nat.mul_one, Nat.zero_add, Nat.add_zero, Nat.one_mul, Nat.zero_mul, List.getElem?_map, List.getElem?_drop, List.getElem?_take, List.length_map, Option.map_some, List.set_cons_zero, List.set_cons_succ, and_true, true_and, List.flatMap_cons, List.flatMap_nil, Bool.not_not, hρ]
      refine hE _ _ ?_
      rw [List.take_of_length_le (by omega)] at h4 hs
      simp (maxSteps := 1000000) (implicitDefEqProofs := false) (disch := omega) only [push_cast, ↓reduceIte, Nat.reduceEqDiff, reduceCtorEq, decide_true, decide_false, Bool.not_true, Bool.not_false, Option.isNone_some, Option.isNone_none, List.drop_zero, List.drop_succ_cons, List.getElem?_cons_zero, List.getElem?_cons_succ, List.length_cons, List.length_nil, List.take_succ_cons, List.take_zero, Nat.mul_one, Nat.zero_add, Nat.add_zero, Nat.one_mul, Nat.zero_mul, List.getElem?_map, List.getElem?_drop, List.getElem?_take, List.length_map, Option.map_some, List.set_cons_zero, List.set_cons_succ, and_true, true_and, List.flatMap_cons, List.flatMap_nil, Bool.not_not, hρ]
      exact ⟨w, z, h4, hz, hzl, hs⟩
  · rintro ε σ ⟨hρ, w, z, h4, hz, hzl, hs⟩
    have hl1 : 1 < σ.length := (List.getElem?_eq_some_iff.1 hs).1
    simp (maxSteps := 1000000) (implicitDefEqProofs := false) (disch := omega) only [push_cast, ↓reduceIte, Nat.reduceEqDiff, reduceCtorEq, decide_true, decide_false, Bool.not_true, Bool.not_false, Option.isNone_some, Option.isNone_none, List.drop_zero, List.drop_succ_cons, List.getElem?_cons_zero, List.getElem?_cons_succ, List.length_cons, List.length_nil, List.take_succ_cons, List.take_zero, Nat.mul_one, Nat.zero_add, Nat.add_zero, Nat.one_mul, Nat.zero_mul, List.getElem?_map, List.getElem?_drop, List.getElem?_take, List.length_map, Option.map_some, List.set_cons_zero, List.set_cons_succ, and_true, true_and, List.flatMap_cons, List.flatMap_nil, Bool.not_not, hρ, h4]
    refine wpa_st1 (cs := sumA l.length l 0) rfl rfl hs (by simp [sumA]) ?_
    have hcs : (sumA l.length l 0).set 5 (.v (.int .i64 (seenF l).length)) = sumA l.length l (seenF l).length := by simp [sumA]
    rw [hcs]
    have f0 : (σ.set 1 (.obj 0 (sumA l.length l (seenF l).length)))[0]? = some (.obj 0 z) := by rw [List.getElem?_set_ne (by omega)]; exact hz
    have f1 : (σ.set 1 (.obj 0 (sumA l.length l (seenF l).length)))[1]? = some (.obj 0 (sumA l.length l (seenF l).length)) := by rw [List.getElem?_set, if_pos rfl, if_pos (by omega)]
    generalize σ.set 1 (.obj 0 (sumA l.length l (seenF l).length)) = S at f0 f1 ⊢
    have hc6 : cellsA (some 6) (sumA l.length l (seenF l).length) = some (.agg (sumA l.length l (seenF l).length)) := rfl
    simp (maxSteps := 1000000) (implicitDefEqProofs := false) (disch := omega) only [push_cast, ↓reduceIte, Nat.reduceEqDiff, reduceCtorEq, decide_true, decide_false, Bool.not_true, Bool.not_false, Option.isNone_some, Option.isNone_none, List.drop_zero, List.drop_succ_cons, List.getElem?_cons_zero, List.getElem?_cons_succ, List.length_cons, List.length_nil, List.take_succ_cons, List.take_zero, Nat.mul_one, Nat.zero_add, Nat.add_zero, Nat.one_mul, Nat.zero_mul, List.getElem?_map, List.getElem?_drop, List.getElem?_take, List.length_map, Option.map_some, List.set_cons_zero, List.set_cons_succ, and_true, true_and, List.flatMap_cons, List.flatMap_nil, Bool.not_not, hρ, f1, hc6]
    refine wpa_stn (cs := z) rfl rfl f0 (by omega) ?_
    have hz6 : setAtA z 0 (sumA l.length l (seenF l).length) = sumA l.length l (seenF l).length := by
      match z, hzl with
      | [_, _, _, _, _, _], _ => rfl
    have f2 : ∀ o, (S.set 0 o)[0]? = some o := fun o => by rw [List.getElem?_set, if_pos rfl, if_pos (by have := (List.getElem?_eq_some_iff.1 f0).1; omega)]
    simp (maxSteps := 1000000) (implicitDefEqProofs := false) (disch := omega) only [push_cast, ↓reduceIte, Nat.reduceEqDiff, reduceCtorEq, decide_true, decide_false, Bool.not_true, Bool.not_false, Option.isNone_some, Option.isNone_none, List.drop_zero, List.drop_succ_cons, List.getElem?_cons_zero, List.getElem?_cons_succ, List.length_cons, List.length_nil, List.take_succ_cons, List.take_zero, Nat.mul_one, Nat.zero_add, Nat.add_zero, Nat.one_mul, Nat.zero_mul, List.getElem?_map, List.getElem?_drop, List.getElem?_take, List.length_map, Option.map_some, List.set_cons_zero, List.set_cons_succ, and_true, true_and, List.flatMap_cons, List.flatMap_nil, Bool.not_not, hρ, f2, hz6, hc6]
    exact ⟨[], rfl, rfl⟩
end Go.Proofs.Ytilofhocodbknaa
