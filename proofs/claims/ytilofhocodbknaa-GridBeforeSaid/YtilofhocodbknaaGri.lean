/- Contracts on annotated values: forebayref33.Edges. -/
import Derived.Test.YtilofhocodbknaaGrh
namespace Go.Proofs.Ytilofhocodbknaa
set_option linter.unusedVariables false
set_option linter.unusedSimpArgs false
open Go Go.Kx Go.Proofs

def aE4 (e : Ed) : List AV := [.v (.int .i64 e.1.1), .v (.int .i64 e.1.2), .v (.int .i64 e.2.1), .v (.int .i64 e.2.2)]
theorem aE4_len (e : Ed) : (aE4 e).length = 4 := rfl
theorem aE4_one (e : Ed) : (aE4 e).all AV.one = true := rfl
theorem aE4_pure (e : Ed) : AV.pureL (aE4 e) = true := by simp [aE4, AV.pureL, AV.pure]
theorem aE4_res (σ : St) (e : Ed) : AV.resL σ (aE4 e) = aE4 e := by simp [aE4, AV.resL, AV.res]
def aE4s (l : List Ed) : AV := aSlN aE4 l
theorem aE4s_pure (l : List Ed) : (aE4s l).pure = true := aSlN_pure aE4_pure l
theorem aE4s_res (σ : St) (l : List Ed) (t : Tok) : (AV.sl l.length (l.flatMap aE4) t).res σ = aE4s l := aSlN_res (aE4_res σ) l t
theorem app4 (A : List Ed) (e : Ed) (t : Tok) : AV.sl (A.length + 1) (A.flatMap aE4 ++ (aE4 e ++ [])) t = AV.sl (A ++ [e]).length ((A ++ [e]).flatMap aE4) t := by
  simp only [List.flatMap_append, List.length_append, List.flatMap_cons, List.flatMap_nil, List.append_nil, List.length_singleton]
theorem bld4 (a b c d : Int) : fillA [AV.v (.int .i64 0), AV.v (.int .i64 0), AV.v (.int .i64 0), AV.v (.int .i64 0)] [(0, 1), (1, 1), (2, 1), (3, 1)] [AV.v (.int .i64 a), AV.v (.int .i64 b), AV.v (.int .i64 c), AV.v (.int .i64 d)] = some (aE4 ((a, b), (c, d))) := by
  simp [fillA, AV.cells, Value.cells, setAtA, aE4]
def eP1 (i k : Nat) (r : List CC) (c : CC) : List Ed := if k = 0 then [] else [(((i : Int), (r.getD (k - 1) nc).st), ((i : Int), c.st))]
def eP2 (i k : Nat) : List Ed := if 0 < i ∧ k = 0 then [(((i : Int) - 1, 0), ((i : Int), 0))] else []
def eP3 (i k : Nat) (q : List CC) (c : CC) : List Ed := if 0 < i ∧ 0 < k ∧ c.wt = true then [(((i : Int) - 1, lastLE q c.st), ((i : Int), c.st))] else []
theorem cellEd_P {i k : Nat} {q r : List CC} {c : CC} (hc : r[k]? = some c) (h0 : k = 0 → c.st = 0) : cellEd i q r k = eP1 i k r c ++ eP2 i k ++ eP3 i k q c := by
  unfold cellEd cellP eP1 eP2 eP3
  rw [getD_of hc]
  by_cases hi : i = 0
  · subst hi
    by_cases hk : k = 0
    · subst hk; simp
    · simp [hk]
  · have hi' : 0 < i := by omega
    by_cases hk : k = 0
    · subst hk; simp [hi, hi', h0 rfl]
    · have hk' : 0 < k := by omega
      cases hw : c.wt <;> simp [hi, hi', hk, hk']
def E4st (l : List (List CC)) (i k : Nat) (c : CC) (A : List Ed) (ε : AEnv) (σ : St) : Prop :=
  (ε 0 = .sl l.length (l.map aRow) .none ∧ ε 4 = .v (.int .i64 i) ∧ ε 5 = .v (.int .i64 k)) ∧ (∃ b, 0 < b ∧ ε 6 = .ref b 0 0 ∧ σ[b]? = some (.obj 0 (aCC c))) ∧ ∃ w, ε 3 = .sl A.length (A.flatMap aE4) (.id 0 w 4) ∧ σ[0]? = some (.tail w)
set_option maxHeartbeats 2000000 in
theorem ref33_Edges_a (l : List (List CC)) (h0 : gchk l = 0) : FnP Try.prog 34 [aRows l] fun a => a = aE4s (edgeL l) := by
  refine fnP_in K_forebayref33_Edges mixed rfl (by simp [AV.pureL, aRows_pure]) ?_
  simp only [S_forebayref33_Edges]
  obtain ⟨hll, hok⟩ := gchk_ok h0
  have hlr : ∀ r ∈ l, r.length ≤ 100 := fun r hr => (hok r hr).len
  simp (maxSteps := 1000000) (implicitDefEqProofs := false) (disch := omega) only [push_cast, ↓reduceIte, Nat.reduceEqDiff, reduceCtorEq, decide_true, decide_false, Bool.not_true, Bool.not_false, Option.isNone_some, Option.isNone_none, List.drop_zero, List.drop_succ_cons, List.getElem?_cons_zero, List.getElem?_cons_succ, List.length_cons, List.length_nil, List.take_succ_cons, List.take_zero, Nat.mul_one, Nat.zero_add, Nat.add_zero, Nat.one_mul, Nat.zero_mul, List.getElem?_map, List.getElem?_drop, List.getElem?_take, List.length_map, Option.map_some, List.set_cons_zero, List.set_cons_succ, and_true, true_and, List.flatMap_cons, List.flatMap_nil, Bool.not_not, aInt, h0, aRows, aSl]
  refine wpa_blgx (GU.tok 3 4 rfl) (α := Nat) (I := fun n ε σ => (ε 0 = .sl l.length (l.map aRow) .none ∧ ε 4 = .v (.int .i64 n)) ∧ n ≤ l.length ∧
      ∃ w, ε 3 = .sl (gEd l n).length ((gEd l n).flatMap aE4) (.id 0 w 4) ∧ σ[0]? = some (.tail w))
    (μ := fun n => l.length - n) (Q := fun ε σ => ∃ w, ε 3 = .sl (edgeL l).length ((edgeL l).flatMap aE4) (.id 0 w 4)) (x := 0) ?_ ?_ ?_
  · simp (maxSteps := 1000000) (implicitDefEqProofs := false) (disch := omega) only [push_cast, ↓reduceIte, Nat.reduceEqDiff, reduceCtorEq, decide_true, decide_false, Bool.not_true, Bool.not_false, Option.isNone_some, Option.isNone_none, List.drop_zero, List.drop_succ_cons, List.getElem?_cons_zero, List.getElem?_cons_succ, List.length_cons, List.length_nil, List.take_succ_cons, List.take_zero, Nat.mul_one, Nat.zero_add, Nat.add_zero, Nat.one_mul, Nat.zero_mul, List.getElem?_map, List.getElem?_drop, List.getElem?_take, List.length_map, Option.map_some, List.set_cons_zero, List.set_cons_succ, and_true, true_and, List.flatMap_cons, List.flatMap_nil, Bool.not_not]
    exact ⟨by omega, 0, rfl, rfl⟩
  · rintro n ε σ N E X R ⟨hρ, hn, w, h3, ht⟩ hN hE
    simp only [S_forebayref33_Edges_L1]
    by_cases hlt : n < l.length
    · obtain ⟨r, hr⟩ := at_lt hlt
      have hrok := hok r (List.mem_of_getElem? hr)
      have hr100 := hrok.len
      have hgr : l.getD n [] = r := by rw [List.getD_eq_getElem?_getD, hr]; rfl
      generalize hq : l.getD (n - 1) [] = q
      have hqq : 0 < n → l[n - 1]? = some q := by
        intro h
        obtain ⟨q', hq'⟩ := at_lt (l := l) (k := n - 1) (by omega)
        rw [← hq, List.getD_eq_getElem?_getD, hq']; rfl
      have hgl := gEd_len hlr n
      simp (maxSteps := 1000000) (implicitDefEqProofs := false) (disch := omega) only [push_cast, ↓reduceIte, Nat.reduceEqDiff, reduceCtorEq, decide_true, decide_false, Bool.not_true, Bool.not_false, Option.isNone_some, Option.isNone_none, List.drop_zero, List.drop_succ_cons, List.getElem?_cons_zero, List.getElem?_cons_succ, List.length_cons, List.length_nil, List.take_succ_cons, List.take_zero, Nat.mul_one, Nat.zero_add, Nat.add_zero, Nat.one_mul, Nat.zero_mul, List.getElem?_map, List.getElem?_drop, List.getElem?_take, List.length_map, Option.map_some, List.set_cons_zero, List.set_cons_succ, and_true, true_and, List.flatMap_cons, List.flatMap_nil, Bool.not_not, hρ, hr, aRow, aSlN]
      refine wpa_blx (α := Nat) (I := fun k ε σ => (ε 0 = .sl l.length (l.map aRow) .none ∧ ε 4 = .v (.int .i64 n) ∧ ε 5 = .v (.int .i64 k)) ∧ k ≤ r.length ∧
          ∃ w, ε 3 = .sl (gEd l n ++ rowEd n q r k).length ((gEd l n ++ rowEd n q r k).flatMap aE4) (.id 0 w 4) ∧ σ[0]? = some (.tail w))
        (μ := fun k => r.length - k) (Q := fun ε σ => (ε 0 = .sl l.length (l.map aRow) .none ∧ ε 4 = .v (.int .i64 n)) ∧
          ∃ w, ε 3 = .sl (gEd l (n + 1)).length ((gEd l (n + 1)).flatMap aE4) (.id 0 w 4) ∧ σ[0]? = some (.tail w)) (x := 0) ?_ ?_ ?_
      · simp (maxSteps := 1000000) (implicitDefEqProofs := false) (disch := omega) only [push_cast, ↓reduceIte, Nat.reduceEqDiff, reduceCtorEq, decide_true, decide_false, Bool.not_true, Bool.not_false, Option.isNone_some, Option.isNone_none, List.drop_zero, List.drop_succ_cons, List.getElem?_cons_zero, List.getElem?_cons_succ, List.length_cons, List.length_nil, List.take_succ_cons, List.take_zero, Nat.mul_one, Nat.zero_add, Nat.add_zero, Nat.one_mul, Nat.zero_mul, List.getElem?_map, List.getElem?_drop, List.getElem?_take, List.length_map, Option.map_some, List.set_cons_zero, List.set_cons_succ, and_true, true_and, List.flatMap_cons, List.flatMap_nil, Bool.not_not, hρ, h3]
        exact ⟨by omega, w, by simp [rowEd], ht⟩
      · clear hρ h3 ht ε
        rintro k ε σ N' E' X' R' ⟨hρ, hk, w, h3, ht⟩ hN' hE'
        simp only [S_forebayref33_Edges_L2]
        by_cases hkl : k < r.length
        · obtain ⟨c, hc⟩ := at_lt hkl
          have hcb := hrok.bd c (List.mem_of_getElem? hc)
          have hc0 : k = 0 → c.st = 0 := fun h => by subst h; exact (hrok.first c hc).1
          have hdc := flat_drop aCC_len hc
          have hcl : ∀ m : List AV, cellsA (some 2) (aCC c ++ m) = some (.agg (aCC c)) := fun m => by rw [cellsA_n _ _ (by simp [aCC_len])]; rfl
          have hrl := rowEd_len n q r k
          have hce := cellEd_P (i := n) (q := q) hc hc0
          have hsl : (gEd l n ++ rowEd n q r k).length ≤ 100000 := by rw [List.length_append]; omega
          have hsu : gEd l n ++ rowEd n q r (k + 1) = gEd l n ++ rowEd n q r k ++ eP1 n k r c ++ eP2 n k ++ eP3 n k q c := by rw [rowEd_succ, hce]; simp only [List.append_assoc]
          have hN1 := hN' (k + 1)
          rw [hsu] at hN1
          clear hsu hce hrl hN'
          generalize gEd l n ++ rowEd n q r k = A at h3 hsl hN1
          have g0 : ∀ (c : CC) (m : List AV), (aCC c ++ m)[0]? = some (.v (.int .i64 c.st)) := fun c m => rfl
          have f0 : (aCC c)[0]? = some (.v (.int .i64 c.st)) := rfl
          have f1 : (aCC c)[1]? = some (.v (.bool c.wt)) := rfl
          have hset : setAtA [AV.v (.int .i64 0), AV.v (.bool false)] 0 (aCC c) = aCC c := rfl
          have hl0 := lt_at ht
          simp (maxSteps := 1000000) (implicitDefEqProofs := false) (disch := omega) only [push_cast, ↓reduceIte, Nat.reduceEqDiff, reduceCtorEq, decide_true, decide_false, Bool.not_true, Bool.not_false, Option.isNone_some, Option.isNone_none, List.drop_zero, List.drop_succ_cons, List.getElem?_cons_zero, List.getElem?_cons_succ, List.length_cons, List.length_nil, List.take_succ_cons, List.take_zero, Nat.mul_one, Nat.zero_add, Nat.add_zero, Nat.one_mul, Nat.zero_mul, List.getElem?_map, List.getElem?_drop, List.getElem?_take, List.length_map, Option.map_some, List.set_cons_zero, List.set_cons_succ, and_true, true_and, List.flatMap_cons, List.flatMap_nil, Bool.not_not, hρ, hr, aRow, aSlN, hdc, hcl]
          refine wpa_new ?_
          simp (maxSteps := 1000000) (implicitDefEqProofs := false) (disch := omega) only [push_cast, ↓reduceIte, Nat.reduceEqDiff, reduceCtorEq, decide_true, decide_false, Bool.not_true, Bool.not_false, Option.isNone_some, Option.isNone_none, List.drop_zero, List.drop_succ_cons, List.getElem?_cons_zero, List.getElem?_cons_succ, List.length_cons, List.length_nil, List.take_succ_cons, List.take_zero, Nat.mul_one, Nat.zero_add, Nat.add_zero, Nat.one_mul, Nat.zero_mul, List.getElem?_map, List.getElem?_drop, List.getElem?_take, List.length_map, Option.map_some, List.set_cons_zero, List.set_cons_succ, and_true, true_and, List.flatMap_cons, List.flatMap_nil, Bool.not_not]
          refine wpa_stn (aCC_len c) (by rfl) (at_snoc _ _) (by simp) ?_
          have ht1 : (σ ++ [Res.obj 0 (aCC c)])[0]? = some (.tail w) := get_app ht
          have hb1 : (σ ++ [Res.obj 0 (aCC c)])[σ.length]? = some (.obj 0 (aCC c)) := at_snoc _ _
          simp (maxSteps := 1000000) (implicitDefEqProofs := false) (disch := omega) only [push_cast, ↓reduceIte, Nat.reduceEqDiff, reduceCtorEq, decide_true, decide_false, Bool.not_true, Bool.not_false, Option.isNone_some, Option.isNone_none, List.drop_zero, List.drop_succ_cons, List.getElem?_cons_zero, List.getElem?_cons_succ, List.length_cons, List.length_nil, List.take_succ_cons, List.take_zero, Nat.mul_one, Nat.zero_add, Nat.add_zero, Nat.one_mul, Nat.zero_mul, List.getElem?_map, List.getElem?_drop, List.getElem?_take, List.length_map, Option.map_some, List.set_cons_zero, List.set_cons_succ, and_true, true_and, List.flatMap_cons, List.flatMap_nil, Bool.not_not, hset]
          generalize hS : σ ++ [Res.obj 0 (aCC c)] = S at ht1 hb1 ⊢
          generalize hb : σ.length = b at hb1 hl0 ⊢
          clear hS hb ht
          by_cases hk0 : k = 0
          · subst hk0
            have hk1 : ¬ (0 : Int) < 0 := by omega
            by_cases hn0 : n = 0
            · subst hn0
              simp (maxSteps := 1000000) (implicitDefEqProofs := false) (disch := omega) only [push_cast, ↓reduceIte, Nat.reduceEqDiff, reduceCtorEq, decide_true, decide_false, Bool.not_true, Bool.not_false, Option.isNone_some, Option.isNone_none, List.drop_zero, List.drop_succ_cons, List.getElem?_cons_zero, List.getElem?_cons_succ, List.length_cons, List.length_nil, List.take_succ_cons, List.take_zero, Nat.mul_one, Nat.zero_add, Nat.add_zero, Nat.one_mul, Nat.zero_mul, List.getElem?_map, List.getElem?_drop, List.getElem?_take, List.length_map, Option.map_some, List.set_cons_zero, List.set_cons_succ, and_true, true_and, List.flatMap_cons, List.flatMap_nil, Bool.not_not, hρ]
              refine hN1 _ _ ?_ (by omega)
              simp (maxSteps := 1000000) (implicitDefEqProofs := false) (disch := omega) only [push_cast, ↓reduceIte, Nat.reduceEqDiff, reduceCtorEq, decide_true, decide_false, Bool.not_true, Bool.not_false, Option.isNone_some, Option.isNone_none, List.drop_zero, List.drop_succ_cons, List.getElem?_cons_zero, List.getElem?_cons_succ, List.length_cons, List.length_nil, List.take_succ_cons, List.take_zero, Nat.mul_one, Nat.zero_add, Nat.add_zero, Nat.one_mul, Nat.zero_mul, List.getElem?_map, List.getElem?_drop, List.getElem?_take, List.length_map, Option.map_some, List.set_cons_zero, List.set_cons_succ, and_true, true_and, List.flatMap_cons, List.flatMap_nil, Bool.not_not, hρ, h3]
              exact ⟨by omega, w, by simp [eP1, eP2, eP3], ht1⟩
            · have hn1 : (0 : Int) < n := by omega
              simp (maxSteps := 1000000) (implicitDefEqProofs := false) (disch := omega) only [push_cast, ↓reduceIte, Nat.reduceEqDiff, reduceCtorEq, decide_true, decide_false, Bool.not_true, Bool.not_false, Option.isNone_some, Option.isNone_none, List.drop_zero, List.drop_succ_cons, List.getElem?_cons_zero, List.getElem?_cons_succ, List.length_cons, List.length_nil, List.take_succ_cons, List.take_zero, Nat.mul_one, Nat.zero_add, Nat.add_zero, Nat.one_mul, Nat.zero_mul, List.getElem?_map, List.getElem?_drop, List.getElem?_take, List.length_map, Option.map_some, List.set_cons_zero, List.set_cons_succ, and_true, true_and, List.flatMap_cons, List.flatMap_nil, Bool.not_not, hρ, hn1, bld4]
              refine wpa_bsl (sz := 4) (by intro a ha; simp at ha; subst ha; rfl) (by simp) ?_
              have hcc : ∀ e, (AV.agg (aE4 e)).cells = aE4 e := fun e => rfl
              simp (maxSteps := 1000000) (implicitDefEqProofs := false) (disch := omega) only [push_cast, ↓reduceIte, Nat.reduceEqDiff, reduceCtorEq, decide_true, decide_false, Bool.not_true, Bool.not_false, Option.isNone_some, Option.isNone_none, List.drop_zero, List.drop_succ_cons, List.getElem?_cons_zero, List.getElem?_cons_succ, List.length_cons, List.length_nil, List.take_succ_cons, List.take_zero, Nat.mul_one, Nat.zero_add, Nat.add_zero, Nat.one_mul, Nat.zero_mul, List.getElem?_map, List.getElem?_drop, List.getElem?_take, List.length_map, Option.map_some, List.set_cons_zero, List.set_cons_succ, and_true, true_and, List.flatMap_cons, List.flatMap_nil, Bool.not_not, hcc, h3]
              refine wpa_app rfl rfl (by simp [aE4_len]) (aE4_one _) (flat_len aE4_len _) (by omega) (by omega) ht1 ?_
              simp (maxSteps := 1000000) (implicitDefEqProofs := false) (disch := omega) only [push_cast, ↓reduceIte, Nat.reduceEqDiff, reduceCtorEq, decide_true, decide_false, Bool.not_true, Bool.not_false, Option.isNone_some, Option.isNone_none, List.drop_zero, List.drop_succ_cons, List.getElem?_cons_zero, List.getElem?_cons_succ, List.length_cons, List.length_nil, List.take_succ_cons, List.take_zero, Nat.mul_one, Nat.zero_add, Nat.add_zero, Nat.one_mul, Nat.zero_mul, List.getElem?_map, List.getElem?_drop, List.getElem?_take, List.length_map, Option.map_some, List.set_cons_zero, List.set_cons_succ, and_true, true_and, List.flatMap_cons, List.flatMap_nil, Bool.not_not, hρ]
              refine hN1 _ _ ?_ (by omega)
              simp (maxSteps := 1000000) (implicitDefEqProofs := false) (disch := omega) only [push_cast, ↓reduceIte, Nat.reduceEqDiff, reduceCtorEq, decide_true, decide_false, Bool.not_true, Bool.not_false, Option.isNone_some, Option.isNone_none, List.drop_zero, List.drop_succ_cons, List.getElem?_cons_zero, List.getElem?_cons_succ, List.length_cons, List.length_nil, List.take_succ_cons, List.take_zero, Nat.mul_one, Nat.zero_add, Nat.add_zero, Nat.one_mul, Nat.zero_mul, List.getElem?_map, List.getElem?_drop, List.getElem?_take, List.length_map, Option.map_some, List.set_cons_zero, List.set_cons_succ, and_true, true_and, List.flatMap_cons, List.flatMap_nil, Bool.not_not, hρ, app4]
              refine ⟨by omega, w + 1, ?_, get_set_eq ht1⟩
              have e1 : eP1 n 0 r c = [] := rfl
              have e2 : eP2 n 0 = [(((n : Int) - 1, 0), ((n : Int), 0))] := by unfold eP2; rw [if_pos ⟨by omega, rfl⟩]
              have e3 : eP3 n 0 q c = [] := by simp [eP3]
              rw [e1, e2, e3, List.append_nil, List.append_nil]
          · have hk1 : (0 : Int) < k := by omega
            have hk2 : ¬ ((k : Int) = 0) := by omega
            obtain ⟨p, hp⟩ := at_lt (l := r) (k := k - 1) (by omega)
            have hdp := flat_drop aCC_len hp
            have hdq : (r.flatMap aCC).drop (((k : Int) - 1).toNat * 2) = aCC p ++ (r.drop (k - 1 + 1)).flatMap aCC := by rw [show ((k : Int) - 1).toNat = k - 1 by omega]; exact hdp
            have hcc : ∀ e, (AV.agg (aE4 e)).cells = aE4 e := fun e => rfl
            have e1 : eP1 n k r c = [(((n : Int), p.st), ((n : Int), c.st))] := by unfold eP1; rw [if_neg hk0, getD_of hp]
            have e2 : eP2 n k = [] := by unfold eP2; rw [if_neg (by omega)]
            rw [e1, e2, List.append_nil] at hN1
            simp (maxSteps := 1000000) (implicitDefEqProofs := false) (disch := omega) only [push_cast, ↓reduceIte, Nat.reduceEqDiff, reduceCtorEq, decide_true, decide_false, Bool.not_true, Bool.not_false, Option.isNone_some, Option.isNone_none, List.drop_zero, List.drop_succ_cons, List.getElem?_cons_zero, List.getElem?_cons_succ, List.length_cons, List.length_nil, List.take_succ_cons, List.take_zero, Nat.mul_one, Nat.zero_add, Nat.add_zero, Nat.one_mul, Nat.zero_mul, List.getElem?_map, List.getElem?_drop, List.getElem?_take, List.length_map, Option.map_some, List.set_cons_zero, List.set_cons_succ, and_true, true_and, List.flatMap_cons, List.flatMap_nil, Bool.not_not, hρ, hr, aRow, aSlN, hdq, hk1, g0, hb1, f0, bld4]
            refine wpa_bsl (sz := 4) (by intro a ha; simp at ha; subst ha; rfl) (by simp) ?_
            simp (maxSteps := 1000000) (implicitDefEqProofs := false) (disch := omega) only [push_cast, ↓reduceIte, Nat.reduceEqDiff, reduceCtorEq, decide_true, decide_false, Bool.not_true, Bool.not_false, Option.isNone_some, Option.isNone_none, List.drop_zero, List.drop_succ_cons, List.getElem?_cons_zero, List.getElem?_cons_succ, List.length_cons, List.length_nil, List.take_succ_cons, List.take_zero, Nat.mul_one, Nat.zero_add, Nat.add_zero, Nat.one_mul, Nat.zero_mul, List.getElem?_map, List.getElem?_drop, List.getElem?_take, List.length_map, Option.map_some, List.set_cons_zero, List.set_cons_succ, and_true, true_and, List.flatMap_cons, List.flatMap_nil, Bool.not_not, hcc, h3]
            refine wpa_app rfl rfl (by simp [aE4_len]) (aE4_one _) (flat_len aE4_len _) (by omega) (by omega) ht1 ?_
            have ht2 : (S.set 0 (.tail (w + 1)))[0]? = some (.tail (w + 1)) := get_set_eq ht1
            have hb2 : (S.set 0 (.tail (w + 1)))[b]? = some (.obj 0 (aCC c)) := get_set_ne (by omega) hb1
            rw [app4]
            generalize S.set 0 (.tail (w + 1)) = S2 at ht2 hb2 ⊢
            have hsl2 : (A ++ [(((n : Int), p.st), ((n : Int), c.st))]).length ≤ 100001 := by simp; omega
            generalize A ++ [(((n : Int), p.st), ((n : Int), c.st))] = A2 at hN1 hsl2 ⊢
            by_cases hn0 : n = 0
            · subst hn0
              simp (maxSteps := 1000000) (implicitDefEqProofs := false) (disch := omega) only [push_cast, ↓reduceIte, Nat.reduceEqDiff, reduceCtorEq, decide_true, decide_false, Bool.not_true, Bool.not_false, Option.isNone_some, Option.isNone_none, List.drop_zero, List.drop_succ_cons, List.getElem?_cons_zero, List.getElem?_cons_succ, List.length_cons, List.length_nil, List.take_succ_cons, List.take_zero, Nat.mul_one, Nat.zero_add, Nat.add_zero, Nat.one_mul, Nat.zero_mul, List.getElem?_map, List.getElem?_drop, List.getElem?_take, List.length_map, Option.map_some, List.set_cons_zero, List.set_cons_succ, and_true, true_and, List.flatMap_cons, List.flatMap_nil, Bool.not_not, hρ]
              refine hN1 _ _ ?_ (by omega)
              simp (maxSteps := 1000000) (implicitDefEqProofs := false) (disch := omega) only [push_cast, ↓reduceIte, Nat.reduceEqDiff, reduceCtorEq, decide_true, decide_false, Bool.not_true, Bool.not_false, Option.isNone_some, Option.isNone_none, List.drop_zero, List.drop_succ_cons, List.getElem?_cons_zero, List.getElem?_cons_succ, List.length_cons, List.length_nil, List.take_succ_cons, List.take_zero, Nat.mul_one, Nat.zero_add, Nat.add_zero, Nat.one_mul, Nat.zero_mul, List.getElem?_map, List.getElem?_drop, List.getElem?_take, List.length_map, Option.map_some, List.set_cons_zero, List.set_cons_succ, and_true, true_and, List.flatMap_cons, List.flatMap_nil, Bool.not_not, hρ]
              exact ⟨by omega, w + 1, by simp [eP3], ht2⟩
            · have hn1 : (0 : Int) < n := by omega
              cases hw : c.wt with
              | false =>
                simp (maxSteps := 1000000) (implicitDefEqProofs := false) (disch := omega) only [push_cast, ↓reduceIte, Nat.reduceEqDiff, reduceCtorEq, decide_true, decide_false, Bool.not_true, Bool.not_false, Option.isNone_some, Option.isNone_none, List.drop_zero, List.drop_succ_cons, List.getElem?_cons_zero, List.getElem?_cons_succ, List.length_cons, List.length_nil, List.take_succ_cons, List.take_zero, Nat.mul_one, Nat.zero_add, Nat.add_zero, Nat.one_mul, Nat.zero_mul, List.getElem?_map, List.getElem?_drop, List.getElem?_take, List.length_map, Option.map_some, List.set_cons_zero, List.set_cons_succ, and_true, true_and, List.flatMap_cons, List.flatMap_nil, Bool.not_not, hρ, hn1, hk1, hk2, hb2, f1, hw]
                refine hN1 _ _ ?_ (by omega)
                simp (maxSteps := 1000000) (implicitDefEqProofs := false) (disch := omega) only [push_cast, ↓reduceIte, Nat.reduceEqDiff, reduceCtorEq, decide_true, decide_false, Bool.not_true, Bool.not_false, Option.isNone_some, Option.isNone_none, List.drop_zero, List.drop_succ_cons, List.getElem?_cons_zero, List.getElem?_cons_succ, List.length_cons, List.length_nil, List.take_succ_cons, List.take_zero, Nat.mul_one, Nat.zero_add, Nat.add_zero, Nat.one_mul, Nat.zero_mul, List.getElem?_map, List.getElem?_drop, List.getElem?_take, List.length_map, Option.map_some, List.set_cons_zero, List.set_cons_succ, and_true, true_and, List.flatMap_cons, List.flatMap_nil, Bool.not_not, hρ]
                exact ⟨by omega, w + 1, by simp [eP3, hw], ht2⟩
              | true =>
                have e3 : eP3 n k q c = [(((n : Int) - 1, lastLE q c.st), ((n : Int), c.st))] := by unfold eP3; rw [if_pos ⟨by omega, by omega, hw⟩]
                rw [e3] at hN1
                have hqq := hqq (by omega)
                have hqok := hok q (List.mem_of_getElem? hqq)
                have hq100 := hqok.len
                have hqpos := hqok.pos
                have hqi : l[((n : Int) - 1).toNat]? = some q := by rw [show ((n : Int) - 1).toNat = n - 1 by omega]; exact hqq
                simp (maxSteps := 1000000) (implicitDefEqProofs := false) (disch := omega) only [push_cast, ↓reduceIte, Nat.reduceEqDiff, reduceCtorEq, decide_true, decide_false, Bool.not_true, Bool.not_false, Option.isNone_some, Option.isNone_none, List.drop_zero, List.drop_succ_cons, List.getElem?_cons_zero, List.getElem?_cons_succ, List.length_cons, List.length_nil, List.take_succ_cons, List.take_zero, Nat.mul_one, Nat.zero_add, Nat.add_zero, Nat.one_mul, Nat.zero_mul, List.getElem?_map, List.getElem?_drop, List.getElem?_take, List.length_map, Option.map_some, List.set_cons_zero, List.set_cons_succ, and_true, true_and, List.flatMap_cons, List.flatMap_nil, Bool.not_not, hρ, hn1, hk1, hk2, hb2, f1, hw, hqi, aRow, aSlN]
                refine wpa_blx (α := Nat) (I := fun j ε σ => (ε 0 = .sl l.length (l.map aRow) .none ∧ ε 4 = .v (.int .i64 n) ∧ ε 5 = .v (.int .i64 k) ∧ ε 6 = .ref b 0 0 ∧ ε 3 = .sl A2.length (A2.flatMap aE4) (.id 0 (w + 1) 4) ∧ ε 7 = .v (.int .i64 j)) ∧ σ = S2 ∧ j < q.length ∧ lastLE q c.st = lastLE (q.take (j + 1)) c.st)
                  (μ := fun j => j) (Q := fun ε σ => (ε 0 = .sl l.length (l.map aRow) .none ∧ ε 4 = .v (.int .i64 n) ∧ ε 5 = .v (.int .i64 k) ∧ ε 6 = .ref b 0 0 ∧ ε 3 = .sl A2.length (A2.flatMap aE4) (.id 0 (w + 1) 4)) ∧ σ = S2 ∧ ∃ j d, ε 7 = .v (.int .i64 (j : Nat)) ∧ q[j]? = some d ∧ d.st = lastLE q c.st) (x := q.length - 1) ?_ ?_ ?_
                · simp (maxSteps := 1000000) (implicitDefEqProofs := false) (disch := omega) only [push_cast, ↓reduceIte, Nat.reduceEqDiff, reduceCtorEq, decide_true, decide_false, Bool.not_true, Bool.not_false, Option.isNone_some, Option.isNone_none, List.drop_zero, List.drop_succ_cons, List.getElem?_cons_zero, List.getElem?_cons_succ, List.length_cons, List.length_nil, List.take_succ_cons, List.take_zero, Nat.mul_one, Nat.zero_add, Nat.add_zero, Nat.one_mul, Nat.zero_mul, List.getElem?_map, List.getElem?_drop, List.getElem?_take, List.length_map, Option.map_some, List.set_cons_zero, List.set_cons_succ, and_true, true_and, List.flatMap_cons, List.flatMap_nil, Bool.not_not, hρ]
                  refine ⟨by rfl, by omega, ?_⟩
                  rw [List.take_of_length_le (by omega)]
                · clear hρ h3 ε
                  rintro j ε σ N2 E2 X2 R2 ⟨hρ, rfl, hj, hJ⟩ hN2 hE2
                  simp only [S_forebayref33_Edges_L3]
                  obtain ⟨d, hd⟩ := at_lt hj
                  have hdd := flat_drop aCC_len hd
                  rw [take_succ_at hd, lastLE_snoc] at hJ
                  by_cases hs : c.st < d.st
                  · rw [if_neg (by omega)] at hJ
                    have hj0 : j ≠ 0 := by
                      rintro rfl
                      have := hqok.first d hd
                      omega
                    simp (maxSteps := 1000000) (implicitDefEqProofs := false) (disch := omega) only [push_cast, ↓reduceIte, Nat.reduceEqDiff, reduceCtorEq, decide_true, decide_false, Bool.not_true, Bool.not_false, Option.isNone_some, Option.isNone_none, List.drop_zero, List.drop_succ_cons, List.getElem?_cons_zero, List.getElem?_cons_succ, List.length_cons, List.length_nil, List.take_succ_cons, List.take_zero, Nat.mul_one, Nat.zero_add, Nat.add_zero, Nat.one_mul, Nat.zero_mul, List.getElem?_map, List.getElem?_drop, List.getElem?_take, List.length_map, Option.map_some, List.set_cons_zero, List.set_cons_succ, and_true, true_and, List.flatMap_cons, List.flatMap_nil, Bool.not_not, hρ, hqi, aRow, aSlN, hdd, g0, hb2, f0, hs]
                    refine hN2 (j - 1) _ _ ?_ (by omega)
                    simp (maxSteps := 1000000) (implicitDefEqProofs := false) (disch := omega) only [push_cast, ↓reduceIte, Nat.reduceEqDiff, reduceCtorEq, decide_true, decide_false, Bool.not_true, Bool.not_false, Option.isNone_some, Option.isNone_none, List.drop_zero, List.drop_succ_cons, List.getElem?_cons_zero, List.getElem?_cons_succ, List.length_cons, List.length_nil, List.take_succ_cons, List.take_zero, Nat.mul_one, Nat.zero_add, Nat.add_zero, Nat.one_mul, Nat.zero_mul, List.getElem?_map, List.getElem?_drop, List.getElem?_take, List.length_map, Option.map_some, List.set_cons_zero, List.set_cons_succ, and_true, true_and, List.flatMap_cons, List.flatMap_nil, Bool.not_not, hρ]
                    refine ⟨by congr 2, by omega, ?_⟩
                    rw [Nat.sub_add_cancel (by omega)]
                    exact hJ
                  · rw [if_pos (by omega)] at hJ
                    simp (maxSteps := 1000000) (implicitDefEqProofs := false) (disch := omega) only [push_cast, ↓reduceIte, Nat.reduceEqDiff, reduceCtorEq, decide_true, decide_false, Bool.not_true, Bool.not_false, Option.isNone_some, Option.isNone_none, List.drop_zero, List.drop_succ_cons, List.getElem?_cons_zero, List.getElem?_cons_succ, List.length_cons, List.length_nil, List.take_succ_cons, List.take_zero, Nat.mul_one, Nat.zero_add, Nat.add_zero, Nat.one_mul, Nat.zero_mul, List.getElem?_map, List.getElem?_drop, List.getElem?_take, List.length_map, Option.map_some, List.set_cons_zero, List.set_cons_succ, and_true, true_and, List.flatMap_cons, List.flatMap_nil, Bool.not_not, hρ, hqi, aRow, aSlN, hdd, g0, hb2, f0, hs]
                    refine hE2 _ _ ?_
                    simp (maxSteps := 1000000) (implicitDefEqProofs := false) (disch := omega) only [push_cast, ↓reduceIte, Nat.reduceEqDiff, reduceCtorEq, decide_true, decide_false, Bool.not_true, Bool.not_false, Option.isNone_some, Option.isNone_none, List.drop_zero, List.drop_succ_cons, List.getElem?_cons_zero, List.getElem?_cons_succ, List.length_cons, List.length_nil, List.take_succ_cons, List.take_zero, Nat.mul_one, Nat.zero_add, Nat.add_zero, Nat.one_mul, Nat.zero_mul, List.getElem?_map, List.getElem?_drop, List.getElem?_take, List.length_map, Option.map_some, List.set_cons_zero, List.set_cons_succ, and_true, true_and, List.flatMap_cons, List.flatMap_nil, Bool.not_not, hρ]
                    exact ⟨j, d, rfl, hd, hJ.symm⟩
                · clear hρ h3 ε
                  rintro ε σ ⟨hρ, rfl, j, d, h7, hd, hds⟩
                  have hj := lt_at hd
                  have hdd := flat_drop aCC_len hd
                  simp (maxSteps := 1000000) (implicitDefEqProofs := false) (disch := omega) only [push_cast, ↓reduceIte, Nat.reduceEqDiff, reduceCtorEq, decide_true, decide_false, Bool.not_true, Bool.not_false, Option.isNone_some, Option.isNone_none, List.drop_zero, List.drop_succ_cons, List.getElem?_cons_zero, List.getElem?_cons_succ, List.length_cons, List.length_nil, List.take_succ_cons, List.take_zero, Nat.mul_one, Nat.zero_add, Nat.add_zero, Nat.one_mul, Nat.zero_mul, List.getElem?_map, List.getElem?_drop, List.getElem?_take, List.length_map, Option.map_some, List.set_cons_zero, List.set_cons_succ, and_true, true_and, List.flatMap_cons, List.flatMap_nil, Bool.not_not, hρ, h7, hqi, aRow, aSlN, hdd, g0, hb2, f0, bld4]
                  refine wpa_bsl (sz := 4) (by intro a ha; simp at ha; subst ha; rfl) (by simp) ?_
                  simp (maxSteps := 1000000) (implicitDefEqProofs := false) (disch := omega) only [push_cast, ↓reduceIte, Nat.reduceEqDiff, reduceCtorEq, decide_true, decide_false, Bool.not_true, Bool.not_false, Option.isNone_some, Option.isNone_none, List.drop_zero, List.drop_succ_cons, List.getElem?_cons_zero, List.getElem?_cons_succ, List.length_cons, List.length_nil, List.take_succ_cons, List.take_zero, Nat.mul_one, Nat.zero_add, Nat.add_zero, Nat.one_mul, Nat.zero_mul, List.getElem?_map, List.getElem?_drop, List.getElem?_take, List.length_map, Option.map_some, List.set_cons_zero, List.set_cons_succ, and_true, true_and, List.flatMap_cons, List.flatMap_nil, Bool.not_not, hcc, hρ]
                  refine wpa_app rfl rfl (by simp [aE4_len]) (aE4_one _) (flat_len aE4_len _) (by omega) (by omega) ht2 ?_
                  simp (maxSteps := 1000000) (implicitDefEqProofs := false) (disch := omega) only [push_cast, ↓reduceIte, Nat.reduceEqDiff, reduceCtorEq, decide_true, decide_false, Bool.not_true, Bool.not_false, Option.isNone_some, Option.isNone_none, List.drop_zero, List.drop_succ_cons, List.getElem?_cons_zero, List.getElem?_cons_succ, List.length_cons, List.length_nil, List.take_succ_cons, List.take_zero, Nat.mul_one, Nat.zero_add, Nat.add_zero, Nat.one_mul, Nat.zero_mul, List.getElem?_map, List.getElem?_drop, List.getElem?_take, List.length_map, Option.map_some, List.set_cons_zero, List.set_cons_succ, and_true, true_and, List.flatMap_cons, List.flatMap_nil, Bool.not_not, hρ]
                  refine hN1 _ _ ?_ (by omega)
                  simp (maxSteps := 1000000) (implicitDefEqProofs := false) (disch := omega) only [push_cast, ↓reduceIte, Nat.reduceEqDiff, reduceCtorEq, decide_true, decide_false, Bool.not_true, Bool.not_false, Option.isNone_some, Option.isNone_none, List.drop_zero, List.drop_succ_cons, List.getElem?_cons_zero, List.getElem?_cons_succ, List.length_cons, List.length_nil, List.take_succ_cons, List.take_zero, Nat.mul_one, Nat.zero_add, Nat.add_zero, Nat.one_mul, Nat.zero_mul, List.getElem?_map, List.getElem?_drop, List.getElem?_take, List.length_map, Option.map_some, List.set_cons_zero, List.set_cons_succ, and_true, true_and, List.flatMap_cons, List.flatMap_nil, Bool.not_not, hρ, app4, hds]
                  exact ⟨by omega, w + 1 + 1, rfl, get_set_eq ht2⟩
        · simp (maxSteps := 1000000) (implicitDefEqProofs := false) (disch := omega) only [push_cast, ↓reduceIte, Nat.reduceEqDiff, reduceCtorEq, decide_true, decide_false, Bool.not_true, Bool.not_false, Option.isNone_some, Option.isNone_none, List.drop_zero, List.drop_succ_cons, List.getElem?_cons_zero, List.getElem?_cons_succ, List.length_cons, List.length_nil, List.take_succ_cons, List.take_zero, Nat.mul_one, Nat.zero_add, Nat.add_zero, Nat.one_mul, Nat.zero_mul, List.getElem?_map, List.getElem?_drop, List.getElem?_take, List.length_map, Option.map_some, List.set_cons_zero, List.set_cons_succ, and_true, true_and, List.flatMap_cons, List.flatMap_nil, Bool.not_not, hρ, hr, aRow, aSlN]
          refine hE' _ _ ?_
          have hkr : k = r.length := by omega
          subst hkr
          have hgs : gEd l n ++ rowEd n q r r.length = gEd l (n + 1) := by rw [gEd_succ, hgr, hq]
          rw [hgs] at h3
          simp (maxSteps := 1000000) (implicitDefEqProofs := false) (disch := omega) only [push_cast, ↓reduceIte, Nat.reduceEqDiff, reduceCtorEq, decide_true, decide_false, Bool.not_true, Bool.not_false, Option.isNone_some, Option.isNone_none, List.drop_zero, List.drop_succ_cons, List.getElem?_cons_zero, List.getElem?_cons_succ, List.length_cons, List.length_nil, List.take_succ_cons, List.take_zero, Nat.mul_one, Nat.zero_add, Nat.add_zero, Nat.one_mul, Nat.zero_mul, List.getElem?_map, List.getElem?_drop, List.getElem?_take, List.length_map, Option.map_some, List.set_cons_zero, List.set_cons_succ, and_true, true_and, List.flatMap_cons, List.flatMap_nil, Bool.not_not, hρ]
          exact ⟨w, h3, ht⟩
      · clear hρ h3 ht ε
        rintro ε σ ⟨hρ, w, h3, ht⟩
        simp (maxSteps := 1000000) (implicitDefEqProofs := false) (disch := omega) only [push_cast, ↓reduceIte, Nat.reduceEqDiff, reduceCtorEq, decide_true, decide_false, Bool.not_true, Bool.not_false, Option.isNone_some, Option.isNone_none, List.drop_zero, List.drop_succ_cons, List.getElem?_cons_zero, List.getElem?_cons_succ, List.length_cons, List.length_nil, List.take_succ_cons, List.take_zero, Nat.mul_one, Nat.zero_add, Nat.add_zero, Nat.one_mul, Nat.zero_mul, List.getElem?_map, List.getElem?_drop, List.getElem?_take, List.length_map, Option.map_some, List.set_cons_zero, List.set_cons_succ, and_true, true_and, List.flatMap_cons, List.flatMap_nil, Bool.not_not, hρ]
        refine hN (n + 1) _ _ ?_ (by omega)
        simp (maxSteps := 1000000) (implicitDefEqProofs := false) (disch := omega) only [push_cast, ↓reduceIte, Nat.reduceEqDiff, reduceCtorEq, decide_true, decide_false, Bool.not_true, Bool.not_false, Option.isNone_some, Option.isNone_none, List.drop_zero, List.drop_succ_cons, List.getElem?_cons_zero, List.getElem?_cons_succ, List.length_cons, List.length_nil, List.take_succ_cons, List.take_zero, Nat.mul_one, Nat.zero_add, Nat.add_zero, Nat.one_mul, Nat.zero_mul, List.getElem?_map, List.getElem?_drop, List.getElem?_take, List.length_map, Option.map_some, List.set_cons_zero, List.set_cons_succ, and_true, true_and, List.flatMap_cons, List.flatMap_nil, Bool.not_not, hρ]
        exact ⟨by omega, w, h3, ht⟩
    · simp (maxSteps := 1000000) (implicitDefEqProofs := false) (disch := omega) only [push_cast, ↓reduceIte, Nat.reduceEqDiff, reduceCtorEq, decide_true, decide_false, Bool.not_true, Bool.not_false, Option.isNone_some, Option.isNone_none, List.drop_zero, List.drop_succ_cons, List.getElem?_cons_zero, List.getElem?_cons_succ, List.length_cons, List.length_nil, List.take_succ_cons, List.take_zero, Nat.mul_one, Nat.zero_add, Nat.add_zero, Nat.one_mul, Nat.zero_mul, List.getElem?_map, List.getElem?_drop, List.getElem?_take, List.length_map, Option.map_some, List.set_cons_zero, List.set_cons_succ, and_true, true_and, List.flatMap_cons, List.flatMap_nil, Bool.not_not, hρ]
      refine hE _ _ ⟨w, ?_⟩
      have : n = l.length := by omega
      subst this
      simp (maxSteps := 1000000) (implicitDefEqProofs := false) (disch := omega) only [push_cast, ↓reduceIte, Nat.reduceEqDiff, reduceCtorEq, decide_true, decide_false, Bool.not_true, Bool.not_false, Option.isNone_some, Option.isNone_none, List.drop_zero, List.drop_succ_cons, List.getElem?_cons_zero, List.getElem?_cons_succ, List.length_cons, List.length_nil, List.take_succ_cons, List.take_zero, Nat.mul_one, Nat.zero_add, Nat.add_zero, Nat.one_mul, Nat.zero_mul, List.getElem?_map, List.getElem?_drop, List.getElem?_take, List.length_map, Option.map_some, List.set_cons_zero, List.set_cons_succ, and_true, true_and, List.flatMap_cons, List.flatMap_nil, Bool.not_not]
      exact h3
  · rintro ε σ ⟨w, h3⟩
    simp (maxSteps := 1000000) (implicitDefEqProofs := false) (disch := omega) only [push_cast, ↓reduceIte, Nat.reduceEqDiff, reduceCtorEq, decide_true, decide_false, Bool.not_true, Bool.not_false, Option.isNone_some, Option.isNone_none, List.drop_zero, List.drop_succ_cons, List.getElem?_cons_zero, List.getElem?_cons_succ, List.length_cons, List.length_nil, List.take_succ_cons, List.take_zero, Nat.mul_one, Nat.zero_add, Nat.add_zero, Nat.one_mul, Nat.zero_mul, List.getElem?_map, List.getElem?_drop, List.getElem?_take, List.length_map, Option.map_some, List.set_cons_zero, List.set_cons_succ, and_true, true_and, List.flatMap_cons, List.flatMap_nil, Bool.not_not, h3]
    exact fin_res [] (aE4s_res _ _ _) (aE4s_pure _)
end Go.Proofs.Ytilofhocodbknaa
