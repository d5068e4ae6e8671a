/- Contracts on annotated values: reach.New. -/
import Derived.Test.YtilofhocodbknaaRxb
import Derived.Test.YtilofhocodbknaaVw
namespace Go.Proofs.Ytilofhocodbknaa
set_option linter.unusedVariables false
set_option linter.unusedSimpArgs false
open Go Go.Kx Go.Proofs

def aU64 (w : Nat) : AV := .v (.int .u64 (w : Int))
def aU64s (ws : List Nat) : AV := aSl aU64 ws
theorem aU64_res (σ : St) (x : Nat) : (aU64 x).res σ = aU64 x := by simp [aU64, AV.res]
theorem aU64s_res (σ : St) (xs : List Nat) : (aU64s xs).res σ = aU64s xs := aSl_res (aU64_res σ) xs .none
theorem aU64_pure (x : Nat) : (aU64 x).pure = true := by simp [aU64, AV.pure]
theorem aU64s_pure (xs : List Nat) : (aU64s xs).pure = true := aSl_pure aU64_pure xs
theorem aU64L_res (σ : St) (ws : List Nat) : AV.resL σ (ws.map aU64) = ws.map aU64 := by
  rw [resL_map, List.map_map]; exact List.map_congr_left fun x _ => aU64_res σ x

abbrev W64 : Nat := 18446744073709551616
def orAt (s : List Nat) (i x : Nat) : List Nat := s.set i (orN (s.getD i 0) x)
def orK (s t : List Nat) : Nat → List Nat
  | 0 => s
  | k + 1 => orAt (orK s t k) k (t.getD k 0)
def addP (M : List (List Nat)) (s : List Nat) (p : Int) : List Nat := orK (orAt s (p.toNat / 64) (pow2 (p.toNat % 64))) (M.getD p.toNat []) (M.getD p.toNat []).length
def newRow (M : List (List Nat)) (i : Nat) (l : List Int) : List Nat := l.foldl (addP M) (List.replicate (i / 64 + 1) 0)
def mkM (xss : List (List Int)) : List (List Nat) := xss.foldl (fun M l => M ++ [newRow M M.length l]) []

def B64 (s : List Nat) : Prop := ∀ w ∈ s, w < 18446744073709551616
theorem B64.getD {s : List Nat} (h : B64 s) (i : Nat) : s.getD i 0 < 18446744073709551616 := by
  rw [List.getD_eq_getElem?_getD]
  cases hx : s[i]? with
  | none => simp
  | some w => exact h w (List.mem_of_getElem? hx)
theorem orN_lt {m n : Nat} (h1 : m < 18446744073709551616) (h2 : n < 18446744073709551616) : orN m n < 18446744073709551616 := Nat.or_lt_two_pow (n := 64) h1 h2
theorem pow2_lt {s : Nat} (h : s < 64) : pow2 s < 18446744073709551616 := by
  unfold pow2
  have : (2 : Nat) ^ s < 2 ^ 64 := Nat.pow_lt_pow_right (by omega) h
  simpa using this
theorem B64.orAt {s : List Nat} (h : B64 s) (i : Nat) {x : Nat} (hx : x < 18446744073709551616) : B64 (orAt s i x) := by
  intro w hw
  rcases List.mem_or_eq_of_mem_set hw with hw | hw
  · exact h w hw
  · rw [hw]; exact orN_lt (h.getD i) hx
theorem B64.orK {s t : List Nat} (h : B64 s) (ht : B64 t) (k : Nat) : B64 (orK s t k) := by
  induction k with
  | zero => exact h
  | succ k ih => exact ih.orAt k (ht.getD k)
theorem orAt_len (s : List Nat) (i x : Nat) : (orAt s i x).length = s.length := by simp [orAt]
theorem orK_len (s t : List Nat) (k : Nat) : (orK s t k).length = s.length := by
  induction k with
  | zero => rfl
  | succ k ih => simp [orK, orAt_len, ih]
theorem addP_len (M : List (List Nat)) (s : List Nat) (p : Int) : (addP M s p).length = s.length := by simp [addP, orK_len, orAt_len]
theorem row_len (M : List (List Nat)) (l : List Int) : ∀ (s : List Nat), (l.foldl (addP M) s).length = s.length := by
  induction l with
  | nil => intro s; rfl
  | cons p l ih => intro s; simp [ih, addP_len]
def B64s (M : List (List Nat)) : Prop := ∀ s ∈ M, B64 s
theorem B64s.getD {M : List (List Nat)} (h : B64s M) (i : Nat) : B64 (M.getD i []) := by
  rw [List.getD_eq_getElem?_getD]
  cases hx : M[i]? with
  | none => intro w hw; simp at hw
  | some w => exact h w (List.mem_of_getElem? hx)
theorem addP_B64 {M : List (List Nat)} (hM : B64s M) {s : List Nat} (hs : B64 s) (p : Int) : B64 (addP M s p) := (hs.orAt _ (pow2_lt (Nat.mod_lt _ (by omega)))).orK (hM.getD _) _
theorem row_B64 {M : List (List Nat)} (hM : B64s M) (l : List Int) : ∀ {s : List Nat}, B64 s → B64 (l.foldl (addP M) s) := by
  induction l with
  | nil => intro s hs; exact hs
  | cons p l ih => intro s hs; exact ih (addP_B64 hM hs p)
theorem mkM_snoc (xss : List (List Int)) (l : List Int) : mkM (xss ++ [l]) = mkM xss ++ [newRow (mkM xss) (mkM xss).length l] := by simp [mkM]
theorem mkM_len (xss : List (List Int)) : (mkM xss).length = xss.length := by
  induction xss using snoc_ind with
  | h0 => rfl
  | hs xs l ih => rw [mkM_snoc]; simp [ih]
theorem B64_rep (n : Nat) : B64 (List.replicate n 0) := by
  intro w hw
  rw [(List.mem_replicate.1 hw).2]; omega
theorem mkM_B64 (xss : List (List Int)) : B64s (mkM xss) := by
  induction xss using snoc_ind with
  | h0 => intro s hs; simp [mkM] at hs
  | hs xs l ih =>
    rw [mkM_snoc]
    intro s hs
    rcases List.mem_append.1 hs with hs | hs
    · exact ih s hs
    · simp only [List.mem_singleton] at hs
      subst hs
      exact row_B64 ih l (B64_rep _)
theorem mkM_at (xss : List (List Int)) : ∀ (i : Nat) (ws : List Nat), (mkM xss)[i]? = some ws → ws.length = i / 64 + 1 := by
  induction xss using snoc_ind with
  | h0 => intro i ws h; simp [mkM] at h
  | hs xs l ih =>
    intro i ws h
    rw [mkM_snoc] at h
    by_cases hi : i < (mkM xs).length
    · rw [List.getElem?_append_left hi] at h; exact ih i ws h
    · rw [List.getElem?_append_right (by omega)] at h
      have : i - (mkM xs).length = 0 := by have := (List.getElem?_eq_some_iff.1 h).1; simp at this; omega
      rw [this] at h
      simp at h
      subst h
      rw [newRow, row_len, List.length_replicate]
      have : i = (mkM xs).length := by omega
      rw [this]
theorem setU {s : List Nat} {i x : Nat} : (s.map aU64).set i (.v (.int .u64 (x : Nat))) = (s.set i x).map aU64 := by rw [List.map_set]; rfl
theorem div64 (a : Nat) : ((a : Int) / 64).toNat = a / 64 := by omega

/-- What lies ahead, as the program holds it. -/
def aReach (M : List (List Nat)) : AV := .ep [.sl M.length (M.map aU64s) .none]
theorem aReach_pure (M : List (List Nat)) : (aReach M).pure = true := by
  have := aSl_pure aU64s_pure M
  simp only [aSl] at this
  simp only [aReach, AV.pure, AV.pureL, Bool.and_true, Bool.true_and] at this ⊢
  exact this
theorem aReach_res (σ : St) (M : List (List Nat)) : (aReach M).res σ = aReach M := by
  have := aSl_res (aU64s_res σ) M .none
  simp only [aSl] at this
  simp only [aReach, AV.res, AV.resL] at this ⊢
  rw [this]

set_option maxHeartbeats 2000000 in
theorem reach_New_a (xss : List (List Int)) (hs : xss.length ≤ 1000000) (hs2 : ∀ l ∈ xss, l.length ≤ 1000000) :
    FnP Try.prog 45 [aInts2 xss] fun a => a = if chk xss = 0 then .tup [aReach (mkM xss), aInt 0] else .tup [.v (.pointer none), aInt (chk xss)] := by
  refine fnP_in K_reach_New mixed rfl (by simp [AV.pureL, aInts2_pure]) ?_
  simp only [S_reach_New]
  simp (maxSteps := 1000000) (implicitDefEqProofs := false) (disch := omega) only [push_cast, ↓reduceIte, Nat.reduceEqDiff, reduceCtorEq, decide_true, decide_false, Bool.not_true, Bool.not_false, Option.isNone_some, Option.isNone_none, List.drop_zero, List.drop_succ_cons, List.getElem?_cons_zero, List.getElem?_cons_succ, List.length_cons, List.length_nil, List.take_succ_cons, List.take_zero, Nat.mul_one, Nat.zero_add, Nat.add_zero, Nat.one_mul, Nat.zero_mul, List.getElem?_map, List.getElem?_drop, List.getElem?_take, List.length_map, Option.map_some, List.set_cons_zero, List.set_cons_succ, and_true, true_and, List.flatMap_cons, List.flatMap_nil, Bool.not_not]
  refine wpa_call (reach_check_a xss hs hs2) ?_
  rintro a rfl
  by_cases hc : chk xss = 0
  · obtain ⟨hl, hok⟩ := chk_zero hc
    simp (maxSteps := 1000000) (implicitDefEqProofs := false) (disch := omega) only [push_cast, ↓reduceIte, Nat.reduceEqDiff, reduceCtorEq, decide_true, decide_false, Bool.not_true, Bool.not_false, Option.isNone_some, Option.isNone_none, List.drop_zero, List.drop_succ_cons, List.getElem?_cons_zero, List.getElem?_cons_succ, List.length_cons, List.length_nil, List.take_succ_cons, List.take_zero, Nat.mul_one, Nat.zero_add, Nat.add_zero, Nat.one_mul, Nat.zero_mul, List.getElem?_map, List.getElem?_drop, List.getElem?_take, List.length_map, Option.map_some, List.set_cons_zero, List.set_cons_succ, and_true, true_and, List.flatMap_cons, List.flatMap_nil, Bool.not_not, aInt, aInts2, aSl, hc]
    refine wpa_box ?_
    simp (maxSteps := 1000000) (implicitDefEqProofs := false) (disch := omega) only [push_cast, ↓reduceIte, Nat.reduceEqDiff, reduceCtorEq, decide_true, decide_false, Bool.not_true, Bool.not_false, Option.isNone_some, Option.isNone_none, List.drop_zero, List.drop_succ_cons, List.getElem?_cons_zero, List.getElem?_cons_succ, List.length_cons, List.length_nil, List.take_succ_cons, List.take_zero, Nat.mul_one, Nat.zero_add, Nat.add_zero, Nat.one_mul, Nat.zero_mul, List.getElem?_map, List.getElem?_drop, List.getElem?_take, List.length_map, Option.map_some, List.set_cons_zero, List.set_cons_succ, and_true, true_and, List.flatMap_cons, List.flatMap_nil, Bool.not_not, AV.cells]
    refine wpa_blg (GU.tokO (i := 0) (j := 0) 1 rfl rfl) (α := Nat) (I := fun k ε σ => (ε 20 = .sl xss.length (xss.map aInts) .none ∧ ε 21 = .v (.int .i64 xss.length) ∧ ε 22 = .v (.int .i64 k) ∧ ε 5 = .ref 0 0 0) ∧ k ≤ xss.length ∧
        ∃ w τ, σ = .obj 0 [.sl k ((mkM (xss.take k)).map aU64s) (.id 1 w 1)] :: .tail w :: τ)
      (μ := fun k => xss.length - k) (Q := fun ε σ => ε 5 = .ref 0 0 0 ∧ ∃ w τ, σ = .obj 0 [.sl xss.length ((mkM xss).map aU64s) (.id 1 w 1)] :: .tail w :: τ) (x := 0) ?_ ?_ ?_
    · simp (maxSteps := 1000000) (implicitDefEqProofs := false) (disch := omega) only [push_cast, ↓reduceIte, Nat.reduceEqDiff, reduceCtorEq, decide_true, decide_false, Bool.not_true, Bool.not_false, Option.isNone_some, Option.isNone_none, List.drop_zero, List.drop_succ_cons, List.getElem?_cons_zero, List.getElem?_cons_succ, List.length_cons, List.length_nil, List.take_succ_cons, List.take_zero, Nat.mul_one, Nat.zero_add, Nat.add_zero, Nat.one_mul, Nat.zero_mul, List.getElem?_map, List.getElem?_drop, List.getElem?_take, List.length_map, Option.map_some, List.set_cons_zero, List.set_cons_succ, and_true, true_and, List.flatMap_cons, List.flatMap_nil, Bool.not_not]
      exact ⟨by omega, 0, [], rfl⟩
    · rintro k ε σ N E ⟨hρ, hk, w, τ, rfl⟩ hN hE
      simp only [S_reach_New_L1]
      by_cases hlt : k < xss.length
      · obtain ⟨l, hl⟩ := at_lt hlt
        have hll := hs2 l (List.mem_of_getElem? hl)
        have hMl : (mkM (xss.take k)).length = k := by rw [mkM_len]; simp; omega
        have hMB := mkM_B64 (xss.take k)
        obtain ⟨Z, hZ⟩ : ∃ Z : Nat, Z = k / 64 + 1 := ⟨_, rfl⟩
        have hkq : ((k : Int) / 64 + 1) = (Z : Int) := by omega
        simp (maxSteps := 1000000) (implicitDefEqProofs := false) (disch := omega) only [push_cast, ↓reduceIte, Nat.reduceEqDiff, reduceCtorEq, decide_true, decide_false, Bool.not_true, Bool.not_false, Option.isNone_some, Option.isNone_none, List.drop_zero, List.drop_succ_cons, List.getElem?_cons_zero, List.getElem?_cons_succ, List.length_cons, List.length_nil, List.take_succ_cons, List.take_zero, Nat.mul_one, Nat.zero_add, Nat.add_zero, Nat.one_mul, Nat.zero_mul, List.getElem?_map, List.getElem?_drop, List.getElem?_take, List.length_map, Option.map_some, List.set_cons_zero, List.set_cons_succ, and_true, true_and, List.flatMap_cons, List.flatMap_nil, Bool.not_not, hρ, hl, aInts, aSl, hkq]
        refine wpa_mks rfl (by omega) (by omega) ?_
        simp (maxSteps := 1000000) (implicitDefEqProofs := false) (disch := omega) only [push_cast, ↓reduceIte, Nat.reduceEqDiff, reduceCtorEq, decide_true, decide_false, Bool.not_true, Bool.not_false, Option.isNone_some, Option.isNone_none, List.drop_zero, List.drop_succ_cons, List.getElem?_cons_zero, List.getElem?_cons_succ, List.length_cons, List.length_nil, List.take_succ_cons, List.take_zero, Nat.mul_one, Nat.zero_add, Nat.add_zero, Nat.one_mul, Nat.zero_mul, List.getElem?_map, List.getElem?_drop, List.getElem?_take, List.length_map, Option.map_some, List.set_cons_zero, List.set_cons_succ, and_true, true_and, List.flatMap_cons, List.flatMap_nil, Bool.not_not, repA_one, hρ]
        refine wpa_bl (α := Nat) (I := fun t ε σ => (ε 20 = .sl xss.length (xss.map aInts) .none ∧ ε 21 = .v (.int .i64 xss.length) ∧ ε 22 = .v (.int .i64 k) ∧ ε 5 = .ref 0 0 0 ∧ ε 8 = .ms (τ.length + 1 + 1) 0 0 Z 1 ∧
            ε 31 = .sl l.length (l.map aInt) .none ∧ ε 32 = .v (.int .i64 l.length) ∧ ε 33 = .v (.int .i64 t)) ∧ t ≤ l.length ∧
            σ = .obj 0 [.sl k ((mkM (xss.take k)).map aU64s) (.id 1 w 1)] :: .tail w :: (τ ++ [.obj 0 (((l.take t).foldl (addP (mkM (xss.take k))) (List.replicate Z 0)).map aU64)]))
          (μ := fun t => l.length - t) (Q := fun ε σ => (ε 20 = .sl xss.length (xss.map aInts) .none ∧ ε 21 = .v (.int .i64 xss.length) ∧ ε 22 = .v (.int .i64 k) ∧ ε 5 = .ref 0 0 0 ∧ ε 8 = .ms (τ.length + 1 + 1) 0 0 Z 1) ∧
            σ = .obj 0 [.sl k ((mkM (xss.take k)).map aU64s) (.id 1 w 1)] :: .tail w :: (τ ++ [.obj 0 ((newRow (mkM (xss.take k)) k l).map aU64)])) (x := 0) ?_ ?_ ?_
        · simp (maxSteps := 1000000) (implicitDefEqProofs := false) (disch := omega) only [push_cast, ↓reduceIte, Nat.reduceEqDiff, reduceCtorEq, decide_true, decide_false, Bool.not_true, Bool.not_false, Option.isNone_some, Option.isNone_none, List.drop_zero, List.drop_succ_cons, List.getElem?_cons_zero, List.getElem?_cons_succ, List.length_cons, List.length_nil, List.take_succ_cons, List.take_zero, Nat.mul_one, Nat.zero_add, Nat.add_zero, Nat.one_mul, Nat.zero_mul, List.getElem?_map, List.getElem?_drop, List.getElem?_take, List.length_map, Option.map_some, List.set_cons_zero, List.set_cons_succ, and_true, true_and, List.flatMap_cons, List.flatMap_nil, Bool.not_not, hρ]
          exact ⟨by omega, by simp [aU64]⟩
        · rintro t ε σ N' E' ⟨hρ, ht, rfl⟩ hN' hE'
          simp only [S_reach_New_L2]
          by_cases htl : t < l.length
          · obtain ⟨p, hp⟩ := at_lt htl
            have hpk := okB_at hok hl p (List.mem_of_getElem? hp)
            obtain ⟨q, rfl⟩ : ∃ q : Nat, p = q := ⟨p.toNat, by omega⟩
            have hqk : q < k := by omega
            obtain ⟨s, hsdef⟩ : ∃ s, s = (l.take t).foldl (addP (mkM (xss.take k))) (List.replicate Z 0) := ⟨_, rfl⟩
            have hsl : s.length = Z := by rw [hsdef, row_len, List.length_replicate]
            have hsB : B64 s := by rw [hsdef]; exact row_B64 hMB _ (B64_rep _)
            obtain ⟨M, hM⟩ : ∃ M, M = mkM (xss.take k) := ⟨_, rfl⟩
            rw [← hsdef, ← hM]
            rw [← hM] at hMl hMB hsdef
            obtain ⟨v, hv⟩ := at_lt (l := s) (k := q / 64) (by omega)
            obtain ⟨u, hu⟩ := at_lt (l := M) (k := q) (by omega)
            have hv64 := hsB v (List.mem_of_getElem? hv)
            have hp64 : pow2 (q % 64) < 18446744073709551616 := pow2_lt (Nat.mod_lt _ (by omega))
            have huB := hMB u (List.mem_of_getElem? hu)
            have hul : u.length = q / 64 + 1 := mkM_at (xss.take k) q u (by rw [← hM]; exact hu)
            simp (maxSteps := 1000000) (implicitDefEqProofs := false) (disch := omega) only [push_cast, ↓reduceIte, Nat.reduceEqDiff, reduceCtorEq, decide_true, decide_false, Bool.not_true, Bool.not_false, Option.isNone_some, Option.isNone_none, List.drop_zero, List.drop_succ_cons, List.getElem?_cons_zero, List.getElem?_cons_succ, List.length_cons, List.length_nil, List.take_succ_cons, List.take_zero, Nat.mul_one, Nat.zero_add, Nat.add_zero, Nat.one_mul, Nat.zero_mul, List.getElem?_map, List.getElem?_drop, List.getElem?_take, List.length_map, Option.map_some, List.set_cons_zero, List.set_cons_succ, and_true, true_and, List.flatMap_cons, List.flatMap_nil, Bool.not_not, hρ, hp, aInt, div64, mod64, hv, aU64]
            refine wpa_st1 rfl rfl (by simp only [List.getElem?_cons_succ, at_snoc]; rfl) (by simp; omega) ?_
            simp (maxSteps := 1000000) (implicitDefEqProofs := false) (disch := omega) only [push_cast, ↓reduceIte, Nat.reduceEqDiff, reduceCtorEq, decide_true, decide_false, Bool.not_true, Bool.not_false, Option.isNone_some, Option.isNone_none, List.drop_zero, List.drop_succ_cons, List.getElem?_cons_zero, List.getElem?_cons_succ, List.length_cons, List.length_nil, List.take_succ_cons, List.take_zero, Nat.mul_one, Nat.zero_add, Nat.add_zero, Nat.one_mul, Nat.zero_mul, List.getElem?_map, List.getElem?_drop, List.getElem?_take, List.length_map, Option.map_some, List.set_cons_zero, List.set_cons_succ, and_true, true_and, List.flatMap_cons, List.flatMap_nil, Bool.not_not, hρ, hu, setU, aU64s, aSl]
            have e1 : orAt s (q / 64) (pow2 (q % 64)) = s.set (q / 64) (orN v (pow2 (q % 64))) := by simp [orAt, List.getD_eq_getElem?_getD, hv]
            rw [← e1]
            refine wpa_bl (α := Nat) (I := fun r ε σ => (ε 20 = .sl xss.length (xss.map aInts) .none ∧ ε 21 = .v (.int .i64 xss.length) ∧ ε 22 = .v (.int .i64 k) ∧ ε 5 = .ref 0 0 0 ∧ ε 8 = .ms (τ.length + 1 + 1) 0 0 Z 1 ∧
                ε 31 = .sl l.length (l.map aInt) .none ∧ ε 32 = .v (.int .i64 l.length) ∧ ε 33 = .v (.int .i64 t) ∧ ε 53 = .sl u.length (u.map aU64) .none ∧ ε 54 = .v (.int .i64 u.length) ∧ ε 55 = .v (.int .i64 r)) ∧ r ≤ u.length ∧
                σ = .obj 0 [.sl k (M.map aU64s) (.id 1 w 1)] :: .tail w :: (τ ++ [.obj 0 ((orK (orAt s (q / 64) (pow2 (q % 64))) u r).map aU64)]))
              (μ := fun r => u.length - r) (Q := fun ε σ => (ε 20 = .sl xss.length (xss.map aInts) .none ∧ ε 21 = .v (.int .i64 xss.length) ∧ ε 22 = .v (.int .i64 k) ∧ ε 5 = .ref 0 0 0 ∧ ε 8 = .ms (τ.length + 1 + 1) 0 0 Z 1 ∧
                ε 31 = .sl l.length (l.map aInt) .none ∧ ε 32 = .v (.int .i64 l.length) ∧ ε 33 = .v (.int .i64 t)) ∧
                σ = .obj 0 [.sl k (M.map aU64s) (.id 1 w 1)] :: .tail w :: (τ ++ [.obj 0 ((orK (orAt s (q / 64) (pow2 (q % 64))) u u.length).map aU64)])) (x := 0) ?_ ?_ ?_
            · simp (maxSteps := 1000000) (implicitDefEqProofs := false) (disch := omega) only [push_cast, ↓reduceIte, Nat.reduceEqDiff, reduceCtorEq, decide_true, decide_false, Bool.not_true, Bool.not_false, Option.isNone_some, Option.isNone_none, List.drop_zero, List.drop_succ_cons, List.getElem?_cons_zero, List.getElem?_cons_succ, List.length_cons, List.length_nil, List.take_succ_cons, List.take_zero, Nat.mul_one, Nat.zero_add, Nat.add_zero, Nat.one_mul, Nat.zero_mul, List.getElem?_map, List.getElem?_drop, List.getElem?_take, List.length_map, Option.map_some, List.set_cons_zero, List.set_cons_succ, and_true, true_and, List.flatMap_cons, List.flatMap_nil, Bool.not_not, hρ, orK]
              omega
            · rintro r ε σ N3 E3 ⟨hρ, hr, rfl⟩ hN3 hE3
              simp only [S_reach_New_L3]
              by_cases hrl : r < u.length
              · obtain ⟨x, hx⟩ := at_lt hrl
                have hlen3 : (orK (orAt s (q / 64) (pow2 (q % 64))) u r).length = Z := by rw [orK_len, orAt_len, hsl]
                obtain ⟨y, hy⟩ := at_lt (l := orK (orAt s (q / 64) (pow2 (q % 64))) u r) (k := r) (by omega)
                have hx64 := huB x (List.mem_of_getElem? hx)
                have hy64 := ((hsB.orAt (q / 64) hp64).orK huB r) y (List.mem_of_getElem? hy)
                simp (maxSteps := 1000000) (implicitDefEqProofs := false) (disch := omega) only [push_cast, ↓reduceIte, Nat.reduceEqDiff, reduceCtorEq, decide_true, decide_false, Bool.not_true, Bool.not_false, Option.isNone_some, Option.isNone_none, List.drop_zero, List.drop_succ_cons, List.getElem?_cons_zero, List.getElem?_cons_succ, List.length_cons, List.length_nil, List.take_succ_cons, List.take_zero, Nat.mul_one, Nat.zero_add, Nat.add_zero, Nat.one_mul, Nat.zero_mul, List.getElem?_map, List.getElem?_drop, List.getElem?_take, List.length_map, Option.map_some, List.set_cons_zero, List.set_cons_succ, and_true, true_and, List.flatMap_cons, List.flatMap_nil, Bool.not_not, hρ, hx, hy, aU64]
                refine wpa_st1 rfl rfl (by simp only [List.getElem?_cons_succ, at_snoc]; rfl) (by simp; omega) ?_
                simp (maxSteps := 1000000) (implicitDefEqProofs := false) (disch := omega) only [push_cast, ↓reduceIte, Nat.reduceEqDiff, reduceCtorEq, decide_true, decide_false, Bool.not_true, Bool.not_false, Option.isNone_some, Option.isNone_none, List.drop_zero, List.drop_succ_cons, List.getElem?_cons_zero, List.getElem?_cons_succ, List.length_cons, List.length_nil, List.take_succ_cons, List.take_zero, Nat.mul_one, Nat.zero_add, Nat.add_zero, Nat.one_mul, Nat.zero_mul, List.getElem?_map, List.getElem?_drop, List.getElem?_take, List.length_map, Option.map_some, List.set_cons_zero, List.set_cons_succ, and_true, true_and, List.flatMap_cons, List.flatMap_nil, Bool.not_not, hρ, setU]
                refine hN3 (r + 1) _ _ ?_ (by omega)
                simp (maxSteps := 1000000) (implicitDefEqProofs := false) (disch := omega) only [push_cast, ↓reduceIte, Nat.reduceEqDiff, reduceCtorEq, decide_true, decide_false, Bool.not_true, Bool.not_false, Option.isNone_some, Option.isNone_none, List.drop_zero, List.drop_succ_cons, List.getElem?_cons_zero, List.getElem?_cons_succ, List.length_cons, List.length_nil, List.take_succ_cons, List.take_zero, Nat.mul_one, Nat.zero_add, Nat.add_zero, Nat.one_mul, Nat.zero_mul, List.getElem?_map, List.getElem?_drop, List.getElem?_take, List.length_map, Option.map_some, List.set_cons_zero, List.set_cons_succ, and_true, true_and, List.flatMap_cons, List.flatMap_nil, Bool.not_not, hρ]
                refine ⟨by omega, ?_⟩
                have e2 : orK (orAt s (q / 64) (pow2 (q % 64))) u (r + 1) = (orK (orAt s (q / 64) (pow2 (q % 64))) u r).set r (orN y x) := by
                  simp [orK, orAt, List.getD_eq_getElem?_getD, hx]
                  rw [show (orK (s.set (q / 64) (orN (s[q / 64]?.getD 0) (pow2 (q % 64)))) u r)[r]? = some y from by simpa [orAt, List.getD_eq_getElem?_getD] using hy]
                  rfl
                rw [e2]
              · simp (maxSteps := 1000000) (implicitDefEqProofs := false) (disch := omega) only [push_cast, ↓reduceIte, Nat.reduceEqDiff, reduceCtorEq, decide_true, decide_false, Bool.not_true, Bool.not_false, Option.isNone_some, Option.isNone_none, List.drop_zero, List.drop_succ_cons, List.getElem?_cons_zero, List.getElem?_cons_succ, List.length_cons, List.length_nil, List.take_succ_cons, List.take_zero, Nat.mul_one, Nat.zero_add, Nat.add_zero, Nat.one_mul, Nat.zero_mul, List.getElem?_map, List.getElem?_drop, List.getElem?_take, List.length_map, Option.map_some, List.set_cons_zero, List.set_cons_succ, and_true, true_and, List.flatMap_cons, List.flatMap_nil, Bool.not_not, hρ]
                refine hE3 _ _ ?_
                simp (maxSteps := 1000000) (implicitDefEqProofs := false) (disch := omega) only [push_cast, ↓reduceIte, Nat.reduceEqDiff, reduceCtorEq, decide_true, decide_false, Bool.not_true, Bool.not_false, Option.isNone_some, Option.isNone_none, List.drop_zero, List.drop_succ_cons, List.getElem?_cons_zero, List.getElem?_cons_succ, List.length_cons, List.length_nil, List.take_succ_cons, List.take_zero, Nat.mul_one, Nat.zero_add, Nat.add_zero, Nat.one_mul, Nat.zero_mul, List.getElem?_map, List.getElem?_drop, List.getElem?_take, List.length_map, Option.map_some, List.set_cons_zero, List.set_cons_succ, and_true, true_and, List.flatMap_cons, List.flatMap_nil, Bool.not_not, hρ]
                have : r = u.length := by omega
                subst this; rfl
            · rintro ε σ ⟨hρ, rfl⟩
              simp (maxSteps := 1000000) (implicitDefEqProofs := false) (disch := omega) only [push_cast, ↓reduceIte, Nat.reduceEqDiff, reduceCtorEq, decide_true, decide_false, Bool.not_true, Bool.not_false, Option.isNone_some, Option.isNone_none, List.drop_zero, List.drop_succ_cons, List.getElem?_cons_zero, List.getElem?_cons_succ, List.length_cons, List.length_nil, List.take_succ_cons, List.take_zero, Nat.mul_one, Nat.zero_add, Nat.add_zero, Nat.one_mul, Nat.zero_mul, List.getElem?_map, List.getElem?_drop, List.getElem?_take, List.length_map, Option.map_some, List.set_cons_zero, List.set_cons_succ, and_true, true_and, List.flatMap_cons, List.flatMap_nil, Bool.not_not, hρ]
              refine hN' (t + 1) _ _ ?_ (by omega)
              simp (maxSteps := 1000000) (implicitDefEqProofs := false) (disch := omega) only [push_cast, ↓reduceIte, Nat.reduceEqDiff, reduceCtorEq, decide_true, decide_false, Bool.not_true, Bool.not_false, Option.isNone_some, Option.isNone_none, List.drop_zero, List.drop_succ_cons, List.getElem?_cons_zero, List.getElem?_cons_succ, List.length_cons, List.length_nil, List.take_succ_cons, List.take_zero, Nat.mul_one, Nat.zero_add, Nat.add_zero, Nat.one_mul, Nat.zero_mul, List.getElem?_map, List.getElem?_drop, List.getElem?_take, List.length_map, Option.map_some, List.set_cons_zero, List.set_cons_succ, and_true, true_and, List.flatMap_cons, List.flatMap_nil, Bool.not_not, hρ]
              refine ⟨by omega, ?_⟩
              have e3 : addP M s (q : Int) = orK (orAt s (q / 64) (pow2 (q % 64))) u u.length := by
                simp [addP, List.getD_eq_getElem?_getD, hu]
              rw [take_succ_at hp, List.foldl_append, ← hM, ← hsdef, ← e3]
              rfl
          · simp (maxSteps := 1000000) (implicitDefEqProofs := false) (disch := omega) only [push_cast, ↓reduceIte, Nat.reduceEqDiff, reduceCtorEq, decide_true, decide_false, Bool.not_true, Bool.not_false, Option.isNone_some, Option.isNone_none, List.drop_zero, List.drop_succ_cons, List.getElem?_cons_zero, List.getElem?_cons_succ, List.length_cons, List.length_nil, List.take_succ_cons, List.take_zero, Nat.mul_one, Nat.zero_add, Nat.add_zero, Nat.one_mul, Nat.zero_mul, List.getElem?_map, List.getElem?_drop, List.getElem?_take, List.length_map, Option.map_some, List.set_cons_zero, List.set_cons_succ, and_true, true_and, List.flatMap_cons, List.flatMap_nil, Bool.not_not, hρ]
            refine hE' _ _ ?_
            simp (maxSteps := 1000000) (implicitDefEqProofs := false) (disch := omega) only [push_cast, ↓reduceIte, Nat.reduceEqDiff, reduceCtorEq, decide_true, decide_false, Bool.not_true, Bool.not_false, Option.isNone_some, Option.isNone_none, List.drop_zero, List.drop_succ_cons, List.getElem?_cons_zero, List.getElem?_cons_succ, List.length_cons, List.length_nil, List.take_succ_cons, List.take_zero, Nat.mul_one, Nat.zero_add, Nat.add_zero, Nat.one_mul, Nat.zero_mul, List.getElem?_map, List.getElem?_drop, List.getElem?_take, List.length_map, Option.map_some, List.set_cons_zero, List.set_cons_succ, and_true, true_and, List.flatMap_cons, List.flatMap_nil, Bool.not_not, hρ]
            rw [List.take_of_length_le (l := l) (by omega), newRow, hZ]
        · rintro ε σ ⟨hρ, rfl⟩
          simp (maxSteps := 1000000) (implicitDefEqProofs := false) (disch := omega) only [push_cast, ↓reduceIte, Nat.reduceEqDiff, reduceCtorEq, decide_true, decide_false, Bool.not_true, Bool.not_false, Option.isNone_some, Option.isNone_none, List.drop_zero, List.drop_succ_cons, List.getElem?_cons_zero, List.getElem?_cons_succ, List.length_cons, List.length_nil, List.take_succ_cons, List.take_zero, Nat.mul_one, Nat.zero_add, Nat.add_zero, Nat.one_mul, Nat.zero_mul, List.getElem?_map, List.getElem?_drop, List.getElem?_take, List.length_map, Option.map_some, List.set_cons_zero, List.set_cons_succ, and_true, true_and, List.flatMap_cons, List.flatMap_nil, Bool.not_not, hρ]
          refine wpa_frz1 (by simp only [List.getElem?_cons_succ, at_snoc]; rfl) (aU64L_res _ _) (by simp [newRow, row_len, hZ]) ?_
          refine wpa_bsl (by simp [AV.cells]) (by simp) ?_
          simp (maxSteps := 1000000) (implicitDefEqProofs := false) (disch := omega) only [push_cast, ↓reduceIte, Nat.reduceEqDiff, reduceCtorEq, decide_true, decide_false, Bool.not_true, Bool.not_false, Option.isNone_some, Option.isNone_none, List.drop_zero, List.drop_succ_cons, List.getElem?_cons_zero, List.getElem?_cons_succ, List.length_cons, List.length_nil, List.take_succ_cons, List.take_zero, Nat.mul_one, Nat.zero_add, Nat.add_zero, Nat.one_mul, Nat.zero_mul, List.getElem?_map, List.getElem?_drop, List.getElem?_take, List.length_map, Option.map_some, List.set_cons_zero, List.set_cons_succ, and_true, true_and, List.flatMap_cons, List.flatMap_nil, Bool.not_not, hρ]
          refine wpa_app rfl rfl rfl rfl (by simp [hMl]) (by omega) (by omega) rfl ?_
          simp (maxSteps := 1000000) (implicitDefEqProofs := false) (disch := omega) only [push_cast, ↓reduceIte, Nat.reduceEqDiff, reduceCtorEq, decide_true, decide_false, Bool.not_true, Bool.not_false, Option.isNone_some, Option.isNone_none, List.drop_zero, List.drop_succ_cons, List.getElem?_cons_zero, List.getElem?_cons_succ, List.length_cons, List.length_nil, List.take_succ_cons, List.take_zero, Nat.mul_one, Nat.zero_add, Nat.add_zero, Nat.one_mul, Nat.zero_mul, List.getElem?_map, List.getElem?_drop, List.getElem?_take, List.length_map, Option.map_some, List.set_cons_zero, List.set_cons_succ, and_true, true_and, List.flatMap_cons, List.flatMap_nil, Bool.not_not, hρ]
          refine wpa_st1 rfl rfl rfl (by simp) ?_
          simp (maxSteps := 1000000) (implicitDefEqProofs := false) (disch := omega) only [push_cast, ↓reduceIte, Nat.reduceEqDiff, reduceCtorEq, decide_true, decide_false, Bool.not_true, Bool.not_false, Option.isNone_some, Option.isNone_none, List.drop_zero, List.drop_succ_cons, List.getElem?_cons_zero, List.getElem?_cons_succ, List.length_cons, List.length_nil, List.take_succ_cons, List.take_zero, Nat.mul_one, Nat.zero_add, Nat.add_zero, Nat.one_mul, Nat.zero_mul, List.getElem?_map, List.getElem?_drop, List.getElem?_take, List.length_map, Option.map_some, List.set_cons_zero, List.set_cons_succ, and_true, true_and, List.flatMap_cons, List.flatMap_nil, Bool.not_not, hρ]
          refine hN (k + 1) _ _ ?_ (by omega)
          simp (maxSteps := 1000000) (implicitDefEqProofs := false) (disch := omega) only [push_cast, ↓reduceIte, Nat.reduceEqDiff, reduceCtorEq, decide_true, decide_false, Bool.not_true, Bool.not_false, Option.isNone_some, Option.isNone_none, List.drop_zero, List.drop_succ_cons, List.getElem?_cons_zero, List.getElem?_cons_succ, List.length_cons, List.length_nil, List.take_succ_cons, List.take_zero, Nat.mul_one, Nat.zero_add, Nat.add_zero, Nat.one_mul, Nat.zero_mul, List.getElem?_map, List.getElem?_drop, List.getElem?_take, List.length_map, Option.map_some, List.set_cons_zero, List.set_cons_succ, and_true, true_and, List.flatMap_cons, List.flatMap_nil, Bool.not_not, hρ]
          refine ⟨by omega, w + 1, τ ++ [.frz 0 ((newRow (mkM (xss.take k)) k l).map aU64)], ?_⟩
          rw [take_succ_at hl, mkM_snoc, List.map_append, hMl]
          have : (newRow (mkM (xss.take k)) k l).length = Z := by rw [newRow, row_len, List.length_replicate, hZ]
          simp [aU64s, aSl, this]
      · simp (maxSteps := 1000000) (implicitDefEqProofs := false) (disch := omega) only [push_cast, ↓reduceIte, Nat.reduceEqDiff, reduceCtorEq, decide_true, decide_false, Bool.not_true, Bool.not_false, Option.isNone_some, Option.isNone_none, List.drop_zero, List.drop_succ_cons, List.getElem?_cons_zero, List.getElem?_cons_succ, List.length_cons, List.length_nil, List.take_succ_cons, List.take_zero, Nat.mul_one, Nat.zero_add, Nat.add_zero, Nat.one_mul, Nat.zero_mul, List.getElem?_map, List.getElem?_drop, List.getElem?_take, List.length_map, Option.map_some, List.set_cons_zero, List.set_cons_succ, and_true, true_and, List.flatMap_cons, List.flatMap_nil, Bool.not_not, hρ]
        refine hE _ _ ?_
        simp (maxSteps := 1000000) (implicitDefEqProofs := false) (disch := omega) only [push_cast, ↓reduceIte, Nat.reduceEqDiff, reduceCtorEq, decide_true, decide_false, Bool.not_true, Bool.not_false, Option.isNone_some, Option.isNone_none, List.drop_zero, List.drop_succ_cons, List.getElem?_cons_zero, List.getElem?_cons_succ, List.length_cons, List.length_nil, List.take_succ_cons, List.take_zero, Nat.mul_one, Nat.zero_add, Nat.add_zero, Nat.one_mul, Nat.zero_mul, List.getElem?_map, List.getElem?_drop, List.getElem?_take, List.length_map, Option.map_some, List.set_cons_zero, List.set_cons_succ, and_true, true_and, List.flatMap_cons, List.flatMap_nil, Bool.not_not, hρ]
        have : k = xss.length := by omega
        subst this
        rw [List.take_length]
        exact ⟨w, τ, rfl⟩
    · rintro ε σ ⟨hρ, w, τ, rfl⟩
      simp (maxSteps := 1000000) (implicitDefEqProofs := false) (disch := omega) only [push_cast, ↓reduceIte, Nat.reduceEqDiff, reduceCtorEq, decide_true, decide_false, Bool.not_true, Bool.not_false, Option.isNone_some, Option.isNone_none, List.drop_zero, List.drop_succ_cons, List.getElem?_cons_zero, List.getElem?_cons_succ, List.length_cons, List.length_nil, List.take_succ_cons, List.take_zero, Nat.mul_one, Nat.zero_add, Nat.add_zero, Nat.one_mul, Nat.zero_mul, List.getElem?_map, List.getElem?_drop, List.getElem?_take, List.length_map, Option.map_some, List.set_cons_zero, List.set_cons_succ, and_true, true_and, List.flatMap_cons, List.flatMap_nil, Bool.not_not, hρ]
      refine fin_tup2 [0] (c := aReach (mkM xss)) (d := aInt 0) ?_ (by simp [AV.res, aInt]) (aReach_pure _) (aInt_pure 0) rfl
      have := aSl_res (aU64s_res (.obj 0 [.sl xss.length ((mkM xss).map aU64s) (.id 1 w 1)] :: .tail w :: τ)) (mkM xss) (.id 1 w 1)
      rw [mkM_len] at this
      simp [Go.Kx.freeze, freeze1, AV.res, AV.resL, aReach, mkM_len] at this ⊢
      simp [AV.res, aSl, mkM_len] at this ⊢
      exact this
  · simp (maxSteps := 1000000) (implicitDefEqProofs := false) (disch := omega) only [push_cast, ↓reduceIte, Nat.reduceEqDiff, reduceCtorEq, decide_true, decide_false, Bool.not_true, Bool.not_false, Option.isNone_some, Option.isNone_none, List.drop_zero, List.drop_succ_cons, List.getElem?_cons_zero, List.getElem?_cons_succ, List.length_cons, List.length_nil, List.take_succ_cons, List.take_zero, Nat.mul_one, Nat.zero_add, Nat.add_zero, Nat.one_mul, Nat.zero_mul, List.getElem?_map, List.getElem?_drop, List.getElem?_take, List.length_map, Option.map_some, List.set_cons_zero, List.set_cons_succ, and_true, true_and, List.flatMap_cons, List.flatMap_nil, Bool.not_not, aInt, hc]
    exact fin_vv rfl
end Go.Proofs.Ytilofhocodbknaa
