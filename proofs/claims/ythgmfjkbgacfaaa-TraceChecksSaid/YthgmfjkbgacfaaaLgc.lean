/- Log: an iteration's last event; how many there are of a kind. -/
import Derived.Test.YthgmfjkbgacfaaaLgb
namespace Go.Proofs.Ythgmfjkbgacfaaa
set_option linter.unusedVariables false
set_option linter.unusedSimpArgs false
open Go Go.Kx Go.Proofs

def ofLp (n : Int) (e : Ev) : Bool := decide (e.lp = n)
def ofK (n : Int) (e : Ev) : Bool := decide (e.k = n)
theorem ofLp_it (l : List Ev) (n : Int) : ItP Try.prog 111 [.ep [aLg l], .ep [aLike 81 n]] (tlA (ofLp n) l) :=
  those1_it l (by kernel_rfl) (by simp [AV.pureL, AV.pure, aInt]) fun e => log_Of1_a e n
theorem ofK_it (l : List Ev) (n : Int) : ItP Try.prog 111 [.ep [aLg l], .ep [aLike 79 n]] (tlA (ofK n) l) :=
  those1_it l (by kernel_rfl) (by simp [AV.pureL, AV.pure, aInt]) fun e => log_Count1_a e n
theorem tlA_len (p : Ev → Bool) (l : List Ev) : (tlA p l).length = (tl p l).length := by simp [tlA]
theorem tlA_two (p : Ev → Bool) (l : List Ev) : ∀ (i : Nat) (v : List AV), (tlA p l)[i]? = some v → v.length = [(0 : Nat), 0].length := by
  intro i v h
  unfold tlA at h
  rw [List.getElem?_map, Option.map_eq_some_iff] at h
  obtain ⟨x, _, rfl⟩ := h
  rfl
theorem tlA_at {p : Ev → Bool} {l : List Ev} {i : Nat} {v : List AV} (h : (tlA p l)[i]? = some v) : ∃ x, (tl p l)[i]? = some x ∧ v = [.v (.int .i64 (x.2 : Int)), .agg (aEv x.1)] := by
  unfold tlA at h
  rw [List.getElem?_map, Option.map_eq_some_iff] at h
  obtain ⟨x, hx, rfl⟩ := h
  exact ⟨x, hx, rfl⟩
set_option maxHeartbeats 1000000 in
theorem log_Count_a (l : List Ev) (n : Int) (hl : l.length ≤ 9223372036854775807) : FnP Try.prog 44 [aLg l, aInt n] fun a => a = aInt (tl (ofK n) l).length := by
  refine fnP_in K_log_Log_Count mixed rfl (by simp [AV.pureL, aLg_pure, AV.pure, aInt]) ?_
  simp only [S_log_Log_Count]
  simp (maxSteps := 1000000) (implicitDefEqProofs := false) (disch := omega) only [push_cast, ↓reduceIte, Nat.reduceEqDiff, reduceCtorEq, wz]
  refine wpa_box ?_
  simp (maxSteps := 1000000) (implicitDefEqProofs := false) (disch := omega) only [push_cast, ↓reduceIte, Nat.reduceEqDiff, reduceCtorEq, wz]
  refine wpa_new ?_
  simp (maxSteps := 1000000) (implicitDefEqProofs := false) (disch := omega) only [push_cast, ↓reduceIte, Nat.reduceEqDiff, reduceCtorEq, wz]
  refine wpa_st1 rfl rfl rfl (by simp) ?_
  simp (maxSteps := 1000000) (implicitDefEqProofs := false) (disch := omega) only [push_cast, ↓reduceIte, Nat.reduceEqDiff, reduceCtorEq, wz]
  refine wpa_callw [0] [true, true] (log_those_a l (aLike 79 n) (aLike_pure _ _) (aLike_res _ _) rfl) ?_ ?_
  · simp [weak, aLg_res, AV.res, AV.resL, Go.Kx.freeze, freeze1, aInt, AV.cells, Value.cells, aLike]
  rintro a rfl
  simp (maxSteps := 1000000) (implicitDefEqProofs := false) (disch := omega) only [push_cast, ↓reduceIte, Nat.reduceEqDiff, reduceCtorEq, wz, aThose]
  have htl : (tl (ofK n) l).length ≤ l.length := by
    unfold tl
    exact Nat.le_trans (List.length_filter_le _ _) (by simp)
  refine wpa_rf (GU.refl _ _) (xs := [.ep [aLg l], .ep [aLike 79 n]]) (I := fun k σ => ∃ o τ, σ = o :: .obj 0 [aInt k] :: τ) ?_ (by kernel_rfl) (ofK_it l n) (tlA_two _ _) ?_ ?_ ?_
  · simp (maxSteps := 1000000) (implicitDefEqProofs := false) (disch := omega) only [push_cast, ↓reduceIte, Nat.reduceEqDiff, reduceCtorEq, wz]
  · simp (maxSteps := 1000000) (implicitDefEqProofs := false) (disch := omega) only [push_cast, ↓reduceIte, Nat.reduceEqDiff, reduceCtorEq, wz]
    exact ⟨_, _, rfl⟩
  · rintro k v σ N hv ⟨o, τ, rfl⟩ hN
    obtain ⟨x, hx, rfl⟩ := tlA_at hv
    have hk := lt_at hx
    simp only [S_log_Log_Count_R1a, S_log_Log_Count_R1b, setA, List.zip_cons_cons, List.zip_nil_right, List.foldl_cons, List.foldl_nil]
    simp (maxSteps := 1000000) (implicitDefEqProofs := false) (disch := omega) only [push_cast, ↓reduceIte, Nat.reduceEqDiff, reduceCtorEq, wz, aInt]
    refine wpa_st1 rfl rfl rfl (by simp) ?_
    simp (maxSteps := 1000000) (implicitDefEqProofs := false) (disch := omega) only [push_cast, ↓reduceIte, Nat.reduceEqDiff, reduceCtorEq, wz]
    exact hN _ _ ⟨o, τ, by simp [aInt]⟩
  · rintro σ ⟨o, τ, rfl⟩
    rw [tlA_len]
    simp (maxSteps := 1000000) (implicitDefEqProofs := false) (disch := omega) only [push_cast, ↓reduceIte, Nat.reduceEqDiff, reduceCtorEq, wz, aInt]
    exact ⟨[], rfl⟩
/-- The last of them of an iteration. -/
def lastF (it : Int) (xs : List (Ev × Nat)) : Option Ev := xs.foldl (fun o x => if x.1.it = it then some x.1 else o) none
theorem lastF_succ {it : Int} {xs : List (Ev × Nat)} {k : Nat} {x : Ev × Nat} (h : xs[k]? = some x) : lastF it (xs.take (k + 1)) = if x.1.it = it then some x.1 else lastF it (xs.take k) := by
  unfold lastF
  rw [take_succ_at h, List.foldl_append]
  rfl
def ev0 : Ev := ⟨0, 0, 0, 0⟩
def aLast (o : Option Ev) : AV := .tup [.agg (aEv (o.getD ev0)), aBool o.isSome]
theorem cells4 (e : Ev) : cellsA (some 4) (aEv e) = some (.agg (aEv e)) := by simp [cellsA, aEv]
theorem aholds_e {d : Nat} {n : Option Nat} {x : Operand} {ε : AEnv} {σ : Kx.St} (h : ldA n (evA ε x) σ = some (ε d) ∧ (ε d).exact = true) : SItem.aholds ⟨some d, none, .ld n x⟩ ε σ := .inl ⟨trivial, ε d, h.1, h.2, fun e he' => by cases he'; rfl⟩
theorem ex_bool (b : Bool) : (AV.v (.bool b)).exact = true := rfl
set_option maxHeartbeats 2000000 in
theorem log_Last_a (l : List Ev) (n it : Int) : FnP Try.prog 42 [aLg l, aInt n, aInt it] fun a => a = aLast (lastF it (tl (ofLp n) l)) := by
  refine fnP_in K_log_Log_Last mixed rfl (by simp [AV.pureL, aLg_pure, AV.pure, aInt]) ?_
  simp only [S_log_Log_Last]
  simp (maxSteps := 1000000) (implicitDefEqProofs := false) (disch := omega) only [push_cast, ↓reduceIte, Nat.reduceEqDiff, reduceCtorEq, wz]
  refine wpa_box ?_
  simp (maxSteps := 1000000) (implicitDefEqProofs := false) (disch := omega) only [push_cast, ↓reduceIte, Nat.reduceEqDiff, reduceCtorEq, wz]
  refine wpa_new ?_
  simp (maxSteps := 1000000) (implicitDefEqProofs := false) (disch := omega) only [push_cast, ↓reduceIte, Nat.reduceEqDiff, reduceCtorEq, wz]
  refine wpa_new ?_
  simp (maxSteps := 1000000) (implicitDefEqProofs := false) (disch := omega) only [push_cast, ↓reduceIte, Nat.reduceEqDiff, reduceCtorEq, wz]
  refine wpa_new ?_
  simp (maxSteps := 1000000) (implicitDefEqProofs := false) (disch := omega) only [push_cast, ↓reduceIte, Nat.reduceEqDiff, reduceCtorEq, wz]
  refine wpa_st1 rfl rfl rfl (by simp) ?_
  simp (maxSteps := 1000000) (implicitDefEqProofs := false) (disch := omega) only [push_cast, ↓reduceIte, Nat.reduceEqDiff, reduceCtorEq, wz]
  refine wpa_call (log_Of_a l n) ?_
  rintro a rfl
  simp (maxSteps := 1000000) (implicitDefEqProofs := false) (disch := omega) only [push_cast, ↓reduceIte, Nat.reduceEqDiff, reduceCtorEq, wz, aThose]
  have hcells : (aInt it).cells = [aInt it] := rfl
  refine wpa_rf (GU.refl _ _) (xs := [.ep [aLg l], .ep [aLike 81 n]])
    (I := fun k σ => ∃ τ, σ = .obj 0 [aInt it] :: .obj 0 (aEv ev0) :: .obj 0 (aEv ((lastF it ((tl (ofLp n) l).take k)).getD ev0)) :: .obj 0 [aBool (lastF it ((tl (ofLp n) l).take k)).isSome] :: τ) ?_ (by kernel_rfl) (ofLp_it l n) (tlA_two _ _) ?_ ?_ ?_
  · simp (maxSteps := 1000000) (implicitDefEqProofs := false) (disch := omega) only [push_cast, ↓reduceIte, Nat.reduceEqDiff, reduceCtorEq, wz]
  · simp (maxSteps := 1000000) (implicitDefEqProofs := false) (disch := omega) only [push_cast, ↓reduceIte, Nat.reduceEqDiff, reduceCtorEq, wz, hcells]
    exact ⟨[], rfl⟩
  · rintro k v σ N hv ⟨τ, rfl⟩ hN
    obtain ⟨x, hx, rfl⟩ := tlA_at hv
    have hs := lastF_succ (it := it) hx
    rw [hs] at hN
    have g2 : (aEv x.1)[2]? = some (.v (.int .i64 x.1.it)) := rfl
    have hset : setAtA [AV.v (.int .i64 0), AV.v (.int .i64 0), AV.v (.int .i64 0), AV.v (.int .i64 0)] 0 (aEv x.1) = aEv x.1 := rfl
    have hset2 : ∀ e : Ev, setAtA (aEv e) 0 (aEv x.1) = aEv x.1 := fun _ => rfl
    generalize lastF it ((tl (ofLp n) l).take k) = o at hN ⊢
    simp only [S_log_Log_Last_R1a, S_log_Log_Last_R1b, setA, List.zip_cons_cons, List.zip_nil_right, List.foldl_cons, List.foldl_nil]
    simp (maxSteps := 1000000) (implicitDefEqProofs := false) (disch := omega) only [push_cast, ↓reduceIte, Nat.reduceEqDiff, reduceCtorEq, wz]
    refine wpa_new ?_
    simp (maxSteps := 1000000) (implicitDefEqProofs := false) (disch := omega) only [push_cast, ↓reduceIte, Nat.reduceEqDiff, reduceCtorEq, wz]
    refine wpa_stn (cs := [AV.v (.int .i64 0), AV.v (.int .i64 0), AV.v (.int .i64 0), AV.v (.int .i64 0)]) rfl rfl (by simp) (by simp) ?_
    by_cases hit : x.1.it = it
    · rw [if_pos hit] at hN
      simp (maxSteps := 1000000) (implicitDefEqProofs := false) (disch := omega) only [push_cast, ↓reduceIte, Nat.reduceEqDiff, reduceCtorEq, wz, hset, set_snoc, at_snoc, List.cons_append, g2, aInt, hit, cells4]
      refine wpa_stn rfl rfl rfl (by simp [aEv]) ?_
      simp (maxSteps := 1000000) (implicitDefEqProofs := false) (disch := omega) only [push_cast, ↓reduceIte, Nat.reduceEqDiff, reduceCtorEq, wz, hset2]
      refine wpa_st1 rfl rfl rfl (by simp) ?_
      simp (maxSteps := 1000000) (implicitDefEqProofs := false) (disch := omega) only [push_cast, ↓reduceIte, Nat.reduceEqDiff, reduceCtorEq, wz]
      exact hN _ _ ⟨_, rfl⟩
    · rw [if_neg hit] at hN
      simp (maxSteps := 1000000) (implicitDefEqProofs := false) (disch := omega) only [push_cast, ↓reduceIte, Nat.reduceEqDiff, reduceCtorEq, wz, hset, set_snoc, at_snoc, List.cons_append, g2, aInt, hit]
      exact hN _ _ ⟨_, rfl⟩
  · rintro σ ⟨τ, rfl⟩
    rw [tlA_len, List.take_length]
    have hset3 : ∀ e e' : Ev, setAtA (aEv e) 0 (aEv e') = aEv e' := fun _ _ => rfl
    simp (maxSteps := 1000000) (implicitDefEqProofs := false) (disch := omega) only [push_cast, ↓reduceIte, Nat.reduceEqDiff, reduceCtorEq, wz, cells4, aBool]
    refine wpa_stn rfl rfl rfl (by simp [aEv]) ?_
    simp (maxSteps := 1000000) (implicitDefEqProofs := false) (disch := omega) only [push_cast, ↓reduceIte, Nat.reduceEqDiff, reduceCtorEq, wz, hset3, cells4]
    refine ⟨aholds_e (by simp (maxSteps := 1000000) (implicitDefEqProofs := false) (disch := omega) only [push_cast, ↓reduceIte, Nat.reduceEqDiff, reduceCtorEq, wz, ex_bool]), ?_⟩
    refine fin_res [] ?_ (by simp [aLast, AV.pure, AV.pureL, aEv, aBool])
    simp [aLast, AV.res, AV.resL, aEv, aBool]
end Go.Proofs.Ythgmfjkbgacfaaa
