/- Trace: the nodes that have begun. -/
import Derived.Test.YthgmfjkbgacfaaaTre
namespace Go.Proofs.Ythgmfjkbgacfaaa
set_option linter.unusedVariables false
set_option linter.unusedSimpArgs false
open Go Go.Kx Go.Proofs Go.Proofs.Ythgmfjkbgacfaaa.Gr
open Go.Proofs.Ythgmfjkbgacfaaa (mixed)

def begunX (xs : List (Ev × Nat)) : List (Int × Int) := (xs.filter fun x => decide (x.1.k = 2)).map fun x => (heldI x.1.it, heldI x.1.st)
def begunF (l : List Ev) (lp : Int) : List (Int × Int) := begunX (tl (ofLp lp) l)
theorem begunX_succ {xs : List (Ev × Nat)} {k : Nat} {x : Ev × Nat} (h : xs[k]? = some x) : begunX (xs.take (k + 1)) = if x.1.k = 2 then begunX (xs.take k) ++ [(heldI x.1.it, heldI x.1.st)] else begunX (xs.take k) := by
  unfold begunX
  rw [take_succ_at h, List.filter_append, List.map_append]
  by_cases hk : x.1.k = 2 <;> simp [hk]
theorem begunX_len (xs : List (Ev × Nat)) : (begunX xs).length ≤ xs.length := by
  unfold begunX
  rw [List.length_map]
  exact List.length_filter_le _ _
theorem ex_nilg (n : Nat) (cs : List AV) : (AV.sl n cs .nil).exact = true := rfl
def BeAt (l : List (Int × Int)) (σ : Kx.St) : Prop := ∃ T τ, σ = .obj 0 [.sl l.length (l.map aN) T] :: τ ∧ ((T = .nil ∧ l.length = 0) ∨ ∃ j v, T = .id (j + 1) v 1 ∧ τ[j]? = some (.tail v))
set_option maxHeartbeats 2000000 in
theorem trace_Begun_a (l : List Ev) (lp : Int) (hl : l.length ≤ 100000) : FnP Try.prog 20 [aEvs l, aInt lp] fun a => a = aNs (begunF l lp) := by
  refine fnP_in K_trace_Begun Go.Proofs.Ythgmfjkbgacfaaa.mixed rfl (by simp [AV.pureL, aEvs_pure, AV.pure, aInt]) ?_
  simp only [S_trace_Begun]
  simp (maxSteps := 1000000) (implicitDefEqProofs := false) (disch := omega) only [push_cast, ↓reduceIte, Nat.reduceEqDiff, reduceCtorEq, wz]
  refine wpa_new ?_
  simp (maxSteps := 1000000) (implicitDefEqProofs := false) (disch := omega) only [push_cast, ↓reduceIte, Nat.reduceEqDiff, reduceCtorEq, wz]
  refine wpa_call (trace_of_a l hl) ?_
  rintro a rfl
  simp (maxSteps := 1000000) (implicitDefEqProofs := false) (disch := omega) only [push_cast, ↓reduceIte, Nat.reduceEqDiff, reduceCtorEq, wz]
  refine wpa_call (log_Of_a l lp) ?_
  rintro a rfl
  simp (maxSteps := 1000000) (implicitDefEqProofs := false) (disch := omega) only [push_cast, ↓reduceIte, Nat.reduceEqDiff, reduceCtorEq, wz, aThose]
  have htl := tl_len (ofLp lp) l
  refine wpa_rf (GU.refl _ _) (xs := [.ep [aLg l], .ep [aLike 81 lp]]) (I := fun k σ => BeAt (begunX ((tl (ofLp lp) l).take k)) σ) ?_ (by kernel_rfl) (ofLp_it l lp) (tlA_two _ _) ?_ ?_ ?_
  · simp (maxSteps := 1000000) (implicitDefEqProofs := false) (disch := omega) only [push_cast, ↓reduceIte, Nat.reduceEqDiff, reduceCtorEq, wz]
  · exact ⟨.nil, [], rfl, .inl ⟨rfl, rfl⟩⟩
  · rintro k v σ N hv ⟨T, τ, rfl, hT⟩ hN
    obtain ⟨x, hx, rfl⟩ := tlA_at hv
    have hs := begunX_succ hx
    rw [hs] at hN
    have hbl := begunX_len ((tl (ofLp lp) l).take k)
    rw [List.length_take] at hbl
    generalize begunX ((tl (ofLp lp) l).take k) = L at hN hT hbl ⊢
    have g0 : (aEv x.1)[0]? = some (.v (.int .i64 x.1.k)) := rfl
    have g2 : (aEv x.1)[2]? = some (.v (.int .i64 x.1.it)) := rfl
    have g3 : (aEv x.1)[3]? = some (.v (.int .i64 x.1.st)) := rfl
    have hset : setAtA [AV.v (.int .i64 0), AV.v (.int .i64 0), AV.v (.int .i64 0), AV.v (.int .i64 0)] 0 (aEv x.1) = aEv x.1 := rfl
    simp only [S_trace_Begun_R1a, S_trace_Begun_R1b, setA, List.zip_cons_cons, List.zip_nil_right, List.foldl_cons, List.foldl_nil]
    simp (maxSteps := 1000000) (implicitDefEqProofs := false) (disch := omega) only [push_cast, ↓reduceIte, Nat.reduceEqDiff, reduceCtorEq, wz]
    refine wpa_new ?_
    simp (maxSteps := 1000000) (implicitDefEqProofs := false) (disch := omega) only [push_cast, ↓reduceIte, Nat.reduceEqDiff, reduceCtorEq, wz]
    refine wpa_stn (cs := [AV.v (.int .i64 0), AV.v (.int .i64 0), AV.v (.int .i64 0), AV.v (.int .i64 0)]) rfl rfl (by simp) (by simp) ?_
    by_cases hk : x.1.k = 2
    · rw [if_pos hk] at hN
      rcases hT with ⟨rfl, hL0⟩ | ⟨j, w, rfl, hj⟩
      · obtain rfl : L = [] := List.length_eq_zero_iff.1 hL0
        simp (maxSteps := 1000000) (implicitDefEqProofs := false) (disch := omega) only [push_cast, ↓reduceIte, Nat.reduceEqDiff, reduceCtorEq, wz, hset, set_snoc, at_snoc, List.cons_append, g0, g2, g3, hk]
        refine wpa_call (grid_Node_a _ _) ?_
        rintro a rfl
        simp (maxSteps := 1000000) (implicitDefEqProofs := false) (disch := omega) only [push_cast, ↓reduceIte, Nat.reduceEqDiff, reduceCtorEq, wz]
        refine ⟨aholds_e (by simp (maxSteps := 1000000) (implicitDefEqProofs := false) (disch := omega) only [push_cast, ↓reduceIte, Nat.reduceEqDiff, reduceCtorEq, wz, ex_nilg]), ?_⟩
        refine wpa_bsl (sz := 1) (by intro a ha; simp at ha; subst ha; rfl) (by simp) ?_
        simp (maxSteps := 1000000) (implicitDefEqProofs := false) (disch := omega) only [push_cast, ↓reduceIte, Nat.reduceEqDiff, reduceCtorEq, wz]
        refine ⟨aholds_e (by simp (maxSteps := 1000000) (implicitDefEqProofs := false) (disch := omega) only [push_cast, ↓reduceIte, Nat.reduceEqDiff, reduceCtorEq, wz, ex_nilg]), ?_⟩
        refine wpa_app_nil (m := 1) rfl rfl rfl rfl (by omega) (by omega) ?_
        simp (maxSteps := 1000000) (implicitDefEqProofs := false) (disch := omega) only [push_cast, ↓reduceIte, Nat.reduceEqDiff, reduceCtorEq, wz]
        refine wpa_st1 rfl rfl rfl (by simp) ?_
        simp (maxSteps := 1000000) (implicitDefEqProofs := false) (disch := omega) only [push_cast, ↓reduceIte, Nat.reduceEqDiff, reduceCtorEq, wz, List.cons_append]
        exact hN _ _ ⟨_, _, rfl, .inr ⟨_, _, rfl, at_snoc _ _⟩⟩
      · simp (maxSteps := 1000000) (implicitDefEqProofs := false) (disch := omega) only [push_cast, ↓reduceIte, Nat.reduceEqDiff, reduceCtorEq, wz, hset, set_snoc, at_snoc, List.cons_append, g0, g2, g3, hk]
        refine wpa_call (grid_Node_a _ _) ?_
        rintro a rfl
        simp (maxSteps := 1000000) (implicitDefEqProofs := false) (disch := omega) only [push_cast, ↓reduceIte, Nat.reduceEqDiff, reduceCtorEq, wz]
        refine ⟨aholds_e (by simp (maxSteps := 1000000) (implicitDefEqProofs := false) (disch := omega) only [push_cast, ↓reduceIte, Nat.reduceEqDiff, reduceCtorEq, wz, ex_id4]), ?_⟩
        refine wpa_bsl (sz := 1) (by intro a ha; simp at ha; subst ha; rfl) (by simp) ?_
        simp (maxSteps := 1000000) (implicitDefEqProofs := false) (disch := omega) only [push_cast, ↓reduceIte, Nat.reduceEqDiff, reduceCtorEq, wz]
        refine ⟨aholds_e (by simp (maxSteps := 1000000) (implicitDefEqProofs := false) (disch := omega) only [push_cast, ↓reduceIte, Nat.reduceEqDiff, reduceCtorEq, wz, ex_id4]), ?_⟩
        refine wpa_app (m := 1) rfl rfl rfl rfl (by simp) (by omega) (by omega) (show (Res.obj 0 [AV.sl L.length (List.map aN L) (Tok.id (j + 1) w 1)] :: (τ ++ [Res.obj 0 (aEv x.1)]))[j + 1]? = some (.tail w) from get_app hj) ?_
        simp (maxSteps := 1000000) (implicitDefEqProofs := false) (disch := omega) only [push_cast, ↓reduceIte, Nat.reduceEqDiff, reduceCtorEq, wz]
        refine wpa_st1 rfl rfl rfl (by simp) ?_
        simp (maxSteps := 1000000) (implicitDefEqProofs := false) (disch := omega) only [push_cast, ↓reduceIte, Nat.reduceEqDiff, reduceCtorEq, wz]
        refine hN _ _ ⟨.id (j + 1) (w + 1) 1, (τ ++ [Res.obj 0 (aEv x.1)]).set j (.tail (w + 1)), ?_, .inr ⟨j, w + 1, rfl, get_set_eq (get_app hj)⟩⟩
        simp [aN, vN, AV.cells, Value.cells]
    · rw [if_neg hk] at hN
      simp (maxSteps := 1000000) (implicitDefEqProofs := false) (disch := omega) only [push_cast, ↓reduceIte, Nat.reduceEqDiff, reduceCtorEq, wz, hset, set_snoc, at_snoc, List.cons_append, g0, hk]
      refine hN _ _ ⟨T, _, rfl, ?_⟩
      rcases hT with hT | ⟨j, w, rfl, hj⟩
      · exact .inl hT
      · exact .inr ⟨j, w, rfl, get_app hj⟩
  · rintro σ ⟨T, τ, rfl, hT⟩
    rw [tlA_len, List.take_length]
    simp (maxSteps := 1000000) (implicitDefEqProofs := false) (disch := omega) only [push_cast, ↓reduceIte, Nat.reduceEqDiff, reduceCtorEq, wz]
    exact fin_res [] (aNs_res _ _ _) (aNs_pure _)
end Go.Proofs.Ythgmfjkbgacfaaa
