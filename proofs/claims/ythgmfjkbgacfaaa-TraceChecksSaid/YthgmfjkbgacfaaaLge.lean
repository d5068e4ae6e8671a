/- Log: works; the events of a loop, at most so many. -/
import Derived.Test.YthgmfjkbgacfaaaLgd
namespace Go.Proofs.Ythgmfjkbgacfaaa
set_option linter.unusedVariables false
set_option linter.unusedSimpArgs false
open Go Go.Kx Go.Proofs

theorem EvAt.snoc {l : List Ev} {σ : Kx.St} (o : Res) (h : EvAt l σ) : EvAt l (σ ++ [o]) := by
  obtain ⟨T, τ, rfl, hT⟩ := h
  refine ⟨T, τ ++ [o], rfl, ?_⟩
  rcases hT with hT | ⟨j, v, rfl, hj⟩
  · exact .inl hT
  · exact .inr ⟨j, v, rfl, get_app hj⟩
theorem EvAt.frz {l : List Ev} {σ : Kx.St} (h : EvAt l σ) : AV.res (Go.Kx.freeze [0] σ) (.ref 0 0 0) = aLg l := by
  obtain ⟨T, τ, rfl, _⟩ := h
  have hr : AV.resL (Res.obj 0 [AV.sl l.length (l.flatMap aEv) T] :: τ) [AV.sl l.length (l.flatMap aEv) T] = [aEvs l] := by
    rw [resL_map, List.map_singleton, aEvs_res]
  simp [Go.Kx.freeze, freeze1, AV.res, hr, aLg]
theorem EvAt.frz2 {l : List Ev} {σ : Kx.St} (h : EvAt l σ) : ∃ τ, Go.Kx.freeze [0] σ = .frz 0 [aEvs l] :: τ := by
  obtain ⟨T, τ, rfl, _⟩ := h
  have hr : AV.resL (Res.obj 0 [AV.sl l.length (l.flatMap aEv) T] :: τ) [AV.sl l.length (l.flatMap aEv) T] = [aEvs l] := by
    rw [resL_map, List.map_singleton, aEvs_res]
  exact ⟨τ, by simp [Go.Kx.freeze, freeze1, hr]⟩
theorem frz_res (l : List Ev) (τ : List Res) : AV.res (Res.frz 0 [aEvs l] :: τ) (.ref 0 0 0) = aLg l := by simp [AV.res, aLg]
theorem frz0 (σ : Kx.St) : Go.Kx.freeze [] σ = σ := rfl
theorem frzw1 (l : List Ev) (τ : List Res) : weak (Go.Kx.freeze [] (Res.frz 0 [aEvs l] :: τ)) [true] [AV.ref 0 0 0] = [aLg l] := by simp only [weak, if_true, frz0]; rw [frz_res]
theorem frzw2 (l : List Ev) (τ : List Res) (a : AV) : weak (Go.Kx.freeze [] (Res.frz 0 [aEvs l] :: τ)) [true, false] [AV.ref 0 0 0, a] = [aLg l, a] := by simp [weak, frz0, frz_res]
theorem frzw3 (l : List Ev) (τ : List Res) (a b : AV) : weak (Go.Kx.freeze [] (Res.frz 0 [aEvs l] :: τ)) [true, false, false] [AV.ref 0 0 0, a, b] = [aLg l, a, b] := by simp [weak, frz0, frz_res]
def wEv : List Ev := [⟨1, 1, 0, 0⟩, ⟨4, 1, 0, 0⟩]
set_option maxHeartbeats 2000000 in
theorem law24_works_a : FnP Try.prog 9 [] fun a => a = aBool true := by
  refine fnP_in K_forebaylaw24_works mixed rfl rfl ?_
  simp only [S_forebaylaw24_works]
  have b1 : ∀ a b : Int, fillA [AV.v (.int .i64 0), AV.v (.int .i64 0), AV.v (.int .i64 0), AV.v (.int .i64 0)] [(0, 1), (1, 1)] [AV.v (.int .i64 a), AV.v (.int .i64 b)] = some (aEv ⟨a, b, 0, 0⟩) := fun a b => by simp [fillA, AV.cells, Value.cells, setAtA, aEv]
  simp (maxSteps := 1000000) (implicitDefEqProofs := false) (disch := omega) only [push_cast, ↓reduceIte, Nat.reduceEqDiff, reduceCtorEq, wz]
  refine wpa_callG log_New_a ?_
  rintro a σ ⟨rfl, rfl⟩
  simp (maxSteps := 1000000) (implicitDefEqProofs := false) (disch := omega) only [push_cast, ↓reduceIte, Nat.reduceEqDiff, reduceCtorEq, wz, b1]
  refine wpa_callG (log_Note_a ⟨1, 1, 0, 0⟩ [] ⟨.nil, [], rfl, .inl ⟨rfl, rfl⟩⟩ (by simp)) ?_
  intro a σ hσ
  simp (maxSteps := 1000000) (implicitDefEqProofs := false) (disch := omega) only [push_cast, ↓reduceIte, Nat.reduceEqDiff, reduceCtorEq, wz, b1]
  refine wpa_callG (log_Note_a ⟨4, 1, 0, 0⟩ _ hσ (by simp)) ?_
  intro a σ hσ
  replace hσ : EvAt wEv σ := hσ
  obtain ⟨τ, hτ⟩ := hσ.frz2
  have hf := hσ.frz
  simp (maxSteps := 1000000) (implicitDefEqProofs := false) (disch := omega) only [push_cast, ↓reduceIte, Nat.reduceEqDiff, reduceCtorEq, wz]
  refine wpa_callw [0] [true, false, false] (log_Last_a wEv 1 0) (by simp only [weak, if_true]; rw [hf]; rfl) ?_
  rintro a rfl
  rw [hτ]
  have hlast : aLast (lastF 0 (tl (ofLp 1) wEv)) = .tup [.agg (aEv ⟨4, 1, 0, 0⟩), aBool true] := rfl
  rw [hlast]
  simp (maxSteps := 1000000) (implicitDefEqProofs := false) (disch := omega) only [push_cast, ↓reduceIte, Nat.reduceEqDiff, reduceCtorEq, wz, aBool]
  refine wpa_new ?_
  simp (maxSteps := 1000000) (implicitDefEqProofs := false) (disch := omega) only [push_cast, ↓reduceIte, Nat.reduceEqDiff, reduceCtorEq, wz]
  refine wpa_stn (cs := [AV.v (.int .i64 0), AV.v (.int .i64 0), AV.v (.int .i64 0), AV.v (.int .i64 0)]) rfl rfl (by simp) (by simp) ?_
  have hset : setAtA [AV.v (.int .i64 0), AV.v (.int .i64 0), AV.v (.int .i64 0), AV.v (.int .i64 0)] 0 (aEv ⟨4, 1, 0, 0⟩) = aEv ⟨4, 1, 0, 0⟩ := rfl
  have g0 : (aEv ⟨4, 1, 0, 0⟩)[0]? = some (.v (.int .i64 4)) := rfl
  simp (maxSteps := 1000000) (implicitDefEqProofs := false) (disch := omega) only [push_cast, ↓reduceIte, Nat.reduceEqDiff, reduceCtorEq, wz, hset, set_snoc, at_snoc, List.cons_append]
  refine wpa_callw [] [true] (log_Len_a wEv (by decide)) (frzw1 _ _) ?_
  rintro a rfl
  have hlen : wEv.length = 2 := rfl
  rw [frz0]
  simp (maxSteps := 1000000) (implicitDefEqProofs := false) (disch := omega) only [push_cast, ↓reduceIte, Nat.reduceEqDiff, reduceCtorEq, wz, aInt, hlen, g0]
  refine wpa_callw [] [true, false] (log_Count_a wEv 1 (by decide)) (frzw2 _ _ _) ?_
  rintro a rfl
  have hcnt : (tl (ofK 1) wEv).length = 1 := by rfl
  rw [hcnt, frz0]
  simp (maxSteps := 1000000) (implicitDefEqProofs := false) (disch := omega) only [push_cast, ↓reduceIte, Nat.reduceEqDiff, reduceCtorEq, wz, aInt]
  refine wpa_callw [] [true] (log_Loops_a wEv (by decide)) (frzw1 _ _) ?_
  rintro a rfl
  have hlps : lps wEv = [1] := by decide
  rw [hlps, frz0]
  simp (maxSteps := 1000000) (implicitDefEqProofs := false) (disch := omega) only [push_cast, ↓reduceIte, Nat.reduceEqDiff, reduceCtorEq, wz]
  refine wpa_bsl (sz := 1) (by intro a ha; simp at ha; subst ha; rfl) (by simp) ?_
  simp (maxSteps := 1000000) (implicitDefEqProofs := false) (disch := omega) only [push_cast, ↓reduceIte, Nat.reduceEqDiff, reduceCtorEq, wz]
  refine wpa_callw [] [false, true] (law05_Ints_a [1] [1] (by simp) (by simp)) (by simp [weak, Go.Kx.freeze, AV.res, AV.resL, aInts, aSl, aInt, AV.cells, Value.cells]) ?_
  rintro a rfl
  simp (maxSteps := 1000000) (implicitDefEqProofs := false) (disch := omega) only [push_cast, ↓reduceIte, Nat.reduceEqDiff, reduceCtorEq, wz]
  exact ⟨[], by simp [aBool, AV.res, AV.pure], by simp [aBool, AV.res]⟩
/-- What of gathers: the events told, and their places. -/
def tEv (p : Ev → Bool) (l : List Ev) (n : Nat) : List Ev := ((tl p l).take n).map (·.1)
def tIx (p : Ev → Bool) (l : List Ev) (n : Nat) : List Int := ((tl p l).take n).map fun x => (x.2 : Int)
def GaAt (p : Ev → Bool) (l : List Ev) (most : Int) (n : Nat) (σ : Kx.St) : Prop :=
  (n = 0 ∧ σ = [.obj 0 [aInt most], .obj 0 [.sl 0 [] .nil], .obj 0 [.sl 0 [] .nil]]) ∨
  (0 < n ∧ ∃ v1 v2 b τ, σ = .obj 0 [aInt most] :: .obj 0 [.sl n ((tEv p l n).flatMap aEv) (.id 4 v1 4)] :: .obj 0 [.sl n ((tIx p l n).map aInt) (.id 5 v2 1)] :: b :: .tail v1 :: .tail v2 :: τ)
theorem tEv_succ {p : Ev → Bool} {l : List Ev} {n : Nat} {x : Ev × Nat} (h : (tl p l)[n]? = some x) : (tEv p l (n + 1)).flatMap aEv = (tEv p l n).flatMap aEv ++ aEv x.1 := by
  unfold tEv
  rw [take_succ_at h]; simp
theorem tIx_succ {p : Ev → Bool} {l : List Ev} {n : Nat} {x : Ev × Nat} (h : (tl p l)[n]? = some x) : (tIx p l (n + 1)).map aInt = (tIx p l n).map aInt ++ [aInt x.2] := by
  unfold tIx
  rw [take_succ_at h]; simp
theorem tl_len (p : Ev → Bool) (l : List Ev) : (tl p l).length ≤ l.length := by
  unfold tl
  exact Nat.le_trans (List.length_filter_le _ _) (by simp)
theorem tEv_len {p : Ev → Bool} {l : List Ev} {n : Nat} (h : n ≤ (tl p l).length) : (tEv p l n).length = n := by simp [tEv]; omega
theorem tIx_len {p : Ev → Bool} {l : List Ev} {n : Nat} (h : n ≤ (tl p l).length) : (tIx p l n).length = n := by simp [tIx]; omega
set_option maxHeartbeats 2000000 in
theorem law24_of1_a (p : Ev → Bool) (l : List Ev) (most : Int) (hl : l.length ≤ 1000000) (hm : (l.length : Int) < most) {n : Nat} {x : Ev × Nat} (hx : (tl p l)[n]? = some x) {σ : Kx.St} (hσ : GaAt p l most n σ) :
    FnG Try.prog 49 [.v (.int .i64 (x.2 : Int)), .agg (aEv x.1), .ref 1 0 0, .ref 2 0 0, .ref 0 0 0] σ fun a σ' => a = aBool true ∧ GaAt p l most (n + 1) σ' := by
  have hn := lt_at hx
  have hle := tl_len p l
  have e1 := tEv_succ hx
  have e2 := tIx_succ hx
  refine fnG_in K_forebaylaw24_of_1 mixed rfl ?_
  simp only [S_forebaylaw24_of_1]
  have hcl : (AV.agg (aEv x.1)).cells = aEv x.1 := rfl
  rcases hσ with ⟨rfl, rfl⟩ | ⟨h0, v1, v2, b, τ, rfl⟩
  · simp (maxSteps := 1000000) (implicitDefEqProofs := false) (disch := omega) only [push_cast, ↓reduceIte, Nat.reduceEqDiff, reduceCtorEq, wz]
    refine wpa_box ?_
    simp (maxSteps := 1000000) (implicitDefEqProofs := false) (disch := omega) only [push_cast, ↓reduceIte, Nat.reduceEqDiff, reduceCtorEq, wz, hcl, cells4]
    refine wpa_bsl (sz := 4) (by intro a ha; simp at ha; subst ha; rfl) (by simp) ?_
    simp (maxSteps := 1000000) (implicitDefEqProofs := false) (disch := omega) only [push_cast, ↓reduceIte, Nat.reduceEqDiff, reduceCtorEq, wz, hcl]
    refine wpa_app_nil (m := 1) rfl rfl (by simp [aEv]) rfl (by omega) (by omega) ?_
    simp (maxSteps := 1000000) (implicitDefEqProofs := false) (disch := omega) only [push_cast, ↓reduceIte, Nat.reduceEqDiff, reduceCtorEq, wz, List.cons_append, List.nil_append]
    refine wpa_st1 rfl rfl rfl (by simp) ?_
    simp (maxSteps := 1000000) (implicitDefEqProofs := false) (disch := omega) only [push_cast, ↓reduceIte, Nat.reduceEqDiff, reduceCtorEq, wz]
    refine wpa_bsl (sz := 1) (by intro a ha; simp at ha; subst ha; rfl) (by simp) ?_
    simp (maxSteps := 1000000) (implicitDefEqProofs := false) (disch := omega) only [push_cast, ↓reduceIte, Nat.reduceEqDiff, reduceCtorEq, wz]
    refine wpa_app_nil (m := 1) rfl rfl (by simp) rfl (by omega) (by omega) ?_
    simp (maxSteps := 1000000) (implicitDefEqProofs := false) (disch := omega) only [push_cast, ↓reduceIte, Nat.reduceEqDiff, reduceCtorEq, wz, List.cons_append, List.nil_append]
    refine wpa_st1 rfl rfl rfl (by simp) ?_
    have h1m : (1 : Int) < most := by omega
    simp (maxSteps := 1000000) (implicitDefEqProofs := false) (disch := omega) only [push_cast, ↓reduceIte, Nat.reduceEqDiff, reduceCtorEq, wz, aInt, h1m]
    refine ⟨rfl, .inr ⟨by omega, 1, 1, .obj 0 (aEv x.1), [], ?_⟩⟩
    rw [e1, e2]
    simp [tEv, tIx, aInt]
  · simp (maxSteps := 1000000) (implicitDefEqProofs := false) (disch := omega) only [push_cast, ↓reduceIte, Nat.reduceEqDiff, reduceCtorEq, wz]
    refine wpa_box ?_
    simp (maxSteps := 1000000) (implicitDefEqProofs := false) (disch := omega) only [push_cast, ↓reduceIte, Nat.reduceEqDiff, reduceCtorEq, wz, hcl, cells4, at_snoc, List.cons_append]
    refine wpa_bsl (sz := 4) (by intro a ha; simp at ha; subst ha; rfl) (by simp) ?_
    simp (maxSteps := 1000000) (implicitDefEqProofs := false) (disch := omega) only [push_cast, ↓reduceIte, Nat.reduceEqDiff, reduceCtorEq, wz, hcl]
    refine wpa_app (m := 1) rfl rfl (by simp [aEv]) rfl (by rw [flat_len aEv_len, tEv_len (by omega)]) (by omega) (by omega) rfl ?_
    simp (maxSteps := 1000000) (implicitDefEqProofs := false) (disch := omega) only [push_cast, ↓reduceIte, Nat.reduceEqDiff, reduceCtorEq, wz]
    refine wpa_st1 rfl rfl rfl (by simp) ?_
    simp (maxSteps := 1000000) (implicitDefEqProofs := false) (disch := omega) only [push_cast, ↓reduceIte, Nat.reduceEqDiff, reduceCtorEq, wz]
    refine wpa_bsl (sz := 1) (by intro a ha; simp at ha; subst ha; rfl) (by simp) ?_
    simp (maxSteps := 1000000) (implicitDefEqProofs := false) (disch := omega) only [push_cast, ↓reduceIte, Nat.reduceEqDiff, reduceCtorEq, wz]
    refine wpa_app (m := 1) rfl rfl (by simp) rfl (by rw [List.length_map, tIx_len (by omega)]; omega) (by omega) (by omega) rfl ?_
    simp (maxSteps := 1000000) (implicitDefEqProofs := false) (disch := omega) only [push_cast, ↓reduceIte, Nat.reduceEqDiff, reduceCtorEq, wz]
    refine wpa_st1 rfl rfl rfl (by simp) ?_
    have h1m : ((n : Int) + 1) < most := by omega
    simp (maxSteps := 1000000) (implicitDefEqProofs := false) (disch := omega) only [push_cast, ↓reduceIte, Nat.reduceEqDiff, reduceCtorEq, wz, aInt, h1m]
    refine ⟨rfl, .inr ⟨by omega, v1 + 1, v2 + 1, b, τ ++ [.obj 0 (aEv x.1)], ?_⟩⟩
    rw [e1, e2]
    simp [aInt, AV.cells, Value.cells]
theorem GaAt.res {p : Ev → Bool} {l : List Ev} {most : Int} {n : Nat} {σ : Kx.St} (h : GaAt p l most n σ) (hn : n ≤ (tl p l).length) : ∃ t1 t2, σ[1]? = some (.obj 0 [.sl (tEv p l n).length ((tEv p l n).flatMap aEv) t1]) ∧ σ[2]? = some (.obj 0 [.sl (tIx p l n).length ((tIx p l n).map aInt) t2]) := by
  rw [tEv_len hn, tIx_len hn]
  rcases h with ⟨rfl, rfl⟩ | ⟨h0, v1, v2, b, τ, rfl⟩
  · exact ⟨.nil, .nil, rfl, rfl⟩
  · exact ⟨_, _, rfl, rfl⟩
set_option maxHeartbeats 2000000 in
theorem law24_of_a (l : List Ev) (n most : Int) (hl : l.length ≤ 1000000) (hm : (l.length : Int) < most) :
    FnP Try.prog 13 [aLg l, aInt n, aInt most] fun a => a = .tup [aEvs (tEv (ofLp n) l (tl (ofLp n) l).length), aInts (tIx (ofLp n) l (tl (ofLp n) l).length)] := by
  refine fnP_in K_forebaylaw24_of mixed rfl (by simp [AV.pureL, aLg_pure, AV.pure, aInt]) ?_
  simp only [S_forebaylaw24_of]
  simp (maxSteps := 1000000) (implicitDefEqProofs := false) (disch := omega) only [push_cast, ↓reduceIte, Nat.reduceEqDiff, reduceCtorEq, wz]
  refine wpa_box ?_
  simp (maxSteps := 1000000) (implicitDefEqProofs := false) (disch := omega) only [push_cast, ↓reduceIte, Nat.reduceEqDiff, reduceCtorEq, wz]
  refine wpa_new ?_
  simp (maxSteps := 1000000) (implicitDefEqProofs := false) (disch := omega) only [push_cast, ↓reduceIte, Nat.reduceEqDiff, reduceCtorEq, wz]
  refine wpa_new ?_
  simp (maxSteps := 1000000) (implicitDefEqProofs := false) (disch := omega) only [push_cast, ↓reduceIte, Nat.reduceEqDiff, reduceCtorEq, wz]
  refine wpa_call (log_Of_a l n) ?_
  rintro a rfl
  simp (maxSteps := 1000000) (implicitDefEqProofs := false) (disch := omega) only [push_cast, ↓reduceIte, Nat.reduceEqDiff, reduceCtorEq, wz, aThose]
  refine wpa_callvG (xs := [.ep [aLg l], .ep [aLike 81 n]]) (k := 0) (by kernel_rfl) rfl (ItP.call (ofLp_it l n) (fy := 49) (k := 0) (ys := [.ref 1 0 0, .ref 2 0 0, .ref 0 0 0]) (by kernel_rfl) (I := GaAt (ofLp n) l most) ?_ ?_) ?_
  · exact .inl ⟨rfl, rfl⟩
  · intro i v σ hv hI
    obtain ⟨x, hx, rfl⟩ := tlA_at hv
    exact law24_of1_a (ofLp n) l most hl hm hx hI
  · intro a σ hI
    rw [tlA_len] at hI
    obtain ⟨t1, t2, h1, h2⟩ := hI.res (Nat.le_refl _)
    simp (maxSteps := 1000000) (implicitDefEqProofs := false) (disch := omega) only [push_cast, ↓reduceIte, Nat.reduceEqDiff, reduceCtorEq, wz, h1, h2]
    exact fin_tup2 [] (aEvs_res _ _ _) (aInts_res _ _ _) (aEvs_pure _) (aInts_pure _) rfl
end Go.Proofs.Ythgmfjkbgacfaaa
