/- Log: which loops; a new log, and noting; the events of a loop. -/
import Derived.Test.YthgmfjkbgacfaaaLgc
import Derived.Test.YthgmfjkbgacfaaaCOther
namespace Go.Proofs.Ythgmfjkbgacfaaa
set_option linter.unusedVariables false
set_option linter.unusedSimpArgs false
open Go Go.Kx Go.Proofs

theorem aInts_res (σ : Kx.St) (xs : List Int) (t : Tok) : (AV.sl xs.length (xs.map aInt) t).res σ = aInts xs := aSl_res (aInt_res _) xs t
theorem Index_a (xs : List Int) (x : Int) (hl : xs.length ≤ 9223372036854775807) : FnP Try.prog 80 [aInts xs, aInt x] fun a => ∃ n : Int, a = aInt n ∧ (0 ≤ n ↔ x ∈ xs) := by
  refine fnP_in K_slices_Index_int_int mixed rfl (by simp [AV.pureL, aInts_pure, AV.pure, aInt]) ?_
  simp only [S_slices_Index_int_int]
  simp (maxSteps := 1000000) (implicitDefEqProofs := false) (disch := omega) only [push_cast, ↓reduceIte, Nat.reduceEqDiff, reduceCtorEq, wz, aInts, aSl]
  refine wpa_bl (α := Nat) (I := fun k ε σ => (ε 0 = .sl xs.length (xs.map aInt) .none ∧ ε 1 = aInt x ∧ ε 7 = .v (.int .i64 xs.length) ∧ ε 8 = .v (.int .i64 k)) ∧ k ≤ xs.length ∧ x ∉ xs.take k)
    (μ := fun k => xs.length - k) (Q := fun ε σ => x ∉ xs) (x := 0) ?_ ?_ ?_
  · simp (maxSteps := 1000000) (implicitDefEqProofs := false) (disch := omega) only [push_cast, ↓reduceIte, Nat.reduceEqDiff, reduceCtorEq, wz]
    exact ⟨by omega, by simp⟩
  · rintro k ε σ N E ⟨hρ, hk, hx⟩ hN hE
    simp only [S_slices_Index_int_int_L1]
    by_cases hlt : k < xs.length
    · obtain ⟨y, hy⟩ := at_lt hlt
      by_cases hxy : x = y
      · simp (maxSteps := 1000000) (implicitDefEqProofs := false) (disch := omega) only [push_cast, ↓reduceIte, Nat.reduceEqDiff, reduceCtorEq, wz, hρ, hy, aInt, hxy]
        exact ⟨[], rfl, _, rfl, by constructor <;> intro _ <;> first | exact List.mem_of_getElem? hy | omega⟩
      · simp (maxSteps := 1000000) (implicitDefEqProofs := false) (disch := omega) only [push_cast, ↓reduceIte, Nat.reduceEqDiff, reduceCtorEq, wz, hρ, hy, aInt, hxy]
        refine hN (k + 1) _ _ ?_ (by omega)
        simp (maxSteps := 1000000) (implicitDefEqProofs := false) (disch := omega) only [push_cast, ↓reduceIte, Nat.reduceEqDiff, reduceCtorEq, wz, hρ, aInt]
        refine ⟨by omega, ?_⟩
        rw [take_succ_at hy]
        simp [hx, hxy]
    · simp (maxSteps := 1000000) (implicitDefEqProofs := false) (disch := omega) only [push_cast, ↓reduceIte, Nat.reduceEqDiff, reduceCtorEq, wz, hρ]
      obtain rfl : k = xs.length := by omega
      rw [List.take_length] at hx
      exact hE _ _ hx
  · intro ε σ hx
    simp (maxSteps := 1000000) (implicitDefEqProofs := false) (disch := omega) only [push_cast, ↓reduceIte, Nat.reduceEqDiff, reduceCtorEq, wz]
    exact ⟨[], rfl, -1, rfl, by constructor <;> intro h <;> first | omega | exact absurd h hx⟩
theorem Contains_a (xs : List Int) (x : Int) (hl : xs.length ≤ 9223372036854775807) : FnP Try.prog 47 [aInts xs, aInt x] fun a => a = aBool (decide (x ∈ xs)) := by
  refine fnP_in K_slices_Contains_int_int mixed rfl (by simp [AV.pureL, aInts_pure, AV.pure, aInt]) ?_
  simp only [S_slices_Contains_int_int]
  simp (maxSteps := 1000000) (implicitDefEqProofs := false) (disch := omega) only [push_cast, ↓reduceIte, Nat.reduceEqDiff, reduceCtorEq, wz]
  refine wpa_call (Index_a xs x hl) ?_
  rintro a ⟨n, rfl, hn⟩
  simp (maxSteps := 1000000) (implicitDefEqProofs := false) (disch := omega) only [push_cast, ↓reduceIte, Nat.reduceEqDiff, reduceCtorEq, wz, aInt]
  refine fin_v ?_
  have : decide (0 ≤ n) = decide (x ∈ xs) := by
    by_cases h : 0 ≤ n
    · rw [decide_eq_true h, decide_eq_true (hn.1 h)]
    · rw [decide_eq_false h, decide_eq_false (fun hx => h (hn.2 hx))]
  rw [this]; rfl
/-- The loops of which there are events. -/
def lps (l : List Ev) : List Int := l.foldl (fun out e => if e.lp ∈ out then out else out ++ [e.lp]) []
theorem lps_succ {l : List Ev} {k : Nat} {e : Ev} (h : l[k]? = some e) : lps (l.take (k + 1)) = if e.lp ∈ lps (l.take k) then lps (l.take k) else lps (l.take k) ++ [e.lp] := by
  unfold lps
  rw [take_succ_at h, List.foldl_append]
  rfl
theorem lps_len (l : List Ev) (k : Nat) : (lps (l.take k)).length ≤ k := by
  induction k with
  | zero => simp [lps]
  | succ k ih =>
    by_cases hk : k < l.length
    · obtain ⟨e, he⟩ := at_lt hk
      rw [lps_succ he]
      split
      · omega
      · simp; omega
    · rw [List.take_of_length_le (by omega)] at ih ⊢; omega
set_option maxHeartbeats 2000000 in
theorem log_Loops_a (l : List Ev) (hl : l.length ≤ 1000000) : FnP Try.prog 12 [aLg l] fun a => a = aInts (lps l) := by
  refine fnP_in K_log_Log_Loops mixed rfl (by simp [AV.pureL, aLg_pure]) ?_
  simp only [S_log_Log_Loops]
  simp (maxSteps := 1000000) (implicitDefEqProofs := false) (disch := omega) only [push_cast, ↓reduceIte, Nat.reduceEqDiff, reduceCtorEq, wz]
  refine wpa_call (log_all_a l) ?_
  rintro a rfl
  simp (maxSteps := 1000000) (implicitDefEqProofs := false) (disch := omega) only [push_cast, ↓reduceIte, Nat.reduceEqDiff, reduceCtorEq, wz, aEvs, aSlN]
  refine wpa_blg (GU.tok 3 1 rfl) (α := Nat) (I := fun k ε σ => (ε 7 = .sl l.length (l.flatMap aEv) .none ∧ ε 8 = .v (.int .i64 l.length) ∧ ε 9 = .v (.int .i64 k)) ∧ k ≤ l.length ∧
      ∃ w τ, ε 3 = .sl (lps (l.take k)).length ((lps (l.take k)).map aInt) (.id 0 w 1) ∧ σ = .tail w :: τ)
    (μ := fun k => l.length - k) (Q := fun ε σ => ∃ t, ε 3 = .sl (lps l).length ((lps l).map aInt) t) (x := 0) ?_ ?_ ?_
  · simp (maxSteps := 1000000) (implicitDefEqProofs := false) (disch := omega) only [push_cast, ↓reduceIte, Nat.reduceEqDiff, reduceCtorEq, wz]
    exact ⟨by omega, 0, [], by simp [lps], rfl⟩
  · rintro k ε σ N E ⟨hρ, hk, w, τ, h3, rfl⟩ hN hE
    simp only [S_log_Log_Loops_L1]
    by_cases hlt : k < l.length
    · obtain ⟨e, he⟩ := at_lt hlt
      have hd := flat_drop aEv_len he
      have hc4 : ∀ t : List AV, cellsA (some 4) (aEv e ++ t) = some (.agg (aEv e)) := fun t => by simp [cellsA, aEv]
      have hset : setAtA [AV.v (.int .i64 0), AV.v (.int .i64 0), AV.v (.int .i64 0), AV.v (.int .i64 0)] 0 (aEv e) = aEv e := rfl
      have g1 : (aEv e)[1]? = some (.v (.int .i64 e.lp)) := rfl
      have hll := lps_len l k
      have hs := lps_succ he
      simp (maxSteps := 1000000) (implicitDefEqProofs := false) (disch := omega) only [push_cast, ↓reduceIte, Nat.reduceEqDiff, reduceCtorEq, wz, hρ, hd, hc4]
      refine wpa_new ?_
      simp (maxSteps := 1000000) (implicitDefEqProofs := false) (disch := omega) only [push_cast, ↓reduceIte, Nat.reduceEqDiff, reduceCtorEq, wz]
      refine wpa_stn (cs := [AV.v (.int .i64 0), AV.v (.int .i64 0), AV.v (.int .i64 0), AV.v (.int .i64 0)]) rfl rfl (by simp) (by simp) ?_
      simp (maxSteps := 1000000) (implicitDefEqProofs := false) (disch := omega) only [push_cast, ↓reduceIte, Nat.reduceEqDiff, reduceCtorEq, wz, hset, set_snoc, at_snoc, List.cons_append, g1, hρ, h3]
      refine wpa_callw [] [true, false] (Contains_a (lps (l.take k)) e.lp (by omega)) (by simp only [weak, if_true]; rw [aInts_res]; rfl) ?_
      rintro a rfl
      rw [show ∀ s : Kx.St, Go.Kx.freeze [] s = s from fun _ => rfl]
      by_cases hm : e.lp ∈ lps (l.take k)
      · rw [if_pos hm] at hs
        simp (maxSteps := 1000000) (implicitDefEqProofs := false) (disch := omega) only [push_cast, ↓reduceIte, Nat.reduceEqDiff, reduceCtorEq, wz, aBool, hm, hρ]
        refine hN (k + 1) _ _ ?_ (by omega)
        simp (maxSteps := 1000000) (implicitDefEqProofs := false) (disch := omega) only [push_cast, ↓reduceIte, Nat.reduceEqDiff, reduceCtorEq, wz, hρ, h3, hs]
        exact ⟨by omega, w, _, rfl, rfl⟩
      · rw [if_neg hm] at hs
        simp (maxSteps := 1000000) (implicitDefEqProofs := false) (disch := omega) only [push_cast, ↓reduceIte, Nat.reduceEqDiff, reduceCtorEq, wz, aBool, hm, h3, set_snoc, at_snoc, List.cons_append, g1]
        refine wpa_bsl (sz := 1) (by intro a ha; simp at ha; subst ha; rfl) (by simp) ?_
        simp (maxSteps := 1000000) (implicitDefEqProofs := false) (disch := omega) only [push_cast, ↓reduceIte, Nat.reduceEqDiff, reduceCtorEq, wz, h3]
        refine wpa_app (m := 1) rfl rfl rfl rfl (by simp) (by omega) (by omega) rfl ?_
        simp (maxSteps := 1000000) (implicitDefEqProofs := false) (disch := omega) only [push_cast, ↓reduceIte, Nat.reduceEqDiff, reduceCtorEq, wz, hρ]
        refine hN (k + 1) _ _ ?_ (by omega)
        simp (maxSteps := 1000000) (implicitDefEqProofs := false) (disch := omega) only [push_cast, ↓reduceIte, Nat.reduceEqDiff, reduceCtorEq, wz, hρ, hs]
        exact ⟨by omega, w + 1, _, by simp [aInt, AV.cells, Value.cells], rfl⟩
    · simp (maxSteps := 1000000) (implicitDefEqProofs := false) (disch := omega) only [push_cast, ↓reduceIte, Nat.reduceEqDiff, reduceCtorEq, wz, hρ]
      obtain rfl : k = l.length := by omega
      rw [List.take_length] at h3
      exact hE _ _ ⟨.id 0 w 1, by simp (maxSteps := 1000000) (implicitDefEqProofs := false) (disch := omega) only [push_cast, ↓reduceIte, Nat.reduceEqDiff, reduceCtorEq, wz, h3]⟩
  · rintro ε σ ⟨t, h3⟩
    simp (maxSteps := 1000000) (implicitDefEqProofs := false) (disch := omega) only [push_cast, ↓reduceIte, Nat.reduceEqDiff, reduceCtorEq, wz, h3]
    exact fin_res [] (aInts_res _ _ _) (aInts_pure _)
theorem log_New_a : FnG Try.prog 10 [] [] fun a σ => a = .ref 0 0 0 ∧ σ = [.obj 0 [.sl 0 [] .nil]] := by
  refine fnG_in K_log_New mixed rfl ?_
  simp only [S_log_New]
  simp (maxSteps := 1000000) (implicitDefEqProofs := false) (disch := omega) only [push_cast, ↓reduceIte, Nat.reduceEqDiff, reduceCtorEq, wz, fillA]
  refine wpa_box ?_
  simp (maxSteps := 1000000) (implicitDefEqProofs := false) (disch := omega) only [push_cast, ↓reduceIte, Nat.reduceEqDiff, reduceCtorEq, wz, AV.cells]
  exact trivial
theorem cells1 (a : AV) (t : List AV) (n : Nat) (cs : List AV) (tk : Tok) : (AV.sl n cs tk).cells = [AV.sl n cs tk] := rfl
theorem ex_nil4 : (AV.sl 0 [] .nil).exact = true := rfl
theorem ex_id4 (n : Nat) (cs : List AV) (i w s : Nat) : (AV.sl n cs (.id i w s)).exact = true := rfl
/-- The log's events, and who may append to them. -/
def EvTok (n : Nat) (T : Tok) (τ : List Res) : Prop := (T = .nil ∧ n = 0) ∨ ∃ j v, T = .id (j + 1) v 4 ∧ τ[j]? = some (.tail v)
def EvAt (l : List Ev) (σ : Kx.St) : Prop := ∃ T τ, σ = .obj 0 [.sl l.length (l.flatMap aEv) T] :: τ ∧ EvTok l.length T τ
theorem log_Note_a (e : Ev) (l : List Ev) {σ : Kx.St} (hσ : EvAt l σ) (hn : l.length ≤ 1000000) :
    FnG Try.prog 11 [.ref 0 0 0, .agg (aEv e)] σ fun _ σ => EvAt (l ++ [e]) σ := by
  obtain ⟨T, τ, rfl, hT⟩ := hσ
  refine fnG_in K_log_Log_Note mixed rfl ?_
  simp only [S_log_Log_Note]
  have hcl : (AV.agg (aEv e)).cells = aEv e := rfl
  simp (maxSteps := 1000000) (implicitDefEqProofs := false) (disch := omega) only [push_cast, ↓reduceIte, Nat.reduceEqDiff, reduceCtorEq, wz]
  refine wpa_box ?_
  simp (maxSteps := 1000000) (implicitDefEqProofs := false) (disch := omega) only [push_cast, ↓reduceIte, Nat.reduceEqDiff, reduceCtorEq, wz, hcl, set_snoc, at_snoc, List.cons_append, cells4]
  refine wpa_bsl (sz := 4) (by intro a ha; simp at ha; subst ha; rfl) (by simp) ?_
  have e1 : (l ++ [e]).length = l.length + 1 := by simp
  have e2 : (l ++ [e]).flatMap aEv = l.flatMap aEv ++ aEv e := by simp
  rcases hT with ⟨rfl, hn0⟩ | ⟨j, v, rfl, hj⟩
  · obtain rfl : l = [] := List.length_eq_zero_iff.1 hn0
    simp (maxSteps := 1000000) (implicitDefEqProofs := false) (disch := omega) only [push_cast, ↓reduceIte, Nat.reduceEqDiff, reduceCtorEq, wz, hcl, at_snoc, List.cons_append]
    refine ⟨aholds_e (by simp (maxSteps := 1000000) (implicitDefEqProofs := false) (disch := omega) only [push_cast, ↓reduceIte, Nat.reduceEqDiff, reduceCtorEq, wz, ex_nil4]), ?_⟩
    refine wpa_app_nil (m := 1) rfl rfl (by simp [aEv]) rfl (by omega) (by omega) ?_
    simp (maxSteps := 1000000) (implicitDefEqProofs := false) (disch := omega) only [push_cast, ↓reduceIte, Nat.reduceEqDiff, reduceCtorEq, wz]
    refine wpa_st1 rfl rfl rfl (by simp) ?_
    simp (maxSteps := 1000000) (implicitDefEqProofs := false) (disch := omega) only [push_cast, ↓reduceIte, Nat.reduceEqDiff, reduceCtorEq, wz, List.cons_append]
    exact ⟨_, _, rfl, .inr ⟨_, _, rfl, at_snoc _ _⟩⟩
  · simp (maxSteps := 1000000) (implicitDefEqProofs := false) (disch := omega) only [push_cast, ↓reduceIte, Nat.reduceEqDiff, reduceCtorEq, wz, hcl, at_snoc, List.cons_append]
    refine ⟨aholds_e (by simp (maxSteps := 1000000) (implicitDefEqProofs := false) (disch := omega) only [push_cast, ↓reduceIte, Nat.reduceEqDiff, reduceCtorEq, wz, ex_id4]), ?_⟩
    have hj2 : (Res.obj 0 [AV.sl l.length (l.flatMap aEv) (.id (j + 1) v 4)] :: (τ ++ [Res.obj 0 (aEv e)]))[j + 1]? = some (.tail v) := get_app hj
    refine wpa_app (m := 1) rfl rfl (by simp [aEv]) rfl (flat_len aEv_len l) (by omega) (by omega) hj2 ?_
    simp (maxSteps := 1000000) (implicitDefEqProofs := false) (disch := omega) only [push_cast, ↓reduceIte, Nat.reduceEqDiff, reduceCtorEq, wz]
    refine wpa_st1 rfl rfl rfl (by simp) ?_
    simp (maxSteps := 1000000) (implicitDefEqProofs := false) (disch := omega) only [push_cast, ↓reduceIte, Nat.reduceEqDiff, reduceCtorEq, wz]
    exact ⟨_, _, by rw [e1, e2, List.append_nil], .inr ⟨_, _, rfl, get_set_eq (get_app hj)⟩⟩
theorem law05_Ints_a (l k : List Int) (hl : l.length ≤ 1000000) (hk : k.length ≤ 1000000) : FnP Try.prog 45 [aInts l, aInts k] fun a => a = aBool (l == k) := by
  refine fnP_in K_forebaylaw05_Ints mixed rfl (by simp [AV.pureL, aInts_pure]) ?_
  simp only [S_forebaylaw05_Ints, aInts, aSl]
  by_cases hle : l.length = k.length
  · simp (maxSteps := 1000000) (implicitDefEqProofs := false) (disch := omega) only [push_cast, ↓reduceIte, Nat.reduceEqDiff, reduceCtorEq, wz, hle]
    refine wpa_bl (α := Nat) (I := fun t ε σ => (ε 0 = .sl l.length (l.map aInt) .none ∧ ε 1 = .sl k.length (k.map aInt) .none ∧ ε 5 = .v (.int .i64 t)) ∧ t ≤ l.length ∧ l.take t = k.take t)
      (μ := fun t => l.length - t) (Q := fun _ _ => l = k) (x := 0) ?_ ?_ ?_
    · simp (maxSteps := 1000000) (implicitDefEqProofs := false) (disch := omega) only [push_cast, ↓reduceIte, Nat.reduceEqDiff, reduceCtorEq, wz, hle]
      omega
    · rintro t ε σ N E ⟨hρ, ht, heq⟩ hN hE
      simp only [S_forebaylaw05_Ints_L1]
      by_cases hlt : t < l.length
      · obtain ⟨x, hx⟩ := at_lt hlt
        obtain ⟨y, hy⟩ := at_lt (l := k) (k := t) (by omega)
        by_cases he : x = y
        · subst he
          simp (maxSteps := 1000000) (implicitDefEqProofs := false) (disch := omega) only [push_cast, ↓reduceIte, Nat.reduceEqDiff, reduceCtorEq, wz, hρ, hx, hy, aInt]
          refine hN (t + 1) _ _ ?_ (by omega)
          simp (maxSteps := 1000000) (implicitDefEqProofs := false) (disch := omega) only [push_cast, ↓reduceIte, Nat.reduceEqDiff, reduceCtorEq, wz, hρ]
          exact ⟨by omega, by rw [take_succ_at hx, take_succ_at hy, heq]⟩
        · simp (maxSteps := 1000000) (implicitDefEqProofs := false) (disch := omega) only [push_cast, ↓reduceIte, Nat.reduceEqDiff, reduceCtorEq, wz, hρ, hx, hy, aInt, he]
          refine fin_v ?_
          have : l ≠ k := by
            intro e; subst e; rw [hx] at hy; cases hy; exact he rfl
          simp [aBool, this]
      · simp (maxSteps := 1000000) (implicitDefEqProofs := false) (disch := omega) only [push_cast, ↓reduceIte, Nat.reduceEqDiff, reduceCtorEq, wz, hρ]
        refine hE _ _ ?_
        rwa [List.take_of_length_le (by omega), List.take_of_length_le (by omega)] at heq
    · intro ε σ h
      simp (maxSteps := 1000000) (implicitDefEqProofs := false) (disch := omega) only [push_cast, ↓reduceIte, Nat.reduceEqDiff, reduceCtorEq, wz]
      exact fin_v (by simp [aBool, h])
  · simp (maxSteps := 1000000) (implicitDefEqProofs := false) (disch := omega) only [push_cast, ↓reduceIte, Nat.reduceEqDiff, reduceCtorEq, wz, hle]
    refine fin_v ?_
    have : l ≠ k := by intro e; subst e; exact hle rfl
    simp [aBool, this]
theorem beq_self (l : List Int) : (l == l) = true := by simp
end Go.Proofs.Ythgmfjkbgacfaaa
