/- Trace: works, own, few. -/
import Derived.Test.YthgmfjkbgacfaaaTri
namespace Go.Proofs.Ythgmfjkbgacfaaa
set_option linter.unusedVariables false
set_option linter.unusedSimpArgs false
open Go Go.Kx Go.Proofs
open Go.Proofs.Ythgmfjkbgacfaaa.Gr (CC aCC aCC_len aRow aRows aRows_pure)

def wR : List Ev := [⟨1, 1, 0, 0⟩, ⟨2, 1, 0, 0⟩, ⟨3, 1, 0, 3⟩, ⟨1, 1, 1, 0⟩, ⟨2, 1, 1, 0⟩, ⟨3, 1, 1, 3⟩, ⟨2, 1, 0, 3⟩, ⟨4, 1, 0, 3⟩, ⟨2, 1, 1, 3⟩, ⟨4, 1, 1, 3⟩, ⟨5, 1, 2, 0⟩]
def wR2 : List Ev := [⟨1, 1, 0, 0⟩, ⟨2, 1, 0, 0⟩, ⟨3, 1, 0, 3⟩, ⟨1, 1, 1, 0⟩, ⟨2, 1, 1, 0⟩, ⟨3, 1, 1, 3⟩, ⟨2, 1, 0, 3⟩, ⟨2, 1, 1, 3⟩, ⟨2, 1, 1, 3⟩, ⟨4, 1, 1, 3⟩, ⟨5, 1, 2, 0⟩]
theorem wR_check : checkF S0 0 wR = (0, 0) := by decide +kernel
theorem wR2_check : checkF S0 0 wR2 = (7, 1) := by decide +kernel
theorem wR_follows : followsF wR 1 = true := by decide +kernel
theorem wR_rows : (rowsF wR 1).length = 2 := by decide +kernel
theorem wR_begun : (begunF wR 1).length = 4 := by decide +kernel
theorem bE2 (a b : Int) : fillA [AV.v (.int .i64 0), AV.v (.int .i64 0), AV.v (.int .i64 0), AV.v (.int .i64 0)] [(0, 1), (1, 1)] [AV.v (.int .i64 a), AV.v (.int .i64 b)] = some (aEv ⟨a, b, 0, 0⟩) := by simp [fillA, AV.cells, Value.cells, setAtA, aEv]
theorem bE3 (a b c : Int) : fillA [AV.v (.int .i64 0), AV.v (.int .i64 0), AV.v (.int .i64 0), AV.v (.int .i64 0)] [(0, 1), (1, 1), (2, 1)] [AV.v (.int .i64 a), AV.v (.int .i64 b), AV.v (.int .i64 c)] = some (aEv ⟨a, b, c, 0⟩) := by simp [fillA, AV.cells, Value.cells, setAtA, aEv]
theorem bE3s (a b c : Int) : fillA [AV.v (.int .i64 0), AV.v (.int .i64 0), AV.v (.int .i64 0), AV.v (.int .i64 0)] [(0, 1), (1, 1), (3, 1)] [AV.v (.int .i64 a), AV.v (.int .i64 b), AV.v (.int .i64 c)] = some (aEv ⟨a, b, 0, c⟩) := by simp [fillA, AV.cells, Value.cells, setAtA, aEv]
theorem bE4 (a b c d : Int) : fillA [AV.v (.int .i64 0), AV.v (.int .i64 0), AV.v (.int .i64 0), AV.v (.int .i64 0)] [(0, 1), (1, 1), (2, 1), (3, 1)] [AV.v (.int .i64 a), AV.v (.int .i64 b), AV.v (.int .i64 c), AV.v (.int .i64 d)] = some (aEv ⟨a, b, c, d⟩) := by simp [fillA, AV.cells, Value.cells, setAtA, aEv]
theorem law34_right_a : FnP Try.prog 50 [] fun a => a = aEvs wR := by
  refine fnP_in K_forebaylaw34_right mixed rfl rfl ?_
  simp only [S_forebaylaw34_right]
  simp (maxSteps := 1000000) (implicitDefEqProofs := false) (disch := omega) only [push_cast, ↓reduceIte, Nat.reduceEqDiff, reduceCtorEq, wz, bE2, bE3, bE3s, bE4]
  refine wpa_bsl (sz := 4) (by intro a ha; simp at ha; rcases ha with rfl | rfl | rfl | rfl | rfl | rfl | rfl | rfl | rfl | rfl | rfl <;> rfl) (by simp) ?_
  simp (maxSteps := 1000000) (implicitDefEqProofs := false) (disch := omega) only [push_cast, ↓reduceIte, Nat.reduceEqDiff, reduceCtorEq, wz]
  exact fin_res [] rfl (aEvs_pure wR)
theorem law34_right_o (σ : Kx.St) : FnG Try.prog 50 [] σ fun a σ' => a = .ms σ.length 0 0 11 4 ∧ σ' = σ ++ [.obj 0 (wR.flatMap aEv)] := by
  refine fnG_in K_forebaylaw34_right mixed rfl ?_
  simp only [S_forebaylaw34_right]
  simp (maxSteps := 1000000) (implicitDefEqProofs := false) (disch := omega) only [push_cast, ↓reduceIte, Nat.reduceEqDiff, reduceCtorEq, wz, bE2, bE3, bE3s, bE4]
  refine wpa_bslo (sz := 4) (by intro a ha; simp at ha; rcases ha with rfl | rfl | rfl | rfl | rfl | rfl | rfl | rfl | rfl | rfl | rfl <;> rfl) (by simp) ?_
  simp (maxSteps := 1000000) (implicitDefEqProofs := false) (disch := omega) only [push_cast, ↓reduceIte, Nat.reduceEqDiff, reduceCtorEq, wz]
  exact rfl
theorem law34_own_o (l : List Ev) (hl : l.length ≤ 100000) (σ : Kx.St) : FnG Try.prog 16 [aEvs l] σ fun a σ' => a = .ms σ.length 1 0 l.length 4 ∧ σ' = σ ++ [.obj 1 (l.flatMap aEv)] := by
  refine fnG_in K_forebaylaw34_own mixed rfl ?_
  simp only [S_forebaylaw34_own, aEvs, aSlN]
  have hfl := flat_len aEv_len l
  have hone : (l.flatMap aEv).all AV.one = true := by
    rw [List.all_eq_true]
    intro a ha
    obtain ⟨e, _, he⟩ := List.mem_flatMap.1 ha
    simp only [aEv, List.mem_cons, List.not_mem_nil, or_false] at he
    rcases he with rfl | rfl | rfl | rfl <;> rfl
  simp (maxSteps := 1000000) (implicitDefEqProofs := false) (disch := omega) only [push_cast, ↓reduceIte, Nat.reduceEqDiff, reduceCtorEq, wz]
  refine wpa_bslo (sz := 4) (by simp) (by simp) ?_
  simp (maxSteps := 1000000) (implicitDefEqProofs := false) (disch := omega) only [push_cast, ↓reduceIte, Nat.reduceEqDiff, reduceCtorEq, wz]
  refine wpa_app_ms (n := 0) (m := l.length) rfl rfl hfl hone (by simp) (by omega) (by omega) (at_snoc _ _) ?_
  simp (maxSteps := 1000000) (implicitDefEqProofs := false) (disch := omega) only [push_cast, ↓reduceIte, Nat.reduceEqDiff, reduceCtorEq, wz, set_snoc]
  exact trivial
theorem law34_own_a (l : List Ev) (hl : l.length ≤ 100000) : FnP Try.prog 16 [aEvs l] fun a => a = aEvs l := by
  refine fnP_in K_forebaylaw34_own mixed rfl (by simp [AV.pureL, aEvs_pure]) ?_
  simp only [S_forebaylaw34_own, aEvs, aSlN]
  have hfl := flat_len aEv_len l
  have hone : (l.flatMap aEv).all AV.one = true := by
    rw [List.all_eq_true]
    intro a ha
    obtain ⟨e, _, he⟩ := List.mem_flatMap.1 ha
    simp only [aEv, List.mem_cons, List.not_mem_nil, or_false] at he
    rcases he with rfl | rfl | rfl | rfl <;> rfl
  simp (maxSteps := 1000000) (implicitDefEqProofs := false) (disch := omega) only [push_cast, ↓reduceIte, Nat.reduceEqDiff, reduceCtorEq, wz]
  refine wpa_bsl (sz := 4) (by simp) (by simp) ?_
  simp (maxSteps := 1000000) (implicitDefEqProofs := false) (disch := omega) only [push_cast, ↓reduceIte, Nat.reduceEqDiff, reduceCtorEq, wz]
  refine wpa_app_full0 (n := 0) (m := l.length) rfl rfl hfl hone (by simp) (by omega) (by omega) ?_
  simp (maxSteps := 1000000) (implicitDefEqProofs := false) (disch := omega) only [push_cast, ↓reduceIte, Nat.reduceEqDiff, reduceCtorEq, wz]
  exact fin_res [] (aEvs_res _ l .none) (aEvs_pure l)
theorem frz_obj0 (w : Nat) (l : List Ev) : Go.Kx.freeze [0] [Res.obj w (l.flatMap aEv)] = [.frz w (l.flatMap aEv)] := by
  have : AV.resL [Res.obj w (l.flatMap aEv)] (l.flatMap aEv) = l.flatMap aEv := resL_flat _ _ _ fun e => by simp [aEv, AV.resL, AV.res]
  simp [Go.Kx.freeze, freeze1, this]
set_option maxHeartbeats 4000000 in
theorem law34_works_a : FnP Try.prog 14 [] fun a => a = aBool true := by
  refine fnP_in K_forebaylaw34_works mixed rfl rfl ?_
  simp only [S_forebaylaw34_works]
  simp (maxSteps := 1000000) (implicitDefEqProofs := false) (disch := omega) only [push_cast, ↓reduceIte, Nat.reduceEqDiff, reduceCtorEq, wz]
  refine wpa_call law34_right_a ?_
  rintro a rfl
  simp (maxSteps := 1000000) (implicitDefEqProofs := false) (disch := omega) only [push_cast, ↓reduceIte, Nat.reduceEqDiff, reduceCtorEq, wz]
  refine wpa_call (trace_Check_a wR (by decide)) ?_
  rintro a rfl
  simp (maxSteps := 1000000) (implicitDefEqProofs := false) (disch := omega) only [push_cast, ↓reduceIte, Nat.reduceEqDiff, reduceCtorEq, wz, wR_check]
  refine wpa_callG (law34_right_o _) ?_
  rintro a σ ⟨rfl, rfl⟩
  have hd : (wR.flatMap aEv).drop (Int.toNat 8 * 4) = aEv ⟨2, 1, 1, 3⟩ ++ (aEv ⟨4, 1, 1, 3⟩ ++ aEv ⟨5, 1, 2, 0⟩) := rfl
  have hc : cellsA (some 4) (aEv ⟨2, 1, 1, 3⟩ ++ (aEv ⟨4, 1, 1, 3⟩ ++ aEv ⟨5, 1, 2, 0⟩)) = some (.agg (aEv ⟨2, 1, 1, 3⟩)) := rfl
  simp (maxSteps := 1000000) (implicitDefEqProofs := false) (disch := omega) only [push_cast, ↓reduceIte, Nat.reduceEqDiff, reduceCtorEq, wz, hd, hc]
  refine wpa_stn (aEv_len _) (by rfl) (rfl : [Res.obj 0 (wR.flatMap aEv)][0]? = _) (by decide +kernel) ?_
  have hs2 : setAtA (wR.flatMap aEv) (Int.toNat 7 * 4) (aEv ⟨2, 1, 1, 3⟩) = wR2.flatMap aEv := rfl
  rw [hs2]
  simp (maxSteps := 1000000) (implicitDefEqProofs := false) (disch := omega) only [push_cast, ↓reduceIte, Nat.reduceEqDiff, reduceCtorEq, wz]
  refine wpa_callw [0] [true] (trace_Check_a wR2 (by decide)) (by simp only [weak, if_true]; rw [frz_obj0]; rfl) ?_
  rintro a rfl
  rw [frz_obj0]
  simp (maxSteps := 1000000) (implicitDefEqProofs := false) (disch := omega) only [push_cast, ↓reduceIte, Nat.reduceEqDiff, reduceCtorEq, wz, wR2_check, aInt]
  refine wpa_call law34_right_a ?_
  rintro a rfl
  simp (maxSteps := 1000000) (implicitDefEqProofs := false) (disch := omega) only [push_cast, ↓reduceIte, Nat.reduceEqDiff, reduceCtorEq, wz]
  refine wpa_call (trace_Follows_a wR 1 (by decide)) ?_
  rintro a rfl
  simp (maxSteps := 1000000) (implicitDefEqProofs := false) (disch := omega) only [push_cast, ↓reduceIte, Nat.reduceEqDiff, reduceCtorEq, wz, wR_follows, aBool]
  refine wpa_call law34_right_a ?_
  rintro a rfl
  simp (maxSteps := 1000000) (implicitDefEqProofs := false) (disch := omega) only [push_cast, ↓reduceIte, Nat.reduceEqDiff, reduceCtorEq, wz]
  refine wpa_call (trace_Rows_a wR 1 (by decide)) ?_
  rintro a rfl
  simp (maxSteps := 1000000) (implicitDefEqProofs := false) (disch := omega) only [push_cast, ↓reduceIte, Nat.reduceEqDiff, reduceCtorEq, wz, aRows, aSl, wR_rows]
  refine wpa_call law34_right_a ?_
  rintro a rfl
  simp (maxSteps := 1000000) (implicitDefEqProofs := false) (disch := omega) only [push_cast, ↓reduceIte, Nat.reduceEqDiff, reduceCtorEq, wz]
  refine wpa_call (trace_Begun_a wR 1 (by decide)) ?_
  rintro a rfl
  simp (maxSteps := 1000000) (implicitDefEqProofs := false) (disch := omega) only [push_cast, ↓reduceIte, Nat.reduceEqDiff, reduceCtorEq, wz, Gr.aNs, aSl, wR_begun]
  exact ⟨[], rfl⟩
/-- Has a loop few enough iterations and stages? -/
def fewF (rows : List (List CC)) : Bool := (rows.all fun r => decide (r.length ≤ 100)) && decide (rows.length ≤ 100)
theorem law34_few_a (l : List (List CC)) (hl : l.length ≤ 100000) (hl2 : ∀ r ∈ l, r.length ≤ 100000) : FnP Try.prog 32 [aRows l] fun a => a = aBool (fewF l) := by
  refine fnP_in K_forebaylaw34_few mixed rfl (by simp [AV.pureL, aRows_pure]) ?_
  simp only [S_forebaylaw34_few, aRows, aSl]
  simp (maxSteps := 1000000) (implicitDefEqProofs := false) (disch := omega) only [push_cast, ↓reduceIte, Nat.reduceEqDiff, reduceCtorEq, wz]
  refine wpa_bl (α := Nat) (I := fun k ε σ => (ε 0 = .sl l.length (l.map aRow) .none ∧ ε 3 = .v (.int .i64 k)) ∧ k ≤ l.length ∧ ((l.take k).all fun r => decide (r.length ≤ 100)) = true)
    (μ := fun k => l.length - k) (Q := fun ε σ => ε 0 = .sl l.length (l.map aRow) .none ∧ (l.all fun r => decide (r.length ≤ 100)) = true) (x := 0) ?_ ?_ ?_
  · simp (maxSteps := 1000000) (implicitDefEqProofs := false) (disch := omega) only [push_cast, ↓reduceIte, Nat.reduceEqDiff, reduceCtorEq, wz]
    exact ⟨by omega, rfl⟩
  · rintro k ε σ N E ⟨hρ, hk, hall⟩ hN hE
    simp only [S_forebaylaw34_few_L1]
    by_cases hlt : k < l.length
    · obtain ⟨r, hr⟩ := at_lt hlt
      have hrl := hl2 r (List.mem_of_getElem? hr)
      have hrx : (l.map aRow)[k]? = some (.sl r.length (r.flatMap aCC) .none) := by rw [List.getElem?_map, hr]; rfl
      by_cases h100 : 100 < r.length
      · have hF : fewF l = false := by
          unfold fewF
          rw [Bool.and_eq_false_iff]
          left
          rw [List.all_eq_false]
          exact ⟨r, List.mem_of_getElem? hr, by simp; omega⟩
        rw [hF]
        simp (maxSteps := 1000000) (implicitDefEqProofs := false) (disch := omega) only [push_cast, ↓reduceIte, Nat.reduceEqDiff, reduceCtorEq, wz, hρ, hrx, h100]
        exact ⟨[], rfl, rfl⟩
      · simp (maxSteps := 1000000) (implicitDefEqProofs := false) (disch := omega) only [push_cast, ↓reduceIte, Nat.reduceEqDiff, reduceCtorEq, wz, hρ, hrx, h100]
        refine hN (k + 1) _ _ ?_ (by omega)
        simp (maxSteps := 1000000) (implicitDefEqProofs := false) (disch := omega) only [push_cast, ↓reduceIte, Nat.reduceEqDiff, reduceCtorEq, wz, hρ]
        exact ⟨by omega, by rw [take_succ_at hr, List.all_append, hall]; simp; omega⟩
    · simp (maxSteps := 1000000) (implicitDefEqProofs := false) (disch := omega) only [push_cast, ↓reduceIte, Nat.reduceEqDiff, reduceCtorEq, wz, hρ]
      obtain rfl : k = l.length := by omega
      rw [List.take_length] at hall
      exact hE _ _ ⟨hρ.1, hall⟩
  · rintro ε σ ⟨hρ, hall⟩
    have hF : fewF l = decide (l.length ≤ 100) := by unfold fewF; rw [hall]; simp
    rw [hF]
    by_cases h : l.length ≤ 100
    · simp (maxSteps := 1000000) (implicitDefEqProofs := false) (disch := omega) only [push_cast, ↓reduceIte, Nat.reduceEqDiff, reduceCtorEq, wz, hρ, h]
      exact ⟨[], rfl, rfl⟩
    · simp (maxSteps := 1000000) (implicitDefEqProofs := false) (disch := omega) only [push_cast, ↓reduceIte, Nat.reduceEqDiff, reduceCtorEq, wz, hρ, h]
      exact ⟨[], rfl, rfl⟩
end Go.Proofs.Ythgmfjkbgacfaaa
