/- Contracts: package reach. -/
import Derived.Test.YtilofhocodbknaaTa
namespace Go.Proofs.Ytilofhocodbknaa
set_option linter.unusedVariables false
set_option linter.unusedSimpArgs false
open Go Go.Kx Go.Proofs

def SetR (g : PH) (u : Value) (ws : List Nat) : Prop := RSl g u ws.length 1 (ws.map fun w : Nat => .int .u64 (w : Int)) ∧ ∀ w ∈ ws, w < 18446744073709551616
theorem SetR.up {g g' : PH} (h : PH.le g g') {v : Value} {ws : List Nat} (H : SetR g v ws) : SetR g' v ws := ⟨H.1.up h, H.2⟩
theorem SetR.at {g : PH} {v : Value} {ws : List Nat} (H : SetR g v ws) {k : Nat} (hk : k < ws.length) :
    ws[k] < 18446744073709551616 ∧ ∃ p, PF.val (.ixa 1) [v, .int .i64 k] = some p ∧ ldV none p g = some (.int .u64 (ws[k] : Nat)) :=
  ⟨H.2 _ (List.getElem_mem hk), H.1.at1 (by simp [hk])⟩
/-- What a *Reach reads as: for each thing its words; nil as none. -/
def ReachR (g : PH) (r : Value) (M : List (List Nat)) : Prop := (r = .pointer none ∧ M = []) ∨ ∃ b v, r = .pointer (some ⟨b, 0, none⟩) ∧ cellG g b 0 = some v ∧ RSs SetR g v M
theorem ReachR.up {g g' : PH} (h : PH.le g g') {v : Value} {M : List (List Nat)} (H : ReachR g v M) : ReachR g' v M := by
  rcases H with H | ⟨b, u, h1, h2, h3⟩
  · exact .inl H
  · exact .inr ⟨b, u, h1, cellG_up h h2, h3.up h fun _ _ H => H.up h⟩
def wfM (M : List (List Nat)) : Prop := ∀ (i : Nat) (ws : List Nat), M[i]? = some ws → ws.length = i / 64 + 1
def bitM (M : List (List Nat)) (j i : Nat) : Bool := ((M.getD i []).getD (j / 64) 0).testBit (j % 64)
def inB (M : List (List Nat)) (n : Int) : Prop := 0 ≤ n ∧ n < (M.length : Int)
instance (M : List (List Nat)) (n : Int) : Decidable (inB M n) := inferInstanceAs (Decidable (_ ∧ _))

theorem reach_Len_fn (M : List (List Nat)) (r : Value) (h : Heap) (hr : ReachR (hp h) r M) :
    FnC Try.prog 50 #[r] h fun x h' => h' = h ∧ x = .int .i64 M.length := by
  refine fn_in K_reach_Reach_Len mixed (args := [r]) rfl ?_
  simp only [S_reach_Reach_Len]
  rcases hr with ⟨rfl, rfl⟩ | ⟨b, v, rfl, h1, h2⟩
  · simp (maxSteps := 1000000) (implicitDefEqProofs := false) (disch := omega) only [push_cast, ↓reduceIte, Nat.reduceEqDiff, reduceCtorEq, decide_true, decide_false, Bool.not_true, Bool.not_false, Option.isNone_some, Option.isNone_none, Option.isNone_none]
    exact ⟨trivial, rfl⟩
  · have hl := h2.len
    simp (maxSteps := 1000000) (implicitDefEqProofs := false) (disch := omega) only [push_cast, ↓reduceIte, Nat.reduceEqDiff, reduceCtorEq, decide_true, decide_false, Bool.not_true, Bool.not_false, Option.isNone_some, Option.isNone_none, Option.isNone_some, h1, hl, Nat.add_zero]
    exact ⟨trivial, trivial⟩

theorem reach_is_fn (M : List (List Nat)) (r : Value) (n : Int) (h : Heap) (hr : ReachR (hp h) r M) :
    FnC Try.prog 96 #[r, .int .i64 n] h fun x h' => h' = h ∧ x = .bool (decide (inB M n)) := by
  refine fn_in K_reach_Reach_is mixed (args := [r, .int .i64 n]) rfl ?_
  simp only [S_reach_Reach_is]
  by_cases h0 : 0 ≤ n
  · simp (maxSteps := 1000000) (implicitDefEqProofs := false) (disch := omega) only [push_cast, ↓reduceIte, Nat.reduceEqDiff, reduceCtorEq, decide_true, decide_false, Bool.not_true, Bool.not_false, Option.isNone_some, Option.isNone_none, h0, decide_true]
    refine wp_call (reach_Len_fn M r h hr) ?_
    rintro x h' ⟨rfl, rfl⟩
    simp (maxSteps := 1000000) (implicitDefEqProofs := false) (disch := omega) only [push_cast, ↓reduceIte, Nat.reduceEqDiff, reduceCtorEq, decide_true, decide_false, Bool.not_true, Bool.not_false, Option.isNone_some, Option.isNone_none]
    exact ⟨trivial, by simp [inB, h0]⟩
  · simp (maxSteps := 1000000) (implicitDefEqProofs := false) (disch := omega) only [push_cast, ↓reduceIte, Nat.reduceEqDiff, reduceCtorEq, decide_true, decide_false, Bool.not_true, Bool.not_false, Option.isNone_some, Option.isNone_none, h0, decide_false]
    exact ⟨trivial, by simp [inB, h0]⟩


theorem reach_Before_fn (M : List (List Nat)) (hM : wfM M) (r : Value) (a b : Int) (h : Heap) (hr : ReachR (hp h) r M) :
    FnC Try.prog 51 #[r, .int .i64 a, .int .i64 b] h fun x h' => h' = h ∧ x = .bool (decide (inB M a ∧ inB M b ∧ a < b) && bitM M a.toNat b.toNat) := by
  refine fn_in K_reach_Reach_Before mixed (args := [r, .int .i64 a, .int .i64 b]) rfl ?_
  simp only [S_reach_Reach_Before]
  simp (maxSteps := 1000000) (implicitDefEqProofs := false) (disch := omega) only [push_cast, ↓reduceIte, Nat.reduceEqDiff, reduceCtorEq, decide_true, decide_false, Bool.not_true, Bool.not_false, Option.isNone_some, Option.isNone_none]
  refine wp_call (reach_is_fn M r a h hr) ?_
  rintro x h' ⟨rfl, rfl⟩
  by_cases ha : inB M a
  · simp (maxSteps := 1000000) (implicitDefEqProofs := false) (disch := omega) only [push_cast, ↓reduceIte, Nat.reduceEqDiff, reduceCtorEq, decide_true, decide_false, Bool.not_true, Bool.not_false, Option.isNone_some, Option.isNone_none, ha, decide_true]
    refine wp_call (reach_is_fn M r b h' hr) ?_
    rintro x h' ⟨rfl, rfl⟩
    by_cases hb : inB M b
    · by_cases hab : a < b
      · rcases hr with ⟨rfl, rfl⟩ | ⟨p, v, rfl, h1, h2⟩
        · exact absurd ha.2 (by simpa using ha.1)
        · obtain ⟨a, rfl⟩ : ∃ t : Nat, a = t := ⟨a.toNat, by have := ha.1; omega⟩
          obtain ⟨b, rfl⟩ : ∃ t : Nat, b = t := ⟨b.toNat, by have := hb.1; omega⟩
          have hbl : b < M.length := by have := hb.2; omega
          have hml := h2.le
          obtain ⟨u, q, hu, e1, e2⟩ := h2.at hbl
          have hwl := hM b M[b] (List.getElem?_eq_getElem hbl)
          obtain ⟨hw, q2, e3, e4⟩ := hu.at (k := a / 64) (by omega)
          push_cast at e3
          simp (maxSteps := 1000000) (implicitDefEqProofs := false) (disch := omega) only [push_cast, ↓reduceIte, Nat.reduceEqDiff, reduceCtorEq, decide_true, decide_false, Bool.not_true, Bool.not_false, Option.isNone_some, Option.isNone_none, hb, decide_true, h1, e1, e2, e3, e4, Nat.add_zero]
          refine ⟨trivial, ?_⟩
          rw [mod64, bit_spec]
          have hal : a / 64 < M[b].length := by omega
          simp [bitM, hab, List.getD_eq_getElem?_getD, hbl, hal]
      · simp (maxSteps := 1000000) (implicitDefEqProofs := false) (disch := omega) only [push_cast, ↓reduceIte, Nat.reduceEqDiff, reduceCtorEq, decide_true, decide_false, Bool.not_true, Bool.not_false, Option.isNone_some, Option.isNone_none, hb, decide_true]
        exact ⟨trivial, by simp [hab]⟩
    · simp (maxSteps := 1000000) (implicitDefEqProofs := false) (disch := omega) only [push_cast, ↓reduceIte, Nat.reduceEqDiff, reduceCtorEq, decide_true, decide_false, Bool.not_true, Bool.not_false, Option.isNone_some, Option.isNone_none, hb, decide_false]
      exact ⟨trivial, by simp [hb]⟩
  · simp (maxSteps := 1000000) (implicitDefEqProofs := false) (disch := omega) only [push_cast, ↓reduceIte, Nat.reduceEqDiff, reduceCtorEq, decide_true, decide_false, Bool.not_true, Bool.not_false, Option.isNone_some, Option.isNone_none, ha, decide_false]
    exact ⟨trivial, by simp [ha]⟩

theorem reach_Apart_fn (M : List (List Nat)) (hM : wfM M) (r : Value) (a b : Int) (h : Heap) (hr : ReachR (hp h) r M) :
    FnC Try.prog 52 #[r, .int .i64 a, .int .i64 b] h fun x h' => h' = h ∧ x = .bool (decide (inB M a ∧ inB M b ∧ a ≠ b) && !(decide (a < b) && bitM M a.toNat b.toNat) && !(decide (b < a) && bitM M b.toNat a.toNat)) := by
  refine fn_in K_reach_Reach_Apart mixed (args := [r, .int .i64 a, .int .i64 b]) rfl ?_
  simp only [S_reach_Reach_Apart]
  simp (maxSteps := 1000000) (implicitDefEqProofs := false) (disch := omega) only [push_cast, ↓reduceIte, Nat.reduceEqDiff, reduceCtorEq, decide_true, decide_false, Bool.not_true, Bool.not_false, Option.isNone_some, Option.isNone_none]
  refine wp_call (reach_is_fn M r a h hr) ?_
  rintro x h' ⟨rfl, rfl⟩
  by_cases ha : inB M a
  · simp (maxSteps := 1000000) (implicitDefEqProofs := false) (disch := omega) only [push_cast, ↓reduceIte, Nat.reduceEqDiff, reduceCtorEq, decide_true, decide_false, Bool.not_true, Bool.not_false, Option.isNone_some, Option.isNone_none, ha, decide_true]
    refine wp_call (reach_is_fn M r b h' hr) ?_
    rintro x h' ⟨rfl, rfl⟩
    by_cases hb : inB M b
    · by_cases hab : a ≠ b
      · simp (maxSteps := 1000000) (implicitDefEqProofs := false) (disch := omega) only [push_cast, ↓reduceIte, Nat.reduceEqDiff, reduceCtorEq, decide_true, decide_false, Bool.not_true, Bool.not_false, Option.isNone_some, Option.isNone_none, hb, decide_true]
        refine wp_call (reach_Before_fn M hM r a b h' hr) ?_
        rintro x h' ⟨rfl, rfl⟩
        by_cases h1 : (decide (inB M a ∧ inB M b ∧ a < b) && bitM M a.toNat b.toNat) = true
        · simp (maxSteps := 1000000) (implicitDefEqProofs := false) (disch := omega) only [push_cast, ↓reduceIte, Nat.reduceEqDiff, reduceCtorEq, decide_true, decide_false, Bool.not_true, Bool.not_false, Option.isNone_some, Option.isNone_none, h1, Bool.not_true]
          refine ⟨trivial, ?_⟩
          simp [ha, hb] at h1
          simp [h1]
        · have h1' : (decide (inB M a ∧ inB M b ∧ a < b) && bitM M a.toNat b.toNat) = false := by simpa using h1
          simp (maxSteps := 1000000) (implicitDefEqProofs := false) (disch := omega) only [push_cast, ↓reduceIte, Nat.reduceEqDiff, reduceCtorEq, decide_true, decide_false, Bool.not_true, Bool.not_false, Option.isNone_some, Option.isNone_none, h1', Bool.not_false]
          refine wp_call (reach_Before_fn M hM r b a h' hr) ?_
          rintro x h' ⟨rfl, rfl⟩
          simp (maxSteps := 1000000) (implicitDefEqProofs := false) (disch := omega) only [push_cast, ↓reduceIte, Nat.reduceEqDiff, reduceCtorEq, decide_true, decide_false, Bool.not_true, Bool.not_false, Option.isNone_some, Option.isNone_none]
          refine ⟨trivial, ?_⟩
          congr 1
          simp [ha, hb] at h1' ⊢
          rcases Int.lt_or_gt_of_ne hab with hlt | hgt
          · simp [hab, hlt, h1' hlt, show ¬ b < a by omega]
          · simp [hab, hgt, show ¬ a < b by omega, show ¬ a ≤ b by omega]
            omega
      · simp (maxSteps := 1000000) (implicitDefEqProofs := false) (disch := omega) only [push_cast, ↓reduceIte, Nat.reduceEqDiff, reduceCtorEq, decide_true, decide_false, Bool.not_true, Bool.not_false, Option.isNone_some, Option.isNone_none, hb, decide_true]
        exact ⟨trivial, by simp [hab]⟩
    · simp (maxSteps := 1000000) (implicitDefEqProofs := false) (disch := omega) only [push_cast, ↓reduceIte, Nat.reduceEqDiff, reduceCtorEq, decide_true, decide_false, Bool.not_true, Bool.not_false, Option.isNone_some, Option.isNone_none, hb, decide_false]
      exact ⟨trivial, by simp [hb]⟩
  · simp (maxSteps := 1000000) (implicitDefEqProofs := false) (disch := omega) only [push_cast, ↓reduceIte, Nat.reduceEqDiff, reduceCtorEq, decide_true, decide_false, Bool.not_true, Bool.not_false, Option.isNone_some, Option.isNone_none, ha, decide_false]
    exact ⟨trivial, by simp [ha]⟩

end Go.Proofs.Ytilofhocodbknaa
