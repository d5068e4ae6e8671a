import Derived.Test.YtilofhocodbknaaKo
import Derived.Test.YtilofhocodbknaaCode
namespace Go.Proofs.Ytilofhocodbknaa
set_option linter.unusedVariables false
set_option linter.unusedSimpArgs false
open Go Go.Kx Go.Proofs

theorem mixed : Try.prog.follows .mixedOrders = true := by kernel_rfl

/-- every predecessor is a number below its own -/
def okP (xss : List (List Int)) : Prop := ∀ (i : Nat) (l : List Int), xss[i]? = some l → ∀ p ∈ l, 0 ≤ p ∧ p < (i : Int)

open Classical in
/-- what is wrong with predecessors: an error's number -/
noncomputable def chk (xss : List (List Int)) : Int := if 1000 < xss.length then 9 else if okP xss then 0 else 3
theorem chk_zero {xss : List (List Int)} : chk xss = 0 ↔ xss.length ≤ 1000 ∧ okP xss := by
  unfold chk
  by_cases h1 : 1000 < xss.length <;> by_cases h2 : okP xss <;> simp [h1, h2] <;> omega
def chkR (xss : List (List Int)) (r : Value) : Prop := (1000 < xss.length ∧ r = .int .i64 9) ∨ (xss.length ≤ 1000 ∧ ¬ okP xss ∧ r = .int .i64 3) ∨ (xss.length ≤ 1000 ∧ okP xss ∧ r = .int .i64 0)

theorem reach_check_fn (xss : List (List Int)) (v : Value) (h : Heap) (hv : Ints2 (hp h) v xss) :
    FnC Try.prog 94 #[v] h fun r h' => h' = h ∧ chkR xss r := by
  have hle := hv.le
  have hlen := hv.len
  refine fn_in K_reach_check mixed (args := [v]) rfl ?_
  simp only [S_reach_check]
  simp (maxSteps := 1000000) (implicitDefEqProofs := false) (disch := omega) only [push_cast, ↓reduceIte, Nat.reduceEqDiff, reduceCtorEq, decide_true, decide_false, Bool.not_true, Bool.not_false, Option.isNone_some, Option.isNone_none, hlen]
  refine cnd_dec (fun hgt => ?_) (fun hgt => ?_)
  · simp (maxSteps := 1000000) (implicitDefEqProofs := false) (disch := omega) only [push_cast, ↓reduceIte, Nat.reduceEqDiff, reduceCtorEq, decide_true, decide_false, Bool.not_true, Bool.not_false, Option.isNone_some, Option.isNone_none]
    exact ⟨trivial, .inl ⟨by omega, rfl⟩⟩
  · simp (maxSteps := 1000000) (implicitDefEqProofs := false) (disch := omega) only [push_cast, ↓reduceIte, Nat.reduceEqDiff, reduceCtorEq, decide_true, decide_false, Bool.not_true, Bool.not_false, Option.isNone_some, Option.isNone_none, hlen]
    refine wp_bl (α := Nat) (I := fun k ρ h' => h' = h ∧ k ≤ xss.length ∧ ρ 10 = v ∧ ρ 11 = .int .i64 xss.length ∧ ρ 12 = .int .i64 k ∧
      ∀ (i : Nat) (l : List Int), i < k → xss[i]? = some l → ∀ p ∈ l, 0 ≤ p ∧ p < (i : Int)) (μ := fun k => xss.length - k) (Q := fun _ h' => h' = h ∧ okP xss) (x := 0) ?_ ?_ ?_
    · simp (maxSteps := 1000000) (implicitDefEqProofs := false) (disch := omega) only [push_cast, ↓reduceIte, Nat.reduceEqDiff, reduceCtorEq, decide_true, decide_false, Bool.not_true, Bool.not_false, Option.isNone_some, Option.isNone_none]
      exact ⟨trivial, by omega, trivial, trivial, trivial, fun i l hi => by omega⟩
    · rintro k ρ h' N E ⟨rfl, hk, e10, e11, e12, hall⟩ hN hE
      simp only [S_reach_check_L1]
      by_cases hlt : k < xss.length
      · obtain ⟨u, p, hu, e1, e2⟩ := hv.at hlt
        have hul := hu.1.len
        have hul2 := hu.1.le
        simp (maxSteps := 1000000) (implicitDefEqProofs := false) (disch := omega) only [push_cast, ↓reduceIte, Nat.reduceEqDiff, reduceCtorEq, decide_true, decide_false, Bool.not_true, Bool.not_false, Option.isNone_some, Option.isNone_none, e10, e11, e12, e1, e2, hlt, decide_true, Int.ofNat_lt, hul]
        refine wp_bl (α := Nat) (I := fun j ρ h'' => h'' = h' ∧ j ≤ xss[k].length ∧ ρ 10 = v ∧ ρ 11 = .int .i64 xss.length ∧ ρ 12 = .int .i64 k ∧ ρ 3 = .int .i64 k ∧ ρ 17 = u ∧ ρ 18 = .int .i64 xss[k].length ∧ ρ 19 = .int .i64 j ∧
          ∀ q ∈ xss[k].take j, 0 ≤ q ∧ q < (k : Int)) (μ := fun j => xss[k].length - j) (Q := fun ρ h'' => h'' = h' ∧ ρ 10 = v ∧ ρ 11 = .int .i64 xss.length ∧ ρ 12 = .int .i64 k ∧ ∀ q ∈ xss[k], 0 ≤ q ∧ q < (k : Int)) (x := 0) ?_ ?_ ?_
        · simp (maxSteps := 1000000) (implicitDefEqProofs := false) (disch := omega) only [push_cast, ↓reduceIte, Nat.reduceEqDiff, reduceCtorEq, decide_true, decide_false, Bool.not_true, Bool.not_false, Option.isNone_some, Option.isNone_none, e10, e11, e12]
          refine ⟨trivial, by omega, trivial, trivial, trivial, trivial, trivial, trivial, trivial, by simp⟩
        · rintro j ρ h'' N' E' ⟨rfl, hj, e10, e11, e12, e3, e17, e18, e19, hin⟩ hN' hE'
          simp only [S_reach_check_L2]
          by_cases hjl : j < xss[k].length
          · obtain ⟨hin2, p2, e4, e5⟩ := hu.at hjl
            have hbad : (xss[k][j] < 0 ∨ (k : Int) ≤ xss[k][j]) → ¬ okP xss := by
              intro hb hok
              have := hok k _ (List.getElem?_eq_getElem hlt) _ (List.getElem_mem hjl)
              omega
            by_cases hb1 : xss[k][j] < 0
            · simp (maxSteps := 1000000) (implicitDefEqProofs := false) (disch := omega) only [push_cast, ↓reduceIte, Nat.reduceEqDiff, reduceCtorEq, decide_true, decide_false, Bool.not_true, Bool.not_false, Option.isNone_some, Option.isNone_none, e17, e18, e19, e4, e5, hjl, decide_true, Int.ofNat_lt, e3, hb1]
              exact ⟨trivial, .inr (.inl ⟨by omega, hbad (.inl hb1), rfl⟩)⟩
            · by_cases hb2 : (k : Int) ≤ xss[k][j]
              · simp (maxSteps := 1000000) (implicitDefEqProofs := false) (disch := omega) only [push_cast, ↓reduceIte, Nat.reduceEqDiff, reduceCtorEq, decide_true, decide_false, Bool.not_true, Bool.not_false, Option.isNone_some, Option.isNone_none, e17, e18, e19, e4, e5, hjl, decide_true, decide_false, Int.ofNat_lt, e3, hb1, hb2]
                exact ⟨trivial, .inr (.inl ⟨by omega, hbad (.inr hb2), rfl⟩)⟩
              · simp (maxSteps := 1000000) (implicitDefEqProofs := false) (disch := omega) only [push_cast, ↓reduceIte, Nat.reduceEqDiff, reduceCtorEq, decide_true, decide_false, Bool.not_true, Bool.not_false, Option.isNone_some, Option.isNone_none, e17, e18, e19, e4, e5, hjl, decide_true, decide_false, Int.ofNat_lt, e3, hb1, hb2]
                refine hN' (j + 1) _ _ ?_ (by omega)
                simp (maxSteps := 1000000) (implicitDefEqProofs := false) (disch := omega) only [push_cast, ↓reduceIte, Nat.reduceEqDiff, reduceCtorEq, decide_true, decide_false, Bool.not_true, Bool.not_false, Option.isNone_some, Option.isNone_none, e10, e11, e12, e3, e17, e18]
                refine ⟨trivial, by omega, trivial, trivial, trivial, trivial, trivial, trivial, trivial, ?_⟩
                intro q hq
                rw [List.take_succ_eq_append_getElem hjl, List.mem_append] at hq
                rcases hq with hq | hq
                · exact hin q hq
                · simp at hq; subst hq; omega
          · simp (maxSteps := 1000000) (implicitDefEqProofs := false) (disch := omega) only [push_cast, ↓reduceIte, Nat.reduceEqDiff, reduceCtorEq, decide_true, decide_false, Bool.not_true, Bool.not_false, Option.isNone_some, Option.isNone_none, e17, e18, e19, hjl, decide_false, Int.ofNat_lt, e3]
            refine hE' _ _ ?_
            simp (maxSteps := 1000000) (implicitDefEqProofs := false) (disch := omega) only [push_cast, ↓reduceIte, Nat.reduceEqDiff, reduceCtorEq, decide_true, decide_false, Bool.not_true, Bool.not_false, Option.isNone_some, Option.isNone_none, e10, e11, e12]
            refine ⟨trivial, trivial, trivial, trivial, ?_⟩
            rwa [List.take_of_length_le (by omega)] at hin
        · rintro ρ h'' ⟨rfl, e10, e11, e12, hin⟩
          simp (maxSteps := 1000000) (implicitDefEqProofs := false) (disch := omega) only [push_cast, ↓reduceIte, Nat.reduceEqDiff, reduceCtorEq, decide_true, decide_false, Bool.not_true, Bool.not_false, Option.isNone_some, Option.isNone_none, e10, e11, e12]
          refine hN (k + 1) _ _ ?_ (by omega)
          simp (maxSteps := 1000000) (implicitDefEqProofs := false) (disch := omega) only [push_cast, ↓reduceIte, Nat.reduceEqDiff, reduceCtorEq, decide_true, decide_false, Bool.not_true, Bool.not_false, Option.isNone_some, Option.isNone_none, e10, e11, e12]
          refine ⟨trivial, by omega, trivial, trivial, trivial, ?_⟩
          intro i l hi hl q hq
          by_cases hik : i = k
          · subst hik
            rw [List.getElem?_eq_getElem hlt] at hl
            cases hl
            exact hin q hq
          · exact hall i l (by omega) hl q hq
      · simp (maxSteps := 1000000) (implicitDefEqProofs := false) (disch := omega) only [push_cast, ↓reduceIte, Nat.reduceEqDiff, reduceCtorEq, decide_true, decide_false, Bool.not_true, Bool.not_false, Option.isNone_some, Option.isNone_none, e10, e11, e12, hlt, decide_false, Int.ofNat_lt]
        refine hE _ _ ⟨rfl, fun i l hl => hall i l ?_ hl⟩
        have := (List.getElem?_eq_some_iff.1 hl).1
        omega
    · rintro ρ h' ⟨rfl, hok⟩
      simp (maxSteps := 1000000) (implicitDefEqProofs := false) (disch := omega) only [push_cast, ↓reduceIte, Nat.reduceEqDiff, reduceCtorEq, decide_true, decide_false, Bool.not_true, Bool.not_false, Option.isNone_some, Option.isNone_none]
      exact ⟨trivial, .inr (.inr ⟨by omega, hok, rfl⟩)⟩

theorem chkR_chk {xss : List (List Int)} {r : Value} (h : chkR xss r) : r = .int .i64 (chk xss) := by
  unfold chk
  rcases h with ⟨h1, rfl⟩ | ⟨h1, h2, rfl⟩ | ⟨h1, h2, rfl⟩
  · rw [if_pos h1]
  · rw [if_neg (by omega), if_neg h2]
  · rw [if_neg (by omega), if_pos h2]

end Go.Proofs.Ytilofhocodbknaa
