/- Contracts: reach.Order. -/
import Derived.Test.YtilofhocodbknaaRd
namespace Go.Proofs.Ytilofhocodbknaa
set_option linter.unusedVariables false
set_option linter.unusedSimpArgs false
open Go Go.Kx Go.Proofs

def ordAt (xss : List (List Int)) (l : List Int) (i : Nat) : Prop := ∃ (x : Nat) (ps : List Int), l[i]? = some (x : Int) ∧ xss[x]? = some ps ∧ (x : Int) ∉ l.take i ∧ ∀ p ∈ ps, p ∈ l.take i
def ordP (xss : List (List Int)) (l : List Int) : Prop := ∀ i, i < l.length → ordAt xss l i

def bools (xs : List Bool) : List Value := xs.map .bool
def tBool : TypeId := 4

set_option maxHeartbeats 1000000 in
theorem reach_Order_fn (xss : List (List Int)) (l : List Int) (v w : Value) (h : Heap) (hv : Ints2 (hp h) v xss) (hw : Ints (hp h) w l) (hs : xss.length ≤ 1002) :
    FnC Try.prog 55 #[v, w] h fun r h' => Sat [base h] h' ∧ ∃ b : Bool, r = .bool b ∧ (b = true ↔ ordP xss l) := by
  have hlen := hv.len
  have hwl := hw.1.len
  have hwe := hw.1.le
  refine fn_in K_reach_Order mixed (args := [v, w]) rfl ?_
  simp only [S_reach_Order]
  simp (maxSteps := 1000000) (implicitDefEqProofs := false) (disch := omega) only [push_cast, ↓reduceIte, Nat.reduceEqDiff, reduceCtorEq, decide_true, decide_false, Bool.not_true, Bool.not_false, Option.isNone_some, Option.isNone_none, hlen]
  refine wp_mks (Sat.start h) rfl (by omega) (by omega) ?_
  intro s h1 H1
  have hs0 : rep [Value.bool false] xss.length = bools (List.replicate xss.length false) := by rw [rep_one]; simp [bools]
  rw [hs0] at H1
  have H2 : Sat [base h, osl s 1 (bools (List.replicate xss.length false)) tBool] h1 := H1
  simp (maxSteps := 1000000) (implicitDefEqProofs := false) (disch := omega) only [push_cast, ↓reduceIte, Nat.reduceEqDiff, reduceCtorEq, decide_true, decide_false, Bool.not_true, Bool.not_false, Option.isNone_some, Option.isNone_none, hwl]
  refine wp_bl (α := Nat) (I := fun k ρ h2 => k ≤ l.length ∧ ρ 0 = v ∧ ρ 13 = w ∧ ρ 14 = .int .i64 l.length ∧ ρ 15 = .int .i64 k ∧ ρ 5 = s ∧ (∀ j, j < k → ordAt xss l j) ∧ (∀ x ∈ l.take k, 0 ≤ x ∧ x < (xss.length : Int)) ∧
      ∃ bs, bs.length = xss.length ∧ (∀ i : Nat, bs.getD i false = true ↔ (i : Int) ∈ l.take k) ∧ Sat [base h, osl s 1 (bools bs) tBool] h2) (μ := fun k => l.length - k)
      (Q := fun ρ h2 => ordP xss l ∧ Sat [base h] h2) (x := 0) ?_ ?_ ?_
  · simp (maxSteps := 1000000) (implicitDefEqProofs := false) (disch := omega) only [push_cast, ↓reduceIte, Nat.reduceEqDiff, reduceCtorEq, decide_true, decide_false, Bool.not_true, Bool.not_false, Option.isNone_some, Option.isNone_none]
    refine ⟨by omega, trivial, trivial, trivial, trivial, trivial, fun j hj => by omega, by simp, _, by simp, ?_, H2⟩
    intro i
    simp only [List.getD_eq_getElem?_getD, List.getElem?_replicate]
    by_cases hi : i < xss.length <;> simp [hi]
  · rintro k ρ h2 N E ⟨hk, e0, e13, e14, e15, e5, hord, hin, bs, hbl, hb, H⟩ hN hE
    simp only [S_reach_Order_L1]
    have hout : Sat [base h] h2 := H.pick [0] rfl rfl
    by_cases hlt : k < l.length
    · obtain ⟨hI, p, f1, f2⟩ := (hw.up (H.base 0 rfl)).at hlt
      have hno : ¬ ordAt xss l k → ∀ b : Bool, b = false → (b = true ↔ ordP xss l) := by
        intro hn b hb; subst hb
        exact ⟨fun h => by simp at h, fun h => absurd (h k hlt) hn⟩
      by_cases hb1 : l[k] < 0
      · simp (maxSteps := 1000000) (implicitDefEqProofs := false) (disch := omega) only [push_cast, ↓reduceIte, Nat.reduceEqDiff, reduceCtorEq, decide_true, decide_false, Bool.not_true, Bool.not_false, Option.isNone_some, Option.isNone_none, e13, e14, e15, f1, f2]
        refine ⟨hout, false, rfl, hno ?_ _ rfl⟩
        rintro ⟨x, ps, h1, _⟩
        rw [List.getElem?_eq_getElem hlt] at h1
        simp at h1; omega
      · obtain ⟨n, hn⟩ : ∃ n : Nat, l[k] = (n : Int) := ⟨l[k].toNat, by omega⟩
        rw [hn] at f2
        have hlk : l[k]? = some (n : Int) := by rw [List.getElem?_eq_getElem hlt, hn]
        by_cases hb2 : n < xss.length
        · obtain ⟨q1, g1, g2, hst⟩ := osl_at1 H 1 rfl (k := n) (by simp [bools]; omega)
          obtain ⟨u, p3, hu, e1, e2⟩ := (hv.up (H.base 0 rfl)).at hb2
          have hul := hu.1.len
          have hul2 := hu.1.le
          have hxn := List.getElem?_eq_getElem hb2
          have hbn := hb n
          simp only [List.getD_eq_getElem?_getD] at hbn
          rw [List.getElem?_eq_getElem (by omega)] at hbn
          simp only [Option.getD_some] at hbn
          have hc1 : (bools bs)[n]'(by simp [bools]; omega) = .bool (bs[n]'(by omega)) := by simp [bools]
          rw [hc1] at g2
          by_cases hb3 : (n : Int) ∈ l.take k
          · have hbt := hbn.2 hb3
            simp (maxSteps := 1000000) (implicitDefEqProofs := false) (disch := omega) only [push_cast, ↓reduceIte, Nat.reduceEqDiff, reduceCtorEq, decide_true, decide_false, Bool.not_true, Bool.not_false, Option.isNone_some, Option.isNone_none, e0, e5, e13, e14, e15, f1, f2, hlen, g1, g2, hbt]
            refine ⟨hout, false, rfl, hno ?_ _ rfl⟩
            rintro ⟨x, ps, h1, h2, h3, _⟩
            rw [hlk] at h1
            simp at h1
            have : n = x := by omega
            subst this
            exact h3 hb3
          · have hbt : bs[n]'(by omega) = false := by
              rw [← Bool.not_eq_true]; exact fun h => hb3 (hbn.1 h)
            simp (maxSteps := 1000000) (implicitDefEqProofs := false) (disch := omega) only [push_cast, ↓reduceIte, Nat.reduceEqDiff, reduceCtorEq, decide_true, decide_false, Bool.not_true, Bool.not_false, Option.isNone_some, Option.isNone_none, e0, e5, e13, e14, e15, f1, f2, hlen, g1, g2, hbt, e1, e2, hul]
            refine wp_bl (α := Nat) (I := fun j ρ h3 => h3 = h2 ∧ j ≤ xss[n].length ∧ ρ 0 = v ∧ ρ 13 = w ∧ ρ 14 = .int .i64 l.length ∧ ρ 15 = .int .i64 k ∧ ρ 5 = s ∧ ρ 7 = .int .i64 n ∧ ρ 36 = u ∧ ρ 37 = .int .i64 xss[n].length ∧ ρ 38 = .int .i64 j ∧
              ∀ p ∈ xss[n].take j, p ∈ l.take k) (μ := fun j => xss[n].length - j)
              (Q := fun ρ h3 => h3 = h2 ∧ ρ 0 = v ∧ ρ 13 = w ∧ ρ 14 = .int .i64 l.length ∧ ρ 15 = .int .i64 k ∧ ρ 5 = s ∧ ρ 7 = .int .i64 n ∧ ∀ p ∈ xss[n], p ∈ l.take k) (x := 0) ?_ ?_ ?_
            · simp (maxSteps := 1000000) (implicitDefEqProofs := false) (disch := omega) only [push_cast, ↓reduceIte, Nat.reduceEqDiff, reduceCtorEq, decide_true, decide_false, Bool.not_true, Bool.not_false, Option.isNone_some, Option.isNone_none, e0, e5, e13, e14, e15]
              exact ⟨trivial, by omega, trivial, trivial, trivial, trivial, trivial, trivial, trivial, trivial, trivial, by simp⟩
            · rintro j ρ h3 N' E' ⟨rfl, hj, e0, e13, e14, e15, e5, e7, e36, e37, e38, hps⟩ hN' hE'
              simp only [S_reach_Order_L2]
              by_cases hjl : j < xss[n].length
              · obtain ⟨hI2, p4, f3, f4⟩ := hu.at hjl
                have hno2 : xss[n][j] ∉ l.take k → ¬ ordAt xss l k := by
                  rintro hnot ⟨x, ps, h1, h2, h3, h4⟩
                  rw [hlk] at h1
                  simp at h1
                  have : n = x := by omega
                  subst this
                  rw [hxn] at h2
                  cases h2
                  exact hnot (h4 _ (List.getElem_mem hjl))
                by_cases hc1 : xss[n][j] < 0
                · simp (maxSteps := 1000000) (implicitDefEqProofs := false) (disch := omega) only [push_cast, ↓reduceIte, Nat.reduceEqDiff, reduceCtorEq, decide_true, decide_false, Bool.not_true, Bool.not_false, Option.isNone_some, Option.isNone_none, e0, e36, e37, e38, f3, f4]
                  exact ⟨hout, false, rfl, hno (hno2 (fun h => by have := hin _ h; omega)) _ rfl⟩
                · obtain ⟨m, hm⟩ : ∃ m : Nat, xss[n][j] = (m : Int) := ⟨xss[n][j].toNat, by omega⟩
                  rw [hm] at f4 hno2
                  by_cases hc2 : m < xss.length
                  · obtain ⟨q2, g3, g4, _⟩ := osl_at1 H 1 rfl (k := m) (by simp [bools]; omega)
                    have hbm := hb m
                    simp only [List.getD_eq_getElem?_getD] at hbm
                    rw [List.getElem?_eq_getElem (by omega)] at hbm
                    simp only [Option.getD_some] at hbm
                    have hc3 : (bools bs)[m]'(by simp [bools]; omega) = .bool (bs[m]'(by omega)) := by simp [bools]
                    rw [hc3] at g4
                    by_cases hc4 : (m : Int) ∈ l.take k
                    · have hbt := hbm.2 hc4
                      simp (maxSteps := 1000000) (implicitDefEqProofs := false) (disch := omega) only [push_cast, ↓reduceIte, Nat.reduceEqDiff, reduceCtorEq, decide_true, decide_false, Bool.not_true, Bool.not_false, Option.isNone_some, Option.isNone_none, e0, e5, e36, e37, e38, f3, f4, hlen, g3, g4, hbt, Bool.not_true]
                      refine hN' (j + 1) _ _ ?_ (by omega)
                      simp (maxSteps := 1000000) (implicitDefEqProofs := false) (disch := omega) only [push_cast, ↓reduceIte, Nat.reduceEqDiff, reduceCtorEq, decide_true, decide_false, Bool.not_true, Bool.not_false, Option.isNone_some, Option.isNone_none, e0, e13, e14, e15, e5, e7, e36, e37]
                      refine ⟨trivial, by omega, trivial, trivial, trivial, trivial, trivial, trivial, trivial, trivial, trivial, ?_⟩
                      intro q hq
                      rw [List.take_succ_eq_append_getElem hjl, List.mem_append] at hq
                      rcases hq with hq | hq
                      · exact hps q hq
                      · simp at hq; subst hq; rw [hm]; exact hc4
                    · have hbt : bs[m]'(by omega) = false := by
                        rw [← Bool.not_eq_true]; exact fun h => hc4 (hbm.1 h)
                      simp (maxSteps := 1000000) (implicitDefEqProofs := false) (disch := omega) only [push_cast, ↓reduceIte, Nat.reduceEqDiff, reduceCtorEq, decide_true, decide_false, Bool.not_true, Bool.not_false, Option.isNone_some, Option.isNone_none, e0, e5, e36, e37, e38, f3, f4, hlen, g3, g4, hbt, Bool.not_false]
                      exact ⟨hout, false, rfl, hno (hno2 hc4) _ rfl⟩
                  · simp (maxSteps := 1000000) (implicitDefEqProofs := false) (disch := omega) only [push_cast, ↓reduceIte, Nat.reduceEqDiff, reduceCtorEq, decide_true, decide_false, Bool.not_true, Bool.not_false, Option.isNone_some, Option.isNone_none, e0, e36, e37, e38, f3, f4, hlen]
                    exact ⟨hout, false, rfl, hno (hno2 (fun h => by have := hin _ h; omega)) _ rfl⟩
              · simp (maxSteps := 1000000) (implicitDefEqProofs := false) (disch := omega) only [push_cast, ↓reduceIte, Nat.reduceEqDiff, reduceCtorEq, decide_true, decide_false, Bool.not_true, Bool.not_false, Option.isNone_some, Option.isNone_none, e36, e37, e38]
                refine hE' _ _ ?_
                simp (maxSteps := 1000000) (implicitDefEqProofs := false) (disch := omega) only [push_cast, ↓reduceIte, Nat.reduceEqDiff, reduceCtorEq, decide_true, decide_false, Bool.not_true, Bool.not_false, Option.isNone_some, Option.isNone_none, e0, e13, e14, e15, e5, e7]
                refine ⟨trivial, trivial, trivial, trivial, trivial, trivial, trivial, ?_⟩
                rwa [List.take_of_length_le (by omega)] at hps
            · rintro ρ h3 ⟨rfl, e0, e13, e14, e15, e5, e7, hps⟩
              simp (maxSteps := 1000000) (implicitDefEqProofs := false) (disch := omega) only [push_cast, ↓reduceIte, Nat.reduceEqDiff, reduceCtorEq, decide_true, decide_false, Bool.not_true, Bool.not_false, Option.isNone_some, Option.isNone_none, e0, e13, e14, e15, e5, e7, g1]
              refine hst _ _ _ (by rfl) (by rfl) ?_
              intro h4 H4
              simp (maxSteps := 1000000) (implicitDefEqProofs := false) (disch := omega) only [push_cast, ↓reduceIte, Nat.reduceEqDiff, reduceCtorEq, decide_true, decide_false, Bool.not_true, Bool.not_false, Option.isNone_some, Option.isNone_none, e0, e13, e14, e15, e5, e7, g1]
              refine hN (k + 1) _ _ ?_ (by omega)
              simp (maxSteps := 1000000) (implicitDefEqProofs := false) (disch := omega) only [push_cast, ↓reduceIte, Nat.reduceEqDiff, reduceCtorEq, decide_true, decide_false, Bool.not_true, Bool.not_false, Option.isNone_some, Option.isNone_none, e0, e13, e14, e15, e5, e7, g1]
              have htk : l.take (k + 1) = l.take k ++ [(n : Int)] := by rw [List.take_succ_eq_append_getElem hlt, hn]
              refine ⟨by omega, trivial, trivial, trivial, trivial, trivial, ?_, ?_, bs.set n true, by simp [hbl], ?_, ?_⟩
              · intro j hj
                by_cases hjk : j = k
                · subst hjk; exact ⟨n, _, hlk, hxn, hb3, hps⟩
                · exact hord j (by omega)
              · intro x hx
                rw [htk, List.mem_append] at hx
                rcases hx with hx | hx
                · exact hin x hx
                · simp at hx; subst hx; omega
              · intro i
                rw [htk, List.mem_append, ← hb i]
                simp only [List.getD_eq_getElem?_getD, List.getElem?_set, List.mem_singleton]
                by_cases hi : n = i
                · subst hi; simp [hbl, hb2]
                · have : ¬ (i : Int) = n := by omega
                  simp [hi, this]
              · have e : bools (bs.set n true) = (bools bs).set n (.bool true) := by simp [bools, List.map_set]
                rw [e]; exact H4
        · simp (maxSteps := 1000000) (implicitDefEqProofs := false) (disch := omega) only [push_cast, ↓reduceIte, Nat.reduceEqDiff, reduceCtorEq, decide_true, decide_false, Bool.not_true, Bool.not_false, Option.isNone_some, Option.isNone_none, e0, e13, e14, e15, f1, f2, hlen]
          refine ⟨hout, false, rfl, hno ?_ _ rfl⟩
          rintro ⟨x, ps, h1, h2, _⟩
          rw [hlk] at h1
          simp at h1
          have := (List.getElem?_eq_some_iff.1 h2).1
          omega
    · simp (maxSteps := 1000000) (implicitDefEqProofs := false) (disch := omega) only [push_cast, ↓reduceIte, Nat.reduceEqDiff, reduceCtorEq, decide_true, decide_false, Bool.not_true, Bool.not_false, Option.isNone_some, Option.isNone_none, e13, e14, e15]
      refine hE _ _ ⟨?_, hout⟩
      intro i hi
      exact hord i (by omega)
  · rintro ρ h2 ⟨ho, H⟩
    simp (maxSteps := 1000000) (implicitDefEqProofs := false) (disch := omega) only [push_cast, ↓reduceIte, Nat.reduceEqDiff, reduceCtorEq, decide_true, decide_false, Bool.not_true, Bool.not_false, Option.isNone_some, Option.isNone_none]
    exact ⟨H, true, rfl, by simp [ho]⟩
end Go.Proofs.Ytilofhocodbknaa
