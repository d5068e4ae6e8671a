/- GridBefore: the plain law: the two ways to look for a way agree, and none leads back. -/
import Derived.Test.YtilofhocodbknaaGrn
import Derived.Test.YtilofhocodbknaaGrj
namespace Go.Proofs.Ytilofhocodbknaa
set_option linter.unusedVariables false
set_option linter.unusedSimpArgs false
open Go Go.Kx Go.Proofs

theorem foldM_nn (l : List Ed) (a p : Int × Int) : 0 ≤ getE (foldM l a) p := by
  induction l using snoc_ind generalizing p with
  | h0 =>
    simp only [foldM, List.foldl_nil, getE]
    split <;> simp
  | hs l e ih =>
    rw [foldM_snoc, stepM]
    split
    · rw [getE_put]
      have := ih e.2
      have := ih p
      split <;> omega
    · exact ih p
theorem foldM_pos (l : List Ed) (e : Ed) (a p : Int × Int) : 0 < getE (foldM (l ++ [e]) a) p ↔ 0 < getE (foldM l a) p ∨ (p = e.2 ∧ 0 < getE (foldM l a) e.1) := by
  rw [foldM_snoc, stepM]
  have h1 := foldM_nn l a e.2
  split
  · rename_i h
    rw [getE_put]
    by_cases hp : p = e.2
    · rw [if_pos hp]
      exact ⟨fun _ => .inr ⟨hp, h⟩, fun _ => by omega⟩
    · rw [if_neg hp]
      exact ⟨fun h => .inl h, fun h => h.elim id fun h => absurd h.1 hp⟩
  · rename_i h
    exact ⟨fun h => .inl h, fun h' => h'.elim id fun h' => absurd h'.2 h⟩
theorem foldM_bfR (l : List Ed) (a b : Int × Int) : 0 < getE (foldM l a) b ↔ (b = a ∨ bfR l.reverse a b = true) := by
  induction l using snoc_ind generalizing b with
  | h0 =>
    simp only [foldM, List.foldl_nil, getE, List.reverse_nil, bfR]
    by_cases h : b = a
    · simp [h]
    · simp [h]
  | hs l e ih =>
    rw [foldM_pos, bfR_snoc, ih b, ih e.1]
    by_cases h : e.2 = b
    · rw [if_pos h]
      simp only [Bool.or_eq_true, decide_eq_true_eq]
      constructor
      · rintro ((h1 | h1) | ⟨_, h1 | h1⟩)
        · exact .inl h1
        · exact .inr (.inr h1)
        · exact .inr (.inl (.inl h1))
        · exact .inr (.inl (.inr h1))
      · rintro (h1 | (h1 | h1) | h1)
        · exact .inl (.inl h1)
        · exact .inr ⟨h.symm, .inl h1⟩
        · exact .inr ⟨h.symm, .inr h1⟩
        · exact .inl (.inr h1)
    · rw [if_neg h]
      constructor
      · rintro (h1 | ⟨h1, _⟩)
        · exact h1
        · exact absurd h1.symm h
      · exact fun h1 => .inl h1
def ltN (a b : Int × Int) : Prop := a.1 < b.1 ∨ (a.1 = b.1 ∧ a.2 < b.2)
theorem foldM_lt {l : List Ed} (hl : ∀ e ∈ l, forthE e) (a b : Int × Int) (h : 0 < getE (foldM l a) b) : b = a ∨ ltN a b := by
  induction l using snoc_ind generalizing b with
  | h0 =>
    simp only [foldM, List.foldl_nil, getE] at h
    by_cases hb : b = a
    · exact .inl hb
    · rw [if_neg hb] at h; omega
  | hs l e ih =>
    have ih := ih fun e he => hl e (by simp [he])
    rw [foldM_pos] at h
    rcases h with h | ⟨rfl, h⟩
    · exact ih b h
    · refine .inr ?_
      have he := hl e (by simp)
      unfold forthE at he
      rcases ih e.1 h with h1 | h1
      · rw [← h1]
        unfold ltN
        rcases he with h | h <;> omega
      · unfold ltN at h1 ⊢
        rcases he with h | h <;> omega
theorem bfE_eq {l : List (List CC)} (h0 : gchk l = 0) (p q : Int × Int) : bfE l p q = (decide (p ≠ q) && bfR (edgeL l).reverse p q) := by
  unfold bfE
  by_cases hpq : p = q
  · simp [hpq]
  · have h := foldM_bfR (edgeL l) p q
    have hqp : ¬ q = p := fun h => hpq h.symm
    have : decide (0 < getE (foldM (edgeL l) p) q) = bfR (edgeL l).reverse p q := by
      rw [Bool.eq_iff_iff, decide_eq_true_eq, h]
      simp [hqp]
    rw [this]
    simp [h0, hpq]
theorem bfE_one {l : List (List CC)} (h0 : gchk l = 0) (p q : Int × Int) : (bfE l p q && bfE l q p) = false := by
  obtain ⟨_, hok⟩ := gchk_ok h0
  have hf := edges_forth hok
  cases h1 : bfE l p q with
  | false => rfl
  | true =>
    cases h2 : bfE l q p with
    | false => rfl
    | true =>
      exfalso
      unfold bfE at h1 h2
      simp only [Bool.and_eq_true, Bool.not_eq_true', decide_eq_true_eq, decide_eq_false_iff_not] at h1 h2
      have a := foldM_lt hf p q h1.2
      have b := foldM_lt hf q p h2.2
      have hpq := h1.1.2
      rcases a with a | a
      · exact hpq a.symm
      · rcases b with b | b
        · exact hpq b
        · unfold ltN at a b
          omega
end Go.Proofs.Ytilofhocodbknaa
