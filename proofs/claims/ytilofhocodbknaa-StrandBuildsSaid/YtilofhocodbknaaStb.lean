/- Contracts on annotated values: slices.Grow of no slice, slices.Concat. -/
import Derived.Test.YtilofhocodbknaaSta
import Derived.Test.YtilofhocodbknaaCStrand
namespace Go.Proofs.Ytilofhocodbknaa
set_option linter.unusedVariables false
set_option linter.unusedSimpArgs false
open Go Go.Kx Go.Proofs

theorem grow_a (n : Nat) (σ : St) (h0 : 0 < n) (hn : n ≤ 1000000) : FnG Try.prog 127 [.sl 0 [] .nil, aInt n] σ fun a σ' => a = .ms σ.length 0 0 0 1 ∧ σ' = σ ++ [.obj 0 []] := by
  intro base G h vs hH hL
  obtain ⟨u, us, rfl, h1, h2⟩ := hL.cons_inv
  obtain ⟨u2, us2, rfl, h3, h4⟩ := h2.cons_inv
  obtain rfl := h4.nil_inv
  cases h3
  have hu : u = .slice none 0 0 := by
    cases h1 with
    | sl _ _ _ a cap vs h1 h2 h3 h4 h5 h6 =>
      obtain ⟨_, rfl, rfl⟩ := h6
      rfl
  subst hu
  intro w hw
  refine (grow_some n w h0 hn).mono ?_
  rintro e w' ⟨rfl, rfl⟩
  refine ⟨_, rfl, ?_, ⟨rfl, rfl, rfl⟩⟩
  have hz : ∀ k, (Builtin.zeroCells #[.int .i64 0] k).size = k := by
    intro k
    simp [Builtin.zeroCells]
  obtain ⟨G', l, k1, k2, k3, k4, k5, k6, k7⟩ := hH.newObj [] (Builtin.zeroCells #[.int .i64 0] n ++ Builtin.zeroCells #[.int .i64 0] (grownCap w n 0 3 - n)).toList [] 3 (.nil _)
  subst hw
  have hge : n ≤ grownCap w n 0 3 := grownCap_ge w _ _ _
  have hle : grownCap w n 0 3 ≤ 9223372036854775807 := by
    have := grownCap_le_maxLen w n 0 3 (by unfold maxLen; omega)
    unfold maxLen at this
    omega
  refine ⟨G', .ms σ.length 0 0 0 1, _, k1, ?_, ?_, rfl, rfl⟩
  · have e : (([] : List Value) ++ (Builtin.zeroCells #[.int .i64 0] n ++ Builtin.zeroCells #[.int .i64 0] (grownCap w n 0 3 - n)).toList).toArray = Builtin.zeroCells #[.int .i64 0] n ++ Builtin.zeroCells #[.int .i64 0] (grownCap w n 0 3 - n) := by simp
    rw [e] at k2
    exact k2
  · have hlim : l.lim = grownCap w n 0 3 := by
      rw [k7]
      simp only [List.length_nil, Array.length_toList, Array.size_append, hz]
      omega
    have := RelV.ms (G := G') σ.length 0 0 0 1 l (grownCap w n 0 3) k3 k6 (Nat.zero_le _) hle (by omega)
    rw [k4, k5] at this
    exact this
end Go.Proofs.Ytilofhocodbknaa
