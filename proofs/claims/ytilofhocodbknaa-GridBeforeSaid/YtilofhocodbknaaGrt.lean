/- GridBefore: the statement: for every input the call returns true, and the input reads as it did. -/
import Derived.Test.YtilofhocodbknaaGrs
import Derived.Test.YtilofhocodbknaaVj
import Derived.Test.YtilofhocodbknaaRows
import Derived.WalkKit
import Derived.ProofKit
import Derived.OpenShut
import Derived.ShutString
import Derived.ChangeOld
namespace Go.Proofs.Ytilofhocodbknaa
set_option linter.unusedVariables false
set_option linter.unusedSimpArgs false
open Go Go.Kx Go.Proofs
open Go.ChangeShapes Go.WideShapes Go.ChangeAt Go.RowKit

theorem own : ownKnob Try.prog.godebug = none := by kernel_rfl
theorem laidOut : laidOutB Try.prog = true := by kernel_rfl

set_option maxRecDepth 100000 in
theorem lifted (os : Os) (started : os.Started) (H : Type) (enc : TypeId × Value → H) :
    ReturnsInHanded {} Try.checked os 6 .any (Rows.gridBeforeSpec.pre6 enc Try.prog Try.f6 Rows.gridBeforeRow.domain false) (Rows.gridBeforeSpec.post enc Try.prog Try.f6 false true false false) := by
  refine returnsInHanded_of_change (C := Try.checked) own started (by kernel_rfl) Try.func6
    (ChangeSpec.witness6 (enc := enc) (C := Try.checked) false ⟨#[], #[.slice none 0 0, .agg #[.int .i64 0, .int .i64 0], .agg #[.int .i64 0, .int .i64 0]], []⟩ 8 (by kernel_rfl) (by kernel_rfl) (by kernel_rfl) (by kernel_rfl)) ?_
  intro W base args ds gs before hval0 hW hcnd _
  have hval : ∀ (j : Nat) t v, Try.f6.params[j]? = some t → args[j]? = some v → Value.okWide Try.prog W .any base t v := hval0
  have hW' := hW
  obtain ⟨p, q, hA0, hV, rfl, hfz, hnd⟩ := hW
  have hA : DataW.TrodAll enc Try.prog W 0 (fun _ => true) true Try.f6.params.toList args.toList ds p := hA0
  rw [Try.params6] at hA hval
  obtain ⟨v0, vs0, d0, ds0, p0, q0, hargs, rfl, rfl, h0, r0⟩ := trodAll_cons hA
  obtain ⟨v1, vs1, d1, ds1, p1, q1, rfl, rfl, rfl, h1, r1⟩ := trodAll_cons r0
  obtain ⟨v2, vs2, d2, ds2, p2, q2, rfl, rfl, rfl, h2, r2⟩ := trodAll_cons r1
  obtain ⟨rfl, rfl, rfl⟩ := trodAll_nil r2
  obtain rfl : args = #[v0, v1, v2] := by cases args; simp_all
  obtain ⟨rfl, rfl⟩ := trodVars_none hV
  obtain ⟨a0, len0, cap0, rfl⟩ := okWide_slice Try.underlying42 (hval 0 42 v0 rfl rfl)
  have k0 := h0
  have lt0 : ∀ x ∈ p0, x.block < W.heap.size := by obtain ⟨m, hm⟩ := k0; exact DataW.trod_lt m _ _ _ hm
  obtain ⟨as0, en0, rel0⟩ : ∃ cs, Enc shRows cs ∧ RelL (gAll W.heap) cs [.slice a0 len0 cap0] := by
    obtain ⟨fuel, hf⟩ := h0
    exact (trod_enc shRows).1 42 fuel _ _ shRows_ok hf
  obtain ⟨x0, rfl, hx0⟩ := shRows_read en0
  obtain ⟨a1, rfl⟩ := okWide_ar Try.underlying57 (hval 1 57 v1 rfl rfl)
  have k1 := h1
  have lt1 : ∀ x ∈ p1, x.block < W.heap.size := by obtain ⟨m, hm⟩ := k1; exact DataW.trod_lt m _ _ _ hm
  obtain ⟨as1, en1, rel1⟩ : ∃ cs, Enc shP2 cs ∧ RelL (gAll W.heap) cs a1.toList := by
    obtain ⟨fuel, hf⟩ := h1
    exact (trod_enc shP2).1 57 fuel _ _ shP2_ok hf
  obtain ⟨x1, rfl⟩ := shP2_read en1
  obtain ⟨a2, rfl⟩ := okWide_ar Try.underlying57 (hval 2 57 v2 rfl rfl)
  have k2 := h2
  have lt2 : ∀ x ∈ p2, x.block < W.heap.size := by obtain ⟨m, hm⟩ := k2; exact DataW.trod_lt m _ _ _ hm
  obtain ⟨as2, en2, rel2⟩ : ∃ cs, Enc shP2 cs ∧ RelL (gAll W.heap) cs a2.toList := by
    obtain ⟨fuel, hf⟩ := h2
    exact (trod_enc shP2).1 57 fuel _ _ shP2_ok hf
  obtain ⟨x2, rfl⟩ := shP2_read en2
  clear hA0 hval0
  refine (law_run (GridBefore_a x0 x1 x2 hx0) (.one (rel0.2 0 _ _ rfl rfl) (.one (rel_agg rel1) (.one (rel_agg rel2) (.nil _)))) W rfl).mono fun e W' ⟨v, he, ⟨hS, hv⟩, hsame⟩ => ?_
  subst he
  subst hv
  have bel : Below W.heap.size W W' := below_of hS hsame
  exact ⟨_, rfl, _, _, _, [], _, [], hW', trodAll_mk1 (shut_bool Try.underlying4 _), (trodAll_cons_mk (Below.trod laidOut (by kernel_rfl) (of_decide_eq_true (by kernel_rfl)) k0 bel lt0) (trodAll_cons_mk (Below.trod laidOut (by kernel_rfl) (of_decide_eq_true (by kernel_rfl)) k1 bel lt1) (trodAll_cons_mk (Below.trod laidOut (by kernel_rfl) (of_decide_eq_true (by kernel_rfl)) k2 bel lt2) trodAll_mk0))), rfl, bel.frame _, fun h => by cases h⟩

theorem over : Rows.gridBeforeRow.holds Try.pinned (OpenSpec.ofChange Rows.gridBeforeSpec) :=
  OpenClaim.holds_of_wide 6 Try.f6 rfl rfl rfl rfl rfl rfl rfl ⟨rfl, rfl, rfl, rfl, rfl⟩ rfl rfl rfl rfl rfl (by kernel_rfl) Try.func6 (by kernel_rfl)
    (of_decide_eq_true (by kernel_rfl)) (by unfold Func.isWrapper; first | (rw [if_pos (by decide +kernel)]; kernel_rfl) | (rw [if_neg (by decide +kernel)]; exact ⟨rfl, rfl⟩))
    (fun os started H enc _ => lifted os started H enc)

theorem gridBefore_proved : Rows.GridBeforeSaid := over
end Go.Proofs.Ytilofhocodbknaa
