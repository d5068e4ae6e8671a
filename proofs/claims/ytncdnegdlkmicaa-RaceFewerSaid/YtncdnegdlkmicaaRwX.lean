/- RaceFewer: the statement: for every input the call returns true, and the input reads as it did. -/
import Derived.Test.YtncdnegdlkmicaaRcm
import Derived.Test.YtncdnegdlkmicaaRcn
import Derived.Test.YtncdnegdlkmicaaVj
import Derived.Test.YtncdnegdlkmicaaRows
import Derived.WalkKit
import Derived.ProofKit
import Derived.OpenShut
import Derived.ShutString
import Derived.ChangeOld
namespace Go.Proofs.Ytncdnegdlkmicaa
set_option linter.unusedVariables false
set_option linter.unusedSimpArgs false
open Go Go.Kx Go.Proofs
open Go.ChangeShapes Go.WideShapes Go.ChangeAt Go.RowKit

theorem own : ownKnob Try.prog.godebug = none := by kernel_rfl
theorem laidOut : laidOutB Try.prog = true := by kernel_rfl
theorem c25 : Try.prog.cellsOf 25 = 1 := by kernel_rfl
theorem c3 : Try.prog.cellsOf 3 = 1 := by kernel_rfl

set_option maxRecDepth 100000 in
theorem lifted (os : Os) (started : os.Started) (H : Type) (enc : TypeId × Value → H) :
    ReturnsInHanded {} Try.checked os 8 .any (Rows.raceFewerSpec.pre6 enc Try.prog Try.f8 Rows.raceFewerRow.domain false) (Rows.raceFewerSpec.post enc Try.prog Try.f8 false true false false) := by
  refine returnsInHanded_of_change (C := Try.checked) own started (by kernel_rfl) Try.func8
    (ChangeSpec.witness6 (enc := enc) (C := Try.checked) false ⟨#[], #[.slice none 0 0, .slice none 0 0, .slice none 0 0], []⟩ 8 (by kernel_rfl) (by kernel_rfl) (by kernel_rfl) (by kernel_rfl)) ?_
  intro W base args ds gs before hval0 hW hcnd _
  have hval : ∀ (j : Nat) t v, Try.f8.params[j]? = some t → args[j]? = some v → Value.okWide Try.prog W .any base t v := hval0
  have hW' := hW
  obtain ⟨p, q, hA0, hV, rfl, hfz, hnd⟩ := hW
  have hA : DataW.TrodAll enc Try.prog W 0 (fun _ => true) true Try.f8.params.toList args.toList ds p := hA0
  rw [Try.params8] at hA hval
  obtain ⟨v0, vs0, d0, ds0, p0, q0, hargs, rfl, rfl, h0, r0⟩ := trodAll_cons hA
  obtain ⟨v1, vs1, d1, ds1, p1, q1, rfl, rfl, rfl, h1, r1⟩ := trodAll_cons r0
  obtain ⟨v2, vs2, d2, ds2, p2, q2, rfl, rfl, rfl, h2, r2⟩ := trodAll_cons r1
  obtain ⟨rfl, rfl, rfl⟩ := trodAll_nil r2
  obtain rfl : args = #[v0, v1, v2] := by cases args; simp_all
  obtain ⟨rfl, rfl⟩ := trodVars_none hV
  obtain ⟨a0, len0, cap0, rfl⟩ := okWide_slice Try.underlying47 (hval 0 47 v0 rfl rfl)
  have k0 := h0
  have lt0 : ∀ x ∈ p0, x.block < W.heap.size := by obtain ⟨m, hm⟩ := k0; exact DataW.trod_lt m _ _ _ hm
  obtain ⟨x0, hx0⟩ : ∃ xss, Ints2 (hp W.heap) (.slice a0 len0 cap0) xss := by
    obtain ⟨fuel, hf⟩ := h0
    exact ints2_in Try.underlying47 Try.underlying25 Try.underlying3 c25 c3 hf
  obtain ⟨a1, len1, cap1, rfl⟩ := okWide_slice Try.underlying49 (hval 1 49 v1 rfl rfl)
  have k1 := h1
  have lt1 : ∀ x ∈ p1, x.block < W.heap.size := by obtain ⟨m, hm⟩ := k1; exact DataW.trod_lt m _ _ _ hm
  obtain ⟨as1, en1, rel1⟩ : ∃ cs, Enc Rc.shAcs cs ∧ RelL (gAll W.heap) cs [.slice a1 len1 cap1] := by
    obtain ⟨fuel, hf⟩ := h1
    exact (trod_enc Rc.shAcs).1 49 fuel _ _ Rc.shAcs_ok hf
  obtain ⟨x1, rfl, hx1⟩ := Rc.shAcs_read en1
  obtain ⟨a2, len2, cap2, rfl⟩ := okWide_slice Try.underlying74 (hval 2 74 v2 rfl rfl)
  have k2 := h2
  have lt2 : ∀ x ∈ p2, x.block < W.heap.size := by obtain ⟨m, hm⟩ := k2; exact DataW.trod_lt m _ _ _ hm
  obtain ⟨as2, en2, rel2⟩ : ∃ cs, Enc Rc.shMo cs ∧ RelL (gAll W.heap) cs [.slice a2 len2 cap2] := by
    obtain ⟨fuel, hf⟩ := h2
    exact (trod_enc Rc.shMo).1 74 fuel _ _ Rc.shMo_ok hf
  obtain ⟨x2, rfl, hx2⟩ := Rc.shMo_read en2
  clear hA0 hval0
  refine (law_run (Rc.RaceFewer_a x0 x1 x2 hx0.le hx1 hx2) (.one (RelV_ints2 hx0) (.one (rel1.2 0 _ _ rfl rfl) (.one (rel2.2 0 _ _ rfl rfl) (.nil _)))) W rfl).mono fun e W' ⟨v, he, ⟨hS, hv⟩, hsame⟩ => ?_
  subst he
  subst hv
  have bel : Below W.heap.size W W' := below_of hS hsame
  exact ⟨_, rfl, _, _, _, [], _, [], hW', trodAll_mk1 (shut_bool Try.underlying4 _), (trodAll_cons_mk (Below.trod laidOut (by kernel_rfl) (of_decide_eq_true (by kernel_rfl)) k0 bel lt0) (trodAll_cons_mk (Below.trod laidOut (by kernel_rfl) (of_decide_eq_true (by kernel_rfl)) k1 bel lt1) (trodAll_cons_mk (Below.trod laidOut (by kernel_rfl) (of_decide_eq_true (by kernel_rfl)) k2 bel lt2) trodAll_mk0))), rfl, bel.frame _, fun h => by cases h⟩

theorem over : Rows.raceFewerRow.holds Try.pinned (OpenSpec.ofChange Rows.raceFewerSpec) :=
  OpenClaim.holds_of_wide 8 Try.f8 rfl rfl rfl rfl rfl rfl rfl ⟨rfl, rfl, rfl, rfl, rfl⟩ rfl rfl rfl rfl rfl (by kernel_rfl) Try.func8 (by kernel_rfl)
    (of_decide_eq_true (by kernel_rfl)) (by unfold Func.isWrapper; first | (rw [if_pos (by decide +kernel)]; kernel_rfl) | (rw [if_neg (by decide +kernel)]; exact ⟨rfl, rfl⟩))
    (fun os started H enc _ => lifted os started H enc)

theorem raceFewer_proved : Rows.RaceFewerSaid := over
end Go.Proofs.Ytncdnegdlkmicaa
