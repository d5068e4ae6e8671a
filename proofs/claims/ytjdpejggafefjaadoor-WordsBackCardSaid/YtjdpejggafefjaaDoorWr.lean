/- Shapes of what comes in: ints with their bounds, strings. -/
import Derived.Test.YtjdpejggafefjaaDoorWi
namespace Go.Proofs.YtjdpejggafefjaaDoor
set_option linter.unusedVariables false
set_option linter.unusedSimpArgs false
open Go Go.Kx Go.Proofs

theorem wf_I64 {x : Int} (h : (Lit.int .i64 x).wf = true) : I64 x := by
  have : decide (IntKind.min .i64 ≤ x) = true ∧ decide (x ≤ IntKind.max .i64) = true := by simpa [Lit.wf] using h
  exact ⟨of_decide_eq_true this.1, of_decide_eq_true this.2⟩
def shI : Sh := .sl 1 shN
theorem shI_ok : ShOk Tryd.prog shI 43 := ⟨3, Tryd.underlying43, by kernel_rfl, by decide, Tryd.underlying3⟩
theorem shI_read {c : List AV} (h : Enc shI c) : ∃ l : List Int, c = [aInts l] ∧ (l.length ≤ 9223372036854775807 ∧ ∀ x ∈ l, I64 x) := by
  obtain ⟨css, rfl, hl, hc⟩ := h
  have : ∃ l : List Int, css = l.map (fun x => [aInt x]) ∧ ∀ x ∈ l, I64 x := by
    clear hl
    induction css with
    | nil => exact ⟨[], rfl, by simp⟩
    | cons c css ih =>
      obtain ⟨l, hl, hb⟩ := ih fun d hd => hc d (by simp [hd])
      obtain ⟨x, hx, h1, h2⟩ := shN_read (hc c (by simp)).2
      exact ⟨x :: l, by rw [hl, hx]; rfl, fun y hy => (List.mem_cons.1 hy).elim (fun e => e ▸ ⟨h1, h2⟩) (hb y)⟩
  obtain ⟨l, rfl, hb⟩ := this
  refine ⟨l, ?_, by simpa using hl, hb⟩
  have := flat_one aInt l
  simp only [aInts, aSl, List.length_map]
  rw [← this]
  rfl
def shT : Sh := .sl 1 .str
theorem shT_ok : ShOk Tryd.prog shT 34 := ⟨9, Tryd.underlying34, by kernel_rfl, by decide, Tryd.underlying9⟩
theorem shT_read {c : List AV} (h : Enc shT c) : ∃ l : List (List UInt8), c = [aSl aB l] ∧ l.length ≤ 9223372036854775807 :=
  enc_sl1 (f := aB) (fun c hc => by obtain ⟨s, rfl, _⟩ := hc; exact ⟨s.data.toList, by cases s; simp⟩) h
end Go.Proofs.YtjdpejggafefjaaDoor
