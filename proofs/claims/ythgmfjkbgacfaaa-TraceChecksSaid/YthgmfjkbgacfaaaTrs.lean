/- Trace: shapes of what comes in: events. -/
import Derived.Test.YthgmfjkbgacfaaaLga
namespace Go.Proofs.Ythgmfjkbgacfaaa
set_option linter.unusedVariables false
set_option linter.unusedSimpArgs false
open Go Go.Kx Go.Proofs

def shEv : Sh := .st (.fcons 1 shN (.fcons 1 shN (.fcons 1 shN (.fcons 1 shN .fnil))))
theorem shEv_read {c : List AV} (h : Enc shEv c) : ∃ x : Ev, c = aEv x := by
  simp only [shEv, Enc] at h
  obtain ⟨x, y, rfl, _, hx, x2, y2, rfl, _, hy, x3, y3, rfl, _, hz, x4, y4, rfl, _, hw, rfl⟩ := h
  obtain ⟨n, rfl, _⟩ := shN_read hx
  obtain ⟨m, rfl, _⟩ := shN_read hy
  obtain ⟨k, rfl, _⟩ := shN_read hz
  obtain ⟨j, rfl, _⟩ := shN_read hw
  exact ⟨⟨n, m, k, j⟩, rfl⟩
def shEvs : Sh := .sl 4 shEv
theorem shEvs_read {cs : List AV} (h : Enc shEvs cs) : ∃ l : List Ev, cs = [aEvs l] ∧ l.length ≤ 9223372036854775807 := enc_sl (f := aEv) (fun _ hc => shEv_read hc) h
theorem shEvs_ok : ShOk Try.prog shEvs 22 := ⟨28, Try.underlying22, by kernel_rfl, by omega, _, Try.underlying28, rfl, by kernel_rfl, Try.underlying3, rfl, by kernel_rfl, Try.underlying3, rfl, by kernel_rfl, Try.underlying3, rfl, by kernel_rfl, Try.underlying3, (by show 0 + 1 + 1 + 1 + 1 = Try.prog.cellsOf 28; kernel_rfl)⟩
end Go.Proofs.Ythgmfjkbgacfaaa
