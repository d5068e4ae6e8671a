/- Shapes of what comes in: marks. -/
import Derived.Test.YtilofhocodbknaaStk
namespace Go.Proofs.Ytilofhocodbknaa
set_option linter.unusedVariables false
set_option linter.unusedSimpArgs false
open Go Go.Kx Go.Proofs

def shMk : Sh := .st (.fcons 1 shN (.fcons 1 shN (.fcons 1 shN .fnil)))
theorem shMk_read {c : List AV} (h : Enc shMk c) : ∃ x : Mk, c = aMk x := by
  simp only [shMk, Enc] at h
  obtain ⟨x, y, rfl, _, hx, x2, y2, rfl, _, hy, x3, y3, rfl, _, hz, rfl⟩ := h
  obtain ⟨n, rfl, _⟩ := shN_read hx
  obtain ⟨m, rfl, _⟩ := shN_read hy
  obtain ⟨k, rfl, _⟩ := shN_read hz
  exact ⟨⟨n, m, k⟩, rfl⟩
def shMks : Sh := .sl 3 shMk
theorem shMks_read {cs : List AV} (h : Enc shMks cs) : ∃ l : List Mk, cs = [aMks l] ∧ l.length ≤ 9223372036854775807 := enc_sl (f := aMk) (fun _ hc => shMk_read hc) h
theorem shMks_ok : ShOk Try.prog shMks 103 := ⟨116, Try.underlying103, by kernel_rfl, by omega, _, Try.underlying116, rfl, by kernel_rfl, Try.underlying3, rfl, by kernel_rfl, Try.underlying3, rfl, by kernel_rfl, Try.underlying3, (by show 0 + 1 + 1 + 1 = Try.prog.cellsOf 116; kernel_rfl)⟩
end Go.Proofs.Ytilofhocodbknaa
