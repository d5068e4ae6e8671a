/- Shapes of what comes in: rows of cells. -/
import Derived.Test.YtilofhocodbknaaGrb
namespace Go.Proofs.Ytilofhocodbknaa
set_option linter.unusedVariables false
set_option linter.unusedSimpArgs false
open Go Go.Kx Go.Proofs

def shCell : Sh := .st (.fcons 1 shN (.fcons 1 .bool .fnil))
theorem shCell_read {c : List AV} (h : Enc shCell c) : ∃ x : CC, c = aCC x := by
  simp only [shCell, Enc] at h
  obtain ⟨x, y, rfl, _, hx, x3, y3, rfl, _, ⟨b, rfl⟩, rfl⟩ := h
  obtain ⟨n, rfl, _⟩ := shN_read hx
  exact ⟨⟨n, b⟩, rfl⟩
def shRow : Sh := .sl 2 shCell
def shRows : Sh := .sl 1 shRow
theorem shRows_read {cs : List AV} (h : Enc shRows cs) : ∃ l : List (List CC), cs = [aRows l] ∧ l.length ≤ 9223372036854775807 :=
  enc_sl1 (f := aRow) (fun _ hc => by obtain ⟨l, h, _⟩ := enc_sl (f := aCC) (fun _ hc => shCell_read hc) hc; exact ⟨l, h⟩) h
theorem shRow_ok : ShOk Try.prog shRow 59 := ⟨139, Try.underlying59, by kernel_rfl, by omega, _, Try.underlying139, rfl, by kernel_rfl, Try.underlying3, rfl, by kernel_rfl, Try.underlying4, (by show 0 + 1 + 1 = Try.prog.cellsOf 139; kernel_rfl)⟩
theorem shRows_ok : ShOk Try.prog shRows 42 := ⟨59, Try.underlying42, by kernel_rfl, by omega, shRow_ok⟩
end Go.Proofs.Ytilofhocodbknaa
