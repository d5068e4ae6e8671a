/- GridStrands: shapes of what comes in: rows of cells. -/
import Derived.Test.YthgmfjkbgacfaaaGsc
namespace Go.Proofs.Ythgmfjkbgacfaaa.Gs
set_option linter.unusedVariables false
set_option linter.unusedSimpArgs false
open Go Go.Kx Go.Proofs Go.Proofs.Ythgmfjkbgacfaaa.Gr

def shCell : Sh := .st (.fcons 1 shN (.fcons 1 .bool .fnil))
theorem shCell_read {c : List AV} (h : Enc shCell c) : ∃ x : CC, c = aCC x := by
  simp only [shCell, Enc] at h
  obtain ⟨x, y, rfl, _, hx, x3, y3, rfl, _, ⟨b, rfl⟩, rfl⟩ := h
  obtain ⟨n, rfl, _⟩ := shN_read hx
  exact ⟨⟨n, b⟩, rfl⟩
def shRow : Sh := .sl 2 shCell
def shRows : Sh := .sl 1 shRow
theorem shRows_read {cs : List AV} (h : Enc shRows cs) : ∃ l : List (List CC), cs = [aRows l] ∧ (l.length ≤ 9223372036854775807 ∧ ∀ r ∈ l, r.length ≤ 9223372036854775807) := by
  obtain ⟨l, ⟨h1, h2⟩⟩ : ∃ l : List { r : List CC // r.length ≤ 9223372036854775807 }, cs = [aSl (fun r => aRow r.1) l] ∧ l.length ≤ 9223372036854775807 :=
    enc_sl1 (f := fun r : { r : List CC // r.length ≤ 9223372036854775807 } => aRow r.1) (fun _ hc => by obtain ⟨l, h, hl⟩ := enc_sl (f := aCC) (fun _ hc => shCell_read hc) hc; exact ⟨⟨l, hl⟩, h⟩) h
  refine ⟨l.map (·.1), ?_, by simpa using h2, ?_⟩
  · rw [h1]; simp [aRows, aSl]
  · intro r hr
    obtain ⟨x, _, rfl⟩ := List.mem_map.1 hr
    exact x.2
theorem shRow_ok : ShOk Try.prog shRow 45 := ⟨47, Try.underlying45, by kernel_rfl, by omega, _, Try.underlying47, rfl, by kernel_rfl, Try.underlying3, rfl, by kernel_rfl, Try.underlying4, (by show 0 + 1 + 1 = Try.prog.cellsOf 47; kernel_rfl)⟩
theorem shRows_ok : ShOk Try.prog shRows 38 := ⟨45, Try.underlying38, by kernel_rfl, by omega, shRow_ok⟩

theorem GridStrands_b (l : List (List CC)) (h : l.length ≤ 9223372036854775807 ∧ ∀ r ∈ l, r.length ≤ 9223372036854775807) : FnP Try.prog 8 [aRows l] fun a => a = aBool true := GridStrands_a l h.1 h.2
end Go.Proofs.Ythgmfjkbgacfaaa.Gs
