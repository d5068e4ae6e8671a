/- Annotated values, part 0, where tables are read: what the heap holds of package-level variables: the powers of ten, and some number (bytealg.MaxLen). -/
import Derived.Test.YtjdpejggafefjaaDoorKm
import Derived.Lib.ItoaNum
import Derived.Lib.LaidTab
namespace Go.Kx
open Go

/-- Block 0: the powers of ten; block 1: a number. -/
def TabOk (h : Heap) : Prop := (∃ E fz, h[0]? = some (.cells (Lib.pow10Tab.map fun z => Value.int .u64 z).toArray E fz)) ∧ ∃ c E fz m, h[1]? = some (.cells c E fz) ∧ c[0]? = some (.int .i64 m)
theorem TabOk.keep {base h : Heap} (H : TabOk base) (_ : base.size ≤ h.size) (k : ∀ b, b < base.size → h[b]? = base[b]?) : TabOk h := by
  obtain ⟨⟨E, fz, h1⟩, c, E', fz', m, h2, h3⟩ := H
  exact ⟨⟨E, fz, by rw [k 0 (Array.getElem?_eq_some_iff.1 h1).1]; exact h1⟩, c, E', fz', m, by rw [k 1 (Array.getElem?_eq_some_iff.1 h2).1]; exact h2, h3⟩
theorem TabOk.tab {P : Program} (hg : P.globalNamed "internal/strconv.uint64pow10" = some 0) {w : World} (H : TabOk w.heap) : Lib.TabIs P w "internal/strconv.uint64pow10" .u64 Lib.pow10Tab := by
  obtain ⟨⟨E, fz, h1⟩, _⟩ := H
  unfold Lib.TabIs World.var?
  simp [hg, h1]
theorem TabOk.len {w : World} (H : TabOk w.heap) : ∃ m, w.cell? ⟨1, 0, none⟩ = some (.int .i64 m) := by
  obtain ⟨_, c, E, fz, m, h1, h2⟩ := H
  refine ⟨m, ?_⟩
  simp [World.cell?, h1, h2]
end Go.Kx
