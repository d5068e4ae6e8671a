/- Shapes of what comes in: pairs of numbers. -/
import Derived.Test.YtilofhocodbknaaGrr
import Derived.Test.YtilofhocodbknaaGrl
import Derived.WideShapes
namespace Go.Proofs.Ytilofhocodbknaa
set_option linter.unusedVariables false
set_option linter.unusedSimpArgs false
open Go Go.Kx Go.Proofs

theorem okWide_ar {P : Program} {w : World} {r : Reach} {b0 : Nat} {t e : TypeId} {n : Nat} {v : Value} (ht : P.underlying t = some (.array n e)) (h : Value.okWide P w r b0 t v) : ∃ xs, v = .agg xs := by
  simp only [Value.okWide, ht] at h
  obtain ⟨cs, h1, _⟩ := h
  exact ⟨cs, h1⟩
theorem rel_agg {G : Gh} {cs : List AV} {xs : Array Value} (h : RelL G cs xs.toList) : RelV G (.agg cs) (.agg xs) := RelV.agg cs xs.toList h.1 h.2
def shP2 : Sh := .arr 2 1 shN
theorem shP2_read {cs : List AV} (h : Enc shP2 cs) : ∃ p : Int × Int, cs = [.v (.int .i64 p.1), .v (.int .i64 p.2)] := by
  obtain ⟨css, rfl, hl, hc⟩ := h
  match css, hl with
  | [a, b], _ =>
    obtain ⟨x, rfl, _⟩ := shN_read (hc a (by simp)).2
    obtain ⟨y, rfl, _⟩ := shN_read (hc b (by simp)).2
    exact ⟨(x, y), rfl⟩
theorem shP2_ok : ShOk Try.prog shP2 57 := ⟨3, Try.underlying57, by kernel_rfl, by kernel_rfl, Try.underlying3⟩
end Go.Proofs.Ytilofhocodbknaa
