/- Shapes of what comes in: pairs, lists of lists. -/
import Derived.Test.YtefjlhancibhbaaAue
namespace Go.Proofs.Ytefjlhancibhbaa
set_option linter.unusedVariables false
set_option linter.unusedSimpArgs false
open Go Go.Kx Go.Proofs

def shPairs : Sh := .sl 2 (.arr 2 1 shN)
theorem shPairs_read {cs : List AV} (h : Enc shPairs cs) : ∃ l : List (Int × Int), cs = [aV2s l] ∧ l.length ≤ 9223372036854775807 := by
  refine enc_sl (f := aV2) (fun c hc => ?_) h
  obtain ⟨css, rfl, hl, hc⟩ := hc
  match css, hl with
  | [a, b], _ =>
    obtain ⟨x, rfl, _⟩ := shN_read (hc a (by simp)).2
    obtain ⟨y, rfl, _⟩ := shN_read (hc b (by simp)).2
    exact ⟨(x, y), rfl⟩
def shInts : Sh := .sl 1 shN
theorem shInts_read {cs : List AV} (h : Enc shInts cs) : ∃ l : List Int, cs = [aInts l] ∧ l.length ≤ 9223372036854775807 := shNs_read h
def shIntss : Sh := .sl 1 shInts
theorem shIntss_read {cs : List AV} (h : Enc shIntss cs) : ∃ l : List (List Int), cs = [aInts2 l] ∧ l.length ≤ 9223372036854775807 :=
  enc_sl1 (f := aInts) (fun _ hc => by obtain ⟨x, h, _⟩ := shNs_read hc; exact ⟨x, h⟩) h
theorem okN3 : ShOk Try.prog shN 3 := Try.underlying3
theorem shPairs_ok : ShOk Try.prog shPairs 22 := ⟨28, Try.underlying22, by kernel_rfl, by omega, 3, Try.underlying28, by kernel_rfl, by kernel_rfl, okN3⟩
theorem shInts_ok : ShOk Try.prog shInts 24 := ⟨3, Try.underlying24, by kernel_rfl, by omega, okN3⟩
theorem shIntss_ok : ShOk Try.prog shIntss 23 := ⟨24, Try.underlying23, by kernel_rfl, by omega, shInts_ok⟩
end Go.Proofs.Ytefjlhancibhbaa
