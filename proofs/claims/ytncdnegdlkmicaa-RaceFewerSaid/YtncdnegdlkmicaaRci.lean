/- Race: shapes of what comes in: accesses. -/
import Derived.Test.YtncdnegdlkmicaaRza
import Derived.Test.YtncdnegdlkmicaaVj
namespace Go.Proofs.Ytncdnegdlkmicaa.Rc
set_option linter.unusedVariables false
set_option linter.unusedSimpArgs false
open Go Go.Kx Go.Proofs
open Go.Proofs.Ytncdnegdlkmicaa.St (Ac aAc aAc_len aAc_one aAc_pure aAc_res)

def shAc : Sh := .st (.fcons 1 (.int .i64) (.fcons 1 (.int .i64) (.fcons 1 .bool .fnil)))
def shAcs : Sh := .sl 3 shAc
theorem shAc_read {c : List AV} (h : Enc shAc c) : ∃ x : Ac, c = aAc x := by
  simp only [shAc, Enc] at h
  obtain ⟨x, y, rfl, _, ⟨n, rfl, _⟩, x2, y2, rfl, _, ⟨m, rfl, _⟩, x3, y3, rfl, _, ⟨b, rfl⟩, rfl⟩ := h
  exact ⟨⟨n, m, b⟩, rfl⟩
theorem shAcs_read {cs : List AV} (h : Enc shAcs cs) : ∃ l : List Ac, cs = [aAcs l] ∧ l.length ≤ 9223372036854775807 := enc_sl (fun _ hc => shAc_read hc) h
theorem shAcs_ok : ShOk Try.prog shAcs 49 :=
  ⟨71, Try.underlying49, by kernel_rfl, by omega, _, Try.underlying71, rfl, by kernel_rfl, Try.underlying3, rfl, by kernel_rfl, Try.underlying3, rfl, by kernel_rfl, Try.underlying4, (by show 0 + 1 + 1 + 1 = Try.prog.cellsOf 71; kernel_rfl)⟩
end Go.Proofs.Ytncdnegdlkmicaa.Rc
