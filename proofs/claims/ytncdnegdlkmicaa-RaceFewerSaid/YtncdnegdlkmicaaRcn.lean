/- Race: shapes of what comes in: pairs of numbers. -/
import Derived.Test.YtncdnegdlkmicaaRcm
import Derived.Test.YtncdnegdlkmicaaRci
import Derived.Test.YtncdnegdlkmicaaVj
namespace Go.Proofs.Ytncdnegdlkmicaa.Rc
set_option linter.unusedVariables false
set_option linter.unusedSimpArgs false
open Go Go.Kx Go.Proofs

def shP2 : Sh := .arr 2 1 shN
theorem shP2_read {c : List AV} (h : Enc shP2 c) : ∃ p : Int × Int, c = aP2 p := by
  obtain ⟨css, rfl, hl, hc⟩ := h
  match css, hl with
  | [a, b], _ =>
    obtain ⟨x, rfl, _⟩ := shN_read (hc a (by simp)).2
    obtain ⟨y, rfl, _⟩ := shN_read (hc b (by simp)).2
    exact ⟨(x, y), rfl⟩
def shMo : Sh := .sl 2 shP2
theorem shMo_read {cs : List AV} (h : Enc shMo cs) : ∃ l : List (Int × Int), cs = [aMo l] ∧ l.length ≤ 9223372036854775807 := enc_sl (fun _ hc => shP2_read hc) h
theorem shP2_ok : ShOk Try.prog shP2 75 := ⟨3, Try.underlying75, by kernel_rfl, by kernel_rfl, Try.underlying3⟩
theorem shMo_ok : ShOk Try.prog shMo 74 := ⟨75, Try.underlying74, by kernel_rfl, by omega, shP2_ok⟩
end Go.Proofs.Ytncdnegdlkmicaa.Rc
