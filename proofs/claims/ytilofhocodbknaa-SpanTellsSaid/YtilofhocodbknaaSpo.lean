/- Shapes of what comes in: accesses. -/
import Derived.Test.YtilofhocodbknaaSpa
import Derived.Test.YtilofhocodbknaaVj
namespace Go.Proofs.Ytilofhocodbknaa
set_option linter.unusedVariables false
set_option linter.unusedSimpArgs false
open Go Go.Kx Go.Proofs

theorem enc_sl {α : Type} {f : α → List AV} {n : Nat} {s : Sh} (hs : ∀ c, Enc s c → ∃ x : α, c = f x) {cs : List AV} (h : Enc (.sl n s) cs) : ∃ l : List α, cs = [aSlN f l] ∧ l.length ≤ 9223372036854775807 := by
  obtain ⟨css, rfl, hl, hc⟩ := h
  have : ∃ l : List α, css = l.map f := by
    clear hl
    induction css with
    | nil => exact ⟨[], rfl⟩
    | cons c css ih =>
      obtain ⟨l, hl⟩ := ih fun d hd => hc d (by simp [hd])
      obtain ⟨x, hx⟩ := hs c (hc c (by simp)).2
      exact ⟨x :: l, by rw [hl, hx]; rfl⟩
  obtain ⟨l, rfl⟩ := this
  exact ⟨l, by simp [aSlN, List.flatMap], by simpa using hl⟩
def shAcc : Sh := .st (.fcons 1 (.int .i64) (.fcons 1 (.int .i64) (.fcons 1 .bool .fnil)))
def shAccs : Sh := .sl 3 shAcc
theorem shAcc_read {c : List AV} (h : Enc shAcc c) : ∃ x : Acc, c = aAcc x := by
  simp only [shAcc, Enc] at h
  obtain ⟨x, y, rfl, _, ⟨n, rfl, _⟩, x2, y2, rfl, _, ⟨m, rfl, _⟩, x3, y3, rfl, _, ⟨b, rfl⟩, rfl⟩ := h
  exact ⟨⟨n, m, b⟩, rfl⟩
theorem shAccs_read {cs : List AV} (h : Enc shAccs cs) : ∃ l : List Acc, cs = [aAccs l] ∧ l.length ≤ 9223372036854775807 := enc_sl (fun _ hc => shAcc_read hc) h
theorem shAccs_ok : ShOk Try.prog shAccs 96 :=
  ⟨114, Try.underlying96, by kernel_rfl, by omega, _, Try.underlying114, rfl, by kernel_rfl, Try.underlying3, rfl, by kernel_rfl, Try.underlying3, rfl, by kernel_rfl, Try.underlying4, (by show 0 + 1 + 1 + 1 = Try.prog.cellsOf 114; kernel_rfl)⟩
end Go.Proofs.Ytilofhocodbknaa
