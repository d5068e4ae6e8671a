/- Shapes of what comes in: results. -/
import Derived.Test.YtilofhocodbknaaCpg
import Derived.Test.YtilofhocodbknaaVj
namespace Go.Proofs.Ytilofhocodbknaa
set_option linter.unusedVariables false
set_option linter.unusedSimpArgs false
open Go Go.Kx Go.Proofs

theorem enc_sl {α : Type} {f : α → List AV} {n : Nat} {s : Sh} (hs : ∀ c, Enc s c → ∃ x : α, c = f x) {cs : List AV} (h : Enc (.sl n s) cs) : ∃ l : List α, cs = [aSlN f l] ∧ l.length ≤ 9223372036854775807 := by
  obtain ⟨css, rfl, hl, hc⟩ := h
  have : ∃ l : List α, css = l.map f := by
    clear hl
    induction css with
    | nil => exact ⟨[], rfl⟩
    | cons c css ih =>
      obtain ⟨l, hl⟩ := ih fun d hd => hc d (by simp [hd])
      obtain ⟨x, hx⟩ := hs c (hc c (by simp)).2
      exact ⟨x :: l, by rw [hl, hx]; rfl⟩
  obtain ⟨l, rfl⟩ := this
  exact ⟨l, by simp [aSlN, List.flatMap], by simpa using hl⟩
def shI : Sh := .int .i64
theorem shI_read {c : List AV} (h : Enc shI c) : ∃ x : Int, c = [aInt x] := by
  obtain ⟨x, rfl, _⟩ := h
  exact ⟨x, rfl⟩
theorem shIs_read {c : List AV} (h : Enc (.sl 1 shI) c) : ∃ l : List Int, c = [aInts l] := by
  obtain ⟨l, rfl, _⟩ := enc_sl (f := fun x : Int => [aInt x]) (fun _ hc => shI_read hc) h
  refine ⟨l, ?_⟩
  have : ∀ l : List Int, l.flatMap (fun x : Int => [aInt x]) = l.map aInt := by
    intro l
    induction l with
    | nil => rfl
    | cons a l ih => rw [List.flatMap_cons, ih]; rfl
  simp only [aSlN, aInts, aSl, this]
def shStats : Sh := .st (.fcons 1 shI (.fcons 1 shI (.fcons 1 shI (.fcons 1 shI (.fcons 1 shI (.fcons 1 shI (.fcons 1 shI .fnil)))))))
def shRes : Sh := .st (.fcons 1 shI (.fcons 1 shI (.fcons 1 (.sl 1 shI) (.fcons 1 (.sl 1 shI) (.fcons 7 shStats .fnil)))))
def shRess : Sh := .sl 11 shRes
theorem shRes_read {c : List AV} (h : Enc shRes c) : ∃ r : RR, c = aRR r := by
  obtain ⟨x1, y1, rfl, _, h1, x2, y2, rfl, _, h2, x3, y3, rfl, _, h3, x4, y4, rfl, _, h4, x5, y5, rfl, _, h5, hn⟩ := h
  have hn : y5 = [] := hn
  subst hn
  obtain ⟨st, rfl⟩ := shI_read h1
  obtain ⟨wy, rfl⟩ := shI_read h2
  obtain ⟨out, rfl⟩ := shIs_read h3
  obtain ⟨mem, rfl⟩ := shIs_read h4
  obtain ⟨a0, b0, rfl, _, g0, a1, b1, rfl, _, g1, a2, b2, rfl, _, g2, a3, b3, rfl, _, g3, a4, b4, rfl, _, g4, a5, b5, rfl, _, g5, a6, b6, rfl, _, g6, hm⟩ := h5
  have hm : b6 = [] := hm
  subst hm
  obtain ⟨s0, rfl⟩ := shI_read g0
  obtain ⟨s1, rfl⟩ := shI_read g1
  obtain ⟨s2, rfl⟩ := shI_read g2
  obtain ⟨s3, rfl⟩ := shI_read g3
  obtain ⟨s4, rfl⟩ := shI_read g4
  obtain ⟨s5, rfl⟩ := shI_read g5
  obtain ⟨s6, rfl⟩ := shI_read g6
  exact ⟨⟨st, wy, out, mem, s0, s1, s2, s3, s4, s5, s6⟩, rfl⟩
theorem shRess_read {cs : List AV} (h : Enc shRess cs) : ∃ l : List RR, cs = [aRRs l] ∧ l.length ≤ 9223372036854775807 := enc_sl (fun _ hc => shRes_read hc) h
theorem okI3 : ShOk Try.prog shI 3 := Try.underlying3
theorem okI29 : ShOk Try.prog (.sl 1 shI) 29 := ⟨3, Try.underlying29, by kernel_rfl, by omega, okI3⟩
theorem shRess_ok : ShOk Try.prog shRess 34 :=
  ⟨129, Try.underlying34, by kernel_rfl, by omega, _, Try.underlying129, rfl, by kernel_rfl, okI3, rfl, by kernel_rfl, okI3, rfl, by kernel_rfl, okI29, rfl, by kernel_rfl, okI29, rfl, by kernel_rfl,
    ⟨_, Try.underlying127, rfl, by kernel_rfl, okI3, rfl, by kernel_rfl, okI3, rfl, by kernel_rfl, okI3, rfl, by kernel_rfl, okI3, rfl, by kernel_rfl, okI3, rfl, by kernel_rfl, okI3, rfl, by kernel_rfl, okI3, by show 0 + 1 + 1 + 1 + 1 + 1 + 1 + 1 = Try.prog.cellsOf 127; kernel_rfl⟩,
    by show 0 + 1 + 1 + 1 + 1 + 7 = Try.prog.cellsOf 129; kernel_rfl⟩
theorem CompareOrder_b (l : List RR) (turn : Int) (more : List RR) (hs : l.length ≤ 9223372036854775807) (hs2 : more.length ≤ 9223372036854775807) :
    FnP Try.prog 4 [aRRs l, aInt turn, aRRs more] fun a => a = aBool true := CompareOrder_a l more turn hs hs2
end Go.Proofs.Ytilofhocodbknaa
