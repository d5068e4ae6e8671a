/- Annotated values, part i: what comes in, what goes out. -/
import Derived.Test.YtjdpejggafefjaaDoorVh
import Derived.Deep.Matrix
import Derived.Below
namespace Go.Kx
set_option linter.unusedVariables false
set_option linter.unusedSimpArgs false
open Go

theorem cellG_of_cell? {w : World} {a : Addr} {u : Value} (h : w.cell? a = some u) : a.spot = none ∧ cellG (hp w.heap) a.block a.off = some u := by
  refine ⟨World.cell?_spot h, ?_⟩
  unfold World.cell? at h
  unfold cellG hp
  split at h
  · rename_i heq
    rw [heq]
    split at h
    · cases h
    · exact h
  · cases h
theorem add_block (a : Addr) (n : Nat) (h : a.spot = none) : a.add n = ⟨a.block, a.off + n, none⟩ := by
  obtain ⟨b, o, s⟩ := a
  simp only at h
  subst h
  by_cases hn : n = 0 <;> simp [Addr.add, hn]

theorem wf_inI {x : Int} (h : (Lit.int .i64 x).wf = true) : inI x := by
  have h1 : IntKind.i64.min = -9223372036854775808 := by decide
  have h2 : IntKind.i64.max = 9223372036854775807 := by decide
  simp [Lit.wf, h1, h2] at h
  exact h
/-- A slice of integers that came in. -/
theorem ints_in {w : World} {A : Option Addr} {L C : Nat} {Z : List Int} (h1 : L ≤ C) (h2 : C ≤ maxLen) (h3 : Z.length = C) (h4 : ∀ n ∈ Z, (Lit.int .i64 n).wf = true) (h5 : A = none → C = 0)
    (h6 : ∀ a', A = some a' → ∀ c, c < C → w.cell? (a'.add c) = some (.int .i64 (Z.getD c 0))) : Ints (hp w.heap) (.slice A L C) (Z.take L) := by
  have hl : (Z.take L).length = L := by simp; omega
  have hmax : maxLen ≤ 9223372036854775807 := by decide
  refine ⟨⟨by simp, A, C, by rw [hl], by omega, by omega, ?_⟩, ?_⟩
  · by_cases hL : L = 0
    · left; omega
    · right
      cases hA : A with
      | none => have := h5 hA; omega
      | some a =>
        have h0 := cellG_of_cell? (h6 a hA 0 (by omega))
        have hs : a.spot = none := by simpa [Addr.add] using h0.1
        refine ⟨a.block, a.off, by obtain ⟨b, o, s⟩ := a; simp only at hs; subst hs; rfl, ?_⟩
        intro i u hu
        have hi : i < L := by have := (List.getElem?_eq_some_iff.1 hu).1; simp at this; omega
        have hc := (cellG_of_cell? (h6 a hA i (by omega))).2
        rw [add_block a i hs] at hc
        rw [hc]
        have hiz : i < Z.length := by omega
        simp [List.getElem?_take, hi, hiz] at hu
        simp [List.getD_eq_getElem?_getD, hiz, ← hu]
  · intro x hx
    exact wf_inI (h4 x (List.mem_of_mem_take hx))

/-- A slice of slices of integers that came in. -/
theorem ints2_in {H : Type} {enc : TypeId × Value → H} {P : Program} {w : World} {base : Nat} {held : Bool} {t e q : TypeId} {fuel : Nat} {v : Value} {x : DataW H × List MemPlace} (ht : P.underlying t = some (.slice e)) (he : P.underlying e = some (.slice q)) (hq : P.underlying q = some (.int .i64))
    (ce : P.cellsOf e = 1) (cq : P.cellsOf q = 1) (h : DataW.trod enc P w base (fun _ => true) held fuel t [v] = some x) : ∃ xss, Ints2 (hp w.heap) v xss := by
  have hmax : maxLen ≤ 9223372036854775807 := by decide
  rcases Go.Deep.open_int_rows ht he hq ce cq h with ⟨hcs, _⟩ | ⟨a, len, cap, A, L, C, Z, hcs, _, hl, hm, _, hr⟩
  · cases hcs
    exact ⟨[], [], ⟨rfl, none, 0, rfl, by simp, by simp, .inl rfl⟩, by simp⟩
  · cases hcs
    refine ⟨(List.range len).map fun r => (Z r).take (L r), (List.range len).map fun r => .slice (A r) (L r) (C r), ⟨by simp, some a, cap, by simp, by simpa using hl, by omega, ?_⟩, ?_⟩
    · by_cases hL : len = 0
      · left; simp [hL]
      · right
        have h0 := cellG_of_cell? (hr 0 (by omega)).1
        have hs : a.spot = none := by simpa [Addr.add] using h0.1
        refine ⟨a.block, a.off, by obtain ⟨b, o, s⟩ := a; simp only at hs; subst hs; rfl, ?_⟩
        intro i u hu
        have hi : i < len := by have := (List.getElem?_eq_some_iff.1 hu).1; simpa using this
        have hc := (cellG_of_cell? (hr i (by omega)).1).2
        rw [add_block a i hs] at hc
        rw [hc]
        simp [hi] at hu
        rw [hu]
    · intro i u y hu hy
      have hi : i < len := by have := (List.getElem?_eq_some_iff.1 hu).1; simpa using this
      simp [hi] at hu hy
      subst hu; subst hy
      obtain ⟨_, h1, h2, h3, h4, h5, h6⟩ := hr i (by omega)
      exact ints_in h1 h2 h3 h4 h5 fun a' ha => (h6 a' ha).2

/-- A slice of integers that came in. -/
theorem ints1_in {H : Type} {enc : TypeId × Value → H} {P : Program} {w : World} {base : Nat} {held : Bool} {t q : TypeId} {fuel : Nat} {v : Value} {x : DataW H × List MemPlace} (ht : P.underlying t = some (.slice q)) (hq : P.underlying q = some (.int .i64))
    (cq : P.cellsOf q = 1) (h : DataW.trod enc P w base (fun _ => true) held fuel t [v] = some x) : ∃ xs, Ints (hp w.heap) v xs := by
  rcases Go.ChangeShapes.open_ints ht hq cq h with ⟨hcs, _⟩ | ⟨a, len, cap, zs, hcs, _, hl, hm, hz, _, hcell, hwf⟩
  · cases hcs
    exact ⟨[], ⟨rfl, none, 0, rfl, by simp, by simp, .inl rfl⟩, by simp⟩
  · cases hcs
    simp only [if_true] at hz
    exact ⟨_, ints_in hl hm hz hwf (by simp) (fun a' ha c hc => by cases ha; exact hcell c (by omega))⟩

/-- All that is in the heap. -/
def gAll (h : Heap) : Gh := ⟨fun b o => cellG (hp h) b o, fun _ _ => none⟩
theorem RelV_ints {h : Heap} {v : Value} {xs : List Int} (H : Ints (hp h) v xs) : RelV (gAll h) (aInts xs) v := by
  obtain ⟨⟨h1, a, cap, rfl, h2, h3, h4⟩, _⟩ := H
  refine .sl _ _ _ _ _ (xs.map (.int .i64)) (by simp) ?_ h2 h3 ?_ trivial
  · intro i b u hb hu
    simp only [List.getElem?_map, Option.map_eq_some_iff] at hb hu
    obtain ⟨x, hx, rfl⟩ := hb
    obtain ⟨y, hy, rfl⟩ := hu
    rw [hx] at hy; cases hy
    exact .v _
  · rcases h4 with h4 | ⟨b, off, h4, h5⟩
    · exact .inl ⟨h4, by rw [List.eq_nil_of_length_eq_zero h4]; rfl⟩
    · exact .inr ⟨b, off, h4, h5⟩
theorem RelV_ints2 {h : Heap} {v : Value} {xss : List (List Int)} (H : Ints2 (hp h) v xss) : RelV (gAll h) (aInts2 xss) v := by
  obtain ⟨vs, ⟨h1, a, cap, rfl, h2, h3, h4⟩, hr⟩ := H
  refine .sl _ _ _ _ _ vs (by simpa using h1) ?_ h2 h3 ?_ trivial
  · intro i b u hb hu
    simp only [List.getElem?_map, Option.map_eq_some_iff] at hb
    obtain ⟨x, hx, rfl⟩ := hb
    exact RelV_ints (hr i u x hu hx)
  · rcases h4 with h4 | ⟨b, off, h4, h5⟩
    · exact .inl ⟨h4, List.eq_nil_of_length_eq_zero (by rw [h1, h4])⟩
    · exact .inr ⟨b, off, h4, h5⟩

/-- A law that is shown on annotated values, of the real ones. -/
theorem law_run {P : Program} {f : FuncId} {as : List AV} (H : FnP P f as fun a => a = aBool true) {h : Heap} {vs : List Value} (hr : RelL (gAll h) as vs) (ht : TabOk h := by trivial) :
    FnC P f vs.toArray h fun r h' => (h.size ≤ h'.size ∧ ∀ b, b < h.size → h'[b]? = h[b]?) ∧ r = .bool true := by
  have hH : RelH h (gAll h) h [] := by
    refine ⟨ht, Nat.le_refl _, fun _ _ => rfl, fun _ _ _ h => h, fun i w cs hi => by simp at hi, fun i w cs hi => by simp at hi, fun i l hl => ?_, fun i j l m _ hl => ?_, (fun i w l hl => by simp [gAll] at hl), ⟨fun i es _ hi => by simp at hi, fun i j es es' l m _ _ _ hi => by simp at hi⟩⟩
    · have := locOf_lt hl; simp at this
    · have := locOf_lt hl; simp at this
  refine (H.2 h _ h vs hH hr).mono ?_
  rintro r h' ⟨G', a, σ', k1, k2, k3, k4, rfl⟩
  exact ⟨⟨k2.size, k2.keep⟩, by cases k3; rfl⟩
theorem RelL.one {G : Gh} {a : AV} {u : Value} (h : RelV G a u) {xs : List AV} {vs : List Value} (H : RelL G xs vs) : RelL G (a :: xs) (u :: vs) := .cons h H

theorem below_of {W W' : World} (H : W.heap.size ≤ W'.heap.size ∧ ∀ b, b < W.heap.size → W'.heap[b]? = W.heap[b]?) (S : Same W W') : Go.RowKit.Below W.heap.size W W' :=
  ⟨S.1, S.2.1, S.2.2.1, H.1, H.2⟩

end Go.Kx
