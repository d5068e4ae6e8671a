/- Own small program logic, part m: what values read as. -/
import Derived.Test.YtjdpejggafefjaaDoorKl
namespace Go.Kx
set_option linter.unusedVariables false
set_option linter.unusedSimpArgs false
open Go

def inI (x : Int) : Prop := -9223372036854775808 ≤ x ∧ x ≤ 9223372036854775807

theorem cellG_up {g g' : PH} (h : PH.le g g') {b off : Nat} {v : Value} (e : cellG g b off = some v) : cellG g' b off = some v := by
  unfold cellG at e ⊢
  cases hb : g b with
  | none => simp [hb] at e
  | some o => rw [hb] at e; rw [h b o hb]; exact e
theorem cellsG_of {g : PH} {b : Nat} : ∀ {l : List Value} {off : Nat}, (∀ j v, l[j]? = some v → cellG g b (off + j) = some v) → cellsG g b off l.length = some l := by
  intro l
  induction l with
  | nil => intro off _; rfl
  | cons v l ih =>
    intro off h
    have h0 := h 0 v rfl
    have := ih (off := off + 1) (fun j u hu => by have := h (j + 1) u (by simpa using hu); rwa [show off + 1 + j = off + (j + 1) by omega])
    simp only [List.length_cons, cellsG]
    rw [show off + 0 = off from rfl] at h0
    rw [h0, this]
    rfl

/-- The value is a slice of n elements of sz cells; they hold cs. -/
def RSl (g : PH) (v : Value) (n sz : Nat) (cs : List Value) : Prop :=
  cs.length = n * sz ∧ ∃ a cap, v = .slice a n cap ∧ n ≤ cap ∧ cap ≤ 9223372036854775807 ∧
    (n = 0 ∨ ∃ b off, a = some ⟨b, off, none⟩ ∧ ∀ i u, cs[i]? = some u → cellG g b (off + i) = some u)
theorem RSl.up {g g' : PH} (h : PH.le g g') {v : Value} {n sz : Nat} {cs : List Value} (H : RSl g v n sz cs) : RSl g' v n sz cs := by
  obtain ⟨h1, a, cap, h2, h3, h4, h5⟩ := H
  refine ⟨h1, a, cap, h2, h3, h4, ?_⟩
  rcases h5 with h5 | ⟨b, off, h5, h6⟩
  · exact .inl h5
  · exact .inr ⟨b, off, h5, fun i u hu => cellG_up h (h6 i u hu)⟩
theorem RSl.len {g : PH} {v : Value} {n sz : Nat} {cs : List Value} (H : RSl g v n sz cs) : PF.val (.len false) [v] = some (.int .i64 n) := by
  obtain ⟨h1, a, cap, rfl, _⟩ := H
  rfl
theorem RSl.le {g : PH} {v : Value} {n sz : Nat} {cs : List Value} (H : RSl g v n sz cs) : n ≤ 9223372036854775807 := by
  obtain ⟨h1, a, cap, rfl, h2, h3, _⟩ := H
  omega
/-- The place of element k: its cells. -/
theorem RSl.at {g : PH} {v : Value} {n sz : Nat} {cs : List Value} (H : RSl g v n sz cs) {k : Nat} (hk : k < n) :
    ∃ b o, PF.val (.ixa sz) [v, .int .i64 k] = some (.pointer (some ⟨b, o, none⟩)) ∧ ∀ j u, j < sz → cs[k * sz + j]? = some u → cellG g b (o + j) = some u := by
  obtain ⟨h1, a, cap, rfl, h2, h3, h4⟩ := H
  rcases h4 with h4 | ⟨b, off, rfl, h5⟩
  · omega
  · refine ⟨b, off + k * sz, ?_, ?_⟩
    · rw [v_ixa _ _ _ _ _ _ _ (by omega) (by omega)]; simp
    · intro j u hj hu
      rw [Nat.add_assoc]
      exact h5 _ u hu
theorem RSl.at1 {g : PH} {v : Value} {n : Nat} {cs : List Value} (H : RSl g v n 1 cs) {k : Nat} {u : Value} (hu : cs[k]? = some u) :
    ∃ p, PF.val (.ixa 1) [v, .int .i64 k] = some p ∧ ldV none p g = some u := by
  have hk : k < n := by have := (List.getElem?_eq_some_iff.1 hu).1; rw [H.1] at this; omega
  obtain ⟨b, o, h1, h2⟩ := H.at hk
  exact ⟨_, h1, h2 0 u (by omega) (by simpa using hu)⟩

/-! ### Slices of integers -/
def Ints (g : PH) (v : Value) (xs : List Int) : Prop := RSl g v xs.length 1 (xs.map (.int .i64)) ∧ ∀ x ∈ xs, inI x
theorem Ints.up {g g' : PH} (h : PH.le g g') {v : Value} {xs : List Int} (H : Ints g v xs) : Ints g' v xs := ⟨H.1.up h, H.2⟩
theorem Ints.at {g : PH} {v : Value} {xs : List Int} (H : Ints g v xs) {k : Nat} (hk : k < xs.length) :
    inI xs[k] ∧ ∃ p, PF.val (.ixa 1) [v, .int .i64 k] = some p ∧ ldV none p g = some (.int .i64 xs[k]) :=
  ⟨H.2 _ (List.getElem_mem hk), H.1.at1 (by simp [hk])⟩

/-! ### Slices of whatever is in one cell -/
def RSs {α : Type} (R : PH → Value → α → Prop) (g : PH) (v : Value) (xs : List α) : Prop := ∃ vs, RSl g v xs.length 1 vs ∧ ∀ (i : Nat) (u : Value) (x : α), vs[i]? = some u → xs[i]? = some x → R g u x
theorem RSs.up {α : Type} {R : PH → Value → α → Prop} {g g' : PH} (h : PH.le g g') (hR : ∀ u x, R g u x → R g' u x) {v : Value} {xs : List α} (H : RSs R g v xs) : RSs R g' v xs := by
  obtain ⟨vs, h1, h2⟩ := H
  exact ⟨vs, h1.up h, fun i u x hu hx => hR _ _ (h2 i u x hu hx)⟩
theorem RSs.at {α : Type} {R : PH → Value → α → Prop} {g : PH} {v : Value} {xs : List α} (H : RSs R g v xs) {k : Nat} (hk : k < xs.length) :
    ∃ u p, R g u xs[k] ∧ PF.val (.ixa 1) [v, .int .i64 k] = some p ∧ ldV none p g = some u := by
  obtain ⟨vs, h1, h2⟩ := H
  have hkv : k < vs.length := by rw [h1.1]; omega
  obtain ⟨p, e1, e2⟩ := h1.at1 (k := k) (u := vs[k]) (by simp [hkv])
  exact ⟨vs[k], p, h2 k _ _ (by simp [hkv]) (by simp [hk]), e1, e2⟩
theorem RSs.len {α : Type} {R : PH → Value → α → Prop} {g : PH} {v : Value} {xs : List α} (H : RSs R g v xs) : PF.val (.len false) [v] = some (.int .i64 xs.length) := H.choose_spec.1.len
theorem RSs.le {α : Type} {R : PH → Value → α → Prop} {g : PH} {v : Value} {xs : List α} (H : RSs R g v xs) : xs.length ≤ 9223372036854775807 := H.choose_spec.1.le
abbrev Ints2 (g : PH) (v : Value) (xss : List (List Int)) : Prop := RSs Ints g v xss
theorem Ints2.up {g g' : PH} (h : PH.le g g') {v : Value} {xss : List (List Int)} (H : Ints2 g v xss) : Ints2 g' v xss := RSs.up h (fun _ _ H => H.up h) H

end Go.Kx
