/- Trace: the stages that a loop's iterations have come to. -/
import Derived.Test.YthgmfjkbgacfaaaTrf
namespace Go.Proofs.Ythgmfjkbgacfaaa
set_option linter.unusedVariables false
set_option linter.unusedSimpArgs false
open Go Go.Kx Go.Proofs
open Go.Proofs.Ythgmfjkbgacfaaa.Gr (CC aCC aCC_len aRow aRows aRows_pure)

/-- Which row is an iteration's. -/
def getI (A : List (Int × Int)) (i : Int) : Int := match A with | [] => 0 | p :: A => if i = p.1 then p.2 else getI A i
def putI (A : List (Int × Int)) (i x : Int) : List (Int × Int) := match A with | [] => [(i, x)] | p :: A => if i = p.1 then (i, x) :: A else p :: putI A i x
def esI (A : List (Int × Int)) : List (Value × AV) := A.map fun p => (.int .i64 p.1, .v (.int .i64 p.2))
theorem getM_I (A : List (Int × Int)) (i : Int) : getM (.int .i64) (absV (.int .i64 0)) (.int .i64 i) (esI A) = some (.v (.int .i64 (getI A i))) := by
  induction A with
  | nil => rfl
  | cons p A ih =>
    simp only [esI, List.map_cons, getM, eqC, if_true, getI] at ih ⊢
    by_cases h : i = p.1
    · subst h; simp
    · rw [show (i == p.1) = false by simpa using h, if_neg h]
      exact ih
theorem putM_I (A : List (Int × Int)) (i x : Int) : putM (.int .i64) (.int .i64 i) (.v (.int .i64 x)) (esI A) = some (esI (putI A i x)) := by
  induction A with
  | nil => rfl
  | cons p A ih =>
    simp only [esI, List.map_cons, putM, eqC, if_true, putI] at ih ⊢
    by_cases h : i = p.1
    · subst h; simp [Instr.sameBits]
    · rw [show (i == p.1) = false by simpa using h, if_neg h]
      simp only [ih]
      rfl
theorem getI_putI (A : List (Int × Int)) (i x j : Int) : getI (putI A i x) j = if j = i then x else getI A j := by
  induction A with
  | nil => simp [putI, getI]
  | cons p A ih =>
    simp only [putI]
    by_cases h : i = p.1
    · subst h
      simp only [if_true, getI]
      split <;> rfl
    · rw [if_neg h]
      simp only [getI, ih]
      by_cases hj : j = p.1
      · subst hj
        have : ¬ p.1 = i := fun e => h e.symm
        simp [this]
      · simp [hj]
structure RS where
  R : List (List CC)
  A : List (Int × Int)
def stepR (s : RS) (e : Ev) : RS :=
  if e.k = 1 then ⟨s.R ++ [[⟨0, false⟩]], putI s.A e.it (s.R.length + 1)⟩
  else if e.k = 3 ∨ e.k = 6 then
    if 0 < getI s.A e.it then ⟨s.R.set (getI s.A e.it - 1).toNat (s.R.getD (getI s.A e.it - 1).toNat [] ++ [⟨e.st, decide (e.k = 3)⟩]), s.A⟩ else s
  else s
def rowsX (xs : List (Ev × Nat)) : RS := xs.foldl (fun s x => stepR s x.1) ⟨[], []⟩
def rowsF (l : List Ev) (lp : Int) : List (List CC) := (rowsX (tl (ofLp lp) l)).R
theorem rowsX_succ {xs : List (Ev × Nat)} {k : Nat} {x : Ev × Nat} (h : xs[k]? = some x) : rowsX (xs.take (k + 1)) = stepR (rowsX (xs.take k)) x.1 := by
  unfold rowsX
  rw [take_succ_at h, List.foldl_append]
  rfl
/-- Rows are no longer than events; what is noted of an iteration is a row. -/
def RSok (k : Nat) (s : RS) : Prop := s.R.length ≤ k ∧ (∀ r ∈ s.R, r.length ≤ k) ∧ ∀ i, getI s.A i ≤ s.R.length
theorem stepR_ok {k : Nat} {s : RS} (h : RSok k s) (e : Ev) : RSok (k + 1) (stepR s e) := by
  obtain ⟨h1, h2, h3⟩ := h
  unfold stepR
  split
  · refine ⟨by simp; omega, fun r hr => ?_, fun i => ?_⟩
    · simp only [List.mem_append, List.mem_singleton] at hr
      rcases hr with hr | rfl
      · have := h2 r hr; omega
      · simp
    · simp only [getI_putI, List.length_append, List.length_singleton]
      have := h3 i
      split <;> omega
  · split
    · split
      · rename_i hpos
        refine ⟨by simp; omega, fun r hr => ?_, fun i => by simpa using h3 i⟩
        rcases List.mem_or_eq_of_mem_set hr with hr | rfl
        · have := h2 r hr; omega
        · have hlt : (getI s.A e.it - 1).toNat < s.R.length := by have := h3 e.it; omega
          obtain ⟨r, hr'⟩ := at_lt hlt
          rw [List.getD_eq_getElem?_getD, hr']
          have := h2 r (List.mem_of_getElem? hr')
          simp; omega
      · exact ⟨by omega, fun r hr => by have := h2 r hr; omega, h3⟩
    · exact ⟨by omega, fun r hr => by have := h2 r hr; omega, h3⟩
theorem rowsX_ok (xs : List (Ev × Nat)) : ∀ k, k ≤ xs.length → RSok k (rowsX (xs.take k)) := by
  intro k
  induction k with
  | zero => intro _; exact ⟨by simp [rowsX], by simp [rowsX], fun i => by simp [rowsX, getI]⟩
  | succ k ih =>
    intro hk
    obtain ⟨x, hx⟩ := at_lt (l := xs) (k := k) (by omega)
    rw [rowsX_succ hx]
    exact stepR_ok (ih (by omega)) x.1

/-! ### Rows in the state -/
def RowsAt (s : RS) (σ : Kx.St) (lab : Nat → Role) : Prop :=
  (lab 0 = (0, 1) ∧ σ[1]? = some (.map (esI s.A)) ∧ lab 1 = (0, 2) ∧ σ[2]? = some (.obj 0 [.mp 1]) ∧ lab 2 = (0, 3)) ∧
  ((s.R = [] ∧ σ[0]? = some (.obj 0 [.sl 0 [] .nil])) ∨
   (0 < s.R.length ∧ ∃ r w cs, σ[0]? = some (.obj 0 [.ms r w 0 s.R.length 1]) ∧ σ[r]? = some (.obj w cs) ∧ lab r = (1, 0) ∧ cs.length = s.R.length ∧
     ∀ (i : Nat) (row : List CC), s.R[i]? = some row → 0 < row.length ∧ ∃ x v, cs[i]? = some (.ms x v 0 row.length 2) ∧ σ[x]? = some (.obj v (row.flatMap aCC)) ∧ lab x = (2, i)))
theorem RowsAt.stp {s : RS} {σ σ' : Kx.St} {lab lab' : Nat → Role} (h : RowsAt s σ lab) (k : Stp (fun _ => False) σ lab σ' lab') : RowsAt s σ' lab' := by
  obtain ⟨⟨h0, h1, h2, h3, h4⟩, h5⟩ := h
  obtain ⟨a1, a2⟩ := k.get h1 id
  obtain ⟨b1, b2⟩ := k.get h3 id
  have h00 : lab' 0 = lab 0 := by
    have : 0 < σ.length := by have := lt_at h1; omega
    exact (k.same 0 this id).2
  refine ⟨⟨h00.trans h0, a1, a2.trans h2, b1, b2.trans h4⟩, ?_⟩
  rcases h5 with ⟨e1, e2⟩ | ⟨hp, r, w, cs, e1, e2, e3, e4, e5⟩
  · exact .inl ⟨e1, (k.get e2 id).1⟩
  · refine .inr ⟨hp, r, w, cs, (k.get e1 id).1, (k.get e2 id).1, (k.get e2 id).2.trans e3, e4, fun i row hi => ?_⟩
    obtain ⟨f0, x, v, f1, f2, f3⟩ := e5 i row hi
    exact ⟨f0, x, v, f1, (k.get f2 id).1, (k.get f2 id).2.trans f3⟩
/-- Objects frozen, one behind the other. -/
theorem freeze_at : ∀ (xs : List Nat) {σ : Kx.St}, (∀ x ∈ xs, ∃ w cs, σ[x]? = some (.obj w cs) ∧ ∀ τ, AV.resL τ cs = cs) → ∀ i, (i ∉ xs → (Go.Kx.freeze xs σ)[i]? = σ[i]?) ∧ (∀ w cs, i ∈ xs → σ[i]? = some (.obj w cs) → (Go.Kx.freeze xs σ)[i]? = some (.frz w cs)) := by
  intro xs
  induction xs with
  | nil => intro σ _ i; exact ⟨fun _ => rfl, fun w cs h => by simp at h⟩
  | cons x xs ih =>
    intro σ h i
    obtain ⟨w0, cs0, h1, h2⟩ := h x (by simp)
    have hf : freeze1 σ x = σ.set x (.frz w0 cs0) := by unfold Go.Kx.freeze1; rw [h1]; simp only; rw [h2]
    show (i ∉ x :: xs → (Go.Kx.freeze xs (freeze1 σ x))[i]? = σ[i]?) ∧ (∀ w cs, i ∈ x :: xs → σ[i]? = some (.obj w cs) → (Go.Kx.freeze xs (freeze1 σ x))[i]? = some (.frz w cs))
    rw [hf]
    -- those of xs that are x are frozen already: freeze leaves them
    have key : ∀ (ys : List Nat) (τ : Kx.St), (∀ y ∈ ys, (∃ w cs, τ[y]? = some (.obj w cs) ∧ ∀ τ, AV.resL τ cs = cs) ∨ ∃ w cs, τ[y]? = some (.frz w cs)) → ∀ i, (i ∉ ys → (Go.Kx.freeze ys τ)[i]? = τ[i]?) ∧ (∀ w cs, i ∈ ys → τ[i]? = some (.obj w cs) → (Go.Kx.freeze ys τ)[i]? = some (.frz w cs)) ∧ (∀ w cs, τ[i]? = some (.frz w cs) → (Go.Kx.freeze ys τ)[i]? = some (.frz w cs)) := by
      intro ys
      induction ys with
      | nil => intro τ _ i; exact ⟨fun _ => rfl, fun w cs h => by simp at h, fun w cs h => h⟩
      | cons y ys ihy =>
        intro τ hy i
        show (i ∉ y :: ys → (Go.Kx.freeze ys (freeze1 τ y))[i]? = τ[i]?) ∧ (∀ w cs, i ∈ y :: ys → τ[i]? = some (.obj w cs) → (Go.Kx.freeze ys (freeze1 τ y))[i]? = some (.frz w cs)) ∧ (∀ w cs, τ[i]? = some (.frz w cs) → (Go.Kx.freeze ys (freeze1 τ y))[i]? = some (.frz w cs))
        rcases hy y (by simp) with ⟨wy, cy, k1, k2⟩ | ⟨wy, cy, k1⟩
        · have hfy : freeze1 τ y = τ.set y (.frz wy cy) := by unfold Go.Kx.freeze1; rw [k1]; simp only; rw [k2]
          rw [hfy]
          have hys : ∀ z ∈ ys, (∃ w cs, (τ.set y (.frz wy cy))[z]? = some (.obj w cs) ∧ ∀ τ, AV.resL τ cs = cs) ∨ ∃ w cs, (τ.set y (.frz wy cy))[z]? = some (.frz w cs) := by
            intro z hz
            by_cases hzy : y = z
            · subst hzy; exact .inr ⟨_, _, get_set_eq k1⟩
            · rcases hy z (List.mem_cons_of_mem _ hz) with ⟨w, cs, a, b⟩ | ⟨w, cs, a⟩
              · exact .inl ⟨w, cs, get_set_ne hzy a, b⟩
              · exact .inr ⟨w, cs, get_set_ne hzy a⟩
          obtain ⟨m1, m2, m3⟩ := ihy _ hys i
          refine ⟨fun hi => ?_, fun w cs hi hw => ?_, fun w cs hw => ?_⟩
          · rw [m1 fun h => hi (List.mem_cons_of_mem _ h), List.getElem?_set_ne]
            rintro rfl; exact hi (by simp)
          · by_cases hiy : y = i
            · subst hiy
              rw [k1] at hw
              cases hw
              exact m3 _ _ (get_set_eq k1)
            · rcases List.mem_cons.1 hi with rfl | hi
              · exact absurd rfl hiy
              · exact m2 w cs hi (get_set_ne hiy hw)
          · by_cases hiy : y = i
            · subst hiy; rw [k1] at hw; cases hw
            · exact m3 w cs (get_set_ne hiy hw)
        · have hfy : freeze1 τ y = τ := by unfold Go.Kx.freeze1; rw [k1]
          rw [hfy]
          obtain ⟨m1, m2, m3⟩ := ihy τ (fun z hz => hy z (List.mem_cons_of_mem _ hz)) i
          refine ⟨fun hi => m1 fun h => hi (List.mem_cons_of_mem _ h), fun w cs hi hw => ?_, m3⟩
          rcases List.mem_cons.1 hi with rfl | hi
          · rw [k1] at hw; cases hw
          · exact m2 w cs hi hw
    have hys : ∀ z ∈ xs, (∃ w cs, (σ.set x (.frz w0 cs0))[z]? = some (.obj w cs) ∧ ∀ τ, AV.resL τ cs = cs) ∨ ∃ w cs, (σ.set x (.frz w0 cs0))[z]? = some (.frz w cs) := by
      intro z hz
      by_cases hzx : x = z
      · subst hzx; exact .inr ⟨_, _, get_set_eq h1⟩
      · obtain ⟨w, cs, a, b⟩ := h z (List.mem_cons_of_mem _ hz)
        exact .inl ⟨w, cs, get_set_ne hzx a, b⟩
    obtain ⟨m1, m2, m3⟩ := key xs _ hys i
    refine ⟨fun hi => ?_, fun w cs hi hw => ?_⟩
    · rw [m1 fun h => hi (List.mem_cons_of_mem _ h), List.getElem?_set_ne]
      rintro rfl; exact hi (by simp)
    · by_cases hix : x = i
      · subst hix
        rw [h1] at hw
        cases hw
        exact m3 _ _ (get_set_eq h1)
      · rcases List.mem_cons.1 hi with rfl | hi
        · exact absurd rfl hix
        · exact m2 w cs hi (get_set_ne hix hw)
end Go.Proofs.Ythgmfjkbgacfaaa
