/- Trace: what could happen: its beginnings, and with events of another loop between. -/
import Derived.Test.YthgmfjkbgacfaaaTrj
namespace Go.Proofs.Ythgmfjkbgacfaaa
set_option linter.unusedVariables false
set_option linter.unusedSimpArgs false
open Go Go.Kx Go.Proofs

/-- What an event does, or what is wrong with it. -/
def stepC (S : Int → Lp) (e : Ev) : (Int → Lp) × Int := if e.k < 1 ∨ 6 < e.k then (S, 5) else (updS S e.lp (eventT (S e.lp) e).1, (eventT (S e.lp) e).2)
theorem checkF_cons (S : Int → Lp) (i : Nat) (e : Ev) (es : List Ev) : checkF S i (e :: es) = if (stepC S e).2 = 0 then checkF (stepC S e).1 (i + 1) es else ((i : Int), (stepC S e).2) := by
  simp only [checkF, stepC]
  split
  · simp
  · by_cases h : (eventT (S e.lp) e).2 = 0 <;> simp [h]
theorem checkF_bd : ∀ (l : List Ev) (S : Int → Lp) (i : Nat), (checkF S i l).2 ≠ 0 → ∃ n : Nat, n < l.length ∧ (checkF S i l).1 = ((i + n : Nat) : Int) ∧ (checkF S i (l.take n)).2 = 0 := by
  intro l
  induction l with
  | nil => intro S i h; simp [checkF] at h
  | cons e es ih =>
    intro S i h
    rw [checkF_cons] at h ⊢
    by_cases h0 : (stepC S e).2 = 0
    · rw [if_pos h0] at h ⊢
      obtain ⟨n, h1, h2, h3⟩ := ih _ _ h
      refine ⟨n + 1, by simp; omega, by rw [h2]; congr 1; omega, ?_⟩
      rw [List.take_succ_cons, checkF_cons, if_pos h0]
      exact h3
    · rw [if_neg h0]
      exact ⟨0, by simp, by simp, by simp [checkF]⟩
theorem checkF_ok : ∀ (l : List Ev) (S : Int → Lp) (i : Nat), (checkF S i l).2 = 0 → (checkF S i l).1 = 0 := by
  intro l
  induction l with
  | nil => intro S i _; rfl
  | cons e es ih =>
    intro S i h
    rw [checkF_cons] at h ⊢
    by_cases h0 : (stepC S e).2 = 0
    · rw [if_pos h0] at h ⊢
      exact ih _ _ h
    · rw [if_neg h0] at h
      exact absurd h h0
theorem checkF_take : ∀ (l : List Ev) (S : Int → Lp) (i n : Nat), (checkF S i l).2 = 0 → (checkF S i (l.take n)).2 = 0 := by
  intro l
  induction l with
  | nil => intro S i n h; simpa using h
  | cons e es ih =>
    intro S i n h
    cases n with
    | zero => simp [checkF]
    | succ n =>
      rw [checkF_cons] at h
      rw [List.take_succ_cons, checkF_cons]
      by_cases h0 : (stepC S e).2 = 0
      · rw [if_pos h0] at h ⊢
        exact ih _ _ _ h
      · rw [if_neg h0] at h
        exact absurd h h0
/-- Only the events' own loops count. -/
theorem checkF_congr : ∀ (l : List Ev) (S T : Int → Lp) (i j : Nat), (∀ e ∈ l, S e.lp = T e.lp) → (checkF S i l).2 = (checkF T j l).2 := by
  intro l
  induction l with
  | nil => intro S T i j _; rfl
  | cons e es ih =>
    intro S T i j h
    have he := h e (by simp)
    have h2 : (stepC S e).2 = (stepC T e).2 := by unfold stepC; rw [he]; split <;> rfl
    rw [checkF_cons, checkF_cons, h2]
    split
    · refine ih _ _ _ _ fun f hf => ?_
      unfold stepC
      rw [he]
      split
      · exact h f (by simp [hf])
      · simp only [updS]
        split
        · rfl
        · exact h f (by simp [hf])
    · rfl
/-- One of these, one of those. -/
def wv : List Ev → List Ev → List Ev
  | [], b => b
  | a :: r, [] => a :: wv r []
  | a :: r, b :: t => a :: b :: wv r t
theorem wv_nil (a : List Ev) : wv a [] = a := by
  induction a with
  | nil => rfl
  | cons x a ih => simp [wv, ih]
theorem stepC_ne {S : Int → Lp} {e : Ev} {q : Int} (h : e.lp ≠ q) : (stepC S e).1 q = S q := by
  unfold stepC
  split
  · rfl
  · simp only [updS]
    rw [if_neg fun hq => h hq.symm]
theorem checkF_wv (q : Int) : ∀ (a b : List Ev) (S : Int → Lp) (i j k : Nat), (∀ e ∈ a, e.lp ≠ q) → (∀ e ∈ b, e.lp = q) → (checkF S j b).2 = 0 → (checkF S i (wv a b)).2 = (checkF S k a).2 := by
  intro a
  induction a with
  | nil =>
    intro b S i j k _ _ h0
    simp only [wv]
    rw [checkF_congr b S S i j fun _ _ => rfl, h0]
    rfl
  | cons x a ih =>
    intro b S i j k ha hb h0
    have hx := ha x (by simp)
    have ha' : ∀ e ∈ a, e.lp ≠ q := fun e he => ha e (by simp [he])
    cases b with
    | nil =>
      simp only [wv]
      rw [checkF_cons, checkF_cons]
      split
      · rw [wv_nil]
        exact checkF_congr _ _ _ _ _ fun _ _ => rfl
      · rfl
    | cons y b =>
      simp only [wv]
      have hy := hb y (by simp)
      have hb' : ∀ e ∈ b, e.lp = q := fun e he => hb e (by simp [he])
      rw [checkF_cons, checkF_cons S k]
      by_cases hs : (stepC S x).2 = 0
      · rw [if_pos hs, if_pos hs]
        have h1 : (checkF (stepC S x).1 j (y :: b)).2 = 0 := by
          rw [checkF_congr _ _ S j j fun e he => by rw [hb e he]; exact stepC_ne hx]
          exact h0
        have h2 : (stepC (stepC S x).1 y).2 = 0 := by
          rw [checkF_cons] at h1
          by_cases hz : (stepC (stepC S x).1 y).2 = 0
          · exact hz
          · rw [if_neg hz] at h1
            exact absurd h1 hz
        have h3 : (checkF (stepC (stepC S x).1 y).1 (j + 1) b).2 = 0 := by
          rw [checkF_cons, if_pos h2] at h1
          exact h1
        rw [checkF_cons, if_pos h2, ih b _ _ (j + 1) (k + 1) ha' hb' h3]
        refine checkF_congr _ _ _ _ _ fun e he => stepC_ne ?_
        rw [hy]
        exact fun h => ha' e he h.symm
      · rw [if_neg hs, if_neg hs]
/-- The same, round by round. -/
def wvR (a b : List Ev) (k : Nat) : List Ev := (List.range k).flatMap fun i => a[i]?.toList ++ b[i]?.toList
theorem wvR_succ (a b : List Ev) (k : Nat) : wvR a b (k + 1) = wvR a b k ++ (a[k]?.toList ++ b[k]?.toList) := by simp [wvR, List.range_succ]
theorem wvR_nil (b : List Ev) : ∀ k, wvR [] b k = b.take k := by
  intro k
  induction k with
  | zero => rfl
  | succ k ih =>
    rw [wvR_succ, ih]
    rcases Nat.lt_or_ge k b.length with h | h
    · obtain ⟨x, hx⟩ := at_lt h
      rw [take_succ_at hx, hx]; rfl
    · rw [List.getElem?_eq_none h, List.take_of_length_le h, List.take_of_length_le (by omega)]; simp
theorem wvR_cons (x : Ev) (a b : List Ev) (k : Nat) : wvR (x :: a) b (k + 1) = x :: (b[0]?.toList ++ wvR a b.tail k) := by
  unfold wvR
  rw [List.range_succ_eq_map, List.flatMap_cons, List.flatMap_map]
  simp
theorem wvR_eq : ∀ (a b : List Ev) (k : Nat), a.length ≤ k → b.length ≤ k → wvR a b k = wv a b := by
  intro a
  induction a with
  | nil => intro b k _ hb; rw [wvR_nil, List.take_of_length_le hb]; simp [wv]
  | cons x a ih =>
    intro b k ha hb
    cases k with
    | zero => simp at ha
    | succ k =>
      simp only [List.length_cons] at ha
      rw [wvR_cons]
      cases b with
      | nil =>
        have := ih [] k (by omega) (by simp)
        simp only [wv, List.tail_nil]
        rw [this]; rfl
      | cons y b =>
        simp only [List.length_cons] at hb
        have := ih b k (by omega) (by omega)
        simp only [wv, List.tail_cons]
        rw [this]; rfl
def toLp (q : Int) (e : Ev) : Ev := ⟨e.k, q, e.it, e.st⟩
theorem set_flat {α : Type} {f : α → List AV} {n c : Nat} {v : AV} (hf : ∀ x, (f x).length = n) {e e' : α} (hc : c < n) (he : (f e).set c v = f e') : ∀ {l : List α} {k : Nat}, l[k]? = some e → (l.flatMap f).set (k * n + c) v = (l.set k e').flatMap f := by
  intro l
  induction l with
  | nil => intro k h; simp at h
  | cons x l ih =>
    intro k h
    cases k with
    | zero =>
      simp at h
      subst h
      simp only [List.flatMap_cons, Nat.zero_mul, Nat.zero_add, List.set_cons_zero]
      rw [List.set_append_left _ _ (by rw [hf]; exact hc), he]
    | succ k =>
      have := ih (k := k) (by simpa using h)
      simp only [List.flatMap_cons, List.set_cons_succ]
      rw [List.set_append_right _ _ (by rw [hf, Nat.succ_mul]; omega), hf, show (k + 1) * n + c - n = k * n + c by rw [Nat.succ_mul]; omega, this]
end Go.Proofs.Ythgmfjkbgacfaaa
