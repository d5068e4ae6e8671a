/- GridForth: the plain law: each edge leads on, and each node but the first one is led to. -/
import Derived.Test.YtilofhocodbknaaGrf
namespace Go.Proofs.Ytilofhocodbknaa
set_option linter.unusedVariables false
set_option linter.unusedSimpArgs false
open Go Go.Kx Go.Proofs

/-- How many runs of edges to one node each. -/
def ledR : List Ed → Nat
  | [] => 0
  | e :: l => (match l with | [] => 1 | d :: _ => if d.2 = e.2 then 0 else 1) + ledR l
def ledN (l : List Ed) : Nat := ledR l.reverse
theorem ledN_one (e : Ed) : ledN [e] = 1 := rfl
theorem ledN_snoc (A : List Ed) (d e : Ed) : ledN (A ++ [d] ++ [e]) = (if d.2 = e.2 then 0 else 1) + ledN (A ++ [d]) := by simp [ledN, ledR]
theorem ledN_new {A : List Ed} {e : Ed} (h : ∀ d ∈ A, d.2 ≠ e.2) : ledN (A ++ [e]) = ledN A + 1 := by
  induction A using snoc_ind with
  | h0 => rfl
  | hs A d _ => rw [ledN_snoc, if_neg (h d (by simp))]; omega
theorem ledN_same {A : List Ed} {d e : Ed} (h : d.2 = e.2) : ledN (A ++ [d] ++ [e]) = ledN (A ++ [d]) := by rw [ledN_snoc, if_pos h]; omega
theorem ledN_le (l : List Ed) : ledN l ≤ l.length := by
  induction l using snoc_ind with
  | h0 => exact Nat.le_refl 0
  | hs l e ih =>
    induction l using snoc_ind with
    | h0 => exact Nat.le_refl 1
    | hs A d _ =>
      rw [ledN_snoc]
      simp only [List.length_append, List.length_singleton] at ih ⊢
      split <;> omega
def nodesN (l : List (List CC)) (n : Nat) : Nat := ((l.take n).map List.length).sum
theorem row_targets (i : Nat) (q r : List CC) (k : Nat) : ∀ e ∈ rowEd i q r k, ∃ j, j < k ∧ e.2 = ((i : Int), (r.getD j nc).st) := by
  intro e he
  unfold rowEd at he
  obtain ⟨j, hj, he⟩ := List.mem_flatMap.1 he
  rw [List.mem_range] at hj
  unfold cellEd at he
  obtain ⟨p, _, rfl⟩ := List.mem_map.1 he
  exact ⟨j, hj, rfl⟩
theorem gEd_targets (l : List (List CC)) (n : Nat) : ∀ e ∈ gEd l n, e.2.1 < n := by
  intro e he
  unfold gEd at he
  obtain ⟨i, hi, he⟩ := List.mem_flatMap.1 he
  rw [List.mem_range] at hi
  obtain ⟨j, _, h⟩ := row_targets _ _ _ _ e he
  rw [h]
  simp only
  omega
theorem led_row {l : List (List CC)} (hok : ∀ r ∈ l, RowOk r) {n : Nat} {q r : List CC} (hr : l[n]? = some r) (hn : 0 < n → 0 < nodesN l n) (hA : ledN (gEd l n) = nodesN l n - 1) :
    ∀ k, k ≤ r.length → ledN (gEd l n ++ rowEd n q r k) = nodesN l n + k - 1 := by
  intro k
  induction k with
  | zero => intro _; simpa [rowEd] using hA
  | succ k ih =>
    intro hk
    have ih := ih (by omega)
    have hrok := hok r (List.mem_of_getElem? hr)
    obtain ⟨c, hc⟩ := at_lt (l := r) (k := k) (by omega)
    have hgc : (r.getD k nc) = c := by rw [List.getD_eq_getElem?_getD, hc]; rfl
    rw [rowEd_succ, ← List.append_assoc]
    have hT : ∀ d ∈ gEd l n ++ rowEd n q r k, d.2 ≠ ((n : Int), c.st) := by
      intro d hd
      rcases List.mem_append.1 hd with h | h
      · have := gEd_targets l n d h
        intro e
        rw [e] at this
        simp only at this
        omega
      · obtain ⟨j, hj, e⟩ := row_targets n q r k d h
        obtain ⟨x, hx⟩ := at_lt (l := r) (k := j) (by omega)
        have hgx : (r.getD j nc) = x := by rw [List.getD_eq_getElem?_getD, hx]; rfl
        rw [e, hgx]
        have := hrok.inc j k x c hj hx hc
        intro e
        have := (Prod.ext_iff.1 e).2
        simp only at this
        omega
    generalize gEd l n ++ rowEd n q r k = A at ih hT
    have hone : ∀ p : Int × Int, ledN (A ++ [(p, ((n : Int), c.st))]) = ledN A + 1 := fun p => ledN_new (e := (p, ((n : Int), c.st))) hT
    have htwo : ∀ p p' : Int × Int, ledN (A ++ [(p, ((n : Int), c.st)), (p', ((n : Int), c.st))]) = ledN A + 1 := fun p p' => by
      have := ledN_same (A := A) (d := (p, ((n : Int), c.st))) (e := (p', ((n : Int), c.st))) rfl
      rw [List.append_assoc] at this
      exact this.trans (hone p)
    unfold cellEd cellP
    rw [hgc]
    by_cases hk0 : k = 0
    · subst hk0
      by_cases hn0 : n = 0
      · subst hn0
        have : nodesN l 0 = 0 := by simp [nodesN]
        simp only [if_pos, List.append_nil, List.map_nil]
        omega
      · have := hn (by omega)
        simp only [if_pos, if_neg hn0, List.nil_append, List.map_cons, List.map_nil]
        rw [hone]; omega
    · simp only [if_neg hk0]
      have key : ledN A + 1 = nodesN l n + (k + 1) - 1 := by omega
      split
      · simp only [List.append_nil, List.map_cons, List.map_nil]
        rw [hone]; exact key
      · split
        · simp only [List.cons_append, List.nil_append, List.map_cons, List.map_nil]
          rw [htwo]; exact key
        · simp only [List.append_nil, List.map_cons, List.map_nil]
          rw [hone]; exact key
theorem nodesN_succ {l : List (List CC)} {n : Nat} {r : List CC} (hr : l[n]? = some r) : nodesN l (n + 1) = nodesN l n + r.length := by
  unfold nodesN
  rw [take_succ_at hr]; simp
theorem led_all {l : List (List CC)} (hok : ∀ r ∈ l, RowOk r) : ∀ n, n ≤ l.length → ledN (gEd l n) = nodesN l n - 1 ∧ (0 < n → 0 < nodesN l n) := by
  intro n
  induction n with
  | zero => intro _; exact ⟨by simp [gEd, ledN, ledR, nodesN], by omega⟩
  | succ n ih =>
    intro h
    obtain ⟨h1, h2⟩ := ih (by omega)
    obtain ⟨r, hr⟩ := at_lt (l := l) (k := n) (by omega)
    have hgr : l.getD n [] = r := by rw [List.getD_eq_getElem?_getD, hr]; rfl
    have hp := (hok r (List.mem_of_getElem? hr)).pos
    rw [gEd_succ, hgr, nodesN_succ hr]
    exact ⟨led_row hok hr h2 h1 r.length (Nat.le_refl _), fun _ => by omega⟩
/-- Down or on. -/
def forthE (e : Ed) : Prop := (e.1.1 = e.2.1 ∧ e.1.2 < e.2.2) ∨ (e.1.1 + 1 = e.2.1 ∧ e.1.2 ≤ e.2.2)
theorem lastLE_le (r : List CC) {s : Int} (h : 0 ≤ s) : lastLE r s ≤ s := by
  induction r using snoc_ind with
  | h0 => simpa [lastLE] using h
  | hs r d ih => rw [lastLE_snoc]; split <;> omega
theorem edges_forth {l : List (List CC)} (hok : ∀ r ∈ l, RowOk r) : ∀ e ∈ edgeL l, forthE e := by
  intro e he
  unfold edgeL gEd at he
  obtain ⟨i, hi, he⟩ := List.mem_flatMap.1 he
  rw [List.mem_range] at hi
  obtain ⟨r, hr⟩ := at_lt hi
  have hrok := hok r (List.mem_of_getElem? hr)
  have hgr : l.getD i [] = r := by rw [List.getD_eq_getElem?_getD, hr]; rfl
  rw [hgr] at he
  unfold rowEd at he
  obtain ⟨k, hk, he⟩ := List.mem_flatMap.1 he
  rw [List.mem_range] at hk
  obtain ⟨c, hc⟩ := at_lt hk
  have hgc : (r.getD k nc) = c := by rw [List.getD_eq_getElem?_getD, hc]; rfl
  have hcb := hrok.bd c (List.mem_of_getElem? hc)
  unfold cellEd at he
  obtain ⟨p, hp, rfl⟩ := List.mem_map.1 he
  rw [hgc]
  unfold cellP at hp
  rw [hgc] at hp
  rcases List.mem_append.1 hp with h | h
  · split at h
    · cases h
    · rw [List.mem_singleton] at h
      subst h
      obtain ⟨x, hx⟩ := at_lt (l := r) (k := k - 1) (by omega)
      have hgx : (r.getD (k - 1) nc) = x := by rw [List.getD_eq_getElem?_getD, hx]; rfl
      rw [hgx]
      exact .inl ⟨rfl, hrok.inc (k - 1) k x c (by omega) hx hc⟩
  · split at h
    · cases h
    · split at h
      · rw [List.mem_singleton] at h
        subst h
        exact .inr ⟨by simp only; omega, by simp only; omega⟩
      · split at h
        · rw [List.mem_singleton] at h
          subst h
          exact .inr ⟨by simp only; omega, lastLE_le _ hcb.1⟩
        · cases h
end Go.Proofs.Ytilofhocodbknaa
