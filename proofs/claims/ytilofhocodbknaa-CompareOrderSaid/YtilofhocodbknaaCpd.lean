/- CompareOrder, in plain Lean: how many results are what, whatever their order. -/
import Derived.Test.YtilofhocodbknaaCpc
namespace Go.Proofs.Ytilofhocodbknaa
set_option linter.unusedVariables false
set_option linter.unusedSimpArgs false
open Go Go.Kx Go.Proofs

theorem alikeB_iff (a b : RR) : alikeB a b = true ↔ a.st = b.st ∧ a.wy = b.wy ∧ a.out = b.out ∧ a.mem = b.mem := by
  simp [alikeB, Bool.and_eq_true, and_assoc]
theorem alikeB_refl (a : RR) : alikeB a a = true := (alikeB_iff a a).2 ⟨rfl, rfl, rfl, rfl⟩
theorem alikeB_symm {a b : RR} (h : alikeB a b = true) : alikeB b a = true := by
  obtain ⟨h1, h2, h3, h4⟩ := (alikeB_iff a b).1 h
  exact (alikeB_iff b a).2 ⟨h1.symm, h2.symm, h3.symm, h4.symm⟩
theorem alikeB_trans {a b c : RR} (h : alikeB a b = true) (k : alikeB b c = true) : alikeB a c = true := by
  obtain ⟨h1, h2, h3, h4⟩ := (alikeB_iff a b).1 h
  obtain ⟨k1, k2, k3, k4⟩ := (alikeB_iff b c).1 k
  exact (alikeB_iff a c).2 ⟨h1.trans k1, h2.trans k2, h3.trans k3, h4.trans k4⟩

theorem filter_lt {α : Type} (p : α → Bool) {t : α} : ∀ {T : List α}, t ∈ T → p t = false → (T.filter p).length + 1 ≤ T.length := by
  intro T
  induction T with
  | nil => intro h; cases h
  | cons a T ih =>
    intro h hp
    have hle := List.length_filter_le p T
    rcases List.mem_cons.1 h with e | h
    · subst e
      rw [List.filter_cons, if_neg (by rw [hp]; simp)]
      simp only [List.length_cons]; omega
    · have := ih h hp
      rw [List.filter_cons]
      split <;> simp only [List.length_cons] <;> omega
theorem card_le : ∀ (S T : List RR), S.Pairwise (fun a b => alikeB a b = false) → (∀ s ∈ S, ∃ t ∈ T, alikeB s t = true) → S.length ≤ T.length := by
  intro S
  induction S with
  | nil => intro T _ _; simp
  | cons s S ih =>
    intro T hp h
    obtain ⟨hs, hp'⟩ := List.pairwise_cons.1 hp
    obtain ⟨t, ht, hst⟩ := h s (List.mem_cons_self ..)
    have h1 := filter_lt (fun x => !(alikeB t x)) ht (by simp [alikeB_refl])
    have h2 := ih (T.filter fun x => !(alikeB t x)) hp' fun x hx => by
      obtain ⟨y, hy, hxy⟩ := h x (List.mem_cons_of_mem _ hx)
      refine ⟨y, List.mem_filter.2 ⟨hy, ?_⟩, hxy⟩
      cases hty : alikeB t y with
      | false => rfl
      | true =>
        have := alikeB_trans hst (alikeB_trans hty (alikeB_symm hxy))
        rw [hs x hx] at this; cases this
    simp only [List.length_cons]; omega
theorem seenF_pair (l : List RR) : (seenF l).Pairwise (fun a b => alikeB a b = false) := by
  induction l using snoc_ind with
  | h0 => exact List.Pairwise.nil
  | hs l r ih =>
    rw [seenF_snoc, addR]
    split
    · exact ih
    · rename_i h
      rw [List.pairwise_append]
      refine ⟨ih, List.pairwise_singleton _ _, fun x hx y hy => ?_⟩
      rw [List.mem_singleton] at hy
      subst hy
      cases hb : alikeB x y with
      | false => rfl
      | true => exact absurd (List.any_eq_true.2 ⟨x, hx, hb⟩) h
theorem seenF_cov (l : List RR) : ∀ x ∈ l, ∃ y ∈ seenF l, alikeB x y = true := by
  induction l using snoc_ind with
  | h0 => intro x hx; cases hx
  | hs l r ih =>
    intro x hx
    rw [seenF_snoc, addR]
    rcases List.mem_append.1 hx with h | h
    · obtain ⟨y, hy, hxy⟩ := ih x h
      split
      · exact ⟨y, hy, hxy⟩
      · exact ⟨y, List.mem_append.2 (.inl hy), hxy⟩
    · rw [List.mem_singleton] at h
      subst h
      split
      · rename_i h
        obtain ⟨y, hy, hb⟩ := List.any_eq_true.1 h
        exact ⟨y, hy, alikeB_symm hb⟩
      · exact ⟨x, List.mem_append.2 (.inr (List.mem_singleton.2 rfl)), alikeB_refl x⟩
theorem seenF_le {l m : List RR} (h : ∀ x ∈ l, x ∈ m) : (seenF l).length ≤ (seenF m).length :=
  card_le _ _ (seenF_pair l) fun s hs => seenF_cov m s (h s (seenF_mem s hs))
theorem seenF_eq {l m : List RR} (h : ∀ x, x ∈ l ↔ x ∈ m) : (seenF l).length = (seenF m).length :=
  Nat.le_antisymm (seenF_le fun x hx => (h x).1 hx) (seenF_le fun x hx => (h x).2 hx)
theorem seenF_app (l m : List RR) : (seenF (l ++ m)).length ≤ (seenF l).length + (seenF m).length := by
  have := card_le (seenF (l ++ m)) (seenF l ++ seenF m) (seenF_pair _) fun s hs => by
    rcases List.mem_append.1 (seenF_mem s hs) with h | h
    · obtain ⟨y, hy, hb⟩ := seenF_cov l s h
      exact ⟨y, List.mem_append.2 (.inl hy), hb⟩
    · obtain ⟨y, hy, hb⟩ := seenF_cov m s h
      exact ⟨y, List.mem_append.2 (.inr hy), hb⟩
  rwa [List.length_append] at this
theorem cSt_app (l m : List RR) (k : Int) : cSt (l ++ m) k = cSt l k + cSt m k := List.countP_append
theorem seenF_turn (l : List RR) (k : Nat) : (seenF (l.drop k ++ l.take k)).length = (seenF l).length :=
  seenF_eq fun x => by
    have : x ∈ l ↔ x ∈ l.take k ++ l.drop k := by rw [List.take_append_drop]
    rw [this, List.mem_append, List.mem_append]
    exact ⟨fun h => h.symm, fun h => h.symm⟩
theorem cSt_turn (l : List RR) (k : Nat) (s : Int) : cSt (l.drop k ++ l.take k) s = cSt l s := by
  have : cSt l s = cSt (l.take k ++ l.drop k) s := by rw [List.take_append_drop]
  rw [this, cSt_app, cSt_app]; omega
theorem seenF_twice (l : List RR) : (seenF (l ++ l)).length = (seenF l).length :=
  seenF_eq fun x => by rw [List.mem_append]; exact ⟨fun h => h.elim id id, .inl⟩
theorem cSt_sum (l : List RR) : cSt l 1 + cSt l 4 + cSt l 5 + cSt l 6 ≤ l.length := by
  induction l with
  | nil => simp [cSt]
  | cons r l ih =>
    have h : ∀ k : Int, cSt (r :: l) k = (if r.st = k then 1 else 0) + cSt l k := fun k => by
      show cSt ([r] ++ l) k = _
      rw [cSt_app]
      congr 1
      unfold cSt
      by_cases h : r.st = k <;> simp [h]
    rw [h, h, h, h, List.length_cons]
    by_cases h1 : r.st = 1
    · rw [if_pos h1, if_neg (by omega), if_neg (by omega), if_neg (by omega)]; omega
    by_cases h4 : r.st = 4
    · rw [if_neg h1, if_pos h4, if_neg (by omega), if_neg (by omega)]; omega
    by_cases h5 : r.st = 5
    · rw [if_neg h1, if_neg h4, if_pos h5, if_neg (by omega)]; omega
    rw [if_neg h1, if_neg h4, if_neg h5]
    split <;> omega
theorem seenF_mono1 (l m : List RR) : (seenF l).length ≤ (seenF (l ++ m)).length := seenF_le fun x hx => List.mem_append.2 (.inl hx)
theorem seenF_mono2 (l m : List RR) : (seenF m).length ≤ (seenF (l ++ m)).length := seenF_le fun x hx => List.mem_append.2 (.inr hx)
end Go.Proofs.Ytilofhocodbknaa
