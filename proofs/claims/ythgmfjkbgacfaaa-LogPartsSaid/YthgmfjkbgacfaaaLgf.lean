/- LogParts: the plain law: places of events, and which are seen. -/
import Derived.Test.YthgmfjkbgacfaaaLge
namespace Go.Proofs.Ythgmfjkbgacfaaa
set_option linter.unusedVariables false
set_option linter.unusedSimpArgs false
open Go Go.Kx Go.Proofs

theorem tl_mem {p : Ev → Bool} {l : List Ev} {e : Ev} {k : Nat} : (e, k) ∈ tl p l ↔ l[k]? = some e ∧ p e = true := by
  unfold tl
  rw [List.mem_filter, List.mem_zipIdx_iff_getElem?]
theorem tl_inc {p : Ev → Bool} {l : List Ev} {m n : Nat} {x y : Ev × Nat} (hmn : m < n) (hx : (tl p l)[m]? = some x) (hy : (tl p l)[n]? = some y) : x.2 < y.2 := by
  have hp : (tl p l).Pairwise fun a b => a.2 < b.2 := by
    unfold tl
    refine List.Pairwise.filter _ ?_
    have : ∀ (l : List Ev) (k : Nat), (l.zipIdx k).Pairwise fun a b => a.2 < b.2 := by
      intro l
      induction l with
      | nil => intro k; simp
      | cons e l ih =>
        intro k
        rw [List.zipIdx_cons]
        refine List.pairwise_cons.2 ⟨fun b hb => ?_, ih (k + 1)⟩
        have := List.le_snd_of_mem_zipIdx hb
        simp only; omega
    exact this l 0
  have h1 := lt_at hx
  have h2 := lt_at hy
  have := List.pairwise_iff_getElem.1 hp m n h1 h2 hmn
  rw [List.getElem?_eq_getElem h1] at hx
  rw [List.getElem?_eq_getElem h2] at hy
  simp only [Option.some.injEq] at hx hy
  rwa [hx, hy] at this
theorem tIx_at {p : Ev → Bool} {l : List Ev} {m : Nat} {x : Ev × Nat} (h : (tl p l)[m]? = some x) : (tIx p l (tl p l).length)[m]? = some (x.2 : Int) := by
  unfold tIx
  rw [List.take_length, List.getElem?_map, h]; rfl
theorem tEv_at {p : Ev → Bool} {l : List Ev} {m : Nat} {x : Ev × Nat} (h : (tl p l)[m]? = some x) : (tEv p l (tl p l).length)[m]? = some x.1 := by
  unfold tEv
  rw [List.take_length, List.getElem?_map, h]; rfl
theorem tIx_take {p : Ev → Bool} {l : List Ev} (m : Nat) : (tIx p l (tl p l).length).take m = tIx p l m := by
  unfold tIx
  rw [List.take_length, ← List.map_take]
theorem mem_tIx {p : Ev → Bool} {l : List Ev} {i : Nat} {e : Ev} (he : l[i]? = some e) : ((i : Int) ∈ tIx p l (tl p l).length) ↔ p e = true := by
  unfold tIx
  rw [List.take_length, List.mem_map]
  constructor
  · rintro ⟨⟨e', k⟩, h1, h2⟩
    obtain ⟨h3, h4⟩ := tl_mem.1 h1
    simp only at h2
    obtain rfl : k = i := by omega
    rw [he] at h3
    cases h3
    exact h4
  · intro hp
    exact ⟨(e, i), tl_mem.2 ⟨he, hp⟩, rfl⟩
theorem not_tIx {p : Ev → Bool} {l : List Ev} {m : Nat} {x : Ev × Nat} (h : (tl p l)[m]? = some x) : ((x.2 : Nat) : Int) ∉ tIx p l m := by
  unfold tIx
  rw [List.mem_map]
  rintro ⟨y, hy, he⟩
  obtain ⟨j, hj⟩ := List.mem_iff_getElem?.1 hy
  rw [List.getElem?_take] at hj
  split at hj
  · rename_i hlt
    have := tl_inc hlt hj h
    omega
  · cases hj
theorem lps_spec (l : List Ev) : ∀ k, k ≤ l.length → (lps (l.take k)).Nodup ∧ ∀ (i : Nat) (e : Ev), i < k → l[i]? = some e → e.lp ∈ lps (l.take k) := by
  intro k
  induction k with
  | zero => intro _; exact ⟨by simp [lps], fun i e h => by omega⟩
  | succ k ih =>
    intro hk
    obtain ⟨e, he⟩ := at_lt (l := l) (k := k) (by omega)
    obtain ⟨h1, h2⟩ := ih (by omega)
    rw [lps_succ he]
    by_cases hm : e.lp ∈ lps (l.take k)
    · rw [if_pos hm]
      refine ⟨h1, fun i e' hi he' => ?_⟩
      rcases Nat.lt_or_ge i k with h | h
      · exact h2 i e' h he'
      · obtain rfl : i = k := by omega
        rw [he] at he'
        cases he'
        exact hm
    · rw [if_neg hm]
      refine ⟨?_, fun i e' hi he' => ?_⟩
      · rw [List.nodup_append]
        refine ⟨h1, by simp, fun a ha b hb => ?_⟩
        simp only [List.mem_singleton] at hb
        subst hb
        rintro rfl
        exact hm ha
      · rcases Nat.lt_or_ge i k with h | h
        · exact List.mem_append_left _ (h2 i e' h he')
        · obtain rfl : i = k := by omega
          rw [he] at he'
          cases he'
          simp
def evAt (l : List Ev) (i : Nat) : Ev := l.getD i ev0
theorem evAt_of {l : List Ev} {i : Nat} {e : Ev} (h : l[i]? = some e) : evAt l i = e := by unfold evAt; rw [List.getD_eq_getElem?_getD, h]; rfl
/-- Which places are seen, k loops being over. -/
def Pk (l : List Ev) (k i : Nat) : Bool := decide ((evAt l i).lp ∈ (lps l).take k)
def Pm (l : List Ev) (k : Nat) (lp : Int) (m i : Nat) : Bool := Pk l k i || decide ((i : Int) ∈ tIx (ofLp lp) l m)
def SA (n : Nat) (P : Nat → Bool) : List AV := (List.range n).map fun i => aInt (if P i then 1 else 0)
theorem SA_len (n : Nat) (P : Nat → Bool) : (SA n P).length = n := by simp [SA]
theorem SA_at {n : Nat} {P : Nat → Bool} {i : Nat} (h : i < n) : (SA n P)[i]? = some (aInt (if P i then 1 else 0)) := by
  unfold SA
  rw [List.getElem?_map, List.getElem?_range h]; rfl
theorem SA_congr {n : Nat} {P Q : Nat → Bool} (h : ∀ i, i < n → P i = Q i) : SA n P = SA n Q := by
  unfold SA
  refine List.map_congr_left fun i hi => ?_
  rw [h i (List.mem_range.1 hi)]
theorem SA_set {n : Nat} {P Q : Nat → Bool} {y : Nat} (hy : y < n) (h : ∀ i, i < n → Q i = (P i || decide (i = y))) : (SA n P).set y (aInt 1) = SA n Q := by
  apply List.ext_getElem?
  intro i
  by_cases hi : i < n
  · rw [SA_at hi, h i hi]
    by_cases hiy : i = y
    · subst hiy
      rw [List.getElem?_set, if_pos rfl, if_pos (by rw [SA_len]; exact hy)]
      simp
    · rw [List.getElem?_set_ne (fun e => hiy e.symm), SA_at hi]
      simp [hiy]
  · rw [List.getElem?_eq_none (by rw [List.length_set, SA_len]; omega), List.getElem?_eq_none (by rw [SA_len]; omega)]
theorem Pk_0 (l : List Ev) (i : Nat) : Pk l 0 i = false := by simp [Pk]
theorem Pm_0 (l : List Ev) (k : Nat) (lp : Int) (i : Nat) : Pm l k lp 0 i = Pk l k i := by simp [Pm, tIx]
theorem Pm_succ {l : List Ev} {k : Nat} {lp : Int} {m : Nat} {x : Ev × Nat} (h : (tl (ofLp lp) l)[m]? = some x) (i : Nat) : Pm l k lp (m + 1) i = (Pm l k lp m i || decide (i = x.2)) := by
  unfold Pm tIx
  rw [take_succ_at h, List.map_append, Bool.or_assoc]
  congr 1
  rw [Bool.eq_iff_iff]
  simp only [List.map_cons, List.map_nil, decide_eq_true_eq, List.mem_append, List.mem_singleton, Bool.or_eq_true]
  constructor
  · rintro (h | h)
    · exact .inl h
    · exact .inr (by omega)
  · rintro (h | h)
    · exact .inl h
    · exact .inr (by omega)
theorem Pm_end {l : List Ev} {k : Nat} {lp : Int} (hk : (lps l)[k]? = some lp) {i : Nat} (hi : i < l.length) : Pm l k lp (tl (ofLp lp) l).length i = Pk l (k + 1) i := by
  obtain ⟨e, he⟩ := at_lt hi
  unfold Pm Pk
  rw [take_succ_at hk, evAt_of he, Bool.eq_iff_iff]
  simp only [Bool.or_eq_true, decide_eq_true_eq, List.mem_append, List.mem_singleton]
  rw [mem_tIx he]
  simp [ofLp]
theorem Pm_not {l : List Ev} {k : Nat} {lp : Int} (hk : (lps l)[k]? = some lp) {m : Nat} {x : Ev × Nat} (h : (tl (ofLp lp) l)[m]? = some x) : Pm l k lp m x.2 = false := by
  obtain ⟨h1, h2⟩ := tl_mem.1 (List.mem_of_getElem? (show _ = some (x.1, x.2) from h))
  obtain ⟨hn, _⟩ := lps_spec l l.length (Nat.le_refl _)
  rw [List.take_length] at hn
  unfold Pm Pk
  rw [evAt_of h1, Bool.or_eq_false_iff]
  refine ⟨decide_eq_false fun hm => ?_, decide_eq_false (not_tIx h)⟩
  have hlp : x.1.lp = lp := by simpa [ofLp] using h2
  rw [hlp] at hm
  obtain ⟨j, hj⟩ := List.mem_iff_getElem?.1 hm
  rw [List.getElem?_take] at hj
  split at hj
  · rename_i hlt
    have h3 := lt_at hj
    have h4 := lt_at hk
    rw [List.getElem?_eq_getElem h3] at hj
    rw [List.getElem?_eq_getElem h4] at hk
    simp only [Option.some.injEq] at hj hk
    exact List.pairwise_iff_getElem.1 hn j k h3 h4 hlt (hj.trans hk.symm)
  · cases hj
theorem Pk_all {l : List Ev} {i : Nat} (hi : i < l.length) : Pk l (lps l).length i = true := by
  obtain ⟨e, he⟩ := at_lt hi
  obtain ⟨_, h⟩ := lps_spec l l.length (Nat.le_refl _)
  rw [List.take_length] at h
  unfold Pk
  rw [List.take_length, evAt_of he]
  exact decide_eq_true (h i e hi he)
end Go.Proofs.Ythgmfjkbgacfaaa
