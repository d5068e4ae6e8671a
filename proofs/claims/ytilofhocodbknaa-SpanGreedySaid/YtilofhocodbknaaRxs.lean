/- Plain laws: the longest row, chains, and what is ahead. -/
import Derived.Test.YtilofhocodbknaaRxo
namespace Go.Proofs.Ytilofhocodbknaa
set_option linter.unusedVariables false
set_option linter.unusedSimpArgs false
open Go Go.Kx Go.Proofs

theorem foldmax_spec (f : Int → Int) : ∀ (l : List Int) (a : Int), a ≤ l.foldl (fun m p => max m (f p)) a ∧ (∀ p ∈ l, f p ≤ l.foldl (fun m p => max m (f p)) a) ∧ (l.foldl (fun m p => max m (f p)) a = a ∨ ∃ p ∈ l, l.foldl (fun m p => max m (f p)) a = f p) := by
  intro l
  induction l with
  | nil => intro a; exact ⟨Int.le_refl _, by simp, .inl rfl⟩
  | cons q l ih =>
    intro a
    simp only [List.foldl_cons]
    obtain ⟨h1, h2, h3⟩ := ih (max a (f q))
    refine ⟨by omega, ?_, ?_⟩
    · intro p hp
      rcases List.mem_cons.1 hp with rfl | hp
      · omega
      · exact h2 p hp
    · rcases h3 with h3 | ⟨p, hp, h3⟩
      · by_cases hq : f q ≤ a
        · left; rw [h3]; omega
        · right; exact ⟨q, by simp, by rw [h3]; omega⟩
      · right; exact ⟨p, by simp [hp], h3⟩
theorem rankP_ge {rs l : List Int} {p : Int} (h : p ∈ l) : rs.getD p.toNat 0 ≤ rankP rs l := (foldmax_spec (fun p => rs.getD p.toNat 0) l 0).2.1 p h
theorem rankP_ex (rs l : List Int) : rankP rs l = 0 ∨ ∃ p ∈ l, rankP rs l = rs.getD p.toNat 0 := (foldmax_spec (fun p => rs.getD p.toNat 0) l 0).2.2
theorem maxL_ge {l : List Int} {x : Int} (h : x ∈ l) : x ≤ maxL l := (foldmax_spec id l 0).2.1 x h
theorem maxL_nn (l : List Int) : 0 ≤ maxL l := (foldmax_spec id l 0).1
theorem maxL_ex (l : List Int) : maxL l = 0 ∨ maxL l ∈ l := by
  rcases (foldmax_spec id l 0).2.2 with h | ⟨p, hp, h⟩
  · exact .inl h
  · right
    have : maxL l = p := h
    rw [this]; exact hp

/-- How many things the longest row that ends with one has. -/
def rk (xss : List (List Int)) (i : Nat) : Int := (ranks xss).getD i 0
theorem rk_bd (xss : List (List Int)) {i : Nat} (hi : i < xss.length) : 1 ≤ rk xss i ∧ rk xss i ≤ (i : Int) + 1 := by
  have h1 : rk xss i = (ranks (xss.take (i + 1))).getD i 0 := by
    unfold rk ranks
    rw [← rkF_take, getD_take _ _ _ _ (by omega)]
  obtain ⟨r, hr⟩ := at_lt (l := ranks (xss.take (i + 1))) (k := i) (by rw [ranks, rkF_len]; simp; omega)
  have := ranks_bd (xss.take (i + 1)) r (List.mem_of_getElem? hr)
  rw [List.length_take, Nat.min_eq_left (by omega)] at this
  rw [h1, List.getD_eq_getElem?_getD, hr, Option.getD_some]
  omega
theorem rk_at {xss : List (List Int)} (hok : okB 0 xss = true) {i : Nat} {l : List Int} (hl : xss[i]? = some l) : rk xss i = rankP (ranks xss) l + 1 := rkF_at (fun _ => 1) hok hl
theorem rk_mem {xss : List (List Int)} {r : Int} (h : r ∈ ranks xss) : ∃ i, i < xss.length ∧ rk xss i = r := by
  obtain ⟨i, hi⟩ := List.mem_iff_getElem?.1 h
  have hlt := (List.getElem?_eq_some_iff.1 hi).1
  refine ⟨i, by rw [ranks, rkF_len] at hlt; exact hlt, ?_⟩
  unfold rk
  rw [List.getD_eq_getElem?_getD, hi]; rfl
theorem mem_rk {xss : List (List Int)} {i : Nat} (hi : i < xss.length) : rk xss i ∈ ranks xss := by
  obtain ⟨r, hr⟩ := at_lt (l := ranks xss) (k := i) (by rw [ranks, rkF_len]; exact hi)
  unfold rk
  rw [List.getD_eq_getElem?_getD, hr]
  exact List.mem_of_getElem? hr
theorem long_le (xss : List (List Int)) : maxL (ranks xss) ≤ xss.length := by
  rcases maxL_ex (ranks xss) with h | h
  · omega
  · exact (ranks_bd xss _ h).2
theorem long_zero (xss : List (List Int)) : maxL (ranks xss) = 0 ↔ xss.length = 0 := by
  constructor
  · intro h
    by_cases h0 : xss.length = 0
    · exact h0
    · have := maxL_ge (mem_rk (xss := xss) (i := 0) (by omega))
      have := (rk_bd xss (i := 0) (by omega)).1
      omega
  · intro h
    have := long_le xss
    have := maxL_nn (ranks xss)
    omega
theorem long_take (xss : List (List Int)) (k : Nat) : maxL (ranks (xss.take k)) ≤ maxL (ranks xss) := by
  rcases maxL_ex (ranks (xss.take k)) with h | h
  · rw [h]; exact maxL_nn _
  · unfold ranks at *
    rw [← rkF_take] at *
    exact maxL_ge (List.mem_of_mem_take h)
theorem okB_take {xss : List (List Int)} : ∀ {i : Nat} (k : Nat), okB i xss = true → okB i (xss.take k) = true := by
  induction xss with
  | nil => intro i k _; simp [okB]
  | cons x xs ih =>
    intro i k h
    simp only [okB, Bool.and_eq_true] at h
    cases k with
    | zero => rfl
    | succ k => simp only [List.take_succ_cons, okB, h.1, ih k h.2, Bool.and_self]

theorem countP_lt {f g : Nat → Bool} (hfg : ∀ j, f j = true → g j = true) {n p : Nat} (hp : p < n) (hg : g p = true) (hf : f p = false) : (List.range n).countP f + 1 ≤ (List.range n).countP g := by
  induction n with
  | zero => omega
  | succ n ih =>
    rw [List.range_succ, List.countP_append, List.countP_append, List.countP_singleton, List.countP_singleton]
    by_cases h : p = n
    · subst h
      rw [hg, hf]
      have : (List.range p).countP f ≤ (List.range p).countP g := List.countP_mono_left (fun x _ => hfg x)
      simp; omega
    · have := ih (by omega)
      by_cases hfn : f n = true
      · rw [hfn, hfg n hfn]; simp; omega
      · simp [hfn]; omega
theorem rk_ahead {xss : List (List Int)} (hok : okB 0 xss = true) : ∀ i, i < xss.length → rk xss i ≤ (cntT (aheadE xss i) : Int) + 1 := by
  intro i
  induction i using Nat.strongRecOn with
  | ind i ih =>
    intro hi
    obtain ⟨l, hl⟩ := at_lt hi
    rw [rk_at hok hl]
    rcases rankP_ex (ranks xss) l with h | ⟨p, hp, h⟩
    · omega
    · have hpi := okB_at hok hl p hp
      obtain ⟨q, rfl⟩ : ∃ q : Nat, p = q := ⟨p.toNat, by omega⟩
      have := ih q (by omega) (by omega)
      unfold rk at this
      rw [Int.toNat_natCast] at h
      rw [h]
      have hlt : cntT (aheadE xss q) + 1 ≤ cntT (aheadE xss i) := by
        rw [cntT_range, cntT_range, aheadE_len xss hok, aheadE_len xss hok]
        refine countP_lt (p := q) ?_ (by omega) ?_ ?_
        · intro j hj
          exact (aheadE_bit hok hi j).2 (.via hl hp ((aheadE_bit hok (by omega) j).1 hj))
        · exact (aheadE_bit hok hi q).2 (.dir hl hp)
        · rw [← Bool.not_eq_true]
          intro h
          have := ((aheadE_bit hok (by omega) q).1 h).lt hok
          omega
      omega
theorem anc_next {xss : List (List Int)} (hok : okB 0 xss = true) {i : Nat} {l : List Int} (hl : xss[i + 1]? = some l) (h : Anc xss i (i + 1)) : (i : Int) ∈ l := by
  cases h with
  | dir e1 e2 => rw [hl] at e1; cases e1; exact e2
  | @via _ p _ _ e1 e2 e3 =>
    have := e3.lt hok
    have := okB_at hok e1 _ e2
    omega
/-- As long as there are things just if each is before the next one. -/
theorem chain_iff {xss : List (List Int)} (hok : okB 0 xss = true) : maxL (ranks xss) = xss.length ↔ ∀ i, i + 1 < xss.length → Anc xss i (i + 1) := by
  constructor
  · intro h
    have key : ∀ d i, i + d + 1 = xss.length → rk xss i = (i : Int) + 1 := by
      intro d
      induction d with
      | zero =>
        intro i hi
        rcases maxL_ex (ranks xss) with h0 | h0
        · omega
        · obtain ⟨k, hk, hr⟩ := rk_mem h0
          have := (rk_bd xss hk).2
          have : k = i := by omega
          subst this; omega
      | succ d ih =>
        intro i hi
        have h1 := ih (i + 1) (by omega)
        obtain ⟨l, hl⟩ := at_lt (l := xss) (k := i + 1) (by omega)
        rw [rk_at hok hl] at h1
        rcases rankP_ex (ranks xss) l with h2 | ⟨p, hp, h2⟩
        · omega
        · have hpi := okB_at hok hl p hp
          obtain ⟨q, rfl⟩ : ∃ q : Nat, p = q := ⟨p.toNat, by omega⟩
          have h3 : rk xss q = (i : Int) + 1 := by unfold rk; rw [Int.toNat_natCast] at h2; omega
          have := (rk_bd xss (i := q) (by omega)).2
          have : q = i := by omega
          subst this; exact h3
    intro i hi
    obtain ⟨l, hl⟩ := at_lt hi
    have h1 := key (xss.length - (i + 2)) (i + 1) (by omega)
    rw [rk_at hok hl] at h1
    rcases rankP_ex (ranks xss) l with h2 | ⟨p, hp, h2⟩
    · omega
    · have hpi := okB_at hok hl p hp
      obtain ⟨q, rfl⟩ : ∃ q : Nat, p = q := ⟨p.toNat, by omega⟩
      have h3 : rk xss q = (i : Int) + 1 := by unfold rk; rw [Int.toNat_natCast] at h2; omega
      have := (rk_bd xss (i := q) (by omega)).2
      have : q = i := by omega
      subst this
      exact .dir hl hp
  · intro h
    have key : ∀ i, i < xss.length → (i : Int) + 1 ≤ rk xss i := by
      intro i
      induction i with
      | zero => intro hi; have := (rk_bd xss hi).1; omega
      | succ i ih =>
        intro hi
        obtain ⟨l, hl⟩ := at_lt hi
        have h1 := anc_next hok hl (h i hi)
        have h2 := rankP_ge (rs := ranks xss) h1
        rw [Int.toNat_natCast] at h2
        have h3 := ih (by omega)
        unfold rk at h3
        rw [rk_at hok hl]
        omega
    have := long_le xss
    by_cases h0 : xss.length = 0
    · have := maxL_nn (ranks xss); omega
    · have h1 := key (xss.length - 1) (by omega)
      have h2 := maxL_ge (mem_rk (xss := xss) (i := xss.length - 1) (by omega))
      omega
theorem most_ahead {xss : List (List Int)} (hok : okB 0 xss = true) : maxL (ranks xss) - 1 ≤ 0 ∨ ∃ i, i < xss.length ∧ maxL (ranks xss) - 1 ≤ (cntT (aheadE xss i) : Int) := by
  rcases maxL_ex (ranks xss) with h | h
  · left; omega
  · right
    obtain ⟨i, hi, hr⟩ := rk_mem h
    exact ⟨i, hi, by have := rk_ahead hok i hi; omega⟩
end Go.Proofs.Ytilofhocodbknaa
