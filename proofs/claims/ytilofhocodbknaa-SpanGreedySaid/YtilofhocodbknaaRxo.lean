/- Plain laws: as many as lie ahead. -/
import Derived.Test.YtilofhocodbknaaRxn
namespace Go.Proofs.Ytilofhocodbknaa
set_option linter.unusedVariables false
set_option linter.unusedSimpArgs false
open Go Go.Kx Go.Proofs

theorem countP_out {f : Nat → Bool} {a : Nat} (h : ∀ j, a ≤ j → f j = false) (d : Nat) : (List.range (a + d)).countP f = (List.range a).countP f := by
  rw [List.range_add, List.countP_append]
  have : ((List.range d).map (a + ·)).countP f = 0 := by
    rw [List.countP_eq_zero]
    intro x hx
    obtain ⟨y, _, rfl⟩ := List.mem_map.1 hx
    rw [h _ (by omega)]; simp
  omega
theorem popS_cons (w : Nat) (ws : List Nat) : popS (w :: ws) = popF w + popS ws := by simp [popS]
theorem popS_cnt (ws : List Nat) : popS ws = (List.range (64 * ws.length)).countP (bitW ws) := by
  induction ws with
  | nil => simp [popS]
  | cons w ws ih =>
    rw [popS_cons, popF_cnt, ih, List.length_cons, Nat.mul_succ, Nat.add_comm (64 * ws.length) 64, List.range_add, List.countP_append, List.countP_map]
    have e1 : cnt 64 w = (List.range 64).countP (bitW (w :: ws)) := by
      unfold cnt
      apply List.countP_congr
      intro k hk
      have hk : k < 64 := List.mem_range.1 hk
      have h1 : k / 64 = 0 := by omega
      have h2 : k % 64 = k := by omega
      simp [bitW, h1, h2]
    have e2 : (List.range (64 * ws.length)).countP (bitW ws) = (List.range (64 * ws.length)).countP (bitW (w :: ws) ∘ fun x => 64 + x) := by
      apply List.countP_congr
      intro k _
      have h1 : (64 + k) / 64 = k / 64 + 1 := by omega
      have h2 : (64 + k) % 64 = k % 64 := by omega
      simp [bitW, h1, h2]
    rw [e1, e2]
/-- How many marks. -/
def cntT (l : List Bool) : Nat := l.countP id
theorem cntT_snoc (l : List Bool) (b : Bool) : cntT (l ++ [b]) = cntT l + (if b then 1 else 0) := by
  simp only [cntT, List.countP_append, List.countP_singleton]
  cases b <;> rfl
theorem cntT_range (l : List Bool) : cntT l = (List.range l.length).countP fun j => l.getD j false := by
  induction l using snoc_ind with
  | h0 => rfl
  | hs l b ih =>
    rw [cntT_snoc, ih, List.length_append, List.length_singleton, List.range_succ, List.countP_append]
    congr 1
    · apply List.countP_congr
      intro k hk
      have hk : k < l.length := List.mem_range.1 hk
      simp [List.getD_eq_getElem?_getD, List.getElem?_append_left hk]
    · simp [List.getD_eq_getElem?_getD]
theorem pop_marks {xss : List (List Int)} (hok : okB 0 xss = true) {b : Nat} (hb : b < xss.length) : popS ((mkM xss).getD b []) = cntT (aheadE xss b) := by
  obtain ⟨ws, hws⟩ := at_lt (l := mkM xss) (k := b) (by rw [mkM_len]; exact hb)
  have hwG : (mkM xss).getD b [] = ws := by simp [List.getD_eq_getElem?_getD, hws]
  have hwl := mkM_at xss b ws hws
  have hbm := fun j => bit_mark hok hb j
  rw [hwG] at hbm ⊢
  have hout : ∀ j, b ≤ j → (aheadE xss b).getD j false = false := by
    intro j hj
    rw [← Bool.not_eq_true]
    intro h
    have := ((aheadE_bit hok hb j).1 h).lt hok
    omega
  rw [popS_cnt, cntT_range, aheadE_len xss hok]
  have h1 : (List.range (64 * ws.length)).countP (bitW ws) = (List.range (64 * ws.length)).countP fun j => (aheadE xss b).getD j false := by
    apply List.countP_congr
    intro k _
    rw [hbm]
  rw [h1]
  have e1 : 64 * ws.length = b + (64 * ws.length - b) := by omega
  have e2 : xss.length = b + (xss.length - b) := by omega
  rw [e1, countP_out hout]
  conv => rhs; rw [e2, countP_out hout]
theorem befR_mark {xss : List (List Int)} (hok : okB 0 xss = true) (i : Nat) (hi : i < xss.length) (b : Int) : befR (some (mkM xss)) i b = (aheadE xss b).getD i false := by
  by_cases hb : 0 ≤ b ∧ b < (xss.length : Int)
  · obtain ⟨n, rfl⟩ : ∃ n : Nat, b = n := ⟨b.toNat, by omega⟩
    have hn : n < xss.length := by omega
    have h1 : inR (some (mkM xss)) (i : Int) = true := by simp [inR, lenR, mkM_len, hi]
    have h2 : inR (some (mkM xss)) (n : Int) = true := by simp [inR, lenR, mkM_len, hn]
    have h3 : bitR (some (mkM xss)) i n = bitW ((mkM xss).getD n []) i := by simp [bitR, bitW]
    unfold befR
    rw [h1, h2, h3, bit_mark hok hn]
    simp only [Bool.true_and]
    by_cases hin : (i : Int) < n
    · simp [hin]
    · simp only [hin, decide_false, Bool.false_and]
      symm
      rw [← Bool.not_eq_true]
      intro h
      have := ((aheadE_bit hok hn i).1 h).lt hok
      omega
  · have h2 : inR (some (mkM xss)) b = false := by
      simp only [inR, lenR, mkM_len, Bool.and_eq_false_iff, decide_eq_false_iff_not]
      omega
    have h3 : (aheadE xss b).getD i false = false := by
      unfold aheadE
      rw [if_neg hb, List.getD_eq_getElem?_getD, List.getElem?_replicate]
      split <;> rfl
    unfold befR
    rw [h2, h3]; simp
theorem aheadR_mark {xss : List (List Int)} (hok : okB 0 xss = true) (b : Int) : aheadR (some (mkM xss)) b = (cntT (aheadE xss b) : Nat) := by
  unfold aheadR
  by_cases hb : 0 ≤ b ∧ b < (xss.length : Int)
  · obtain ⟨n, rfl⟩ : ∃ n : Nat, b = n := ⟨b.toNat, by omega⟩
    have hn : n < xss.length := by omega
    have h2 : inR (some (mkM xss)) (n : Int) = true := by simp [inR, lenR, mkM_len, hn]
    rw [if_pos h2, ← pop_marks hok hn]
    rfl
  · have h2 : inR (some (mkM xss)) b = false := by
      simp only [inR, lenR, mkM_len, Bool.and_eq_false_iff, decide_eq_false_iff_not]
      omega
    rw [h2]
    unfold aheadE
    rw [if_neg hb]
    have : cntT (List.replicate xss.length false) = 0 := by simp [cntT, List.countP_replicate]
    rw [this]; rfl
end Go.Proofs.Ytilofhocodbknaa
