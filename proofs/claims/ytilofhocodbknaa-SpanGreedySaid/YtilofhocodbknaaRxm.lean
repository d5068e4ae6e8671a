/- Plain laws: what lies ahead, told by words of bits, and by marks. -/
import Derived.Test.YtilofhocodbknaaRxl
import Derived.Test.YtilofhocodbknaaRxh
namespace Go.Proofs.Ytilofhocodbknaa
set_option linter.unusedVariables false
set_option linter.unusedSimpArgs false
open Go Go.Kx Go.Proofs

inductive Anc (xss : List (List Int)) : Nat → Nat → Prop
  | dir {i j : Nat} {l : List Int} : xss[i]? = some l → (j : Int) ∈ l → Anc xss j i
  | via {i p j : Nat} {l : List Int} : xss[i]? = some l → (p : Int) ∈ l → Anc xss j p → Anc xss j i
theorem Anc.lt {xss : List (List Int)} (hok : okB 0 xss = true) {i j : Nat} (h : Anc xss j i) : j < i := by
  induction h with
  | dir h1 h2 => have := okB_at hok h1 _ h2; omega
  | via h1 h2 _ ih => have := okB_at hok h1 _ h2; omega
theorem Anc.trans {xss : List (List Int)} {k j i : Nat} (h1 : Anc xss k j) (h2 : Anc xss j i) : Anc xss k i := by
  induction h2 with
  | dir e1 e2 => exact .via e1 e2 h1
  | via e1 e2 _ ih => exact .via e1 e2 (ih h1)

def bitW (ws : List Nat) (j : Nat) : Bool := (ws.getD (j / 64) 0).testBit (j % 64)
theorem bitW_zero (n j : Nat) : bitW (List.replicate n 0) j = false := by
  unfold bitW
  by_cases h : j / 64 < n
  · simp [List.getD_eq_getElem?_getD, h]
  · rw [List.getD_eq_getElem?_getD, List.getElem?_eq_none (by simpa using h)]; simp
theorem bitW_orAt (ws : List Nat) (q x j : Nat) (hq : q < ws.length) : bitW (orAt ws q x) j = (bitW ws j || (decide (j / 64 = q) && x.testBit (j % 64))) := by
  unfold bitW orAt
  simp only [List.getD_eq_getElem?_getD, List.getElem?_set]
  by_cases h : q = j / 64
  · subst h; simp [hq, orN]
  · have : ¬ j / 64 = q := fun e => h e.symm
    simp [h, this]
theorem bitW_orK (s t : List Nat) (j : Nat) : ∀ k, k ≤ s.length → bitW (orK s t k) j = (bitW s j || (decide (j / 64 < k) && bitW t j)) := by
  intro k
  induction k with
  | zero => intro _; simp [orK]
  | succ k ih =>
    intro hk
    rw [orK, bitW_orAt _ _ _ _ (by rw [orK_len]; omega), ih (by omega), Bool.or_assoc]
    congr 1
    by_cases h : j / 64 = k
    · have h2 : ¬ j / 64 < k := by omega
      have h3 : j / 64 < k + 1 := by omega
      simp only [h2, h3, h, decide_true, decide_false, Bool.false_and, Bool.true_and, Bool.false_or]
      unfold bitW
      rw [h]
      simp
    · have : (j / 64 < k + 1) ↔ j / 64 < k := by omega
      simp [h, this]
theorem pow2_bit (s k : Nat) : (pow2 s).testBit k = decide (s = k) := by
  unfold pow2
  rw [Nat.testBit_two_pow]
theorem bitW_out (t : List Nat) (j : Nat) (h : t.length ≤ j / 64) : bitW t j = false := by
  unfold bitW
  rw [List.getD_eq_getElem?_getD, List.getElem?_eq_none h]
  simp
theorem bitW_addP (M : List (List Nat)) (s : List Nat) (q j : Nat) (h1 : q / 64 < s.length) (h2 : (M.getD q []).length ≤ s.length) : bitW (addP M s (q : Int)) j = (bitW s j || (decide (j = q) || bitW (M.getD q []) j)) := by
  unfold addP
  rw [Int.toNat_natCast, bitW_orK _ _ _ _ (by rw [orAt_len]; exact h2), bitW_orAt _ _ _ _ h1, pow2_bit, Bool.or_assoc]
  congr 1
  congr 1
  · rw [Bool.eq_iff_iff]
    simp only [Bool.and_eq_true, decide_eq_true_eq]
    omega
  · by_cases h : j / 64 < (M.getD q []).length
    · rw [decide_eq_true h, Bool.true_and]
    · rw [bitW_out _ _ (by omega)]; simp
theorem bitW_row (M : List (List Nat)) (j : Nat) : ∀ (l : List Int) (s : List Nat), (∀ p ∈ l, 0 ≤ p ∧ p.toNat / 64 < s.length ∧ (M.getD p.toNat []).length ≤ s.length) →
    bitW (l.foldl (addP M) s) j = (bitW s j || l.any fun p => decide (j = p.toNat) || bitW (M.getD p.toNat []) j) := by
  intro l
  induction l with
  | nil => intro s _; simp
  | cons p l ih =>
    intro s h
    obtain ⟨h0, h1, h2⟩ := h p (by simp)
    obtain ⟨q, rfl⟩ : ∃ q : Nat, p = q := ⟨p.toNat, by omega⟩
    simp only [Int.toNat_natCast] at h1 h2
    rw [List.foldl_cons, ih _ (fun r hr => by rw [addP_len]; exact h r (by simp [hr])), bitW_addP _ _ _ _ h1 h2]
    simp [Bool.or_assoc]
theorem mkM_take (xss : List (List Int)) : ∀ k, (mkM xss).take k = mkM (xss.take k) := by
  induction xss using snoc_ind with
  | h0 => intro k; simp [mkM]
  | hs xs l ih =>
    intro k
    by_cases hk : k ≤ xs.length
    · rw [mkM_snoc, List.take_append_of_le_length (by rw [mkM_len]; exact hk), ih, List.take_append_of_le_length hk]
    · rw [List.take_of_length_le (by rw [mkM_len]; simp; omega), List.take_of_length_le (l := xs ++ [l]) (by simp; omega)]
theorem mkM_row {xss : List (List Int)} {k : Nat} {l : List Int} (hl : xss[k]? = some l) : (mkM xss).getD k [] = newRow (mkM (xss.take k)) k l := by
  have hk : k < xss.length := (List.getElem?_eq_some_iff.1 hl).1
  have h1 : (mkM xss).getD k [] = (mkM (xss.take (k + 1))).getD k [] := by rw [← mkM_take, getD_take _ _ _ _ (by omega)]
  have hlen : (mkM (xss.take k)).length = k := by rw [mkM_len]; simp; omega
  rw [h1, take_succ_at hl, mkM_snoc, List.getD_eq_getElem?_getD, List.getElem?_append_right (by omega), hlen, Nat.sub_self]
  rfl
theorem mkM_bit {xss : List (List Int)} (hok : okB 0 xss = true) : ∀ (i : Nat), i < xss.length → ∀ j, bitW ((mkM xss).getD i []) j = true ↔ Anc xss j i := by
  intro i
  induction i using Nat.strongRecOn with
  | ind i ih =>
    intro hi j
    obtain ⟨l, hl⟩ := at_lt hi
    rw [mkM_row hl, newRow]
    have hget : ∀ q, q < i → (mkM (xss.take i)).getD q [] = (mkM xss).getD q [] := fun q hq => by rw [← mkM_take, getD_take _ _ _ _ hq]
    rw [bitW_row]
    · rw [bitW_zero, Bool.false_or, List.any_eq_true]
      constructor
      · rintro ⟨p, hp, h⟩
        have hpi := okB_at hok hl p hp
        obtain ⟨q, rfl⟩ : ∃ q : Nat, p = q := ⟨p.toNat, by omega⟩
        simp only [Int.toNat_natCast, Bool.or_eq_true, decide_eq_true_eq] at h
        rcases h with rfl | h
        · exact .dir hl hp
        · rw [hget q (by omega)] at h
          exact .via hl hp ((ih q (by omega) (by omega) j).1 h)
      · intro h
        cases h with
        | dir e1 e2 => rw [hl] at e1; cases e1; exact ⟨_, e2, by simp⟩
        | @via _ p _ _ e1 e2 e3 =>
          rw [hl] at e1; cases e1
          have := okB_at hok hl _ e2
          refine ⟨_, e2, ?_⟩
          simp only [Int.toNat_natCast, Bool.or_eq_true]
          right
          rw [hget p (by omega)]
          exact (ih p (by omega) (by omega) j).2 e3
    · intro p hp
      have hpi := okB_at hok hl p hp
      refine ⟨hpi.1, by rw [List.length_replicate]; omega, ?_⟩
      rw [hget p.toNat (by omega), List.length_replicate, List.getD_eq_getElem?_getD]
      obtain ⟨ws, hws⟩ := at_lt (l := mkM xss) (k := p.toNat) (by rw [mkM_len]; omega)
      rw [hws, Option.getD_some, mkM_at xss _ _ hws]
      omega

/-! ### Marks -/
theorem markL_get (o : List Bool) (j : Nat) : ∀ (l : List Int), (∀ p ∈ l, 0 ≤ p ∧ p.toNat < o.length) → (markL o l).getD j false = (o.getD j false || l.any fun p => decide (j = p.toNat)) := by
  intro l
  induction l using snoc_ind with
  | h0 => intro _; simp [markL]
  | hs l p ih =>
    intro h
    rw [markL_snoc]
    have hp := h p (by simp)
    have := ih (fun q hq => h q (by simp [hq]))
    simp only [List.getD_eq_getElem?_getD, List.getElem?_set] at this ⊢
    rw [markL_len]
    by_cases hj : p.toNat = j
    · subst hj; simp [hp.2]
    · have hj' : ¬ j = p.toNat := fun e => hj e.symm
      simp [hj, hj', this]
theorem downE_spec {xss : List (List Int)} (hok : okB 0 xss = true) {b : Nat} (hb : b < xss.length) {lb : List Int} (hlb : xss[b]? = some lb) : ∀ (i : Nat) (o : List Bool), i ≤ b → o.length = xss.length → (∀ j, o.getD j false = true → Anc xss j b) →
    (∀ p ∈ lb, o.getD p.toNat false = true) → (∀ m l, i ≤ m → m < b → xss[m]? = some l → o.getD m false = true → ∀ p ∈ l, o.getD p.toNat false = true) → (downE xss i o).length = xss.length ∧ ∀ j, (downE xss i o).getD j false = true ↔ Anc xss j b := by
  intro i
  induction i with
  | zero =>
    intro o _ hol h1 h2 h3
    refine ⟨hol, fun j => ⟨h1 j, fun h => ?_⟩⟩
    show o.getD j false = true
    have clo : ∀ {j p : Nat}, Anc xss j p → p < b → o.getD p false = true → o.getD j false = true := by
      intro j p h
      induction h with
      | dir e1 e2 => intro hp ho; simpa using h3 _ _ (Nat.zero_le _) hp e1 ho _ e2
      | via e1 e2 _ ih =>
        intro hp ho
        have := okB_at hok e1 _ e2
        exact ih (by omega) (by simpa using h3 _ _ (Nat.zero_le _) hp e1 ho _ e2)
    cases h with
    | dir e1 e2 => rw [hlb] at e1; cases e1; simpa using h2 _ e2
    | @via _ p _ _ e1 e2 e3 =>
      rw [hlb] at e1; cases e1
      have := okB_at hok hlb _ e2
      exact clo e3 (by omega) (by simpa using h2 _ e2)
  | succ i ih =>
    intro o hi hol h1 h2 h3
    simp only [downE]
    obtain ⟨l, hl⟩ := at_lt (l := xss) (k := i) (by omega)
    have hlG : xss.getD i [] = l := by simp [List.getD_eq_getElem?_getD, hl]
    by_cases hoi : o.getD i false = true
    · rw [if_pos hoi, hlG]
      have hin : ∀ p ∈ l, 0 ≤ p ∧ p.toNat < o.length := fun p hp => by have := okB_at hok hl p hp; omega
      have hg := fun j => markL_get o j l hin
      refine ih _ (by omega) (by rw [markL_len, hol]) ?_ ?_ ?_
      · intro j hj
        rw [hg, Bool.or_eq_true, List.any_eq_true] at hj
        rcases hj with hj | ⟨p, hp, hj⟩
        · exact h1 j hj
        · have hpi := okB_at hok hl p hp
          have : p = (j : Int) := by simp at hj; omega
          subst this
          exact (Anc.dir hl hp).trans (h1 i hoi)
      · intro p hp; rw [hg, h2 p hp]; rfl
      · intro m l' hm hmb hl' hom p hp
        by_cases hmi : m = i
        · subst hmi
          rw [hl] at hl'; cases hl'
          rw [hg, Bool.or_eq_true, List.any_eq_true]
          exact .inr ⟨p, hp, by simp⟩
        · rw [hg] at hom ⊢
          have hno : (l.any fun p => decide (m = p.toNat)) = false := by
            rw [List.any_eq_false]
            intro p hp
            have := okB_at hok hl p hp
            simp; omega
          rw [hno, Bool.or_false] at hom
          rw [h3 m l' (by omega) hmb hl' hom p hp]; rfl
    · rw [if_neg hoi]
      refine ih _ (by omega) hol h1 h2 ?_
      intro m l' hm hmb hl' hom p hp
      by_cases hmi : m = i
      · subst hmi; exact absurd hom hoi
      · exact h3 m l' (by omega) hmb hl' hom p hp
theorem aheadE_len (xss : List (List Int)) (hok : okB 0 xss = true) (b : Int) : (aheadE xss b).length = xss.length := by
  unfold aheadE
  split
  · rename_i hb
    obtain ⟨n, rfl⟩ : ∃ n : Nat, b = n := ⟨b.toNat, by omega⟩
    have : ∀ i o, o.length = xss.length → (downE xss i o).length = xss.length := by
      intro i
      induction i with
      | zero => intro o h; exact h
      | succ i ih => intro o h; simp only [downE]; apply ih; split <;> simp [markL_len, h]
    exact this _ _ (by simp [markL_len])
  · simp
theorem aheadE_bit {xss : List (List Int)} (hok : okB 0 xss = true) {b : Nat} (hb : b < xss.length) (j : Nat) : (aheadE xss b).getD j false = true ↔ Anc xss j b := by
  obtain ⟨l, hl⟩ := at_lt hb
  have hlG : xss.getD b [] = l := by simp [List.getD_eq_getElem?_getD, hl]
  have hin : ∀ p ∈ l, 0 ≤ p ∧ p.toNat < (List.replicate xss.length false).length := fun p hp => by have := okB_at hok hl p hp; simp; omega
  unfold aheadE
  rw [if_pos ⟨by omega, by omega⟩, Int.toNat_natCast, hlG]
  refine (downE_spec hok hb hl b _ (Nat.le_refl _) (by simp [markL_len]) ?_ ?_ ?_).2 j
  · intro j hj
    rw [markL_get _ _ _ hin, Bool.or_eq_true, List.any_eq_true] at hj
    rcases hj with hj | ⟨p, hp, hj⟩
    · have hz : (List.replicate xss.length false).getD j false = false := by
        rw [List.getD_eq_getElem?_getD, List.getElem?_replicate]; split <;> rfl
      rw [hz] at hj; cases hj
    · have hpi := okB_at hok hl p hp
      have : p = (j : Int) := by simp at hj; omega
      subst this
      exact .dir hl hp
  · intro p hp
    rw [markL_get _ _ _ hin, Bool.or_eq_true, List.any_eq_true]
    exact .inr ⟨p, hp, by simp⟩
  · intro m l' h1 h2; omega
/-- The words and the marks say the same. -/
theorem bit_mark {xss : List (List Int)} (hok : okB 0 xss = true) {b : Nat} (hb : b < xss.length) (j : Nat) : bitW ((mkM xss).getD b []) j = (aheadE xss b).getD j false := by
  rw [Bool.eq_iff_iff, mkM_bit hok b hb, aheadE_bit hok hb]
end Go.Proofs.Ytilofhocodbknaa
