/- Plain: lists in writing: a text cut at commas; what is written is read; lines and words back. -/
import Derived.Test.YtjdpejggafefjaaDoorWl
namespace Go.Proofs.YtjdpejggafefjaaDoor
set_option linter.unusedVariables false
set_option linter.unusedSimpArgs false
open Go Go.Kx Go.Proofs

def cutB (sg : UInt8) : List UInt8 → List UInt8 → List (List UInt8)
  | cur, [] => [cur]
  | cur, b :: bs => if b = sg then cur :: cutB sg [] bs else cutB sg (cur ++ [b]) bs
theorem index_cons (b c : UInt8) (l : List UInt8) : Lib.index (b :: l) [c] = if b = c then 0 else if Lib.index l [c] = -1 then -1 else Lib.index l [c] + 1 := by
  rw [Lib.index]
  by_cases h : b = c
  · subst h; simp [List.isPrefixOf]
  · simp [List.isPrefixOf, Ne.symm h, h]
theorem cut_split (c : UInt8) : ∀ (l cur : List UInt8), ∃ p ps, Lib.splitK [c] 0 (Lib.count l [c]) l = p :: ps ∧ cutB c cur l = (cur ++ p) :: ps := by
  intro l
  induction l with
  | nil => intro cur; exact ⟨[], [], by rw [Lib.count_one]; rfl, by simp [cutB]⟩
  | cons b l ih =>
    intro cur
    have hix := index_cons b c l
    by_cases h : b = c
    · obtain ⟨p, ps, h1, h2⟩ := ih []
      rw [if_pos h] at hix
      subst h
      refine ⟨[], p :: ps, ?_, ?_⟩
      · rw [Lib.count_cons_eq, Nat.add_comm, Lib.splitK, hix]
        simp [h1]
      · simp only [cutB, if_true]
        rw [h2]
        simp
    · obtain ⟨p, ps, h1, h2⟩ := ih (cur ++ [b])
      rw [if_neg h] at hix
      rw [Lib.count_cons_ne b c l h]
      refine ⟨b :: p, ps, ?_, ?_⟩
      · cases hk : Lib.count l [c] with
        | zero =>
          rw [hk] at h1
          simp only [Lib.splitK] at h1 ⊢
          cases h1
          rfl
        | succ k =>
          rw [hk] at h1
          simp only [Lib.splitK] at h1 ⊢
          have hge := Lib.index_ge l [c]
          by_cases hm : Lib.index l [c] = -1
          · have := Lib.count_miss hm
            omega
          · rw [if_neg hm] at hix
            have e1 : (Lib.index l [c] + 1).toNat = (Lib.index l [c]).toNat + 1 := by omega
            have e2 : ¬ (Lib.index l [c] + 1 = -1) := by omega
            rw [hix]
            simp only [beq_iff_eq, hm, e2, if_false, e1] at h1 ⊢
            cases h1
            simp
      · simp only [cutB, if_neg h]
        rw [h2]
        simp
theorem split_cut (c : UInt8) (l : List UInt8) : Lib.splitK [c] 0 (Lib.count l [c]) l = cutB c [] l := by
  obtain ⟨p, ps, h1, h2⟩ := cut_split c l []
  rw [h1, h2]
  rfl
theorem cutB_skip {sg : UInt8} : ∀ (xs cur bs : List UInt8), (∀ x ∈ xs, x ≠ sg) → cutB sg cur (xs ++ bs) = cutB sg (cur ++ xs) bs := by
  intro xs
  induction xs with
  | nil => intro cur bs _; simp
  | cons x xs ih =>
    intro cur bs h
    rw [List.cons_append]
    simp only [cutB]
    rw [if_neg (h x (by simp)), ih _ _ fun y hy => h y (by simp [hy])]
    simp
theorem cutB_len {sg : UInt8} : ∀ (bs cur : List UInt8), (cutB sg cur bs).length ≤ bs.length + 1 ∧ ∀ x ∈ cutB sg cur bs, x.length ≤ bs.length + cur.length := by
  intro bs
  induction bs with
  | nil => intro cur; simp [cutB]
  | cons b bs ih =>
    intro cur
    simp only [cutB]
    split
    · obtain ⟨h1, h2⟩ := ih []
      refine ⟨by simp only [List.length_cons]; omega, fun x hx => ?_⟩
      rcases List.mem_cons.1 hx with rfl | hx
      · simp only [List.length_cons]; omega
      · have := h2 x hx; simp only [List.length_cons, List.length_nil] at this ⊢; omega
    · obtain ⟨h1, h2⟩ := ih (cur ++ [b])
      refine ⟨by simp only [List.length_cons]; omega, fun x hx => ?_⟩
      have := h2 x hx; simp only [List.length_cons, List.length_append, List.length_singleton, List.length_nil] at this ⊢; omega
/-- What comes behind the first part. -/
theorem cut_join {sg : UInt8} : ∀ (xs : List (List UInt8)) (cur : List UInt8), (∀ x ∈ xs, ∀ b ∈ x, b ≠ sg) → cutB sg cur (joinR [sg] xs false) = cur :: xs := by
  intro xs
  induction xs with
  | nil => intro cur _; rfl
  | cons x xs ih =>
    intro cur h
    have hx := h x (by simp)
    rw [joinR]
    simp only [Bool.false_eq_true, if_false, List.singleton_append, List.cons_append, List.nil_append, cutB, if_true]
    rw [cutB_skip x [] _ hx, List.nil_append, ih x fun y hy => h y (by simp [hy])]
theorem cut_joinR {sg : UInt8} (x : List UInt8) (xs : List (List UInt8)) (h : ∀ y ∈ x :: xs, ∀ b ∈ y, b ≠ sg) : cutB sg [] (joinR [sg] (x :: xs) true) = x :: xs := by
  rw [joinR]
  simp only [if_true, List.nil_append]
  rw [cutB_skip x [] _ (h x (by simp)), List.nil_append, cut_join xs x fun y hy => h y (by simp [hy])]

/-- The numbers that are written. -/
def numsGo : List (List UInt8) → List Int → List Int × Bool
  | [], acc => (acc, true)
  | w :: ws, acc => if (numF w).2 = true then numsGo ws (acc ++ [(numF w).1]) else ([], false)
def numsF (l : List UInt8) : List Int × Bool := if l = [45] then ([], true) else numsGo (cutB 44 [] l) []
theorem numsGo_itoa : ∀ (xs acc : List Int), (∀ x ∈ xs, I64 x) → numsGo (xs.map Lib.itoa) acc = (acc ++ xs, true) := by
  intro xs
  induction xs with
  | nil => intro acc _; simp [numsGo]
  | cons x xs ih =>
    intro acc h
    obtain ⟨h0, h1⟩ := h x (by simp)
    rw [List.map_cons, numsGo, numF_itoa x h0 h1]
    rw [if_pos rfl, ih _ fun y hy => h y (by simp [hy])]
    simp
theorem itoa_chars (n : Int) : ∀ b ∈ Lib.itoa n, b = 45 ∨ digB b = true := by
  intro b hb
  have h2 := (dec_val n.natAbs).2
  unfold Lib.itoa at hb
  split at hb
  · rcases List.mem_cons.1 hb with h | h
    · left; exact h
    · right; exact List.all_eq_true.1 h2 b h
  · rw [show n.toNat = n.natAbs by omega] at hb
    right; exact List.all_eq_true.1 h2 b hb
theorem itoa_no {n : Int} {c : UInt8} (h45 : c ≠ 45) (hd : digB c = false) : ∀ b ∈ Lib.itoa n, b ≠ c := by
  rintro b hb rfl
  rcases itoa_chars n b hb with h | h
  · exact h45 h
  · rw [hd] at h; cases h
theorem itoa_ne45 (n : Int) : Lib.itoa n ≠ [45] := by
  intro h
  have h2 := (dec_val n.natAbs)
  unfold Lib.itoa at h
  split at h
  · have : Lib.decDigits n.natAbs = [] := by simpa using h
    rw [this] at h2
    have := h2.1
    simp [valD] at this
    omega
  · rw [show n.toNat = n.natAbs by omega] at h
    have := dec_head n.natAbs
    rw [h] at this
    exact this rfl
theorem numsF_listF (xs : List Int) (h : ∀ x ∈ xs, I64 x) : numsF (listF xs) = (xs, true) := by
  unfold numsF listF
  cases xs with
  | nil => rfl
  | cons x xs =>
    have e0 : (if x :: xs = [] then [45] else joinR [44] ((x :: xs).map Lib.itoa) true) = joinR [44] ((x :: xs).map Lib.itoa) true := if_neg (by simp)
    rw [e0]
    have hne : joinR [44] ((x :: xs).map Lib.itoa) true ≠ [45] := by
      intro e
      rw [List.map_cons, joinR] at e
      simp only [if_true, List.nil_append] at e
      have hx := itoa_ne45 x
      cases hi : Lib.itoa x with
      | nil => exact itoa_ne x hi
      | cons b l =>
        rw [hi] at e hx
        cases l with
        | nil =>
          simp only [List.cons_append, List.nil_append, List.cons.injEq] at e
          exact hx (by rw [e.1])
        | cons _ _ => simp at e
    rw [if_neg hne, List.map_cons, cut_joinR]
    · have := numsGo_itoa (x :: xs) [] h
      simpa using this
    · intro y hy b hb
      rw [← List.map_cons, List.mem_map] at hy
      obtain ⟨z, _, rfl⟩ := hy
      exact itoa_no (by decide) (by decide) b hb
theorem numsGo_len : ∀ (ws : List (List UInt8)) (acc : List Int), (numsGo ws acc).1.length ≤ acc.length + ws.length := by
  intro ws
  induction ws with
  | nil => intro acc; simp [numsGo]
  | cons w ws ih =>
    intro acc
    rw [numsGo]
    split
    · have := ih (acc ++ [(numF w).1]); simp at this ⊢; omega
    · simp

/-! Lines and words back. -/
/-- A word that has no blank and is not empty. -/
def plainW (w : List UInt8) : Bool := decide (partsB 32 false [] w = [w]) && decide (partsB 10 true [] w = [w])
theorem partsB_one {sg : UInt8} {em : Bool} : ∀ (w cur : List UInt8), partsB sg em cur w = [cur ++ w] → ∀ b ∈ w, b ≠ sg := by
  intro w
  induction w with
  | nil => intro cur _ b hb; cases hb
  | cons x w ih =>
    intro cur h b hb
    simp only [partsB] at h
    by_cases hx : x = sg
    · exfalso
      rw [if_pos hx] at h
      have hl := partsB_len (sign := sg) (em := em) w []
      simp only [if_true, Nat.add_zero, List.length_nil] at hl
      split at h
      · have h1 := (List.cons.inj h).1
        have := congrArg List.length h1
        simp at this
      · have hm : cur ++ x :: w ∈ partsB sg em [] w := by rw [h]; simp
        have := hl.2 _ hm
        simp at this
        omega
    · rw [if_neg hx] at h
      rcases List.mem_cons.1 hb with rfl | hb
      · exact hx
      · exact ih (cur ++ [x]) (by rw [h]; simp) b hb
theorem plainW_ok {w : List UInt8} (h : plainW w = true) : w ≠ [] ∧ (∀ b ∈ w, b ≠ 32) ∧ ∀ b ∈ w, b ≠ 10 := by
  simp only [plainW, Bool.and_eq_true, decide_eq_true_eq] at h
  exact ⟨by rintro rfl; exact absurd h.1 (by simp [partsB]), partsB_one w [] h.1, partsB_one w [] h.2⟩
theorem fields_join : ∀ (ws : List (List UInt8)) (cur : List UInt8), (∀ w ∈ ws, w ≠ [] ∧ ∀ b ∈ w, b ≠ 32) → cur ≠ [] → partsB 32 false cur (joinR [32] ws false) = cur :: ws := by
  intro ws
  induction ws with
  | nil => intro cur _ hc; simp [joinR, partsB, hc]
  | cons w ws ih =>
    intro cur h hc
    rw [joinR]
    simp only [Bool.false_eq_true, if_false, List.singleton_append, List.cons_append, List.nil_append, partsB, if_true]
    rw [if_pos (.inr hc), partsB_skip w [] _ (h w (by simp)).2, List.nil_append, ih w (fun y hy => h y (by simp [hy])) (h w (by simp)).1]
theorem fields_back (ws : List (List UInt8)) (h : ∀ w ∈ ws, w ≠ [] ∧ ∀ b ∈ w, b ≠ 32) : partsB 32 false [] (joinR [32] ws true) = ws := by
  cases ws with
  | nil => rfl
  | cons w ws =>
    rw [joinR]
    simp only [if_true, List.nil_append]
    rw [partsB_skip w [] _ (h w (by simp)).2, List.nil_append, fields_join ws w (fun y hy => h y (by simp [hy])) (h w (by simp)).1]
def linesT (ws : List (List UInt8)) : List UInt8 := (ws.map fun w => w ++ [10]).flatten
theorem lines_back : ∀ (ws : List (List UInt8)), (∀ w ∈ ws, ∀ b ∈ w, b ≠ 10) → partsB 10 true [] (linesT ws) = ws := by
  intro ws
  induction ws with
  | nil => intro _; rfl
  | cons w ws ih =>
    intro h
    have e : linesT (w :: ws) = w ++ 10 :: linesT ws := by simp [linesT]
    rw [e, partsB_skip w [] _ (h w (by simp)), List.nil_append]
    simp only [partsB, if_true]
    rw [if_pos (.inl trivial), ih fun y hy => h y (by simp [hy])]
end Go.Proofs.YtjdpejggafefjaaDoor
