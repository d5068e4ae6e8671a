/- Plain: runes of more than a byte hold no ASCII byte; a text cut at a sign; Join and numbers as the chapter has them. -/
import Derived.Test.YtjdpejggafefjaaDoorVs
import Derived.Laws.RangeAny
import Derived.Lib.Join
import Derived.Lib.ItoaNum
namespace Go.Proofs.YtjdpejggafefjaaDoor
set_option linter.unusedVariables false
set_option linter.unusedSimpArgs false
open Go Go.Kx Go.Proofs

theorem get_bang (s : ByteArray) (i : Nat) (h : i < s.size) : s.get! i = s[i]'h := by
  simp [ByteArray.get!, getElem!_pos, h]
  rfl
theorem data_at {s : ByteArray} {i : Nat} (h : i < s.size) : s.data.toList[i]? = some (s.get! i) := by
  rw [get_bang s i h, Array.getElem?_toList]
  exact getElem?_pos s.data i h
theorem dec_high (s : ByteArray) (pos : Nat) (h : pos < s.size) (ha : 128 ≤ (s.get! pos).toNat) :
    pos + (Utf8.decode s pos).2 ≤ s.size ∧ ∀ j, j < (Utf8.decode s pos).2 → 128 ≤ (s.get! (pos + j)).toNat := by
  have hn : ¬ (s.get! (pos + 0)).toNat < 128 := by rw [Nat.add_zero]; omega
  simp only [Utf8.decode, if_neg hn, Bool.and_eq_true, decide_eq_true_eq, beq_iff_eq]
  repeat' split
  all_goals (refine ⟨by dsimp only; omega, fun j hj => ?_⟩; dsimp only at hj)
  all_goals (rcases j with _ | _ | _ | _ | j)
  all_goals (first | omega | (rw [Nat.add_zero]; omega))

/-- The parts of a text at a sign: the empty ones too, or not. -/
def partsB (sign : UInt8) (em : Bool) : List UInt8 → List UInt8 → List (List UInt8)
  | cur, [] => if cur = [] then [] else [cur]
  | cur, b :: bs => if b = sign then (if em = true ∨ cur ≠ [] then cur :: partsB sign em [] bs else partsB sign em [] bs) else partsB sign em (cur ++ [b]) bs
theorem partsB_skip {sign : UInt8} {em : Bool} : ∀ (xs cur bs : List UInt8), (∀ x ∈ xs, x ≠ sign) → partsB sign em cur (xs ++ bs) = partsB sign em (cur ++ xs) bs := by
  intro xs
  induction xs with
  | nil => intro cur bs _; simp
  | cons x xs ih =>
    intro cur bs h
    rw [List.cons_append]
    simp only [partsB]
    rw [if_neg (h x (by simp)), ih _ _ fun y hy => h y (by simp [hy])]
    simp
theorem partsB_len {sign : UInt8} {em : Bool} : ∀ (bs cur : List UInt8), (partsB sign em cur bs).length ≤ bs.length + (if cur = [] then 0 else 1) ∧ ∀ x ∈ partsB sign em cur bs, x.length ≤ bs.length + cur.length := by
  intro bs
  induction bs with
  | nil =>
    intro cur
    simp only [partsB]
    split <;> simp
  | cons b bs ih =>
    intro cur
    simp only [partsB]
    split
    · obtain ⟨h1, h2⟩ := ih []
      simp only [if_true, List.length_nil, Nat.add_zero] at h1 h2
      split
      · refine ⟨by simp only [List.length_cons]; split <;> omega, fun x hx => ?_⟩
        rcases List.mem_cons.1 hx with rfl | hx
        · simp only [List.length_cons]; omega
        · have := h2 x hx; simp only [List.length_cons]; omega
      · exact ⟨by simp only [List.length_cons]; split <;> omega, fun x hx => by have := h2 x hx; simp only [List.length_cons]; omega⟩
    · obtain ⟨h1, h2⟩ := ih (cur ++ [b])
      simp only [List.append_eq_nil_iff, List.cons_ne_nil, and_false, if_false, List.length_append, List.length_singleton] at h1 h2
      refine ⟨by simp only [List.length_cons]; split <;> omega, fun x hx => by have := h2 x hx; simp only [List.length_cons]; omega⟩

/-- Words as a line, as the chapter puts them together. -/
def joinR (sep : List UInt8) : List (List UInt8) → Bool → List UInt8
  | [], _ => []
  | x :: xs, first => (if first then [] else sep) ++ x ++ joinR sep xs false
theorem joinR_tail (sep : List UInt8) : ∀ xs, joinR sep xs false = Lib.joinTail sep xs := by
  intro xs
  induction xs with
  | nil => rfl
  | cons x xs ih => simp only [joinR, ih, Lib.joinTail, List.map_cons, List.flatten_cons]; simp
theorem join_joinR (sep : List UInt8) (xs : List (List UInt8)) : Lib.join xs sep = joinR sep xs true := by
  cases xs with
  | nil => rfl
  | cons x xs => rw [Lib.join_cons, joinR, joinR_tail]; simp
end Go.Proofs.YtjdpejggafefjaaDoor
