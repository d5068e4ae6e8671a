/- Plain: the number that is written. -/
import Derived.Test.YtjdpejggafefjaaDoorWj
namespace Go.Proofs.YtjdpejggafefjaaDoor
set_option linter.unusedVariables false
set_option linter.unusedSimpArgs false
open Go Go.Kx Go.Proofs

def digB (b : UInt8) : Bool := decide (48 ≤ b.toNat) && decide (b.toNat ≤ 57)
def valD (l : List UInt8) : Int := l.foldl (fun a b => 10 * a + ((b.toNat : Int) - 48)) 0
def bodyN (l : List UInt8) : List UInt8 := if l.head? = some 45 then l.tail else l
def signN (l : List UInt8) (v : Int) : Int := if l.head? = some 45 then -v else v
def numF (l : List UInt8) : Int × Bool :=
  if 20 < l.length then (0, false)
  else if (bodyN l).all digB = true then
    (if Lib.itoa (IntKind.i64.wrap (signN l (valD (bodyN l)))) = l then (IntKind.i64.wrap (signN l (valD (bodyN l))), true) else (0, false))
  else (0, false)
theorem wrap_emod (a : Int) : IntKind.i64.wrap a % 18446744073709551616 = a % 18446744073709551616 := by
  simp only [IntKind.wrap, IntKind.bits, IntKind.signed]
  simp
  try (split <;> omega)
theorem wrap_congr {a b : Int} (h : a % 18446744073709551616 = b % 18446744073709551616) : IntKind.i64.wrap a = IntKind.i64.wrap b := by
  simp only [IntKind.wrap, IntKind.bits, IntKind.signed]
  simp
  try (omega)
theorem valD_snoc (l : List UInt8) (b : UInt8) : valD (l ++ [b]) = 10 * valD l + ((b.toNat : Int) - 48) := by
  simp [valD, List.foldl_append]
theorem dec_val : ∀ u : Nat, valD (Lib.decDigits u) = u ∧ (Lib.decDigits u).all digB = true := by
  intro u
  induction u using Nat.strongRecOn with
  | ind u ih =>
    have hd : ∀ d : Nat, d < 10 → ((UInt8.ofNat (48 + d)).toNat : Int) - 48 = d ∧ digB (UInt8.ofNat (48 + d)) = true := by decide
    rw [Lib.decDigits]
    by_cases h : u < 10
    · rw [dif_pos h]
      obtain ⟨h1, h2⟩ := hd u h
      exact ⟨by simp [valD]; omega, by rw [List.all_cons, h2]; rfl⟩
    · rw [dif_neg h]
      obtain ⟨h1, h2⟩ := hd (u % 10) (Nat.mod_lt _ (by decide))
      obtain ⟨i1, i2⟩ := ih (u / 10) (by omega)
      refine ⟨?_, by rw [List.all_append, i2, List.all_cons, h2]; rfl⟩
      rw [valD_snoc, i1, h1]
      omega
theorem dec_len : ∀ (k u : Nat), u < 10 ^ (k + 1) → (Lib.decDigits u).length ≤ k + 1 := by
  intro k
  induction k with
  | zero => intro u h; rw [Lib.decDigits, dif_pos (by omega)]; simp
  | succ k ih =>
    intro u h
    rw [Lib.decDigits]
    split
    · simp
    · have := ih (u / 10) (by rw [Nat.pow_succ] at h; omega)
      rw [List.length_append, List.length_singleton]
      omega
theorem dec_head (u : Nat) : (Lib.decDigits u).head? ≠ some 45 := by
  intro h
  have h2 := (dec_val u).2
  cases hd : Lib.decDigits u with
  | nil => rw [hd] at h; cases h
  | cons b l =>
    rw [hd] at h h2
    cases h
    simp [digB] at h2
theorem numF_itoa (n : Int) (h0 : -9223372036854775808 ≤ n) (h1 : n ≤ 9223372036854775807) : numF (Lib.itoa n) = (n, true) := by
  have hl := dec_len 18 n.natAbs (by omega)
  obtain ⟨v1, v2⟩ := dec_val n.natAbs
  have hb : bodyN (Lib.itoa n) = Lib.decDigits n.natAbs ∧ ∀ v, signN (Lib.itoa n) v = (if n < 0 then -v else v) := by
    unfold Lib.itoa bodyN signN
    by_cases hn : n < 0
    · simp [hn]
    · have : n.toNat = n.natAbs := by omega
      simp [hn, this, dec_head]
  have hlen : ¬ 20 < (Lib.itoa n).length := by
    unfold Lib.itoa
    split
    · simp; omega
    · rw [show n.toNat = n.natAbs by omega]; omega
  have hv : (if n < 0 then -((n.natAbs : Nat) : Int) else ((n.natAbs : Nat) : Int)) = n := by split <;> omega
  unfold numF
  rw [if_neg hlen, hb.1, v2, if_pos rfl, hb.2, v1, hv, wrap_in n h0 h1, if_pos rfl]
end Go.Proofs.YtjdpejggafefjaaDoor
