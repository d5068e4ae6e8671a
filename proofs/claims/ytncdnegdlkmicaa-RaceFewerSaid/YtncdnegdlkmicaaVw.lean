/- Words of 64 bits. -/
import Derived.Test.YtncdnegdlkmicaaKk
namespace Go.Kx
set_option linter.unusedVariables false
set_option linter.unusedSimpArgs false
open Go

/-! ### Words of 64 bits -/
def orN (m n : Nat) : Nat := m ||| n
def mod2 (m : Nat) : Nat := m % 2
def shrN (m s : Nat) : Nat := m >>> s
def pow2 (s : Nat) : Nat := 2 ^ s
theorem wrap_u64 {n : Nat} (h : n < 18446744073709551616) : IntKind.u64.wrap (n : Int) = n := by
  simp only [IntKind.wrap, IntKind.bits, IntKind.signed, Bool.false_and]
  simp
  omega
theorem bv_nat (n : Nat) : BitVec.ofInt 64 (n : Int) = BitVec.ofNat 64 n := by
  apply BitVec.eq_of_toNat_eq
  simp [BitVec.toNat_ofInt, BitVec.toNat_ofNat]
@[push_cast] theorem v_or_u64 (m n : Nat) (hm : m < 18446744073709551616) (hn : n < 18446744073709551616) : PF.val (.bin .or) [.int .u64 m, .int .u64 n] = some (.int .u64 (orN m n : Nat)) := by
  simp only [PF.val, binV, isSh, binI, if_true, Bool.false_eq_true, if_false]
  have : (BitVec.ofInt IntKind.u64.bits (m : Int) ||| BitVec.ofInt IntKind.u64.bits (n : Int)).toNat = m ||| n := by
    show (BitVec.ofInt 64 (m : Int) ||| BitVec.ofInt 64 (n : Int)).toNat = _
    rw [bv_nat, bv_nat]
    simp [Nat.mod_eq_of_lt hm, Nat.mod_eq_of_lt hn]
  rw [this, wrap_u64 (Nat.or_lt_two_pow (n := 64) hm hn)]
  rfl
@[push_cast] theorem v_and1_u64 (m : Nat) : PF.val (.bin .and) [.int .u64 m, .int .u64 1] = some (.int .u64 (mod2 m : Nat)) := by
  simp only [PF.val, binV, isSh, binI, if_true, Bool.false_eq_true, if_false]
  have : (BitVec.ofInt IntKind.u64.bits (m : Int) &&& BitVec.ofInt IntKind.u64.bits 1).toNat = m % 2 := by
    show (BitVec.ofInt 64 (m : Int) &&& 1#64).toNat = _
    rw [bv_nat]
    simp [Nat.and_one_is_mod]
  rw [this, wrap_u64 (by omega)]
  rfl
@[push_cast] theorem v_shr_u64 (w : Nat) (k : IntKind) (s : Int) (h0 : 0 ≤ s) (h1 : s < 64) : PF.val (.bin .shr) [.int .u64 w, .int k s] = some (.int .u64 (shrN w s.toNat : Nat)) := by
  obtain ⟨t, rfl⟩ : ∃ t : Nat, s = t := ⟨s.toNat, by omega⟩
  have h2 : min t 64 = t := by omega
  simp only [PF.val, binV, isSh, if_true, shI, IntKind.bits, Int.toNat_natCast, h2]
  rw [if_neg (by omega)]
  have h3 : (w : Int).fdiv (2 ^ t) = (w : Int) / 2 ^ t := Int.fdiv_eq_ediv_of_nonneg _ (Int.pow_nonneg (by omega))
  simp [shrN, Nat.shiftRight_eq_div_pow, h3]
@[push_cast] theorem v_shl1_u64 (k : IntKind) (s : Int) (h0 : 0 ≤ s) (h1 : s < 64) : PF.val (.bin .shl) [.int .u64 1, .int k s] = some (.int .u64 (pow2 s.toNat : Nat)) := by
  obtain ⟨t, rfl⟩ : ∃ t : Nat, s = t := ⟨s.toNat, by omega⟩
  have h2 : min t 64 = t := by omega
  simp only [PF.val, binV, isSh, if_true, shI, IntKind.bits, Int.toNat_natCast, h2]
  rw [if_neg (by omega)]
  have : (1 : Int) * 2 ^ t = ((2 ^ t : Nat) : Int) := by simp
  rw [this, wrap_u64]
  · rfl
  have : (2 : Nat) ^ t < 2 ^ 64 := Nat.pow_lt_pow_right (by omega) (by omega)
  simpa using this

theorem bit_spec (w k : Nat) : decide ((mod2 (shrN w k) : Int) = 1) = w.testBit k := by
  rw [Nat.testBit_eq_decide_div_mod_eq, Bool.eq_iff_iff]
  simp only [mod2, shrN, Nat.shiftRight_eq_div_pow, decide_eq_true_eq]
  omega
theorem mod64 (a : Nat) : ((a : Int) % 64).toNat = a % 64 := by omega


end Go.Kx
