/- Whole numbers as floating-point numbers, in plain Lean. -/
import Derived.Test.YtilofhocodbknaaVm
namespace Go.Proofs.Ytilofhocodbknaa
set_option linter.unusedVariables false
set_option linter.unusedSimpArgs false
open Go Go.Kx Go.Proofs

/-- A word that stands for a whole number. -/
def Rep (w n : Nat) : Prop := ∃ m p, Ieee.double.read w = .number false m p ∧ p ≤ 0 ∧ m = n * 2 ^ (-p).toNat
def fl (n : Int) : Nat := FloatKind.nearest .f64 n
theorem fl_def (n : Nat) : fl (n : Int) = Ieee.double.nearest false n 0 := by
  have h : ¬ ((n : Int) < 0) := by omega
  simp [fl, FloatKind.nearest, FloatKind.encode, FloatKind.format, Ieee.Format.write, h]
theorem dLeast : Ieee.double.leastPlace = -1074 := by decide
theorem dBinade : Ieee.double.binade = 4503599627370496 := by decide
theorem dInf : Ieee.double.infRung = 9218868437227405312 := by decide
theorem dSign : Ieee.double.signWeight = 9223372036854775808 := by decide
theorem dFrac : Ieee.double.fractionBits = 52 := rfl
theorem rep_fl0 : Rep 0 0 := ⟨0, -1074, by decide, by omega, by rw [Nat.zero_mul]⟩
theorem cut0 (N : Nat) : Ieee.Toward.even.cut false N 0 = N := by
  simp [Ieee.Toward.cut, Nat.mod_one]
theorem near_gen (f : Ieee.Format) {n e d b w : Nat} {L : Int} (hE : n.log2 = e) (h0 : n ≠ 0) (hF : (f.fractionBits : Int) = e + d) (hL : f.leastPlace = L) (hLe : L ≤ -(d : Int)) (hw : ((-(d : Int)) - L).toNat = w) (hB : f.binade = b) (hI : w * b + n * 2 ^ d ≤ f.infRung) :
    f.nearest false n 0 = w * b + n * 2 ^ d := by
  unfold Ieee.Format.nearest
  rw [if_neg h0]
  simp only [hE, hF, hL, hB]
  have hlast : max ((0 : Int) + (e : Int) - ((e : Int) + (d : Int))) L = -(d : Int) := by omega
  rw [hlast, hw]
  have e1 : ((0 : Int) - (-(d : Int))).toNat = d := by omega
  have e2 : ((-(d : Int)) - 0).toNat = 0 := by omega
  rw [e1, e2, Nat.shiftLeft_eq, cut0]
  unfold Ieee.Format.word
  rw [if_neg (by simp), Nat.min_eq_left hI]
theorem read_gen (f : Ieee.Format) {N u b d : Nat} {L : Int} (hB : f.binade = b) (hL : f.leastPlace = L) (h1 : b ≤ N) (h2 : N < 2 * b) (hI : u * b + N < f.infRung) (hS : u * b + N < f.signWeight) (hd : L + (u : Int) = -(d : Int)) :
    f.read (u * b + N) = .number false N (-(d : Int)) := by
  have hb : 0 < b := by omega
  unfold Ieee.Format.read
  have m1 : (u * b + N) / f.signWeight = 0 := Nat.div_eq_of_lt hS
  have m2 : (u * b + N) % f.signWeight = u * b + N := Nat.mod_eq_of_lt hS
  obtain ⟨r, hr⟩ : ∃ r, N = b + r := ⟨N - b, by omega⟩
  have hs : u * b + N = (u + 1) * b + r := by rw [hr, Nat.succ_mul]; omega
  have m3 : (u * b + N) % b = r := by rw [hs, Nat.add_comm, Nat.add_mul_mod_self_right, Nat.mod_eq_of_lt (by omega)]
  have m4 : (u * b + N) / b = u + 1 := by rw [hs, Nat.add_comm, Nat.add_mul_div_right _ _ hb, Nat.div_eq_of_lt (by omega)]; omega
  simp only [hB, hL, m1, m2]
  have hnb : ¬ (u * b + N < b) := by omega
  rw [if_neg hnb, if_pos hI, m3, m4]
  have q1 : b + r = N := by omega
  have q2 : L + ((u + 1 - 1 : Nat) : Int) = -(d : Int) := by rw [Nat.add_sub_cancel]; exact hd
  rw [q1, q2]
  rfl
theorem rep_fl {n : Nat} (h0 : 0 < n) (h : n < 2 ^ 52) : Rep (fl (n : Int)) n := by
  rw [fl_def]
  have hle := Nat.log2_self_le (n := n) (by omega)
  have hlt := Nat.lt_log2_self (n := n)
  have he : n.log2 < 52 := (Nat.log2_lt (by omega)).2 h
  generalize hE : n.log2 = e at hle hlt he
  obtain ⟨d, hd⟩ : ∃ d, e + d = 52 := ⟨52 - e, by omega⟩
  have h1 : 4503599627370496 ≤ n * 2 ^ d := by
    have := Nat.mul_le_mul_right (2 ^ d) hle
    rw [← Nat.pow_add, hd] at this
    exact this
  have h2 : n * 2 ^ d < 9007199254740992 := by
    have := Nat.mul_lt_mul_of_pos_right hlt (Nat.two_pow_pos d)
    rw [← Nat.pow_add, show e + 1 + d = 53 by omega] at this
    exact this
  have hnear := near_gen Ieee.double (d := d) (b := 4503599627370496) (w := e + 1022) (L := -1074) hE (by omega) (by rw [dFrac]; omega) dLeast (by omega) (by omega) dBinade (by rw [dInf]; omega)
  have hread := read_gen Ieee.double (N := n * 2 ^ d) (u := e + 1022) (b := 4503599627370496) (d := d) (L := -1074) dBinade dLeast h1 (by omega) (by rw [dInf]; omega) (by rw [dSign]; omega) (by omega)
  rw [hnear]
  exact ⟨n * 2 ^ d, -(d : Int), hread, by omega, by rw [show (-(-(d : Int))).toNat = d by omega]⟩
theorem rep_flI {n : Int} (h0 : 0 ≤ n) (h : n < 2 ^ 52) : Rep (fl n) n.toNat := by
  obtain ⟨m, rfl⟩ : ∃ m : Nat, n = m := ⟨n.toNat, by omega⟩
  by_cases hm : m = 0
  · subst hm
    have : fl ((0 : Nat) : Int) = 0 := by decide
    rw [this]
    exact rep_fl0
  · rw [Int.toNat_natCast]
    exact rep_fl (by omega) (by omega)
theorem signed_pos (m k : Nat) : Ieee.signed false m k = ((m * 2 ^ k : Nat) : Int) := by
  simp only [Ieee.signed, Nat.shiftLeft_eq]
  rfl
theorem order_rep {x y a b : Nat} (hx : Rep x a) (hy : Rep y b) : Ieee.double.order x y = some (compare a b) := by
  obtain ⟨m, p, h1, h2, h3⟩ := hx
  obtain ⟨n, q, k1, k2, k3⟩ := hy
  unfold Ieee.Format.order
  rw [h1, k1]
  simp only [Ieee.Datum.order]
  have e1 : m * 2 ^ (p - min p q).toNat = a * 2 ^ (-(min p q)).toNat := by
    rw [h3, Nat.mul_assoc, ← Nat.pow_add]; congr 2; omega
  have e2 : n * 2 ^ (q - min p q).toNat = b * 2 ^ (-(min p q)).toNat := by
    rw [k3, Nat.mul_assoc, ← Nat.pow_add]; congr 2; omega
  rw [signed_pos, signed_pos, e1, e2]
  generalize (-(min p q)).toNat = t
  congr 1
  have hp := Nat.two_pow_pos t
  rcases Nat.lt_trichotomy a b with h | h | h
  · rw [Nat.compare_eq_lt.2 h]
    have : a * 2 ^ t < b * 2 ^ t := Nat.mul_lt_mul_of_pos_right h hp
    exact Int.compare_eq_lt.2 (by exact_mod_cast this)
  · subst h
    rw [Nat.compare_eq_eq.2 rfl]
    exact Int.compare_eq_eq.2 rfl
  · rw [Nat.compare_eq_gt.2 h]
    have : b * 2 ^ t < a * 2 ^ t := Nat.mul_lt_mul_of_pos_right h hp
    exact Int.compare_eq_gt.2 (by exact_mod_cast this)
theorem toInt_rep {x a : Nat} (hx : Rep x a) : (FloatKind.f64.decode x).toInt .zero = some (a : Int) := by
  obtain ⟨m, p, h1, h2, h3⟩ := hx
  have e : FloatKind.f64.decode x = Ieee.double.read x := rfl
  rw [e, h1]
  simp only [Ieee.Datum.toInt, Ieee.Datum.integral]
  have e1 : p.toNat = 0 := by omega
  rw [e1, Nat.shiftLeft_zero, signed_pos, Nat.pow_zero, Nat.mul_one]
  congr 2
  generalize (-p).toNat = t at h3
  simp only [Ieee.Toward.cut, Bool.toNat_false, Nat.add_zero]
  rw [Nat.one_shiftLeft]
  by_cases ha : a = 0
  · subst ha; rw [h3]; simp
  · have hm : 2 ^ t ≤ m := by rw [h3]; exact Nat.le_mul_of_pos_left _ (by omega)
    have hlog : t ≤ m.log2 := (Nat.le_log2 (by have := Nat.two_pow_pos t; omega)).2 hm
    rw [Nat.min_eq_left (by omega), h3, Nat.mul_div_cancel _ (Nat.two_pow_pos t)]
end Go.Proofs.Ytilofhocodbknaa
