/- Plain laws: how many bits a word has. -/
import Derived.Test.YtilofhocodbknaaRxm
namespace Go.Proofs.Ytilofhocodbknaa
set_option linter.unusedVariables false
set_option linter.unusedSimpArgs false
open Go Go.Kx Go.Proofs

/-- How many of the first n bits are set. -/
def cnt (n x : Nat) : Nat := (List.range n).countP fun k => x.testBit k
theorem cnt_add (m n x : Nat) : cnt (m + n) x = cnt m x + cnt n (x / 2 ^ m) := by
  unfold cnt
  rw [List.range_add, List.countP_append, List.countP_map]
  congr 1
  apply List.countP_congr
  intro k _
  simp only [Function.comp_apply]
  rw [Nat.testBit_div_two_pow]
  rw [Nat.add_comm]
theorem cnt_low (a y : Nat) (h : a < 256) : cnt 8 (a + 256 * y) = cnt 8 a := by
  unfold cnt
  apply List.countP_congr
  intro k hk
  have hk8 : k < 8 := List.mem_range.1 hk
  have e : a + 256 * y = 2 ^ 8 * y + a := by omega
  rw [e, Nat.testBit_two_pow_mul_add y (by omega : a < 2 ^ 8)]
  simp [hk8]
theorem and256 (a y c m : Nat) (ha : a < 256) (hc : c < 256) : andN (a + 256 * y) (c + 256 * m) = andN a c + 256 * andN y m := by
  unfold andN
  have h1 : a &&& c < 2 ^ 8 := Nat.and_lt_two_pow _ (by omega)
  apply Nat.eq_of_testBit_eq
  intro i
  rw [Nat.testBit_and, show a + 256 * y = 2 ^ 8 * y + a by omega, show c + 256 * m = 2 ^ 8 * m + c by omega, show (a &&& c) + 256 * (y &&& m) = 2 ^ 8 * (y &&& m) + (a &&& c) by omega,
    Nat.testBit_two_pow_mul_add y (by omega : a < 2 ^ 8), Nat.testBit_two_pow_mul_add m (by omega : c < 2 ^ 8), Nat.testBit_two_pow_mul_add (y &&& m) h1]
  by_cases hi : i < 8
  · simp [hi, Nat.testBit_and]
  · simp [hi, Nat.testBit_and]
def mask (c : Nat) : Nat → Nat
  | 0 => 0
  | k + 1 => c + 256 * mask c k
def s1 (k x : Nat) : Nat := andN (x / 2) (mask 85 k) + andN x (mask 85 k)
def s2 (k x : Nat) : Nat := andN (x / 4) (mask 51 k) + andN x (mask 51 k)
def s3 (k x : Nat) : Nat := andN (x / 16 + x) (mask 15 k)
def b1 (a : Nat) : Nat := andN (a / 2) 85 + andN a 85
def b2 (a : Nat) : Nat := andN (a / 4) 51 + andN a 51
theorem b1_fact : ∀ a : Fin 256, b1 a < 256 ∧ (∀ t : Fin 2, andN (a / 2 + 128 * t) 85 = andN (a / 2) 85) := by decide +kernel
theorem b2_fact : ∀ a : Fin 256, b2 a < 256 ∧ (∀ t : Fin 4, andN (a / 4 + 64 * t) 51 = andN (a / 4) 51) := by decide +kernel
theorem b3_fact : ∀ a : Fin 256, b2 (b1 a) ≤ 68 ∧ b2 (b1 a) % 16 ≤ 4 ∧ (b2 (b1 a) / 16 + b2 (b1 a)) % 16 = cnt 8 a ∧ cnt 8 a ≤ 8 := by decide +kernel
theorem s1_step (k a y : Nat) (ha : a < 256) : s1 (k + 1) (a + 256 * y) = b1 a + 256 * s1 k y := by
  unfold s1 b1
  simp only [mask]
  have e : (a + 256 * y) / 2 = (a / 2 + 128 * (y % 2)) + 256 * (y / 2) := by omega
  have hf := (b1_fact ⟨a, ha⟩).2 ⟨y % 2, by omega⟩
  simp only at hf
  rw [e, and256 _ _ _ _ (by omega) (by omega), and256 _ _ _ _ ha (by omega), hf]
  omega
theorem s2_step (k a y : Nat) (ha : a < 256) : s2 (k + 1) (a + 256 * y) = b2 a + 256 * s2 k y := by
  unfold s2 b2
  simp only [mask]
  have e : (a + 256 * y) / 4 = (a / 4 + 64 * (y % 4)) + 256 * (y / 4) := by omega
  have hf := (b2_fact ⟨a, ha⟩).2 ⟨y % 4, by omega⟩
  simp only at hf
  rw [e, and256 _ _ _ _ (by omega) (by omega), and256 _ _ _ _ ha (by omega), hf]
  omega
theorem and15 (z : Nat) : andN z 15 = z % 16 := by
  unfold andN
  exact Nat.and_two_pow_sub_one_eq_mod z 4
theorem s3_step (k a y : Nat) (ha : a ≤ 68) (hy : y % 16 ≤ 4) : s3 (k + 1) (a + 256 * y) = (a / 16 + a) % 16 + 256 * s3 k y := by
  unfold s3
  simp only [mask]
  have e : (a + 256 * y) / 16 + (a + 256 * y) = (a / 16 + 16 * (y % 16) + a) + 256 * (y / 16 + y) := by omega
  rw [e, and256 _ _ _ _ (by omega) (by omega), and15]
  have : (a / 16 + 16 * (y % 16) + a) % 16 = (a / 16 + a) % 16 := by omega
  rw [this]
theorem s12_step (k a y : Nat) (ha : a < 256) : s2 (k + 1) (s1 (k + 1) (a + 256 * y)) = b2 (b1 a) + 256 * s2 k (s1 k y) := by
  rw [s1_step k a y ha, s2_step k _ _ (b1_fact ⟨a, ha⟩).1]
theorem byte_split (x : Nat) : x = x % 256 + 256 * (x / 256) := by omega
theorem s_zero (x : Nat) : s1 0 x = 0 ∧ s2 0 x = 0 ∧ s3 0 x = 0 := by simp [s1, s2, s3, mask, andN]
theorem s12_nib (k x : Nat) : s2 k (s1 k x) % 16 ≤ 4 ∧ s2 k (s1 k x) * 3 < 256 ^ k ∧ s1 k x < 256 ^ k := by
  induction k generalizing x with
  | zero => simp [s_zero]
  | succ k ih =>
    rw [byte_split x]
    have ha : x % 256 < 256 := by omega
    rw [s12_step k _ _ ha, s1_step k _ _ ha]
    have f1 := b3_fact ⟨x % 256, ha⟩
    have f2 := b1_fact ⟨x % 256, ha⟩
    have f3 := ih (x / 256)
    simp only at f1 f2
    rw [Nat.pow_succ]
    omega
def gg (k x : Nat) : Nat := s3 k (s2 k (s1 k x))
theorem gg_step (k x : Nat) : gg (k + 1) x = cnt 8 (x % 256) + 256 * gg k (x / 256) := by
  have ha : x % 256 < 256 := by omega
  have f1 := b3_fact ⟨x % 256, ha⟩
  simp only at f1
  unfold gg
  conv => lhs; rw [byte_split x]
  rw [s12_step k _ _ ha, s3_step k _ _ f1.1 (s12_nib k _).1, f1.2.2.1]
theorem gg_zero (x : Nat) : gg 0 x = 0 := (s_zero _).2.2
theorem cnt_le8 (x : Nat) : cnt 8 x ≤ 8 := by
  unfold cnt
  exact Nat.le_trans List.countP_le_length (by simp)
theorem cnt_mod (x : Nat) : cnt 8 (x % 256) = cnt 8 x := by
  conv => rhs; rw [byte_split x]
  rw [cnt_low _ _ (by omega)]
theorem cnt_step (n x : Nat) : cnt (8 + n) x = cnt 8 (x % 256) + cnt n (x / 256) := by rw [cnt_add, cnt_mod]
theorem mask_m0 : mask 85 8 = m0 := by decide
theorem mask_m1 : mask 51 8 = m1 := by decide
theorem mask_m2 : mask 15 8 = m2 := by decide
theorem q8 (z : Nat) : pc4 z 8 = (z + z / 256) % 18446744073709551616 := by
  unfold pc4 addW shrN
  rw [Nat.shiftRight_eq_div_pow]
theorem q16 (z : Nat) : pc4 z 16 = (z + z / 65536) % 18446744073709551616 := by
  unfold pc4 addW shrN
  rw [Nat.shiftRight_eq_div_pow]
theorem q32 (z : Nat) : pc4 z 32 = (z + z / 4294967296) % 18446744073709551616 := by
  unfold pc4 addW shrN
  rw [Nat.shiftRight_eq_div_pow]
theorem div_nest (a b : Nat) (h : a < 256) : (a + 256 * b) / 256 = b := by omega
theorem add_nest (a b c d : Nat) : (a + 256 * b) + (c + 256 * d) = (a + c) + 256 * (b + d) := by omega
theorem mod_nest (a b : Nat) : mod128 (a + 256 * b) = a % 128 := by unfold mod128; omega
theorem lt_nest (a b m : Nat) (ha : a < 256) (hb : b < m) : a + 256 * b < 256 * m := by omega
theorem div_65536 (z : Nat) : z / 65536 = z / 256 / 256 := by omega
theorem div_2p32 (z : Nat) : z / 4294967296 = z / 256 / 256 / 256 / 256 := by omega
set_option maxHeartbeats 2000000 in
theorem fold8 (c0 c1 c2 c3 c4 c5 c6 c7 : Nat) (h0 : c0 ≤ 8) (h1 : c1 ≤ 8) (h2 : c2 ≤ 8) (h3 : c3 ≤ 8) (h4 : c4 ≤ 8) (h5 : c5 ≤ 8) (h6 : c6 ≤ 8) (h7 : c7 ≤ 8) :
    mod128 (pc4 (pc4 (pc4 (c0 + 256 * (c1 + 256 * (c2 + 256 * (c3 + 256 * (c4 + 256 * (c5 + 256 * (c6 + 256 * (c7 + 256 * 0)))))))) 8) 16) 32) = c0 + (c1 + (c2 + (c3 + (c4 + (c5 + (c6 + (c7 + 0))))))) := by
  have lt8 : ∀ a b c d e f g h : Nat, a < 256 → b < 256 → c < 256 → d < 256 → e < 256 → f < 256 → g < 256 → h < 256 → (a + 256 * (b + 256 * (c + 256 * (d + 256 * (e + 256 * (f + 256 * (g + 256 * h))))))) < 18446744073709551616 := by
    intro a b c d e f g h ha hb hc hd he hf hg hh
    have := lt_nest _ _ _ ha (lt_nest _ _ _ hb (lt_nest _ _ _ hc (lt_nest _ _ _ hd (lt_nest _ _ _ he (lt_nest _ _ _ hf (lt_nest _ _ _ hg hh))))))
    simpa using this
  rw [q8, div_nest _ _ (by omega)]
  have e1 : (c0 + 256 * (c1 + 256 * (c2 + 256 * (c3 + 256 * (c4 + 256 * (c5 + 256 * (c6 + 256 * (c7 + 256 * 0)))))))) + (c1 + 256 * (c2 + 256 * (c3 + 256 * (c4 + 256 * (c5 + 256 * (c6 + 256 * (c7 + 256 * 0))))))) = ((c0 + c1) + 256 * ((c1 + c2) + 256 * ((c2 + c3) + 256 * ((c3 + c4) + 256 * ((c4 + c5) + 256 * ((c5 + c6) + 256 * ((c6 + c7) + 256 * c7))))))) := by omega
  rw [e1, Nat.mod_eq_of_lt (lt8 _ _ _ _ _ _ _ _ (by omega) (by omega) (by omega) (by omega) (by omega) (by omega) (by omega) (by omega)), q16, div_65536, div_nest _ _ (by omega), div_nest _ _ (by omega)]
  have e2 : ((c0 + c1) + 256 * ((c1 + c2) + 256 * ((c2 + c3) + 256 * ((c3 + c4) + 256 * ((c4 + c5) + 256 * ((c5 + c6) + 256 * ((c6 + c7) + 256 * c7))))))) + ((c2 + c3) + 256 * ((c3 + c4) + 256 * ((c4 + c5) + 256 * ((c5 + c6) + 256 * ((c6 + c7) + 256 * c7))))) = (((c0 + c1) + (c2 + c3)) + 256 * (((c1 + c2) + (c3 + c4)) + 256 * (((c2 + c3) + (c4 + c5)) + 256 * (((c3 + c4) + (c5 + c6)) + 256 * (((c4 + c5) + (c6 + c7)) + 256 * (((c5 + c6) + c7) + 256 * ((c6 + c7) + 256 * c7))))))) := by omega
  rw [e2, Nat.mod_eq_of_lt (lt8 _ _ _ _ _ _ _ _ (by omega) (by omega) (by omega) (by omega) (by omega) (by omega) (by omega) (by omega)), q32, div_2p32, div_nest _ _ (by omega), div_nest _ _ (by omega), div_nest _ _ (by omega), div_nest _ _ (by omega)]
  have e3 : (((c0 + c1) + (c2 + c3)) + 256 * (((c1 + c2) + (c3 + c4)) + 256 * (((c2 + c3) + (c4 + c5)) + 256 * (((c3 + c4) + (c5 + c6)) + 256 * (((c4 + c5) + (c6 + c7)) + 256 * (((c5 + c6) + c7) + 256 * ((c6 + c7) + 256 * c7))))))) + (((c4 + c5) + (c6 + c7)) + 256 * (((c5 + c6) + c7) + 256 * ((c6 + c7) + 256 * c7))) = ((((c0 + c1) + (c2 + c3)) + ((c4 + c5) + (c6 + c7))) + 256 * ((((c1 + c2) + (c3 + c4)) + ((c5 + c6) + c7)) + 256 * ((((c2 + c3) + (c4 + c5)) + (c6 + c7)) + 256 * ((((c3 + c4) + (c5 + c6)) + c7) + 256 * (((c4 + c5) + (c6 + c7)) + 256 * (((c5 + c6) + c7) + 256 * ((c6 + c7) + 256 * c7))))))) := by omega
  rw [e3, Nat.mod_eq_of_lt (lt8 _ _ _ _ _ _ _ _ (by omega) (by omega) (by omega) (by omega) (by omega) (by omega) (by omega) (by omega))]
  rw [mod_nest]
  omega
theorem popF_cnt (x : Nat) : popF x = cnt 64 x := by
  have h1 : pc1 x = s1 8 x := by
    have := (s12_nib 8 x).2.2
    unfold pc1 addW s1 shrN at *
    rw [mask_m0] at *
    rw [Nat.shiftRight_eq_div_pow, Nat.pow_one]
    exact Nat.mod_eq_of_lt (by simpa using this)
  have h2 : pc2 (pc1 x) = s2 8 (s1 8 x) := by
    have := (s12_nib 8 x).2.1
    rw [h1]
    generalize s1 8 x = y at *
    unfold pc2 addW s2 shrN at *
    rw [mask_m1] at *
    rw [Nat.shiftRight_eq_div_pow]
    exact Nat.mod_eq_of_lt (by
      have e : (256 : Nat) ^ 8 = 18446744073709551616 := by decide
      rw [e] at this
      have e2 : y / 2 ^ 2 = y / 4 := rfl
      rw [e2]
      omega)
  have h3 : pc3 (pc2 (pc1 x)) = gg 8 x := by
    have := (s12_nib 8 x).2.1
    rw [h2]
    unfold gg
    generalize s2 8 (s1 8 x) = y at *
    unfold pc3 addW s3 shrN
    rw [mask_m2, Nat.shiftRight_eq_div_pow]
    congr 1
    have e : (256 : Nat) ^ 8 = 18446744073709551616 := by decide
    rw [e] at this
    exact Nat.mod_eq_of_lt (by
      have e2 : y / 2 ^ 4 = y / 16 := rfl
      rw [e2]
      omega)
  have h4 : cnt 64 x = cnt 8 (x % 256) + (cnt 8 (x / 256 % 256) + (cnt 8 (x / 256 / 256 % 256) + (cnt 8 (x / 256 / 256 / 256 % 256) + (cnt 8 (x / 256 / 256 / 256 / 256 % 256) + (cnt 8 (x / 256 / 256 / 256 / 256 / 256 % 256) +
      (cnt 8 (x / 256 / 256 / 256 / 256 / 256 / 256 % 256) + (cnt 8 (x / 256 / 256 / 256 / 256 / 256 / 256 / 256 % 256) + 0))))))) := by
    rw [show 64 = 8 + (8 + (8 + (8 + (8 + (8 + (8 + (8 + 0))))))) from rfl, cnt_step, cnt_step, cnt_step, cnt_step, cnt_step, cnt_step, cnt_step, cnt_step]
    rfl
  unfold popF
  rw [h3, h4]
  have hg : gg 8 x = cnt 8 (x % 256) + 256 * (cnt 8 (x / 256 % 256) + 256 * (cnt 8 (x / 256 / 256 % 256) + 256 * (cnt 8 (x / 256 / 256 / 256 % 256) + 256 * (cnt 8 (x / 256 / 256 / 256 / 256 % 256) + 256 * (cnt 8 (x / 256 / 256 / 256 / 256 / 256 % 256) +
      256 * (cnt 8 (x / 256 / 256 / 256 / 256 / 256 / 256 % 256) + 256 * (cnt 8 (x / 256 / 256 / 256 / 256 / 256 / 256 / 256 % 256) + 256 * 0))))))) := by
    rw [gg_step, gg_step, gg_step, gg_step, gg_step, gg_step, gg_step, gg_step, gg_zero]
  rw [hg]
  exact fold8 _ _ _ _ _ _ _ _ (cnt_le8 _) (cnt_le8 _) (cnt_le8 _) (cnt_le8 _) (cnt_le8 _) (cnt_le8 _) (cnt_le8 _) (cnt_le8 _)
end Go.Proofs.Ytilofhocodbknaa
