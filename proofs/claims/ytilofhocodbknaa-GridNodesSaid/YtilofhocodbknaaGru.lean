/- Floating-point numbers that are not whole, in plain Lean: order, what lies below, less one. -/
import Derived.Test.YtilofhocodbknaaGra
namespace Go.Proofs.Ytilofhocodbknaa
set_option linter.unusedVariables false
set_option linter.unusedSimpArgs false
open Go Go.Kx Go.Proofs

/-- A word that stands for m / 2 ^ t. -/
def Val (w m t : Nat) : Prop := ∃ m' p, Ieee.double.read w = .number false m' p ∧ p ≤ 0 ∧ m' * 2 ^ t = m * 2 ^ (-p).toNat
theorem Rep.val {w n : Nat} (h : Rep w n) : Val w n 0 := by
  obtain ⟨m, p, h1, h2, h3⟩ := h
  exact ⟨m, p, h1, h2, by rw [h3]; simp⟩
theorem Val.rep {w n : Nat} (h : Val w n 0) : Rep w n := by
  obtain ⟨m, p, h1, h2, h3⟩ := h
  exact ⟨m, p, h1, h2, by simpa using h3⟩
theorem val_of {w m : Nat} {p : Int} (h : Ieee.double.read w = .number false m p) (hp : p ≤ 0) : Val w m (-p).toNat := ⟨m, p, h, hp, rfl⟩
theorem cmp_scale (a b k : Nat) (hk : 0 < k) : compare (a * k) (b * k) = compare a b := by
  rcases Nat.lt_trichotomy a b with h | h | h
  · rw [Nat.compare_eq_lt.2 h, Nat.compare_eq_lt.2 (Nat.mul_lt_mul_of_pos_right h hk)]
  · rw [h, Nat.compare_eq_eq.2 rfl, Nat.compare_eq_eq.2 rfl]
  · rw [Nat.compare_eq_gt.2 h, Nat.compare_eq_gt.2 (Nat.mul_lt_mul_of_pos_right h hk)]
theorem cmp_cast (a b : Nat) : compare (a : Int) (b : Int) = compare a b := by
  rcases Nat.lt_trichotomy a b with h | h | h
  · rw [Nat.compare_eq_lt.2 h]; exact Int.compare_eq_lt.2 (by omega)
  · rw [h, Nat.compare_eq_eq.2 rfl]; exact Int.compare_eq_eq.2 rfl
  · rw [Nat.compare_eq_gt.2 h]; exact Int.compare_eq_gt.2 (by omega)
theorem order_val {x y m t n u : Nat} (hx : Val x m t) (hy : Val y n u) : Ieee.double.order x y = some (compare (m * 2 ^ u) (n * 2 ^ t)) := by
  obtain ⟨a, p, h1, h2, h3⟩ := hx
  obtain ⟨b, q, k1, k2, k3⟩ := hy
  unfold Ieee.Format.order
  rw [h1, k1]
  simp only [Ieee.Datum.order]
  rw [signed_pos, signed_pos, cmp_cast]
  congr 1
  -- both sides times 2 ^ (t + u)
  have hpos := Nat.two_pow_pos (t + u)
  have hposb := Nat.two_pow_pos (-(min p q)).toNat
  rw [← cmp_scale _ _ (2 ^ (t + u)) hpos, ← cmp_scale (m * 2 ^ u) (n * 2 ^ t) (2 ^ (-(min p q)).toNat) hposb]
  have e1 : a * 2 ^ (p - min p q).toNat * 2 ^ (t + u) = m * 2 ^ u * 2 ^ (-(min p q)).toNat := by
    calc a * 2 ^ (p - min p q).toNat * 2 ^ (t + u) = (a * 2 ^ t) * (2 ^ u * 2 ^ (p - min p q).toNat) := by rw [Nat.pow_add]; ac_rfl
      _ = m * 2 ^ u * (2 ^ (-p).toNat * 2 ^ (p - min p q).toNat) := by rw [h3]; ac_rfl
      _ = m * 2 ^ u * 2 ^ (-(min p q)).toNat := by rw [← Nat.pow_add]; congr 2; omega
  have e2 : b * 2 ^ (q - min p q).toNat * 2 ^ (t + u) = n * 2 ^ t * 2 ^ (-(min p q)).toNat := by
    calc b * 2 ^ (q - min p q).toNat * 2 ^ (t + u) = (b * 2 ^ u) * (2 ^ t * 2 ^ (q - min p q).toNat) := by rw [Nat.pow_add]; ac_rfl
      _ = n * 2 ^ t * (2 ^ (-q).toNat * 2 ^ (q - min p q).toNat) := by rw [k3]; ac_rfl
      _ = n * 2 ^ t * 2 ^ (-(min p q)).toNat := by rw [← Nat.pow_add]; congr 2; omega
  rw [e1, e2]
/-- What a word's number is like. -/
theorem read_num {w m : Nat} {s : Bool} {p : Int} (h : Ieee.double.read w = .number s m p) : -1074 ≤ p ∧ m < 2 ^ 53 ∧ (p ≠ -1074 → 2 ^ 52 ≤ m) := by
  unfold Ieee.Format.read at h
  simp only [dBinade, dInf, dSign, dLeast] at h
  split at h
  · cases h
    exact ⟨by omega, by omega, fun h => absurd rfl h⟩
  · split at h
    · cases h
      have := Nat.mod_lt (w % 9223372036854775808) (show 0 < 4503599627370496 by omega)
      exact ⟨by omega, by omega, fun _ => by omega⟩
    · split at h <;> cases h
theorem log_pow {N k : Nat} (h : 0 < N) : (N * 2 ^ k).log2 = N.log2 + k := by
  have hN := Nat.two_pow_pos k
  have h0 : N * 2 ^ k ≠ 0 := by have := Nat.mul_pos h hN; omega
  refine (Nat.log2_eq_iff h0).2 ⟨?_, ?_⟩
  · rw [Nat.pow_add]; exact Nat.mul_le_mul_right _ (Nat.log2_self_le (by omega))
  · rw [show N.log2 + k + 1 = N.log2 + 1 + k by omega, Nat.pow_add (m := N.log2 + 1)]
    exact Nat.mul_lt_mul_of_pos_right Nat.lt_log2_self hN
theorem cut_even {N d : Nat} (h : 0 < N) (k : Nat) (hd : d ≤ k) : Ieee.Toward.even.cut false (N * 2 ^ k) d = N * 2 ^ (k - d) := by
  have hlog := log_pow (k := k) h
  unfold Ieee.Toward.cut
  simp only
  rw [Nat.min_eq_left (by omega), Nat.one_shiftLeft]
  have hp := Nat.two_pow_pos d
  have e : N * 2 ^ k = N * 2 ^ (k - d) * 2 ^ d := by rw [Nat.mul_assoc, ← Nat.pow_add]; congr 2; omega
  rw [e, Nat.mul_mod_left, Nat.mul_div_cancel _ hp]
  have h1 : decide (2 ^ d < 2 * 0) = false := by simp
  have h2 : (2 ^ d == 2 * 0) = false := by simp
  rw [h1, h2]
  simp
/-- A number that the format has is written as it is. -/
theorem near_exact {N' k : Nat} {p : Int} (h0 : 0 < N') (h53 : N' < 2 ^ 53) (hlo : -1074 ≤ p + k) (hhi : p + k ≤ 0) : Val (Ieee.double.nearest false (N' * 2 ^ k) p) N' (-(p + k)).toNat := by
  have hlog := log_pow (k := k) h0
  have hl52 : N'.log2 ≤ 52 := by have := (Nat.log2_lt (by omega)).2 h53; omega
  have hN : N' * 2 ^ k ≠ 0 := by have := Nat.mul_pos h0 (Nat.two_pow_pos k); omega
  have hself := Nat.log2_self_le (n := N') (by omega)
  have hlt := Nat.lt_log2_self (n := N')
  unfold Ieee.Format.nearest
  rw [if_neg hN]
  simp only [dFrac, dLeast, dBinade, dInf, hlog]
  generalize hL : max (p + ((N'.log2 + k : Nat) : Int) - ((52 : Nat) : Int)) (-1074) = last
  have hle : last ≤ p + k := by omega
  have hge : -1074 ≤ last := by omega
  obtain ⟨c, hc⟩ : ∃ c : Nat, (c : Int) = p + k - last := ⟨(p + k - last).toNat, by omega⟩
  have hkept : Ieee.Toward.even.cut false ((N' * 2 ^ k) <<< (p - last).toNat) (last - p).toNat = N' * 2 ^ c := by
    by_cases h : last ≤ p
    · rw [show (last - p).toNat = 0 by omega, cut0, Nat.shiftLeft_eq, Nat.mul_assoc, ← Nat.pow_add]
      congr 2; omega
    · rw [show (p - last).toNat = 0 by omega, Nat.shiftLeft_zero, cut_even h0 k (by omega)]
      congr 2; omega
  rw [hkept]
  obtain ⟨u, hu⟩ : ∃ u : Nat, (u : Int) = last - (-1074) := ⟨(last - (-1074)).toNat, by omega⟩
  rw [show (last - (-1074)).toNat = u by omega]
  have hcl : c + N'.log2 ≤ 52 := by omega
  have hup : N' * 2 ^ c < 9007199254740992 := by
    have h1 := Nat.mul_lt_mul_of_pos_right hlt (Nat.two_pow_pos c)
    rw [← Nat.pow_add] at h1
    have h2 : 2 ^ (N'.log2 + 1 + c) ≤ 2 ^ 53 := Nat.pow_le_pow_right (by omega) (by omega)
    omega
  have hu74 : u ≤ 1074 := by omega
  have hrung : u * 4503599627370496 + N' * 2 ^ c < 9218868437227405312 := by
    have : u * 4503599627370496 ≤ 1074 * 4503599627370496 := Nat.mul_le_mul_right _ hu74
    omega
  rw [Nat.min_eq_left (by omega)]
  have hw : Ieee.double.word false (u * 4503599627370496 + N' * 2 ^ c) = u * 4503599627370496 + N' * 2 ^ c := rfl
  rw [hw]
  have hread : Ieee.double.read (u * 4503599627370496 + N' * 2 ^ c) = .number false (N' * 2 ^ c) last := by
    by_cases h52 : 4503599627370496 ≤ N' * 2 ^ c
    · have hd : ∃ d : Nat, (-1074 : Int) + u = -(d : Int) := ⟨(-last).toNat, by omega⟩
      obtain ⟨d, hd⟩ := hd
      have := read_gen Ieee.double (N := N' * 2 ^ c) (u := u) (b := 4503599627370496) (d := d) (L := -1074) dBinade dLeast h52 (by omega) (by rw [dInf]; omega) (by rw [dSign]; omega) hd
      rw [this]
      congr 1; omega
    · have hu0 : u = 0 := by
        rcases Nat.eq_zero_or_pos u with h | h
        · exact h
        · exfalso
          have hcl2 : c + N'.log2 = 52 := by omega
          have h1 := Nat.mul_le_mul_right (2 ^ c) hself
          rw [← Nat.pow_add, show N'.log2 + c = 52 by omega] at h1
          omega
      subst hu0
      unfold Ieee.Format.read
      simp only [dBinade, dInf, dSign, dLeast, Nat.zero_mul, Nat.zero_add]
      rw [Nat.mod_eq_of_lt (by omega), Nat.div_eq_of_lt (by omega), if_pos (by omega)]
      congr 1; omega
  refine ⟨_, _, hread, by omega, ?_⟩
  rw [Nat.mul_assoc, ← Nat.pow_add]
  congr 2; omega
theorem rep_add {x y a b : Nat} (hx : Rep x a) (hy : Rep y b) (hab : a + b < 2 ^ 53) : ∃ z, Ieee.double.add x y = some z ∧ Rep z (a + b) := by
  obtain ⟨m, p, h1, h2, h3⟩ := hx
  obtain ⟨n, q, k1, k2, k3⟩ := hy
  unfold Ieee.Format.add
  rw [h1, k1]
  simp only [Ieee.Datum.sum, Option.map_some]
  have e1 : m * 2 ^ (p - min p q).toNat = a * 2 ^ (-(min p q)).toNat := by
    rw [h3, Nat.mul_assoc, ← Nat.pow_add]; congr 2; omega
  have e2 : n * 2 ^ (q - min p q).toNat = b * 2 ^ (-(min p q)).toNat := by
    rw [k3, Nat.mul_assoc, ← Nat.pow_add]; congr 2; omega
  rw [signed_pos, signed_pos, e1, e2]
  have hmin : min p q ≤ 0 := by omega
  generalize min p q = c at hmin
  have e3 : ((a * 2 ^ (-c).toNat : Nat) : Int) + ((b * 2 ^ (-c).toNat : Nat) : Int) = (((a + b) * 2 ^ (-c).toNat : Nat) : Int) := by rw [Nat.add_mul]; omega
  rw [e3]
  refine ⟨_, rfl, ?_⟩
  rw [Int.natAbs_natCast]
  rcases Nat.eq_zero_or_pos (a + b) with h0 | h0
  · rw [h0, Nat.zero_mul]
    exact rep_fl0
  · have hne : ¬ ((((a + b) * 2 ^ (-c).toNat : Nat) : Int) = 0) := by have := Nat.mul_pos h0 (Nat.two_pow_pos (-c).toNat); omega
    have hnn : decide ((((a + b) * 2 ^ (-c).toNat : Nat) : Int) < 0) = false := by rw [decide_eq_false]; omega
    rw [if_neg hne, hnn]
    have := near_exact (N' := a + b) (k := (-c).toNat) (p := c) h0 hab (by omega) (by omega)
    rw [show (-(c + ((-c).toNat : Int))).toNat = 0 by omega] at this
    exact this.rep
theorem read_one : Ieee.double.read 4607182418800017408 = .number false 4503599627370496 (-52) := by decide
theorem read_zero : Ieee.double.read 0 = .number false 0 (-1074) := by decide
/-- Of what is negative the word is, too. -/
theorem near_neg {N : Nat} {p : Int} (h : 0 < N) (hp : -1074 ≤ p) : Ieee.double.order 0 (Ieee.double.nearest true N p) = some .gt := by
  unfold Ieee.Format.nearest
  rw [if_neg (by omega)]
  simp only [dFrac, dLeast, dBinade, dInf]
  generalize hL : max (p + (N.log2 : Int) - ((52 : Nat) : Int)) (-1074) = last
  generalize hk : Ieee.Toward.even.cut true (N <<< (p - last).toNat) (last - p).toNat = kept
  have hpos : 0 < (last - (-1074)).toNat * 4503599627370496 + kept := by
    by_cases h1 : last = -1074
    · have : (last - p).toNat = 0 := by omega
      rw [this] at hk
      have e : Ieee.Toward.even.cut true (N <<< (p - last).toNat) 0 = N <<< (p - last).toNat := by simp [Ieee.Toward.cut, Nat.mod_one]
      rw [e, Nat.shiftLeft_eq] at hk
      have := Nat.mul_pos h (Nat.two_pow_pos (p - last).toNat)
      omega
    · have h2 : 0 < (last - (-1074)).toNat := by omega
      generalize (last - (-1074)).toNat = v at h2 ⊢
      omega
  generalize hr : min ((last - (-1074)).toNat * 4503599627370496 + kept) 9218868437227405312 = rung
  have hr0 : 0 < rung := by omega
  have hr1 : rung ≤ 9218868437227405312 := by omega
  have hw : Ieee.double.word true rung = 9223372036854775808 + rung := by show Ieee.double.signWeight + rung = _; rw [dSign]
  rw [hw]
  have hread : (∃ m q, 0 < m ∧ Ieee.double.read (9223372036854775808 + rung) = .number true m q) ∨ Ieee.double.read (9223372036854775808 + rung) = .infinity true := by
    unfold Ieee.Format.read
    simp only [dBinade, dInf, dSign, dLeast]
    have m1 : (9223372036854775808 + rung) / 9223372036854775808 = 1 := by omega
    have m2 : (9223372036854775808 + rung) % 9223372036854775808 = rung := by omega
    rw [m1, m2]
    split
    · exact .inl ⟨_, _, hr0, rfl⟩
    · split
      · exact .inl ⟨_, _, by omega, rfl⟩
      · rw [if_pos (by omega)]
        exact .inr rfl
  unfold Ieee.Format.order
  rw [read_zero]
  rcases hread with ⟨m, q, hm, e⟩ | e
  · rw [e]
    simp only [Ieee.Datum.order]
    congr 1
    rw [signed_pos, Nat.zero_mul]
    have hs : Ieee.signed true m (q - min (-1074) q).toNat = -((m * 2 ^ (q - min (-1074) q).toNat : Nat) : Int) := by simp only [Ieee.signed, Nat.shiftLeft_eq]; rfl
    rw [hs]
    have := Nat.mul_pos hm (Nat.two_pow_pos (q - min (-1074) q).toNat)
    exact Int.compare_eq_gt.2 (by omega)
  · rw [e]; rfl
theorem toInt_val {m : Nat} {p : Int} (hp : p ≤ 0) : (Ieee.Datum.number false m p).toInt .zero = some ((m / 2 ^ (-p).toNat : Nat) : Int) := by
  simp only [Ieee.Datum.toInt, Ieee.Datum.integral]
  have e1 : p.toNat = 0 := by omega
  rw [e1, Nat.shiftLeft_zero, signed_pos, Nat.pow_zero, Nat.mul_one]
  congr 2
  generalize (-p).toNat = t
  simp only [Ieee.Toward.cut, Bool.toNat_false, Nat.add_zero]
  rw [Nat.one_shiftLeft]
  by_cases h : t ≤ m.log2 + 2
  · rw [Nat.min_eq_left h]
  · rw [Nat.min_eq_right (by omega)]
    have hlt := Nat.lt_log2_self (n := m)
    have h1 : m < 2 ^ (m.log2 + 2) := Nat.lt_of_lt_of_le hlt (Nat.pow_le_pow_right (by omega) (by omega))
    have h2 : m < 2 ^ t := Nat.lt_of_lt_of_le hlt (Nat.pow_le_pow_right (by omega) (by omega))
    rw [Nat.div_eq_of_lt h1, Nat.div_eq_of_lt h2]
theorem signed_neg (m k : Nat) : Ieee.signed true m k = -((m * 2 ^ k : Nat) : Int) := by
  simp only [Ieee.signed, Nat.shiftLeft_eq]; rfl
theorem pos_cases {w : Nat} (h : Ieee.double.order w 0 = some .gt) : Ieee.double.read w = .infinity false ∨ ∃ m p, Ieee.double.read w = .number false m p ∧ 0 < m := by
  unfold Ieee.Format.order at h
  rw [read_zero] at h
  cases hr : Ieee.double.read w with
  | nan s f => rw [hr] at h; cases h
  | infinity s =>
    rw [hr] at h
    cases s with
    | false => exact .inl rfl
    | true => cases h
  | number s m p =>
    rw [hr] at h
    simp only [Ieee.Datum.order, Option.some.injEq] at h
    rw [signed_pos, Nat.zero_mul] at h
    have h := Int.compare_eq_gt.1 h
    refine .inr ⟨m, p, ?_⟩
    cases s with
    | false =>
      rw [signed_pos] at h
      refine ⟨rfl, ?_⟩
      rcases Nat.eq_zero_or_pos m with e | e
      · subst e; simp at h
      · exact e
    | true =>
      rw [signed_neg] at h
      omega
theorem order_pos {w m : Nat} {p : Int} (h : Ieee.double.read w = .number false m p) (hm : 0 < m) : Ieee.double.order w 0 = some .gt := by
  unfold Ieee.Format.order
  rw [read_zero, h]
  simp only [Ieee.Datum.order]
  rw [signed_pos, signed_pos, Nat.zero_mul]
  congr 1
  have := Nat.mul_pos hm (Nat.two_pow_pos (p - min p (-1074)).toNat)
  exact Int.compare_eq_gt.2 (by omega)
theorem flB : fl 1048576 = 4697254411347427328 := by decide
theorem valB : Val 4697254411347427328 1048576 0 := by
  have := rep_flI (n := 1048576) (by omega) (by omega)
  rw [flB] at this
  exact this.val
theorem read_B : Ieee.double.read 4697254411347427328 = .number false 4503599627370496 (-32) := by decide
theorem order_B {w m : Nat} {p : Int} (h : Ieee.double.read w = .number false m p) (hp : p ≤ 0) : Ieee.double.order w 4697254411347427328 = some (compare m (1048576 * 2 ^ (-p).toNat)) := by
  have := order_val (val_of h hp) valB
  rwa [Nat.pow_zero, Nat.mul_one] at this
theorem small_place {w m : Nat} {p : Int} (h : Ieee.double.read w = .number false m p) (hB : Ieee.double.order w 4697254411347427328 ≠ some .gt) : p ≤ 0 := by
  obtain ⟨h1, h2, h3⟩ := read_num h
  by_cases hp : p ≤ 0
  · exact hp
  · exfalso
    refine hB ?_
    have h52 := h3 (by omega)
    unfold Ieee.Format.order
    rw [read_B, h]
    simp only [Ieee.Datum.order]
    rw [signed_pos, signed_pos]
    congr 1
    have hmin : min p (-32) = -32 := by omega
    rw [hmin]
    have : (-32 - (-32) : Int).toNat = 0 := by omega
    rw [this, Nat.pow_zero, Nat.mul_one]
    have h4 : 2 ^ 1 ≤ 2 ^ (p - -32).toNat := Nat.pow_le_pow_right (by omega) (by omega)
    have h5 : m * 2 ^ 1 ≤ m * 2 ^ (p - -32).toNat := Nat.mul_le_mul_left m h4
    exact Int.compare_eq_gt.2 (by omega)
/-- Less one. -/
theorem sub_one {w m : Nat} {p : Int} (h : Ieee.double.read w = .number false m p) (hm : 0 < m) (hp : p ≤ 0) (hlt : m < 1048576 * 2 ^ (-p).toNat) :
    ∃ r, Ieee.double.sub w 4607182418800017408 = some r ∧ Ieee.double.order (fl ((m / 2 ^ (-p).toNat : Nat) : Int)) r = some .gt := by
  obtain ⟨hlo, h53, hn⟩ := read_num h
  unfold Ieee.Format.sub
  rw [h, read_one]
  simp only [Ieee.Datum.opposite, Bool.not_false, Ieee.Datum.sum, Option.map_some]
  obtain ⟨t, ht⟩ : ∃ t : Nat, p = -(t : Int) := ⟨(-p).toNat, by omega⟩
  subst ht
  have e0 : (-(-(t : Int))).toNat = t := by omega
  rw [e0] at hlt ⊢
  have hpt := Nat.two_pow_pos t
  refine ⟨_, rfl, ?_⟩
  rw [signed_pos, signed_neg]
  by_cases hsm : m < 2 ^ t
  · rw [Nat.div_eq_of_lt hsm]
    have hb : min (-(t : Int)) (-52) = -((max t 52 : Nat) : Int) := by omega
    rw [hb]
    have e1 : (-(t : Int) - -((max t 52 : Nat) : Int)).toNat = max t 52 - t := by omega
    have e2 : ((-52 : Int) - -((max t 52 : Nat) : Int)).toNat = max t 52 - 52 := by omega
    rw [e1, e2]
    have e3 : (4503599627370496 : Nat) * 2 ^ (max t 52 - 52) = 2 ^ max t 52 := by
      rw [show (4503599627370496 : Nat) = 2 ^ 52 by decide, ← Nat.pow_add]; congr 1; omega
    rw [e3]
    have e4 : m * 2 ^ (max t 52 - t) < 2 ^ max t 52 := by
      have := Nat.mul_lt_mul_of_pos_right hsm (Nat.two_pow_pos (max t 52 - t))
      rw [← Nat.pow_add, show t + (max t 52 - t) = max t 52 by omega] at this
      exact this
    generalize m * 2 ^ (max t 52 - t) = a at e4
    generalize 2 ^ max t 52 = b at e4
    rw [if_neg (by omega), decide_eq_true (by omega)]
    have : fl ((0 : Nat) : Int) = 0 := by decide
    rw [this]
    exact near_neg (by omega) (by omega)
  · have ht52 : t ≤ 52 := by
      rcases Nat.lt_or_ge 52 t with h1 | h1
      · exfalso
        have : 2 ^ 53 ≤ 2 ^ t := Nat.pow_le_pow_right (by omega) (by omega)
        omega
      · exact h1
    have hb : min (-(t : Int)) (-52) = -52 := by omega
    rw [hb]
    have e1 : (-(t : Int) - -52).toNat = 52 - t := by omega
    have e2 : ((-52 : Int) - -52).toNat = 0 := by omega
    rw [e1, e2, Nat.pow_zero, Nat.mul_one]
    have e3 : (4503599627370496 : Nat) = 2 ^ t * 2 ^ (52 - t) := by
      rw [← Nat.pow_add, show t + (52 - t) = 52 by omega]
    have e4 : ((m * 2 ^ (52 - t) : Nat) : Int) + -((4503599627370496 : Nat) : Int) = (((m - 2 ^ t) * 2 ^ (52 - t) : Nat) : Int) := by
      have e5 : m * 2 ^ (52 - t) = (m - 2 ^ t) * 2 ^ (52 - t) + 2 ^ t * 2 ^ (52 - t) := by rw [← Nat.add_mul, Nat.sub_add_cancel (by omega)]
      rw [e5, ← e3]
      omega
    rw [e4, Int.natAbs_natCast]
    have hq1 : 1 ≤ m / 2 ^ t := (Nat.le_div_iff_mul_le hpt).2 (by omega)
    have hq2 : m / 2 ^ t < 1048576 := (Nat.div_lt_iff_lt_mul hpt).2 hlt
    have hrep := rep_flI (n := ((m / 2 ^ t : Nat) : Int)) (by omega) (by omega)
    rw [Int.toNat_natCast] at hrep
    rcases Nat.eq_zero_or_pos (m - 2 ^ t) with h0 | h0
    · rw [h0, Nat.zero_mul]
      have hz : Ieee.double.write (.number (if (((0 : Nat) : Int)) = 0 then (false && true) else decide (((0 : Nat) : Int) < 0)) 0 (-52)) = 0 := by decide
      rw [hz]
      have := order_val hrep.val rep_fl0.val
      rw [this]
      congr 1
      exact Nat.compare_eq_gt.2 (by omega)
    · have hpos := Nat.mul_pos h0 (Nat.two_pow_pos (52 - t))
      have hne : ¬ ((((m - 2 ^ t) * 2 ^ (52 - t) : Nat) : Int) = 0) := by omega
      have hnn : decide ((((m - 2 ^ t) * 2 ^ (52 - t) : Nat) : Int) < 0) = false := by rw [decide_eq_false]; omega
      rw [if_neg hne, hnn]
      have hv := near_exact (N' := m - 2 ^ t) (k := 52 - t) (p := -52) h0 (by omega) (by omega) (by omega)
      rw [show (-((-52 : Int) + ((52 - t : Nat) : Int))).toNat = t by omega] at hv
      have := order_val hrep.val hv
      show Ieee.double.order _ (Ieee.double.nearest false _ _) = _
      rw [this]
      congr 1
      refine Nat.compare_eq_gt.2 ?_
      rw [Nat.pow_zero, Nat.mul_one]
      have h1 := Nat.div_add_mod m (2 ^ t)
      have h2 := Nat.mod_lt m hpt
      rw [Nat.mul_comm (2 ^ t)] at h1
      omega
def wholeI (w : Nat) : Int := if Ieee.double.order w 0 = some .gt then (if Ieee.double.order w 4697254411347427328 = some .gt then 1048576 else ((FloatKind.f64.decode w).toInt .zero).getD 0) else 0
theorem wholeI_mid {w : Nat} (h0 : Ieee.double.order w 0 = some .gt) (hB : Ieee.double.order w 4697254411347427328 ≠ some .gt) :
    ∃ m p, Ieee.double.read w = .number false m p ∧ 0 < m ∧ p ≤ 0 ∧ m ≤ 1048576 * 2 ^ (-p).toNat ∧ wholeI w = ((m / 2 ^ (-p).toNat : Nat) : Int) ∧ (FloatKind.f64.decode w).toInt .zero = some (wholeI w) ∧ 0 ≤ wholeI w ∧ wholeI w ≤ 1048576 := by
  rcases pos_cases h0 with h | ⟨m, p, h, hm⟩
  · exfalso
    refine hB ?_
    unfold Ieee.Format.order
    rw [h, read_B]; rfl
  · have hp := small_place h hB
    rw [order_B h hp] at hB
    have hle : m ≤ 1048576 * 2 ^ (-p).toNat := by
      rcases Nat.lt_or_ge (1048576 * 2 ^ (-p).toNat) m with h1 | h1
      · exact absurd (congrArg some (Nat.compare_eq_gt.2 h1)) hB
      · exact h1
    have hd : FloatKind.f64.decode w = .number false m p := h
    have hw : wholeI w = ((m / 2 ^ (-p).toNat : Nat) : Int) := by
      unfold wholeI
      rw [if_pos h0, order_B h hp, if_neg hB, hd, toInt_val hp]; rfl
    have hq : m / 2 ^ (-p).toNat ≤ 1048576 := by
      have := Nat.div_le_div_right (c := 2 ^ (-p).toNat) hle
      rwa [Nat.mul_div_cancel _ (Nat.two_pow_pos _)] at this
    refine ⟨m, p, h, hm, hp, hle, hw, ?_, by rw [hw]; exact Int.natCast_nonneg _, by rw [hw]; exact Int.ofNat_le.2 hq⟩
    rw [hd, toInt_val hp, hw]
def okI (n : Int) : Prop := 0 ≤ n ∧ n ≤ 1048576
theorem wholeI_ok (w : Nat) : okI (wholeI w) := by
  unfold okI
  by_cases h0 : Ieee.double.order w 0 = some .gt
  · by_cases hB : Ieee.double.order w 4697254411347427328 = some .gt
    · have : wholeI w = 1048576 := by unfold wholeI; rw [if_pos h0, if_pos hB]
      omega
    · obtain ⟨_, _, _, _, _, _, _, _, h1, h2⟩ := wholeI_mid h0 hB
      exact ⟨h1, h2⟩
  · have : wholeI w = 0 := by unfold wholeI; rw [if_neg h0]
    omega
theorem wholeI_zero {w : Nat} (h0 : Ieee.double.order w 0 ≠ some .gt) : wholeI w = 0 := by unfold wholeI; rw [if_neg h0]
theorem wholeI_self {w : Nat} (h : Ieee.double.order w w ≠ some .eq) : wholeI w = 0 := by
  refine wholeI_zero fun h0 => h ?_
  unfold Ieee.Format.order
  rcases pos_cases h0 with e | ⟨m, p, e, _⟩
  · rw [e]; rfl
  · rw [e]
    simp only [Ieee.Datum.order]
    congr 1
    exact Int.compare_eq_eq.2 rfl
theorem pos_of_B {w : Nat} (h : Ieee.double.order w 4697254411347427328 = some .gt ∨ Ieee.double.order w 4697254411347427328 = some .eq) : Ieee.double.order w 0 = some .gt := by
  have h' := h
  unfold Ieee.Format.order at h
  rw [read_B] at h
  cases hr : Ieee.double.read w with
  | nan s f => rw [hr] at h; rcases h with h | h <;> cases h
  | infinity s =>
    rw [hr] at h
    cases s with
    | true => rcases h with h | h <;> cases h
    | false =>
      unfold Ieee.Format.order
      rw [hr, read_zero]; rfl
  | number s m p =>
    rw [hr] at h
    simp only [Ieee.Datum.order, Option.some.injEq] at h
    rw [signed_pos 4503599627370496] at h
    have hpos := Nat.mul_pos (show 0 < 4503599627370496 by decide) (Nat.two_pow_pos ((-32 : Int) - min p (-32)).toNat)
    generalize 4503599627370496 * 2 ^ ((-32 : Int) - min p (-32)).toNat = b at h hpos
    have hge : (b : Int) ≤ Ieee.signed s m (p - min p (-32)).toNat := by
      rcases h with h | h
      · have := Int.compare_eq_gt.1 h; omega
      · have := Int.compare_eq_eq.1 h; omega
    cases s with
    | true => rw [signed_neg] at hge; omega
    | false =>
      rw [signed_pos] at hge
      refine order_pos hr ?_
      rcases Nat.eq_zero_or_pos m with e | e
      · subst e; rw [Nat.zero_mul] at hge; omega
      · exact e
theorem wholeI_top {w : Nat} (h : Ieee.double.order w 4697254411347427328 = some .gt ∨ Ieee.double.order w 4697254411347427328 = some .eq) : wholeI w = 1048576 := by
  have h0 := pos_of_B h
  by_cases hB : Ieee.double.order w 4697254411347427328 = some .gt
  · unfold wholeI; rw [if_pos h0, if_pos hB]
  · obtain ⟨m, p, hr, hm, hp, _, hw, _⟩ := wholeI_mid h0 hB
    have he := h.resolve_left hB
    rw [order_B hr hp, Option.some.injEq] at he
    have he := Nat.compare_eq_eq.1 he
    rw [hw, he, Nat.mul_div_cancel _ (Nat.two_pow_pos _)]; rfl
theorem wholeI_in {w : Nat} (h0 : Ieee.double.order w 0 = some .gt) (h : Ieee.double.order w 4697254411347427328 = some .lt) :
    (Ieee.double.order (fl (wholeI w)) w = some .lt ∨ Ieee.double.order (fl (wholeI w)) w = some .eq) ∧ ∃ r, Ieee.double.sub w 4607182418800017408 = some r ∧ Ieee.double.order (fl (wholeI w)) r = some .gt := by
  obtain ⟨m, p, hr, hm, hp, _, hw, _⟩ := wholeI_mid h0 (by rw [h]; simp)
  rw [order_B hr hp, Option.some.injEq] at h
  have hlt := Nat.compare_eq_lt.1 h
  refine ⟨?_, by rw [hw]; exact sub_one hr hm hp hlt⟩
  have hpt := Nat.two_pow_pos (-p).toNat
  have hq2 : m / 2 ^ (-p).toNat < 1048576 := (Nat.div_lt_iff_lt_mul hpt).2 hlt
  have hrep := rep_flI (n := ((m / 2 ^ (-p).toNat : Nat) : Int)) (by omega) (by omega)
  rw [Int.toNat_natCast] at hrep
  rw [hw, order_val hrep.val (val_of hr hp), Nat.pow_zero, Nat.mul_one]
  have hle := Nat.div_mul_le_self m (2 ^ (-p).toNat)
  rcases Nat.lt_or_eq_of_le hle with h1 | h1
  · exact .inl (congrArg some (Nat.compare_eq_lt.2 h1))
  · exact .inr (congrArg some (Nat.compare_eq_eq.2 h1))
theorem wholeI_rep {w n : Nat} (h : Rep w n) : wholeI w = min (n : Int) 1048576 := by
  have h1 := order_rep h rep_fl0
  have h2 := order_val h.val valB
  rw [Nat.pow_zero, Nat.mul_one, Nat.mul_one] at h2
  unfold wholeI
  rw [h1, h2, toInt_rep h]
  rcases Nat.eq_zero_or_pos n with e | e
  · subst e; rfl
  · rw [if_pos (congrArg some (Nat.compare_eq_gt.2 e))]
    by_cases hb : 1048576 < n
    · rw [if_pos (congrArg some (Nat.compare_eq_gt.2 hb))]; omega
    · rw [if_neg]
      · simp only [Option.getD_some]; omega
      · intro hc
        rw [Option.some.injEq] at hc
        exact hb (Nat.compare_eq_gt.1 hc)
end Go.Proofs.Ytilofhocodbknaa
