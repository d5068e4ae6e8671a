/- Gra Grb Grc Grd Gre Grf Grg:5-167 Grh Gri -/
import Derived.Test.YthgmfjkbgacfaaaVm
import Derived.Test.YthgmfjkbgacfaaaCGrid
namespace Go.Proofs.Ythgmfjkbgacfaaa.Gr
set_option linter.unusedVariables false
set_option linter.unusedSimpArgs false
open Go Go.Kx Go.Proofs
section
/-- A word that stands for a whole number. -/
def Rep (w n : Nat) : Prop := ∃ m p, Ieee.double.read w = .number false m p ∧ p ≤ 0 ∧ m = n * 2 ^ (-p).toNat
def fl (n : Int) : Nat := FloatKind.nearest .f64 n
theorem fl_def (n : Nat) : fl (n : Int) = Ieee.double.nearest false n 0 := by
  have h : ¬ ((n : Int) < 0) := by omega
  simp [fl, FloatKind.nearest, FloatKind.encode, FloatKind.format, Ieee.Format.write, h]
theorem dLeast : Ieee.double.leastPlace = -1074 := by decide
theorem dBinade : Ieee.double.binade = 4503599627370496 := by decide
theorem dInf : Ieee.double.infRung = 9218868437227405312 := by decide
theorem dSign : Ieee.double.signWeight = 9223372036854775808 := by decide
theorem dFrac : Ieee.double.fractionBits = 52 := rfl
theorem rep_fl0 : Rep 0 0 := ⟨0, -1074, by decide, by omega, by rw [Nat.zero_mul]⟩
theorem cut0 (N : Nat) : Ieee.Toward.even.cut false N 0 = N := by
  simp [Ieee.Toward.cut, Nat.mod_one]
theorem near_gen (f : Ieee.Format) {n e d b w : Nat} {L : Int} (hE : n.log2 = e) (h0 : n ≠ 0) (hF : (f.fractionBits : Int) = e + d) (hL : f.leastPlace = L) (hLe : L ≤ -(d : Int)) (hw : ((-(d : Int)) - L).toNat = w) (hB : f.binade = b) (hI : w * b + n * 2 ^ d ≤ f.infRung) :
    f.nearest false n 0 = w * b + n * 2 ^ d := by
  unfold Ieee.Format.nearest
  rw [if_neg h0]
  simp only [hE, hF, hL, hB]
  have hlast : max ((0 : Int) + (e : Int) - ((e : Int) + (d : Int))) L = -(d : Int) := by omega
  rw [hlast, hw]
  have e1 : ((0 : Int) - (-(d : Int))).toNat = d := by omega
  have e2 : ((-(d : Int)) - 0).toNat = 0 := by omega
  rw [e1, e2, Nat.shiftLeft_eq, cut0]
  unfold Ieee.Format.word
  rw [if_neg (by simp), Nat.min_eq_left hI]
theorem read_gen (f : Ieee.Format) {N u b d : Nat} {L : Int} (hB : f.binade = b) (hL : f.leastPlace = L) (h1 : b ≤ N) (h2 : N < 2 * b) (hI : u * b + N < f.infRung) (hS : u * b + N < f.signWeight) (hd : L + (u : Int) = -(d : Int)) :
    f.read (u * b + N) = .number false N (-(d : Int)) := by
  have hb : 0 < b := by omega
  unfold Ieee.Format.read
  have m1 : (u * b + N) / f.signWeight = 0 := Nat.div_eq_of_lt hS
  have m2 : (u * b + N) % f.signWeight = u * b + N := Nat.mod_eq_of_lt hS
  obtain ⟨r, hr⟩ : ∃ r, N = b + r := ⟨N - b, by omega⟩
  have hs : u * b + N = (u + 1) * b + r := by rw [hr, Nat.succ_mul]; omega
  have m3 : (u * b + N) % b = r := by rw [hs, Nat.add_comm, Nat.add_mul_mod_self_right, Nat.mod_eq_of_lt (by omega)]
  have m4 : (u * b + N) / b = u + 1 := by rw [hs, Nat.add_comm, Nat.add_mul_div_right _ _ hb, Nat.div_eq_of_lt (by omega)]; omega
  simp only [hB, hL, m1, m2]
  have hnb : ¬ (u * b + N < b) := by omega
  rw [if_neg hnb, if_pos hI, m3, m4]
  have q1 : b + r = N := by omega
  have q2 : L + ((u + 1 - 1 : Nat) : Int) = -(d : Int) := by rw [Nat.add_sub_cancel]; exact hd
  rw [q1, q2]
  rfl
theorem rep_fl {n : Nat} (h0 : 0 < n) (h : n < 2 ^ 52) : Rep (fl (n : Int)) n := by
  rw [fl_def]
  have hle := Nat.log2_self_le (n := n) (by omega)
  have hlt := Nat.lt_log2_self (n := n)
  have he : n.log2 < 52 := (Nat.log2_lt (by omega)).2 h
  generalize hE : n.log2 = e at hle hlt he
  obtain ⟨d, hd⟩ : ∃ d, e + d = 52 := ⟨52 - e, by omega⟩
  have h1 : 4503599627370496 ≤ n * 2 ^ d := by
    have := Nat.mul_le_mul_right (2 ^ d) hle
    rw [← Nat.pow_add, hd] at this
    exact this
  have h2 : n * 2 ^ d < 9007199254740992 := by
    have := Nat.mul_lt_mul_of_pos_right hlt (Nat.two_pow_pos d)
    rw [← Nat.pow_add, show e + 1 + d = 53 by omega] at this
    exact this
  have hnear := near_gen Ieee.double (d := d) (b := 4503599627370496) (w := e + 1022) (L := -1074) hE (by omega) (by rw [dFrac]; omega) dLeast (by omega) (by omega) dBinade (by rw [dInf]; omega)
  have hread := read_gen Ieee.double (N := n * 2 ^ d) (u := e + 1022) (b := 4503599627370496) (d := d) (L := -1074) dBinade dLeast h1 (by omega) (by rw [dInf]; omega) (by rw [dSign]; omega) (by omega)
  rw [hnear]
  exact ⟨n * 2 ^ d, -(d : Int), hread, by omega, by rw [show (-(-(d : Int))).toNat = d by omega]⟩
theorem rep_flI {n : Int} (h0 : 0 ≤ n) (h : n < 2 ^ 52) : Rep (fl n) n.toNat := by
  obtain ⟨m, rfl⟩ : ∃ m : Nat, n = m := ⟨n.toNat, by omega⟩
  by_cases hm : m = 0
  · subst hm
    have : fl ((0 : Nat) : Int) = 0 := by decide
    rw [this]
    exact rep_fl0
  · rw [Int.toNat_natCast]
    exact rep_fl (by omega) (by omega)
theorem signed_pos (m k : Nat) : Ieee.signed false m k = ((m * 2 ^ k : Nat) : Int) := by
  simp only [Ieee.signed, Nat.shiftLeft_eq]
  rfl
theorem order_rep {x y a b : Nat} (hx : Rep x a) (hy : Rep y b) : Ieee.double.order x y = some (compare a b) := by
  obtain ⟨m, p, h1, h2, h3⟩ := hx
  obtain ⟨n, q, k1, k2, k3⟩ := hy
  unfold Ieee.Format.order
  rw [h1, k1]
  simp only [Ieee.Datum.order]
  have e1 : m * 2 ^ (p - min p q).toNat = a * 2 ^ (-(min p q)).toNat := by
    rw [h3, Nat.mul_assoc, ← Nat.pow_add]; congr 2; omega
  have e2 : n * 2 ^ (q - min p q).toNat = b * 2 ^ (-(min p q)).toNat := by
    rw [k3, Nat.mul_assoc, ← Nat.pow_add]; congr 2; omega
  rw [signed_pos, signed_pos, e1, e2]
  generalize (-(min p q)).toNat = t
  congr 1
  have hp := Nat.two_pow_pos t
  rcases Nat.lt_trichotomy a b with h | h | h
  · rw [Nat.compare_eq_lt.2 h]
    have : a * 2 ^ t < b * 2 ^ t := Nat.mul_lt_mul_of_pos_right h hp
    exact Int.compare_eq_lt.2 (by exact_mod_cast this)
  · subst h
    rw [Nat.compare_eq_eq.2 rfl]
    exact Int.compare_eq_eq.2 rfl
  · rw [Nat.compare_eq_gt.2 h]
    have : b * 2 ^ t < a * 2 ^ t := Nat.mul_lt_mul_of_pos_right h hp
    exact Int.compare_eq_gt.2 (by exact_mod_cast this)
theorem toInt_rep {x a : Nat} (hx : Rep x a) : (FloatKind.f64.decode x).toInt .zero = some (a : Int) := by
  obtain ⟨m, p, h1, h2, h3⟩ := hx
  have e : FloatKind.f64.decode x = Ieee.double.read x := rfl
  rw [e, h1]
  simp only [Ieee.Datum.toInt, Ieee.Datum.integral]
  have e1 : p.toNat = 0 := by omega
  rw [e1, Nat.shiftLeft_zero, signed_pos, Nat.pow_zero, Nat.mul_one]
  congr 2
  generalize (-p).toNat = t at h3
  simp only [Ieee.Toward.cut, Bool.toNat_false, Nat.add_zero]
  rw [Nat.one_shiftLeft]
  by_cases ha : a = 0
  · subst ha; rw [h3]; simp
  · have hm : 2 ^ t ≤ m := by rw [h3]; exact Nat.le_mul_of_pos_left _ (by omega)
    have hlog : t ≤ m.log2 := (Nat.le_log2 (by have := Nat.two_pow_pos t; omega)).2 hm
    rw [Nat.min_eq_left (by omega), h3, Nat.mul_div_cancel _ (Nat.two_pow_pos t)]
end
section
theorem mixed : Try.prog.follows .mixedOrders = true := by kernel_rfl

theorem fl_eq {a b : Int} (ha : 0 ≤ a ∧ a < 2 ^ 52) (hb : 0 ≤ b ∧ b < 2 ^ 52) : (Ieee.double.order (fl a) (fl b) == some .eq) = decide (a = b) := by
  rw [order_rep (rep_flI ha.1 ha.2) (rep_flI hb.1 hb.2)]
  rw [Bool.eq_iff_iff, beq_iff_eq, decide_eq_true_eq, Option.some.injEq, Nat.compare_eq_eq]
  omega
theorem fl_gt {a b : Int} (ha : 0 ≤ a ∧ a < 2 ^ 52) (hb : 0 ≤ b ∧ b < 2 ^ 52) : (Ieee.double.order (fl a) (fl b) == some .gt) = decide (b < a) := by
  rw [order_rep (rep_flI ha.1 ha.2) (rep_flI hb.1 hb.2)]
  rw [Bool.eq_iff_iff, beq_iff_eq, decide_eq_true_eq, Option.some.injEq, Nat.compare_eq_gt]
  omega
def okN (n : Int) : Prop := 0 ≤ n ∧ n ≤ 1048576
theorem okN52 {n : Int} (h : okN n) : 0 ≤ n ∧ n < 2 ^ 52 := ⟨h.1, by have := h.2; omega⟩
/-- A node. -/
def vN (p : Int × Int) : Value := .complex .f64 (fl p.1) (fl p.2)
def aN (p : Int × Int) : AV := .v (vN p)
def okP (p : Int × Int) : Prop := okN p.1 ∧ okN p.2
theorem eqC_N {p q : Int × Int} (hp : okP p) (hq : okP q) : eqC (.complex .f64) (vN p) (vN q) = some (decide (p = q)) := by
  simp only [vN, eqC, if_true, Op.floatEq]
  have e1 := fl_eq (okN52 hp.1) (okN52 hq.1)
  have e2 := fl_eq (okN52 hp.2) (okN52 hq.2)
  show some ((Ieee.double.order (fl p.1) (fl q.1) == some .eq) && (Ieee.double.order (fl p.2) (fl q.2) == some .eq)) = _
  rw [e1, e2]
  congr 1
  rw [Bool.eq_iff_iff, Bool.and_eq_true, decide_eq_true_eq, decide_eq_true_eq, decide_eq_true_eq, Prod.ext_iff]
theorem v_ceq {p q : Int × Int} (hp : okP p) (hq : okP q) : PF.val (.bin .eql) [vN p, vN q] = some (.bool (decide (p = q))) := by
  have h := eqC_N hp hq
  simp only [vN, eqC, if_true, Op.floatEq, Option.some.injEq] at h
  show (if (FloatKind.f64 = FloatKind.f64) then binC .eql .f64 (fl p.1) (fl p.2) (fl q.1) (fl q.2) else none) = _
  rw [if_pos rfl]
  show some (Value.bool ((FloatKind.f64.format.order (fl p.1) (fl q.1) == some .eq) && (FloatKind.f64.format.order (fl p.2) (fl q.2) == some .eq))) = _
  rw [h]
theorem v_cne {p q : Int × Int} (hp : okP p) (hq : okP q) : PF.val (.bin .neq) [vN p, vN q] = some (.bool (decide (p ≠ q))) := by
  have h := eqC_N hp hq
  simp only [vN, eqC, if_true, Op.floatEq, Option.some.injEq] at h
  show (if (FloatKind.f64 = FloatKind.f64) then binC .neq .f64 (fl p.1) (fl p.2) (fl q.1) (fl q.2) else none) = _
  rw [if_pos rfl]
  show some (Value.bool (!((FloatKind.f64.format.order (fl p.1) (fl q.1) == some .eq) && (FloatKind.f64.format.order (fl p.2) (fl q.2) == some .eq)))) = _
  rw [h]
  congr 2
  by_cases e : p = q <;> simp [e]
@[push_cast] theorem v_intF (k : IntKind) (n : Int) : PF.val (.intF .f64) [.int k n] = some (.float .f64 (fl n)) := rfl
@[push_cast] theorem v_cpx (a b : Nat) : PF.val (.cpx .f64) [.float .f64 a, .float .f64 b] = some (.complex .f64 a b) := rfl
@[push_cast] theorem v_re (a b : Nat) : PF.val .re [.complex .f64 a b] = some (.float .f64 a) := rfl
@[push_cast] theorem v_im (a b : Nat) : PF.val .im [.complex .f64 a b] = some (.float .f64 b) := rfl
theorem v_fgt {a b : Int} (ha : 0 ≤ a ∧ a < 2 ^ 52) (hb : 0 ≤ b ∧ b < 2 ^ 52) : PF.val (.bin .gtr) [.float .f64 (fl a), .float .f64 (fl b)] = some (.bool (decide (b < a))) := by
  rw [← fl_gt ha hb]; rfl
theorem v_fint {a : Int} (ha : 0 ≤ a ∧ a < 2 ^ 52) : PF.val (.fInt .i64) [.float .f64 (fl a)] = some (.int .i64 a) := by
  have h := toInt_rep (rep_flI ha.1 ha.2)
  have e : ((a.toNat : Nat) : Int) = a := by omega
  rw [e] at h
  simp only [PF.val, h]
  rw [if_pos]
  have h1 : IntKind.min .i64 = -9223372036854775808 := rfl
  have h2 : IntKind.max .i64 = 9223372036854775807 := rfl
  rw [h1, h2]; omega
theorem fl0 : fl 0 = 0 := by decide
theorem fl1 : fl 1 = 4607182418800017408 := by decide
theorem flF : fl 1048576 = 4697254411347427328 := by decide

def heldI (n : Int) : Int := min (max n 0) 1048576
theorem heldI_ok (n : Int) : okN (heldI n) := by unfold heldI okN; omega
theorem heldI_id {n : Int} (h : okN n) : heldI n = n := by obtain ⟨h1, h2⟩ := h; unfold heldI; omega
theorem grid_held_a (n : Int) : FnP Try.prog 58 [aInt n] fun a => a = aInt (heldI n) := by
  refine fnP_in K_grid_held mixed rfl (by simp [AV.pureL, aInt_pure]) ?_
  simp only [S_grid_held, aInt]
  simp (maxSteps := 1000000) (implicitDefEqProofs := false) (disch := omega) only [push_cast, ↓reduceIte, Nat.reduceEqDiff, reduceCtorEq, wz]
  exact ⟨[], rfl, rfl⟩
theorem grid_Node_a (i k : Int) : FnP Try.prog 24 [aInt i, aInt k] fun a => a = aN (heldI i, heldI k) := by
  refine fnP_in K_grid_Node mixed rfl (by simp [AV.pureL, aInt_pure]) ?_
  simp only [S_grid_Node]
  simp (maxSteps := 1000000) (implicitDefEqProofs := false) (disch := omega) only [push_cast, ↓reduceIte, Nat.reduceEqDiff, reduceCtorEq, wz]
  refine wpa_call (grid_held_a i) ?_
  rintro a rfl
  simp (maxSteps := 1000000) (implicitDefEqProofs := false) (disch := omega) only [push_cast, ↓reduceIte, Nat.reduceEqDiff, reduceCtorEq, wz, aInt]
  refine wpa_call (grid_held_a k) ?_
  rintro a rfl
  simp (maxSteps := 1000000) (implicitDefEqProofs := false) (disch := omega) only [push_cast, ↓reduceIte, Nat.reduceEqDiff, reduceCtorEq, wz, aInt]
  exact ⟨[], rfl, rfl⟩
theorem grid_whole_a (n : Int) (h : okN n) : FnP Try.prog 103 [.v (.float .f64 (fl n))] fun a => a = aInt n := by
  refine fnP_in K_grid_whole mixed rfl (by simp [AV.pureL, AV.pure]) ?_
  have h52 := okN52 h
  have h1 : PF.val (.bin .gtr) [.float .f64 (fl n), .float .f64 0] = some (.bool (decide (0 < n))) := by
    have := v_fgt h52 (b := 0) (by omega)
    rwa [fl0] at this
  have h2 : PF.val (.bin .gtr) [.float .f64 (fl n), .float .f64 4697254411347427328] = some (.bool (decide (1048576 < n))) := by
    have := v_fgt h52 (b := 1048576) (by omega)
    rwa [flF] at this
  have h3 := v_fint h52
  obtain ⟨hn0, hn1⟩ := h
  simp only [S_grid_whole]
  by_cases h0 : 0 < n
  · have h4 : ¬ 1048576 < n := by omega
    simp (maxSteps := 1000000) (implicitDefEqProofs := false) (disch := omega) only [push_cast, ↓reduceIte, Nat.reduceEqDiff, reduceCtorEq, wz, h1, h2, h3, h0, h4]
    exact ⟨[], rfl, rfl⟩
  · have : n = 0 := by omega
    simp (maxSteps := 1000000) (implicitDefEqProofs := false) (disch := omega) only [push_cast, ↓reduceIte, Nat.reduceEqDiff, reduceCtorEq, wz, h1, h0]
    exact ⟨[], rfl, by rw [this]; rfl⟩
theorem grid_Iter_a (p : Int × Int) (h : okP p) : FnP Try.prog 69 [aN p] fun a => a = aInt p.1 := by
  refine fnP_in K_grid_Iter mixed rfl (by simp [AV.pureL, AV.pure, aN]) ?_
  simp only [S_grid_Iter, aN, vN]
  simp (maxSteps := 1000000) (implicitDefEqProofs := false) (disch := omega) only [push_cast, ↓reduceIte, Nat.reduceEqDiff, reduceCtorEq, wz]
  refine wpa_call (grid_whole_a p.1 h.1) ?_
  rintro a rfl
  simp (maxSteps := 1000000) (implicitDefEqProofs := false) (disch := omega) only [push_cast, ↓reduceIte, Nat.reduceEqDiff, reduceCtorEq, wz]
  exact ⟨[], rfl, rfl⟩
theorem grid_Stage_a (p : Int × Int) (h : okP p) : FnP Try.prog 70 [aN p] fun a => a = aInt p.2 := by
  refine fnP_in K_grid_Stage mixed rfl (by simp [AV.pureL, AV.pure, aN]) ?_
  simp only [S_grid_Stage, aN, vN]
  simp (maxSteps := 1000000) (implicitDefEqProofs := false) (disch := omega) only [push_cast, ↓reduceIte, Nat.reduceEqDiff, reduceCtorEq, wz]
  refine wpa_call (grid_whole_a p.2 h.2) ?_
  rintro a rfl
  simp (maxSteps := 1000000) (implicitDefEqProofs := false) (disch := omega) only [push_cast, ↓reduceIte, Nat.reduceEqDiff, reduceCtorEq, wz]
  exact ⟨[], rfl, rfl⟩

/-- A cell of a row. -/
structure CC where
  st : Int
  wt : Bool
  deriving DecidableEq
def aCC (c : CC) : List AV := [.v (.int .i64 c.st), .v (.bool c.wt)]
theorem aCC_len (c : CC) : (aCC c).length = 2 := rfl
theorem aCC_pure (c : CC) : AV.pureL (aCC c) = true := by simp [aCC, AV.pureL, AV.pure]
theorem aCC_res (σ : St) (c : CC) : AV.resL σ (aCC c) = aCC c := by simp [aCC, AV.resL, AV.res]
def aRow (r : List CC) : AV := aSlN aCC r
def aRows (l : List (List CC)) : AV := aSl aRow l
theorem aRow_pure (r : List CC) : (aRow r).pure = true := aSlN_pure aCC_pure r
theorem aRow_res (σ : St) (r : List CC) : (aRow r).res σ = aRow r := aSlN_res (aCC_res σ) r .none
theorem aRows_pure (l : List (List CC)) : (aRows l).pure = true := aSl_pure aRow_pure l
theorem aRows_res (σ : St) (l : List (List CC)) (t : Tok) : (AV.sl l.length (l.map aRow) t).res σ = aRows l := aSl_res (aRow_res σ) l t

/-- Each stage is later than the one ahead of it. -/
def incB : Int → List CC → Bool
  | _, [] => true
  | s, c :: cs => decide (s < c.st) && decide (c.st ≤ 1048575) && incB c.st cs
def rowT : List CC → Int
  | [] => 7
  | c :: cs => if c.st ≠ 0 ∨ c.wt = true then 4 else if incB c.st cs = true then 0 else 4
def rowE (r : List CC) : Int := if 100 < r.length then 9 else rowT r
def rowsE : List (List CC) → Int
  | [] => 0
  | r :: rs => if rowE r ≠ 0 then rowE r else rowsE rs
def gchk (l : List (List CC)) : Int := if 100 < l.length then 9 else rowsE l
end
section
theorem grid_row_a (r : List CC) (hr : r.length ≤ 9223372036854775807) : FnP Try.prog 113 [aRow r] fun a => a = aInt (rowE r) := by
  refine fnP_in K_grid_row mixed rfl (by simp [AV.pureL, aRow_pure]) ?_
  simp only [S_grid_row, aRow, aSlN]
  by_cases h1 : 100 < r.length
  · simp (maxSteps := 1000000) (implicitDefEqProofs := false) (disch := omega) only [push_cast, ↓reduceIte, Nat.reduceEqDiff, reduceCtorEq, wz, h1]
    exact ⟨[], rfl, by unfold rowE; rw [if_pos h1]; rfl⟩
  have hE : rowE r = rowT r := by unfold rowE; rw [if_neg h1]
  cases r with
  | nil =>
    simp (maxSteps := 1000000) (implicitDefEqProofs := false) (disch := omega) only [push_cast, ↓reduceIte, Nat.reduceEqDiff, reduceCtorEq, wz]
    exact ⟨[], rfl, by rw [hE]; rfl⟩
  | cons c cs =>
    simp only [rowT] at hE
    have h0 : ¬ ((c :: cs).length : Int) = 0 := by rw [List.length_cons]; omega
    have h01 : (0 : Int) < ((c :: cs).length : Int) := by rw [List.length_cons]; omega
    have hd0 : ∀ m : List AV, (aCC c ++ m)[0]? = some (.v (.int .i64 c.st)) := fun m => rfl
    have hd1 : ∀ m : List AV, (aCC c ++ m)[1]? = some (.v (.bool c.wt)) := fun m => rfl
    have hz : ((c :: cs).flatMap aCC).drop (Int.toNat 0 * 2) = aCC c ++ cs.flatMap aCC := rfl
    generalize hr' : c :: cs = r at *
    have hr0 : r[0]? = some c := by rw [← hr']; rfl
    have hdr1 : r.drop 1 = cs := by rw [← hr']; rfl
    by_cases h2 : c.st = 0
    · cases h3 : c.wt with
      | true =>
        simp (maxSteps := 1000000) (implicitDefEqProofs := false) (disch := omega) only [push_cast, ↓reduceIte, Nat.reduceEqDiff, reduceCtorEq, wz, h1, h0, h01, hz, hd0, hd1, h2, h3]
        exact ⟨[], rfl, by rw [hE, if_pos (.inr h3)]; rfl⟩
      | false =>
        rw [if_neg (by rw [h3]; simp [h2])] at hE
        simp (maxSteps := 1000000) (implicitDefEqProofs := false) (disch := omega) only [push_cast, ↓reduceIte, Nat.reduceEqDiff, reduceCtorEq, wz, h1, h0, h01, hz, hd0, hd1, h2, h3]
        refine wpa_bl (α := Nat) (I := fun k ε σ => (ε 0 = .sl r.length (r.flatMap aCC) .none ∧ ε 3 = .v (.int .i64 k)) ∧ 1 ≤ k ∧ k ≤ r.length ∧ ∃ p, r[k - 1]? = some p ∧ incB c.st cs = incB p.st (r.drop k))
          (μ := fun k => r.length - k) (Q := fun _ _ => incB c.st cs = true) (x := 1) ?_ ?_ ?_
        · simp (maxSteps := 1000000) (implicitDefEqProofs := false) (disch := omega) only [push_cast, ↓reduceIte, Nat.reduceEqDiff, reduceCtorEq, wz]
          exact ⟨rfl, by omega, by omega, c, hr0, by rw [hdr1]⟩
        · rintro k ε σ N E ⟨hρ, hk1, hk, p, hp, hI⟩ hN hE'
          simp only [S_grid_row_L1]
          by_cases hlt : k < r.length
          · obtain ⟨x, hx⟩ := at_lt hlt
            have hdx := flat_drop aCC_len hx
            have hdp := flat_drop aCC_len hp
            have gx : ∀ (x : CC) (m : List AV), (aCC x ++ m)[0]? = some (.v (.int .i64 x.st)) := fun x m => rfl
            have hdq : (r.flatMap aCC).drop (((k : Int) - 1).toNat * 2) = aCC p ++ (r.drop (k - 1 + 1)).flatMap aCC := by rw [show ((k : Int) - 1).toNat = k - 1 by omega]; exact hdp
            rw [drop_at hx] at hI
            simp only [incB] at hI
            by_cases h5 : x.st ≤ p.st
            · have : incB c.st cs = false := by rw [hI]; simp; intro h; omega
              simp (maxSteps := 1000000) (implicitDefEqProofs := false) (disch := omega) only [push_cast, ↓reduceIte, Nat.reduceEqDiff, reduceCtorEq, wz, hρ, hdx, hdq, gx, h5]
              exact ⟨[], rfl, by rw [hE, if_neg (by rw [this]; simp)]; rfl⟩
            · by_cases h6 : 1048575 < x.st
              · have : incB c.st cs = false := by rw [hI]; simp; intro h h'; omega
                simp (maxSteps := 1000000) (implicitDefEqProofs := false) (disch := omega) only [push_cast, ↓reduceIte, Nat.reduceEqDiff, reduceCtorEq, wz, hρ, hdx, hdq, gx, h5, h6]
                exact ⟨[], rfl, by rw [hE, if_neg (by rw [this]; simp)]; rfl⟩
              · simp (maxSteps := 1000000) (implicitDefEqProofs := false) (disch := omega) only [push_cast, ↓reduceIte, Nat.reduceEqDiff, reduceCtorEq, wz, hρ, hdx, hdq, gx, h5, h6]
                refine hN (k + 1) _ _ ?_ (by omega)
                simp (maxSteps := 1000000) (implicitDefEqProofs := false) (disch := omega) only [push_cast, ↓reduceIte, Nat.reduceEqDiff, reduceCtorEq, wz, hρ]
                refine ⟨by omega, by omega, x, by rw [Nat.add_sub_cancel]; exact hx, ?_⟩
                rw [hI]
                have a1 : p.st < x.st := by omega
                have a2 : x.st ≤ 1048575 := by omega
                simp [a1, a2]
          · simp (maxSteps := 1000000) (implicitDefEqProofs := false) (disch := omega) only [push_cast, ↓reduceIte, Nat.reduceEqDiff, reduceCtorEq, wz, hρ]
            refine hE' _ _ ?_
            rw [hI, drop_all hlt]; rfl
        · rintro ε σ h
          simp (maxSteps := 1000000) (implicitDefEqProofs := false) (disch := omega) only [push_cast, ↓reduceIte, Nat.reduceEqDiff, reduceCtorEq, wz]
          exact ⟨[], rfl, by rw [hE, if_pos h]; rfl⟩
    · simp (maxSteps := 1000000) (implicitDefEqProofs := false) (disch := omega) only [push_cast, ↓reduceIte, Nat.reduceEqDiff, reduceCtorEq, wz, h1, h0, h01, hz, hd0, hd1, h2]
      exact ⟨[], rfl, by rw [hE, if_pos (.inl h2)]; rfl⟩
theorem grid_Check_a (l : List (List CC)) (hl : l.length ≤ 9223372036854775807) (hl2 : ∀ r ∈ l, r.length ≤ 9223372036854775807) : FnP Try.prog 88 [aRows l] fun a => a = aInt (gchk l) := by
  refine fnP_in K_grid_Check mixed rfl (by simp [AV.pureL, aRows_pure]) ?_
  simp only [S_grid_Check, aRows, aSl]
  by_cases h1 : 100 < l.length
  · simp (maxSteps := 1000000) (implicitDefEqProofs := false) (disch := omega) only [push_cast, ↓reduceIte, Nat.reduceEqDiff, reduceCtorEq, wz, h1]
    exact ⟨[], rfl, by unfold gchk; rw [if_pos h1]; rfl⟩
  have hE : gchk l = rowsE l := by unfold gchk; rw [if_neg h1]
  rw [hE]
  simp (maxSteps := 1000000) (implicitDefEqProofs := false) (disch := omega) only [push_cast, ↓reduceIte, Nat.reduceEqDiff, reduceCtorEq, wz, h1]
  refine wpa_bl (α := Nat) (I := fun k ε σ => (ε 9 = .sl l.length (l.map aRow) .none ∧ ε 10 = .v (.int .i64 l.length) ∧ ε 11 = .v (.int .i64 k)) ∧ k ≤ l.length ∧ rowsE l = rowsE (l.drop k))
    (μ := fun k => l.length - k) (Q := fun _ _ => rowsE l = 0) (x := 0) ?_ ?_ ?_
  · simp (maxSteps := 1000000) (implicitDefEqProofs := false) (disch := omega) only [push_cast, ↓reduceIte, Nat.reduceEqDiff, reduceCtorEq, wz]
    first | omega | exact ⟨by omega, rfl⟩ | exact ⟨rfl, by omega, rfl⟩
  · rintro k ε σ N E ⟨hρ, hk, hI⟩ hN hE'
    simp only [S_grid_Check_L1]
    by_cases hlt : k < l.length
    · obtain ⟨r, hr⟩ := at_lt hlt
      have hrl := hl2 r (List.mem_of_getElem? hr)
      rw [drop_at hr, rowsE] at hI
      simp (maxSteps := 1000000) (implicitDefEqProofs := false) (disch := omega) only [push_cast, ↓reduceIte, Nat.reduceEqDiff, reduceCtorEq, wz, hρ, hr]
      refine wpa_call (grid_row_a r hrl) ?_
      rintro a rfl
      by_cases h0 : rowE r = 0
      · rw [if_neg (by rw [h0]; simp)] at hI
        simp (maxSteps := 1000000) (implicitDefEqProofs := false) (disch := omega) only [push_cast, ↓reduceIte, Nat.reduceEqDiff, reduceCtorEq, wz, hρ, aInt, h0]
        refine hN (k + 1) _ _ ?_ (by omega)
        simp (maxSteps := 1000000) (implicitDefEqProofs := false) (disch := omega) only [push_cast, ↓reduceIte, Nat.reduceEqDiff, reduceCtorEq, wz, hρ]
        exact ⟨by omega, hI⟩
      · rw [if_pos h0] at hI
        simp (maxSteps := 1000000) (implicitDefEqProofs := false) (disch := omega) only [push_cast, ↓reduceIte, Nat.reduceEqDiff, reduceCtorEq, wz, hρ, aInt, h0]
        exact ⟨[], rfl, (congrArg aInt hI).symm⟩
    · simp (maxSteps := 1000000) (implicitDefEqProofs := false) (disch := omega) only [push_cast, ↓reduceIte, Nat.reduceEqDiff, reduceCtorEq, wz, hρ]
      refine hE' _ _ ?_
      rw [hI, drop_all hlt]; rfl
  · rintro ε σ h
    simp (maxSteps := 1000000) (implicitDefEqProofs := false) (disch := omega) only [push_cast, ↓reduceIte, Nat.reduceEqDiff, reduceCtorEq, wz]
    exact ⟨[], rfl, (congrArg aInt h).symm⟩

/-! ### What right rows are like -/
theorem incB_at : ∀ {r : List CC} {s : Int}, incB s r = true → ∀ {k : Nat} {c : CC}, r[k]? = some c → s < c.st ∧ c.st ≤ 1048575 := by
  intro r
  induction r with
  | nil => intro s _ k c h; simp at h
  | cons d r ih =>
    intro s h k c hc
    simp only [incB, Bool.and_eq_true, decide_eq_true_eq] at h
    cases k with
    | zero => simp at hc; subst hc; exact ⟨h.1.1, h.1.2⟩
    | succ k =>
      have := ih h.2 (k := k) (by simpa using hc)
      exact ⟨by omega, this.2⟩
theorem incB_lt : ∀ {r : List CC} {s : Int}, incB s r = true → ∀ {i j : Nat} {c d : CC}, i < j → r[i]? = some c → r[j]? = some d → c.st < d.st := by
  intro r
  induction r with
  | nil => intro s _ i j c d _ h; simp at h
  | cons e r ih =>
    intro s h i j c d hij hc hd
    simp only [incB, Bool.and_eq_true, decide_eq_true_eq] at h
    obtain ⟨j, rfl⟩ : ∃ j', j = j' + 1 := ⟨j - 1, by omega⟩
    cases i with
    | zero =>
      simp at hc; subst hc
      exact (incB_at h.2 (k := j) (by simpa using hd)).1
    | succ i => exact ih h.2 (i := i) (j := j) (by omega) (by simpa using hc) (by simpa using hd)
/-- A right row. -/
structure RowOk (r : List CC) : Prop where
  len : r.length ≤ 100
  pos : 0 < r.length
  first : ∀ c, r[0]? = some c → c.st = 0 ∧ c.wt = false
  inc : ∀ (i j : Nat) (c d : CC), i < j → r[i]? = some c → r[j]? = some d → c.st < d.st
  bd : ∀ c ∈ r, 0 ≤ c.st ∧ c.st ≤ 1048575
theorem rowE_ok {r : List CC} (h : rowE r = 0) : RowOk r := by
  unfold rowE at h
  split at h
  · omega
  · rename_i hlen
    cases r with
    | nil => simp [rowT] at h
    | cons c cs =>
      simp only [rowT] at h
      split at h
      · omega
      · rename_i h1
        split at h
        · rename_i h2
          have hc0 : c.st = 0 := by
            by_cases e : c.st = 0
            · exact e
            · exact absurd (.inl e) h1
          have hcw : c.wt = false := by
            cases e : c.wt with
            | false => rfl
            | true => exact absurd (.inr e) h1
          have hinc : ∀ (i j : Nat) (x y : CC), i < j → (c :: cs)[i]? = some x → (c :: cs)[j]? = some y → x.st < y.st := by
            intro i j x y hij hx hy
            obtain ⟨j, rfl⟩ : ∃ j', j = j' + 1 := ⟨j - 1, by omega⟩
            have hy' : cs[j]? = some y := by simpa using hy
            cases i with
            | zero => simp at hx; subst hx; exact (incB_at h2 hy').1
            | succ i => exact incB_lt h2 (i := i) (j := j) (by omega) (by simpa using hx) hy'
          refine ⟨by omega, by simp, fun x hx => by simp at hx; subst hx; exact ⟨hc0, hcw⟩, hinc, fun x hx => ?_⟩
          rcases List.mem_cons.1 hx with e | hx
          · subst e; omega
          · obtain ⟨k, hk⟩ := List.mem_iff_getElem?.1 hx
            have := incB_at h2 hk
            omega
        · omega
theorem gchk_ok {l : List (List CC)} (h : gchk l = 0) : l.length ≤ 100 ∧ ∀ r ∈ l, RowOk r := by
  unfold gchk at h
  split at h
  · omega
  · rename_i h1
    refine ⟨by omega, ?_⟩
    clear h1
    induction l with
    | nil => intro r hr; cases hr
    | cons x l ih =>
      simp only [rowsE] at h
      split at h
      · rename_i hx; exact absurd h hx
      · rename_i hx
        have hx : rowE x = 0 := by omega
        intro r hr
        rcases List.mem_cons.1 hr with e | hr
        · subst e; exact rowE_ok hx
        · exact ih h r hr
end
section
def lastLE (r : List CC) (s : Int) : Int := r.foldl (fun l d => if d.st ≤ s then d.st else l) 0
theorem lastLE_snoc (r : List CC) (d : CC) (s : Int) : lastLE (r ++ [d]) s = if d.st ≤ s then d.st else lastLE r s := by simp [lastLE]
theorem lastLE_ok {r : List CC} (h : ∀ c ∈ r, 0 ≤ c.st ∧ c.st ≤ 1048575) (s : Int) : 0 ≤ lastLE r s ∧ lastLE r s ≤ 1048575 := by
  induction r using snoc_ind with
  | h0 => simp [lastLE]
  | hs r d ih =>
    rw [lastLE_snoc]
    have h1 := h d (by simp)
    have h2 := ih fun c hc => h c (by simp [hc])
    split <;> omega
def nc : CC := ⟨0, false⟩
/-- The nodes that lead to a cell of the row r, behind the row q. -/
def cellP (i : Nat) (q r : List CC) (k : Nat) : List (Int × Int) :=
  (if k = 0 then [] else [((i : Int), (r.getD (k - 1) nc).st)]) ++
    (if i = 0 then [] else if k = 0 then [((i : Int) - 1, 0)] else if (r.getD k nc).wt = true then [((i : Int) - 1, lastLE q (r.getD k nc).st)] else [])
theorem cellP_ok {i k : Nat} {q r : List CC} (hi : i ≤ 100) (hq : ∀ c ∈ q, 0 ≤ c.st ∧ c.st ≤ 1048575) (hr : ∀ c ∈ r, 0 ≤ c.st ∧ c.st ≤ 1048575) : ∀ p ∈ cellP i q r k, okP p := by
  intro p hp
  unfold cellP at hp
  rcases List.mem_append.1 hp with h | h
  · split at h
    · cases h
    · rw [List.mem_singleton] at h
      subst h
      refine ⟨⟨by simp only; omega, by simp only; omega⟩, ?_⟩
      rw [List.getD_eq_getElem?_getD]
      cases hx : r[k - 1]? with
      | none => exact ⟨by simp [nc], by simp [nc]⟩
      | some c => have := hr c (List.mem_of_getElem? hx); exact ⟨by simp; omega, by simp; omega⟩
  · split at h
    · cases h
    · split at h
      · rw [List.mem_singleton] at h
        subst h
        exact ⟨⟨by simp only; omega, by simp only; omega⟩, by simp [okN]⟩
      · split at h
        · rw [List.mem_singleton] at h
          subst h
          have := lastLE_ok hq (r.getD k nc).st
          exact ⟨⟨by simp only; omega, by simp only; omega⟩, ⟨this.1, by simp only; omega⟩⟩
        · cases h
def aNs (l : List (Int × Int)) : AV := aSl aN l
theorem aN_res (σ : St) (p : Int × Int) : (aN p).res σ = aN p := by simp [aN, AV.res]
theorem aN_pure (p : Int × Int) : (aN p).pure = true := by simp [aN, AV.pure]
theorem aNs_pure (l : List (Int × Int)) : (aNs l).pure = true := aSl_pure aN_pure l
theorem aNs_res (σ : St) (l : List (Int × Int)) (t : Tok) : (AV.sl l.length (l.map aN) t).res σ = aNs l := aSl_res (aN_res σ) l t

set_option maxHeartbeats 2000000 in
theorem grid_into_a (l : List (List CC)) (i k : Nat) (q r : List CC) (c : CC) (hl : l.length ≤ 100) (hr : l[i]? = some r) (hc : r[k]? = some c) (hq : 0 < i → l[i - 1]? = some q) (hrl : r.length ≤ 100) (hql : q.length ≤ 100)
    (hqb : ∀ c ∈ q, 0 ≤ c.st ∧ c.st ≤ 1048575) (hrb : ∀ c ∈ r, 0 ≤ c.st ∧ c.st ≤ 1048575) :
    FnP Try.prog 89 [aRows l, aInt i, aInt k] fun a => a = aNs (cellP i q r k) := by
  have hil := lt_at hr
  have hkl := lt_at hc
  have hgd : r.getD k nc = c := by rw [List.getD_eq_getElem?_getD, hc]; rfl
  have hcb := hrb c (List.mem_of_getElem? hc)
  refine fnP_in K_grid_into mixed rfl (by simp [AV.pureL, aRows_pure, aInt_pure]) ?_
  simp only [S_grid_into, aRows, aSl, aInt]
  have hd := flat_drop aCC_len hc
  have hcl : ∀ (c : CC) (m : List AV), cellsA (some 2) (aCC c ++ m) = some (.agg (aCC c)) := fun c m => by rw [cellsA_n _ _ (by simp [aCC_len])]; rfl
  simp (maxSteps := 1000000) (implicitDefEqProofs := false) (disch := omega) only [push_cast, ↓reduceIte, Nat.reduceEqDiff, reduceCtorEq, wz, hr, aRow, aSlN, hd, hcl]
  refine wpa_new ?_
  simp (maxSteps := 1000000) (implicitDefEqProofs := false) (disch := omega) only [push_cast, ↓reduceIte, Nat.reduceEqDiff, reduceCtorEq, wz]
  refine wpa_stn (aCC_len c) (by rfl) rfl (by simp) ?_
  have hset : setAtA [AV.v (.int .i64 0), AV.v (.bool false)] 0 (aCC c) = aCC c := rfl
  have g0 : ∀ (c : CC) (m : List AV), (aCC c ++ m)[0]? = some (.v (.int .i64 c.st)) := fun c m => rfl
  have f0 : (aCC c)[0]? = some (.v (.int .i64 c.st)) := rfl
  have f1 : (aCC c)[1]? = some (.v (.bool c.wt)) := rfl
  by_cases hk0 : k = 0
  · subst hk0
    by_cases hi0 : i = 0
    · subst hi0
      simp (maxSteps := 1000000) (implicitDefEqProofs := false) (disch := omega) only [push_cast, ↓reduceIte, Nat.reduceEqDiff, reduceCtorEq, wz, hset]
      refine fin_res [] ?_ (aNs_pure _)
      simp [AV.res, AV.resL, aNs, aSl, cellP]
    · have hi1 : ¬ ((i : Int) = 0) := by omega
      simp (maxSteps := 1000000) (implicitDefEqProofs := false) (disch := omega) only [push_cast, ↓reduceIte, Nat.reduceEqDiff, reduceCtorEq, wz, hset, hi1]
      refine wpa_call (grid_Node_a _ 0) ?_
      rintro a rfl
      have e1 : heldI ((i : Int) - 1) = (i : Int) - 1 := heldI_id ⟨by omega, by omega⟩
      have e2 : heldI 0 = 0 := rfl
      simp (maxSteps := 1000000) (implicitDefEqProofs := false) (disch := omega) only [push_cast, ↓reduceIte, Nat.reduceEqDiff, reduceCtorEq, wz, e1, e2]
      refine wpa_bsl (by simp [AV.cells, aN, vN, Value.cells]) (by simp) ?_
      simp (maxSteps := 1000000) (implicitDefEqProofs := false) (disch := omega) only [push_cast, ↓reduceIte, Nat.reduceEqDiff, reduceCtorEq, wz]
      refine wpa_app_nil rfl rfl (by simp [AV.cells, aN, vN, Value.cells]) (by rfl) (by simp) (by simp) ?_
      simp (maxSteps := 1000000) (implicitDefEqProofs := false) (disch := omega) only [push_cast, ↓reduceIte, Nat.reduceEqDiff, reduceCtorEq, wz]
      refine fin_res [] ?_ (aNs_pure _)
      have hcp : cellP i q r 0 = [((i : Int) - 1, 0)] := by simp [cellP, hi0]
      rw [hcp]
      rfl
  · have hk1 : 0 < (k : Int) := by omega
    have hk2 : ¬ ((k : Int) = 0) := by omega
    obtain ⟨p, hp⟩ := at_lt (l := r) (k := k - 1) (by omega)
    have hpb := hrb p (List.mem_of_getElem? hp)
    have hgp : r.getD (k - 1) nc = p := by rw [List.getD_eq_getElem?_getD, hp]; rfl
    have hdp := flat_drop aCC_len hp
    have hdq : (r.flatMap aCC).drop (((k : Int) - 1).toNat * 2) = aCC p ++ (r.drop (k - 1 + 1)).flatMap aCC := by rw [show ((k : Int) - 1).toNat = k - 1 by omega]; exact hdp
    simp (maxSteps := 1000000) (implicitDefEqProofs := false) (disch := omega) only [push_cast, ↓reduceIte, Nat.reduceEqDiff, reduceCtorEq, wz, hset, hk1, hr, aRow, aSlN, hdq, g0]
    refine wpa_call (grid_Node_a _ _) ?_
    rintro a rfl
    have e1 : heldI (i : Int) = (i : Int) := heldI_id ⟨by omega, by omega⟩
    have e2 : heldI p.st = p.st := heldI_id ⟨by omega, by omega⟩
    rw [e1, e2]
    simp (maxSteps := 1000000) (implicitDefEqProofs := false) (disch := omega) only [push_cast, ↓reduceIte, Nat.reduceEqDiff, reduceCtorEq, wz]
    refine wpa_bsl (by simp [AV.cells, aN, vN, Value.cells]) (by simp) ?_
    simp (maxSteps := 1000000) (implicitDefEqProofs := false) (disch := omega) only [push_cast, ↓reduceIte, Nat.reduceEqDiff, reduceCtorEq, wz]
    refine wpa_app_nil rfl rfl (by simp [AV.cells, aN, vN, Value.cells]) (by rfl) (by simp) (by simp) ?_
    have hcs : [aN ((i : Int), p.st)].flatMap AV.cells = [aN ((i : Int), p.st)] := rfl
    by_cases hi0 : i = 0
    · have hcp : cellP i q r k = [((i : Int), p.st)] := by simp only [cellP, if_neg hk0, hgp, if_pos hi0]; rfl
      have hi1 : ((i : Int) = 0) := by omega
      simp (maxSteps := 1000000) (implicitDefEqProofs := false) (disch := omega) only [push_cast, ↓reduceIte, Nat.reduceEqDiff, reduceCtorEq, wz, hi1]
      refine fin_res [] ?_ (aNs_pure _)
      rw [hcp]
      subst hi0
      rfl
    · have hi1 : ¬ ((i : Int) = 0) := by omega
      cases hw : c.wt with
      | false =>
        have hcp : cellP i q r k = [((i : Int), p.st)] := by simp only [cellP, if_neg hk0, hgp, if_neg hi0, hgd, hw]; rfl
        simp (maxSteps := 1000000) (implicitDefEqProofs := false) (disch := omega) only [push_cast, ↓reduceIte, Nat.reduceEqDiff, reduceCtorEq, wz, hi1, hk2, f1, hw]
        refine fin_res [] ?_ (aNs_pure _)
        rw [hcp]
        rfl
      | true =>
        have hcp : cellP i q r k = [((i : Int), p.st), ((i : Int) - 1, lastLE q c.st)] := by simp only [cellP, if_neg hk0, hgp, if_neg hi0, hgd, hw]; rfl
        have hqq := hq (by omega)
        have hqi : l[((i : Int) - 1).toNat]? = some q := by rw [show ((i : Int) - 1).toNat = i - 1 by omega]; exact hqq
        simp (maxSteps := 1000000) (implicitDefEqProofs := false) (disch := omega) only [push_cast, ↓reduceIte, Nat.reduceEqDiff, reduceCtorEq, wz, hi1, hk2, f1, hw, hqi, aRow, aSlN]
        refine wpa_bl (α := Nat) (I := fun n ε σ => (ε 1 = .v (.int .i64 i) ∧ ε 7 = .sl 1 [aN ((i : Int), p.st)] (.id 1 1 1) ∧ ε 8 = .ref 0 0 0 ∧ ε 9 = .v (.int .i64 (lastLE (q.take n) c.st)) ∧ ε 54 = .sl q.length (q.flatMap aCC) .none ∧ ε 55 = .v (.int .i64 q.length) ∧ ε 56 = .v (.int .i64 n)) ∧ n ≤ q.length ∧
            σ[0]? = some (.obj 0 (aCC c)) ∧ σ[1]? = some (.tail 1))
          (μ := fun n => q.length - n) (Q := fun ε σ => (ε 1 = .v (.int .i64 i) ∧ ε 7 = .sl 1 [aN ((i : Int), p.st)] (.id 1 1 1) ∧ ε 9 = .v (.int .i64 (lastLE q c.st))) ∧ σ[1]? = some (.tail 1)) (x := 0) ?_ ?_ ?_
        · simp (maxSteps := 1000000) (implicitDefEqProofs := false) (disch := omega) only [push_cast, ↓reduceIte, Nat.reduceEqDiff, reduceCtorEq, wz]
          exact ⟨⟨rfl, rfl⟩, by omega⟩
        · rintro n ε σ N E ⟨hρ, hn, hs0, hs1⟩ hN hE
          simp only [S_grid_into_L1]
          by_cases hlt : n < q.length
          · obtain ⟨d, hd⟩ := at_lt hlt
            have hdd := flat_drop aCC_len hd
            have hs0' : ∀ τ : St, (σ ++ τ)[0]? = some (.obj 0 (aCC c)) := fun τ => get_app hs0
            have hs1' : ∀ τ : St, (σ ++ τ)[1]? = some (.tail 1) := fun τ => get_app hs1
            have hset2 : ∀ d, setAtA [AV.v (.int .i64 0), AV.v (.bool false)] 0 (aCC d) = aCC d := fun d => rfl
            have f0' : ∀ d, (aCC d)[0]? = some (.v (.int .i64 d.st)) := fun d => rfl
            simp (maxSteps := 1000000) (implicitDefEqProofs := false) (disch := omega) only [push_cast, ↓reduceIte, Nat.reduceEqDiff, reduceCtorEq, wz, hρ, hdd, hcl]
            refine wpa_new ?_
            simp (maxSteps := 1000000) (implicitDefEqProofs := false) (disch := omega) only [push_cast, ↓reduceIte, Nat.reduceEqDiff, reduceCtorEq, wz]
            refine wpa_stn (aCC_len d) (by rfl) (at_snoc _ _) (by simp) ?_
            have hls := lastLE_snoc (q.take n) d c.st
            rw [← take_succ_at hd] at hls
            by_cases h1 : d.st ≤ c.st
            · rw [if_pos h1] at hls
              simp (maxSteps := 1000000) (implicitDefEqProofs := false) (disch := omega) only [push_cast, ↓reduceIte, Nat.reduceEqDiff, reduceCtorEq, wz, hset2, hρ, hs0', f0', h1]
              refine hN (n + 1) _ _ ?_ (by omega)
              simp (maxSteps := 1000000) (implicitDefEqProofs := false) (disch := omega) only [push_cast, ↓reduceIte, Nat.reduceEqDiff, reduceCtorEq, wz, hρ, hls]
              exact ⟨by omega, hs0' _, hs1' _⟩
            · rw [if_neg h1] at hls
              simp (maxSteps := 1000000) (implicitDefEqProofs := false) (disch := omega) only [push_cast, ↓reduceIte, Nat.reduceEqDiff, reduceCtorEq, wz, hset2, hρ, hs0', f0', h1]
              refine hN (n + 1) _ _ ?_ (by omega)
              simp (maxSteps := 1000000) (implicitDefEqProofs := false) (disch := omega) only [push_cast, ↓reduceIte, Nat.reduceEqDiff, reduceCtorEq, wz, hρ, hls]
              exact ⟨by omega, hs0' _, hs1' _⟩
          · simp (maxSteps := 1000000) (implicitDefEqProofs := false) (disch := omega) only [push_cast, ↓reduceIte, Nat.reduceEqDiff, reduceCtorEq, wz, hρ]
            refine hE _ _ ?_
            rw [List.take_of_length_le (by omega)] at hρ
            simp (maxSteps := 1000000) (implicitDefEqProofs := false) (disch := omega) only [push_cast, ↓reduceIte, Nat.reduceEqDiff, reduceCtorEq, wz, hρ]
            exact hs1
        · rintro ε σ ⟨hρ, hs1⟩
          simp (maxSteps := 1000000) (implicitDefEqProofs := false) (disch := omega) only [push_cast, ↓reduceIte, Nat.reduceEqDiff, reduceCtorEq, wz, hρ]
          refine wpa_call (grid_Node_a _ _) ?_
          rintro a rfl
          have hlo := lastLE_ok hqb c.st
          have e3 : heldI ((i : Int) - 1) = (i : Int) - 1 := heldI_id ⟨by omega, by omega⟩
          have e4 : heldI (lastLE q c.st) = lastLE q c.st := heldI_id ⟨by omega, by omega⟩
          rw [e3, e4]
          simp (maxSteps := 1000000) (implicitDefEqProofs := false) (disch := omega) only [push_cast, ↓reduceIte, Nat.reduceEqDiff, reduceCtorEq, wz]
          refine wpa_bsl (by simp [AV.cells, aN, vN, Value.cells]) (by simp) ?_
          simp (maxSteps := 1000000) (implicitDefEqProofs := false) (disch := omega) only [push_cast, ↓reduceIte, Nat.reduceEqDiff, reduceCtorEq, wz, hρ]
          refine wpa_app rfl rfl (by simp [AV.cells, aN, vN, Value.cells]) (by rfl) (by simp) (by omega) (by omega) hs1 ?_
          simp (maxSteps := 1000000) (implicitDefEqProofs := false) (disch := omega) only [push_cast, ↓reduceIte, Nat.reduceEqDiff, reduceCtorEq, wz]
          refine fin_res [] ?_ (aNs_pure _)
          rw [hcp]
          exact aNs_res _ [_, _] _
end
section
/-- An edge: from where, and to where. -/
abbrev Ed := (Int × Int) × (Int × Int)
def aEd (e : Ed) : List AV := [aN e.1, aN e.2]
theorem aEd_len (e : Ed) : (aEd e).length = 2 := rfl
theorem aEd_one (e : Ed) : (aEd e).all AV.one = true := rfl
theorem aEd_pure (e : Ed) : AV.pureL (aEd e) = true := by simp [aEd, AV.pureL, aN_pure]
theorem aEd_res (σ : St) (e : Ed) : AV.resL σ (aEd e) = aEd e := by simp [aEd, AV.resL, aN_res]
def aEds (l : List Ed) : AV := aSlN aEd l
theorem aEds_pure (l : List Ed) : (aEds l).pure = true := aSlN_pure aEd_pure l
theorem aEds_res (σ : St) (l : List Ed) (t : Tok) : (AV.sl l.length (l.flatMap aEd) t).res σ = aEds l := aSlN_res (aEd_res σ) l t
def cellEd (i : Nat) (q r : List CC) (j : Nat) : List Ed := (cellP i q r j).map fun p => (p, ((i : Int), (r.getD j nc).st))
def rowEd (i : Nat) (q r : List CC) (k : Nat) : List Ed := (List.range k).flatMap (cellEd i q r)
def gEd (l : List (List CC)) (n : Nat) : List Ed := (List.range n).flatMap fun i => rowEd i (l.getD (i - 1) []) (l.getD i []) (l.getD i []).length
def edgeL (l : List (List CC)) : List Ed := gEd l l.length
theorem rowEd_succ (i : Nat) (q r : List CC) (k : Nat) : rowEd i q r (k + 1) = rowEd i q r k ++ cellEd i q r k := by simp [rowEd, List.range_succ]
theorem gEd_succ (l : List (List CC)) (n : Nat) : gEd l (n + 1) = gEd l n ++ rowEd n (l.getD (n - 1) []) (l.getD n []) (l.getD n []).length := by simp [gEd, List.range_succ]
theorem cellP_len (i k : Nat) (q r : List CC) : (cellP i q r k).length ≤ 2 := by
  unfold cellP
  rw [List.length_append]
  have h1 : (if k = 0 then ([] : List (Int × Int)) else [((i : Int), (r.getD (k - 1) nc).st)]).length ≤ 1 := by split <;> simp
  have h2 : (if i = 0 then ([] : List (Int × Int)) else if k = 0 then [((i : Int) - 1, 0)] else if (r.getD k nc).wt = true then [((i : Int) - 1, lastLE q (r.getD k nc).st)] else []).length ≤ 1 := by
    split
    · simp
    · split
      · simp
      · split <;> simp
  omega
theorem rowEd_len (i : Nat) (q r : List CC) (k : Nat) : (rowEd i q r k).length ≤ 2 * k := by
  induction k with
  | zero => simp [rowEd]
  | succ k ih =>
    rw [rowEd_succ, List.length_append]
    have := cellP_len i k q r
    have e : (cellEd i q r k).length = (cellP i q r k).length := by simp [cellEd]
    omega
theorem gEd_len {l : List (List CC)} (h : ∀ r ∈ l, r.length ≤ 100) (n : Nat) : (gEd l n).length ≤ 200 * n := by
  induction n with
  | zero => simp [gEd]
  | succ n ih =>
    rw [gEd_succ, List.length_append]
    have h1 := rowEd_len n (l.getD (n - 1) []) (l.getD n []) (l.getD n []).length
    have h2 : (l.getD n []).length ≤ 100 := by
      rw [List.getD_eq_getElem?_getD]
      cases hx : l[n]? with
      | none => simp
      | some r => exact h r (List.mem_of_getElem? hx)
    omega

theorem app_step (A M : List Ed) (e : Ed) (t : Tok) : AV.sl ((A ++ M).length + 1) ((A ++ M).flatMap aEd ++ (aEd e ++ [])) t = AV.sl (A ++ (M ++ [e])).length ((A ++ (M ++ [e])).flatMap aEd) t := by
  simp only [List.flatMap_append, List.length_append, List.flatMap_cons, List.flatMap_nil, List.append_nil, List.append_assoc, List.length_singleton, Nat.add_assoc]
set_option maxHeartbeats 2000000 in
theorem grid_Edges_a (l : List (List CC)) (hl : l.length ≤ 9223372036854775807) (hl2 : ∀ r ∈ l, r.length ≤ 9223372036854775807) :
    FnP Try.prog 55 [aRows l] fun a => a = .tup [aEds (if gchk l = 0 then edgeL l else []), aInt (gchk l)] := by
  refine fnP_in K_grid_Edges mixed rfl (by simp [AV.pureL, aRows_pure]) ?_
  simp only [S_grid_Edges]
  simp (maxSteps := 1000000) (implicitDefEqProofs := false) (disch := omega) only [push_cast, ↓reduceIte, Nat.reduceEqDiff, reduceCtorEq, wz]
  refine wpa_call (grid_Check_a l hl hl2) ?_
  rintro a rfl
  by_cases h0 : gchk l = 0
  · obtain ⟨hll, hok⟩ := gchk_ok h0
    have hlr : ∀ r ∈ l, r.length ≤ 100 := fun r hr => (hok r hr).len
    rw [if_pos h0]
    simp (maxSteps := 1000000) (implicitDefEqProofs := false) (disch := omega) only [push_cast, ↓reduceIte, Nat.reduceEqDiff, reduceCtorEq, wz, aInt, h0, aRows, aSl]
    refine wpa_blgx (GU.tok 5 2 rfl) (α := Nat) (I := fun n ε σ => (ε 0 = .sl l.length (l.map aRow) .none ∧ ε 17 = .sl l.length (l.map aRow) .none ∧ ε 18 = .v (.int .i64 l.length) ∧ ε 19 = .v (.int .i64 n)) ∧ n ≤ l.length ∧
        ∃ w, ε 5 = .sl (gEd l n).length ((gEd l n).flatMap aEd) (.id 0 w 2) ∧ σ[0]? = some (.tail w))
      (μ := fun n => l.length - n) (Q := fun ε σ => ∃ w, ε 5 = .sl (edgeL l).length ((edgeL l).flatMap aEd) (.id 0 w 2)) (x := 0) ?_ ?_ ?_
    · simp (maxSteps := 1000000) (implicitDefEqProofs := false) (disch := omega) only [push_cast, ↓reduceIte, Nat.reduceEqDiff, reduceCtorEq, wz]
      exact ⟨by omega, 0, rfl, rfl⟩
    · rintro n ε σ N E X R ⟨hρ, hn, w, h5, ht⟩ hN hE
      simp only [S_grid_Edges_L1]
      by_cases hlt : n < l.length
      · obtain ⟨r, hr⟩ := at_lt hlt
        have hrok := hok r (List.mem_of_getElem? hr)
        have hr100 := hrok.len
        have hgr : l.getD n [] = r := by rw [List.getD_eq_getElem?_getD, hr]; rfl
        generalize hq : l.getD (n - 1) [] = q
        have hqq : 0 < n → l[n - 1]? = some q := by
          intro h
          obtain ⟨q', hq'⟩ := at_lt (l := l) (k := n - 1) (by omega)
          rw [← hq, List.getD_eq_getElem?_getD, hq']; rfl
        have hqm : q ∈ l ∨ q = [] := by
          rw [← hq, List.getD_eq_getElem?_getD]
          cases hx : l[n - 1]? with
          | none => exact .inr rfl
          | some q' => exact .inl (List.mem_of_getElem? hx)
        have hql : q.length ≤ 100 := by rcases hqm with h | h; exact hlr q h; rw [h]; simp
        have hqb : ∀ c ∈ q, 0 ≤ c.st ∧ c.st ≤ 1048575 := by rcases hqm with h | h; exact (hok q h).bd; rw [h]; intro c hc; cases hc
        have hgl := gEd_len hlr n
        simp (maxSteps := 1000000) (implicitDefEqProofs := false) (disch := omega) only [push_cast, ↓reduceIte, Nat.reduceEqDiff, reduceCtorEq, wz, hρ, hr, aRow, aSlN]
        refine wpa_blx (α := Nat) (I := fun k ε σ => (ε 0 = .sl l.length (l.map aRow) .none ∧ ε 17 = .sl l.length (l.map aRow) .none ∧ ε 18 = .v (.int .i64 l.length) ∧ ε 19 = .v (.int .i64 n) ∧ ε 6 = .v (.int .i64 n) ∧
            ε 24 = .sl r.length (r.flatMap aCC) .none ∧ ε 25 = .v (.int .i64 r.length) ∧ ε 26 = .v (.int .i64 k)) ∧ k ≤ r.length ∧
            ∃ w, ε 5 = .sl (gEd l n ++ rowEd n q r k).length ((gEd l n ++ rowEd n q r k).flatMap aEd) (.id 0 w 2) ∧ σ[0]? = some (.tail w))
          (μ := fun k => r.length - k) (Q := fun ε σ => (ε 0 = .sl l.length (l.map aRow) .none ∧ ε 17 = .sl l.length (l.map aRow) .none ∧ ε 18 = .v (.int .i64 l.length) ∧ ε 19 = .v (.int .i64 n)) ∧
            ∃ w, ε 5 = .sl (gEd l (n + 1)).length ((gEd l (n + 1)).flatMap aEd) (.id 0 w 2) ∧ σ[0]? = some (.tail w)) (x := 0) ?_ ?_ ?_
        · simp (maxSteps := 1000000) (implicitDefEqProofs := false) (disch := omega) only [push_cast, ↓reduceIte, Nat.reduceEqDiff, reduceCtorEq, wz, hρ, h5]
          refine ⟨by omega, w, by simp [rowEd], ht⟩
        · rintro k ε σ N' E' X' R' ⟨hρ, hk, w, h5, ht⟩ hN' hE'
          simp only [S_grid_Edges_L2]
          by_cases hkl : k < r.length
          · obtain ⟨c, hc⟩ := at_lt hkl
            have hcb := hrok.bd c (List.mem_of_getElem? hc)
            have hgc : r.getD k nc = c := by rw [List.getD_eq_getElem?_getD, hc]; rfl
            have hdc := flat_drop aCC_len hc
            have hcl : ∀ m : List AV, cellsA (some 2) (aCC c ++ m) = some (.agg (aCC c)) := fun m => by rw [cellsA_n _ _ (by simp [aCC_len])]; rfl
            have hrl := rowEd_len n q r k
            have hps := cellP_ok (i := n) (k := k) (by omega) hqb hrok.bd
            have hpl := cellP_len n k q r
            simp (maxSteps := 1000000) (implicitDefEqProofs := false) (disch := omega) only [push_cast, ↓reduceIte, Nat.reduceEqDiff, reduceCtorEq, wz, hρ, hdc, hcl]
            refine wpa_new ?_
            simp (maxSteps := 1000000) (implicitDefEqProofs := false) (disch := omega) only [push_cast, ↓reduceIte, Nat.reduceEqDiff, reduceCtorEq, wz]
            refine wpa_stn (aCC_len c) (by rfl) (at_snoc _ _) (by simp) ?_
            have hset : setAtA [AV.v (.int .i64 0), AV.v (.bool false)] 0 (aCC c) = aCC c := rfl
            have ht1 : (σ ++ [Res.obj 0 (aCC c)])[0]? = some (.tail w) := get_app ht
            have hb1 : (σ ++ [Res.obj 0 (aCC c)])[σ.length]? = some (.obj 0 (aCC c)) := at_snoc _ _
            have hl0 := lt_at ht
            simp (maxSteps := 1000000) (implicitDefEqProofs := false) (disch := omega) only [push_cast, ↓reduceIte, Nat.reduceEqDiff, reduceCtorEq, wz, hset, hρ, h5]
            generalize hS : σ ++ [Res.obj 0 (aCC c)] = S at ht1 hb1 ⊢
            generalize hb : σ.length = b at hb1 hl0 ⊢
            clear hS hb
            refine wpa_callw [] [false, false, false] (grid_into_a l n k q r c hll hr hc hqq hrok.len hql hqb hrok.bd) (by simp [weak, aRows, aSl, aInt]) ?_
            rintro a rfl
            rw [fzn]
            have hce : cellEd n q r k = (cellP n q r k).map fun p => (p, ((n : Int), c.st)) := by unfold cellEd; rw [hgc]
            generalize hps2 : cellP n q r k = ps at hps hpl hce
            simp (maxSteps := 1000000) (implicitDefEqProofs := false) (disch := omega) only [push_cast, ↓reduceIte, Nat.reduceEqDiff, reduceCtorEq, wz, hρ, aNs, aSl]
            refine wpa_blx (α := Nat) (I := fun m ε σ => (ε 0 = .sl l.length (l.map aRow) .none ∧ ε 17 = .sl l.length (l.map aRow) .none ∧ ε 18 = .v (.int .i64 l.length) ∧ ε 19 = .v (.int .i64 n) ∧ ε 6 = .v (.int .i64 n) ∧
                ε 24 = .sl r.length (r.flatMap aCC) .none ∧ ε 25 = .v (.int .i64 r.length) ∧ ε 26 = .v (.int .i64 k) ∧ ε 9 = .ref b 0 0 ∧ ε 34 = .sl ps.length (ps.map aN) .none ∧ ε 35 = .v (.int .i64 ps.length) ∧ ε 36 = .v (.int .i64 m)) ∧ m ≤ ps.length ∧ σ[b]? = some (.obj 0 (aCC c)) ∧
                ∃ w, ε 5 = .sl ((gEd l n ++ rowEd n q r k) ++ (ps.take m).map fun p => (p, ((n : Int), c.st))).length (((gEd l n ++ rowEd n q r k) ++ (ps.take m).map fun p => (p, ((n : Int), c.st))).flatMap aEd) (.id 0 w 2) ∧ σ[0]? = some (.tail w))
              (μ := fun m => ps.length - m) (Q := fun ε σ => (ε 0 = .sl l.length (l.map aRow) .none ∧ ε 17 = .sl l.length (l.map aRow) .none ∧ ε 18 = .v (.int .i64 l.length) ∧ ε 19 = .v (.int .i64 n) ∧ ε 6 = .v (.int .i64 n) ∧
                ε 24 = .sl r.length (r.flatMap aCC) .none ∧ ε 25 = .v (.int .i64 r.length) ∧ ε 26 = .v (.int .i64 k)) ∧
                ∃ w, ε 5 = .sl (gEd l n ++ rowEd n q r (k + 1)).length ((gEd l n ++ rowEd n q r (k + 1)).flatMap aEd) (.id 0 w 2) ∧ σ[0]? = some (.tail w)) (x := 0) ?_ ?_ ?_
            · simp (maxSteps := 1000000) (implicitDefEqProofs := false) (disch := omega) only [push_cast, ↓reduceIte, Nat.reduceEqDiff, reduceCtorEq, wz, hρ, h5]
              exact ⟨by omega, hb1, w, by simp, ht1⟩
            · rintro m ε σ N2 E2 X2 R2 ⟨hρ, hm, hs, w, h5, ht⟩ hN2 hE2
              simp only [S_grid_Edges_L3]
              by_cases hml : m < ps.length
              · obtain ⟨p, hp⟩ := at_lt hml
                have hpo := hps p (List.mem_of_getElem? hp)
                have f0 : (aCC c)[0]? = some (.v (.int .i64 c.st)) := rfl
                simp (maxSteps := 1000000) (implicitDefEqProofs := false) (disch := omega) only [push_cast, ↓reduceIte, Nat.reduceEqDiff, reduceCtorEq, wz, hρ, hp, hs, f0]
                refine wpa_call (grid_Node_a _ _) ?_
                rintro a rfl
                have e3 : heldI (n : Int) = n := heldI_id ⟨by omega, by omega⟩
                have e4 : heldI c.st = c.st := heldI_id ⟨by omega, by omega⟩
                rw [e3, e4]
                have hf : fillA [AV.v (.complex .f64 0 0), AV.v (.complex .f64 0 0)] [(0, 1), (1, 1)] [aN p, aN ((n : Int), c.st)] = some (aEd (p, ((n : Int), c.st))) := by simp [fillA, AV.cells, Value.cells, setAtA, aEd, aN, vN]
                simp (maxSteps := 1000000) (implicitDefEqProofs := false) (disch := omega) only [push_cast, ↓reduceIte, Nat.reduceEqDiff, reduceCtorEq, wz, hf]
                refine wpa_bsl (sz := 2) (by intro a ha; simp at ha; subst ha; rfl) (by simp) ?_
                have hcc : (AV.agg (aEd (p, ((n : Int), c.st)))).cells = aEd (p, ((n : Int), c.st)) := rfl
                simp (maxSteps := 1000000) (implicitDefEqProofs := false) (disch := omega) only [push_cast, ↓reduceIte, Nat.reduceEqDiff, reduceCtorEq, wz, hcc, hρ, h5]
                have hlen : ((gEd l n ++ rowEd n q r k) ++ (ps.take m).map fun p => (p, ((n : Int), c.st))).length ≤ 100000 := by
                  rw [List.length_append, List.length_append, List.length_map, List.length_take]
                  have := hrok.len
                  omega
                refine wpa_app rfl rfl (by simp [aEd_len]) (aEd_one _) (flat_len aEd_len _) (by omega) (by omega) ht ?_
                simp (maxSteps := 1000000) (implicitDefEqProofs := false) (disch := omega) only [push_cast, ↓reduceIte, Nat.reduceEqDiff, reduceCtorEq, wz, hρ]
                refine hN2 (m + 1) _ _ ?_ (by omega)
                have hne : b ≠ 0 := by omega
                simp (maxSteps := 1000000) (implicitDefEqProofs := false) (disch := omega) only [push_cast, ↓reduceIte, Nat.reduceEqDiff, reduceCtorEq, wz, hρ]
                refine ⟨by omega, get_set_ne (by omega) hs, w + 1, ?_, get_set_eq ht⟩
                rw [take_succ_at hp, List.map_append, List.map_singleton]
                exact app_step _ _ _ _
              · simp (maxSteps := 1000000) (implicitDefEqProofs := false) (disch := omega) only [push_cast, ↓reduceIte, Nat.reduceEqDiff, reduceCtorEq, wz, hρ]
                refine hE2 _ _ ?_
                rw [List.take_of_length_le (by omega), ← hce, List.append_assoc, ← rowEd_succ] at h5
                simp (maxSteps := 1000000) (implicitDefEqProofs := false) (disch := omega) only [push_cast, ↓reduceIte, Nat.reduceEqDiff, reduceCtorEq, wz, hρ]
                exact ⟨w, h5, ht⟩
            · rintro ε σ ⟨hρ, w, h5, ht⟩
              simp (maxSteps := 1000000) (implicitDefEqProofs := false) (disch := omega) only [push_cast, ↓reduceIte, Nat.reduceEqDiff, reduceCtorEq, wz, hρ]
              refine hN' (k + 1) _ _ ?_ (by omega)
              simp (maxSteps := 1000000) (implicitDefEqProofs := false) (disch := omega) only [push_cast, ↓reduceIte, Nat.reduceEqDiff, reduceCtorEq, wz, hρ]
              exact ⟨by omega, w, h5, ht⟩
          · simp (maxSteps := 1000000) (implicitDefEqProofs := false) (disch := omega) only [push_cast, ↓reduceIte, Nat.reduceEqDiff, reduceCtorEq, wz, hρ]
            refine hE' _ _ ?_
            have hkr : k = r.length := by omega
            subst hkr
            have hgs : gEd l n ++ rowEd n q r r.length = gEd l (n + 1) := by rw [gEd_succ, hgr, hq]
            rw [hgs] at h5
            simp (maxSteps := 1000000) (implicitDefEqProofs := false) (disch := omega) only [push_cast, ↓reduceIte, Nat.reduceEqDiff, reduceCtorEq, wz, hρ]
            exact ⟨w, h5, ht⟩
        · rintro ε σ ⟨hρ, w, h5, ht⟩
          simp (maxSteps := 1000000) (implicitDefEqProofs := false) (disch := omega) only [push_cast, ↓reduceIte, Nat.reduceEqDiff, reduceCtorEq, wz, hρ]
          refine hN (n + 1) _ _ ?_ (by omega)
          simp (maxSteps := 1000000) (implicitDefEqProofs := false) (disch := omega) only [push_cast, ↓reduceIte, Nat.reduceEqDiff, reduceCtorEq, wz, hρ]
          exact ⟨by omega, w, h5, ht⟩
      · simp (maxSteps := 1000000) (implicitDefEqProofs := false) (disch := omega) only [push_cast, ↓reduceIte, Nat.reduceEqDiff, reduceCtorEq, wz, hρ]
        refine hE _ _ ⟨w, ?_⟩
        have : n = l.length := by omega
        subst this
        simp (maxSteps := 1000000) (implicitDefEqProofs := false) (disch := omega) only [push_cast, ↓reduceIte, Nat.reduceEqDiff, reduceCtorEq, wz]
        exact h5
    · rintro ε σ ⟨w, h5⟩
      simp (maxSteps := 1000000) (implicitDefEqProofs := false) (disch := omega) only [push_cast, ↓reduceIte, Nat.reduceEqDiff, reduceCtorEq, wz, h5]
      exact fin_tup2 [] (aEds_res _ _ _) (res_v _ _) (aEds_pure _) rfl rfl
  · rw [if_neg h0]
    simp (maxSteps := 1000000) (implicitDefEqProofs := false) (disch := omega) only [push_cast, ↓reduceIte, Nat.reduceEqDiff, reduceCtorEq, wz, aInt, h0]
    exact fin_tup2 [] (aEds_res _ [] _) (res_v _ _) (aEds_pure _) rfl rfl
end
section
abbrev Mp := List ((Int × Int) × Int)
def getE : Mp → Int × Int → Int
  | [], _ => 0
  | e :: M, p => if p = e.1 then e.2 else getE M p
def putE : Mp → Int × Int → Int → Mp
  | [], p, x => [(p, x)]
  | e :: M, p, x => if p = e.1 then (p, x) :: M else e :: putE M p x
theorem getE_put (M : Mp) (p q : Int × Int) (x : Int) : getE (putE M p x) q = if q = p then x else getE M q := by
  induction M with
  | nil => simp [putE, getE]
  | cons e M ih =>
    simp only [putE]
    split
    · rename_i h
      subst h
      simp only [getE]
      split <;> rfl
    · rename_i h
      simp only [getE, ih]
      by_cases h1 : q = e.1
      · rw [if_pos h1, if_pos h1, if_neg]
        intro h2; exact h (h2.symm.trans h1)
      · rw [if_neg h1, if_neg h1]
def kvN (e : (Int × Int) × Int) : Value × AV := (vN e.1, .v (.int .i64 e.2))
theorem getM_N {M : Mp} (hM : ∀ e ∈ M, okP e.1) {p : Int × Int} (hp : okP p) : getM (.complex .f64) (.v (.int .i64 0)) (vN p) (M.map kvN) = some (.v (.int .i64 (getE M p))) := by
  induction M with
  | nil => rfl
  | cons e M ih =>
    simp only [List.map_cons, getM, kvN, eqC_N hp (hM e (by simp)), getE]
    by_cases h : p = e.1
    · simp [h]
    · simp only [h, decide_false, if_false]
      exact ih fun x hx => hM x (by simp [hx])
theorem putM_N {M : Mp} (hM : ∀ e ∈ M, okP e.1) {p : Int × Int} (hp : okP p) (x : Int) : putM (.complex .f64) (vN p) (.v (.int .i64 x)) (M.map kvN) = some ((putE M p x).map kvN) := by
  induction M with
  | nil => rfl
  | cons e M ih =>
    simp only [List.map_cons, putM, kvN, eqC_N hp (hM e (by simp)), putE]
    by_cases h : p = e.1
    · have hs : Instr.sameBits 10000 (vN e.1) (vN p) = true := by
        rw [h]
        simp [vN, Instr.sameBits]
      simp only [h, decide_true, if_true]
      rw [h] at hs
      rw [if_pos hs]
      rfl
    · simp only [h, decide_false, if_false]
      have := ih fun x hx => hM x (by simp [hx])
      rw [this]
      rfl
theorem putE_ok {M : Mp} (hM : ∀ e ∈ M, okP e.1) {p : Int × Int} (hp : okP p) (x : Int) : ∀ e ∈ putE M p x, okP e.1 := by
  induction M with
  | nil => intro e he; simp [putE] at he; subst he; exact hp
  | cons d M ih =>
    intro e he
    simp only [putE] at he
    split at he
    · rcases List.mem_cons.1 he with h | h
      · subst h; exact hp
      · exact hM e (by simp [h])
    · rcases List.mem_cons.1 he with h | h
      · subst h; exact hM _ (by simp)
      · exact ih (fun x hx => hM x (by simp [hx])) e h
def stepM (M : Mp) (e : Ed) : Mp := if 0 < getE M e.1 then putE M e.2 (getE M e.2 + 1) else M
def foldM (l : List Ed) (a : Int × Int) : Mp := l.foldl stepM [(a, 1)]
theorem foldM_snoc (l : List Ed) (e : Ed) (a : Int × Int) : foldM (l ++ [e]) a = stepM (foldM l a) e := by simp [foldM]
theorem foldM_ok {l : List Ed} (hl : ∀ e ∈ l, okP e.1 ∧ okP e.2) {a : Int × Int} (ha : okP a) : (∀ e ∈ foldM l a, okP e.1) ∧ ∀ p, 0 ≤ getE (foldM l a) p ∧ getE (foldM l a) p ≤ l.length + 1 := by
  induction l using snoc_ind with
  | h0 =>
    refine ⟨fun e he => by simp [foldM] at he; subst he; exact ha, fun p => ?_⟩
    simp only [foldM, List.foldl_nil, getE]
    split <;> simp
  | hs l e ih =>
    obtain ⟨i1, i2⟩ := ih fun e he => hl e (by simp [he])
    have he := hl e (by simp)
    rw [foldM_snoc, stepM]
    split
    · refine ⟨putE_ok i1 he.2 _, fun p => ?_⟩
      rw [getE_put]
      have h1 := i2 p
      have h2 := i2 e.2
      rw [List.length_append, List.length_singleton]
      split <;> omega
    · refine ⟨i1, fun p => ?_⟩
      have h1 := i2 p
      rw [List.length_append, List.length_singleton]
      omega
theorem edgeL_ok {l : List (List CC)} (h : gchk l = 0) : (∀ e ∈ edgeL l, okP e.1 ∧ okP e.2) ∧ (edgeL l).length ≤ 20000 := by
  obtain ⟨hll, hok⟩ := gchk_ok h
  have hlr : ∀ r ∈ l, r.length ≤ 100 := fun r hr => (hok r hr).len
  refine ⟨fun e he => ?_, by have := gEd_len hlr l.length; unfold edgeL; omega⟩
  have hb : ∀ n, ∀ c ∈ l.getD n [], 0 ≤ c.st ∧ c.st ≤ 1048575 := by
    intro n c hc
    rw [List.getD_eq_getElem?_getD] at hc
    cases hx : l[n]? with
    | none => rw [hx] at hc; cases hc
    | some r => rw [hx] at hc; exact (hok r (List.mem_of_getElem? hx)).bd c hc
  unfold edgeL gEd at he
  obtain ⟨i, hi, he⟩ := List.mem_flatMap.1 he
  rw [List.mem_range] at hi
  unfold rowEd at he
  obtain ⟨k, hk, he⟩ := List.mem_flatMap.1 he
  rw [List.mem_range] at hk
  unfold cellEd at he
  obtain ⟨p, hp, rfl⟩ := List.mem_map.1 he
  refine ⟨cellP_ok (by omega) (hb _) (hb _) p hp, ⟨by simp only; omega, by simp only; omega⟩, ?_⟩
  rw [List.getD_eq_getElem?_getD]
  cases hx : (l.getD i [])[k]? with
  | none => exact ⟨by simp [nc], by simp [nc]⟩
  | some c => have := hb i c (List.mem_of_getElem? hx); exact ⟨by simp; omega, by simp; omega⟩
def bfE (l : List (List CC)) (p q : Int × Int) : Bool := decide (gchk l = 0) && !decide (p = q) && decide (0 < getE (foldM (edgeL l) p) q)

set_option maxHeartbeats 2000000 in
theorem grid_Before_a (l : List (List CC)) (p q : Int × Int) (hl : l.length ≤ 9223372036854775807) (hl2 : ∀ r ∈ l, r.length ≤ 9223372036854775807) (hp : okP p) (hq : okP q) :
    FnP Try.prog 39 [aRows l, aN p, aN q] fun a => a = aBool (bfE l p q) := by
  refine fnP_in K_grid_Before mixed rfl (by simp [AV.pureL, aRows_pure, aN_pure]) ?_
  simp only [S_grid_Before]
  simp (maxSteps := 1000000) (implicitDefEqProofs := false) (disch := omega) only [push_cast, ↓reduceIte, Nat.reduceEqDiff, reduceCtorEq, wz]
  refine wpa_call (grid_Edges_a l hl hl2) ?_
  rintro a rfl
  by_cases h0 : gchk l = 0
  · obtain ⟨hok, hlen⟩ := edgeL_ok h0
    by_cases hpq : p = q
    · subst hpq
      have hb : bfE l p p = false := by unfold bfE; simp
      have hv : PF.val (.bin .eql) [vN p, vN p] = some (.bool true) := by rw [v_ceq hp hp]; simp
      simp (maxSteps := 1000000) (implicitDefEqProofs := false) (disch := omega) only [push_cast, ↓reduceIte, Nat.reduceEqDiff, reduceCtorEq, wz, aInt, h0, aN, hv]
      exact ⟨[], rfl, by rw [hb]; rfl⟩
    · have hb : bfE l p q = decide (0 < getE (foldM (edgeL l) p) q) := by unfold bfE; simp [hpq, h0]
      have hv := v_ceq hp hq
      rw [if_pos h0, hb]
      generalize hE : edgeL l = es at hok hlen
      simp (maxSteps := 1000000) (implicitDefEqProofs := false) (disch := omega) only [push_cast, ↓reduceIte, Nat.reduceEqDiff, reduceCtorEq, wz, aInt, h0, aN, hv, hpq, aEds, aSlN]
      refine wpa_mkm ?_
      simp (maxSteps := 1000000) (implicitDefEqProofs := false) (disch := omega) only [push_cast, ↓reduceIte, Nat.reduceEqDiff, reduceCtorEq, wz]
      refine wpa_mup (es := []) (ys := (foldM [] p).map kvN) rfl rfl ?_
      simp (maxSteps := 1000000) (implicitDefEqProofs := false) (disch := omega) only [push_cast, ↓reduceIte, Nat.reduceEqDiff, reduceCtorEq, wz]
      refine wpa_bl (α := Nat) (I := fun n ε σ => (ε 2 = .v (vN q) ∧ ε 9 = .mp 0 ∧ ε 27 = .sl es.length (es.flatMap aEd) .none ∧ ε 28 = .v (.int .i64 es.length) ∧ ε 29 = .v (.int .i64 n)) ∧ n ≤ es.length ∧ σ[0]? = some (.map ((foldM (es.take n) p).map kvN)))
        (μ := fun n => es.length - n) (Q := fun ε σ => (ε 2 = .v (vN q) ∧ ε 9 = .mp 0) ∧ σ[0]? = some (.map ((foldM es p).map kvN))) (x := 0) ?_ ?_ ?_
      · simp (maxSteps := 1000000) (implicitDefEqProofs := false) (disch := omega) only [push_cast, ↓reduceIte, Nat.reduceEqDiff, reduceCtorEq, wz]
        exact Nat.zero_le _
      · rintro n ε σ N E ⟨hρ, hn, hs⟩ hN hE'
        simp only [S_grid_Before_L1]
        by_cases hlt : n < es.length
        · obtain ⟨e, he⟩ := at_lt hlt
          have heo := hok e (List.mem_of_getElem? he)
          have hde := flat_drop aEd_len he
          have hcl : ∀ m : List AV, cellsA (some 2) (aEd e ++ m) = some (.agg (aEd e)) := fun m => by rw [cellsA_n _ _ (by simp [aEd_len])]; rfl
          obtain ⟨hM, hMb⟩ := foldM_ok (l := es.take n) (fun x hx => hok x (List.mem_of_mem_take hx)) hp
          have hst := foldM_snoc (es.take n) e p
          rw [← take_succ_at he] at hst
          have hb1 := hMb e.1
          have hb2 := hMb e.2
          rw [List.length_take] at hb1 hb2
          generalize hF : foldM (es.take n) p = M at hs hM hst hb1 hb2
          simp (maxSteps := 1000000) (implicitDefEqProofs := false) (disch := omega) only [push_cast, ↓reduceIte, Nat.reduceEqDiff, reduceCtorEq, wz, hρ, hde, hcl]
          refine wpa_new ?_
          simp (maxSteps := 1000000) (implicitDefEqProofs := false) (disch := omega) only [push_cast, ↓reduceIte, Nat.reduceEqDiff, reduceCtorEq, wz]
          refine wpa_stn (aEd_len e) (by rfl) (at_snoc _ _) (by simp) ?_
          have hset : setAtA [AV.v (.complex .f64 0 0), AV.v (.complex .f64 0 0)] 0 (aEd e) = aEd e := rfl
          have f0 : (aEd e)[Int.toNat 0]? = some (.v (vN e.1)) := rfl
          have f1 : (aEd e)[Int.toNat 1]? = some (.v (vN e.2)) := rfl
          have hs1 : (σ ++ [Res.obj 0 (aEd e)])[0]? = some (.map (M.map kvN)) := get_app hs
          have hb3 : (σ ++ [Res.obj 0 (aEd e)])[σ.length]? = some (.obj 0 (aEd e)) := at_snoc _ _
          have hl0 := lt_at hs
          simp (maxSteps := 1000000) (implicitDefEqProofs := false) (disch := omega) only [push_cast, ↓reduceIte, Nat.reduceEqDiff, reduceCtorEq, wz, hset]
          generalize hS : σ ++ [Res.obj 0 (aEd e)] = S at hs1 hb3 ⊢
          generalize hb : σ.length = b at hb3 hl0 ⊢
          clear hS hb
          simp (maxSteps := 1000000) (implicitDefEqProofs := false) (disch := omega) only [push_cast, ↓reduceIte, Nat.reduceEqDiff, reduceCtorEq, wz, hρ, hb3, f0]
          refine wpa_mlk hs1 (getM_N hM heo.1) ?_
          by_cases hg : 0 < getE M e.1
          · simp (maxSteps := 1000000) (implicitDefEqProofs := false) (disch := omega) only [push_cast, ↓reduceIte, Nat.reduceEqDiff, reduceCtorEq, wz, hg, hρ, hb3, f1]
            refine wpa_mlk hs1 (getM_N hM heo.2) ?_
            simp (maxSteps := 1000000) (implicitDefEqProofs := false) (disch := omega) only [push_cast, ↓reduceIte, Nat.reduceEqDiff, reduceCtorEq, wz]
            refine wpa_mup hs1 (putM_N hM heo.2 _) ?_
            simp (maxSteps := 1000000) (implicitDefEqProofs := false) (disch := omega) only [push_cast, ↓reduceIte, Nat.reduceEqDiff, reduceCtorEq, wz, hρ]
            refine hN (n + 1) _ _ ?_ (by omega)
            simp (maxSteps := 1000000) (implicitDefEqProofs := false) (disch := omega) only [push_cast, ↓reduceIte, Nat.reduceEqDiff, reduceCtorEq, wz, hρ]
            refine ⟨by omega, ?_⟩
            rw [get_set_eq hs1, hst, stepM, if_pos hg]
          · simp (maxSteps := 1000000) (implicitDefEqProofs := false) (disch := omega) only [push_cast, ↓reduceIte, Nat.reduceEqDiff, reduceCtorEq, wz, hg, hρ]
            refine hN (n + 1) _ _ ?_ (by omega)
            simp (maxSteps := 1000000) (implicitDefEqProofs := false) (disch := omega) only [push_cast, ↓reduceIte, Nat.reduceEqDiff, reduceCtorEq, wz, hρ]
            refine ⟨by omega, ?_⟩
            rw [hs1, hst, stepM, if_neg hg]
        · simp (maxSteps := 1000000) (implicitDefEqProofs := false) (disch := omega) only [push_cast, ↓reduceIte, Nat.reduceEqDiff, reduceCtorEq, wz, hρ]
          refine hE' _ _ ?_
          rw [List.take_of_length_le (by omega)] at hs
          simp (maxSteps := 1000000) (implicitDefEqProofs := false) (disch := omega) only [push_cast, ↓reduceIte, Nat.reduceEqDiff, reduceCtorEq, wz, hρ]
          exact hs
      · rintro ε σ ⟨hρ, hs⟩
        obtain ⟨hM, _⟩ := foldM_ok hok hp
        simp (maxSteps := 1000000) (implicitDefEqProofs := false) (disch := omega) only [push_cast, ↓reduceIte, Nat.reduceEqDiff, reduceCtorEq, wz, hρ]
        refine wpa_mlk hs (getM_N hM hq) ?_
        simp (maxSteps := 1000000) (implicitDefEqProofs := false) (disch := omega) only [push_cast, ↓reduceIte, Nat.reduceEqDiff, reduceCtorEq, wz]
        exact ⟨[], rfl, rfl⟩
  · have hb : bfE l p q = false := by unfold bfE; simp [h0]
    simp (maxSteps := 1000000) (implicitDefEqProofs := false) (disch := omega) only [push_cast, ↓reduceIte, Nat.reduceEqDiff, reduceCtorEq, wz, aInt, h0]
    exact ⟨[], rfl, by rw [hb]; rfl⟩
end
section
def twoR : List (List CC) := [[⟨0, false⟩, ⟨1, false⟩], [⟨0, false⟩, ⟨1, true⟩]]
theorem law33_two_a : FnP Try.prog 68 [] fun a => a = aRows twoR := by
  refine fnP_in K_forebaylaw33_two mixed rfl rfl ?_
  simp only [S_forebaylaw33_two]
  have h0 : fillA [AV.v (.int .i64 0), AV.v (.bool false)] [] [] = some [AV.v (.int .i64 0), AV.v (.bool false)] := rfl
  have h1 : fillA [AV.v (.int .i64 0), AV.v (.bool false)] [(0, 1)] [AV.v (.int .i64 1)] = some [AV.v (.int .i64 1), AV.v (.bool false)] := by simp [fillA, AV.cells, Value.cells, setAtA]
  have h2 : fillA [AV.v (.int .i64 0), AV.v (.bool false)] [(0, 1), (1, 1)] [AV.v (.int .i64 1), AV.v (.bool true)] = some [AV.v (.int .i64 1), AV.v (.bool true)] := by simp [fillA, AV.cells, Value.cells, setAtA]
  simp (maxSteps := 1000000) (implicitDefEqProofs := false) (disch := omega) only [push_cast, ↓reduceIte, Nat.reduceEqDiff, reduceCtorEq, wz, h0, h1]
  refine wpa_bsl (by simp [AV.cells]) (by simp) ?_
  simp (maxSteps := 1000000) (implicitDefEqProofs := false) (disch := omega) only [push_cast, ↓reduceIte, Nat.reduceEqDiff, reduceCtorEq, wz, h0, h2]
  refine wpa_bsl (by simp [AV.cells]) (by simp) ?_
  simp (maxSteps := 1000000) (implicitDefEqProofs := false) (disch := omega) only [push_cast, ↓reduceIte, Nat.reduceEqDiff, reduceCtorEq, wz]
  refine wpa_bsl (by simp [AV.cells]) (by simp) ?_
  simp (maxSteps := 1000000) (implicitDefEqProofs := false) (disch := omega) only [push_cast, ↓reduceIte, Nat.reduceEqDiff, reduceCtorEq, wz]
  refine fin_res [] ?_ (aRows_pure _)
  simp [AV.res, AV.resL, aRows, aSl, aRow, aSlN, aCC, twoR, AV.cells]
theorem fl3 : fl 3 = 4613937818241073152 := by decide
theorem fl4 : fl 4 = 4616189618054758400 := by decide
set_option maxHeartbeats 1000000 in
theorem law33_works_a : FnP Try.prog 33 [] fun a => a = aBool true := by
  have hlen : ∀ r ∈ twoR, r.length ≤ 9223372036854775807 := by decide
  have hg : gchk twoR = 0 := by decide
  have hE : edgeL twoR = [((0, 0), (0, 1)), ((0, 0), (1, 0)), ((1, 0), (1, 1)), ((0, 1), (1, 1))] := by decide
  have hB1 : bfE twoR (0, 0) (1, 1) = true := by decide
  have hB2 : bfE twoR (1, 0) (0, 1) = false := by decide
  have ok : ∀ a b : Int, 0 ≤ a → a ≤ 4 → 0 ≤ b → b ≤ 4 → okP (a, b) := fun a b h1 h2 h3 h4 => ⟨⟨h1, by simp only; omega⟩, ⟨h3, by simp only; omega⟩⟩
  refine fnP_in K_forebaylaw33_works mixed rfl rfl ?_
  simp only [S_forebaylaw33_works]
  simp (maxSteps := 1000000) (implicitDefEqProofs := false) (disch := omega) only [push_cast, ↓reduceIte, Nat.reduceEqDiff, reduceCtorEq, wz]
  refine wpa_call law33_two_a ?_
  rintro a rfl
  simp (maxSteps := 1000000) (implicitDefEqProofs := false) (disch := omega) only [push_cast, ↓reduceIte, Nat.reduceEqDiff, reduceCtorEq, wz]
  refine wpa_call (grid_Edges_a twoR (by decide) hlen) ?_
  rintro a rfl
  rw [hg, if_pos rfl, hE]
  have hf : fillA [AV.v (.complex .f64 0 0), AV.v (.complex .f64 0 0)] [(0, 1), (1, 1)] [AV.v (.complex .f64 0 4607182418800017408), AV.v (.complex .f64 4607182418800017408 4607182418800017408)] = some (aEd ((0, 1), (1, 1))) := by
    simp [fillA, AV.cells, Value.cells, setAtA, aEd, aN, vN, fl0, fl1]
  have hq : PF.av (.eqs false [.complex .f64, .complex .f64]) [.agg (aEd ((0, 1), (1, 1))), .agg (aEd ((0, 1), (1, 1)))] = some (.v (.bool true)) := by
    have e := eqC_N (ok 0 1 (by omega) (by omega) (by omega) (by omega)) (ok 0 1 (by omega) (by omega) (by omega) (by omega))
    have e2 := eqC_N (ok 1 1 (by omega) (by omega) (by omega) (by omega)) (ok 1 1 (by omega) (by omega) (by omega) (by omega))
    show ((PF.val (.eqs false [.complex .f64, .complex .f64]) [.agg [vN (0, 1), vN (1, 1)].toArray, .agg [vN (0, 1), vN (1, 1)].toArray]).map AV.v) = _
    simp [PF.val, eqCs, e, e2]
  have hcl : cellsA (some 2) (List.drop (Int.toNat 3 * 2) (aEd ((0, 0), (0, 1)) ++ (aEd ((0, 0), (1, 0)) ++ (aEd ((1, 0), (1, 1)) ++ (aEd ((0, 1), (1, 1)) ++ []))))) = some (.agg (aEd ((0, 1), (1, 1)))) := rfl
  simp (maxSteps := 1000000) (implicitDefEqProofs := false) (disch := omega) only [push_cast, ↓reduceIte, Nat.reduceEqDiff, reduceCtorEq, wz, aInt, aEds, aSlN, hf, hcl, hq]
  refine wpa_call law33_two_a ?_
  rintro a rfl
  simp (maxSteps := 1000000) (implicitDefEqProofs := false) (disch := omega) only [push_cast, ↓reduceIte, Nat.reduceEqDiff, reduceCtorEq, wz]
  have z0 : ∀ (S : St) (a : AV), weak (Go.Kx.freeze [] S) [false, false, false] [a, .v (.complex .f64 0 0), .v (.complex .f64 4607182418800017408 4607182418800017408)] = [a, aN (0, 0), aN (1, 1)] := fun S a => by simp [weak, aN, vN, fl0, fl1]
  have z1 : ∀ (S : St) (a : AV), weak (Go.Kx.freeze [] S) [false, false, false] [a, .v (.complex .f64 4607182418800017408 0), .v (.complex .f64 0 4607182418800017408)] = [a, aN (1, 0), aN (0, 1)] := fun S a => by simp [weak, aN, vN, fl0, fl1]
  have z2 : ∀ (S : St), weak (Go.Kx.freeze [] S) [false] [.v (.complex .f64 4613937818241073152 4616189618054758400)] = [aN (3, 4)] := fun S => by simp [weak, aN, vN, fl3, fl4]
  have z3 : Value.complex .f64 4613937818241073152 4616189618054758400 = vN (3, 4) := by simp [vN, fl3, fl4]
  refine wpa_callw [] [false, false, false] (grid_Before_a twoR (0, 0) (1, 1) (by decide) hlen (ok _ _ (by omega) (by omega) (by omega) (by omega)) (ok _ _ (by omega) (by omega) (by omega) (by omega))) (z0 _ _) ?_
  rintro a rfl
  rw [fzn, hB1]
  simp (maxSteps := 1000000) (implicitDefEqProofs := false) (disch := omega) only [push_cast, ↓reduceIte, Nat.reduceEqDiff, reduceCtorEq, wz, aBool]
  refine wpa_call law33_two_a ?_
  rintro a rfl
  simp (maxSteps := 1000000) (implicitDefEqProofs := false) (disch := omega) only [push_cast, ↓reduceIte, Nat.reduceEqDiff, reduceCtorEq, wz]
  refine wpa_callw [] [false, false, false] (grid_Before_a twoR (1, 0) (0, 1) (by decide) hlen (ok _ _ (by omega) (by omega) (by omega) (by omega)) (ok _ _ (by omega) (by omega) (by omega) (by omega))) (z1 _ _) ?_
  rintro a rfl
  rw [fzn, hB2]
  simp (maxSteps := 1000000) (implicitDefEqProofs := false) (disch := omega) only [push_cast, ↓reduceIte, Nat.reduceEqDiff, reduceCtorEq, wz, aBool]
  refine wpa_callw [] [false] (grid_Iter_a (3, 4) (ok _ _ (by omega) (by omega) (by omega) (by omega))) (z2 _) ?_
  rintro a rfl
  rw [fzn]
  simp (maxSteps := 1000000) (implicitDefEqProofs := false) (disch := omega) only [push_cast, ↓reduceIte, Nat.reduceEqDiff, reduceCtorEq, wz, aInt]
  refine wpa_callw [] [false] (grid_Stage_a (3, 4) (ok _ _ (by omega) (by omega) (by omega) (by omega))) (z2 _) ?_
  rintro a rfl
  rw [fzn]
  simp (maxSteps := 1000000) (implicitDefEqProofs := false) (disch := omega) only [push_cast, ↓reduceIte, Nat.reduceEqDiff, reduceCtorEq, wz, aInt]
  refine wpa_call (grid_Node_a 3 4) ?_
  rintro a rfl
  have e3 : heldI 3 = 3 := by decide
  have e4 : heldI 4 = 4 := by decide
  have hv : PF.val (.bin .eql) [vN (3, 4), vN (3, 4)] = some (.bool true) := by
    rw [v_ceq (ok _ _ (by omega) (by omega) (by omega) (by omega)) (ok _ _ (by omega) (by omega) (by omega) (by omega))]; simp
  rw [e3, e4]
  have hab : absV (vN (3, 4)) = .v (vN (3, 4)) := rfl
  simp (maxSteps := 1000000) (implicitDefEqProofs := false) (disch := omega) only [push_cast, ↓reduceIte, Nat.reduceEqDiff, reduceCtorEq, wz, z3, aN, hab, hv]
  exact ⟨[], rfl⟩

/-- What is not great. -/
def okG (l : List (List CC)) : Prop := l.length ≤ 103 ∧ (∀ r ∈ l, r.length ≤ 102) ∧ (l.map List.length).sum ≤ 300
theorem law33_great_a (l : List (List CC)) (hl : l.length ≤ 9223372036854775807) : FnP Try.prog 34 [aRows l] fun a => ∃ b, a = aBool b ∧ (b = false → okG l) := by
  refine fnP_in K_forebaylaw33_great mixed rfl (by simp [AV.pureL, aRows_pure]) ?_
  simp only [S_forebaylaw33_great, aRows, aSl]
  simp (maxSteps := 1000000) (implicitDefEqProofs := false) (disch := omega) only [push_cast, ↓reduceIte, Nat.reduceEqDiff, reduceCtorEq, wz]
  refine wpa_bl (α := Nat) (I := fun k ε σ => (ε 0 = .sl l.length (l.map aRow) .none ∧ ε 3 = .v (.int .i64 (((l.take k).map List.length).sum : Nat)) ∧ ε 4 = .v (.int .i64 k)) ∧ k ≤ l.length ∧ k ≤ 103 ∧ (∀ r ∈ l.take k, r.length ≤ 102) ∧ ((l.take k).map List.length).sum ≤ 300)
    (μ := fun k => l.length - k) (Q := fun _ _ => okG l) (x := 0) ?_ ?_ ?_
  · simp (maxSteps := 1000000) (implicitDefEqProofs := false) (disch := omega) only [push_cast, ↓reduceIte, Nat.reduceEqDiff, reduceCtorEq, wz]
    exact ⟨rfl, by omega, by omega, by simp, by simp⟩
  · rintro k ε σ N E ⟨hρ, hk, hk2, hal, hsum⟩ hN hE
    simp only [S_forebaylaw33_great_L1]
    by_cases hlt : k < l.length
    · obtain ⟨r, hr⟩ := at_lt hlt
      have hs : ((l.take (k + 1)).map List.length).sum = ((l.take k).map List.length).sum + r.length := by rw [take_succ_at hr]; simp
      generalize ((l.take k).map List.length).sum = s at hρ hsum hs
      by_cases h1 : 102 < k
      · simp (maxSteps := 1000000) (implicitDefEqProofs := false) (disch := omega) only [push_cast, ↓reduceIte, Nat.reduceEqDiff, reduceCtorEq, wz, hρ, hr, aRow, aSlN]
        exact ⟨[], rfl, true, rfl, fun h => by cases h⟩
      · by_cases h2 : 102 < r.length
        · simp (maxSteps := 1000000) (implicitDefEqProofs := false) (disch := omega) only [push_cast, ↓reduceIte, Nat.reduceEqDiff, reduceCtorEq, wz, hρ, hr, aRow, aSlN]
          exact ⟨[], rfl, true, rfl, fun h => by cases h⟩
        · by_cases h3 : 300 < s + r.length
          · have h3' : (300 : Int) < (s : Int) + r.length := by omega
            simp (maxSteps := 1000000) (implicitDefEqProofs := false) (disch := omega) only [push_cast, ↓reduceIte, Nat.reduceEqDiff, reduceCtorEq, wz, hρ, hr, aRow, aSlN, h3']
            exact ⟨[], rfl, true, rfl, fun h => by cases h⟩
          · simp (maxSteps := 1000000) (implicitDefEqProofs := false) (disch := omega) only [push_cast, ↓reduceIte, Nat.reduceEqDiff, reduceCtorEq, wz, hρ, hr, aRow, aSlN]
            refine hN (k + 1) _ _ ?_ (by omega)
            rw [hs]
            simp (maxSteps := 1000000) (implicitDefEqProofs := false) (disch := omega) only [push_cast, ↓reduceIte, Nat.reduceEqDiff, reduceCtorEq, wz, hρ]
            refine ⟨by omega, by omega, ?_, by omega⟩
            rw [take_succ_at hr]
            intro y hy
            rcases List.mem_append.1 hy with hy | hy
            · exact hal y hy
            · simp at hy; subst hy; omega
    · simp (maxSteps := 1000000) (implicitDefEqProofs := false) (disch := omega) only [push_cast, ↓reduceIte, Nat.reduceEqDiff, reduceCtorEq, wz, hρ]
      refine hE _ _ ?_
      rw [List.take_of_length_le (by omega)] at hal hsum
      exact ⟨by omega, hal, hsum⟩
  · rintro ε σ h
    simp (maxSteps := 1000000) (implicitDefEqProofs := false) (disch := omega) only [push_cast, ↓reduceIte, Nat.reduceEqDiff, reduceCtorEq, wz]
    exact ⟨[], rfl, false, rfl, fun _ => h⟩
theorem law33_own_a (l : List (List CC)) (hl : l.length ≤ 1000) (hl2 : ∀ r ∈ l, r.length ≤ 1000) : FnP Try.prog 40 [aRows l] fun a => a = aRows l := by
  refine fnP_in K_forebaylaw33_own mixed rfl (by simp [AV.pureL, aRows_pure]) ?_
  simp only [S_forebaylaw33_own, aRows, aSl]
  simp (maxSteps := 1000000) (implicitDefEqProofs := false) (disch := omega) only [push_cast, ↓reduceIte, Nat.reduceEqDiff, reduceCtorEq, wz]
  refine wpa_blg (GU.tok 3 1 rfl) (α := Nat) (I := fun k ε σ => (ε 0 = .sl l.length (l.map aRow) .none ∧ ε 4 = .v (.int .i64 k)) ∧ k ≤ l.length ∧
      ∃ w, ε 3 = .sl k ((l.take k).map aRow) (.id 0 w 1) ∧ σ = [.tail w])
    (μ := fun k => l.length - k) (Q := fun ε σ => ∃ w, ε 3 = .sl l.length (l.map aRow) (.id 0 w 1)) (x := 0) ?_ ?_ ?_
  · simp (maxSteps := 1000000) (implicitDefEqProofs := false) (disch := omega) only [push_cast, ↓reduceIte, Nat.reduceEqDiff, reduceCtorEq, wz]
    exact ⟨by omega, 0, rfl, rfl⟩
  · rintro k ε σ N E ⟨hρ, hk, w, h3, rfl⟩ hN hE
    simp only [S_forebaylaw33_own_L1]
    by_cases hlt : k < l.length
    · obtain ⟨r, hr⟩ := at_lt hlt
      have hrl := hl2 r (List.mem_of_getElem? hr)
      simp (maxSteps := 1000000) (implicitDefEqProofs := false) (disch := omega) only [push_cast, ↓reduceIte, Nat.reduceEqDiff, reduceCtorEq, wz, hρ, h3, hr]
      refine wpa_bsl (by simp) (by simp) ?_
      simp (maxSteps := 1000000) (implicitDefEqProofs := false) (disch := omega) only [push_cast, ↓reduceIte, Nat.reduceEqDiff, reduceCtorEq, wz, hρ, h3, hr, aRow, aSlN]
      refine wpa_app_full0 rfl rfl (flat_len aCC_len r) (by rw [List.all_flatMap]; simp only [show ∀ c, (aCC c).all AV.one = true from fun c => rfl]; simp) (by simp) (by simp; omega) (by simp; omega) ?_
      simp (maxSteps := 1000000) (implicitDefEqProofs := false) (disch := omega) only [push_cast, ↓reduceIte, Nat.reduceEqDiff, reduceCtorEq, wz, hρ, h3]
      refine wpa_bsl (by simp [AV.cells]) (by simp) ?_
      simp (maxSteps := 1000000) (implicitDefEqProofs := false) (disch := omega) only [push_cast, ↓reduceIte, Nat.reduceEqDiff, reduceCtorEq, wz, hρ, h3]
      refine wpa_app rfl rfl rfl rfl (by simp; omega) (by omega) (by omega) rfl ?_
      simp (maxSteps := 1000000) (implicitDefEqProofs := false) (disch := omega) only [push_cast, ↓reduceIte, Nat.reduceEqDiff, reduceCtorEq, wz, hρ, h3]
      refine hN (k + 1) _ _ ?_ (by omega)
      simp (maxSteps := 1000000) (implicitDefEqProofs := false) (disch := omega) only [push_cast, ↓reduceIte, Nat.reduceEqDiff, reduceCtorEq, wz, hρ]
      refine ⟨by omega, w + 1, ?_, rfl⟩
      rw [take_succ_at hr, List.map_append]
      simp [aRow, aSlN]
    · simp (maxSteps := 1000000) (implicitDefEqProofs := false) (disch := omega) only [push_cast, ↓reduceIte, Nat.reduceEqDiff, reduceCtorEq, wz, hρ]
      refine hE _ _ ⟨w, ?_⟩
      simp (maxSteps := 1000000) (implicitDefEqProofs := false) (disch := omega) only [push_cast, ↓reduceIte, Nat.reduceEqDiff, reduceCtorEq, wz, h3]
      have : k = l.length := by omega
      subst this
      rw [List.take_length]
  · rintro ε σ ⟨w, h3⟩
    simp (maxSteps := 1000000) (implicitDefEqProofs := false) (disch := omega) only [push_cast, ↓reduceIte, Nat.reduceEqDiff, reduceCtorEq, wz, h3]
    refine fin_res [] ?_ (aRows_pure l)
    exact aRows_res _ l _
end
section
/-- What is wrong with a row from its k-th cell on. -/
def rowK (r : List CC) (k : Nat) : Int := if k = 0 then rowT r else if incB (r.getD (k - 1) nc).st (r.drop k) = true then 0 else 4
theorem rowK_end {r : List CC} {k : Nat} (h : ¬ k < r.length) (hr : 0 < r.length) : rowK r k = 0 := by
  unfold rowK
  rw [if_neg (by omega), drop_all h]
  rfl
theorem getD_of {r : List CC} {k : Nat} {c : CC} (h : r[k]? = some c) : r.getD k nc = c := by rw [List.getD_eq_getElem?_getD, h]; rfl
theorem rowK_one {r : List CC} {c : CC} (h : r[0]? = some c) (h1 : c.st = 0) (h2 : c.wt = false) : rowK r 0 = rowK r 1 := by
  cases r with
  | nil => simp at h
  | cons d r =>
    simp at h; subst h
    unfold rowK
    rw [if_pos rfl, if_neg (by omega), rowT, if_neg (by simp [h1, h2])]
    rfl
theorem rowK_succ {r : List CC} {k : Nat} {p c : CC} (h0 : 0 < k) (hp : r[k - 1]? = some p) (hc : r[k]? = some c) : rowK r k = if c.st ≤ p.st ∨ 1048575 < c.st then 4 else rowK r (k + 1) := by
  unfold rowK
  rw [if_neg (c := k = 0) (by omega), if_neg (c := k + 1 = 0) (by omega), Nat.add_sub_cancel, getD_of hc, getD_of hp, drop_at hc, incB]
  by_cases h1 : p.st < c.st
  · by_cases h2 : c.st ≤ 1048575
    · rw [if_neg (c := c.st ≤ p.st ∨ 1048575 < c.st) (by omega)]
      simp [h1, h2]
    · rw [if_pos (c := c.st ≤ p.st ∨ 1048575 < c.st) (by omega)]
      simp [h2]
  · rw [if_pos (c := c.st ≤ p.st ∨ 1048575 < c.st) (by omega)]
    simp [h1]
theorem rowK_bad {r : List CC} {c : CC} (h : r[0]? = some c) (h1 : c.st ≠ 0 ∨ c.wt = true) : rowK r 0 = 4 := by
  cases r with
  | nil => simp at h
  | cons d r =>
    simp at h; subst h
    unfold rowK
    rw [if_pos rfl, rowT, if_pos h1]
set_option maxHeartbeats 1000000 in
theorem ref33_Check_a (l : List (List CC)) (hl : l.length ≤ 9223372036854775807) (hl2 : ∀ r ∈ l, r.length ≤ 9223372036854775807) : FnP Try.prog 35 [aRows l] fun a => a = aInt (gchk l) := by
  refine fnP_in K_forebayref33_Check mixed rfl (by simp [AV.pureL, aRows_pure]) ?_
  simp only [S_forebayref33_Check, aRows, aSl]
  by_cases h1 : 100 < l.length
  · simp (maxSteps := 1000000) (implicitDefEqProofs := false) (disch := omega) only [push_cast, ↓reduceIte, Nat.reduceEqDiff, reduceCtorEq, wz, h1]
    exact ⟨[], rfl, by unfold gchk; rw [if_pos h1]; rfl⟩
  have hE : gchk l = rowsE l := by unfold gchk; rw [if_neg h1]
  rw [hE]
  simp (maxSteps := 1000000) (implicitDefEqProofs := false) (disch := omega) only [push_cast, ↓reduceIte, Nat.reduceEqDiff, reduceCtorEq, wz, h1]
  refine wpa_bl (α := Nat) (I := fun k ε σ => (ε 0 = .sl l.length (l.map aRow) .none ∧ ε 3 = .v (.int .i64 k)) ∧ k ≤ l.length ∧ rowsE l = rowsE (l.drop k))
    (μ := fun k => l.length - k) (Q := fun _ _ => rowsE l = 0) (x := 0) ?_ ?_ ?_
  · simp (maxSteps := 1000000) (implicitDefEqProofs := false) (disch := omega) only [push_cast, ↓reduceIte, Nat.reduceEqDiff, reduceCtorEq, wz]
    first | omega | exact ⟨by omega, rfl⟩ | exact ⟨rfl, by omega, rfl⟩
  · rintro k ε σ N E ⟨hρ, hk, hI⟩ hN hE'
    simp only [S_forebayref33_Check_L1]
    by_cases hlt : k < l.length
    · obtain ⟨r, hr⟩ := at_lt hlt
      have hrl := hl2 r (List.mem_of_getElem? hr)
      rw [drop_at hr, rowsE] at hI
      by_cases h2 : 100 < r.length
      · have hre : rowE r = 9 := by unfold rowE; rw [if_pos h2]
        rw [if_pos (by omega), hre] at hI
        simp (maxSteps := 1000000) (implicitDefEqProofs := false) (disch := omega) only [push_cast, ↓reduceIte, Nat.reduceEqDiff, reduceCtorEq, wz, hρ, hr, aRow, aSlN, h2]
        exact ⟨[], rfl, (congrArg aInt hI).symm⟩
      have hre : rowE r = rowT r := by unfold rowE; rw [if_neg h2]
      by_cases h3 : r.length = 0
      · have hrt : rowT r = 7 := by rw [List.length_eq_zero_iff.1 h3]; rfl
        rw [if_pos (by omega), hre, hrt] at hI
        simp (maxSteps := 1000000) (implicitDefEqProofs := false) (disch := omega) only [push_cast, ↓reduceIte, Nat.reduceEqDiff, reduceCtorEq, wz, hρ, hr, aRow, aSlN, h2, h3]
        exact ⟨[], rfl, (congrArg aInt hI).symm⟩
      have h3' : ¬ ((r.length : Int) = 0) := by omega
      simp (maxSteps := 1000000) (implicitDefEqProofs := false) (disch := omega) only [push_cast, ↓reduceIte, Nat.reduceEqDiff, reduceCtorEq, wz, hρ, hr, aRow, aSlN, h2, h3']
      refine wpa_bl (α := Nat) (I := fun j ε σ => (ε 0 = .sl l.length (l.map aRow) .none ∧ ε 3 = .v (.int .i64 k) ∧ ε 4 = .sl r.length (r.flatMap aCC) .none ∧ ε 5 = .v (.int .i64 j)) ∧ j ≤ r.length ∧ rowT r = rowK r j)
        (μ := fun j => r.length - j) (Q := fun ε σ => (ε 0 = .sl l.length (l.map aRow) .none ∧ ε 3 = .v (.int .i64 k)) ∧ rowT r = 0) (x := 0) ?_ ?_ ?_
      · simp (maxSteps := 1000000) (implicitDefEqProofs := false) (disch := omega) only [push_cast, ↓reduceIte, Nat.reduceEqDiff, reduceCtorEq, wz, hρ]
        exact ⟨by omega, rfl⟩
      · clear hρ hN hE' ε
        rintro j ε σ N E ⟨hρ, hj, hJ⟩ hN hE'
        simp only [S_forebayref33_Check_L2]
        by_cases hjl : j < r.length
        · obtain ⟨c, hc⟩ := at_lt hjl
          have hdc := flat_drop aCC_len hc
          have g0 : ∀ (c : CC) (m : List AV), (aCC c ++ m)[0]? = some (.v (.int .i64 c.st)) := fun c m => rfl
          have g1 : ∀ (c : CC) (m : List AV), (aCC c ++ m)[1]? = some (.v (.bool c.wt)) := fun c m => rfl
          have hdone : rowT r ≠ 0 → rowT r = 4 → rowsE l = 4 := by
            intro h h'; rw [hI, if_pos (by rw [hre]; exact h), hre, h']
          by_cases hj0 : j = 0
          · subst hj0
            have hdz : (r.flatMap aCC).drop (Int.toNat 0 * 2) = aCC c ++ (r.drop 1).flatMap aCC := hdc
            by_cases h4 : c.st = 0
            · cases h5 : c.wt with
              | false =>
                rw [rowK_one hc h4 h5] at hJ
                have h6 : ¬ (1048575 < c.st) := by omega
                simp (maxSteps := 1000000) (implicitDefEqProofs := false) (disch := omega) only [push_cast, ↓reduceIte, Nat.reduceEqDiff, reduceCtorEq, wz, hρ, hdz, g0, g1, h4, h5]
                refine hN 1 _ _ ?_ (by omega)
                simp (maxSteps := 1000000) (implicitDefEqProofs := false) (disch := omega) only [push_cast, ↓reduceIte, Nat.reduceEqDiff, reduceCtorEq, wz, hρ]
                exact ⟨by omega, hJ⟩
              | true =>
                have e : rowT r = 4 := by rw [hJ, rowK_bad hc (.inr h5)]
                simp (maxSteps := 1000000) (implicitDefEqProofs := false) (disch := omega) only [push_cast, ↓reduceIte, Nat.reduceEqDiff, reduceCtorEq, wz, hρ, hdz, g0, g1, h4, h5]
                exact ⟨[], rfl, (congrArg aInt (hdone (by omega) e)).symm⟩
            · have e : rowT r = 4 := by rw [hJ, rowK_bad hc (.inl h4)]
              simp (maxSteps := 1000000) (implicitDefEqProofs := false) (disch := omega) only [push_cast, ↓reduceIte, Nat.reduceEqDiff, reduceCtorEq, wz, hρ, hdz, g0, g1, h4]
              exact ⟨[], rfl, (congrArg aInt (hdone (by omega) e)).symm⟩
          · obtain ⟨p, hp⟩ := at_lt (l := r) (k := j - 1) (by omega)
            have hdp := flat_drop aCC_len hp
            have hdq : (r.flatMap aCC).drop (((j : Int) - 1).toNat * 2) = aCC p ++ (r.drop (j - 1 + 1)).flatMap aCC := by rw [show ((j : Int) - 1).toNat = j - 1 by omega]; exact hdp
            have hj1 : (0 : Int) < j := by omega
            have hj2 : ¬ ((j : Int) = 0) := by omega
            rw [rowK_succ (by omega) hp hc] at hJ
            by_cases h6 : c.st ≤ p.st
            · rw [if_pos (.inl h6)] at hJ
              simp (maxSteps := 1000000) (implicitDefEqProofs := false) (disch := omega) only [push_cast, ↓reduceIte, Nat.reduceEqDiff, reduceCtorEq, wz, hρ, hdc, hdq, g0, g1, hj1, hj2, h6]
              exact ⟨[], rfl, (congrArg aInt (hdone (by omega) hJ)).symm⟩
            · by_cases h7 : 1048575 < c.st
              · rw [if_pos (.inr h7)] at hJ
                simp (maxSteps := 1000000) (implicitDefEqProofs := false) (disch := omega) only [push_cast, ↓reduceIte, Nat.reduceEqDiff, reduceCtorEq, wz, hρ, hdc, hdq, g0, g1, hj1, hj2, h6, h7]
                exact ⟨[], rfl, (congrArg aInt (hdone (by omega) hJ)).symm⟩
              · rw [if_neg (by omega)] at hJ
                simp (maxSteps := 1000000) (implicitDefEqProofs := false) (disch := omega) only [push_cast, ↓reduceIte, Nat.reduceEqDiff, reduceCtorEq, wz, hρ, hdc, hdq, g0, g1, hj1, hj2, h6, h7]
                refine hN (j + 1) _ _ ?_ (by omega)
                simp (maxSteps := 1000000) (implicitDefEqProofs := false) (disch := omega) only [push_cast, ↓reduceIte, Nat.reduceEqDiff, reduceCtorEq, wz, hρ]
                exact ⟨by omega, hJ⟩
        · simp (maxSteps := 1000000) (implicitDefEqProofs := false) (disch := omega) only [push_cast, ↓reduceIte, Nat.reduceEqDiff, reduceCtorEq, wz, hρ]
          refine hE' _ _ ?_
          simp (maxSteps := 1000000) (implicitDefEqProofs := false) (disch := omega) only [push_cast, ↓reduceIte, Nat.reduceEqDiff, reduceCtorEq, wz, hρ]
          rw [hJ, rowK_end hjl (by omega)]
      · clear hρ ε
        rintro ε σ ⟨hρ, h⟩
        rw [if_neg (by rw [hre, h]; simp)] at hI
        simp (maxSteps := 1000000) (implicitDefEqProofs := false) (disch := omega) only [push_cast, ↓reduceIte, Nat.reduceEqDiff, reduceCtorEq, wz, hρ]
        refine hN (k + 1) _ _ ?_ (by omega)
        simp (maxSteps := 1000000) (implicitDefEqProofs := false) (disch := omega) only [push_cast, ↓reduceIte, Nat.reduceEqDiff, reduceCtorEq, wz, hρ]
        exact ⟨by omega, hI⟩
    · simp (maxSteps := 1000000) (implicitDefEqProofs := false) (disch := omega) only [push_cast, ↓reduceIte, Nat.reduceEqDiff, reduceCtorEq, wz, hρ]
      refine hE' _ _ ?_
      rw [hI, drop_all hlt]; rfl
  · rintro ε σ h
    simp (maxSteps := 1000000) (implicitDefEqProofs := false) (disch := omega) only [push_cast, ↓reduceIte, Nat.reduceEqDiff, reduceCtorEq, wz]
    exact ⟨[], rfl, (congrArg aInt h).symm⟩
end
section
def aE4 (e : Ed) : List AV := [.v (.int .i64 e.1.1), .v (.int .i64 e.1.2), .v (.int .i64 e.2.1), .v (.int .i64 e.2.2)]
theorem aE4_len (e : Ed) : (aE4 e).length = 4 := rfl
theorem aE4_one (e : Ed) : (aE4 e).all AV.one = true := rfl
theorem aE4_pure (e : Ed) : AV.pureL (aE4 e) = true := by simp [aE4, AV.pureL, AV.pure]
theorem aE4_res (σ : St) (e : Ed) : AV.resL σ (aE4 e) = aE4 e := by simp [aE4, AV.resL, AV.res]
def aE4s (l : List Ed) : AV := aSlN aE4 l
theorem aE4s_pure (l : List Ed) : (aE4s l).pure = true := aSlN_pure aE4_pure l
theorem aE4s_res (σ : St) (l : List Ed) (t : Tok) : (AV.sl l.length (l.flatMap aE4) t).res σ = aE4s l := aSlN_res (aE4_res σ) l t
theorem app4 (A : List Ed) (e : Ed) (t : Tok) : AV.sl (A.length + 1) (A.flatMap aE4 ++ (aE4 e ++ [])) t = AV.sl (A ++ [e]).length ((A ++ [e]).flatMap aE4) t := by
  simp only [List.flatMap_append, List.length_append, List.flatMap_cons, List.flatMap_nil, List.append_nil, List.length_singleton]
theorem bld4 (a b c d : Int) : fillA [AV.v (.int .i64 0), AV.v (.int .i64 0), AV.v (.int .i64 0), AV.v (.int .i64 0)] [(0, 1), (1, 1), (2, 1), (3, 1)] [AV.v (.int .i64 a), AV.v (.int .i64 b), AV.v (.int .i64 c), AV.v (.int .i64 d)] = some (aE4 ((a, b), (c, d))) := by
  simp [fillA, AV.cells, Value.cells, setAtA, aE4]
def eP1 (i k : Nat) (r : List CC) (c : CC) : List Ed := if k = 0 then [] else [(((i : Int), (r.getD (k - 1) nc).st), ((i : Int), c.st))]
def eP2 (i k : Nat) : List Ed := if 0 < i ∧ k = 0 then [(((i : Int) - 1, 0), ((i : Int), 0))] else []
def eP3 (i k : Nat) (q : List CC) (c : CC) : List Ed := if 0 < i ∧ 0 < k ∧ c.wt = true then [(((i : Int) - 1, lastLE q c.st), ((i : Int), c.st))] else []
theorem cellEd_P {i k : Nat} {q r : List CC} {c : CC} (hc : r[k]? = some c) (h0 : k = 0 → c.st = 0) : cellEd i q r k = eP1 i k r c ++ eP2 i k ++ eP3 i k q c := by
  unfold cellEd cellP eP1 eP2 eP3
  rw [getD_of hc]
  by_cases hi : i = 0
  · subst hi
    by_cases hk : k = 0
    · subst hk; simp
    · simp [hk]
  · have hi' : 0 < i := by omega
    by_cases hk : k = 0
    · subst hk; simp [hi, hi', h0 rfl]
    · have hk' : 0 < k := by omega
      cases hw : c.wt <;> simp [hi, hi', hk, hk']
def E4st (l : List (List CC)) (i k : Nat) (c : CC) (A : List Ed) (ε : AEnv) (σ : St) : Prop :=
  (ε 0 = .sl l.length (l.map aRow) .none ∧ ε 4 = .v (.int .i64 i) ∧ ε 5 = .v (.int .i64 k)) ∧ (∃ b, 0 < b ∧ ε 6 = .ref b 0 0 ∧ σ[b]? = some (.obj 0 (aCC c))) ∧ ∃ w, ε 3 = .sl A.length (A.flatMap aE4) (.id 0 w 4) ∧ σ[0]? = some (.tail w)
set_option maxHeartbeats 2000000 in
theorem ref33_Edges_a (l : List (List CC)) (h0 : gchk l = 0) : FnP Try.prog 56 [aRows l] fun a => a = aE4s (edgeL l) := by
  refine fnP_in K_forebayref33_Edges mixed rfl (by simp [AV.pureL, aRows_pure]) ?_
  simp only [S_forebayref33_Edges]
  obtain ⟨hll, hok⟩ := gchk_ok h0
  have hlr : ∀ r ∈ l, r.length ≤ 100 := fun r hr => (hok r hr).len
  simp (maxSteps := 1000000) (implicitDefEqProofs := false) (disch := omega) only [push_cast, ↓reduceIte, Nat.reduceEqDiff, reduceCtorEq, wz, aInt, h0, aRows, aSl]
  refine wpa_blgx (GU.tok 3 4 rfl) (α := Nat) (I := fun n ε σ => (ε 0 = .sl l.length (l.map aRow) .none ∧ ε 4 = .v (.int .i64 n)) ∧ n ≤ l.length ∧
      ∃ w, ε 3 = .sl (gEd l n).length ((gEd l n).flatMap aE4) (.id 0 w 4) ∧ σ[0]? = some (.tail w))
    (μ := fun n => l.length - n) (Q := fun ε σ => ∃ w, ε 3 = .sl (edgeL l).length ((edgeL l).flatMap aE4) (.id 0 w 4)) (x := 0) ?_ ?_ ?_
  · simp (maxSteps := 1000000) (implicitDefEqProofs := false) (disch := omega) only [push_cast, ↓reduceIte, Nat.reduceEqDiff, reduceCtorEq, wz]
    exact ⟨by omega, 0, rfl, rfl⟩
  · rintro n ε σ N E X R ⟨hρ, hn, w, h3, ht⟩ hN hE
    simp only [S_forebayref33_Edges_L1]
    by_cases hlt : n < l.length
    · obtain ⟨r, hr⟩ := at_lt hlt
      have hrok := hok r (List.mem_of_getElem? hr)
      have hr100 := hrok.len
      have hgr : l.getD n [] = r := by rw [List.getD_eq_getElem?_getD, hr]; rfl
      generalize hq : l.getD (n - 1) [] = q
      have hqq : 0 < n → l[n - 1]? = some q := by
        intro h
        obtain ⟨q', hq'⟩ := at_lt (l := l) (k := n - 1) (by omega)
        rw [← hq, List.getD_eq_getElem?_getD, hq']; rfl
      have hgl := gEd_len hlr n
      simp (maxSteps := 1000000) (implicitDefEqProofs := false) (disch := omega) only [push_cast, ↓reduceIte, Nat.reduceEqDiff, reduceCtorEq, wz, hρ, hr, aRow, aSlN]
      refine wpa_blx (α := Nat) (I := fun k ε σ => (ε 0 = .sl l.length (l.map aRow) .none ∧ ε 4 = .v (.int .i64 n) ∧ ε 5 = .v (.int .i64 k)) ∧ k ≤ r.length ∧
          ∃ w, ε 3 = .sl (gEd l n ++ rowEd n q r k).length ((gEd l n ++ rowEd n q r k).flatMap aE4) (.id 0 w 4) ∧ σ[0]? = some (.tail w))
        (μ := fun k => r.length - k) (Q := fun ε σ => (ε 0 = .sl l.length (l.map aRow) .none ∧ ε 4 = .v (.int .i64 n)) ∧
          ∃ w, ε 3 = .sl (gEd l (n + 1)).length ((gEd l (n + 1)).flatMap aE4) (.id 0 w 4) ∧ σ[0]? = some (.tail w)) (x := 0) ?_ ?_ ?_
      · simp (maxSteps := 1000000) (implicitDefEqProofs := false) (disch := omega) only [push_cast, ↓reduceIte, Nat.reduceEqDiff, reduceCtorEq, wz, hρ, h3]
        exact ⟨by omega, w, by simp [rowEd], ht⟩
      · clear hρ h3 ht ε
        rintro k ε σ N' E' X' R' ⟨hρ, hk, w, h3, ht⟩ hN' hE'
        simp only [S_forebayref33_Edges_L2]
        by_cases hkl : k < r.length
        · obtain ⟨c, hc⟩ := at_lt hkl
          have hcb := hrok.bd c (List.mem_of_getElem? hc)
          have hc0 : k = 0 → c.st = 0 := fun h => by subst h; exact (hrok.first c hc).1
          have hdc := flat_drop aCC_len hc
          have hcl : ∀ m : List AV, cellsA (some 2) (aCC c ++ m) = some (.agg (aCC c)) := fun m => by rw [cellsA_n _ _ (by simp [aCC_len])]; rfl
          have hrl := rowEd_len n q r k
          have hce := cellEd_P (i := n) (q := q) hc hc0
          have hsl : (gEd l n ++ rowEd n q r k).length ≤ 100000 := by rw [List.length_append]; omega
          have hsu : gEd l n ++ rowEd n q r (k + 1) = gEd l n ++ rowEd n q r k ++ eP1 n k r c ++ eP2 n k ++ eP3 n k q c := by rw [rowEd_succ, hce]; simp only [List.append_assoc]
          have hN1 := hN' (k + 1)
          rw [hsu] at hN1
          clear hsu hce hrl hN'
          generalize gEd l n ++ rowEd n q r k = A at h3 hsl hN1
          have g0 : ∀ (c : CC) (m : List AV), (aCC c ++ m)[0]? = some (.v (.int .i64 c.st)) := fun c m => rfl
          have f0 : (aCC c)[0]? = some (.v (.int .i64 c.st)) := rfl
          have f1 : (aCC c)[1]? = some (.v (.bool c.wt)) := rfl
          have hset : setAtA [AV.v (.int .i64 0), AV.v (.bool false)] 0 (aCC c) = aCC c := rfl
          have hl0 := lt_at ht
          simp (maxSteps := 1000000) (implicitDefEqProofs := false) (disch := omega) only [push_cast, ↓reduceIte, Nat.reduceEqDiff, reduceCtorEq, wz, hρ, hr, aRow, aSlN, hdc, hcl]
          refine wpa_new ?_
          simp (maxSteps := 1000000) (implicitDefEqProofs := false) (disch := omega) only [push_cast, ↓reduceIte, Nat.reduceEqDiff, reduceCtorEq, wz]
          refine wpa_stn (aCC_len c) (by rfl) (at_snoc _ _) (by simp) ?_
          have ht1 : (σ ++ [Res.obj 0 (aCC c)])[0]? = some (.tail w) := get_app ht
          have hb1 : (σ ++ [Res.obj 0 (aCC c)])[σ.length]? = some (.obj 0 (aCC c)) := at_snoc _ _
          simp (maxSteps := 1000000) (implicitDefEqProofs := false) (disch := omega) only [push_cast, ↓reduceIte, Nat.reduceEqDiff, reduceCtorEq, wz, hset]
          generalize hS : σ ++ [Res.obj 0 (aCC c)] = S at ht1 hb1 ⊢
          generalize hb : σ.length = b at hb1 hl0 ⊢
          clear hS hb ht
          by_cases hk0 : k = 0
          · subst hk0
            have hk1 : ¬ (0 : Int) < 0 := by omega
            by_cases hn0 : n = 0
            · subst hn0
              simp (maxSteps := 1000000) (implicitDefEqProofs := false) (disch := omega) only [push_cast, ↓reduceIte, Nat.reduceEqDiff, reduceCtorEq, wz, hρ]
              refine hN1 _ _ ?_ (by omega)
              simp (maxSteps := 1000000) (implicitDefEqProofs := false) (disch := omega) only [push_cast, ↓reduceIte, Nat.reduceEqDiff, reduceCtorEq, wz, hρ, h3]
              exact ⟨by omega, w, by simp [eP1, eP2, eP3], ht1⟩
            · have hn1 : (0 : Int) < n := by omega
              simp (maxSteps := 1000000) (implicitDefEqProofs := false) (disch := omega) only [push_cast, ↓reduceIte, Nat.reduceEqDiff, reduceCtorEq, wz, hρ, hn1, bld4]
              refine wpa_bsl (sz := 4) (by intro a ha; simp at ha; subst ha; rfl) (by simp) ?_
              have hcc : ∀ e, (AV.agg (aE4 e)).cells = aE4 e := fun e => rfl
              simp (maxSteps := 1000000) (implicitDefEqProofs := false) (disch := omega) only [push_cast, ↓reduceIte, Nat.reduceEqDiff, reduceCtorEq, wz, hcc, h3]
              refine wpa_app rfl rfl (by simp [aE4_len]) (aE4_one _) (flat_len aE4_len _) (by omega) (by omega) ht1 ?_
              simp (maxSteps := 1000000) (implicitDefEqProofs := false) (disch := omega) only [push_cast, ↓reduceIte, Nat.reduceEqDiff, reduceCtorEq, wz, hρ]
              refine hN1 _ _ ?_ (by omega)
              simp (maxSteps := 1000000) (implicitDefEqProofs := false) (disch := omega) only [push_cast, ↓reduceIte, Nat.reduceEqDiff, reduceCtorEq, wz, hρ, app4]
              refine ⟨by omega, w + 1, ?_, get_set_eq ht1⟩
              have e1 : eP1 n 0 r c = [] := rfl
              have e2 : eP2 n 0 = [(((n : Int) - 1, 0), ((n : Int), 0))] := by unfold eP2; rw [if_pos ⟨by omega, rfl⟩]
              have e3 : eP3 n 0 q c = [] := by simp [eP3]
              rw [e1, e2, e3, List.append_nil, List.append_nil]
          · have hk1 : (0 : Int) < k := by omega
            have hk2 : ¬ ((k : Int) = 0) := by omega
            obtain ⟨p, hp⟩ := at_lt (l := r) (k := k - 1) (by omega)
            have hdp := flat_drop aCC_len hp
            have hdq : (r.flatMap aCC).drop (((k : Int) - 1).toNat * 2) = aCC p ++ (r.drop (k - 1 + 1)).flatMap aCC := by rw [show ((k : Int) - 1).toNat = k - 1 by omega]; exact hdp
            have hcc : ∀ e, (AV.agg (aE4 e)).cells = aE4 e := fun e => rfl
            have e1 : eP1 n k r c = [(((n : Int), p.st), ((n : Int), c.st))] := by unfold eP1; rw [if_neg hk0, getD_of hp]
            have e2 : eP2 n k = [] := by unfold eP2; rw [if_neg (by omega)]
            rw [e1, e2, List.append_nil] at hN1
            simp (maxSteps := 1000000) (implicitDefEqProofs := false) (disch := omega) only [push_cast, ↓reduceIte, Nat.reduceEqDiff, reduceCtorEq, wz, hρ, hr, aRow, aSlN, hdq, hk1, g0, hb1, f0, bld4]
            refine wpa_bsl (sz := 4) (by intro a ha; simp at ha; subst ha; rfl) (by simp) ?_
            simp (maxSteps := 1000000) (implicitDefEqProofs := false) (disch := omega) only [push_cast, ↓reduceIte, Nat.reduceEqDiff, reduceCtorEq, wz, hcc, h3]
            refine wpa_app rfl rfl (by simp [aE4_len]) (aE4_one _) (flat_len aE4_len _) (by omega) (by omega) ht1 ?_
            have ht2 : (S.set 0 (.tail (w + 1)))[0]? = some (.tail (w + 1)) := get_set_eq ht1
            have hb2 : (S.set 0 (.tail (w + 1)))[b]? = some (.obj 0 (aCC c)) := get_set_ne (by omega) hb1
            rw [app4]
            generalize S.set 0 (.tail (w + 1)) = S2 at ht2 hb2 ⊢
            have hsl2 : (A ++ [(((n : Int), p.st), ((n : Int), c.st))]).length ≤ 100001 := by simp; omega
            generalize A ++ [(((n : Int), p.st), ((n : Int), c.st))] = A2 at hN1 hsl2 ⊢
            by_cases hn0 : n = 0
            · subst hn0
              simp (maxSteps := 1000000) (implicitDefEqProofs := false) (disch := omega) only [push_cast, ↓reduceIte, Nat.reduceEqDiff, reduceCtorEq, wz, hρ]
              refine hN1 _ _ ?_ (by omega)
              simp (maxSteps := 1000000) (implicitDefEqProofs := false) (disch := omega) only [push_cast, ↓reduceIte, Nat.reduceEqDiff, reduceCtorEq, wz, hρ]
              exact ⟨by omega, w + 1, by simp [eP3], ht2⟩
            · have hn1 : (0 : Int) < n := by omega
              cases hw : c.wt with
              | false =>
                simp (maxSteps := 1000000) (implicitDefEqProofs := false) (disch := omega) only [push_cast, ↓reduceIte, Nat.reduceEqDiff, reduceCtorEq, wz, hρ, hn1, hk1, hk2, hb2, f1, hw]
                refine hN1 _ _ ?_ (by omega)
                simp (maxSteps := 1000000) (implicitDefEqProofs := false) (disch := omega) only [push_cast, ↓reduceIte, Nat.reduceEqDiff, reduceCtorEq, wz, hρ]
                exact ⟨by omega, w + 1, by simp [eP3, hw], ht2⟩
              | true =>
                have e3 : eP3 n k q c = [(((n : Int) - 1, lastLE q c.st), ((n : Int), c.st))] := by unfold eP3; rw [if_pos ⟨by omega, by omega, hw⟩]
                rw [e3] at hN1
                have hqq := hqq (by omega)
                have hqok := hok q (List.mem_of_getElem? hqq)
                have hq100 := hqok.len
                have hqpos := hqok.pos
                have hqi : l[((n : Int) - 1).toNat]? = some q := by rw [show ((n : Int) - 1).toNat = n - 1 by omega]; exact hqq
                simp (maxSteps := 1000000) (implicitDefEqProofs := false) (disch := omega) only [push_cast, ↓reduceIte, Nat.reduceEqDiff, reduceCtorEq, wz, hρ, hn1, hk1, hk2, hb2, f1, hw, hqi, aRow, aSlN]
                refine wpa_blx (α := Nat) (I := fun j ε σ => (ε 0 = .sl l.length (l.map aRow) .none ∧ ε 4 = .v (.int .i64 n) ∧ ε 5 = .v (.int .i64 k) ∧ ε 6 = .ref b 0 0 ∧ ε 3 = .sl A2.length (A2.flatMap aE4) (.id 0 (w + 1) 4) ∧ ε 7 = .v (.int .i64 j)) ∧ σ = S2 ∧ j < q.length ∧ lastLE q c.st = lastLE (q.take (j + 1)) c.st)
                  (μ := fun j => j) (Q := fun ε σ => (ε 0 = .sl l.length (l.map aRow) .none ∧ ε 4 = .v (.int .i64 n) ∧ ε 5 = .v (.int .i64 k) ∧ ε 6 = .ref b 0 0 ∧ ε 3 = .sl A2.length (A2.flatMap aE4) (.id 0 (w + 1) 4)) ∧ σ = S2 ∧ ∃ j d, ε 7 = .v (.int .i64 (j : Nat)) ∧ q[j]? = some d ∧ d.st = lastLE q c.st) (x := q.length - 1) ?_ ?_ ?_
                · simp (maxSteps := 1000000) (implicitDefEqProofs := false) (disch := omega) only [push_cast, ↓reduceIte, Nat.reduceEqDiff, reduceCtorEq, wz, hρ]
                  refine ⟨by rfl, by omega, ?_⟩
                  rw [List.take_of_length_le (by omega)]
                · clear hρ h3 ε
                  rintro j ε σ N2 E2 X2 R2 ⟨hρ, rfl, hj, hJ⟩ hN2 hE2
                  simp only [S_forebayref33_Edges_L3]
                  obtain ⟨d, hd⟩ := at_lt hj
                  have hdd := flat_drop aCC_len hd
                  rw [take_succ_at hd, lastLE_snoc] at hJ
                  by_cases hs : c.st < d.st
                  · rw [if_neg (by omega)] at hJ
                    have hj0 : j ≠ 0 := by
                      rintro rfl
                      have := hqok.first d hd
                      omega
                    simp (maxSteps := 1000000) (implicitDefEqProofs := false) (disch := omega) only [push_cast, ↓reduceIte, Nat.reduceEqDiff, reduceCtorEq, wz, hρ, hqi, aRow, aSlN, hdd, g0, hb2, f0, hs]
                    refine hN2 (j - 1) _ _ ?_ (by omega)
                    simp (maxSteps := 1000000) (implicitDefEqProofs := false) (disch := omega) only [push_cast, ↓reduceIte, Nat.reduceEqDiff, reduceCtorEq, wz, hρ]
                    refine ⟨by congr 2, by omega, ?_⟩
                    rw [Nat.sub_add_cancel (by omega)]
                    exact hJ
                  · rw [if_pos (by omega)] at hJ
                    simp (maxSteps := 1000000) (implicitDefEqProofs := false) (disch := omega) only [push_cast, ↓reduceIte, Nat.reduceEqDiff, reduceCtorEq, wz, hρ, hqi, aRow, aSlN, hdd, g0, hb2, f0, hs]
                    refine hE2 _ _ ?_
                    simp (maxSteps := 1000000) (implicitDefEqProofs := false) (disch := omega) only [push_cast, ↓reduceIte, Nat.reduceEqDiff, reduceCtorEq, wz, hρ]
                    exact ⟨j, d, rfl, hd, hJ.symm⟩
                · clear hρ h3 ε
                  rintro ε σ ⟨hρ, rfl, j, d, h7, hd, hds⟩
                  have hj := lt_at hd
                  have hdd := flat_drop aCC_len hd
                  simp (maxSteps := 1000000) (implicitDefEqProofs := false) (disch := omega) only [push_cast, ↓reduceIte, Nat.reduceEqDiff, reduceCtorEq, wz, hρ, h7, hqi, aRow, aSlN, hdd, g0, hb2, f0, bld4]
                  refine wpa_bsl (sz := 4) (by intro a ha; simp at ha; subst ha; rfl) (by simp) ?_
                  simp (maxSteps := 1000000) (implicitDefEqProofs := false) (disch := omega) only [push_cast, ↓reduceIte, Nat.reduceEqDiff, reduceCtorEq, wz, hcc, hρ]
                  refine wpa_app rfl rfl (by simp [aE4_len]) (aE4_one _) (flat_len aE4_len _) (by omega) (by omega) ht2 ?_
                  simp (maxSteps := 1000000) (implicitDefEqProofs := false) (disch := omega) only [push_cast, ↓reduceIte, Nat.reduceEqDiff, reduceCtorEq, wz, hρ]
                  refine hN1 _ _ ?_ (by omega)
                  simp (maxSteps := 1000000) (implicitDefEqProofs := false) (disch := omega) only [push_cast, ↓reduceIte, Nat.reduceEqDiff, reduceCtorEq, wz, hρ, app4, hds]
                  exact ⟨by omega, w + 1 + 1, rfl, get_set_eq ht2⟩
        · simp (maxSteps := 1000000) (implicitDefEqProofs := false) (disch := omega) only [push_cast, ↓reduceIte, Nat.reduceEqDiff, reduceCtorEq, wz, hρ, hr, aRow, aSlN]
          refine hE' _ _ ?_
          have hkr : k = r.length := by omega
          subst hkr
          have hgs : gEd l n ++ rowEd n q r r.length = gEd l (n + 1) := by rw [gEd_succ, hgr, hq]
          rw [hgs] at h3
          simp (maxSteps := 1000000) (implicitDefEqProofs := false) (disch := omega) only [push_cast, ↓reduceIte, Nat.reduceEqDiff, reduceCtorEq, wz, hρ]
          exact ⟨w, h3, ht⟩
      · clear hρ h3 ht ε
        rintro ε σ ⟨hρ, w, h3, ht⟩
        simp (maxSteps := 1000000) (implicitDefEqProofs := false) (disch := omega) only [push_cast, ↓reduceIte, Nat.reduceEqDiff, reduceCtorEq, wz, hρ]
        refine hN (n + 1) _ _ ?_ (by omega)
        simp (maxSteps := 1000000) (implicitDefEqProofs := false) (disch := omega) only [push_cast, ↓reduceIte, Nat.reduceEqDiff, reduceCtorEq, wz, hρ]
        exact ⟨by omega, w, h3, ht⟩
    · simp (maxSteps := 1000000) (implicitDefEqProofs := false) (disch := omega) only [push_cast, ↓reduceIte, Nat.reduceEqDiff, reduceCtorEq, wz, hρ]
      refine hE _ _ ⟨w, ?_⟩
      have : n = l.length := by omega
      subst this
      simp (maxSteps := 1000000) (implicitDefEqProofs := false) (disch := omega) only [push_cast, ↓reduceIte, Nat.reduceEqDiff, reduceCtorEq, wz]
      exact h3
  · rintro ε σ ⟨w, h3⟩
    simp (maxSteps := 1000000) (implicitDefEqProofs := false) (disch := omega) only [push_cast, ↓reduceIte, Nat.reduceEqDiff, reduceCtorEq, wz, h3]
    exact fin_res [] (aE4s_res _ _ _) (aE4s_pure _)
end
end Go.Proofs.Ythgmfjkbgacfaaa.Gr
