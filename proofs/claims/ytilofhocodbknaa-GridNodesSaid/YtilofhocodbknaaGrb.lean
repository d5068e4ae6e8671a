/- Contracts on annotated values: grid.held, Node, whole, Iter, Stage, row, Check. -/
import Derived.Test.YtilofhocodbknaaGra
import Derived.Test.YtilofhocodbknaaCGrid
namespace Go.Proofs.Ytilofhocodbknaa
set_option linter.unusedVariables false
set_option linter.unusedSimpArgs false
open Go Go.Kx Go.Proofs

theorem mixed : Try.prog.follows .mixedOrders = true := by kernel_rfl

theorem fl_eq {a b : Int} (ha : 0 ≤ a ∧ a < 2 ^ 52) (hb : 0 ≤ b ∧ b < 2 ^ 52) : (Ieee.double.order (fl a) (fl b) == some .eq) = decide (a = b) := by
  rw [order_rep (rep_flI ha.1 ha.2) (rep_flI hb.1 hb.2)]
  rw [Bool.eq_iff_iff, beq_iff_eq, decide_eq_true_eq, Option.some.injEq, Nat.compare_eq_eq]
  omega
theorem fl_gt {a b : Int} (ha : 0 ≤ a ∧ a < 2 ^ 52) (hb : 0 ≤ b ∧ b < 2 ^ 52) : (Ieee.double.order (fl a) (fl b) == some .gt) = decide (b < a) := by
  rw [order_rep (rep_flI ha.1 ha.2) (rep_flI hb.1 hb.2)]
  rw [Bool.eq_iff_iff, beq_iff_eq, decide_eq_true_eq, Option.some.injEq, Nat.compare_eq_gt]
  omega
def okN (n : Int) : Prop := 0 ≤ n ∧ n ≤ 1048576
theorem okN52 {n : Int} (h : okN n) : 0 ≤ n ∧ n < 2 ^ 52 := ⟨h.1, by have := h.2; omega⟩
/-- A node. -/
def vN (p : Int × Int) : Value := .complex .f64 (fl p.1) (fl p.2)
def aN (p : Int × Int) : AV := .v (vN p)
def okP (p : Int × Int) : Prop := okN p.1 ∧ okN p.2
theorem eqC_N {p q : Int × Int} (hp : okP p) (hq : okP q) : eqC (.complex .f64) (vN p) (vN q) = some (decide (p = q)) := by
  simp only [vN, eqC, if_true, Op.floatEq]
  have e1 := fl_eq (okN52 hp.1) (okN52 hq.1)
  have e2 := fl_eq (okN52 hp.2) (okN52 hq.2)
  show some ((Ieee.double.order (fl p.1) (fl q.1) == some .eq) && (Ieee.double.order (fl p.2) (fl q.2) == some .eq)) = _
  rw [e1, e2]
  congr 1
  rw [Bool.eq_iff_iff, Bool.and_eq_true, decide_eq_true_eq, decide_eq_true_eq, decide_eq_true_eq, Prod.ext_iff]
theorem v_ceq {p q : Int × Int} (hp : okP p) (hq : okP q) : PF.val (.bin .eql) [vN p, vN q] = some (.bool (decide (p = q))) := by
  have h := eqC_N hp hq
  simp only [vN, eqC, if_true, Op.floatEq, Option.some.injEq] at h
  show (if (FloatKind.f64 = FloatKind.f64) then binC .eql .f64 (fl p.1) (fl p.2) (fl q.1) (fl q.2) else none) = _
  rw [if_pos rfl]
  show some (Value.bool ((FloatKind.f64.format.order (fl p.1) (fl q.1) == some .eq) && (FloatKind.f64.format.order (fl p.2) (fl q.2) == some .eq))) = _
  rw [h]
theorem v_cne {p q : Int × Int} (hp : okP p) (hq : okP q) : PF.val (.bin .neq) [vN p, vN q] = some (.bool (decide (p ≠ q))) := by
  have h := eqC_N hp hq
  simp only [vN, eqC, if_true, Op.floatEq, Option.some.injEq] at h
  show (if (FloatKind.f64 = FloatKind.f64) then binC .neq .f64 (fl p.1) (fl p.2) (fl q.1) (fl q.2) else none) = _
  rw [if_pos rfl]
  show some (Value.bool (!((FloatKind.f64.format.order (fl p.1) (fl q.1) == some .eq) && (FloatKind.f64.format.order (fl p.2) (fl q.2) == some .eq)))) = _
  rw [h]
  congr 2
  by_cases e : p = q <;> simp [e]
@[push_cast] theorem v_intF (k : IntKind) (n : Int) : PF.val (.intF .f64) [.int k n] = some (.float .f64 (fl n)) := rfl
@[push_cast] theorem v_cpx (a b : Nat) : PF.val (.cpx .f64) [.float .f64 a, .float .f64 b] = some (.complex .f64 a b) := rfl
@[push_cast] theorem v_re (a b : Nat) : PF.val .re [.complex .f64 a b] = some (.float .f64 a) := rfl
@[push_cast] theorem v_im (a b : Nat) : PF.val .im [.complex .f64 a b] = some (.float .f64 b) := rfl
theorem v_fgt {a b : Int} (ha : 0 ≤ a ∧ a < 2 ^ 52) (hb : 0 ≤ b ∧ b < 2 ^ 52) : PF.val (.bin .gtr) [.float .f64 (fl a), .float .f64 (fl b)] = some (.bool (decide (b < a))) := by
  rw [← fl_gt ha hb]; rfl
theorem v_fint {a : Int} (ha : 0 ≤ a ∧ a < 2 ^ 52) : PF.val (.fInt .i64) [.float .f64 (fl a)] = some (.int .i64 a) := by
  have h := toInt_rep (rep_flI ha.1 ha.2)
  have e : ((a.toNat : Nat) : Int) = a := by omega
  rw [e] at h
  simp only [PF.val, h]
  rw [if_pos]
  have h1 : IntKind.min .i64 = -9223372036854775808 := rfl
  have h2 : IntKind.max .i64 = 9223372036854775807 := rfl
  rw [h1, h2]; omega
theorem fl0 : fl 0 = 0 := by decide
theorem fl1 : fl 1 = 4607182418800017408 := by decide
theorem flF : fl 1048576 = 4697254411347427328 := by decide

def heldI (n : Int) : Int := min (max n 0) 1048576
theorem heldI_ok (n : Int) : okN (heldI n) := by unfold heldI okN; omega
theorem heldI_id {n : Int} (h : okN n) : heldI n = n := by obtain ⟨h1, h2⟩ := h; unfold heldI; omega
theorem grid_held_a (n : Int) : FnP Try.prog 92 [aInt n] fun a => a = aInt (heldI n) := by
  refine fnP_in K_grid_held mixed rfl (by simp [AV.pureL, aInt_pure]) ?_
  simp only [S_grid_held, aInt]
  simp (maxSteps := 1000000) (implicitDefEqProofs := false) (disch := omega) only [push_cast, ↓reduceIte, Nat.reduceEqDiff, reduceCtorEq, decide_true, decide_false, Bool.not_true, Bool.not_false, Option.isNone_some, Option.isNone_none, List.drop_zero, List.drop_succ_cons, List.getElem?_cons_zero, List.getElem?_cons_succ, List.length_cons, List.length_nil, List.take_succ_cons, List.take_zero, Nat.mul_one, Nat.zero_add, Nat.add_zero, Nat.one_mul, Nat.zero_mul, List.getElem?_map, List.getElem?_drop, List.getElem?_take, List.length_map, Option.map_some, List.set_cons_zero, List.set_cons_succ, and_true, true_and, List.flatMap_cons, List.flatMap_nil, Bool.not_not]
  exact ⟨[], rfl, rfl⟩
theorem grid_Node_a (i k : Int) : FnP Try.prog 35 [aInt i, aInt k] fun a => a = aN (heldI i, heldI k) := by
  refine fnP_in K_grid_Node mixed rfl (by simp [AV.pureL, aInt_pure]) ?_
  simp only [S_grid_Node]
  simp (maxSteps := 1000000) (implicitDefEqProofs := false) (disch := omega) only [push_cast, ↓reduceIte, Nat.reduceEqDiff, reduceCtorEq, decide_true, decide_false, Bool.not_true, Bool.not_false, Option.isNone_some, Option.isNone_none, List.drop_zero, List.drop_succ_cons, List.getElem?_cons_zero, List.getElem?_cons_succ, List.length_cons, List.length_nil, List.take_succ_cons, List.take_zero, Nat.mul_one, Nat.zero_add, Nat.add_zero, Nat.one_mul, Nat.zero_mul, List.getElem?_map, List.getElem?_drop, List.getElem?_take, List.length_map, Option.map_some, List.set_cons_zero, List.set_cons_succ, and_true, true_and, List.flatMap_cons, List.flatMap_nil, Bool.not_not]
  refine wpa_call (grid_held_a i) ?_
  rintro a rfl
  simp (maxSteps := 1000000) (implicitDefEqProofs := false) (disch := omega) only [push_cast, ↓reduceIte, Nat.reduceEqDiff, reduceCtorEq, decide_true, decide_false, Bool.not_true, Bool.not_false, Option.isNone_some, Option.isNone_none, List.drop_zero, List.drop_succ_cons, List.getElem?_cons_zero, List.getElem?_cons_succ, List.length_cons, List.length_nil, List.take_succ_cons, List.take_zero, Nat.mul_one, Nat.zero_add, Nat.add_zero, Nat.one_mul, Nat.zero_mul, List.getElem?_map, List.getElem?_drop, List.getElem?_take, List.length_map, Option.map_some, List.set_cons_zero, List.set_cons_succ, and_true, true_and, List.flatMap_cons, List.flatMap_nil, Bool.not_not, aInt]
  refine wpa_call (grid_held_a k) ?_
  rintro a rfl
  simp (maxSteps := 1000000) (implicitDefEqProofs := false) (disch := omega) only [push_cast, ↓reduceIte, Nat.reduceEqDiff, reduceCtorEq, decide_true, decide_false, Bool.not_true, Bool.not_false, Option.isNone_some, Option.isNone_none, List.drop_zero, List.drop_succ_cons, List.getElem?_cons_zero, List.getElem?_cons_succ, List.length_cons, List.length_nil, List.take_succ_cons, List.take_zero, Nat.mul_one, Nat.zero_add, Nat.add_zero, Nat.one_mul, Nat.zero_mul, List.getElem?_map, List.getElem?_drop, List.getElem?_take, List.length_map, Option.map_some, List.set_cons_zero, List.set_cons_succ, and_true, true_and, List.flatMap_cons, List.flatMap_nil, Bool.not_not, aInt]
  exact ⟨[], rfl, rfl⟩
theorem grid_whole_a (n : Int) (h : okN n) : FnP Try.prog 93 [.v (.float .f64 (fl n))] fun a => a = aInt n := by
  refine fnP_in K_grid_whole mixed rfl (by simp [AV.pureL, AV.pure]) ?_
  have h52 := okN52 h
  have h1 : PF.val (.bin .gtr) [.float .f64 (fl n), .float .f64 0] = some (.bool (decide (0 < n))) := by
    have := v_fgt h52 (b := 0) (by omega)
    rwa [fl0] at this
  have h2 : PF.val (.bin .gtr) [.float .f64 (fl n), .float .f64 4697254411347427328] = some (.bool (decide (1048576 < n))) := by
    have := v_fgt h52 (b := 1048576) (by omega)
    rwa [flF] at this
  have h3 := v_fint h52
  obtain ⟨hn0, hn1⟩ := h
  simp only [S_grid_whole]
  by_cases h0 : 0 < n
  · have h4 : ¬ 1048576 < n := by omega
    simp (maxSteps := 1000000) (implicitDefEqProofs := false) (disch := omega) only [push_cast, ↓reduceIte, Nat.reduceEqDiff, reduceCtorEq, decide_true, decide_false, Bool.not_true, Bool.not_false, Option.isNone_some, Option.isNone_none, List.drop_zero, List.drop_succ_cons, List.getElem?_cons_zero, List.getElem?_cons_succ, List.length_cons, List.length_nil, List.take_succ_cons, List.take_zero, Nat.mul_one, Nat.zero_add, Nat.add_zero, Nat.one_mul, Nat.zero_mul, List.getElem?_map, List.getElem?_drop, List.getElem?_take, List.length_map, Option.map_some, List.set_cons_zero, List.set_cons_succ, and_true, true_and, List.flatMap_cons, List.flatMap_nil, Bool.not_not, h1, h2, h3, h0, h4]
    exact ⟨[], rfl, rfl⟩
  · have : n = 0 := by omega
    simp (maxSteps := 1000000) (implicitDefEqProofs := false) (disch := omega) only [push_cast, ↓reduceIte, Nat.reduceEqDiff, reduceCtorEq, decide_true, decide_false, Bool.not_true, Bool.not_false, Option.isNone_some, Option.isNone_none, List.drop_zero, List.drop_succ_cons, List.getElem?_cons_zero, List.getElem?_cons_succ, List.length_cons, List.length_nil, List.take_succ_cons, List.take_zero, Nat.mul_one, Nat.zero_add, Nat.add_zero, Nat.one_mul, Nat.zero_mul, List.getElem?_map, List.getElem?_drop, List.getElem?_take, List.length_map, Option.map_some, List.set_cons_zero, List.set_cons_succ, and_true, true_and, List.flatMap_cons, List.flatMap_nil, Bool.not_not, h1, h0]
    exact ⟨[], rfl, by rw [this]; rfl⟩
theorem grid_Iter_a (p : Int × Int) (h : okP p) : FnP Try.prog 39 [aN p] fun a => a = aInt p.1 := by
  refine fnP_in K_grid_Iter mixed rfl (by simp [AV.pureL, AV.pure, aN]) ?_
  simp only [S_grid_Iter, aN, vN]
  simp (maxSteps := 1000000) (implicitDefEqProofs := false) (disch := omega) only [push_cast, ↓reduceIte, Nat.reduceEqDiff, reduceCtorEq, decide_true, decide_false, Bool.not_true, Bool.not_false, Option.isNone_some, Option.isNone_none, List.drop_zero, List.drop_succ_cons, List.getElem?_cons_zero, List.getElem?_cons_succ, List.length_cons, List.length_nil, List.take_succ_cons, List.take_zero, Nat.mul_one, Nat.zero_add, Nat.add_zero, Nat.one_mul, Nat.zero_mul, List.getElem?_map, List.getElem?_drop, List.getElem?_take, List.length_map, Option.map_some, List.set_cons_zero, List.set_cons_succ, and_true, true_and, List.flatMap_cons, List.flatMap_nil, Bool.not_not]
  refine wpa_call (grid_whole_a p.1 h.1) ?_
  rintro a rfl
  simp (maxSteps := 1000000) (implicitDefEqProofs := false) (disch := omega) only [push_cast, ↓reduceIte, Nat.reduceEqDiff, reduceCtorEq, decide_true, decide_false, Bool.not_true, Bool.not_false, Option.isNone_some, Option.isNone_none, List.drop_zero, List.drop_succ_cons, List.getElem?_cons_zero, List.getElem?_cons_succ, List.length_cons, List.length_nil, List.take_succ_cons, List.take_zero, Nat.mul_one, Nat.zero_add, Nat.add_zero, Nat.one_mul, Nat.zero_mul, List.getElem?_map, List.getElem?_drop, List.getElem?_take, List.length_map, Option.map_some, List.set_cons_zero, List.set_cons_succ, and_true, true_and, List.flatMap_cons, List.flatMap_nil, Bool.not_not]
  exact ⟨[], rfl, rfl⟩
theorem grid_Stage_a (p : Int × Int) (h : okP p) : FnP Try.prog 40 [aN p] fun a => a = aInt p.2 := by
  refine fnP_in K_grid_Stage mixed rfl (by simp [AV.pureL, AV.pure, aN]) ?_
  simp only [S_grid_Stage, aN, vN]
  simp (maxSteps := 1000000) (implicitDefEqProofs := false) (disch := omega) only [push_cast, ↓reduceIte, Nat.reduceEqDiff, reduceCtorEq, decide_true, decide_false, Bool.not_true, Bool.not_false, Option.isNone_some, Option.isNone_none, List.drop_zero, List.drop_succ_cons, List.getElem?_cons_zero, List.getElem?_cons_succ, List.length_cons, List.length_nil, List.take_succ_cons, List.take_zero, Nat.mul_one, Nat.zero_add, Nat.add_zero, Nat.one_mul, Nat.zero_mul, List.getElem?_map, List.getElem?_drop, List.getElem?_take, List.length_map, Option.map_some, List.set_cons_zero, List.set_cons_succ, and_true, true_and, List.flatMap_cons, List.flatMap_nil, Bool.not_not]
  refine wpa_call (grid_whole_a p.2 h.2) ?_
  rintro a rfl
  simp (maxSteps := 1000000) (implicitDefEqProofs := false) (disch := omega) only [push_cast, ↓reduceIte, Nat.reduceEqDiff, reduceCtorEq, decide_true, decide_false, Bool.not_true, Bool.not_false, Option.isNone_some, Option.isNone_none, List.drop_zero, List.drop_succ_cons, List.getElem?_cons_zero, List.getElem?_cons_succ, List.length_cons, List.length_nil, List.take_succ_cons, List.take_zero, Nat.mul_one, Nat.zero_add, Nat.add_zero, Nat.one_mul, Nat.zero_mul, List.getElem?_map, List.getElem?_drop, List.getElem?_take, List.length_map, Option.map_some, List.set_cons_zero, List.set_cons_succ, and_true, true_and, List.flatMap_cons, List.flatMap_nil, Bool.not_not]
  exact ⟨[], rfl, rfl⟩

/-- A cell of a row. -/
structure CC where
  st : Int
  wt : Bool
  deriving DecidableEq
def aCC (c : CC) : List AV := [.v (.int .i64 c.st), .v (.bool c.wt)]
theorem aCC_len (c : CC) : (aCC c).length = 2 := rfl
theorem aCC_pure (c : CC) : AV.pureL (aCC c) = true := by simp [aCC, AV.pureL, AV.pure]
theorem aCC_res (σ : St) (c : CC) : AV.resL σ (aCC c) = aCC c := by simp [aCC, AV.resL, AV.res]
def aRow (r : List CC) : AV := aSlN aCC r
def aRows (l : List (List CC)) : AV := aSl aRow l
theorem aRow_pure (r : List CC) : (aRow r).pure = true := aSlN_pure aCC_pure r
theorem aRow_res (σ : St) (r : List CC) : (aRow r).res σ = aRow r := aSlN_res (aCC_res σ) r .none
theorem aRows_pure (l : List (List CC)) : (aRows l).pure = true := aSl_pure aRow_pure l
theorem aRows_res (σ : St) (l : List (List CC)) (t : Tok) : (AV.sl l.length (l.map aRow) t).res σ = aRows l := aSl_res (aRow_res σ) l t

/-- Each stage is later than the one ahead of it. -/
def incB : Int → List CC → Bool
  | _, [] => true
  | s, c :: cs => decide (s < c.st) && decide (c.st ≤ 1048575) && incB c.st cs
def rowT : List CC → Int
  | [] => 7
  | c :: cs => if c.st ≠ 0 ∨ c.wt = true then 4 else if incB c.st cs = true then 0 else 4
def rowE (r : List CC) : Int := if 100 < r.length then 9 else rowT r
def rowsE : List (List CC) → Int
  | [] => 0
  | r :: rs => if rowE r ≠ 0 then rowE r else rowsE rs
def gchk (l : List (List CC)) : Int := if 100 < l.length then 9 else rowsE l
end Go.Proofs.Ytilofhocodbknaa
