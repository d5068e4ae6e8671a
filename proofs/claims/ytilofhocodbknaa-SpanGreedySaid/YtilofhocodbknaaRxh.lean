/- Contracts on annotated values: OnesCount64, (*Reach).Ahead. -/
import Derived.Test.YtilofhocodbknaaRxd
namespace Go.Proofs.Ytilofhocodbknaa
set_option linter.unusedVariables false
set_option linter.unusedSimpArgs false
open Go Go.Kx Go.Proofs

def andN (a b : Nat) : Nat := a &&& b
def addW (a b : Nat) : Nat := (a + b) % 18446744073709551616
theorem v_andN (m c : Nat) (hc : c < 18446744073709551616) : PF.val (.bin .and) [.int .u64 m, .int .u64 (c : Nat)] = some (.int .u64 (andN m c : Nat)) := by
  simp only [PF.val, binV, isSh, binI, if_true, Bool.false_eq_true, if_false]
  have : (BitVec.ofInt IntKind.u64.bits (m : Int) &&& BitVec.ofInt IntKind.u64.bits (c : Int)).toNat = m &&& c := by
    show (BitVec.ofInt 64 (m : Int) &&& BitVec.ofInt 64 (c : Int)).toNat = _
    rw [bv_nat, bv_nat]
    simp only [BitVec.toNat_and, BitVec.toNat_ofNat]
    apply Nat.eq_of_testBit_eq
    intro i
    simp only [Nat.testBit_and, Nat.testBit_mod_two_pow]
    by_cases hi : i < 64
    · simp [hi]
    · have : c.testBit i = false := Nat.testBit_lt_two_pow (Nat.lt_of_lt_of_le hc (by
        have : (2 : Nat) ^ 64 ≤ 2 ^ i := Nat.pow_le_pow_right (by omega) (by omega)
        simpa using this))
      simp [hi, this]
  have h3 : m &&& c < 18446744073709551616 := Nat.lt_of_le_of_lt Nat.and_le_right hc
  rw [this, wrap_u64 h3]
  rfl
theorem v_addW (a b : Nat) : PF.val (.bin .add) [.int .u64 a, .int .u64 b] = some (.int .u64 (addW a b : Nat)) := by
  rw [v_add]
  have : IntKind.u64.wrap ((a : Int) + (b : Int)) = (addW a b : Nat) := by
    simp only [IntKind.wrap, IntKind.bits, IntKind.signed, Bool.false_and]
    simp [addW]
  rw [this]
def mod128 (x : Nat) : Nat := x % 128
theorem v_and127 (x : Nat) : PF.val (.bin .and) [.int .i64 (IntKind.i64.wrap x), .int .i64 127] = some (.int .i64 (mod128 x : Nat)) := by
  simp only [PF.val, binV, isSh, binI, if_true, Bool.false_eq_true, if_false]
  have h1 : BitVec.ofInt 64 (IntKind.i64.wrap x) = BitVec.ofNat 64 x := by
    apply BitVec.eq_of_toNat_eq
    simp only [BitVec.toNat_ofInt, BitVec.toNat_ofNat, IntKind.wrap, IntKind.bits, IntKind.signed]
    simp
    split <;> omega
  have : (BitVec.ofInt IntKind.i64.bits (IntKind.i64.wrap x) &&& BitVec.ofInt IntKind.i64.bits 127).toNat = x % 128 := by
    show (BitVec.ofInt 64 (IntKind.i64.wrap x) &&& 127#64).toNat = _
    rw [h1]
    simp only [BitVec.toNat_and, BitVec.toNat_ofNat]
    have : 127 % 2 ^ 64 = 2 ^ 7 - 1 := by decide
    rw [this, Nat.and_two_pow_sub_one_eq_mod]
    omega
  rw [this, IntWalk.i64_in _ ⟨by omega, by omega⟩]
  rfl
def m0 : Nat := 6148914691236517205
def m1 : Nat := 3689348814741910323
def m2 : Nat := 1085102592571150095
theorem v_m0 (m : Nat) : PF.val (.bin .and) [.int .u64 m, .int .u64 6148914691236517205] = some (.int .u64 (andN m m0 : Nat)) := v_andN m m0 (by unfold m0; omega)
theorem v_m1 (m : Nat) : PF.val (.bin .and) [.int .u64 m, .int .u64 3689348814741910323] = some (.int .u64 (andN m m1 : Nat)) := v_andN m m1 (by unfold m1; omega)
theorem v_m2 (m : Nat) : PF.val (.bin .and) [.int .u64 m, .int .u64 1085102592571150095] = some (.int .u64 (andN m m2 : Nat)) := v_andN m m2 (by unfold m2; omega)
theorem v_shrN (w : Nat) (s : Nat) (h1 : s < 64) : PF.val (.bin .shr) [.int .u64 w, .int .u64 (s : Nat)] = some (.int .u64 (shrN w s : Nat)) := v_shr_u64 w .u64 s (by omega) (by omega)
theorem v_s1 (w : Nat) : PF.val (.bin .shr) [.int .u64 w, .int .u64 1] = some (.int .u64 (shrN w 1 : Nat)) := v_shrN w 1 (by omega)
theorem v_s2 (w : Nat) : PF.val (.bin .shr) [.int .u64 w, .int .u64 2] = some (.int .u64 (shrN w 2 : Nat)) := v_shrN w 2 (by omega)
theorem v_s4 (w : Nat) : PF.val (.bin .shr) [.int .u64 w, .int .u64 4] = some (.int .u64 (shrN w 4 : Nat)) := v_shrN w 4 (by omega)
theorem v_s8 (w : Nat) : PF.val (.bin .shr) [.int .u64 w, .int .u64 8] = some (.int .u64 (shrN w 8 : Nat)) := v_shrN w 8 (by omega)
theorem v_s16 (w : Nat) : PF.val (.bin .shr) [.int .u64 w, .int .u64 16] = some (.int .u64 (shrN w 16 : Nat)) := v_shrN w 16 (by omega)
theorem v_s32 (w : Nat) : PF.val (.bin .shr) [.int .u64 w, .int .u64 32] = some (.int .u64 (shrN w 32 : Nat)) := v_shrN w 32 (by omega)
def pc1 (x : Nat) : Nat := addW (andN (shrN x 1) m0) (andN x m0)
def pc2 (x : Nat) : Nat := addW (andN (shrN x 2) m1) (andN x m1)
def pc3 (x : Nat) : Nat := andN (addW (shrN x 4) x) m2
def pc4 (x : Nat) (s : Nat) : Nat := addW x (shrN x s)
theorem f1 (x : Nat) : addW (andN (shrN x 1) m0) (andN x m0) = pc1 x := rfl
theorem f2 (x : Nat) : addW (andN (shrN x 2) m1) (andN x m1) = pc2 x := rfl
theorem f3 (x : Nat) : andN (addW (shrN x 4) x) m2 = pc3 x := rfl
theorem f4 (x s : Nat) : addW x (shrN x s) = pc4 x s := rfl
def popF (x : Nat) : Nat := mod128 (pc4 (pc4 (pc4 (pc3 (pc2 (pc1 x))) 8) 16) 32)
theorem popF_7 : popF 7 = 3 := by kernel_rfl


set_option maxRecDepth 8000 in
theorem OnesCount64_a (x : Nat) : FnP Try.prog 97 [aU64 x] fun a => a = aInt (popF x : Nat) := by
  refine fnP_in K_math_bits_OnesCount64 mixed rfl (by simp [AV.pureL, aU64_pure]) ?_
  simp only [S_math_bits_OnesCount64, aU64]
  simp (maxSteps := 1000000) (implicitDefEqProofs := false) (disch := omega) only [push_cast, ↓reduceIte, Nat.reduceEqDiff, reduceCtorEq, decide_true, decide_false, Bool.not_true, Bool.not_false, Option.isNone_some, Option.isNone_none, List.drop_zero, List.drop_succ_cons, List.getElem?_cons_zero, List.getElem?_cons_succ, List.length_cons, List.length_nil, List.take_succ_cons, List.take_zero, Nat.mul_one, Nat.zero_add, Nat.add_zero, Nat.one_mul, Nat.zero_mul, List.getElem?_map, List.getElem?_drop, List.getElem?_take, List.length_map, Option.map_some, List.set_cons_zero, List.set_cons_succ, and_true, true_and, List.flatMap_cons, List.flatMap_nil, Bool.not_not, v_addW, v_m0, v_m1, v_m2, v_s1, v_s2, v_s4, v_s8, v_s16, v_s32, v_and127, f1, f2, f3, f4]
  exact fin_v (by rw [popF] <;> rfl)

theorem popF_lt (x : Nat) : popF x < 128 := Nat.mod_lt _ (by omega)
def popS (ws : List Nat) : Nat := (ws.map popF).sum
theorem popS_le (ws : List Nat) : popS ws ≤ 127 * ws.length := by
  induction ws with
  | nil => simp [popS]
  | cons w ws ih =>
    have := popF_lt w
    simp only [popS, List.map_cons, List.sum_cons, List.length_cons] at ih ⊢
    omega
theorem popS_snoc (ws : List Nat) (w : Nat) : popS (ws ++ [w]) = popS ws + popF w := by simp [popS]

def aheadR (o : Option (List (List Nat))) (b : Int) : Int := if inR o b then (popS ((o.getD []).getD b.toNat []) : Nat) else 0
theorem Ahead_a (o : Option (List (List Nat))) (ho : wfR o) (b : Int) : FnP Try.prog 53 [aR o, aInt b] fun r => r = aInt (aheadR o b) := by
  refine fnP_in K_reach_Reach_Ahead mixed rfl (by simp [AV.pureL, aR_pure, aInt, AV.pure]) ?_
  simp only [S_reach_Reach_Ahead]
  simp (maxSteps := 1000000) (implicitDefEqProofs := false) (disch := omega) only [push_cast, ↓reduceIte, Nat.reduceEqDiff, reduceCtorEq, decide_true, decide_false, Bool.not_true, Bool.not_false, Option.isNone_some, Option.isNone_none, List.drop_zero, List.drop_succ_cons, List.getElem?_cons_zero, List.getElem?_cons_succ, List.length_cons, List.length_nil, List.take_succ_cons, List.take_zero, Nat.mul_one, Nat.zero_add, Nat.add_zero, Nat.one_mul, Nat.zero_mul, List.getElem?_map, List.getElem?_drop, List.getElem?_take, List.length_map, Option.map_some, List.set_cons_zero, List.set_cons_succ, and_true, true_and, List.flatMap_cons, List.flatMap_nil, Bool.not_not]
  refine wpa_call (is_a o b) ?_
  rintro x rfl
  cases hb : inR o b with
  | false =>
    simp (maxSteps := 1000000) (implicitDefEqProofs := false) (disch := omega) only [push_cast, ↓reduceIte, Nat.reduceEqDiff, reduceCtorEq, decide_true, decide_false, Bool.not_true, Bool.not_false, Option.isNone_some, Option.isNone_none, List.drop_zero, List.drop_succ_cons, List.getElem?_cons_zero, List.getElem?_cons_succ, List.length_cons, List.length_nil, List.take_succ_cons, List.take_zero, Nat.mul_one, Nat.zero_add, Nat.add_zero, Nat.one_mul, Nat.zero_mul, List.getElem?_map, List.getElem?_drop, List.getElem?_take, List.length_map, Option.map_some, List.set_cons_zero, List.set_cons_succ, and_true, true_and, List.flatMap_cons, List.flatMap_nil, Bool.not_not, aBool]
    exact fin_v (by simp [aInt, aheadR, hb])
  | true =>
    have hb' := hb
    simp only [inR, Bool.and_eq_true, decide_eq_true_eq] at hb'
    cases o with
    | none => simp [lenR] at hb'; omega
    | some M =>
      simp only [lenR] at hb'
      obtain ⟨q, rfl⟩ : ∃ q : Nat, b = q := ⟨b.toNat, by omega⟩
      obtain ⟨ws, hws⟩ := at_lt (l := M) (k := q) (by omega)
      have hwl := ho.2 q ws hws
      have hlim := ho.1
      simp only [lenR] at hlim
      simp (maxSteps := 1000000) (implicitDefEqProofs := false) (disch := omega) only [push_cast, ↓reduceIte, Nat.reduceEqDiff, reduceCtorEq, decide_true, decide_false, Bool.not_true, Bool.not_false, Option.isNone_some, Option.isNone_none, List.drop_zero, List.drop_succ_cons, List.getElem?_cons_zero, List.getElem?_cons_succ, List.length_cons, List.length_nil, List.take_succ_cons, List.take_zero, Nat.mul_one, Nat.zero_add, Nat.add_zero, Nat.one_mul, Nat.zero_mul, List.getElem?_map, List.getElem?_drop, List.getElem?_take, List.length_map, Option.map_some, List.set_cons_zero, List.set_cons_succ, and_true, true_and, List.flatMap_cons, List.flatMap_nil, Bool.not_not, aBool, aInt, aR, aReach, hws, aU64s, aSl]
      refine wpa_bl (α := Nat) (I := fun k ε σ => (ε 18 = .sl ws.length (ws.map aU64) .none ∧ ε 19 = .v (.int .i64 ws.length) ∧ ε 20 = .v (.int .i64 k) ∧ ε 5 = .v (.int .i64 (popS (ws.take k) : Nat))) ∧ k ≤ ws.length)
        (μ := fun k => ws.length - k) (Q := fun ε σ => ε 5 = .v (.int .i64 (popS ws : Nat))) (x := 0) ?_ ?_ ?_
      · simp (maxSteps := 1000000) (implicitDefEqProofs := false) (disch := omega) only [push_cast, ↓reduceIte, Nat.reduceEqDiff, reduceCtorEq, decide_true, decide_false, Bool.not_true, Bool.not_false, Option.isNone_some, Option.isNone_none, List.drop_zero, List.drop_succ_cons, List.getElem?_cons_zero, List.getElem?_cons_succ, List.length_cons, List.length_nil, List.take_succ_cons, List.take_zero, Nat.mul_one, Nat.zero_add, Nat.add_zero, Nat.one_mul, Nat.zero_mul, List.getElem?_map, List.getElem?_drop, List.getElem?_take, List.length_map, Option.map_some, List.set_cons_zero, List.set_cons_succ, and_true, true_and, List.flatMap_cons, List.flatMap_nil, Bool.not_not]
        exact ⟨rfl, by omega⟩
      · rintro k ε σ N E ⟨hρ, hk⟩ hN hE
        simp only [S_reach_Reach_Ahead_L1]
        by_cases hlt : k < ws.length
        · obtain ⟨w, hw⟩ := at_lt hlt
          simp (maxSteps := 1000000) (implicitDefEqProofs := false) (disch := omega) only [push_cast, ↓reduceIte, Nat.reduceEqDiff, reduceCtorEq, decide_true, decide_false, Bool.not_true, Bool.not_false, Option.isNone_some, Option.isNone_none, List.drop_zero, List.drop_succ_cons, List.getElem?_cons_zero, List.getElem?_cons_succ, List.length_cons, List.length_nil, List.take_succ_cons, List.take_zero, Nat.mul_one, Nat.zero_add, Nat.add_zero, Nat.one_mul, Nat.zero_mul, List.getElem?_map, List.getElem?_drop, List.getElem?_take, List.length_map, Option.map_some, List.set_cons_zero, List.set_cons_succ, and_true, true_and, List.flatMap_cons, List.flatMap_nil, Bool.not_not, hρ, hw]
          refine wpa_call (OnesCount64_a w) ?_
          rintro x rfl
          have hp1 := popF_lt w
          have hp2 := popS_le (ws.take k)
          have hp3 : (ws.take k).length = k := by simp; omega
          simp (maxSteps := 1000000) (implicitDefEqProofs := false) (disch := omega) only [push_cast, ↓reduceIte, Nat.reduceEqDiff, reduceCtorEq, decide_true, decide_false, Bool.not_true, Bool.not_false, Option.isNone_some, Option.isNone_none, List.drop_zero, List.drop_succ_cons, List.getElem?_cons_zero, List.getElem?_cons_succ, List.length_cons, List.length_nil, List.take_succ_cons, List.take_zero, Nat.mul_one, Nat.zero_add, Nat.add_zero, Nat.one_mul, Nat.zero_mul, List.getElem?_map, List.getElem?_drop, List.getElem?_take, List.length_map, Option.map_some, List.set_cons_zero, List.set_cons_succ, and_true, true_and, List.flatMap_cons, List.flatMap_nil, Bool.not_not, hρ, aInt]
          refine hN (k + 1) _ _ ?_ (by omega)
          simp (maxSteps := 1000000) (implicitDefEqProofs := false) (disch := omega) only [push_cast, ↓reduceIte, Nat.reduceEqDiff, reduceCtorEq, decide_true, decide_false, Bool.not_true, Bool.not_false, Option.isNone_some, Option.isNone_none, List.drop_zero, List.drop_succ_cons, List.getElem?_cons_zero, List.getElem?_cons_succ, List.length_cons, List.length_nil, List.take_succ_cons, List.take_zero, Nat.mul_one, Nat.zero_add, Nat.add_zero, Nat.one_mul, Nat.zero_mul, List.getElem?_map, List.getElem?_drop, List.getElem?_take, List.length_map, Option.map_some, List.set_cons_zero, List.set_cons_succ, and_true, true_and, List.flatMap_cons, List.flatMap_nil, Bool.not_not, hρ]
          refine ⟨?_, by omega⟩
          rw [take_succ_at hw, popS_snoc]
          push_cast
          rfl
        · simp (maxSteps := 1000000) (implicitDefEqProofs := false) (disch := omega) only [push_cast, ↓reduceIte, Nat.reduceEqDiff, reduceCtorEq, decide_true, decide_false, Bool.not_true, Bool.not_false, Option.isNone_some, Option.isNone_none, List.drop_zero, List.drop_succ_cons, List.getElem?_cons_zero, List.getElem?_cons_succ, List.length_cons, List.length_nil, List.take_succ_cons, List.take_zero, Nat.mul_one, Nat.zero_add, Nat.add_zero, Nat.one_mul, Nat.zero_mul, List.getElem?_map, List.getElem?_drop, List.getElem?_take, List.length_map, Option.map_some, List.set_cons_zero, List.set_cons_succ, and_true, true_and, List.flatMap_cons, List.flatMap_nil, Bool.not_not, hρ]
          refine hE _ _ ?_
          simp (maxSteps := 1000000) (implicitDefEqProofs := false) (disch := omega) only [push_cast, ↓reduceIte, Nat.reduceEqDiff, reduceCtorEq, decide_true, decide_false, Bool.not_true, Bool.not_false, Option.isNone_some, Option.isNone_none, List.drop_zero, List.drop_succ_cons, List.getElem?_cons_zero, List.getElem?_cons_succ, List.length_cons, List.length_nil, List.take_succ_cons, List.take_zero, Nat.mul_one, Nat.zero_add, Nat.add_zero, Nat.one_mul, Nat.zero_mul, List.getElem?_map, List.getElem?_drop, List.getElem?_take, List.length_map, Option.map_some, List.set_cons_zero, List.set_cons_succ, and_true, true_and, List.flatMap_cons, List.flatMap_nil, Bool.not_not, hρ]
          rw [List.take_of_length_le (by omega)]
      · rintro ε σ hρ
        simp (maxSteps := 1000000) (implicitDefEqProofs := false) (disch := omega) only [push_cast, ↓reduceIte, Nat.reduceEqDiff, reduceCtorEq, decide_true, decide_false, Bool.not_true, Bool.not_false, Option.isNone_some, Option.isNone_none, List.drop_zero, List.drop_succ_cons, List.getElem?_cons_zero, List.getElem?_cons_succ, List.length_cons, List.length_nil, List.take_succ_cons, List.take_zero, Nat.mul_one, Nat.zero_add, Nat.add_zero, Nat.one_mul, Nat.zero_mul, List.getElem?_map, List.getElem?_drop, List.getElem?_take, List.length_map, Option.map_some, List.set_cons_zero, List.set_cons_succ, and_true, true_and, List.flatMap_cons, List.flatMap_nil, Bool.not_not, hρ]
        exact fin_v (by simp [aInt, aheadR, hb, List.getD_eq_getElem?_getD, hws])
end Go.Proofs.Ytilofhocodbknaa
