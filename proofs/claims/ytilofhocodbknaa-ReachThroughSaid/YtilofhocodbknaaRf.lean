/- Contracts: OnesCount64, Ahead. -/
import Derived.Test.YtilofhocodbknaaRe
namespace Go.Proofs.Ytilofhocodbknaa
set_option linter.unusedVariables false
set_option linter.unusedSimpArgs false
open Go Go.Kx Go.Proofs

def andN (a b : Nat) : Nat := a &&& b
def addW (a b : Nat) : Nat := (a + b) % 18446744073709551616
theorem v_andN (m c : Nat) (hc : c < 18446744073709551616) : PF.val (.bin .and) [.int .u64 m, .int .u64 (c : Nat)] = some (.int .u64 (andN m c : Nat)) := by
  simp only [PF.val, binV, isSh, binI, if_true, Bool.false_eq_true, if_false]
  have : (BitVec.ofInt IntKind.u64.bits (m : Int) &&& BitVec.ofInt IntKind.u64.bits (c : Int)).toNat = m &&& c := by
    show (BitVec.ofInt 64 (m : Int) &&& BitVec.ofInt 64 (c : Int)).toNat = _
    rw [bv_nat, bv_nat]
    simp only [BitVec.toNat_and, BitVec.toNat_ofNat]
    apply Nat.eq_of_testBit_eq
    intro i
    simp only [Nat.testBit_and, Nat.testBit_mod_two_pow]
    by_cases hi : i < 64
    · simp [hi]
    · have : c.testBit i = false := Nat.testBit_lt_two_pow (Nat.lt_of_lt_of_le hc (by
        have : (2 : Nat) ^ 64 ≤ 2 ^ i := Nat.pow_le_pow_right (by omega) (by omega)
        simpa using this))
      simp [hi, this]
  have h3 : m &&& c < 18446744073709551616 := Nat.lt_of_le_of_lt Nat.and_le_right hc
  rw [this, wrap_u64 h3]
  rfl
theorem v_addW (a b : Nat) : PF.val (.bin .add) [.int .u64 a, .int .u64 b] = some (.int .u64 (addW a b : Nat)) := by
  rw [v_add]
  have : IntKind.u64.wrap ((a : Int) + (b : Int)) = (addW a b : Nat) := by
    simp only [IntKind.wrap, IntKind.bits, IntKind.signed, Bool.false_and]
    simp [addW]
  rw [this]
def mod128 (x : Nat) : Nat := x % 128
theorem v_and127 (x : Nat) : PF.val (.bin .and) [.int .i64 (IntKind.i64.wrap x), .int .i64 127] = some (.int .i64 (mod128 x : Nat)) := by
  simp only [PF.val, binV, isSh, binI, if_true, Bool.false_eq_true, if_false]
  have h1 : BitVec.ofInt 64 (IntKind.i64.wrap x) = BitVec.ofNat 64 x := by
    apply BitVec.eq_of_toNat_eq
    simp only [BitVec.toNat_ofInt, BitVec.toNat_ofNat, IntKind.wrap, IntKind.bits, IntKind.signed]
    simp
    split <;> omega
  have : (BitVec.ofInt IntKind.i64.bits (IntKind.i64.wrap x) &&& BitVec.ofInt IntKind.i64.bits 127).toNat = x % 128 := by
    show (BitVec.ofInt 64 (IntKind.i64.wrap x) &&& 127#64).toNat = _
    rw [h1]
    simp only [BitVec.toNat_and, BitVec.toNat_ofNat]
    have : 127 % 2 ^ 64 = 2 ^ 7 - 1 := by decide
    rw [this, Nat.and_two_pow_sub_one_eq_mod]
    omega
  rw [this, IntWalk.i64_in _ ⟨by omega, by omega⟩]
  rfl
def m0 : Nat := 6148914691236517205
def m1 : Nat := 3689348814741910323
def m2 : Nat := 1085102592571150095
theorem v_m0 (m : Nat) : PF.val (.bin .and) [.int .u64 m, .int .u64 6148914691236517205] = some (.int .u64 (andN m m0 : Nat)) := v_andN m m0 (by unfold m0; omega)
theorem v_m1 (m : Nat) : PF.val (.bin .and) [.int .u64 m, .int .u64 3689348814741910323] = some (.int .u64 (andN m m1 : Nat)) := v_andN m m1 (by unfold m1; omega)
theorem v_m2 (m : Nat) : PF.val (.bin .and) [.int .u64 m, .int .u64 1085102592571150095] = some (.int .u64 (andN m m2 : Nat)) := v_andN m m2 (by unfold m2; omega)
theorem v_shrN (w : Nat) (s : Nat) (h1 : s < 64) : PF.val (.bin .shr) [.int .u64 w, .int .u64 (s : Nat)] = some (.int .u64 (shrN w s : Nat)) := v_shr_u64 w .u64 s (by omega) (by omega)
theorem v_s1 (w : Nat) : PF.val (.bin .shr) [.int .u64 w, .int .u64 1] = some (.int .u64 (shrN w 1 : Nat)) := v_shrN w 1 (by omega)
theorem v_s2 (w : Nat) : PF.val (.bin .shr) [.int .u64 w, .int .u64 2] = some (.int .u64 (shrN w 2 : Nat)) := v_shrN w 2 (by omega)
theorem v_s4 (w : Nat) : PF.val (.bin .shr) [.int .u64 w, .int .u64 4] = some (.int .u64 (shrN w 4 : Nat)) := v_shrN w 4 (by omega)
theorem v_s8 (w : Nat) : PF.val (.bin .shr) [.int .u64 w, .int .u64 8] = some (.int .u64 (shrN w 8 : Nat)) := v_shrN w 8 (by omega)
theorem v_s16 (w : Nat) : PF.val (.bin .shr) [.int .u64 w, .int .u64 16] = some (.int .u64 (shrN w 16 : Nat)) := v_shrN w 16 (by omega)
theorem v_s32 (w : Nat) : PF.val (.bin .shr) [.int .u64 w, .int .u64 32] = some (.int .u64 (shrN w 32 : Nat)) := v_shrN w 32 (by omega)
def pc1 (x : Nat) : Nat := addW (andN (shrN x 1) m0) (andN x m0)
def pc2 (x : Nat) : Nat := addW (andN (shrN x 2) m1) (andN x m1)
def pc3 (x : Nat) : Nat := andN (addW (shrN x 4) x) m2
def pc4 (x : Nat) (s : Nat) : Nat := addW x (shrN x s)
theorem f1 (x : Nat) : addW (andN (shrN x 1) m0) (andN x m0) = pc1 x := rfl
theorem f2 (x : Nat) : addW (andN (shrN x 2) m1) (andN x m1) = pc2 x := rfl
theorem f3 (x : Nat) : andN (addW (shrN x 4) x) m2 = pc3 x := rfl
theorem f4 (x s : Nat) : addW x (shrN x s) = pc4 x s := rfl
def popF (x : Nat) : Nat := mod128 (pc4 (pc4 (pc4 (pc3 (pc2 (pc1 x))) 8) 16) 32)
theorem popF_7 : popF 7 = 3 := by kernel_rfl

set_option maxRecDepth 8000 in
theorem OnesCount64_fn (x : Nat) (h : Heap) :
    FnC Try.prog 97 #[.int .u64 x] h fun r h' => h' = h ∧ r = .int .i64 (popF x) := by
  refine fn_in K_math_bits_OnesCount64 mixed (args := [.int .u64 x]) rfl ?_
  simp only [S_math_bits_OnesCount64]
  simp (implicitDefEqProofs := false) (disch := omega) only [push_cast, ↓reduceIte, Nat.reduceEqDiff, reduceCtorEq, v_addW, v_m0, v_m1, v_m2, v_s1, v_s2, v_s4, v_s8, v_s16, v_s32, v_and127, f1, f2, f3, f4]
  exact ⟨trivial, by rw [popF]⟩

theorem popF_lt (x : Nat) : popF x < 128 := Nat.mod_lt _ (by omega)
def popS (ws : List Nat) : Nat := (ws.map popF).sum
theorem popS_le (ws : List Nat) : popS ws ≤ 127 * ws.length := by
  induction ws with
  | nil => simp [popS]
  | cons w ws ih =>
    have := popF_lt w
    simp only [popS, List.map_cons, List.sum_cons, List.length_cons] at ih ⊢
    omega
theorem popS_snoc (ws : List Nat) (w : Nat) : popS (ws ++ [w]) = popS ws + popF w := by simp [popS]
def aheadN (M : List (List Nat)) (b : Int) : Nat := if inB M b then popS (M.getD b.toNat []) else 0

theorem reach_Ahead_fn (M : List (List Nat)) (hM : wfM M) (hs : M.length ≤ 1002) (r : Value) (b : Int) (h : Heap) (hr : ReachR (hp h) r M) :
    FnC Try.prog 53 #[r, .int .i64 b] h fun x h' => h' = h ∧ x = .int .i64 (aheadN M b) := by
  refine fn_in K_reach_Reach_Ahead mixed (args := [r, .int .i64 b]) rfl ?_
  simp only [S_reach_Reach_Ahead]
  simp (maxSteps := 1000000) (implicitDefEqProofs := false) (disch := omega) only [push_cast, ↓reduceIte, Nat.reduceEqDiff, reduceCtorEq, decide_true, decide_false, Bool.not_true, Bool.not_false, Option.isNone_some, Option.isNone_none]
  refine wp_call (reach_is_fn M r b h hr) ?_
  rintro x h' ⟨rfl, rfl⟩
  by_cases hb : inB M b
  · rcases hr with ⟨rfl, rfl⟩ | ⟨p, v, rfl, h1, h2⟩
    · exact absurd hb.2 (by simpa using hb.1)
    · obtain ⟨b, rfl⟩ : ∃ t : Nat, b = t := ⟨b.toNat, by have := hb.1; omega⟩
      have hbl : b < M.length := by have := hb.2; omega
      obtain ⟨u, q, hu, e1, e2⟩ := h2.at hbl
      have hwl := hM b M[b] (List.getElem?_eq_getElem hbl)
      have hul := hu.1.len
      simp (maxSteps := 1000000) (implicitDefEqProofs := false) (disch := omega) only [push_cast, ↓reduceIte, Nat.reduceEqDiff, reduceCtorEq, decide_true, decide_false, Bool.not_true, Bool.not_false, Option.isNone_some, Option.isNone_none, hb, decide_true, Bool.not_true, h1, e1, e2, Nat.add_zero, hul]
      refine wp_bl (α := Nat) (I := fun k ρ h2 => h2 = h' ∧ k ≤ M[b].length ∧ ρ 18 = u ∧ ρ 19 = .int .i64 M[b].length ∧ ρ 20 = .int .i64 k ∧ ρ 5 = .int .i64 (popS (M[b].take k))) (μ := fun k => M[b].length - k)
        (Q := fun ρ h2 => h2 = h' ∧ ρ 5 = .int .i64 (popS M[b])) (x := 0) ?_ ?_ ?_
      · simp (maxSteps := 1000000) (implicitDefEqProofs := false) (disch := omega) only [push_cast, ↓reduceIte, Nat.reduceEqDiff, reduceCtorEq, decide_true, decide_false, Bool.not_true, Bool.not_false, Option.isNone_some, Option.isNone_none]
        exact ⟨trivial, by omega, trivial, trivial, trivial, rfl⟩
      · rintro k ρ g2 N E ⟨rfl, hk, e18, e19, e20, e5⟩ hN hE
        simp only [S_reach_Reach_Ahead_L1]
        by_cases hlt : k < M[b].length
        · obtain ⟨hw, q2, e3, e4⟩ := hu.at hlt
          simp (maxSteps := 1000000) (implicitDefEqProofs := false) (disch := omega) only [push_cast, ↓reduceIte, Nat.reduceEqDiff, reduceCtorEq, decide_true, decide_false, Bool.not_true, Bool.not_false, Option.isNone_some, Option.isNone_none, e18, e19, e20, e3, e4]
          refine wp_call (OnesCount64_fn _ g2) ?_
          rintro x h3 ⟨rfl, rfl⟩
          have hp1 := popF_lt M[b][k]
          have hp2 := popS_le (M[b].take k)
          have hp3 : (M[b].take k).length = k := by simp; omega
          simp (maxSteps := 1000000) (implicitDefEqProofs := false) (disch := omega) only [push_cast, ↓reduceIte, Nat.reduceEqDiff, reduceCtorEq, decide_true, decide_false, Bool.not_true, Bool.not_false, Option.isNone_some, Option.isNone_none, e18, e19, e20, e5]
          refine hN (k + 1) _ _ ?_ (by omega)
          simp (maxSteps := 1000000) (implicitDefEqProofs := false) (disch := omega) only [push_cast, ↓reduceIte, Nat.reduceEqDiff, reduceCtorEq, decide_true, decide_false, Bool.not_true, Bool.not_false, Option.isNone_some, Option.isNone_none, e18, e19]
          refine ⟨trivial, by omega, trivial, trivial, trivial, ?_⟩
          rw [List.take_succ_eq_append_getElem hlt, popS_snoc]
          push_cast
          rfl
        · simp (maxSteps := 1000000) (implicitDefEqProofs := false) (disch := omega) only [push_cast, ↓reduceIte, Nat.reduceEqDiff, reduceCtorEq, decide_true, decide_false, Bool.not_true, Bool.not_false, Option.isNone_some, Option.isNone_none, e18, e19, e20]
          refine hE _ _ ⟨rfl, ?_⟩
          simp (maxSteps := 1000000) (implicitDefEqProofs := false) (disch := omega) only [push_cast, ↓reduceIte, Nat.reduceEqDiff, reduceCtorEq, decide_true, decide_false, Bool.not_true, Bool.not_false, Option.isNone_some, Option.isNone_none, e5]
          rw [List.take_of_length_le (by omega)]
      · rintro ρ g2 ⟨rfl, e5⟩
        simp (maxSteps := 1000000) (implicitDefEqProofs := false) (disch := omega) only [push_cast, ↓reduceIte, Nat.reduceEqDiff, reduceCtorEq, decide_true, decide_false, Bool.not_true, Bool.not_false, Option.isNone_some, Option.isNone_none, e5]
        refine ⟨trivial, ?_⟩
        simp [aheadN, hb, List.getD_eq_getElem?_getD, hbl]
  · simp (maxSteps := 1000000) (implicitDefEqProofs := false) (disch := omega) only [push_cast, ↓reduceIte, Nat.reduceEqDiff, reduceCtorEq, decide_true, decide_false, Bool.not_true, Bool.not_false, Option.isNone_some, Option.isNone_none, hb, decide_false, Bool.not_false]
    exact ⟨trivial, by simp [aheadN, hb]⟩
end Go.Proofs.Ytilofhocodbknaa
