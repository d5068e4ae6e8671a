/- ReachThrough: the walk. -/
import Derived.Test.YtilofhocodbknaaRg
namespace Go.Proofs.Ytilofhocodbknaa
set_option linter.unusedVariables false
set_option linter.unusedSimpArgs false
open Go Go.Kx Go.Proofs

theorem Anc.trans {xss : List (List Int)} {k j i : Nat} (h1 : Anc xss k j) (h2 : Anc xss j i) : Anc xss k i := by
  induction h2 with
  | dir e1 e2 => exact .via e1 e2 h1
  | via e1 e2 _ ih => exact .via e1 e2 (ih h1)

def BB (M : List (List Nat)) (i j : Nat) : Bool := decide (i < j) && bitM M i j
theorem BB_eq {M : List (List Nat)} {i j : Nat} (hi : i < M.length) (hj : j < M.length) :
    (decide (inB M i ∧ inB M j ∧ (i : Int) < (j : Int)) && bitM M (Int.toNat i) (Int.toNat j)) = BB M i j := by
  have h1 : inB M i := ⟨by omega, by omega⟩
  have h2 : inB M j := ⟨by omega, by omega⟩
  simp [h1, h2, BB]
theorem AP_eq {M : List (List Nat)} {i j : Nat} (hi : i < M.length) (hj : j < M.length) :
    (decide (inB M i ∧ inB M j ∧ (i : Int) ≠ (j : Int)) && !(decide ((i : Int) < j) && bitM M (Int.toNat i) (Int.toNat j)) && !(decide ((j : Int) < i) && bitM M (Int.toNat j) (Int.toNat i))) = (decide (i ≠ j) && !BB M i j && !BB M j i) := by
  have h1 : inB M i := ⟨by omega, by omega⟩
  have h2 : inB M j := ⟨by omega, by omega⟩
  have h3 : ((i : Int) = j) ↔ i = j := by omega
  simp [h1, h2, BB, h3]
theorem BB_anc {xss : List (List Int)} {M : List (List Nat)} (hM : NewOk xss M xss.length) (hok : okP xss) {i j : Nat} (hj : j < xss.length) : BB M i j = true ↔ Anc xss i j := by
  unfold BB
  rw [Bool.and_eq_true, decide_eq_true_eq, hM.2.2 j hj]
  exact ⟨fun h => h.2, fun h => ⟨h.lt hok, h⟩⟩
theorem BB_irr (M : List (List Nat)) (i : Nat) : BB M i i = false := by simp [BB]
theorem BB_asym {M : List (List Nat)} {i j : Nat} (h : BB M i j = true) : BB M j i = false := by
  simp [BB] at h ⊢
  intro h2; omega

theorem AP_self (M : List (List Nat)) (i : Nat) : (decide (i ≠ i) && !BB M i i && !BB M i i) = false := by simp
theorem u64_of (a : Int) : ∃ A : Nat, IntKind.u64.wrap a = (A : Int) := by
  refine ⟨(IntKind.u64.wrap a).toNat, ?_⟩
  have : 0 ≤ IntKind.u64.wrap a := by
    simp only [IntKind.wrap, IntKind.bits, IntKind.signed, Bool.false_and]
    simp
    omega
  omega
theorem mod_of (A n : Nat) (h : 0 < n) : ∃ X : Nat, X < n ∧ (A : Int) % (n : Int) = X := ⟨A % n, Nat.mod_lt _ h, by push_cast; rfl⟩

set_option maxHeartbeats 1000000 in
theorem ReachThrough_fn (xss : List (List Int)) (v : Value) (a b c : Int) (h : Heap) (hv : Ints2 (hp h) v xss) :
    FnC Try.prog 10 #[v, .int .i64 a, .int .i64 b, .int .i64 c] h fun r h' => Sat [base h] h' ∧ r = .bool true := by
  have hlen := hv.len
  have hle := hv.le
  refine fn_in K_forebaylaw31_ReachThrough mixed (args := [v, .int .i64 a, .int .i64 b, .int .i64 c]) rfl ?_
  simp only [S_forebaylaw31_ReachThrough]
  simp (maxSteps := 1000000) (implicitDefEqProofs := false) (disch := omega) only [push_cast, ↓reduceIte, Nat.reduceEqDiff, reduceCtorEq, decide_true, decide_false, Bool.not_true, Bool.not_false, Option.isNone_some, Option.isNone_none]
  refine wp_call (rlaw_works_fn h) ?_
  rintro x h1 ⟨H1, rfl⟩
  have hv1 := hv.up (H1.base 0 rfl)
  simp (maxSteps := 1000000) (implicitDefEqProofs := false) (disch := omega) only [push_cast, ↓reduceIte, Nat.reduceEqDiff, reduceCtorEq, decide_true, decide_false, Bool.not_true, Bool.not_false, Option.isNone_some, Option.isNone_none]
  refine wp_call (rlaw_great_fn xss v h1 hv1) ?_
  rintro x h2 ⟨rfl, g, rfl, hg⟩
  cases g with
  | true => 
    simp (maxSteps := 1000000) (implicitDefEqProofs := false) (disch := omega) only [push_cast, ↓reduceIte, Nat.reduceEqDiff, reduceCtorEq, decide_true, decide_false, Bool.not_true, Bool.not_false, Option.isNone_some, Option.isNone_none]
    exact ⟨H1, trivial⟩
  | false =>
    obtain ⟨hg1, hg2⟩ := hg rfl
    simp (maxSteps := 1000000) (implicitDefEqProofs := false) (disch := omega) only [push_cast, ↓reduceIte, Nat.reduceEqDiff, reduceCtorEq, decide_true, decide_false, Bool.not_true, Bool.not_false, Option.isNone_some, Option.isNone_none]
    refine wp_call (ref31_Check_fn xss v h2 hv1) ?_
    rintro x h3 ⟨rfl, rfl⟩
    by_cases hc : chk xss = 0
    · obtain ⟨_, hok⟩ := chk_zero.1 hc
      by_cases hn : xss.length = 0
      · simp (maxSteps := 1000000) (implicitDefEqProofs := false) (disch := omega) only [push_cast, ↓reduceIte, Nat.reduceEqDiff, reduceCtorEq, decide_true, decide_false, Bool.not_true, Bool.not_false, Option.isNone_some, Option.isNone_none, hlen]
        exact ⟨H1, trivial⟩
      · simp (maxSteps := 1000000) (implicitDefEqProofs := false) (disch := omega) only [push_cast, ↓reduceIte, Nat.reduceEqDiff, reduceCtorEq, decide_true, decide_false, Bool.not_true, Bool.not_false, Option.isNone_some, Option.isNone_none, hlen]
        refine wp_call (rlaw_own_fn xss v h3 hv1 hg1 hg2) ?_
        rintro o h4 H4
        have ho : Ints2 (hp h4) o xss := H4.get 1 rfl (fun _ _ hle H => H.up hle)
        simp (maxSteps := 1000000) (implicitDefEqProofs := false) (disch := omega) only [push_cast, ↓reduceIte, Nat.reduceEqDiff, reduceCtorEq, decide_true, decide_false, Bool.not_true, Bool.not_false, Option.isNone_some, Option.isNone_none]
        refine wp_call (reach_New_fn xss o h4 ho) ?_
        rintro x h5 (⟨_, p, M, rfl, hM, H5⟩ | ⟨hbad, _⟩)
        · have hr : ReachR (hp h5) (.pointer (some p)) M := H5.get 1 rfl (fun _ _ hle H => H.up hle)
          have HF : Sat [base h] h5 := H1.ext ((H4.ext H5).pick [0] rfl rfl)
          obtain ⟨A, hA⟩ := u64_of a
          obtain ⟨B, hB⟩ := u64_of b
          obtain ⟨C, hC⟩ := u64_of c
          have hpos : 0 < xss.length := by omega
          obtain ⟨X, hX, eX⟩ := mod_of A xss.length hpos
          obtain ⟨Y, hY, eY⟩ := mod_of B xss.length hpos
          obtain ⟨Z, hZ, eZ⟩ := mod_of C xss.length hpos
          have hML := hM.1
          have hwl : IntKind.u64.wrap (xss.length : Int) = (xss.length : Nat) := wrap_u64 (by omega)
          simp (maxSteps := 1000000) (implicitDefEqProofs := false) (disch := omega) only [push_cast, ↓reduceIte, Nat.reduceEqDiff, reduceCtorEq, decide_true, decide_false, Bool.not_true, Bool.not_false, Option.isNone_some, Option.isNone_none, hlen, hwl, hA, hB, hC, eX, eY, eZ]
          refine wp_call (reach_Before_fn M hM.2.1 _ X X h5 hr) ?_
          rintro x h6 ⟨rfl, rfl⟩
          rw [BB_eq (by omega) (by omega), BB_irr]
          simp (maxSteps := 1000000) (implicitDefEqProofs := false) (disch := omega) only [push_cast, ↓reduceIte, Nat.reduceEqDiff, reduceCtorEq, decide_true, decide_false, Bool.not_true, Bool.not_false, Option.isNone_some, Option.isNone_none]
          refine wp_call (reach_Apart_fn M hM.2.1 _ X X h6 hr) ?_
          rintro x h7 ⟨rfl, rfl⟩
          rw [AP_eq (by omega) (by omega), AP_self]
          simp (maxSteps := 1000000) (implicitDefEqProofs := false) (disch := omega) only [push_cast, ↓reduceIte, Nat.reduceEqDiff, reduceCtorEq, decide_true, decide_false, Bool.not_true, Bool.not_false, Option.isNone_some, Option.isNone_none]
          refine wp_call (reach_Before_fn M hM.2.1 _ X Y h7 hr) ?_
          rintro x h8 ⟨rfl, rfl⟩
          rw [BB_eq (by omega) (by omega)]
          cases hxy : BB M X Y with
          | false =>
            simp (maxSteps := 1000000) (implicitDefEqProofs := false) (disch := omega) only [push_cast, ↓reduceIte, Nat.reduceEqDiff, reduceCtorEq, decide_true, decide_false, Bool.not_true, Bool.not_false, Option.isNone_some, Option.isNone_none]
            by_cases hXY : X = Y
            · subst hXY
              simp (maxSteps := 1000000) (implicitDefEqProofs := false) (disch := omega) only [push_cast, ↓reduceIte, Nat.reduceEqDiff, reduceCtorEq, decide_true, decide_false, Bool.not_true, Bool.not_false, Option.isNone_some, Option.isNone_none]
              exact ⟨HF, trivial⟩
            · simp (maxSteps := 1000000) (implicitDefEqProofs := false) (disch := omega) only [push_cast, ↓reduceIte, Nat.reduceEqDiff, reduceCtorEq, decide_true, decide_false, Bool.not_true, Bool.not_false, Option.isNone_some, Option.isNone_none]
              refine wp_call (reach_Before_fn M hM.2.1 _ X Y h8 hr) ?_
              rintro x hy ⟨rfl, rfl⟩
              rw [BB_eq (by omega) (by omega), hxy]
              simp (maxSteps := 1000000) (implicitDefEqProofs := false) (disch := omega) only [push_cast, ↓reduceIte, Nat.reduceEqDiff, reduceCtorEq, decide_true, decide_false, Bool.not_true, Bool.not_false, Option.isNone_some, Option.isNone_none]
              refine wp_call (reach_Before_fn M hM.2.1 _ Y X hy hr) ?_
              rintro x hw ⟨rfl, rfl⟩
              rw [BB_eq (by omega) (by omega)]
              cases hyx : BB M Y X with
              | false =>
                simp (maxSteps := 1000000) (implicitDefEqProofs := false) (disch := omega) only [push_cast, ↓reduceIte, Nat.reduceEqDiff, reduceCtorEq, decide_true, decide_false, Bool.not_true, Bool.not_false, Option.isNone_some, Option.isNone_none]
                refine wp_call (reach_Apart_fn M hM.2.1 _ X Y hw hr) ?_
                rintro x hz ⟨rfl, rfl⟩
                rw [AP_eq (by omega) (by omega), hxy, hyx]
                simp (maxSteps := 1000000) (implicitDefEqProofs := false) (disch := omega) only [push_cast, ↓reduceIte, Nat.reduceEqDiff, reduceCtorEq, decide_true, decide_false, Bool.not_true, Bool.not_false, Option.isNone_some, Option.isNone_none]
                exact ⟨HF, by simp [hXY]⟩
              | true =>
                simp (maxSteps := 1000000) (implicitDefEqProofs := false) (disch := omega) only [push_cast, ↓reduceIte, Nat.reduceEqDiff, reduceCtorEq, decide_true, decide_false, Bool.not_true, Bool.not_false, Option.isNone_some, Option.isNone_none]
                refine wp_call (reach_Apart_fn M hM.2.1 _ X Y hw hr) ?_
                rintro x hz ⟨rfl, rfl⟩
                rw [AP_eq (by omega) (by omega), hxy, hyx]
                simp (maxSteps := 1000000) (implicitDefEqProofs := false) (disch := omega) only [push_cast, ↓reduceIte, Nat.reduceEqDiff, reduceCtorEq, decide_true, decide_false, Bool.not_true, Bool.not_false, Option.isNone_some, Option.isNone_none]
                exact ⟨HF, by simp [hXY]⟩
          | true =>
            simp (maxSteps := 1000000) (implicitDefEqProofs := false) (disch := omega) only [push_cast, ↓reduceIte, Nat.reduceEqDiff, reduceCtorEq, decide_true, decide_false, Bool.not_true, Bool.not_false, Option.isNone_some, Option.isNone_none]
            refine wp_call (reach_Before_fn M hM.2.1 _ Y Z h8 hr) ?_
            rintro x h9 ⟨rfl, rfl⟩
            rw [BB_eq (by omega) (by omega)]
            cases hyz : BB M Y Z with
            | false =>
              simp (maxSteps := 1000000) (implicitDefEqProofs := false) (disch := omega) only [push_cast, ↓reduceIte, Nat.reduceEqDiff, reduceCtorEq, decide_true, decide_false, Bool.not_true, Bool.not_false, Option.isNone_some, Option.isNone_none]
              by_cases hXY : X = Y
              · subst hXY
                simp (maxSteps := 1000000) (implicitDefEqProofs := false) (disch := omega) only [push_cast, ↓reduceIte, Nat.reduceEqDiff, reduceCtorEq, decide_true, decide_false, Bool.not_true, Bool.not_false, Option.isNone_some, Option.isNone_none]
                exact ⟨HF, trivial⟩
              · simp (maxSteps := 1000000) (implicitDefEqProofs := false) (disch := omega) only [push_cast, ↓reduceIte, Nat.reduceEqDiff, reduceCtorEq, decide_true, decide_false, Bool.not_true, Bool.not_false, Option.isNone_some, Option.isNone_none]
                refine wp_call (reach_Before_fn M hM.2.1 _ X Y h9 hr) ?_
                rintro x hy ⟨rfl, rfl⟩
                rw [BB_eq (by omega) (by omega), hxy]
                simp (maxSteps := 1000000) (implicitDefEqProofs := false) (disch := omega) only [push_cast, ↓reduceIte, Nat.reduceEqDiff, reduceCtorEq, decide_true, decide_false, Bool.not_true, Bool.not_false, Option.isNone_some, Option.isNone_none]
                refine wp_call (reach_Apart_fn M hM.2.1 _ X Y hy hr) ?_
                rintro x hz ⟨rfl, rfl⟩
                rw [AP_eq (by omega) (by omega), hxy, BB_asym hxy]
                simp (maxSteps := 1000000) (implicitDefEqProofs := false) (disch := omega) only [push_cast, ↓reduceIte, Nat.reduceEqDiff, reduceCtorEq, decide_true, decide_false, Bool.not_true, Bool.not_false, Option.isNone_some, Option.isNone_none]
                exact ⟨HF, by simp [hXY]⟩
            | true =>
              simp (maxSteps := 1000000) (implicitDefEqProofs := false) (disch := omega) only [push_cast, ↓reduceIte, Nat.reduceEqDiff, reduceCtorEq, decide_true, decide_false, Bool.not_true, Bool.not_false, Option.isNone_some, Option.isNone_none]
              refine wp_call (reach_Before_fn M hM.2.1 _ X Z h9 hr) ?_
              rintro x h10 ⟨rfl, rfl⟩
              have hxz : BB M X Z = true := (BB_anc hM hok hZ).2 (((BB_anc hM hok hY).1 hxy).trans ((BB_anc hM hok hZ).1 hyz))
              rw [BB_eq (by omega) (by omega), hxz]
              simp (maxSteps := 1000000) (implicitDefEqProofs := false) (disch := omega) only [push_cast, ↓reduceIte, Nat.reduceEqDiff, reduceCtorEq, decide_true, decide_false, Bool.not_true, Bool.not_false, Option.isNone_some, Option.isNone_none]
              by_cases hXY : X = Y
              · subst hXY
                simp (maxSteps := 1000000) (implicitDefEqProofs := false) (disch := omega) only [push_cast, ↓reduceIte, Nat.reduceEqDiff, reduceCtorEq, decide_true, decide_false, Bool.not_true, Bool.not_false, Option.isNone_some, Option.isNone_none]
                exact ⟨HF, trivial⟩
              · simp (maxSteps := 1000000) (implicitDefEqProofs := false) (disch := omega) only [push_cast, ↓reduceIte, Nat.reduceEqDiff, reduceCtorEq, decide_true, decide_false, Bool.not_true, Bool.not_false, Option.isNone_some, Option.isNone_none]
                refine wp_call (reach_Before_fn M hM.2.1 _ X Y h10 hr) ?_
                rintro x hy ⟨rfl, rfl⟩
                rw [BB_eq (by omega) (by omega), hxy]
                simp (maxSteps := 1000000) (implicitDefEqProofs := false) (disch := omega) only [push_cast, ↓reduceIte, Nat.reduceEqDiff, reduceCtorEq, decide_true, decide_false, Bool.not_true, Bool.not_false, Option.isNone_some, Option.isNone_none]
                refine wp_call (reach_Apart_fn M hM.2.1 _ X Y hy hr) ?_
                rintro x hz ⟨rfl, rfl⟩
                rw [AP_eq (by omega) (by omega), hxy, BB_asym hxy]
                simp (maxSteps := 1000000) (implicitDefEqProofs := false) (disch := omega) only [push_cast, ↓reduceIte, Nat.reduceEqDiff, reduceCtorEq, decide_true, decide_false, Bool.not_true, Bool.not_false, Option.isNone_some, Option.isNone_none]
                exact ⟨HF, by simp [hXY]⟩
        · exact absurd hc hbad
    · simp (maxSteps := 1000000) (implicitDefEqProofs := false) (disch := omega) only [push_cast, ↓reduceIte, Nat.reduceEqDiff, reduceCtorEq, decide_true, decide_false, Bool.not_true, Bool.not_false, Option.isNone_some, Option.isNone_none]
      exact ⟨H1, trivial⟩
end Go.Proofs.Ytilofhocodbknaa
