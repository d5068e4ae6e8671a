/- Contracts: forebaylaw31's works. -/
import Derived.Test.YtilofhocodbknaaRf
namespace Go.Proofs.Ytilofhocodbknaa
set_option linter.unusedVariables false
set_option linter.unusedSimpArgs false
open Go Go.Kx Go.Proofs

def xsW : List (List Int) := [[], [0], [0], [1, 2]]
theorem okW : okP xsW := by
  intro i l hl p hp
  match i, hl with
  | 0, hl => simp [xsW] at hl; subst hl; simp at hp
  | 1, hl => simp [xsW] at hl; subst hl; simp at hp; subst hp; omega
  | 2, hl => simp [xsW] at hl; subst hl; simp at hp; subst hp; omega
  | 3, hl => simp [xsW] at hl; subst hl; simp at hp; rcases hp with rfl | rfl <;> omega
  | n + 4, hl => simp [xsW] at hl
theorem chkW : chk xsW = 0 := chk_zero.2 ⟨by simp [xsW], okW⟩
theorem ancW3 (j : Nat) : Anc xsW j 3 ↔ j < 3 := by
  constructor
  · exact fun h => h.lt okW
  · intro h
    match j, h with
    | 0, _ => exact .via (i := 3) (p := 1) (l := [1, 2]) rfl (by simp) (.dir (l := [0]) rfl (by simp))
    | 1, _ => exact .dir (l := [1, 2]) rfl (by simp)
    | 2, _ => exact .dir (l := [1, 2]) rfl (by simp)
theorem ancW12 : ¬ Anc xsW 1 2 := by
  intro h
  cases h with
  | dir e1 e2 => simp [xsW] at e1; subst e1; simp at e2
  | @via _ p _ _ e1 e2 e3 =>
    simp [xsW] at e1; subst e1; simp at e2
    subst e2
    have := e3.lt okW
    omega
theorem ancW21 : ¬ Anc xsW 2 1 := fun h => by have := h.lt okW; omega

theorem aheadW {M : List (List Nat)} {g : PH} {r : Value} (hM : NewOk xsW M 4) (hr : ReachR g r M) : aheadN M 3 = 3 := by
  obtain ⟨h1, h2, h3⟩ := hM
  have hin : inB M 3 := ⟨by omega, by omega⟩
  have h3l : 3 < M.length := by omega
  have hl := h2 3 M[3] (List.getElem?_eq_getElem h3l)
  have hbd : ∀ w ∈ M[3], w < 18446744073709551616 := by
    rcases hr with ⟨_, rfl⟩ | ⟨b, v, _, _, hv⟩
    · simp at h1
    · obtain ⟨u, p, hu, _⟩ := hv.at h3l
      exact hu.2
  obtain ⟨w, hw⟩ : ∃ w, M[3] = [w] := by
    match hm : M[3], hl with
    | [w], _ => exact ⟨w, rfl⟩
  have hw64 := hbd w (by rw [hw]; simp)
  have hbit : ∀ j, j < 64 → w.testBit j = decide (j < 3) := by
    intro j hj
    have := h3 3 (by omega) j
    rw [ancW3] at this
    rw [bitM_eq, bitW] at this
    have e1 : M.getD 3 [] = [w] := by simp [List.getD_eq_getElem?_getD, h3l, hw]
    have e2 : j / 64 = 0 := by omega
    have e3 : j % 64 = j := by omega
    rw [e1, e2, e3] at this
    rw [Bool.eq_iff_iff, decide_eq_true_eq]
    simpa using this
  have : w = 7 := by
    apply Nat.eq_of_testBit_eq
    intro i
    by_cases hi : i < 64
    · rw [hbit i hi]
      have : ∀ i : Fin 64, decide (i.1 < 3) = Nat.testBit 7 i.1 := by decide
      exact this ⟨i, hi⟩
    · have hp : (2 : Nat) ^ 64 ≤ 2 ^ i := Nat.pow_le_pow_right (by omega) (by omega)
      have e1 : (18446744073709551616 : Nat) = 2 ^ 64 := by decide
      rw [Nat.testBit_lt_two_pow (by omega), Nat.testBit_lt_two_pow (by omega)]
  subst this
  unfold aheadN
  rw [if_pos hin]
  have e1 : M.getD (3 : Int).toNat [] = [7] := by simp [List.getD_eq_getElem?_getD, h3l, hw]
  rw [e1]
  simp [popS, popF_7]

theorem ints2W {L : List HProp} {h : Heap} {v : Value} {xss : List (List Int)} {vs : List Value} {E : TypeId} (H : osl v 1 vs E (hp h)) (hl : vs.length = xss.length) (hall : ∀ (i : Nat) (u : Value) (xs : List Int), vs[i]? = some u → xss[i]? = some xs → Ints (hp h) u xs) : Ints2 (hp h) v xss :=
  osl_RSs H hall hl
theorem ints_nil (g : PH) : Ints g (.slice none 0 0) [] := ⟨⟨rfl, none, 0, rfl, by simp, by simp, .inl rfl⟩, by simp⟩

theorem ordW : ordP [[], [0]] [0, 1] := by
  intro i hi
  match i, hi with
  | 0, _ => exact ⟨0, [], rfl, rfl, by simp, by simp⟩
  | 1, _ => exact ⟨1, [0], rfl, rfl, by simp, by simp⟩

theorem sz4 {a b c : Value} (ha : a.cells = #[a]) (hb : b.cells = #[b]) (hc : c.cells = #[c]) : ∀ v ∈ [.slice none 0 0, a, b, c], v.cells.size = 1 := by
  intro w hw
  simp only [List.mem_cons, List.not_mem_nil, or_false] at hw
  rcases hw with rfl | rfl | rfl | rfl
  · rfl
  · rw [ha]; rfl
  · rw [hb]; rfl
  · rw [hc]; rfl
theorem fl4 {a b c : Value} (ha : a.cells = #[a]) (hb : b.cells = #[b]) (hc : c.cells = #[c]) : ([.slice none 0 0, a, b, c].flatMap fun x : Value => x.cells.toList) = [.slice none 0 0, a, b, c] := by
  simp only [List.flatMap_cons, List.flatMap_nil, ha, hb, hc]
  rfl
theorem mkW {h0 h4 : Heap} {a1 a2 a3 v : Value} (H4' : Sat [base h0, osl a1 1 (ints [0]) tInt, osl a2 1 (ints [0]) tInt, osl a3 1 (ints [1, 2]) tInt, osl v 1 [.slice none 0 0, a1, a2, a3] tInts] h4) : Ints2 (hp h4) v xsW := by
  refine ints2W (L := []) (H4'.get 4 rfl (osl_up _ _ _ _)) rfl ?_
  intro i u xs hu hx
  match i, hu, hx with
  | 0, hu, hx => simp [xsW] at hu hx; subst hu; subst hx; exact ints_nil _
  | 1, hu, hx => simp [xsW] at hu hx; subst hu; subst hx; exact Ints_of (H4'.get 1 rfl (osl_up _ _ _ _)) (by simp [inI])
  | 2, hu, hx => simp [xsW] at hu hx; subst hu; subst hx; exact Ints_of (H4'.get 2 rfl (osl_up _ _ _ _)) (by simp [inI])
  | 3, hu, hx => simp [xsW] at hu hx; subst hu; subst hx; exact Ints_of (H4'.get 3 rfl (osl_up _ _ _ _)) (by simp [inI])
  | n + 4, hu, hx => simp [xsW] at hx
theorem sz2 {a : Value} (ha : a.cells = #[a]) : ∀ v ∈ [.slice none 0 0, a], v.cells.size = 1 := by
  intro w hw
  simp only [List.mem_cons, List.not_mem_nil, or_false] at hw
  rcases hw with rfl | rfl
  · rfl
  · rw [ha]; rfl
theorem fl2 {a : Value} (ha : a.cells = #[a]) : ([.slice none 0 0, a].flatMap fun x : Value => x.cells.toList) = [.slice none 0 0, a] := by
  simp only [List.flatMap_cons, List.flatMap_nil, ha]
  rfl
theorem longestW : longest xsW = 3 := by decide
set_option maxHeartbeats 1000000 in
theorem rlaw_works_fn (h : Heap) : FnC Try.prog 43 #[] h fun r h' => Sat [base h] h' ∧ r = .bool true := by
  refine fn_in K_forebaylaw31_works mixed (args := []) rfl ?_
  simp only [S_forebaylaw31_works]
  simp (maxSteps := 1000000) (implicitDefEqProofs := false) (disch := omega) only [push_cast, ↓reduceIte, Nat.reduceEqDiff, reduceCtorEq, decide_true, decide_false, Bool.not_true, Bool.not_false, Option.isNone_some, Option.isNone_none]
  refine wp_bsl (Sat.start h) (sz := 1) (by simp [Value.cells]) (by simp) ?_
  intro a1 h1 H1
  simp (maxSteps := 1000000) (implicitDefEqProofs := false) (disch := omega) only [push_cast, ↓reduceIte, Nat.reduceEqDiff, reduceCtorEq, decide_true, decide_false, Bool.not_true, Bool.not_false, Option.isNone_some, Option.isNone_none]
  refine wp_bsl H1 (sz := 1) (by simp [Value.cells]) (by simp) ?_
  intro a2 h2 H2
  simp (maxSteps := 1000000) (implicitDefEqProofs := false) (disch := omega) only [push_cast, ↓reduceIte, Nat.reduceEqDiff, reduceCtorEq, decide_true, decide_false, Bool.not_true, Bool.not_false, Option.isNone_some, Option.isNone_none]
  refine wp_bsl H2 (sz := 1) (by simp [Value.cells]) (by simp) ?_
  intro a3 h3 H3
  simp (maxSteps := 1000000) (implicitDefEqProofs := false) (disch := omega) only [push_cast, ↓reduceIte, Nat.reduceEqDiff, reduceCtorEq, decide_true, decide_false, Bool.not_true, Bool.not_false, Option.isNone_some, Option.isNone_none]
  have H3' : Sat [base h, osl a1 1 (ints [0]) tInt, osl a2 1 (ints [0]) tInt, osl a3 1 (ints [1, 2]) tInt] h3 := H3
  have c1 := H3'.one 1 rfl
  have c2 := H3'.one 2 rfl
  have c3 := H3'.one 3 rfl
  refine wp_bsl H3' (sz := 1) (sz4 c1.1 c2.1 c3.1) (by simp) ?_
  intro v h4 H4
  have e4 : ([.slice none 0 0, a1, a2, a3].flatMap fun x : Value => x.cells.toList) = [.slice none 0 0, a1, a2, a3] := fl4 c1.1 c2.1 c3.1
  rw [e4] at H4
  have H4' : Sat [base h, osl a1 1 (ints [0]) tInt, osl a2 1 (ints [0]) tInt, osl a3 1 (ints [1, 2]) tInt, osl v 1 [.slice none 0 0, a1, a2, a3] tInts] h4 := H4
  have hv := mkW H4'
  simp (maxSteps := 1000000) (implicitDefEqProofs := false) (disch := omega) only [push_cast, ↓reduceIte, Nat.reduceEqDiff, reduceCtorEq, decide_true, decide_false, Bool.not_true, Bool.not_false, Option.isNone_some, Option.isNone_none]
  refine wp_call (reach_New_fn xsW v h4 hv) ?_
  rintro x h5 (⟨_, a, M, rfl, hM, H5⟩ | ⟨hbad, _⟩)
  · have hr : ReachR (hp h5) (.pointer (some a)) M := H5.get 1 rfl (fun _ _ hle H => H.up hle)
    have hb03 : bitM M 0 3 = true := (hM.2.2 3 (by simp [xsW]) 0).2 ((ancW3 0).2 (by omega))
    have hb12 : bitM M 1 2 = false := by rw [← Bool.not_eq_true]; exact fun h => ancW12 ((hM.2.2 2 (by simp [xsW]) 1).1 h)
    have hb21 : bitM M 2 1 = false := by rw [← Bool.not_eq_true]; exact fun h => ancW21 ((hM.2.2 1 (by simp [xsW]) 2).1 h)
    have hah := aheadW hM hr
    have hMl : M.length = 4 := hM.1
    have hin : ∀ i : Int, 0 ≤ i → i < 4 → inB M i := fun i h1 h2 => ⟨h1, by omega⟩
    have G5 : Sat [base h] h5 := ((H4'.ext H5).pick [0] rfl rfl)
    simp (maxSteps := 1000000) (implicitDefEqProofs := false) (disch := omega) only [push_cast, ↓reduceIte, Nat.reduceEqDiff, reduceCtorEq, decide_true, decide_false, Bool.not_true, Bool.not_false, Option.isNone_some, Option.isNone_none]
    refine wp_bsl (Sat.start h5) (sz := 1) (by simp [Value.cells]) (by simp) ?_
    intro b1 h6 H6
    simp (maxSteps := 1000000) (implicitDefEqProofs := false) (disch := omega) only [push_cast, ↓reduceIte, Nat.reduceEqDiff, reduceCtorEq, decide_true, decide_false, Bool.not_true, Bool.not_false, Option.isNone_some, Option.isNone_none]
    refine wp_bsl H6 (sz := 1) (by simp [Value.cells]) (by simp) ?_
    intro b2 h7 H7
    simp (maxSteps := 1000000) (implicitDefEqProofs := false) (disch := omega) only [push_cast, ↓reduceIte, Nat.reduceEqDiff, reduceCtorEq, decide_true, decide_false, Bool.not_true, Bool.not_false, Option.isNone_some, Option.isNone_none]
    refine wp_bsl H7 (sz := 1) (by simp [Value.cells]) (by simp) ?_
    intro b3 h8 H8
    simp (maxSteps := 1000000) (implicitDefEqProofs := false) (disch := omega) only [push_cast, ↓reduceIte, Nat.reduceEqDiff, reduceCtorEq, decide_true, decide_false, Bool.not_true, Bool.not_false, Option.isNone_some, Option.isNone_none]
    have H8' : Sat [base h5, osl b1 1 (ints [0]) tInt, osl b2 1 (ints [0]) tInt, osl b3 1 (ints [1, 2]) tInt] h8 := H8
    have d1 := H8'.one 1 rfl
    have d2 := H8'.one 2 rfl
    have d3 := H8'.one 3 rfl
    refine wp_bsl H8' (sz := 1) (sz4 d1.1 d2.1 d3.1) (by simp) ?_
    intro v2 h9 H9
    rw [fl4 d1.1 d2.1 d3.1] at H9
    have hv2 := mkW H9
    simp (maxSteps := 1000000) (implicitDefEqProofs := false) (disch := omega) only [push_cast, ↓reduceIte, Nat.reduceEqDiff, reduceCtorEq, decide_true, decide_false, Bool.not_true, Bool.not_false, Option.isNone_some, Option.isNone_none]
    refine wp_call (reach_Longest_fn xsW v2 h9 hv2) ?_
    rintro x h10 ⟨H10, ⟨_, rfl⟩ | ⟨hbad, _⟩⟩
    · rw [longestW]
      have G10 : Sat [base h5] h10 := ((H9.ext H10).pick [0] rfl rfl)
      have hr10 := hr.up (G10.base 0 rfl)
      have r1 : (decide (inB M 0 ∧ inB M 3 ∧ (0 : Int) < 3) && bitM M (Int.toNat 0) (Int.toNat 3)) = true := by
        have := hin 0 (by omega) (by omega); have := hin 3 (by omega) (by omega)
        simp [*]
      have r2 : (decide (inB M 1 ∧ inB M 2 ∧ (1 : Int) ≠ 2) && !(decide ((1 : Int) < 2) && bitM M (Int.toNat 1) (Int.toNat 2)) && !(decide ((2 : Int) < 1) && bitM M (Int.toNat 2) (Int.toNat 1))) = true := by
        have := hin 1 (by omega) (by omega); have := hin 2 (by omega) (by omega)
        simp [*]
      have r3 : (decide (inB M 1 ∧ inB M 2 ∧ (1 : Int) < 2) && bitM M (Int.toNat 1) (Int.toNat 2)) = false := by
        simp [*]
      simp (maxSteps := 1000000) (implicitDefEqProofs := false) (disch := omega) only [push_cast, ↓reduceIte, Nat.reduceEqDiff, reduceCtorEq, decide_true, decide_false, Bool.not_true, Bool.not_false, Option.isNone_some, Option.isNone_none]
      refine wp_call (reach_Before_fn M hM.2.1 _ 0 3 h10 hr10) ?_
      rintro x h11 ⟨rfl, rfl⟩
      rw [r1]
      simp (maxSteps := 1000000) (implicitDefEqProofs := false) (disch := omega) only [push_cast, ↓reduceIte, Nat.reduceEqDiff, reduceCtorEq, decide_true, decide_false, Bool.not_true, Bool.not_false, Option.isNone_some, Option.isNone_none]
      refine wp_call (reach_Apart_fn M hM.2.1 _ 1 2 h11 hr10) ?_
      rintro x h12 ⟨rfl, rfl⟩
      rw [r2]
      simp (maxSteps := 1000000) (implicitDefEqProofs := false) (disch := omega) only [push_cast, ↓reduceIte, Nat.reduceEqDiff, reduceCtorEq, decide_true, decide_false, Bool.not_true, Bool.not_false, Option.isNone_some, Option.isNone_none]
      refine wp_call (reach_Before_fn M hM.2.1 _ 1 2 h12 hr10) ?_
      rintro x h13 ⟨rfl, rfl⟩
      rw [r3]
      simp (maxSteps := 1000000) (implicitDefEqProofs := false) (disch := omega) only [push_cast, ↓reduceIte, Nat.reduceEqDiff, reduceCtorEq, decide_true, decide_false, Bool.not_true, Bool.not_false, Option.isNone_some, Option.isNone_none]
      refine wp_call (reach_Ahead_fn M hM.2.1 (by omega) _ 3 h13 hr10) ?_
      rintro x h14 ⟨rfl, rfl⟩
      rw [hah]
      simp (maxSteps := 1000000) (implicitDefEqProofs := false) (disch := omega) only [push_cast, ↓reduceIte, Nat.reduceEqDiff, reduceCtorEq, decide_true, decide_false, Bool.not_true, Bool.not_false, Option.isNone_some, Option.isNone_none]
      refine wp_bsl G10 (sz := 1) (by simp [Value.cells]) (by simp) ?_
      intro f1 k1 F1
      simp (maxSteps := 1000000) (implicitDefEqProofs := false) (disch := omega) only [push_cast, ↓reduceIte, Nat.reduceEqDiff, reduceCtorEq, decide_true, decide_false, Bool.not_true, Bool.not_false, Option.isNone_some, Option.isNone_none]
      have F1' : Sat [base h5, osl f1 1 (ints [0]) tInt] k1 := F1
      have f1o := F1'.one 1 rfl
      refine wp_bsl F1' (sz := 1) (sz2 f1o.1) (by simp) ?_
      intro f2 k2 F2
      rw [fl2 f1o.1] at F2
      simp (maxSteps := 1000000) (implicitDefEqProofs := false) (disch := omega) only [push_cast, ↓reduceIte, Nat.reduceEqDiff, reduceCtorEq, decide_true, decide_false, Bool.not_true, Bool.not_false, Option.isNone_some, Option.isNone_none]
      refine wp_bsl F2 (sz := 1) (by simp [Value.cells]) (by simp) ?_
      intro f3 k3 F3
      have F3' : Sat [base h5, osl f1 1 (ints [0]) tInt, osl f2 1 [.slice none 0 0, f1] tInts, osl f3 1 (ints [0, 1]) tInt] k3 := F3
      have hva : Ints2 (hp k3) f2 [[], [0]] := by
        refine ints2W (L := []) (F3'.get 2 rfl (osl_up _ _ _ _)) rfl ?_
        intro i u xs hu hx
        match i, hu, hx with
        | 0, hu, hx => simp at hu hx; subst hu; subst hx; exact ints_nil _
        | 1, hu, hx => simp at hu hx; subst hu; subst hx; exact Ints_of (F3'.get 1 rfl (osl_up _ _ _ _)) (by simp [inI])
        | n + 2, hu, hx => simp at hx
      have hwa : Ints (hp k3) f3 [0, 1] := Ints_of (F3'.get 3 rfl (osl_up _ _ _ _)) (by simp [inI])
      simp (maxSteps := 1000000) (implicitDefEqProofs := false) (disch := omega) only [push_cast, ↓reduceIte, Nat.reduceEqDiff, reduceCtorEq, decide_true, decide_false, Bool.not_true, Bool.not_false, Option.isNone_some, Option.isNone_none]
      refine wp_call (reach_Order_fn [[], [0]] [0, 1] f2 f3 k3 hva hwa (by simp)) ?_
      rintro x k4 ⟨F4, b, rfl, hbo⟩
      obtain rfl := hbo.2 ordW
      have G4 : Sat [base h5] k4 := (F3'.ext F4).pick [0] rfl rfl
      simp (maxSteps := 1000000) (implicitDefEqProofs := false) (disch := omega) only [push_cast, ↓reduceIte, Nat.reduceEqDiff, reduceCtorEq, decide_true, decide_false, Bool.not_true, Bool.not_false, Option.isNone_some, Option.isNone_none]
      refine wp_call (reach_Len_fn M _ k4 (hr.up (G4.base 0 rfl))) ?_
      rintro x k5 ⟨rfl, rfl⟩
      rw [hMl]
      simp (maxSteps := 1000000) (implicitDefEqProofs := false) (disch := omega) only [push_cast, ↓reduceIte, Nat.reduceEqDiff, reduceCtorEq, decide_true, decide_false, Bool.not_true, Bool.not_false, Option.isNone_some, Option.isNone_none]
      exact ⟨G5.ext G4, trivial⟩
    · exact absurd chkW hbad
  · exact absurd chkW hbad
end Go.Proofs.Ytilofhocodbknaa
