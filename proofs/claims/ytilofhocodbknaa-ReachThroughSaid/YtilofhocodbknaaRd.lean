/- Contracts: reach.Longest, reach.Order. -/
import Derived.Test.YtilofhocodbknaaRc
namespace Go.Proofs.Ytilofhocodbknaa
set_option linter.unusedVariables false
set_option linter.unusedSimpArgs false
open Go Go.Kx Go.Proofs

def rankP (rs : List Nat) (l : List Int) : Nat := l.foldl (fun m p => max m (rs.getD p.toNat 0)) 0
def ranks (xss : List (List Int)) : List Nat := xss.foldl (fun rs l => rs ++ [rankP rs l + 1]) []
def longest (xss : List (List Int)) : Nat := (ranks xss).foldl max 0
theorem ranks_snoc (xss : List (List Int)) (l : List Int) : ranks (xss ++ [l]) = ranks xss ++ [rankP (ranks xss) l + 1] := by simp [ranks]
theorem longest_snoc (xss : List (List Int)) (l : List Int) : longest (xss ++ [l]) = max (longest xss) (rankP (ranks xss) l + 1) := by simp [longest, ranks_snoc]
theorem rankP_snoc (rs : List Nat) (l : List Int) (p : Int) : rankP rs (l ++ [p]) = max (rankP rs l) (rs.getD p.toNat 0) := by simp [rankP]
theorem foldmax_ge (xs : List Nat) : ∀ a, a ≤ xs.foldl max a ∧ ∀ x ∈ xs, x ≤ xs.foldl max a := by
  induction xs with
  | nil => intro a; simp
  | cons y ys ih =>
    intro a
    simp only [List.foldl_cons]
    have := ih (max a y)
    refine ⟨by omega, ?_⟩
    intro x hx
    rcases List.mem_cons.1 hx with rfl | hx
    · omega
    · exact this.2 x hx
theorem rs_le (xss : List (List Int)) (i : Nat) : (ranks xss).getD i 0 ≤ longest xss := by
  rw [List.getD_eq_getElem?_getD]
  by_cases h : i < (ranks xss).length
  · simp only [List.getElem?_eq_getElem h, Option.getD_some]
    exact (foldmax_ge _ _).2 _ (List.getElem_mem h)
  · rw [List.getElem?_eq_none (by omega)]; exact Nat.zero_le _
theorem rankP_le (rs : List Nat) (l : List Int) (M : Nat) (h : ∀ i, rs.getD i 0 ≤ M) : rankP rs l ≤ M := by
  unfold rankP
  suffices H : ∀ (l : List Int) (a : Nat), a ≤ M → l.foldl (fun m p => max m (rs.getD p.toNat 0)) a ≤ M from H l 0 (Nat.zero_le _)
  intro l
  induction l with
  | nil => intro a ha; exact ha
  | cons x xs ih =>
    intro a ha
    simp only [List.foldl_cons]
    have := h x.toNat
    exact ih _ (by omega)
theorem take_snoc_ind {P : List (List Int) → Prop} (h0 : P []) (hs : ∀ xs l, P xs → P (xs ++ [l])) (xs : List (List Int)) : P xs := by
  have : ∀ n, ∀ xs : List (List Int), xs.length = n → P xs := by
    intro n
    induction n with
    | zero => intro xs h; rw [List.eq_nil_of_length_eq_zero h]; exact h0
    | succ n ih =>
      intro xs h
      have hne : xs ≠ [] := by intro e; subst e; simp at h
      rw [← List.dropLast_concat_getLast hne]
      exact hs _ _ (ih _ (by simp; omega))
  exact this _ xs rfl
theorem ranks_len (xss : List (List Int)) : (ranks xss).length = xss.length := by
  induction xss using take_snoc_ind with
  | h0 => rfl
  | hs xs l ih => rw [ranks_snoc]; simp [ih]
theorem longest_le (xss : List (List Int)) : longest xss ≤ xss.length := by
  induction xss using take_snoc_ind with
  | h0 => simp [longest, ranks]
  | hs xs l ih =>
    rw [longest_snoc]
    have := rankP_le (ranks xs) l (longest xs) (rs_le xs)
    simp
    omega

theorem nmax (a b : Nat) : ((max a b : Nat) : Int) = max (a : Int) b := by omega
def nats (xs : List Nat) : List Value := xs.map fun x : Nat => .int .i64 (x : Int)

set_option maxHeartbeats 1000000 in
theorem reach_Longest_fn (xss : List (List Int)) (v : Value) (h : Heap) (hv : Ints2 (hp h) v xss) :
    FnC Try.prog 48 #[v] h fun r h' => Sat [base h] h' ∧ ((chk xss = 0 ∧ r = .tuple #[.int .i64 (longest xss), .int .i64 0]) ∨ (chk xss ≠ 0 ∧ r = .tuple #[.int .i64 0, .int .i64 (chk xss)])) := by
  have hle := hv.le
  have hlen := hv.len
  refine fn_in K_reach_Longest mixed (args := [v]) rfl ?_
  simp only [S_reach_Longest]
  simp (maxSteps := 1000000) (implicitDefEqProofs := false) (disch := omega) only [push_cast, ↓reduceIte, Nat.reduceEqDiff, reduceCtorEq, decide_true, decide_false, Bool.not_true, Bool.not_false, Option.isNone_some, Option.isNone_none]
  refine wp_call (reach_check_fn xss v h hv) ?_
  rintro x h' ⟨rfl, hx⟩
  obtain rfl := chkR_chk hx
  by_cases hc : chk xss = 0
  · obtain ⟨hl1000, hok⟩ := chk_zero.1 hc
    simp (maxSteps := 1000000) (implicitDefEqProofs := false) (disch := omega) only [push_cast, ↓reduceIte, Nat.reduceEqDiff, reduceCtorEq, decide_true, decide_false, Bool.not_true, Bool.not_false, Option.isNone_some, Option.isNone_none, hlen]
    refine wp_mks (Sat.start h') rfl (by omega) (by omega) ?_
    intro s h1 H1
    have hs0 : rep [Value.int IntKind.i64 0] xss.length = nats (List.replicate xss.length 0) := by rw [rep_one]; simp [nats]
    rw [hs0] at H1
    have H2 : Sat [base h', osl s 1 (nats (List.replicate xss.length 0)) tInt] h1 := H1
    simp (maxSteps := 1000000) (implicitDefEqProofs := false) (disch := omega) only [push_cast, ↓reduceIte, Nat.reduceEqDiff, reduceCtorEq, decide_true, decide_false, Bool.not_true, Bool.not_false, Option.isNone_some, Option.isNone_none, hlen]
    refine wp_bl (α := Nat) (I := fun k ρ h2 => k ≤ xss.length ∧ ρ 19 = v ∧ ρ 20 = .int .i64 xss.length ∧ ρ 21 = .int .i64 k ∧ ρ 6 = s ∧ ρ 5 = .int .i64 (longest (xss.take k)) ∧
      ∃ zs, zs.length = xss.length ∧ (∀ i, zs.getD i 0 = (ranks (xss.take k)).getD i 0) ∧ Sat [base h', osl s 1 (nats zs) tInt] h2) (μ := fun k => xss.length - k)
      (Q := fun ρ h2 => ρ 5 = .int .i64 (longest xss) ∧ Sat [base h'] h2) (x := 0) ?_ ?_ ?_
    · simp (maxSteps := 1000000) (implicitDefEqProofs := false) (disch := omega) only [push_cast, ↓reduceIte, Nat.reduceEqDiff, reduceCtorEq, decide_true, decide_false, Bool.not_true, Bool.not_false, Option.isNone_some, Option.isNone_none]
      refine ⟨by omega, trivial, trivial, trivial, trivial, rfl, _, by simp, ?_, H2⟩
      intro i
      simp only [List.getD_eq_getElem?_getD, List.getElem?_replicate]
      by_cases hi : i < xss.length <;> simp [hi, ranks]
    · rintro k ρ h2 N E ⟨hk, e19, e20, e21, e6, e5, zs, hzl, hz, H⟩ hN hE
      simp only [S_reach_Longest_L1]
      by_cases hlt : k < xss.length
      · obtain ⟨u, p, hu, e1, e2⟩ := hv.at hlt
        replace e2 := ldV_up (H.base 0 rfl) e2
        have hul := hu.1.len
        have hul2 := hu.1.le
        have hrl : (ranks (xss.take k)).length = k := by rw [ranks_len]; simp; omega
        have hlk := longest_le (xss.take k)
        have hrk := rankP_le (ranks (xss.take k)) xss[k] (longest (xss.take k)) (rs_le _)
        have htk : (xss.take k).length = k := by simp; omega
        rw [htk] at hlk
        simp (maxSteps := 1000000) (implicitDefEqProofs := false) (disch := omega) only [push_cast, ↓reduceIte, Nat.reduceEqDiff, reduceCtorEq, decide_true, decide_false, Bool.not_true, Bool.not_false, Option.isNone_some, Option.isNone_none, e19, e20, e21, e1, e2, hul]
        refine wp_bl (α := Nat) (I := fun j ρ h3 => j ≤ xss[k].length ∧ ρ 19 = v ∧ ρ 20 = .int .i64 xss.length ∧ ρ 21 = .int .i64 k ∧ ρ 6 = s ∧ ρ 5 = .int .i64 (longest (xss.take k)) ∧ ρ 7 = .int .i64 k ∧ ρ 26 = u ∧ ρ 27 = .int .i64 xss[k].length ∧ ρ 28 = .int .i64 j ∧
          ∃ zs, zs.length = xss.length ∧ (∀ i, zs.getD i 0 = if i = k then rankP (ranks (xss.take k)) (xss[k].take j) else (ranks (xss.take k)).getD i 0) ∧ Sat [base h', osl s 1 (nats zs) tInt] h3) (μ := fun j => xss[k].length - j)
          (Q := fun ρ h3 => ρ 19 = v ∧ ρ 20 = .int .i64 xss.length ∧ ρ 21 = .int .i64 k ∧ ρ 6 = s ∧ ρ 5 = .int .i64 (longest (xss.take k)) ∧ ρ 7 = .int .i64 k ∧
          ∃ zs, zs.length = xss.length ∧ (∀ i, zs.getD i 0 = if i = k then rankP (ranks (xss.take k)) xss[k] else (ranks (xss.take k)).getD i 0) ∧ Sat [base h', osl s 1 (nats zs) tInt] h3) (x := 0) ?_ ?_ ?_
        · simp (maxSteps := 1000000) (implicitDefEqProofs := false) (disch := omega) only [push_cast, ↓reduceIte, Nat.reduceEqDiff, reduceCtorEq, decide_true, decide_false, Bool.not_true, Bool.not_false, Option.isNone_some, Option.isNone_none, e19, e20, e21, e6, e5]
          refine ⟨by omega, trivial, trivial, trivial, trivial, trivial, trivial, trivial, trivial, trivial, zs, hzl, ?_, H⟩
          intro i
          rw [hz]
          by_cases hi : i = k
          · subst hi; simp [rankP, List.getD_eq_getElem?_getD, hrl]
          · simp [hi]
        · rintro j ρ h3 N' E' ⟨hj, e19, e20, e21, e6, e5, e7, e26, e27, e28, zs, hzl, hz, H⟩ hN' hE'
          simp only [S_reach_Longest_L2]
          by_cases hjl : j < xss[k].length
          · obtain ⟨hin, p2, f1, f2⟩ := (hu.up (H.base 0 rfl)).at hjl
            have hpk := hok k _ (List.getElem?_eq_getElem hlt) _ (List.getElem_mem hjl)
            obtain ⟨pn, hpn⟩ : ∃ pn : Nat, xss[k][j] = (pn : Int) := ⟨xss[k][j].toNat, by omega⟩
            rw [hpn] at f2 hpk
            have hpk' : pn < k := by omega
            obtain ⟨q1, g1, g2, hst⟩ := osl_at1 H 1 rfl (k := k) (by simp [nats]; omega)
            obtain ⟨q2, g3, g4, _⟩ := osl_at1 H 1 rfl (k := pn) (by simp [nats]; omega)
            have hc1 : (nats zs)[k]'(by simp [nats]; omega) = .int .i64 (rankP (ranks (xss.take k)) (xss[k].take j) : Nat) := by
              have := hz k
              simp [List.getD_eq_getElem?_getD, hzl, hlt] at this
              simp [nats, this]
            have hc2 : (nats zs)[pn]'(by simp [nats]; omega) = .int .i64 ((ranks (xss.take k)).getD pn 0 : Nat) := by
              have := hz pn
              have hne : ¬ pn = k := by omega
              have hlt2 : pn < xss.length := by omega
              simp only [List.getD_eq_getElem?_getD, hne, if_false] at this
              rw [List.getElem?_eq_getElem (by omega)] at this
              simp only [Option.getD_some] at this
              simp [nats, this]
            rw [hc1] at g2
            rw [hc2] at g4
            simp (maxSteps := 1000000) (implicitDefEqProofs := false) (disch := omega) only [push_cast, ↓reduceIte, Nat.reduceEqDiff, reduceCtorEq, decide_true, decide_false, Bool.not_true, Bool.not_false, Option.isNone_some, Option.isNone_none, e26, e27, e28, e6, e7, f1, f2, g1, g2, g3, g4]
            refine hst _ _ _ (by rfl) (by rfl) ?_
            intro h4 H4
            simp (maxSteps := 1000000) (implicitDefEqProofs := false) (disch := omega) only [push_cast, ↓reduceIte, Nat.reduceEqDiff, reduceCtorEq, decide_true, decide_false, Bool.not_true, Bool.not_false, Option.isNone_some, Option.isNone_none, e26, e27, e28]
            refine hN' (j + 1) _ _ ?_ (by omega)
            simp (maxSteps := 1000000) (implicitDefEqProofs := false) (disch := omega) only [push_cast, ↓reduceIte, Nat.reduceEqDiff, reduceCtorEq, decide_true, decide_false, Bool.not_true, Bool.not_false, Option.isNone_some, Option.isNone_none, e19, e20, e21, e6, e5, e7, e26, e27, e28]
            refine ⟨by omega, trivial, trivial, trivial, trivial, trivial, trivial, trivial, trivial, trivial, zs.set k (max (rankP (ranks (xss.take k)) (xss[k].take j)) ((ranks (xss.take k)).getD pn 0)), by simp [hzl], ?_, ?_⟩
            · intro i
              rw [List.take_succ_eq_append_getElem hjl, rankP_snoc, hpn]
              simp only [List.getD_eq_getElem?_getD, List.getElem?_set]
              by_cases hi : k = i
              · subst hi; simp [hzl, hlt]
              · have := hz i
                have hne : ¬ i = k := fun e => hi e.symm
                simp only [hi, if_false, hne]
                simp only [hne, if_false, List.getD_eq_getElem?_getD] at this
                exact this
            · have e : nats (zs.set k (max (rankP (ranks (xss.take k)) (xss[k].take j)) ((ranks (xss.take k)).getD pn 0))) = (nats zs).set k (.int .i64 (max (rankP (ranks (xss.take k)) (xss[k].take j) : Int) ((ranks (xss.take k)).getD pn 0 : Nat))) := by unfold nats; rw [List.map_set, nmax]
              rw [e]; exact H4
          · simp (maxSteps := 1000000) (implicitDefEqProofs := false) (disch := omega) only [push_cast, ↓reduceIte, Nat.reduceEqDiff, reduceCtorEq, decide_true, decide_false, Bool.not_true, Bool.not_false, Option.isNone_some, Option.isNone_none, e26, e27, e28]
            refine hE' _ _ ?_
            simp (maxSteps := 1000000) (implicitDefEqProofs := false) (disch := omega) only [push_cast, ↓reduceIte, Nat.reduceEqDiff, reduceCtorEq, decide_true, decide_false, Bool.not_true, Bool.not_false, Option.isNone_some, Option.isNone_none, e19, e20, e21, e6, e5, e7]
            rw [List.take_of_length_le (l := xss[k]) (by omega)] at hz
            exact ⟨trivial, trivial, trivial, trivial, trivial, trivial, zs, hzl, hz, H⟩
        · rintro ρ h3 ⟨e19, e20, e21, e6, e5, e7, zs, hzl, hz, H⟩
          obtain ⟨q1, g1, g2, hst⟩ := osl_at1 H 1 rfl (k := k) (by simp [nats]; omega)
          have hc1 : (nats zs)[k]'(by simp [nats]; omega) = .int .i64 (rankP (ranks (xss.take k)) xss[k] : Nat) := by
            have := hz k
            simp [List.getD_eq_getElem?_getD, hzl, hlt] at this
            simp [nats, this]
          rw [hc1] at g2
          simp (maxSteps := 1000000) (implicitDefEqProofs := false) (disch := omega) only [push_cast, ↓reduceIte, Nat.reduceEqDiff, reduceCtorEq, decide_true, decide_false, Bool.not_true, Bool.not_false, Option.isNone_some, Option.isNone_none, e19, e20, e21, e6, e5, e7, g1, g2]
          refine hst _ _ _ (by rfl) (by rfl) ?_
          intro h4 H4
          obtain ⟨q3, g5, g6, _⟩ := osl_at1 H4 1 rfl (k := k) (by simp [nats]; omega)
          rw [List.getElem_set_self] at g6
          rw [g1] at g5
          cases g5
          simp (maxSteps := 1000000) (implicitDefEqProofs := false) (disch := omega) only [push_cast, ↓reduceIte, Nat.reduceEqDiff, reduceCtorEq, decide_true, decide_false, Bool.not_true, Bool.not_false, Option.isNone_some, Option.isNone_none, e19, e20, e21, e6, e5, e7, g1, g6]
          refine hN (k + 1) _ _ ?_ (by omega)
          simp (maxSteps := 1000000) (implicitDefEqProofs := false) (disch := omega) only [push_cast, ↓reduceIte, Nat.reduceEqDiff, reduceCtorEq, decide_true, decide_false, Bool.not_true, Bool.not_false, Option.isNone_some, Option.isNone_none, e19, e20, e21, e6, e5]
          rw [List.take_succ_eq_append_getElem hlt, longest_snoc, ranks_snoc]
          refine ⟨by omega, trivial, trivial, trivial, trivial, by rw [nmax]; push_cast; rfl, zs.set k (rankP (ranks (xss.take k)) xss[k] + 1), by simp [hzl], ?_, ?_⟩
          · intro i
            simp only [List.getD_eq_getElem?_getD, List.getElem?_set]
            by_cases hi : k = i
            · subst hi
              rw [List.getElem?_append_right (by omega)]
              simp [hzl, hlt, hrl]
            · have := hz i
              have hne : ¬ i = k := fun e => hi e.symm
              simp only [hne, if_false, List.getD_eq_getElem?_getD] at this
              simp only [hi, if_false]
              rw [this]
              by_cases hik : i < k
              · rw [List.getElem?_append_left (by omega)]
              · rw [List.getElem?_eq_none (by omega), List.getElem?_eq_none (by simp; omega)]
          · have e : nats (zs.set k (rankP (ranks (xss.take k)) xss[k] + 1)) = (nats zs).set k (.int .i64 ((rankP (ranks (xss.take k)) xss[k] : Nat) + 1)) := by simp [nats, List.map_set]
            rw [e]; exact H4
      · simp (maxSteps := 1000000) (implicitDefEqProofs := false) (disch := omega) only [push_cast, ↓reduceIte, Nat.reduceEqDiff, reduceCtorEq, decide_true, decide_false, Bool.not_true, Bool.not_false, Option.isNone_some, Option.isNone_none, e19, e20, e21]
        refine hE _ _ ⟨?_, H.pick [0] rfl rfl⟩
        simp (maxSteps := 1000000) (implicitDefEqProofs := false) (disch := omega) only [push_cast, ↓reduceIte, Nat.reduceEqDiff, reduceCtorEq, decide_true, decide_false, Bool.not_true, Bool.not_false, Option.isNone_some, Option.isNone_none, e5]
        rw [List.take_of_length_le (by omega)]
    · rintro ρ h2 ⟨e5, H⟩
      simp (maxSteps := 1000000) (implicitDefEqProofs := false) (disch := omega) only [push_cast, ↓reduceIte, Nat.reduceEqDiff, reduceCtorEq, decide_true, decide_false, Bool.not_true, Bool.not_false, Option.isNone_some, Option.isNone_none, e5]
      exact ⟨H, .inl ⟨hc, trivial⟩⟩
  · simp (maxSteps := 1000000) (implicitDefEqProofs := false) (disch := omega) only [push_cast, ↓reduceIte, Nat.reduceEqDiff, reduceCtorEq, decide_true, decide_false, Bool.not_true, Bool.not_false, Option.isNone_some, Option.isNone_none]
    exact ⟨Sat.start _, .inr ⟨hc, trivial⟩⟩
end Go.Proofs.Ytilofhocodbknaa
