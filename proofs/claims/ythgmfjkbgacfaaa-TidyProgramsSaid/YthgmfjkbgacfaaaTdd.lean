/- Tidy: what is wrong with a program: prog.Check and the document's. -/
import Derived.Test.YthgmfjkbgacfaaaTdc
namespace Go.Proofs.Ythgmfjkbgacfaaa
set_option linter.unusedVariables false
set_option linter.unusedSimpArgs false
open Go Go.Kx Go.Proofs

def aFs (fs : List (List Ix)) : AV := aSl aIxs fs
theorem aFs_pure (fs : List (List Ix)) : (aFs fs).pure = true := aSl_pure aIxs_pure fs
theorem aIxs_res' (σ : St) (l : List Ix) : (aIxs l).res σ = aIxs l := aIxs_res σ l .none
theorem aFs_res (σ : St) (fs : List (List Ix)) (t : Tok) : (AV.sl fs.length (fs.map aIxs) t).res σ = aFs fs := aSl_res (aIxs_res' σ) fs t
def aPr (m : Int) (fs : List (List Ix)) : List AV := [.v (.int .i64 m), aFs fs]
theorem aPr_pure (m : Int) (fs : List (List Ix)) : AV.pureL (aPr m fs) = true := by simp [aPr, AV.pureL, AV.pure, aFs_pure]
def manyE (n most : Int) : Int := if n = 0 then 7 else if most < n then 9 else 0
def leadB (x : Ix) (code funcs : Int) : Bool := if x.op = 18 then decide (x.a < code) else if x.op = 19 then decide (x.b < code) else if x.op = 20 ∨ x.op = 22 then decide (x.a < funcs) else true
def scanE (code funcs : Int) : List Ix → Int
  | [] => 0
  | x :: l => if insE x ≠ 0 then insE x else if leadB x code funcs = false then 11 else scanE code funcs l
def lastE (l : List Ix) : Int := match l[l.length - 1]? with | some x => if endsX x then 0 else 12 | none => 12
def fnE (l : List Ix) (funcs : Int) : Int := if manyE l.length 200 ≠ 0 then manyE l.length 200 else if scanE l.length funcs l ≠ 0 then scanE l.length funcs l else lastE l
def fnsE (funcs : Int) : List (List Ix) → Int
  | [] => 0
  | l :: ls => if fnE l funcs ≠ 0 then fnE l funcs else fnsE funcs ls
def prgE (m : Int) (fs : List (List Ix)) : Int := if m < 0 ∨ 256 < m then 3 else if manyE fs.length 16 ≠ 0 then manyE fs.length 16 else fnsE fs.length fs

theorem prog_many_a (n most : Int) : FnP Try.prog 100 [aInt n, aInt most] fun a => a = aInt (manyE n most) := by
  refine fnP_in K_prog_many mixed rfl (by simp [AV.pureL, aInt_pure]) ?_
  simp only [S_prog_many, aInt]
  unfold manyE
  by_cases c1 : n = 0
  · simp (maxSteps := 1000000) (implicitDefEqProofs := false) (disch := omega) only [push_cast, ↓reduceIte, Nat.reduceEqDiff, reduceCtorEq, wz, c1]
    first | exact ⟨[], rfl, rfl⟩ | exact ⟨[], rfl⟩
  by_cases c2 : most < n
  · simp (maxSteps := 1000000) (implicitDefEqProofs := false) (disch := omega) only [push_cast, ↓reduceIte, Nat.reduceEqDiff, reduceCtorEq, wz, c1, c2]
    first | exact ⟨[], rfl, rfl⟩ | exact ⟨[], rfl⟩
  · simp (maxSteps := 1000000) (implicitDefEqProofs := false) (disch := omega) only [push_cast, ↓reduceIte, Nat.reduceEqDiff, reduceCtorEq, wz, c1, c2]
    first | exact ⟨[], rfl, rfl⟩ | exact ⟨[], rfl⟩
theorem ref04_many_a (n most : Int) : FnP Try.prog 94 [aInt n, aInt most] fun a => a = aInt (manyE n most) := by
  refine fnP_in K_forebayref04_many mixed rfl (by simp [AV.pureL, aInt_pure]) ?_
  simp only [S_forebayref04_many, aInt]
  unfold manyE
  by_cases c1 : n = 0
  · simp (maxSteps := 1000000) (implicitDefEqProofs := false) (disch := omega) only [push_cast, ↓reduceIte, Nat.reduceEqDiff, reduceCtorEq, wz, c1]
    first | exact ⟨[], rfl, rfl⟩ | exact ⟨[], rfl⟩
  by_cases c2 : most < n
  · simp (maxSteps := 1000000) (implicitDefEqProofs := false) (disch := omega) only [push_cast, ↓reduceIte, Nat.reduceEqDiff, reduceCtorEq, wz, c1, c2]
    first | exact ⟨[], rfl, rfl⟩ | exact ⟨[], rfl⟩
  · simp (maxSteps := 1000000) (implicitDefEqProofs := false) (disch := omega) only [push_cast, ↓reduceIte, Nat.reduceEqDiff, reduceCtorEq, wz, c1, c2]
    first | exact ⟨[], rfl, rfl⟩ | exact ⟨[], rfl⟩
theorem prog_sizes_a (m n : Int) : FnP Try.prog 66 [aInt m, aInt n] fun a => a = aInt (if m < 0 ∨ 256 < m then 3 else manyE n 16) := by
  refine fnP_in K_prog_sizes mixed rfl (by simp [AV.pureL, aInt_pure]) ?_
  simp only [S_prog_sizes, aInt]
  by_cases c1 : m < 0
  · rw [if_pos (.inl c1)]
    simp (maxSteps := 1000000) (implicitDefEqProofs := false) (disch := omega) only [push_cast, ↓reduceIte, Nat.reduceEqDiff, reduceCtorEq, wz, c1]
    first | exact ⟨[], rfl, rfl⟩ | exact ⟨[], rfl⟩
  by_cases c2 : 256 < m
  · rw [if_pos (.inr c2)]
    simp (maxSteps := 1000000) (implicitDefEqProofs := false) (disch := omega) only [push_cast, ↓reduceIte, Nat.reduceEqDiff, reduceCtorEq, wz, c1, c2]
    first | exact ⟨[], rfl, rfl⟩ | exact ⟨[], rfl⟩
  rw [if_neg (by omega)]
  simp (maxSteps := 1000000) (implicitDefEqProofs := false) (disch := omega) only [push_cast, ↓reduceIte, Nat.reduceEqDiff, reduceCtorEq, wz, c1, c2]
  refine wpa_call (prog_many_a n 16) ?_
  rintro a rfl
  simp (maxSteps := 1000000) (implicitDefEqProofs := false) (disch := omega) only [push_cast, ↓reduceIte, Nat.reduceEqDiff, reduceCtorEq, wz, aInt]
  first | exact ⟨[], rfl, rfl⟩ | exact ⟨[], rfl⟩
set_option maxHeartbeats 4000000 in
theorem prog_leads_a (x : Ix) (code funcs : Int) : FnP Try.prog 102 [.agg (aIx x), aInt code, aInt funcs] fun a => a = aBool (leadB x code funcs) := by
  refine fnP_in K_prog_leads mixed rfl (by simp [AV.pureL, aInt_pure, AV.pure, aIx_pure]) ?_
  simp only [S_prog_leads, aInt]
  have hac : (AV.agg (aIx x)).cells = aIx x := rfl
  have g0 : (aIx x)[0]? = some (.v (.int .i64 x.op)) := rfl
  have g1 : (aIx x)[1]? = some (.v (.int .i64 x.a)) := rfl
  have g2 : (aIx x)[2]? = some (.v (.int .i64 x.b)) := rfl
  unfold leadB
  simp (maxSteps := 1000000) (implicitDefEqProofs := false) (disch := omega) only [push_cast, ↓reduceIte, Nat.reduceEqDiff, reduceCtorEq, wz]
  refine wpa_box ?_
  by_cases c1 : x.op = 18
  · simp (maxSteps := 1000000) (implicitDefEqProofs := false) (disch := omega) only [push_cast, ↓reduceIte, Nat.reduceEqDiff, reduceCtorEq, wz, hac, g0, g1, g2, c1]
    first | exact ⟨[], rfl, rfl⟩ | exact ⟨[], rfl⟩
  by_cases c2 : x.op = 19
  · simp (maxSteps := 1000000) (implicitDefEqProofs := false) (disch := omega) only [push_cast, ↓reduceIte, Nat.reduceEqDiff, reduceCtorEq, wz, hac, g0, g1, g2, c1, c2]
    first | exact ⟨[], rfl, rfl⟩ | exact ⟨[], rfl⟩
  by_cases c3 : x.op = 20
  · rw [if_neg c1, if_neg c2, if_pos (.inl c3)]
    simp (maxSteps := 1000000) (implicitDefEqProofs := false) (disch := omega) only [push_cast, ↓reduceIte, Nat.reduceEqDiff, reduceCtorEq, wz, hac, g0, g1, g2, c1, c2, c3]
    first | exact ⟨[], rfl, rfl⟩ | exact ⟨[], rfl⟩
  by_cases c4 : x.op = 22
  · rw [if_neg c1, if_neg c2, if_pos (.inr c4)]
    simp (maxSteps := 1000000) (implicitDefEqProofs := false) (disch := omega) only [push_cast, ↓reduceIte, Nat.reduceEqDiff, reduceCtorEq, wz, hac, g0, g1, g2, c1, c2, c3, c4]
    first | exact ⟨[], rfl, rfl⟩ | exact ⟨[], rfl⟩
  rw [if_neg c1, if_neg c2, if_neg (by omega)]
  simp (maxSteps := 1000000) (implicitDefEqProofs := false) (disch := omega) only [push_cast, ↓reduceIte, Nat.reduceEqDiff, reduceCtorEq, wz, hac, g0, g1, g2, c1, c2, c3, c4]
  first | exact ⟨[], rfl, rfl⟩ | exact ⟨[], rfl⟩
set_option maxHeartbeats 8000000 in
theorem prog_function_a (l : List Ix) (funcs : Int) (hl : l.length ≤ 300) : FnP Try.prog 67 [aIxs l, aInt funcs] fun a => a = aInt (fnE l funcs) := by
  refine fnP_in K_prog_function mixed rfl (by simp [AV.pureL, aInt_pure, aIxs_pure]) ?_
  simp only [S_prog_function, aInt]
  have hIL : aIxs l = .sl l.length (l.flatMap aIx) .none := rfl
  refine wpa_seqx (fun ε σ => (ε 0 = aIxs l ∧ ε 1 = .v (.int .i64 funcs)) ∧ σ = []) (fun N X' R' hN => by simp (maxSteps := 1000000) (implicitDefEqProofs := false) (disch := omega) only [push_cast, ↓reduceIte, Nat.reduceEqDiff, reduceCtorEq, wz]; exact hN _ _ (by simp (maxSteps := 1000000) (implicitDefEqProofs := false) (disch := omega) only [push_cast, ↓reduceIte, Nat.reduceEqDiff, reduceCtorEq, wz])) ?_
  rintro ε σ ⟨hρ, rfl⟩
  refine wpa_seq (fun ε σ => (ε 0 = aIxs l ∧ ε 1 = .v (.int .i64 funcs)) ∧ manyE l.length 200 = 0) ?_ ?_
  · intro N hN
    simp (maxSteps := 1000000) (implicitDefEqProofs := false) (disch := omega) only [push_cast, ↓reduceIte, Nat.reduceEqDiff, reduceCtorEq, wz, hρ, hIL]
    refine wpa_call (prog_many_a l.length 200) ?_
    rintro a rfl
    by_cases hz : manyE l.length 200 = 0
    · simp (maxSteps := 1000000) (implicitDefEqProofs := false) (disch := omega) only [push_cast, ↓reduceIte, Nat.reduceEqDiff, reduceCtorEq, wz, hρ, aInt, hz]
      exact hN _ _ ⟨by simp (maxSteps := 1000000) (implicitDefEqProofs := false) (disch := omega) only [push_cast, ↓reduceIte, Nat.reduceEqDiff, reduceCtorEq, wz, hρ], hz⟩
    · have e : fnE l funcs = manyE l.length 200 := by unfold fnE; rw [if_pos hz]
      rw [e]
      simp (maxSteps := 1000000) (implicitDefEqProofs := false) (disch := omega) only [push_cast, ↓reduceIte, Nat.reduceEqDiff, reduceCtorEq, wz, hρ, aInt, hz]
      first | exact ⟨[], rfl, rfl⟩ | exact ⟨[], rfl⟩
  clear hρ ε
  rintro ε σ ⟨hρ, hz⟩
  have hpos : 0 < l.length := by
    unfold manyE at hz
    rcases Nat.eq_zero_or_pos l.length with h | h
    · rw [h] at hz; simp at hz
    · exact h
  have hF : fnE l funcs = if scanE l.length funcs l ≠ 0 then scanE l.length funcs l else lastE l := by unfold fnE; rw [if_neg (by simp [hz])]
  refine wpa_seq (fun ε σ => (ε 0 = aIxs l ∧ ε 1 = .v (.int .i64 funcs)) ∧ scanE l.length funcs l = 0) ?_ ?_
  · intro N hN
    simp (maxSteps := 1000000) (implicitDefEqProofs := false) (disch := omega) only [push_cast, ↓reduceIte, Nat.reduceEqDiff, reduceCtorEq, wz, hρ, hIL]
    refine wpa_bl (α := Nat) (I := fun k ε σ => (ε 0 = aIxs l ∧ ε 1 = .v (.int .i64 funcs) ∧ ε 15 = aIxs l ∧ ε 16 = .v (.int .i64 l.length) ∧ ε 17 = .v (.int .i64 k)) ∧ k ≤ l.length ∧ scanE l.length funcs l = scanE l.length funcs (l.drop k))
      (μ := fun k => l.length - k) (Q := fun ε σ => (ε 0 = aIxs l ∧ ε 1 = .v (.int .i64 funcs)) ∧ scanE l.length funcs l = 0) (x := 0) ?_ ?_ hN
    · simp (maxSteps := 1000000) (implicitDefEqProofs := false) (disch := omega) only [push_cast, ↓reduceIte, Nat.reduceEqDiff, reduceCtorEq, wz, hρ, hIL]
      omega
    · clear hN N hρ ε
      rintro k ε σ N E ⟨hρ, hk, hs⟩ hN hE
      simp only [S_prog_function_L1]
      by_cases hlt : k < l.length
      · obtain ⟨x, hx⟩ := at_lt hlt
        have hd := flat_drop aIx_len hx
        have hset : setAtA [AV.v (.int .i64 0), AV.v (.int .i64 0), AV.v (.int .i64 0), AV.v (.int .i64 0)] 0 (aIx x) = aIx x := rfl
        rw [drop_at hx] at hs
        simp only [scanE] at hs
        simp (maxSteps := 1000000) (implicitDefEqProofs := false) (disch := omega) only [push_cast, ↓reduceIte, Nat.reduceEqDiff, reduceCtorEq, wz, hρ, hIL, hd, cellsIx]
        refine wpa_new ?_
        simp (maxSteps := 1000000) (implicitDefEqProofs := false) (disch := omega) only [push_cast, ↓reduceIte, Nat.reduceEqDiff, reduceCtorEq, wz]
        refine wpa_stn (cs := [AV.v (.int .i64 0), AV.v (.int .i64 0), AV.v (.int .i64 0), AV.v (.int .i64 0)]) rfl rfl (at_snoc _ _) (by simp) ?_
        rw [hset, set_snoc]
        have hb : (σ ++ [Res.obj 0 (aIx x)])[σ.length]? = some (.obj 0 (aIx x)) := at_snoc _ _
        generalize σ ++ [Res.obj 0 (aIx x)] = S at hb ⊢
        generalize σ.length = i0 at hb ⊢
        simp (maxSteps := 1000000) (implicitDefEqProofs := false) (disch := omega) only [push_cast, ↓reduceIte, Nat.reduceEqDiff, reduceCtorEq, wz, hb, cellsIx']
        refine wpa_call (ins_Check_a x) ?_
        rintro a rfl
        by_cases hi : insE x = 0
        · rw [if_neg (by simp [hi])] at hs
          simp (maxSteps := 1000000) (implicitDefEqProofs := false) (disch := omega) only [push_cast, ↓reduceIte, Nat.reduceEqDiff, reduceCtorEq, wz, hρ, aInt, hi, hb, cellsIx', hIL]
          refine wpa_call (prog_leads_a x l.length funcs) ?_
          rintro a rfl
          by_cases hb2 : leadB x l.length funcs = true
          · rw [if_neg (by simp [hb2])] at hs
            simp (maxSteps := 1000000) (implicitDefEqProofs := false) (disch := omega) only [push_cast, ↓reduceIte, Nat.reduceEqDiff, reduceCtorEq, wz, hρ, aBool, hb2]
            exact hN (k + 1) _ _ ⟨by simp (maxSteps := 1000000) (implicitDefEqProofs := false) (disch := omega) only [push_cast, ↓reduceIte, Nat.reduceEqDiff, reduceCtorEq, wz, hρ], by omega, hs⟩ (by omega)
          · have hb3 : leadB x l.length funcs = false := by simpa using hb2
            rw [if_pos hb3] at hs
            rw [hF, hs]
            simp (maxSteps := 1000000) (implicitDefEqProofs := false) (disch := omega) only [push_cast, ↓reduceIte, Nat.reduceEqDiff, reduceCtorEq, wz, hρ, aBool, hb3]
            first | exact ⟨[], rfl, rfl⟩ | exact ⟨[], rfl⟩
        · rw [if_pos hi] at hs
          rw [hF, hs, if_pos hi]
          simp (maxSteps := 1000000) (implicitDefEqProofs := false) (disch := omega) only [push_cast, ↓reduceIte, Nat.reduceEqDiff, reduceCtorEq, wz, hρ, aInt, hi]
          first | exact ⟨[], rfl, rfl⟩ | exact ⟨[], rfl⟩
      · simp (maxSteps := 1000000) (implicitDefEqProofs := false) (disch := omega) only [push_cast, ↓reduceIte, Nat.reduceEqDiff, reduceCtorEq, wz, hρ]
        obtain rfl : k = l.length := by omega
        rw [List.drop_length] at hs
        exact hE _ _ ⟨by simp (maxSteps := 1000000) (implicitDefEqProofs := false) (disch := omega) only [push_cast, ↓reduceIte, Nat.reduceEqDiff, reduceCtorEq, wz, hρ], hs⟩
  clear hρ ε
  rintro ε σ ⟨hρ, hs⟩
  rw [hF, hs]
  obtain ⟨x, hx⟩ := at_lt (l := l) (k := l.length - 1) (by omega)
  have hL : lastE l = if endsX x then 0 else 12 := by unfold lastE; rw [hx]
  have hd := flat_drop aIx_len hx
  have hc0 : (l.flatMap aIx)[(l.length - 1) * 4]? = some (.v (.int .i64 x.op)) := by
    have : ((l.flatMap aIx).drop ((l.length - 1) * 4))[0]? = some (.v (.int .i64 x.op)) := by rw [hd]; rfl
    rwa [List.getElem?_drop, Nat.add_zero] at this
  have tn : ((l.length : Int) - 1).toNat = l.length - 1 := by omega
  simp only [ne_eq, not_true_eq_false, if_false]
  rw [hL]
  by_cases c1 : x.op = 0
  · have e : endsX x = true := by unfold endsX; simp [c1]
    simp (maxSteps := 1000000) (implicitDefEqProofs := false) (disch := omega) only [push_cast, ↓reduceIte, Nat.reduceEqDiff, reduceCtorEq, wz, hρ, hIL, tn, hc0, c1, e]
    first | exact ⟨[], rfl, rfl⟩ | exact ⟨[], rfl⟩
  by_cases c2 : x.op = 18
  · have e : endsX x = true := by unfold endsX; simp [c2]
    simp (maxSteps := 1000000) (implicitDefEqProofs := false) (disch := omega) only [push_cast, ↓reduceIte, Nat.reduceEqDiff, reduceCtorEq, wz, hρ, hIL, tn, hc0, c1, c2, e]
    first | exact ⟨[], rfl, rfl⟩ | exact ⟨[], rfl⟩
  by_cases c3 : x.op = 25
  · have e : endsX x = true := by unfold endsX; simp [c3]
    simp (maxSteps := 1000000) (implicitDefEqProofs := false) (disch := omega) only [push_cast, ↓reduceIte, Nat.reduceEqDiff, reduceCtorEq, wz, hρ, hIL, tn, hc0, c1, c2, c3, e]
    first | exact ⟨[], rfl, rfl⟩ | exact ⟨[], rfl⟩
  have e : endsX x = false := by unfold endsX; simp [c1, c2, c3]
  simp (maxSteps := 1000000) (implicitDefEqProofs := false) (disch := omega) only [push_cast, ↓reduceIte, Nat.reduceEqDiff, reduceCtorEq, wz, hρ, hIL, tn, hc0, c1, c2, c3, e]
  first | exact ⟨[], rfl, rfl⟩ | exact ⟨[], rfl⟩
end Go.Proofs.Ythgmfjkbgacfaaa
