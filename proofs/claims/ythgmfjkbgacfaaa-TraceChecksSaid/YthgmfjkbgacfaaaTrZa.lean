/- Trp Trq Trt Tru Trv Trw Trx -/
import Derived.Test.YthgmfjkbgacfaaaTrj
import Derived.Test.YthgmfjkbgacfaaaTrk
import Derived.Test.YthgmfjkbgacfaaaTrn
/- Trace: the document's answer: look, started. -/
namespace Go.Proofs.Ythgmfjkbgacfaaa
set_option linter.unusedVariables false
set_option linter.unusedSimpArgs false
open Go Go.Kx Go.Proofs

structure Sn where
  on : Bool
  st : Int
  wt : Bool
  bg : Bool
  fr : Bool
  fn : Bool
def sn0 : Sn := ⟨false, 0, false, false, false, false⟩
def aSn (x : Sn) : List AV := [.v (.bool x.on), .v (.int .i64 x.st), .v (.bool x.wt), .v (.bool x.bg), .v (.bool x.fr), .v (.bool x.fn)]
def lookS (lp it : Int) (s : Sn) (e : Ev) : Sn :=
  if e.lp ≠ lp ∨ e.it ≠ it then s
  else if e.k = 1 then { s with on := true }
  else if e.k = 2 then { s with bg := true }
  else if e.k = 3 ∨ e.k = 6 then { s with st := e.st, wt := decide (e.k = 3), bg := false, fr := true }
  else if e.k = 4 then { s with fr := true, fn := true }
  else s
def lookF (l : List Ev) (lp it : Int) : Sn := l.foldl (lookS lp it) sn0
theorem lookF_succ {l : List Ev} {k : Nat} {e : Ev} (h : l[k]? = some e) (lp it : Int) : lookF (l.take (k + 1)) lp it = lookS lp it (lookF (l.take k) lp it) e := by
  unfold lookF
  rw [take_succ_at h, List.foldl_append]
  rfl
def z6 : List AV := aSn sn0
set_option maxHeartbeats 4000000 in
theorem ref34_look_a (l : List Ev) (hl : l.length ≤ 100000) (lp it : Int) : FnP Try.prog 87 [aEvs l, aInt lp, aInt it] fun a => a = .agg (aSn (lookF l lp it)) := by
  refine fnP_in K_forebayref34_look mixed rfl (by simp [AV.pureL, aEvs_pure, AV.pure, aInt]) ?_
  simp only [S_forebayref34_look, aEvs, aSlN, aInt]
  have hz : ∀ z : List Value, z = [.bool false, .int .i64 0, .bool false, .bool false, .bool false, .bool false] → z.map abs1 = z6 := fun z h => by rw [h]; rfl
  simp (maxSteps := 1000000) (implicitDefEqProofs := false) (disch := omega) only [push_cast, ↓reduceIte, Nat.reduceEqDiff, reduceCtorEq, wz]
  refine wpa_new ?_
  simp (maxSteps := 1000000) (implicitDefEqProofs := false) (disch := omega) only [push_cast, ↓reduceIte, Nat.reduceEqDiff, reduceCtorEq, wz]
  refine wpa_new ?_
  simp (maxSteps := 1000000) (implicitDefEqProofs := false) (disch := omega) only [push_cast, ↓reduceIte, Nat.reduceEqDiff, reduceCtorEq, wz]
  refine wpa_stn (cs := z6) rfl rfl rfl (by decide) ?_
  simp (maxSteps := 1000000) (implicitDefEqProofs := false) (disch := omega) only [push_cast, ↓reduceIte, Nat.reduceEqDiff, reduceCtorEq, wz]
  refine wpa_blx (α := Nat) (I := fun k ε σ => (ε 0 = .sl l.length (l.flatMap aEv) .none ∧ ε 1 = .v (.int .i64 lp) ∧ ε 2 = .v (.int .i64 it) ∧ ε 6 = .ref 0 0 0 ∧ ε 7 = .ref 1 0 0 ∧ ε 8 = .v (.int .i64 k)) ∧ k ≤ l.length ∧ σ[0]? = some (.obj 0 z6) ∧ σ[1]? = some (.obj 0 (aSn (lookF (l.take k) lp it))))
    (μ := fun k => l.length - k) (Q := fun ε σ => (ε 6 = .ref 0 0 0 ∧ ε 7 = .ref 1 0 0) ∧ σ[0]? = some (.obj 0 z6) ∧ σ[1]? = some (.obj 0 (aSn (lookF l lp it)))) (x := 0) ?_ ?_ ?_
  · simp (maxSteps := 1000000) (implicitDefEqProofs := false) (disch := omega) only [push_cast, ↓reduceIte, Nat.reduceEqDiff, reduceCtorEq, wz]
    first | exact ⟨by omega, rfl, rfl⟩ | trace_state
  · rintro k ε σ N E X R ⟨hρ, hk, hs0, hs1⟩ hN hE
    simp only [S_forebayref34_look_L1]
    by_cases hlt : k < l.length
    · obtain ⟨e, he⟩ := at_lt hlt
      have hd := flat_drop aEv_len he
      have hc4 : ∀ t : List AV, cellsA (some 4) (aEv e ++ t) = some (.agg (aEv e)) := fun t => by simp [cellsA, aEv]
      have hset : setAtA [AV.v (.int .i64 0), AV.v (.int .i64 0), AV.v (.int .i64 0), AV.v (.int .i64 0)] 0 (aEv e) = aEv e := rfl
      have hsu := lookF_succ he lp it
      have g0 : (aEv e)[0]? = some (.v (.int .i64 e.k)) := rfl
      have g1 : (aEv e)[1]? = some (.v (.int .i64 e.lp)) := rfl
      have g2 : (aEv e)[2]? = some (.v (.int .i64 e.it)) := rfl
      have g3 : (aEv e)[3]? = some (.v (.int .i64 e.st)) := rfl
      generalize lookF (l.take k) lp it = s at hs1 hsu
      simp (maxSteps := 1000000) (implicitDefEqProofs := false) (disch := omega) only [push_cast, ↓reduceIte, Nat.reduceEqDiff, reduceCtorEq, wz, hρ, hd, hc4]
      refine wpa_new ?_
      simp (maxSteps := 1000000) (implicitDefEqProofs := false) (disch := omega) only [push_cast, ↓reduceIte, Nat.reduceEqDiff, reduceCtorEq, wz]
      refine wpa_stn (cs := [AV.v (.int .i64 0), AV.v (.int .i64 0), AV.v (.int .i64 0), AV.v (.int .i64 0)]) rfl rfl (at_snoc _ _) (by simp) ?_
      rw [hset, set_snoc]
      have hb : (σ ++ [Res.obj 0 (aEv e)])[σ.length]? = some (.obj 0 (aEv e)) := at_snoc _ _
      have hs0' : (σ ++ [Res.obj 0 (aEv e)])[0]? = some (.obj 0 z6) := get_app hs0
      have hs1' : (σ ++ [Res.obj 0 (aEv e)])[1]? = some (.obj 0 (aSn s)) := get_app hs1
      have hne : σ.length ≠ 1 := by have := lt_at hs1; omega
      generalize σ ++ [Res.obj 0 (aEv e)] = S at hb hs0' hs1'
      generalize σ.length = i0 at hb hne
      clear hs0 hs1
      have fin : ∀ (S' : Kx.St), S'[0]? = some (.obj 0 z6) → S'[1]? = some (.obj 0 (aSn (lookS lp it s e))) → ∀ ε', (ε' 0 = .sl l.length (l.flatMap aEv) .none ∧ ε' 1 = .v (.int .i64 lp) ∧ ε' 2 = .v (.int .i64 it) ∧ ε' 6 = .ref 0 0 0 ∧ ε' 7 = .ref 1 0 0 ∧ ε' 8 = .v (.int .i64 (k + 1 : Nat))) → act (N ε' S') := fun S' h0 h1 ε' h => hN (k + 1) ε' S' ⟨h, by omega, h0, by rw [hsu]; exact h1⟩ (by omega)
      by_cases h1 : e.lp = lp
      · by_cases h2 : e.it = it
        · have hnn : ¬ (e.lp ≠ lp ∨ e.it ≠ it) := by simp [h1, h2]
          by_cases k1 : e.k = 1
          · simp (maxSteps := 1000000) (implicitDefEqProofs := false) (disch := omega) only [push_cast, ↓reduceIte, Nat.reduceEqDiff, reduceCtorEq, wz, hρ, hb, g0, g1, g2, h1, h2, k1]
            refine wpa_st1 rfl rfl hs1' (by simp [aSn]) ?_
            simp (maxSteps := 1000000) (implicitDefEqProofs := false) (disch := omega) only [push_cast, ↓reduceIte, Nat.reduceEqDiff, reduceCtorEq, wz, hρ]
            refine fin _ (get_set_ne (by decide) hs0') ?_ _ (by simp (maxSteps := 1000000) (implicitDefEqProofs := false) (disch := omega) only [push_cast, ↓reduceIte, Nat.reduceEqDiff, reduceCtorEq, wz, hρ])
            rw [get_set_eq hs1']
            unfold lookS
            rw [if_neg hnn, if_pos k1]
            rfl
          by_cases k2 : e.k = 2
          · simp (maxSteps := 1000000) (implicitDefEqProofs := false) (disch := omega) only [push_cast, ↓reduceIte, Nat.reduceEqDiff, reduceCtorEq, wz, hρ, hb, g0, g1, g2, h1, h2, k1, k2]
            refine wpa_st1 rfl rfl hs1' (by simp [aSn]) ?_
            simp (maxSteps := 1000000) (implicitDefEqProofs := false) (disch := omega) only [push_cast, ↓reduceIte, Nat.reduceEqDiff, reduceCtorEq, wz, hρ]
            refine fin _ (get_set_ne (by decide) hs0') ?_ _ (by simp (maxSteps := 1000000) (implicitDefEqProofs := false) (disch := omega) only [push_cast, ↓reduceIte, Nat.reduceEqDiff, reduceCtorEq, wz, hρ])
            rw [get_set_eq hs1']
            unfold lookS
            rw [if_neg hnn, if_neg k1, if_pos k2]
            rfl
          by_cases k3 : e.k = 3
          · have hls : lookS lp it s e = { s with st := e.st, wt := true, bg := false, fr := true } := by
              unfold lookS
              rw [if_neg hnn, if_neg k1, if_neg k2, if_pos (by omega)]
              simp [k3]
            rw [hls] at fin
            simp (maxSteps := 1000000) (implicitDefEqProofs := false) (disch := omega) only [push_cast, ↓reduceIte, Nat.reduceEqDiff, reduceCtorEq, wz, hρ, hb, g0, g1, g2, g3, h1, h2, k1, k2, k3]
            refine wpa_st1 rfl rfl hs1' (by simp [aSn]) ?_
            have hb1 := get_set_ne (o := Res.obj 0 ((aSn s).set 1 (.v (.int .i64 e.st)))) (fun h => hne h.symm) hb
            have hc1 := get_set_eq (o := Res.obj 0 ((aSn s).set 1 (.v (.int .i64 e.st)))) hs1'
            have hz1 := get_set_ne (o := Res.obj 0 ((aSn s).set 1 (.v (.int .i64 e.st)))) (by decide : (1 : Nat) ≠ 0) hs0'
            generalize S.set 1 (Res.obj 0 ((aSn s).set 1 (.v (.int .i64 e.st)))) = S1 at hb1 hc1 hz1 ⊢
            simp (maxSteps := 1000000) (implicitDefEqProofs := false) (disch := omega) only [push_cast, ↓reduceIte, Nat.reduceEqDiff, reduceCtorEq, wz, hρ, hb1, g0, k3]
            refine wpa_st1 rfl rfl hc1 (by simp [aSn]) ?_
            have hc2 := get_set_eq (o := Res.obj 0 (((aSn s).set 1 (.v (.int .i64 e.st))).set 2 (.v (.bool true)))) hc1
            have hz2 := get_set_ne (o := Res.obj 0 (((aSn s).set 1 (.v (.int .i64 e.st))).set 2 (.v (.bool true)))) (by decide : (1 : Nat) ≠ 0) hz1
            generalize S1.set 1 _ = S2 at hc2 hz2 ⊢
            simp (maxSteps := 1000000) (implicitDefEqProofs := false) (disch := omega) only [push_cast, ↓reduceIte, Nat.reduceEqDiff, reduceCtorEq, wz, hρ]
            refine wpa_st1 rfl rfl hc2 (by simp [aSn]) ?_
            have hc3 := get_set_eq (o := Res.obj 0 ((((aSn s).set 1 (.v (.int .i64 e.st))).set 2 (.v (.bool true))).set 3 (.v (.bool false)))) hc2
            have hz3 := get_set_ne (o := Res.obj 0 ((((aSn s).set 1 (.v (.int .i64 e.st))).set 2 (.v (.bool true))).set 3 (.v (.bool false)))) (by decide : (1 : Nat) ≠ 0) hz2
            generalize S2.set 1 _ = S3 at hc3 hz3 ⊢
            simp (maxSteps := 1000000) (implicitDefEqProofs := false) (disch := omega) only [push_cast, ↓reduceIte, Nat.reduceEqDiff, reduceCtorEq, wz, hρ]
            refine wpa_st1 rfl rfl hc3 (by simp [aSn]) ?_
            simp (maxSteps := 1000000) (implicitDefEqProofs := false) (disch := omega) only [push_cast, ↓reduceIte, Nat.reduceEqDiff, reduceCtorEq, wz, hρ]
            exact fin _ (get_set_ne (by decide) hz3) (by rw [get_set_eq hc3]; rfl) _ (by simp (maxSteps := 1000000) (implicitDefEqProofs := false) (disch := omega) only [push_cast, ↓reduceIte, Nat.reduceEqDiff, reduceCtorEq, wz, hρ])
          by_cases k6 : e.k = 6
          · have hls : lookS lp it s e = { s with st := e.st, wt := false, bg := false, fr := true } := by
              unfold lookS
              rw [if_neg hnn, if_neg k1, if_neg k2, if_pos (by omega)]
              simp [k6]
            rw [hls] at fin
            simp (maxSteps := 1000000) (implicitDefEqProofs := false) (disch := omega) only [push_cast, ↓reduceIte, Nat.reduceEqDiff, reduceCtorEq, wz, hρ, hb, g0, g1, g2, g3, h1, h2, k1, k2, k3, k6]
            refine wpa_st1 rfl rfl hs1' (by simp [aSn]) ?_
            have hb1 := get_set_ne (o := Res.obj 0 ((aSn s).set 1 (.v (.int .i64 e.st)))) (fun h => hne h.symm) hb
            have hc1 := get_set_eq (o := Res.obj 0 ((aSn s).set 1 (.v (.int .i64 e.st)))) hs1'
            have hz1 := get_set_ne (o := Res.obj 0 ((aSn s).set 1 (.v (.int .i64 e.st)))) (by decide : (1 : Nat) ≠ 0) hs0'
            generalize S.set 1 (Res.obj 0 ((aSn s).set 1 (.v (.int .i64 e.st)))) = S1 at hb1 hc1 hz1 ⊢
            simp (maxSteps := 1000000) (implicitDefEqProofs := false) (disch := omega) only [push_cast, ↓reduceIte, Nat.reduceEqDiff, reduceCtorEq, wz, hρ, hb1, g0, k3, k6]
            refine wpa_st1 rfl rfl hc1 (by simp [aSn]) ?_
            have hc2 := get_set_eq (o := Res.obj 0 (((aSn s).set 1 (.v (.int .i64 e.st))).set 2 (.v (.bool false)))) hc1
            have hz2 := get_set_ne (o := Res.obj 0 (((aSn s).set 1 (.v (.int .i64 e.st))).set 2 (.v (.bool false)))) (by decide : (1 : Nat) ≠ 0) hz1
            generalize S1.set 1 _ = S2 at hc2 hz2 ⊢
            simp (maxSteps := 1000000) (implicitDefEqProofs := false) (disch := omega) only [push_cast, ↓reduceIte, Nat.reduceEqDiff, reduceCtorEq, wz, hρ]
            refine wpa_st1 rfl rfl hc2 (by simp [aSn]) ?_
            have hc3 := get_set_eq (o := Res.obj 0 ((((aSn s).set 1 (.v (.int .i64 e.st))).set 2 (.v (.bool false))).set 3 (.v (.bool false)))) hc2
            have hz3 := get_set_ne (o := Res.obj 0 ((((aSn s).set 1 (.v (.int .i64 e.st))).set 2 (.v (.bool false))).set 3 (.v (.bool false)))) (by decide : (1 : Nat) ≠ 0) hz2
            generalize S2.set 1 _ = S3 at hc3 hz3 ⊢
            simp (maxSteps := 1000000) (implicitDefEqProofs := false) (disch := omega) only [push_cast, ↓reduceIte, Nat.reduceEqDiff, reduceCtorEq, wz, hρ]
            refine wpa_st1 rfl rfl hc3 (by simp [aSn]) ?_
            simp (maxSteps := 1000000) (implicitDefEqProofs := false) (disch := omega) only [push_cast, ↓reduceIte, Nat.reduceEqDiff, reduceCtorEq, wz, hρ]
            exact fin _ (get_set_ne (by decide) hz3) (by rw [get_set_eq hc3]; rfl) _ (by simp (maxSteps := 1000000) (implicitDefEqProofs := false) (disch := omega) only [push_cast, ↓reduceIte, Nat.reduceEqDiff, reduceCtorEq, wz, hρ])
          by_cases k4 : e.k = 4
          · have hls : lookS lp it s e = { s with fr := true, fn := true } := by
              unfold lookS
              rw [if_neg hnn, if_neg k1, if_neg k2, if_neg (by omega), if_pos k4]
            rw [hls] at fin
            simp (maxSteps := 1000000) (implicitDefEqProofs := false) (disch := omega) only [push_cast, ↓reduceIte, Nat.reduceEqDiff, reduceCtorEq, wz, hρ, hb, g0, g1, g2, h1, h2, k1, k2, k3, k6, k4]
            refine wpa_st1 rfl rfl hs1' (by simp [aSn]) ?_
            have hc1 := get_set_eq (o := Res.obj 0 ((aSn s).set 5 (.v (.bool true)))) hs1'
            have hz1 := get_set_ne (o := Res.obj 0 ((aSn s).set 5 (.v (.bool true)))) (by decide : (1 : Nat) ≠ 0) hs0'
            generalize S.set 1 _ = S1 at hc1 hz1 ⊢
            simp (maxSteps := 1000000) (implicitDefEqProofs := false) (disch := omega) only [push_cast, ↓reduceIte, Nat.reduceEqDiff, reduceCtorEq, wz, hρ]
            refine wpa_st1 rfl rfl hc1 (by simp [aSn]) ?_
            simp (maxSteps := 1000000) (implicitDefEqProofs := false) (disch := omega) only [push_cast, ↓reduceIte, Nat.reduceEqDiff, reduceCtorEq, wz, hρ]
            exact fin _ (get_set_ne (by decide) hz1) (by rw [get_set_eq hc1]; rfl) _ (by simp (maxSteps := 1000000) (implicitDefEqProofs := false) (disch := omega) only [push_cast, ↓reduceIte, Nat.reduceEqDiff, reduceCtorEq, wz, hρ])
          · simp (maxSteps := 1000000) (implicitDefEqProofs := false) (disch := omega) only [push_cast, ↓reduceIte, Nat.reduceEqDiff, reduceCtorEq, wz, hρ, hb, g0, g1, g2, h1, h2, k1, k2, k3, k6, k4]
            exact fin _ hs0' (by rw [hs1']; unfold lookS; rw [if_neg hnn, if_neg k1, if_neg k2, if_neg (by omega), if_neg k4]) _ (by simp (maxSteps := 1000000) (implicitDefEqProofs := false) (disch := omega) only [push_cast, ↓reduceIte, Nat.reduceEqDiff, reduceCtorEq, wz, hρ])
        · simp (maxSteps := 1000000) (implicitDefEqProofs := false) (disch := omega) only [push_cast, ↓reduceIte, Nat.reduceEqDiff, reduceCtorEq, wz, hρ, hb, g0, g1, g2, h1, h2]
          exact fin _ hs0' (by rw [hs1']; unfold lookS; rw [if_pos (.inr h2)]) _ (by simp (maxSteps := 1000000) (implicitDefEqProofs := false) (disch := omega) only [push_cast, ↓reduceIte, Nat.reduceEqDiff, reduceCtorEq, wz, hρ])
      · simp (maxSteps := 1000000) (implicitDefEqProofs := false) (disch := omega) only [push_cast, ↓reduceIte, Nat.reduceEqDiff, reduceCtorEq, wz, hρ, hb, g0, g1, g2, h1]
        exact fin _ hs0' (by rw [hs1']; unfold lookS; rw [if_pos (.inl h1)]) _ (by simp (maxSteps := 1000000) (implicitDefEqProofs := false) (disch := omega) only [push_cast, ↓reduceIte, Nat.reduceEqDiff, reduceCtorEq, wz, hρ])
    · simp (maxSteps := 1000000) (implicitDefEqProofs := false) (disch := omega) only [push_cast, ↓reduceIte, Nat.reduceEqDiff, reduceCtorEq, wz, hρ]
      obtain rfl : k = l.length := by omega
      rw [List.take_length] at hs1
      exact hE _ _ ⟨by simp (maxSteps := 1000000) (implicitDefEqProofs := false) (disch := omega) only [push_cast, ↓reduceIte, Nat.reduceEqDiff, reduceCtorEq, wz, hρ], hs0, hs1⟩
  · rintro ε σ ⟨hρ, hs0, hs1⟩
    have hc6 : cellsA (some 6) (aSn (lookF l lp it)) = some (.agg (aSn (lookF l lp it))) := rfl
    simp (maxSteps := 1000000) (implicitDefEqProofs := false) (disch := omega) only [push_cast, ↓reduceIte, Nat.reduceEqDiff, reduceCtorEq, wz, hρ, hs1, hc6]
    refine wpa_stn rfl rfl hs0 (by decide) ?_
    have hset : setAtA z6 0 (aSn (lookF l lp it)) = aSn (lookF l lp it) := rfl
    have h0 := get_set_eq (o := Res.obj 0 (setAtA z6 0 (aSn (lookF l lp it)))) hs0
    rw [hset] at h0 ⊢
    simp (maxSteps := 1000000) (implicitDefEqProofs := false) (disch := omega) only [push_cast, ↓reduceIte, Nat.reduceEqDiff, reduceCtorEq, wz, hρ, h0, hc6]
    exact fin_res [] (by simp [aSn, AV.res, AV.resL]) (by simp [aSn, AV.pure, AV.pureL])
end Go.Proofs.Ythgmfjkbgacfaaa
/- Trace: the document's answer: started, one, Check. -/
namespace Go.Proofs.Ythgmfjkbgacfaaa
set_option linter.unusedVariables false
set_option linter.unusedSimpArgs false
open Go Go.Kx Go.Proofs

def startS (lp : Int) (s : Nat × Bool) (e : Ev) : Nat × Bool := (if e.lp = lp ∧ e.k = 1 then s.1 + 1 else s.1, s.2 || (decide (e.lp = lp) && decide (e.k = 5)))
def startedF (l : List Ev) (lp : Int) : Nat × Bool := l.foldl (startS lp) (0, false)
theorem startedF_succ {l : List Ev} {k : Nat} {e : Ev} (h : l[k]? = some e) (lp : Int) : startedF (l.take (k + 1)) lp = startS lp (startedF (l.take k) lp) e := by
  unfold startedF
  rw [take_succ_at h, List.foldl_append]
  rfl
theorem startedF_le (l : List Ev) (lp : Int) : (startedF l lp).1 ≤ l.length := by
  unfold startedF
  have : ∀ (l : List Ev) (s : Nat × Bool), (l.foldl (startS lp) s).1 ≤ s.1 + l.length := by
    intro l
    induction l with
    | nil => intro s; simp
    | cons e l ih =>
      intro s
      have := ih (startS lp s e)
      have h2 : (startS lp s e).1 ≤ s.1 + 1 := by unfold startS; simp only; split <;> omega
      simp only [List.foldl_cons, List.length_cons]
      omega
  simpa using this l (0, false)
set_option maxHeartbeats 4000000 in
theorem ref34_started_a (l : List Ev) (hl : l.length ≤ 100000) (lp : Int) : FnP Try.prog 86 [aEvs l, aInt lp] fun a => a = .tup [aInt (startedF l lp).1, aBool (startedF l lp).2] := by
  refine fnP_in K_forebayref34_started mixed rfl (by simp [AV.pureL, aEvs_pure, AV.pure, aInt]) ?_
  simp only [S_forebayref34_started, aEvs, aSlN, aInt]
  simp (maxSteps := 1000000) (implicitDefEqProofs := false) (disch := omega) only [push_cast, ↓reduceIte, Nat.reduceEqDiff, reduceCtorEq, wz]
  refine wpa_blx (α := Nat) (I := fun k ε σ => (ε 0 = .sl l.length (l.flatMap aEv) .none ∧ ε 1 = .v (.int .i64 lp) ∧ ε 6 = .v (.int .i64 (startedF (l.take k) lp).1) ∧ ε 7 = .v (.bool (startedF (l.take k) lp).2) ∧ ε 8 = .v (.int .i64 k)) ∧ k ≤ l.length)
    (μ := fun k => l.length - k) (Q := fun ε σ => ε 6 = .v (.int .i64 (startedF l lp).1) ∧ ε 7 = .v (.bool (startedF l lp).2)) (x := 0) ?_ ?_ ?_
  · simp (maxSteps := 1000000) (implicitDefEqProofs := false) (disch := omega) only [push_cast, ↓reduceIte, Nat.reduceEqDiff, reduceCtorEq, wz]
    exact ⟨⟨rfl, rfl⟩, by omega⟩
  · rintro k ε σ N E X R ⟨hρ, hk⟩ hN hE
    simp only [S_forebayref34_started_L1]
    by_cases hlt : k < l.length
    · obtain ⟨e, he⟩ := at_lt hlt
      have hd := flat_drop aEv_len he
      have hc0 : (l.flatMap aEv)[k * 4]? = some (.v (.int .i64 e.k)) := by
        have : ((l.flatMap aEv).drop (k * 4))[0]? = some (.v (.int .i64 e.k)) := by rw [hd]; rfl
        rwa [List.getElem?_drop, Nat.add_zero] at this
      have hc1 : (l.flatMap aEv)[k * 4 + 1]? = some (.v (.int .i64 e.lp)) := by rw [← List.getElem?_drop, hd]; rfl
      have hsu := startedF_succ he lp
      have hle := startedF_le (l.take k) lp
      rw [List.length_take] at hle
      generalize startedF (l.take k) lp = s at hρ hsu hle
      obtain ⟨n, b⟩ := s
      simp only at hρ hle
      have fin : ∀ (ε' : AEnv) σ', (ε' 0 = .sl l.length (l.flatMap aEv) .none ∧ ε' 1 = .v (.int .i64 lp) ∧ ε' 6 = .v (.int .i64 ((startS lp (n, b) e).1 : Nat)) ∧ ε' 7 = .v (.bool (startS lp (n, b) e).2) ∧ ε' 8 = .v (.int .i64 (k + 1 : Nat))) → act (N ε' σ') := fun ε' σ' h => hN (k + 1) ε' σ' ⟨by rw [hsu]; exact h, by omega⟩ (by omega)
      by_cases h1 : e.lp = lp
      · by_cases k1 : e.k = 1
        · have hS : startS lp (n, b) e = (n + 1, b) := by simp [startS, h1, k1]
          rw [hS] at fin
          cases b
          · simp (maxSteps := 1000000) (implicitDefEqProofs := false) (disch := omega) only [push_cast, ↓reduceIte, Nat.reduceEqDiff, reduceCtorEq, wz, hρ, hc0, hc1, h1, k1]
            exact fin _ _ (by simp (maxSteps := 1000000) (implicitDefEqProofs := false) (disch := omega) only [push_cast, ↓reduceIte, Nat.reduceEqDiff, reduceCtorEq, wz, hρ])
          · simp (maxSteps := 1000000) (implicitDefEqProofs := false) (disch := omega) only [push_cast, ↓reduceIte, Nat.reduceEqDiff, reduceCtorEq, wz, hρ, hc0, hc1, h1, k1]
            exact fin _ _ (by simp (maxSteps := 1000000) (implicitDefEqProofs := false) (disch := omega) only [push_cast, ↓reduceIte, Nat.reduceEqDiff, reduceCtorEq, wz, hρ])
        · by_cases k5 : e.k = 5
          · have hS : startS lp (n, b) e = (n, true) := by simp [startS, h1, k5]
            rw [hS] at fin
            cases b
            · simp (maxSteps := 1000000) (implicitDefEqProofs := false) (disch := omega) only [push_cast, ↓reduceIte, Nat.reduceEqDiff, reduceCtorEq, wz, hρ, hc0, hc1, h1, k1, k5]
              exact fin _ _ (by simp (maxSteps := 1000000) (implicitDefEqProofs := false) (disch := omega) only [push_cast, ↓reduceIte, Nat.reduceEqDiff, reduceCtorEq, wz, hρ])
            · simp (maxSteps := 1000000) (implicitDefEqProofs := false) (disch := omega) only [push_cast, ↓reduceIte, Nat.reduceEqDiff, reduceCtorEq, wz, hρ, hc0, hc1, h1, k1, k5]
              exact fin _ _ (by simp (maxSteps := 1000000) (implicitDefEqProofs := false) (disch := omega) only [push_cast, ↓reduceIte, Nat.reduceEqDiff, reduceCtorEq, wz, hρ])
          · have hS : startS lp (n, b) e = (n, b) := by simp [startS, h1, k1, k5]
            rw [hS] at fin
            cases b
            · simp (maxSteps := 1000000) (implicitDefEqProofs := false) (disch := omega) only [push_cast, ↓reduceIte, Nat.reduceEqDiff, reduceCtorEq, wz, hρ, hc0, hc1, h1, k1, k5]
              exact fin _ _ (by simp (maxSteps := 1000000) (implicitDefEqProofs := false) (disch := omega) only [push_cast, ↓reduceIte, Nat.reduceEqDiff, reduceCtorEq, wz, hρ])
            · simp (maxSteps := 1000000) (implicitDefEqProofs := false) (disch := omega) only [push_cast, ↓reduceIte, Nat.reduceEqDiff, reduceCtorEq, wz, hρ, hc0, hc1, h1, k1, k5]
              exact fin _ _ (by simp (maxSteps := 1000000) (implicitDefEqProofs := false) (disch := omega) only [push_cast, ↓reduceIte, Nat.reduceEqDiff, reduceCtorEq, wz, hρ])
      · have hS : startS lp (n, b) e = (n, b) := by simp [startS, h1]
        rw [hS] at fin
        cases b
        · simp (maxSteps := 1000000) (implicitDefEqProofs := false) (disch := omega) only [push_cast, ↓reduceIte, Nat.reduceEqDiff, reduceCtorEq, wz, hρ, hc0, hc1, h1]
          exact fin _ _ (by simp (maxSteps := 1000000) (implicitDefEqProofs := false) (disch := omega) only [push_cast, ↓reduceIte, Nat.reduceEqDiff, reduceCtorEq, wz, hρ])
        · simp (maxSteps := 1000000) (implicitDefEqProofs := false) (disch := omega) only [push_cast, ↓reduceIte, Nat.reduceEqDiff, reduceCtorEq, wz, hρ, hc0, hc1, h1]
          exact fin _ _ (by simp (maxSteps := 1000000) (implicitDefEqProofs := false) (disch := omega) only [push_cast, ↓reduceIte, Nat.reduceEqDiff, reduceCtorEq, wz, hρ])
    · simp (maxSteps := 1000000) (implicitDefEqProofs := false) (disch := omega) only [push_cast, ↓reduceIte, Nat.reduceEqDiff, reduceCtorEq, wz, hρ]
      obtain rfl : k = l.length := by omega
      rw [List.take_length] at hρ
      exact hE _ _ (by simp (maxSteps := 1000000) (implicitDefEqProofs := false) (disch := omega) only [push_cast, ↓reduceIte, Nat.reduceEqDiff, reduceCtorEq, wz, hρ])
  · rintro ε σ hρ
    simp (maxSteps := 1000000) (implicitDefEqProofs := false) (disch := omega) only [push_cast, ↓reduceIte, Nat.reduceEqDiff, reduceCtorEq, wz, hρ]
    exact ⟨[], rfl, rfl⟩
/-- What is wrong with an event behind others. -/
def oneF (l : List Ev) (e : Ev) : Int :=
  if e.k < 1 ∨ 6 < e.k then 5
  else if (startedF l e.lp).2 = true then 8
  else if e.k = 1 then
    if e.it ≠ (startedF l e.lp).1 ∨ e.st ≠ 0 then 4
    else if 0 < (startedF l e.lp).1 ∧ (lookF l e.lp ((startedF l e.lp).1 - 1)).fr = false then 1 else 0
  else if e.k = 5 then
    if e.it ≠ (startedF l e.lp).1 ∨ (startedF l e.lp).1 = 0 ∨ e.st ≠ 0 then 4
    else if ((List.range (startedF l e.lp).1).all fun i => (lookF l e.lp i).fn) = true then 0 else 4
  else if (lookF l e.lp e.it).on = false then 7
  else if (lookF l e.lp e.it).fn = true then 10
  else if e.k = 2 then
    if e.st ≠ (lookF l e.lp e.it).st ∨ (lookF l e.lp e.it).bg = true then 4
    else if (lookF l e.lp e.it).wt = true ∧ 0 < e.it ∧ (lookF l e.lp (IntKind.i64.wrap (e.it - 1))).fn = false ∧ (lookF l e.lp (IntKind.i64.wrap (e.it - 1))).st ≤ e.st then 1 else 0
  else if e.k = 4 then
    if (lookF l e.lp e.it).bg = false ∨ e.st ≠ (lookF l e.lp e.it).st then 4 else 0
  else if (lookF l e.lp e.it).bg = false ∨ e.st ≤ (lookF l e.lp e.it).st ∨ 1048575 < e.st then 4 else 0
theorem not_not_true {b : Bool} (h : ¬ b = true) : b = false := by simpa using h
set_option maxHeartbeats 16000000 in
theorem ref34_one_a (l : List Ev) (hl : l.length ≤ 100000) (e : Ev) : FnP Try.prog 52 [aEvs l, .agg (aEv e)] fun a => a = aInt (oneF l e) := by
  refine fnP_in K_forebayref34_one mixed rfl (by simp [AV.pureL, aEvs_pure, AV.pure, aEv]) ?_
  simp only [S_forebayref34_one]
  have g0 : (aEv e)[0]? = some (.v (.int .i64 e.k)) := rfl
  have g1 : (aEv e)[1]? = some (.v (.int .i64 e.lp)) := rfl
  have g2 : (aEv e)[2]? = some (.v (.int .i64 e.it)) := rfl
  have g3 : (aEv e)[3]? = some (.v (.int .i64 e.st)) := rfl
  refine wpa_seqx (fun ε σ => (ε 0 = aEvs l ∧ ε 3 = .ref 0 0 0) ∧ σ = [.obj 0 (aEv e)]) ?_ ?_
  · intro N X' R' hN
    simp (maxSteps := 1000000) (implicitDefEqProofs := false) (disch := omega) only [push_cast, ↓reduceIte, Nat.reduceEqDiff, reduceCtorEq, wz]
    refine wpa_box ?_
    simp (maxSteps := 1000000) (implicitDefEqProofs := false) (disch := omega) only [push_cast, ↓reduceIte, Nat.reduceEqDiff, reduceCtorEq, wz]
    exact hN _ _ (by simp (maxSteps := 1000000) (implicitDefEqProofs := false) (disch := omega) only [push_cast, ↓reduceIte, Nat.reduceEqDiff, reduceCtorEq, wz]; try rfl)
  rintro ε σ ⟨hρ, rfl⟩
  refine wpa_seq (fun ε σ => (ε 0 = aEvs l ∧ ε 3 = .ref 0 0 0) ∧ ¬ (e.k < 1 ∨ 6 < e.k) ∧ σ = [.obj 0 (aEv e)]) ?_ ?_
  · intro N hN
    by_cases h1 : e.k < 1
    · have hF : oneF l e = 5 := by unfold oneF; rw [if_pos (.inl h1)]
      simp (maxSteps := 1000000) (implicitDefEqProofs := false) (disch := omega) only [push_cast, ↓reduceIte, Nat.reduceEqDiff, reduceCtorEq, wz, hρ, g0, h1]
      exact ⟨[], rfl, by rw [hF]; rfl⟩
    by_cases h2 : 6 < e.k
    · have hF : oneF l e = 5 := by unfold oneF; rw [if_pos (.inr h2)]
      simp (maxSteps := 1000000) (implicitDefEqProofs := false) (disch := omega) only [push_cast, ↓reduceIte, Nat.reduceEqDiff, reduceCtorEq, wz, hρ, g0, h1, h2]
      exact ⟨[], rfl, by rw [hF]; rfl⟩
    simp (maxSteps := 1000000) (implicitDefEqProofs := false) (disch := omega) only [push_cast, ↓reduceIte, Nat.reduceEqDiff, reduceCtorEq, wz, hρ, g0, h1, h2]
    exact hN _ _ ⟨by simp (maxSteps := 1000000) (implicitDefEqProofs := false) (disch := omega) only [push_cast, ↓reduceIte, Nat.reduceEqDiff, reduceCtorEq, wz, hρ], by omega, rfl⟩
  clear hρ ε
  rintro ε σ ⟨hρ, hk, rfl⟩
  have hF0 : oneF l e = if (startedF l e.lp).2 = true then 8 else if e.k = 1 then if e.it ≠ (startedF l e.lp).1 ∨ e.st ≠ 0 then 4 else if 0 < (startedF l e.lp).1 ∧ (lookF l e.lp ((startedF l e.lp).1 - 1)).fr = false then 1 else 0
      else if e.k = 5 then if e.it ≠ (startedF l e.lp).1 ∨ (startedF l e.lp).1 = 0 ∨ e.st ≠ 0 then 4 else if ((List.range (startedF l e.lp).1).all fun i => (lookF l e.lp i).fn) = true then 0 else 4
      else if (lookF l e.lp e.it).on = false then 7 else if (lookF l e.lp e.it).fn = true then 10
      else if e.k = 2 then if e.st ≠ (lookF l e.lp e.it).st ∨ (lookF l e.lp e.it).bg = true then 4
        else if (lookF l e.lp e.it).wt = true ∧ 0 < e.it ∧ (lookF l e.lp (IntKind.i64.wrap (e.it - 1))).fn = false ∧ (lookF l e.lp (IntKind.i64.wrap (e.it - 1))).st ≤ e.st then 1 else 0
      else if e.k = 4 then if (lookF l e.lp e.it).bg = false ∨ e.st ≠ (lookF l e.lp e.it).st then 4 else 0
      else if (lookF l e.lp e.it).bg = false ∨ e.st ≤ (lookF l e.lp e.it).st ∨ 1048575 < e.st then 4 else 0 := by
    unfold oneF; rw [if_neg hk]
  have hnl := startedF_le l e.lp
  generalize hsF : startedF l e.lp = S at hF0 hnl
  obtain ⟨n, en⟩ := S
  simp only at hF0 hnl
  refine wpa_seqx (fun ε σ => (ε 0 = aEvs l ∧ ε 3 = .ref 0 0 0 ∧ ε 5 = aInt n ∧ ε 6 = aBool en) ∧ σ = [.obj 0 (aEv e)]) ?_ ?_
  · intro N X' R' hN
    simp (maxSteps := 1000000) (implicitDefEqProofs := false) (disch := omega) only [push_cast, ↓reduceIte, Nat.reduceEqDiff, reduceCtorEq, wz, hρ, g1]
    refine wpa_call (ref34_started_a l hl e.lp) ?_
    rintro a rfl
    rw [hsF]
    simp (maxSteps := 1000000) (implicitDefEqProofs := false) (disch := omega) only [push_cast, ↓reduceIte, Nat.reduceEqDiff, reduceCtorEq, wz, hρ]
    exact hN _ _ (by simp (maxSteps := 1000000) (implicitDefEqProofs := false) (disch := omega) only [push_cast, ↓reduceIte, Nat.reduceEqDiff, reduceCtorEq, wz, hρ])
  clear hρ ε
  rintro ε σ ⟨hρ, rfl⟩
  refine wpa_seq (fun ε σ => (ε 0 = aEvs l ∧ ε 3 = .ref 0 0 0 ∧ ε 5 = aInt n) ∧ en = false ∧ σ = [.obj 0 (aEv e)]) ?_ ?_
  · intro N hN
    cases hen : en
    · subst hen
      simp (maxSteps := 1000000) (implicitDefEqProofs := false) (disch := omega) only [push_cast, ↓reduceIte, Nat.reduceEqDiff, reduceCtorEq, wz, hρ, aBool]
      exact hN _ _ (by simp (maxSteps := 1000000) (implicitDefEqProofs := false) (disch := omega) only [push_cast, ↓reduceIte, Nat.reduceEqDiff, reduceCtorEq, wz, hρ])
    · subst hen
      rw [if_pos rfl] at hF0
      simp (maxSteps := 1000000) (implicitDefEqProofs := false) (disch := omega) only [push_cast, ↓reduceIte, Nat.reduceEqDiff, reduceCtorEq, wz, hρ, aBool]
      exact ⟨[], rfl, by rw [hF0]; try rfl⟩
  clear hρ ε
  rintro ε σ ⟨hρ, rfl, rfl⟩
  rw [if_neg (by simp)] at hF0
  refine wpa_seq (fun ε σ => (ε 0 = aEvs l ∧ ε 3 = .ref 0 0 0) ∧ (e.k ≠ 1 ∧ e.k ≠ 5) ∧ σ = [.obj 0 (aEv e)]) ?_ ?_
  · intro N hN
    by_cases k1 : e.k = 1
    · rw [if_pos k1] at hF0
      by_cases h1 : e.it ≠ (n : Int)
      · rw [if_pos (.inl h1)] at hF0
        simp (maxSteps := 1000000) (implicitDefEqProofs := false) (disch := omega) only [push_cast, ↓reduceIte, Nat.reduceEqDiff, reduceCtorEq, wz, hρ, g0, g2, g3, k1, h1, aInt]
        exact ⟨[], rfl, by rw [hF0]; try rfl⟩
      by_cases h2 : e.st ≠ 0
      · rw [if_pos (.inr h2)] at hF0
        simp (maxSteps := 1000000) (implicitDefEqProofs := false) (disch := omega) only [push_cast, ↓reduceIte, Nat.reduceEqDiff, reduceCtorEq, wz, hρ, g0, g2, g3, k1, h1, h2, aInt]
        exact ⟨[], rfl, by rw [hF0]; try rfl⟩
      rw [if_neg (by omega)] at hF0
      by_cases h3 : 0 < n
      · have h3' : (0 : Int) < (n : Int) := by omega
        simp (maxSteps := 1000000) (implicitDefEqProofs := false) (disch := omega) only [push_cast, ↓reduceIte, Nat.reduceEqDiff, reduceCtorEq, wz, hρ, g0, g1, g2, g3, k1, h1, h2, h3', aInt]
        refine wpa_call (ref34_look_a l hl e.lp ((n : Int) - 1)) ?_
        rintro a rfl
        have gf : (aSn (lookF l e.lp ((n : Int) - 1)))[4]? = some (.v (.bool (lookF l e.lp ((n : Int) - 1)).fr)) := rfl
        cases hfr : (lookF l e.lp ((n : Int) - 1)).fr
        · rw [if_pos ⟨h3, hfr⟩] at hF0
          simp (maxSteps := 1000000) (implicitDefEqProofs := false) (disch := omega) only [push_cast, ↓reduceIte, Nat.reduceEqDiff, reduceCtorEq, wz, hρ, gf, hfr]
          exact ⟨[], rfl, by rw [hF0]; try rfl⟩
        · rw [if_neg (by rw [hfr]; simp)] at hF0
          simp (maxSteps := 1000000) (implicitDefEqProofs := false) (disch := omega) only [push_cast, ↓reduceIte, Nat.reduceEqDiff, reduceCtorEq, wz, hρ, gf, hfr]
          exact ⟨[], rfl, by rw [hF0]; try rfl⟩
      · have h3' : ¬ (0 : Int) < (n : Int) := by omega
        rw [if_neg (fun h => h3 h.1)] at hF0
        simp (maxSteps := 1000000) (implicitDefEqProofs := false) (disch := omega) only [push_cast, ↓reduceIte, Nat.reduceEqDiff, reduceCtorEq, wz, hρ, g0, g2, g3, k1, h1, h2, h3', aInt]
        exact ⟨[], rfl, by rw [hF0]; try rfl⟩
    by_cases k5 : e.k = 5
    · rw [if_neg k1, if_pos k5] at hF0
      by_cases h1 : e.it ≠ (n : Int)
      · rw [if_pos (.inl h1)] at hF0
        simp (maxSteps := 1000000) (implicitDefEqProofs := false) (disch := omega) only [push_cast, ↓reduceIte, Nat.reduceEqDiff, reduceCtorEq, wz, hρ, g0, g2, g3, k1, k5, h1, aInt]
        exact ⟨[], rfl, by rw [hF0]; try rfl⟩
      by_cases h3 : n = 0
      · rw [if_pos (.inr (.inl h3))] at hF0
        have h3' : (n : Int) = 0 := by omega
        simp (maxSteps := 1000000) (implicitDefEqProofs := false) (disch := omega) only [push_cast, ↓reduceIte, Nat.reduceEqDiff, reduceCtorEq, wz, hρ, g0, g2, g3, k1, k5, h1, h3', aInt]
        exact ⟨[], rfl, by rw [hF0]; try rfl⟩
      have h3' : ¬ (n : Int) = 0 := by omega
      by_cases h2 : e.st ≠ 0
      · rw [if_pos (.inr (.inr h2))] at hF0
        simp (maxSteps := 1000000) (implicitDefEqProofs := false) (disch := omega) only [push_cast, ↓reduceIte, Nat.reduceEqDiff, reduceCtorEq, wz, hρ, g0, g2, g3, k1, k5, h1, h2, h3', aInt]
        exact ⟨[], rfl, by rw [hF0]; try rfl⟩
      rw [if_neg (by omega)] at hF0
      simp (maxSteps := 1000000) (implicitDefEqProofs := false) (disch := omega) only [push_cast, ↓reduceIte, Nat.reduceEqDiff, reduceCtorEq, wz, hρ, g0, g2, g3, k1, k5, h1, h2, h3', aInt]
      refine wpa_bl (α := Nat) (I := fun k ε σ => (ε 0 = aEvs l ∧ ε 3 = .ref 0 0 0 ∧ ε 5 = .v (.int .i64 n) ∧ ε 7 = .v (.int .i64 k)) ∧ k ≤ n ∧ ((List.range k).all fun i => (lookF l e.lp i).fn) = true ∧ σ = [.obj 0 (aEv e)])
        (μ := fun k => n - k) (Q := fun ε σ => ((List.range n).all fun i => (lookF l e.lp i).fn) = true) (x := 0) ?_ ?_ ?_
      · simp (maxSteps := 1000000) (implicitDefEqProofs := false) (disch := omega) only [push_cast, ↓reduceIte, Nat.reduceEqDiff, reduceCtorEq, wz, hρ]
        exact ⟨rfl, by omega, rfl⟩
      · clear hρ ε
        rintro k ε σ N E ⟨hρ, hkn, hall, rfl⟩ hN hE
        simp only [S_forebayref34_one_L1]
        by_cases hlt : k < n
        · have hlt' : (k : Int) < (n : Int) := by omega
          simp (maxSteps := 1000000) (implicitDefEqProofs := false) (disch := omega) only [push_cast, ↓reduceIte, Nat.reduceEqDiff, reduceCtorEq, wz, hρ, g1, hlt']
          refine wpa_call (ref34_look_a l hl e.lp (k : Int)) ?_
          rintro a rfl
          have gf : (aSn (lookF l e.lp (k : Int)))[5]? = some (.v (.bool (lookF l e.lp (k : Int)).fn)) := rfl
          cases hfn : (lookF l e.lp (k : Int)).fn
          · have : ((List.range n).all fun i => (lookF l e.lp i).fn) = false := by
              rw [List.all_eq_false]
              exact ⟨k, List.mem_range.2 hlt, by rw [hfn]; simp⟩
            rw [this, if_neg (by simp)] at hF0
            simp (maxSteps := 1000000) (implicitDefEqProofs := false) (disch := omega) only [push_cast, ↓reduceIte, Nat.reduceEqDiff, reduceCtorEq, wz, hρ, gf, hfn]
            exact ⟨[], rfl, by rw [hF0]; try rfl⟩
          · simp (maxSteps := 1000000) (implicitDefEqProofs := false) (disch := omega) only [push_cast, ↓reduceIte, Nat.reduceEqDiff, reduceCtorEq, wz, hρ, gf, hfn]
            refine hN (k + 1) _ _ ?_ (by omega)
            simp (maxSteps := 1000000) (implicitDefEqProofs := false) (disch := omega) only [push_cast, ↓reduceIte, Nat.reduceEqDiff, reduceCtorEq, wz, hρ]
            exact ⟨by omega, by rw [List.range_succ, List.all_append, hall]; simp [hfn]⟩
        · have hlt' : ¬ (k : Int) < (n : Int) := by omega
          simp (maxSteps := 1000000) (implicitDefEqProofs := false) (disch := omega) only [push_cast, ↓reduceIte, Nat.reduceEqDiff, reduceCtorEq, wz, hρ, hlt']
          obtain rfl : k = n := by omega
          exact hE _ _ hall
      · rintro ε σ hall
        rw [hall, if_pos rfl] at hF0
        simp (maxSteps := 1000000) (implicitDefEqProofs := false) (disch := omega) only [push_cast, ↓reduceIte, Nat.reduceEqDiff, reduceCtorEq, wz]
        exact ⟨[], rfl, by rw [hF0]; try rfl⟩
    simp (maxSteps := 1000000) (implicitDefEqProofs := false) (disch := omega) only [push_cast, ↓reduceIte, Nat.reduceEqDiff, reduceCtorEq, wz, hρ, g0, k1, k5]
    exact hN _ _ (by simp (maxSteps := 1000000) (implicitDefEqProofs := false) (disch := omega) only [push_cast, ↓reduceIte, Nat.reduceEqDiff, reduceCtorEq, wz, hρ]; exact ⟨k1, k5⟩)
  clear hρ ε
  rintro ε σ ⟨hρ, ⟨k1, k5⟩, rfl⟩
  rw [if_neg k1, if_neg k5] at hF0
  have hset6 : ∀ x : Sn, setAtA z6 0 (aSn x) = aSn x := fun x => rfl
  refine wpa_seqx (fun ε σ => (ε 0 = aEvs l ∧ ε 3 = .ref 0 0 0 ∧ ε 8 = .ref 1 0 0) ∧ σ = [.obj 0 (aEv e), .obj 0 (aSn (lookF l e.lp e.it))]) ?_ ?_
  · intro N X' R' hN
    simp (maxSteps := 1000000) (implicitDefEqProofs := false) (disch := omega) only [push_cast, ↓reduceIte, Nat.reduceEqDiff, reduceCtorEq, wz, hρ, g1, g2]
    refine wpa_call (ref34_look_a l hl e.lp e.it) ?_
    rintro a rfl
    simp (maxSteps := 1000000) (implicitDefEqProofs := false) (disch := omega) only [push_cast, ↓reduceIte, Nat.reduceEqDiff, reduceCtorEq, wz]
    refine wpa_new ?_
    simp (maxSteps := 1000000) (implicitDefEqProofs := false) (disch := omega) only [push_cast, ↓reduceIte, Nat.reduceEqDiff, reduceCtorEq, wz]
    refine wpa_stn (cs := z6) rfl rfl rfl (by decide) ?_
    rw [hset6]
    simp (maxSteps := 1000000) (implicitDefEqProofs := false) (disch := omega) only [push_cast, ↓reduceIte, Nat.reduceEqDiff, reduceCtorEq, wz, hρ]
    exact hN _ _ (by simp (maxSteps := 1000000) (implicitDefEqProofs := false) (disch := omega) only [push_cast, ↓reduceIte, Nat.reduceEqDiff, reduceCtorEq, wz, hρ]; try rfl)
  clear hρ ε
  rintro ε σ ⟨hρ, rfl⟩
  generalize lookF l e.lp e.it = s at hF0 ⊢
  have s0 : (aSn s)[0]? = some (.v (.bool s.on)) := rfl
  have s1 : (aSn s)[1]? = some (.v (.int .i64 s.st)) := rfl
  have s2 : (aSn s)[2]? = some (.v (.bool s.wt)) := rfl
  have s3 : (aSn s)[3]? = some (.v (.bool s.bg)) := rfl
  have s5 : (aSn s)[5]? = some (.v (.bool s.fn)) := rfl
  refine wpa_seq (fun ε σ => (ε 0 = aEvs l ∧ ε 3 = .ref 0 0 0 ∧ ε 8 = .ref 1 0 0) ∧ s.on = true ∧ σ = [.obj 0 (aEv e), .obj 0 (aSn s)]) ?_ ?_
  · intro N hN
    cases hon : s.on
    · rw [if_pos hon] at hF0
      simp (maxSteps := 1000000) (implicitDefEqProofs := false) (disch := omega) only [push_cast, ↓reduceIte, Nat.reduceEqDiff, reduceCtorEq, wz, hρ, s0, hon]
      exact ⟨[], rfl, by rw [hF0]; try rfl⟩
    · simp (maxSteps := 1000000) (implicitDefEqProofs := false) (disch := omega) only [push_cast, ↓reduceIte, Nat.reduceEqDiff, reduceCtorEq, wz, hρ, s0, hon]
      exact hN _ _ (by simp (maxSteps := 1000000) (implicitDefEqProofs := false) (disch := omega) only [push_cast, ↓reduceIte, Nat.reduceEqDiff, reduceCtorEq, wz, hρ]; exact hon)
  clear hρ ε
  rintro ε σ ⟨hρ, hon, rfl⟩
  rw [if_neg (by rw [hon]; simp)] at hF0
  refine wpa_seq (fun ε σ => (ε 0 = aEvs l ∧ ε 3 = .ref 0 0 0 ∧ ε 8 = .ref 1 0 0) ∧ s.fn = false ∧ σ = [.obj 0 (aEv e), .obj 0 (aSn s)]) ?_ ?_
  · intro N hN
    cases hfn : s.fn
    · simp (maxSteps := 1000000) (implicitDefEqProofs := false) (disch := omega) only [push_cast, ↓reduceIte, Nat.reduceEqDiff, reduceCtorEq, wz, hρ, s5, hfn]
      exact hN _ _ (by simp (maxSteps := 1000000) (implicitDefEqProofs := false) (disch := omega) only [push_cast, ↓reduceIte, Nat.reduceEqDiff, reduceCtorEq, wz, hρ]; exact hfn)
    · rw [if_pos hfn] at hF0
      simp (maxSteps := 1000000) (implicitDefEqProofs := false) (disch := omega) only [push_cast, ↓reduceIte, Nat.reduceEqDiff, reduceCtorEq, wz, hρ, s5, hfn]
      exact ⟨[], rfl, by rw [hF0]; try rfl⟩
  clear hρ ε
  rintro ε σ ⟨hρ, hfn, rfl⟩
  rw [if_neg (by rw [hfn]; simp)] at hF0
  refine wpa_seq (fun ε σ => (ε 0 = aEvs l ∧ ε 3 = .ref 0 0 0 ∧ ε 8 = .ref 1 0 0) ∧ (e.k ≠ 2 ∧ e.k ≠ 4) ∧ σ = [.obj 0 (aEv e), .obj 0 (aSn s)]) ?_ ?_
  · intro N hN
    by_cases k2 : e.k = 2
    · rw [if_pos k2] at hF0
      by_cases h1 : e.st ≠ s.st
      · rw [if_pos (.inl h1)] at hF0
        simp (maxSteps := 1000000) (implicitDefEqProofs := false) (disch := omega) only [push_cast, ↓reduceIte, Nat.reduceEqDiff, reduceCtorEq, wz, hρ, g0, g3, s1, s3, k2, h1]
        exact ⟨[], rfl, by rw [hF0]; try rfl⟩
      cases hbg : s.bg
      · rw [if_neg (by rw [hbg]; simp; omega)] at hF0
        simp (maxSteps := 1000000) (implicitDefEqProofs := false) (disch := omega) only [push_cast, ↓reduceIte, Nat.reduceEqDiff, reduceCtorEq, wz, hρ, g0, g1, g2, g3, s1, s3, k2, h1, hbg]
        refine wpa_call (ref34_look_a l hl e.lp (IntKind.i64.wrap (e.it - 1))) ?_
        rintro a rfl
        simp (maxSteps := 1000000) (implicitDefEqProofs := false) (disch := omega) only [push_cast, ↓reduceIte, Nat.reduceEqDiff, reduceCtorEq, wz]
        refine wpa_new ?_
        simp (maxSteps := 1000000) (implicitDefEqProofs := false) (disch := omega) only [push_cast, ↓reduceIte, Nat.reduceEqDiff, reduceCtorEq, wz]
        refine wpa_stn (cs := z6) rfl rfl rfl (by decide) ?_
        rw [hset6]
        generalize lookF l e.lp (IntKind.i64.wrap (e.it - 1)) = t at hF0 ⊢
        have t1 : (aSn t)[1]? = some (.v (.int .i64 t.st)) := rfl
        have t5 : (aSn t)[5]? = some (.v (.bool t.fn)) := rfl
        cases hwt : s.wt
        · rw [if_neg (fun h => by rw [hwt] at h; exact absurd h.1 (by simp))] at hF0
          simp (maxSteps := 1000000) (implicitDefEqProofs := false) (disch := omega) only [push_cast, ↓reduceIte, Nat.reduceEqDiff, reduceCtorEq, wz, hρ, s2, hwt]
          exact ⟨[], rfl, by rw [hF0]; try rfl⟩
        by_cases hpos : 0 < e.it
        · cases htf : t.fn
          · by_cases hts : t.st ≤ e.st
            · rw [if_pos ⟨hwt, hpos, htf, hts⟩] at hF0
              simp (maxSteps := 1000000) (implicitDefEqProofs := false) (disch := omega) only [push_cast, ↓reduceIte, Nat.reduceEqDiff, reduceCtorEq, wz, hρ, s2, g2, g3, t1, t5, hwt, hpos, htf, hts]
              exact ⟨[], rfl, by rw [hF0]; try rfl⟩
            · rw [if_neg (fun h => hts h.2.2.2)] at hF0
              simp (maxSteps := 1000000) (implicitDefEqProofs := false) (disch := omega) only [push_cast, ↓reduceIte, Nat.reduceEqDiff, reduceCtorEq, wz, hρ, s2, g2, g3, t1, t5, hwt, hpos, htf, hts]
              exact ⟨[], rfl, by rw [hF0]; try rfl⟩
          · rw [if_neg (fun h => by rw [htf] at h; exact absurd h.2.2.1 (by simp))] at hF0
            simp (maxSteps := 1000000) (implicitDefEqProofs := false) (disch := omega) only [push_cast, ↓reduceIte, Nat.reduceEqDiff, reduceCtorEq, wz, hρ, s2, g2, t5, hwt, hpos, htf]
            exact ⟨[], rfl, by rw [hF0]; try rfl⟩
        · rw [if_neg (fun h => hpos h.2.1)] at hF0
          simp (maxSteps := 1000000) (implicitDefEqProofs := false) (disch := omega) only [push_cast, ↓reduceIte, Nat.reduceEqDiff, reduceCtorEq, wz, hρ, s2, g2, hwt, hpos]
          exact ⟨[], rfl, by rw [hF0]; try rfl⟩
      · rw [if_pos (.inr hbg)] at hF0
        simp (maxSteps := 1000000) (implicitDefEqProofs := false) (disch := omega) only [push_cast, ↓reduceIte, Nat.reduceEqDiff, reduceCtorEq, wz, hρ, g0, g3, s1, s3, k2, h1, hbg]
        exact ⟨[], rfl, by rw [hF0]; try rfl⟩
    by_cases k4 : e.k = 4
    · rw [if_neg k2, if_pos k4] at hF0
      cases hbg : s.bg
      · rw [if_pos (.inl hbg)] at hF0
        simp (maxSteps := 1000000) (implicitDefEqProofs := false) (disch := omega) only [push_cast, ↓reduceIte, Nat.reduceEqDiff, reduceCtorEq, wz, hρ, g0, s3, k2, k4, hbg]
        exact ⟨[], rfl, by rw [hF0]; try rfl⟩
      by_cases h1 : e.st ≠ s.st
      · rw [if_pos (.inr h1)] at hF0
        simp (maxSteps := 1000000) (implicitDefEqProofs := false) (disch := omega) only [push_cast, ↓reduceIte, Nat.reduceEqDiff, reduceCtorEq, wz, hρ, g0, g3, s1, s3, k2, k4, hbg, h1]
        exact ⟨[], rfl, by rw [hF0]; try rfl⟩
      · rw [if_neg (by rw [hbg]; simp; omega)] at hF0
        simp (maxSteps := 1000000) (implicitDefEqProofs := false) (disch := omega) only [push_cast, ↓reduceIte, Nat.reduceEqDiff, reduceCtorEq, wz, hρ, g0, g3, s1, s3, k2, k4, hbg, h1]
        exact ⟨[], rfl, by rw [hF0]; try rfl⟩
    simp (maxSteps := 1000000) (implicitDefEqProofs := false) (disch := omega) only [push_cast, ↓reduceIte, Nat.reduceEqDiff, reduceCtorEq, wz, hρ, g0, k2, k4]
    exact hN _ _ (by simp (maxSteps := 1000000) (implicitDefEqProofs := false) (disch := omega) only [push_cast, ↓reduceIte, Nat.reduceEqDiff, reduceCtorEq, wz, hρ]; exact ⟨k2, k4⟩)
  clear hρ ε
  rintro ε σ ⟨hρ, ⟨k2, k4⟩, rfl⟩
  rw [if_neg k2, if_neg k4] at hF0
  cases hbg : s.bg
  · rw [if_pos (.inl hbg)] at hF0
    simp (maxSteps := 1000000) (implicitDefEqProofs := false) (disch := omega) only [push_cast, ↓reduceIte, Nat.reduceEqDiff, reduceCtorEq, wz, hρ, s3, hbg]
    exact ⟨[], rfl, by rw [hF0]; try rfl⟩
  by_cases h1 : e.st ≤ s.st
  · rw [if_pos (.inr (.inl h1))] at hF0
    simp (maxSteps := 1000000) (implicitDefEqProofs := false) (disch := omega) only [push_cast, ↓reduceIte, Nat.reduceEqDiff, reduceCtorEq, wz, hρ, g3, s1, s3, hbg, h1]
    exact ⟨[], rfl, by rw [hF0]; try rfl⟩
  by_cases h2 : 1048575 < e.st
  · rw [if_pos (.inr (.inr h2))] at hF0
    simp (maxSteps := 1000000) (implicitDefEqProofs := false) (disch := omega) only [push_cast, ↓reduceIte, Nat.reduceEqDiff, reduceCtorEq, wz, hρ, g3, s1, s3, hbg, h1, h2]
    exact ⟨[], rfl, by rw [hF0]; try rfl⟩
  rw [if_neg (by rw [hbg]; simp; omega)] at hF0
  simp (maxSteps := 1000000) (implicitDefEqProofs := false) (disch := omega) only [push_cast, ↓reduceIte, Nat.reduceEqDiff, reduceCtorEq, wz, hρ, g3, s1, s3, hbg, h1, h2]
  exact ⟨[], rfl, by rw [hF0]; try rfl⟩
end Go.Proofs.Ythgmfjkbgacfaaa
/- Trace: Check and the document's Check. -/
namespace Go.Proofs.Ythgmfjkbgacfaaa
set_option linter.unusedVariables false
set_option linter.unusedSimpArgs false
open Go Go.Kx Go.Proofs

def toSn (x : It) : Sn := ⟨true, x.st, x.wt, x.bg, x.fr, x.fn⟩
structure Agr (p : Lp) (l : List Ev) (lp : Int) : Prop where
  num : startedF l lp = (p.its.length, p.en)
  look : ∀ i : Int, lookF l lp i = if 0 ≤ i ∧ i < p.its.length then toSn (p.its.getD i.toNat it0) else sn0
theorem lookF_snoc (l : List Ev) (e : Ev) (lp it : Int) : lookF (l ++ [e]) lp it = lookS lp it (lookF l lp it) e := by simp [lookF]
theorem startedF_snoc (l : List Ev) (e : Ev) (lp : Int) : startedF (l ++ [e]) lp = startS lp (startedF l lp) e := by simp [startedF]
theorem agr0 (lp : Int) : Agr lp0 [] lp := ⟨rfl, fun i => by rw [if_neg (by simp only [lp0, List.length_nil]; omega)]; rfl⟩
theorem Agr.other {p : Lp} {l : List Ev} {lp : Int} (h : Agr p l lp) {e : Ev} (hl : e.lp ≠ lp) : Agr p (l ++ [e]) lp := by
  refine ⟨?_, fun i => ?_⟩
  · rw [startedF_snoc, h.num]
    simp [startS, hl]
  · rw [lookF_snoc, h.look]
    unfold lookS
    rw [if_pos (.inl hl)]
theorem Agr.at_ {p : Lp} {l : List Ev} {lp : Int} (h : Agr p l lp) {i : Nat} (hi : i < p.its.length) : lookF l lp i = toSn (p.its.getD i it0) := by
  rw [h.look, if_pos (by omega)]
  rfl
/-- What is wrong with an event. -/
theorem Agr.err {p : Lp} {l : List Ev} {e : Ev} (h : Agr p l e.lp) (hlen : p.its.length ≤ 1000000) (hk : ¬ (e.k < 1 ∨ 6 < e.k)) : (eventT p e).2 = oneF l e := by
  unfold eventT oneF
  rw [if_neg hk, h.num]
  simp only
  by_cases hen : p.en = true
  · rw [if_pos hen, if_pos hen]
  rw [if_neg hen, if_neg hen]
  by_cases k1 : e.k = 1
  · rw [if_pos k1, if_pos k1]
    unfold startT
    by_cases h1 : e.it ≠ (p.its.length : Int) ∨ e.st ≠ 0
    · rw [if_pos h1, if_pos h1]
    rw [if_neg h1, if_neg h1]
    by_cases h0 : 0 < p.its.length
    · have := h.at_ (i := p.its.length - 1) (by omega)
      rw [show (((p.its.length - 1 : Nat)) : Int) = (p.its.length : Int) - 1 by omega] at this
      have hfr : (lookF l e.lp ((p.its.length : Int) - 1)).fr = (p.its.getD (p.its.length - 1) it0).fr := by rw [this]; rfl
      rw [hfr]
      by_cases hb : 0 < p.its.length ∧ (p.its.getD (p.its.length - 1) it0).fr = false
      · rw [if_pos hb, if_pos hb]
      · rw [if_neg hb, if_neg hb]
    · rw [if_neg fun h => h0 h.1, if_neg fun h => h0 h.1]
  rw [if_neg k1, if_neg k1]
  by_cases k5 : e.k = 5
  · rw [if_pos k5, if_pos k5]
    unfold endT
    by_cases h1 : e.it ≠ (p.its.length : Int) ∨ p.its.length = 0 ∨ e.st ≠ 0
    · rw [if_pos h1, if_pos h1]
    rw [if_neg h1, if_neg h1]
    have : ((List.range p.its.length).all fun i => (lookF l e.lp i).fn) = p.its.all (·.fn) := by
      rw [Bool.eq_iff_iff, List.all_eq_true, List.all_eq_true]
      constructor
      · intro ha x hx
        obtain ⟨i, hi⟩ := List.getElem?_of_mem hx
        have := ha i (List.mem_range.2 (lt_at hi))
        rw [h.at_ (lt_at hi)] at this
        rwa [show p.its.getD i it0 = x by rw [List.getD_eq_getElem?_getD, hi]; rfl] at this
      · intro ha i hi
        rw [List.mem_range] at hi
        rw [h.at_ hi]
        obtain ⟨x, hx⟩ := at_lt hi
        rw [show p.its.getD i it0 = x by rw [List.getD_eq_getElem?_getD, hx]; rfl]
        exact ha x (List.mem_of_getElem? hx)
    rw [this]
    split <;> rfl
  rw [if_neg k5, if_neg k5]
  have hlk := h.look e.it
  by_cases hin : 0 ≤ e.it ∧ e.it < p.its.length
  · rw [if_pos hin] at hlk
    rw [if_neg (by omega)]
    generalize hx : p.its.getD e.it.toNat it0 = x at hlk
    have f1 : (lookF l e.lp e.it).on = true := by rw [hlk]; rfl
    have f2 : (lookF l e.lp e.it).fn = x.fn := by rw [hlk]; rfl
    have f3 : (lookF l e.lp e.it).st = x.st := by rw [hlk]; rfl
    have f4 : (lookF l e.lp e.it).bg = x.bg := by rw [hlk]; rfl
    have f5 : (lookF l e.lp e.it).wt = x.wt := by rw [hlk]; rfl
    rw [f1, f2, f3, f4, f5, if_neg (by simp)]
    simp only
    unfold iterT
    by_cases hf : x.fn = true
    · rw [if_pos hf, if_pos hf]
    rw [if_neg hf, if_neg hf]
    by_cases k2 : e.k = 2
    · rw [if_pos k2, if_pos k2]
      unfold beginT
      by_cases h1 : e.st ≠ x.st ∨ x.bg = true
      · rw [if_pos h1, if_pos h1]
      rw [if_neg h1, if_neg h1]
      have hw : IntKind.i64.wrap (e.it - 1) = e.it - 1 := wrap_in _ (by omega) (by omega)
      rw [hw]
      by_cases h0 : 0 < e.it
      · have := h.at_ (i := e.it.toNat - 1) (by omega)
        rw [show (((e.it.toNat - 1 : Nat)) : Int) = e.it - 1 by omega] at this
        have y1 : (lookF l e.lp (e.it - 1)).fn = (p.its.getD (e.it.toNat - 1) it0).fn := by rw [this]; rfl
        have y2 : (lookF l e.lp (e.it - 1)).st = (p.its.getD (e.it.toNat - 1) it0).st := by rw [this]; rfl
        rw [y1, y2]
        unfold pastT
        rw [show (e.it.toNat == 0) = false by simp; omega]
        generalize p.its.getD (e.it.toNat - 1) it0 = y
        cases x.wt <;> cases y.fn <;> by_cases hle : y.st ≤ e.st
        all_goals
          have hle' : ¬ e.st < y.st ∨ e.st < y.st := by omega
          rcases hle' with hle' | hle' <;> first | omega | simp [h0, hle, hle']
      · have ht : e.it.toNat = 0 := by omega
        simp only [pastT, ht]
        rw [if_neg (by simp), if_neg (by simp [h0])]
    rw [if_neg k2, if_neg k2]
    by_cases k4 : e.k = 4
    · rw [if_neg (by simp [k4]), if_pos k4]
      unfold finT
      split <;> rfl
    · rw [if_pos k4, if_neg k4]
      unfold goOnT
      split <;> rfl
  · rw [if_neg hin] at hlk
    rw [if_pos (by omega), hlk]
    rfl
/-- What an event does. -/
theorem Agr.step {p : Lp} {l : List Ev} {e : Ev} (h : Agr p l e.lp) (hk : ¬ (e.k < 1 ∨ 6 < e.k)) (he : (eventT p e).2 = 0) : Agr (eventT p e).1 (l ++ [e]) e.lp := by
  unfold eventT at he ⊢
  by_cases hen : p.en = true
  · rw [if_pos hen] at he; simp at he
  rw [if_neg hen] at he ⊢
  by_cases k1 : e.k = 1
  · rw [if_pos k1] at he ⊢
    unfold startT at he ⊢
    by_cases h1 : e.it ≠ (p.its.length : Int) ∨ e.st ≠ 0
    · rw [if_pos h1] at he; simp at he
    rw [if_neg h1] at he ⊢
    by_cases h2 : 0 < p.its.length ∧ (p.its.getD (p.its.length - 1) it0).fr = false
    · rw [if_pos h2] at he; simp at he
    rw [if_neg h2]
    refine ⟨?_, fun i => ?_⟩
    · rw [startedF_snoc, h.num]
      simp [startS, k1]
    · rw [lookF_snoc, h.look]
      simp only [List.length_append, List.length_singleton]
      have hit : e.it = p.its.length := by omega
      by_cases hi : i = p.its.length
      · subst hi
        rw [if_neg (by omega), if_pos (by omega)]
        simp [lookS, hit, k1, sn0, toSn, it0]
      · have hne : e.lp ≠ e.lp ∨ e.it ≠ i := by omega
        unfold lookS
        rw [if_pos hne]
        by_cases hin : 0 ≤ i ∧ i < p.its.length
        · rw [if_pos hin, if_pos (by omega)]
          simp only [List.getD_eq_getElem?_getD]
          rw [List.getElem?_append_left (by omega)]
        · rw [if_neg hin, if_neg (by omega)]
  rw [if_neg k1] at he ⊢
  by_cases k5 : e.k = 5
  · rw [if_pos k5] at he ⊢
    unfold endT at he ⊢
    by_cases h1 : e.it ≠ (p.its.length : Int) ∨ p.its.length = 0 ∨ e.st ≠ 0
    · rw [if_pos h1] at he; simp at he
    rw [if_neg h1] at he ⊢
    by_cases h2 : p.its.all (·.fn) = true
    · rw [if_pos h2]
      refine ⟨?_, fun i => ?_⟩
      · rw [startedF_snoc, h.num]
        simp [startS, k5]
      · rw [lookF_snoc, h.look]
        have k2 : ¬ e.k = 2 := by omega
        have k36 : ¬ (e.k = 3 ∨ e.k = 6) := by omega
        have k4 : ¬ e.k = 4 := by omega
        unfold lookS
        by_cases hb : e.lp ≠ e.lp ∨ e.it ≠ i
        · rw [if_pos hb]
        · rw [if_neg hb, if_neg k1, if_neg k2, if_neg k36, if_neg k4]
    · rw [if_neg h2] at he; simp at he
  rw [if_neg k5] at he ⊢
  by_cases h4 : e.it < 0 ∨ (p.its.length : Int) ≤ e.it
  · rw [if_pos h4] at he; simp at he
  rw [if_neg h4] at he ⊢
  simp only at he
  refine ⟨?_, fun i => ?_⟩
  · rw [startedF_snoc, h.num]
    simp [startS, k1, k5]
  · rw [lookF_snoc, h.look]
    simp only [List.length_set]
    by_cases hi : i = e.it
    · subst hi
      rw [if_pos (by omega), if_pos (by omega)]
      have hlt : e.it.toNat < p.its.length := by omega
      rw [show (p.its.set e.it.toNat (iterT p.its (p.its.getD e.it.toNat it0) e.it.toNat e).1).getD e.it.toNat it0 = (iterT p.its (p.its.getD e.it.toNat it0) e.it.toNat e).1 by
        rw [List.getD_eq_getElem?_getD, List.getElem?_set, if_pos rfl, if_pos hlt]; rfl]
      generalize p.its.getD e.it.toNat it0 = x at he ⊢
      unfold iterT at he ⊢
      by_cases hf : x.fn = true
      · rw [if_pos hf] at he; simp at he
      rw [if_neg hf] at he ⊢
      have hnn : ¬ (e.lp ≠ e.lp ∨ e.it ≠ e.it) := by simp
      unfold lookS
      rw [if_neg hnn, if_neg k1]
      by_cases k2 : e.k = 2
      · rw [if_pos k2] at he ⊢
        rw [if_pos k2]
        unfold beginT at he ⊢
        split at he
        · simp at he
        · split at he
          · simp at he
          · rename_i a b
            rw [if_neg a, if_neg b]
            rfl
      rw [if_neg k2] at he ⊢
      rw [if_neg k2]
      by_cases k4 : e.k = 4
      · have k4' : ¬ e.k ≠ 4 := by omega
        have k36 : ¬ (e.k = 3 ∨ e.k = 6) := by omega
        rw [if_neg k4'] at he ⊢
        rw [if_neg k36, if_pos k4]
        unfold finT at he ⊢
        split at he
        · simp at he
        · rename_i a
          rw [if_neg a]
          rfl
      · rw [if_pos k4] at he ⊢
        rw [if_pos (by omega)]
        unfold goOnT at he ⊢
        split at he
        · simp at he
        · rename_i a
          rw [if_neg a]
          rfl
    · have hne : e.lp ≠ e.lp ∨ e.it ≠ i := .inr fun h => hi h.symm
      unfold lookS
      rw [if_pos hne]
      by_cases hin : 0 ≤ i ∧ i < p.its.length
      · rw [if_pos hin, if_pos hin]
        simp only [List.getD_eq_getElem?_getD]
        rw [List.getElem?_set_ne (by omega)]
      · rw [if_neg hin, if_neg hin]
end Go.Proofs.Ythgmfjkbgacfaaa
/- Trace: the document's answer: Check, held, Begun, first. -/
namespace Go.Proofs.Ythgmfjkbgacfaaa
set_option linter.unusedVariables false
set_option linter.unusedSimpArgs false
open Go Go.Kx Go.Proofs Go.Proofs.Ythgmfjkbgacfaaa.Gr
open Go.Proofs.Ythgmfjkbgacfaaa (mixed)

theorem Agr.len {p : Lp} {l : List Ev} {lp : Int} (h : Agr p l lp) : p.its.length ≤ l.length := by
  have := startedF_le l lp
  rw [h.num] at this
  exact this
set_option maxHeartbeats 4000000 in
theorem ref34_Check_a (l : List Ev) (hl : l.length ≤ 100000) : FnP Try.prog 17 [aEvs l] fun a => a = .tup [aInt (checkF S0 0 l).1, aInt (checkF S0 0 l).2] := by
  refine fnP_in K_forebayref34_Check Go.Proofs.Ythgmfjkbgacfaaa.mixed rfl (by simp [AV.pureL, aEvs_pure]) ?_
  simp only [S_forebayref34_Check]
  have hEL : aEvs l = .sl l.length (l.flatMap aEv) .none := rfl
  simp (maxSteps := 1000000) (implicitDefEqProofs := false) (disch := omega) only [push_cast, ↓reduceIte, Nat.reduceEqDiff, reduceCtorEq, wz]
  refine wpa_bl (α := Nat) (I := fun k ε σ => (ε 0 = aEvs l ∧ ε 4 = .v (.int .i64 k)) ∧ k ≤ l.length ∧ ∃ S : Int → Lp, (∀ lp, Agr (S lp) (l.take k) lp) ∧ checkF S0 0 l = checkF S k (l.drop k))
    (μ := fun k => l.length - k) (Q := fun ε σ => checkF S0 0 l = (0, 0)) (x := 0) ?_ ?_ ?_
  · simp (maxSteps := 1000000) (implicitDefEqProofs := false) (disch := omega) only [push_cast, ↓reduceIte, Nat.reduceEqDiff, reduceCtorEq, wz]
    exact ⟨by omega, S0, fun lp => agr0 lp, rfl⟩
  · rintro k ε σ N E ⟨hρ, hk, S, hA, hC⟩ hN hE
    simp only [S_forebayref34_Check_L1]
    by_cases hlt : k < l.length
    · obtain ⟨e, he⟩ := at_lt hlt
      have hd := flat_drop aEv_len he
      have hc4 : ∀ t : List AV, cellsA (some 4) (aEv e ++ t) = some (.agg (aEv e)) := fun t => by simp [cellsA, aEv]
      have ht : (l.flatMap aEv).take (k * 4) = (l.take k).flatMap aEv := flat_takeN aEv_len l k
      have htl : AV.sl k ((l.take k).flatMap aEv) .none = aEvs (l.take k) := by unfold aEvs aSlN; rw [List.length_take, show min k l.length = k by omega]
      have hlen : (l.take k).length = k := by rw [List.length_take]; omega
      have h2 : (stepC S e).2 = oneF (l.take k) e := by
        unfold stepC
        by_cases hk : e.k < 1 ∨ 6 < e.k
        · rw [if_pos hk]; unfold oneF; rw [if_pos hk]
        · rw [if_neg hk]
          exact (hA e.lp).err (by have := (hA e.lp).len; omega) hk
      rw [drop_at he, checkF_cons, h2] at hC
      simp (maxSteps := 1000000) (implicitDefEqProofs := false) (disch := omega) only [push_cast, ↓reduceIte, Nat.reduceEqDiff, reduceCtorEq, wz, hρ, hEL, hd, hc4, ht, htl]
      refine wpa_call (ref34_one_a (l.take k) (by omega) e) ?_
      rintro a rfl
      by_cases hz : oneF (l.take k) e = 0
      · rw [if_pos hz] at hC
        rw [hz] at h2
        simp (maxSteps := 1000000) (implicitDefEqProofs := false) (disch := omega) only [push_cast, ↓reduceIte, Nat.reduceEqDiff, reduceCtorEq, wz, hρ, aInt, hz]
        refine hN (k + 1) _ _ ⟨by simp (maxSteps := 1000000) (implicitDefEqProofs := false) (disch := omega) only [push_cast, ↓reduceIte, Nat.reduceEqDiff, reduceCtorEq, wz, hρ], by omega, (stepC S e).1, fun lp => ?_, hC⟩ (by omega)
        rw [take_succ_at he]
        unfold stepC at h2 ⊢
        by_cases hk : e.k < 1 ∨ 6 < e.k
        · rw [if_pos hk] at h2; simp at h2
        · rw [if_neg hk] at h2 ⊢
          by_cases hlp : lp = e.lp
          · subst hlp
            simp only [updS, if_true]
            exact (hA e.lp).step hk h2
          · simp only [updS, hlp, if_false]
            exact (hA lp).other fun h => hlp h.symm
      · rw [if_neg hz] at hC
        simp (maxSteps := 1000000) (implicitDefEqProofs := false) (disch := omega) only [push_cast, ↓reduceIte, Nat.reduceEqDiff, reduceCtorEq, wz, hρ, aInt, hz]
        rw [hC]
        exact ⟨[], rfl, rfl⟩
    · simp (maxSteps := 1000000) (implicitDefEqProofs := false) (disch := omega) only [push_cast, ↓reduceIte, Nat.reduceEqDiff, reduceCtorEq, wz, hρ, hEL]
      obtain rfl : k = l.length := by omega
      rw [List.drop_length] at hC
      exact hE _ _ hC
  · rintro ε σ hC
    simp (maxSteps := 1000000) (implicitDefEqProofs := false) (disch := omega) only [push_cast, ↓reduceIte, Nat.reduceEqDiff, reduceCtorEq, wz]
    rw [hC]
    exact ⟨[], rfl, rfl⟩
theorem ref34_held_a (n : Int) : FnP Try.prog 54 [aInt n] fun a => a = aInt (heldI n) := by
  refine fnP_in K_forebayref34_held Go.Proofs.Ythgmfjkbgacfaaa.mixed rfl (by simp [AV.pureL, aInt_pure]) ?_
  simp only [S_forebayref34_held, aInt]
  simp (maxSteps := 1000000) (implicitDefEqProofs := false) (disch := omega) only [push_cast, ↓reduceIte, Nat.reduceEqDiff, reduceCtorEq, wz]
  exact ⟨[], rfl, rfl⟩
def aI2 (q : Int × Int) : List AV := [.v (.int .i64 q.1), .v (.int .i64 q.2)]
theorem aI2_len (q : Int × Int) : (aI2 q).length = 2 := rfl
theorem aI2_pure (q : Int × Int) : AV.pureL (aI2 q) = true := by simp [aI2, AV.pureL, AV.pure]
theorem aI2_res (σ : St) (q : Int × Int) : AV.resL σ (aI2 q) = aI2 q := by simp [aI2, AV.resL, AV.res]
def aI2s (l : List (Int × Int)) : AV := aSlN aI2 l
theorem aI2s_pure (l : List (Int × Int)) : (aI2s l).pure = true := aSlN_pure aI2_pure l
theorem aI2s_res (σ : St) (l : List (Int × Int)) (t : Tok) : (AV.sl l.length (l.flatMap aI2) t).res σ = aI2s l := aSlN_res (aI2_res σ) l t
theorem begunF_take {l : List Ev} {k : Nat} {e : Ev} (h : l[k]? = some e) (lp : Int) : begunF (l.take (k + 1)) lp = begunF (l.take k) lp ++ if e.lp = lp ∧ e.k = 2 then [(heldI e.it, heldI e.st)] else [] := by
  unfold begunF begunX
  rw [tl_take _ h, List.filter_append, List.map_append]
  congr 1
  unfold ofLp
  by_cases h1 : e.lp = lp <;> by_cases h2 : e.k = 2 <;> simp [h1, h2]
theorem ex_int3 (n : Int) : (AV.v (.int .i64 n)).exact = true := rfl
theorem ex_id2 (n : Nat) (cs : List AV) (i w sz : Nat) : (AV.sl n cs (.id i w sz)).exact = true := rfl
set_option maxHeartbeats 4000000 in
theorem ref34_Begun_a (l : List Ev) (lp : Int) (hl : l.length ≤ 100000) : FnP Try.prog 21 [aEvs l, aInt lp] fun a => a = aI2s (begunF l lp) := by
  refine fnP_in K_forebayref34_Begun Go.Proofs.Ythgmfjkbgacfaaa.mixed rfl (by simp [AV.pureL, aEvs_pure, AV.pure, aInt]) ?_
  simp only [S_forebayref34_Begun, aEvs, aSlN, aInt]
  simp (maxSteps := 1000000) (implicitDefEqProofs := false) (disch := omega) only [push_cast, ↓reduceIte, Nat.reduceEqDiff, reduceCtorEq, wz]
  refine wpa_blgx (GU.tok 5 2 rfl) (α := Nat) (I := fun k ε σ => (ε 0 = .sl l.length (l.flatMap aEv) .none ∧ ε 1 = .v (.int .i64 lp) ∧ ε 6 = .v (.int .i64 k)) ∧ k ≤ l.length ∧ ∃ w, ε 5 = .sl (begunF (l.take k) lp).length ((begunF (l.take k) lp).flatMap aI2) (.id 0 w 2) ∧ σ[0]? = some (.tail w))
    (μ := fun k => l.length - k) (Q := fun ε σ => ∃ w, ε 5 = .sl (begunF l lp).length ((begunF l lp).flatMap aI2) (.id 0 w 2)) (x := 0) ?_ ?_ ?_
  · simp (maxSteps := 1000000) (implicitDefEqProofs := false) (disch := omega) only [push_cast, ↓reduceIte, Nat.reduceEqDiff, reduceCtorEq, wz]
    exact ⟨by omega, 0, rfl, rfl⟩
  · rintro k ε σ N E X R ⟨hρ, hk, w, h5, hs⟩ hN hE
    simp only [S_forebayref34_Begun_L1]
    by_cases hlt : k < l.length
    · obtain ⟨e, he⟩ := at_lt hlt
      have hd := flat_drop aEv_len he
      have hc0 : (l.flatMap aEv)[k * 4]? = some (.v (.int .i64 e.k)) := by
        have : ((l.flatMap aEv).drop (k * 4))[0]? = some (.v (.int .i64 e.k)) := by rw [hd]; rfl
        rwa [List.getElem?_drop, Nat.add_zero] at this
      have hc1 : (l.flatMap aEv)[k * 4 + 1]? = some (.v (.int .i64 e.lp)) := by rw [← List.getElem?_drop, hd]; rfl
      have hc2 : (l.flatMap aEv)[k * 4 + 2]? = some (.v (.int .i64 e.it)) := by rw [← List.getElem?_drop, hd]; rfl
      have hc3 : (l.flatMap aEv)[k * 4 + 3]? = some (.v (.int .i64 e.st)) := by rw [← List.getElem?_drop, hd]; rfl
      have hsu := begunF_take he lp
      have hbl := begunF_len (l.take k) lp
      rw [List.length_take] at hbl
      generalize begunF (l.take k) lp = B at h5 hsu hbl
      by_cases h1 : e.lp = lp
      · by_cases k2 : e.k = 2
        · rw [if_pos ⟨h1, k2⟩] at hsu
          have hb2 : ∀ a b : Int, fillA [AV.v (.int .i64 0), AV.v (.int .i64 0)] [(0, 1), (1, 1)] [AV.v (.int .i64 a), AV.v (.int .i64 b)] = some (aI2 (a, b)) := fun a b => by simp [fillA, AV.cells, Value.cells, setAtA, aI2]
          have hac : (AV.agg (aI2 (heldI e.it, heldI e.st))).cells = aI2 (heldI e.it, heldI e.st) := rfl
          simp (maxSteps := 1000000) (implicitDefEqProofs := false) (disch := omega) only [push_cast, ↓reduceIte, Nat.reduceEqDiff, reduceCtorEq, wz, hρ, hc0, hc1, hc2, hc3, h1, k2]
          refine wpa_call (ref34_held_a e.it) ?_
          rintro a rfl
          simp (maxSteps := 1000000) (implicitDefEqProofs := false) (disch := omega) only [push_cast, ↓reduceIte, Nat.reduceEqDiff, reduceCtorEq, wz]
          refine ⟨aholds_e (by simp (maxSteps := 1000000) (implicitDefEqProofs := false) (disch := omega) only [push_cast, ↓reduceIte, Nat.reduceEqDiff, reduceCtorEq, wz, hc3, ex_int3]), ?_⟩
          refine wpa_call (ref34_held_a e.st) ?_
          rintro a rfl
          simp (maxSteps := 1000000) (implicitDefEqProofs := false) (disch := omega) only [push_cast, ↓reduceIte, Nat.reduceEqDiff, reduceCtorEq, wz, aInt, hb2]
          refine wpa_bsl (sz := 2) (by intro a ha; simp at ha; subst ha; rfl) (by simp) ?_
          simp (maxSteps := 1000000) (implicitDefEqProofs := false) (disch := omega) only [push_cast, ↓reduceIte, Nat.reduceEqDiff, reduceCtorEq, wz, hac, h5]
          have hfl := flat_len aI2_len B
          refine wpa_app (m := 1) rfl rfl rfl rfl hfl (by omega) (by omega) hs ?_
          simp (maxSteps := 1000000) (implicitDefEqProofs := false) (disch := omega) only [push_cast, ↓reduceIte, Nat.reduceEqDiff, reduceCtorEq, wz, hρ]
          refine hN (k + 1) _ _ ⟨by simp (maxSteps := 1000000) (implicitDefEqProofs := false) (disch := omega) only [push_cast, ↓reduceIte, Nat.reduceEqDiff, reduceCtorEq, wz, hρ], by omega, w + 1, ?_, get_set_eq hs⟩ (by omega)
          rw [hsu]
          simp (maxSteps := 1000000) (implicitDefEqProofs := false) (disch := omega) only [push_cast, ↓reduceIte, Nat.reduceEqDiff, reduceCtorEq, wz]
          simp
        · rw [if_neg fun h => k2 h.2, List.append_nil] at hsu
          simp (maxSteps := 1000000) (implicitDefEqProofs := false) (disch := omega) only [push_cast, ↓reduceIte, Nat.reduceEqDiff, reduceCtorEq, wz, hρ, hc0, hc1, h1, k2]
          exact hN (k + 1) _ _ ⟨by simp (maxSteps := 1000000) (implicitDefEqProofs := false) (disch := omega) only [push_cast, ↓reduceIte, Nat.reduceEqDiff, reduceCtorEq, wz, hρ], by omega, w, by rw [hsu]; simp (maxSteps := 1000000) (implicitDefEqProofs := false) (disch := omega) only [push_cast, ↓reduceIte, Nat.reduceEqDiff, reduceCtorEq, wz, h5], hs⟩ (by omega)
      · rw [if_neg fun h => h1 h.1, List.append_nil] at hsu
        simp (maxSteps := 1000000) (implicitDefEqProofs := false) (disch := omega) only [push_cast, ↓reduceIte, Nat.reduceEqDiff, reduceCtorEq, wz, hρ, hc0, hc1, h1]
        exact hN (k + 1) _ _ ⟨by simp (maxSteps := 1000000) (implicitDefEqProofs := false) (disch := omega) only [push_cast, ↓reduceIte, Nat.reduceEqDiff, reduceCtorEq, wz, hρ], by omega, w, by rw [hsu]; simp (maxSteps := 1000000) (implicitDefEqProofs := false) (disch := omega) only [push_cast, ↓reduceIte, Nat.reduceEqDiff, reduceCtorEq, wz, h5], hs⟩ (by omega)
    · simp (maxSteps := 1000000) (implicitDefEqProofs := false) (disch := omega) only [push_cast, ↓reduceIte, Nat.reduceEqDiff, reduceCtorEq, wz, hρ]
      obtain rfl : k = l.length := by omega
      rw [List.take_length] at h5
      exact hE _ _ ⟨w, h5⟩
  · rintro ε σ ⟨w, h5⟩
    simp (maxSteps := 1000000) (implicitDefEqProofs := false) (disch := omega) only [push_cast, ↓reduceIte, Nat.reduceEqDiff, reduceCtorEq, wz, h5]
    exact fin_res [] (aI2s_res _ _ _) (aI2s_pure _)
end Go.Proofs.Ythgmfjkbgacfaaa
/- Trace: the document's rows: each iteration's cells till it starts anew. -/
namespace Go.Proofs.Ythgmfjkbgacfaaa
set_option linter.unusedVariables false
set_option linter.unusedSimpArgs false
open Go Go.Kx Go.Proofs Go.Proofs.Ythgmfjkbgacfaaa.Gr
open Go.Proofs.Ythgmfjkbgacfaaa (mixed)

def rowCells (lp it : Int) : List Ev → List CC
  | [] => []
  | e :: es => if e.lp ≠ lp ∨ e.it ≠ it then rowCells lp it es else if e.k = 1 then [] else if e.k = 3 ∨ e.k = 6 then ⟨e.st, decide (e.k = 3)⟩ :: rowCells lp it es else rowCells lp it es
def rowsRef (lp : Int) : List Ev → List (List CC)
  | [] => []
  | e :: es => if e.lp = lp ∧ e.k = 1 then (⟨0, false⟩ :: rowCells lp e.it es) :: rowsRef lp es else rowsRef lp es
def extF (lp : Int) (es : List Ev) (r : List CC) (w : Option Int) : List CC := r ++ match w with | some it => rowCells lp it es | none => []
theorem rows_run (lp : Int) : ∀ (es : List Ev) (s : RS) (W : List (Option Int)), W.length = s.R.length → (∀ it, 0 ≤ getI s.A it) → (∀ it (j : Nat), getI s.A it = (j : Int) + 1 ↔ W[j]? = some (some it)) →
    ((es.filter (ofLp lp)).foldl stepR s).R = List.zipWith (extF lp es) s.R W ++ rowsRef lp es := by
  intro es
  induction es with
  | nil =>
    intro s W hW _ _
    simp only [List.filter_nil, List.foldl_nil, rowsRef, List.append_nil]
    refine List.ext_getElem? fun j => ?_
    rw [List.getElem?_zipWith]
    by_cases hj : j < s.R.length
    · obtain ⟨r, hr⟩ := at_lt hj
      obtain ⟨w, hw⟩ := at_lt (l := W) (k := j) (by omega)
      rw [hr, hw]
      cases w <;> simp [extF, rowCells]
    · rw [List.getElem?_eq_none (by omega), List.getElem?_eq_none (l := W) (by omega)]
  | cons e es ih =>
    intro s W hW h0 hA
    rw [List.filter_cons]
    by_cases hl : e.lp = lp
    · rw [show ofLp lp e = true by unfold ofLp; simp [hl], if_pos rfl, List.foldl_cons]
      by_cases k1 : e.k = 1
      · have hst : stepR s e = ⟨s.R ++ [[⟨0, false⟩]], putI s.A e.it (s.R.length + 1)⟩ := by unfold stepR; rw [if_pos k1]
        rw [hst]
        rw [ih _ (W.map (fun w => if w = some e.it then none else w) ++ [some e.it]) (by simp [hW]) (fun it => ?_) fun it j => ?_]
        · simp only [rowsRef]
          rw [if_pos ⟨hl, k1⟩, List.zipWith_append (by simp [hW]), List.append_assoc]
          congr 1
          refine List.ext_getElem? fun j => ?_
          rw [List.getElem?_zipWith, List.getElem?_zipWith, List.getElem?_map]
          cases hr : s.R[j]? with
          | none => rfl
          | some r =>
            cases hw : W[j]? with
            | none => rfl
            | some w =>
              simp only [Option.map_some]
              cases w with
              | none => simp [extF]
              | some it =>
                by_cases hi : it = e.it
                · subst hi; simp [extF, rowCells, hl, k1]
                · have hi' : ¬ e.it = it := fun h => hi h.symm
                  simp [extF, rowCells, hi, hi']
        · simp only [getI_putI]
          have := h0 it
          split <;> omega
        · simp only [getI_putI]
          by_cases hi : it = e.it
          · subst hi
            rw [if_pos rfl]
            by_cases hj : j < W.length
            · rw [List.getElem?_append_left (by simpa using hj), List.getElem?_map]
              obtain ⟨w, hw⟩ := at_lt hj
              rw [hw]
              simp only [Option.map_some, Option.some.injEq]
              constructor
              · intro h; omega
              · intro h; split at h
                · cases h
                · rename_i hne; exact absurd h hne
            · rw [List.getElem?_append_right (by simpa using hj)]
              simp only [List.length_map]
              constructor
              · intro h
                rw [show j - W.length = 0 by omega]
                rfl
              · intro h
                have := lt_at h
                simp at this
                omega
          · rw [if_neg hi, hA it j]
            by_cases hj : j < W.length
            · rw [List.getElem?_append_left (by simpa using hj), List.getElem?_map]
              obtain ⟨w, hw⟩ := at_lt hj
              rw [hw]
              simp only [Option.map_some, Option.some.injEq]
              constructor
              · rintro rfl
                rw [if_neg (by simpa using hi)]
              · intro h; split at h
                · cases h
                · exact h
            · rw [List.getElem?_eq_none (by omega), List.getElem?_append_right (by simpa using hj)]
              simp only [List.length_map]
              constructor
              · intro h; cases h
              · intro h
                have hlt := lt_at h
                simp at hlt
                rw [hlt] at h
                simp at h
                exact absurd h.symm hi
      · have hrr : rowsRef lp (e :: es) = rowsRef lp es := by simp only [rowsRef]; rw [if_neg fun h => k1 h.2]
        rw [hrr]
        by_cases k36 : e.k = 3 ∨ e.k = 6
        · by_cases hp : 0 < getI s.A e.it
          · have hst : stepR s e = ⟨s.R.set (getI s.A e.it - 1).toNat (s.R.getD (getI s.A e.it - 1).toNat [] ++ [⟨e.st, decide (e.k = 3)⟩]), s.A⟩ := by unfold stepR; rw [if_neg k1, if_pos k36, if_pos hp]
            rw [hst]
            generalize hm : (getI s.A e.it - 1).toNat = m
            have hWm := (hA e.it m).1 (by omega)
            have hlt := lt_at hWm
            obtain ⟨r, hr⟩ := at_lt (l := s.R) (k := m) (by omega)
            have hgd : s.R.getD m [] = r := by rw [List.getD_eq_getElem?_getD, hr]; rfl
            rw [hgd]
            refine Eq.trans (ih _ W (by simp [hW]) h0 hA) ?_
            congr 1
            refine List.ext_getElem? fun j => ?_
            rw [List.getElem?_zipWith, List.getElem?_zipWith]
            by_cases hj : j = m
            · subst hj
              simp only
              rw [List.getElem?_set_self (lt_at hr), hWm, hr]
              simp [extF, rowCells, hl, k1, k36]
            · simp only
              rw [List.getElem?_set_ne (fun h => hj h.symm)]
              cases hr' : s.R[j]? with
              | none => rfl
              | some r' =>
                cases hw : W[j]? with
                | none => rfl
                | some w =>
                  cases w with
                  | none => simp [extF]
                  | some it =>
                    have hi : ¬ e.it = it := by
                      intro h; subst h
                      have := (hA e.it j).2 hw
                      omega
                    simp [extF, rowCells, hi]
          · have hst : stepR s e = s := by unfold stepR; rw [if_neg k1, if_pos k36, if_neg hp]
            rw [hst, ih s W hW h0 hA]
            congr 1
            refine List.ext_getElem? fun j => ?_
            rw [List.getElem?_zipWith, List.getElem?_zipWith]
            cases hr' : s.R[j]? with
            | none => rfl
            | some r' =>
              cases hw : W[j]? with
              | none => rfl
              | some w =>
                cases w with
                | none => simp [extF]
                | some it =>
                  have hi : ¬ e.it = it := by
                    intro h; subst h
                    have := (hA e.it j).2 hw
                    omega
                  simp [extF, rowCells, hi]
        · have hst : stepR s e = s := by unfold stepR; rw [if_neg k1, if_neg k36]
          rw [hst, ih s W hW h0 hA]
          congr 1
          refine List.ext_getElem? fun j => ?_
          rw [List.getElem?_zipWith, List.getElem?_zipWith]
          cases hr' : s.R[j]? with
          | none => rfl
          | some r' =>
            cases hw : W[j]? with
            | none => rfl
            | some w =>
              cases w with
              | none => simp [extF]
              | some it => simp [extF, rowCells, hl, k1, k36]
    · rw [show ofLp lp e = false by unfold ofLp; simp [hl]]
      have hrr : rowsRef lp (e :: es) = rowsRef lp es := by simp only [rowsRef]; rw [if_neg fun h => hl h.1]
      rw [hrr]
      simp only [Bool.false_eq_true, if_false]
      rw [ih s W hW h0 hA]
      congr 1
      refine List.ext_getElem? fun j => ?_
      rw [List.getElem?_zipWith, List.getElem?_zipWith]
      cases hr' : s.R[j]? with
      | none => rfl
      | some r' =>
        cases hw : W[j]? with
        | none => rfl
        | some w =>
          cases w with
          | none => simp [extF]
          | some it => simp [extF, rowCells, hl]
theorem rowsRef_eq (l : List Ev) (lp : Int) : rowsRef lp l = rowsF l lp := by
  rw [rowsF_eq, rows_run lp l ⟨[], []⟩ [] rfl (fun it => by simp [getI]) fun it j => by simp [getI]; omega]
  rfl

/-- A row that may be appended to. -/
def RowT (σ : Kx.St) (t : Tok) : Prop := t = .full ∨ ∃ x v, t = .id x v 2 ∧ σ[x]? = some (.tail v) ∧ x ≠ 0
set_option maxHeartbeats 8000000 in
theorem ref34_Rows_a (l : List Ev) (lp : Int) (hl : l.length ≤ 100000) : FnP Try.prog 19 [aEvs l, aInt lp] fun a => a = aRows (rowsF l lp) := by
  refine fnP_in K_forebayref34_Rows Go.Proofs.Ythgmfjkbgacfaaa.mixed rfl (by simp [AV.pureL, aEvs_pure, AV.pure, aInt]) ?_
  simp only [S_forebayref34_Rows, aEvs, aSlN, aInt]
  simp (maxSteps := 1000000) (implicitDefEqProofs := false) (disch := omega) only [push_cast, ↓reduceIte, Nat.reduceEqDiff, reduceCtorEq, wz]
  refine wpa_blgx (GU.tok 5 1 rfl) (α := Nat) (I := fun i ε σ => (ε 0 = .sl l.length (l.flatMap aEv) .none ∧ ε 1 = .v (.int .i64 lp) ∧ ε 6 = .v (.int .i64 i)) ∧ i ≤ l.length ∧ ∃ (R : List (List CC)) (w : Nat), ε 5 = .sl R.length (R.map aRow) (.id 0 w 1) ∧ σ[0]? = some (.tail w) ∧ R.length ≤ i ∧ R ++ rowsRef lp (l.drop i) = rowsF l lp)
    (μ := fun i => l.length - i) (Q := fun ε σ => ∃ w, ε 5 = .sl (rowsF l lp).length ((rowsF l lp).map aRow) (.id 0 w 1)) (x := 0) ?_ ?_ ?_
  · simp (maxSteps := 1000000) (implicitDefEqProofs := false) (disch := omega) only [push_cast, ↓reduceIte, Nat.reduceEqDiff, reduceCtorEq, wz]
    exact ⟨by omega, [], 0, rfl, rfl, by simp, by rw [List.nil_append, rowsRef_eq]⟩
  · rintro i ε σ N E X X2 ⟨hρ, hi, R, w, h5, hs, hR, hrr⟩ hN hE
    simp only [S_forebayref34_Rows_L1]
    by_cases hlt : i < l.length
    · obtain ⟨e, he⟩ := at_lt hlt
      have hd := flat_drop aEv_len he
      have hc0 : (l.flatMap aEv)[i * 4]? = some (.v (.int .i64 e.k)) := by
        have : ((l.flatMap aEv).drop (i * 4))[0]? = some (.v (.int .i64 e.k)) := by rw [hd]; rfl
        rwa [List.getElem?_drop, Nat.add_zero] at this
      have hc1 : (l.flatMap aEv)[i * 4 + 1]? = some (.v (.int .i64 e.lp)) := by rw [← List.getElem?_drop, hd]; rfl
      have hc2 : (l.flatMap aEv)[i * 4 + 2]? = some (.v (.int .i64 e.it)) := by rw [← List.getElem?_drop, hd]; rfl
      rw [drop_at he] at hrr
      simp only [rowsRef] at hrr
      by_cases h1 : e.lp = lp
      · by_cases k1 : e.k = 1
        · rw [if_pos ⟨h1, k1⟩] at hrr
          have hb2 : fillA [AV.v (.int .i64 0), AV.v (.bool false)] [] [] = some (aCC ⟨0, false⟩) := by simp [fillA, aCC]
          have hac : (AV.agg (aCC ⟨0, false⟩)).cells = aCC ⟨0, false⟩ := rfl
          simp (maxSteps := 1000000) (implicitDefEqProofs := false) (disch := omega) only [push_cast, ↓reduceIte, Nat.reduceEqDiff, reduceCtorEq, wz, hρ, hc0, hc1, h1, k1, hb2]
          refine wpa_bsl (sz := 2) (by intro a ha; simp at ha; subst ha; rfl) (by simp) ?_
          simp (maxSteps := 1000000) (implicitDefEqProofs := false) (disch := omega) only [push_cast, ↓reduceIte, Nat.reduceEqDiff, reduceCtorEq, wz, hρ, hac]
          refine wpa_blx (α := Nat) (I := fun k ε σ => (ε 0 = .sl l.length (l.flatMap aEv) .none ∧ ε 1 = .v (.int .i64 lp) ∧ ε 5 = .sl R.length (R.map aRow) (.id 0 w 1) ∧ ε 6 = .v (.int .i64 i) ∧ ε 8 = .v (.int .i64 k)) ∧ i < k ∧ k ≤ l.length ∧ σ[0]? = some (.tail w) ∧
              ∃ (r : List CC) (t : Tok), ε 7 = .sl r.length (r.flatMap aCC) t ∧ RowT σ t ∧ r.length ≤ k ∧ r ++ rowCells lp e.it (l.drop k) = ⟨0, false⟩ :: rowCells lp e.it (l.drop (i + 1)))
            (μ := fun k => l.length - k) (Q := fun ε σ => (ε 0 = .sl l.length (l.flatMap aEv) .none ∧ ε 1 = .v (.int .i64 lp) ∧ ε 5 = .sl R.length (R.map aRow) (.id 0 w 1) ∧ ε 6 = .v (.int .i64 i)) ∧ σ[0]? = some (.tail w) ∧
              ∃ (r : List CC) (t : Tok), ε 7 = .sl r.length (r.flatMap aCC) t ∧ r = ⟨0, false⟩ :: rowCells lp e.it (l.drop (i + 1))) (x := i + 1) ?_ ?_ ?_
          · simp (maxSteps := 1000000) (implicitDefEqProofs := false) (disch := omega) only [push_cast, ↓reduceIte, Nat.reduceEqDiff, reduceCtorEq, wz, hρ, h5]
            exact ⟨by omega, by omega, hs, [⟨0, false⟩], .full, rfl, .inl rfl, by simp, rfl⟩
          · rintro k ε σ N E X X2 ⟨hρ, hik, hk, hs, r, t, h7, ht, hr, hrc⟩ hN hE
            simp only [S_forebayref34_Rows_L2]
            by_cases hkl : k < l.length
            · obtain ⟨f, hf⟩ := at_lt hkl
              have hd := flat_drop aEv_len hf
              have gc0 : (l.flatMap aEv)[k * 4]? = some (.v (.int .i64 f.k)) := by
                have : ((l.flatMap aEv).drop (k * 4))[0]? = some (.v (.int .i64 f.k)) := by rw [hd]; rfl
                rwa [List.getElem?_drop, Nat.add_zero] at this
              have gc1 : (l.flatMap aEv)[k * 4 + 1]? = some (.v (.int .i64 f.lp)) := by rw [← List.getElem?_drop, hd]; rfl
              have gc2 : (l.flatMap aEv)[k * 4 + 2]? = some (.v (.int .i64 f.it)) := by rw [← List.getElem?_drop, hd]; rfl
              have gc3 : (l.flatMap aEv)[k * 4 + 3]? = some (.v (.int .i64 f.st)) := by rw [← List.getElem?_drop, hd]; rfl
              rw [drop_at hf] at hrc
              simp only [rowCells] at hrc
              by_cases g1 : f.lp = lp
              · by_cases g2 : f.it = e.it
                · rw [if_neg (by simp [g1, g2])] at hrc
                  by_cases m1 : f.k = 1
                  · rw [if_pos m1, List.append_nil] at hrc
                    simp (maxSteps := 1000000) (implicitDefEqProofs := false) (disch := omega) only [push_cast, ↓reduceIte, Nat.reduceEqDiff, reduceCtorEq, wz, hρ, gc0, gc1, gc2, hc2, g1, g2, m1]
                    exact hE _ _ ⟨by simp (maxSteps := 1000000) (implicitDefEqProofs := false) (disch := omega) only [push_cast, ↓reduceIte, Nat.reduceEqDiff, reduceCtorEq, wz, hρ], hs, r, t, by simp (maxSteps := 1000000) (implicitDefEqProofs := false) (disch := omega) only [push_cast, ↓reduceIte, Nat.reduceEqDiff, reduceCtorEq, wz, h7], hrc⟩
                  · rw [if_neg m1] at hrc
                    by_cases m36 : f.k = 3 ∨ f.k = 6
                    · rw [if_pos m36] at hrc
                      have hb3 : ∀ b : Bool, fillA [AV.v (.int .i64 0), AV.v (.bool false)] [(0, 1), (1, 1)] [AV.v (.int .i64 f.st), AV.v (.bool b)] = some (aCC ⟨f.st, b⟩) := fun b => by simp [fillA, AV.cells, Value.cells, setAtA, aCC]
                      have hac3 : ∀ b : Bool, (AV.agg (aCC ⟨f.st, b⟩)).cells = aCC ⟨f.st, b⟩ := fun b => rfl
                      have hfl := flat_len aCC_len r
                      have key : ∀ (b : Bool), b = decide (f.k = 3) → ∀ (ε' : AEnv) (σ' : Kx.St) (t' : Tok), (ε' 0 = .sl l.length (l.flatMap aEv) .none ∧ ε' 1 = .v (.int .i64 lp) ∧ ε' 5 = .sl R.length (R.map aRow) (.id 0 w 1) ∧ ε' 6 = .v (.int .i64 i) ∧ ε' 8 = .v (.int .i64 (k + 1 : Nat))) → σ'[0]? = some (.tail w) →
                          ε' 7 = .sl (r.length + 1) (r.flatMap aCC ++ aCC ⟨f.st, b⟩) t' → RowT σ' t' → act (N ε' σ') := by
                        intro b hb ε' σ' t' h1 h2 h3 h4
                        refine hN (k + 1) ε' σ' ⟨h1, by omega, by omega, h2, r ++ [⟨f.st, b⟩], t', by rw [h3]; simp, h4, by simp; omega, ?_⟩ (by omega)
                        rw [← hrc, hb, List.append_assoc]
                        rfl
                      by_cases m3 : f.k = 3
                      · simp (maxSteps := 1000000) (implicitDefEqProofs := false) (disch := omega) only [push_cast, ↓reduceIte, Nat.reduceEqDiff, reduceCtorEq, wz, hρ, gc0, gc1, gc2, gc3, hc2, g1, g2, m1, m3, hb3]
                        refine wpa_bsl (sz := 2) (by intro a ha; simp at ha; subst ha; rfl) (by simp) ?_
                        simp (maxSteps := 1000000) (implicitDefEqProofs := false) (disch := omega) only [push_cast, ↓reduceIte, Nat.reduceEqDiff, reduceCtorEq, wz, hac3, h7]
                        rcases ht with rfl | ⟨x, v, rfl, hx, hx0⟩
                        · refine wpa_app_full (m := 1) rfl rfl rfl rfl hfl (by omega) (by omega) ?_
                          simp (maxSteps := 1000000) (implicitDefEqProofs := false) (disch := omega) only [push_cast, ↓reduceIte, Nat.reduceEqDiff, reduceCtorEq, wz, hρ]
                          exact key true (by simp [m3]) _ _ _ (by simp (maxSteps := 1000000) (implicitDefEqProofs := false) (disch := omega) only [push_cast, ↓reduceIte, Nat.reduceEqDiff, reduceCtorEq, wz, hρ]) (get_app hs) (by simp (maxSteps := 1000000) (implicitDefEqProofs := false) (disch := omega) only [push_cast, ↓reduceIte, Nat.reduceEqDiff, reduceCtorEq, wz, List.append_nil]) (.inr ⟨_, _, rfl, at_snoc _ _, by have := lt_at hs; omega⟩)
                        · refine wpa_app (m := 1) rfl rfl rfl rfl hfl (by omega) (by omega) hx ?_
                          simp (maxSteps := 1000000) (implicitDefEqProofs := false) (disch := omega) only [push_cast, ↓reduceIte, Nat.reduceEqDiff, reduceCtorEq, wz, hρ]
                          exact key true (by simp [m3]) _ _ _ (by simp (maxSteps := 1000000) (implicitDefEqProofs := false) (disch := omega) only [push_cast, ↓reduceIte, Nat.reduceEqDiff, reduceCtorEq, wz, hρ]) (get_set_ne hx0 hs) (by simp (maxSteps := 1000000) (implicitDefEqProofs := false) (disch := omega) only [push_cast, ↓reduceIte, Nat.reduceEqDiff, reduceCtorEq, wz, List.append_nil]) (.inr ⟨_, _, rfl, get_set_eq hx, hx0⟩)
                      · have m6 : f.k = 6 := by omega
                        simp (maxSteps := 1000000) (implicitDefEqProofs := false) (disch := omega) only [push_cast, ↓reduceIte, Nat.reduceEqDiff, reduceCtorEq, wz, hρ, gc0, gc1, gc2, gc3, hc2, g1, g2, m1, m3, m6, hb3]
                        refine wpa_bsl (sz := 2) (by intro a ha; simp at ha; subst ha; rfl) (by simp) ?_
                        simp (maxSteps := 1000000) (implicitDefEqProofs := false) (disch := omega) only [push_cast, ↓reduceIte, Nat.reduceEqDiff, reduceCtorEq, wz, hac3, h7]
                        rcases ht with rfl | ⟨x, v, rfl, hx, hx0⟩
                        · refine wpa_app_full (m := 1) rfl rfl rfl rfl hfl (by omega) (by omega) ?_
                          simp (maxSteps := 1000000) (implicitDefEqProofs := false) (disch := omega) only [push_cast, ↓reduceIte, Nat.reduceEqDiff, reduceCtorEq, wz, hρ]
                          exact key false (by simp [m3]) _ _ _ (by simp (maxSteps := 1000000) (implicitDefEqProofs := false) (disch := omega) only [push_cast, ↓reduceIte, Nat.reduceEqDiff, reduceCtorEq, wz, hρ]) (get_app hs) (by simp (maxSteps := 1000000) (implicitDefEqProofs := false) (disch := omega) only [push_cast, ↓reduceIte, Nat.reduceEqDiff, reduceCtorEq, wz, List.append_nil]) (.inr ⟨_, _, rfl, at_snoc _ _, by have := lt_at hs; omega⟩)
                        · refine wpa_app (m := 1) rfl rfl rfl rfl hfl (by omega) (by omega) hx ?_
                          simp (maxSteps := 1000000) (implicitDefEqProofs := false) (disch := omega) only [push_cast, ↓reduceIte, Nat.reduceEqDiff, reduceCtorEq, wz, hρ]
                          exact key false (by simp [m3]) _ _ _ (by simp (maxSteps := 1000000) (implicitDefEqProofs := false) (disch := omega) only [push_cast, ↓reduceIte, Nat.reduceEqDiff, reduceCtorEq, wz, hρ]) (get_set_ne hx0 hs) (by simp (maxSteps := 1000000) (implicitDefEqProofs := false) (disch := omega) only [push_cast, ↓reduceIte, Nat.reduceEqDiff, reduceCtorEq, wz, List.append_nil]) (.inr ⟨_, _, rfl, get_set_eq hx, hx0⟩)
                    · rw [if_neg m36] at hrc
                      have m3 : ¬ f.k = 3 := fun h => m36 (.inl h)
                      have m6 : ¬ f.k = 6 := fun h => m36 (.inr h)
                      simp (maxSteps := 1000000) (implicitDefEqProofs := false) (disch := omega) only [push_cast, ↓reduceIte, Nat.reduceEqDiff, reduceCtorEq, wz, hρ, gc0, gc1, gc2, hc2, g1, g2, m1, m3, m6]
                      exact hN (k + 1) _ _ ⟨by simp (maxSteps := 1000000) (implicitDefEqProofs := false) (disch := omega) only [push_cast, ↓reduceIte, Nat.reduceEqDiff, reduceCtorEq, wz, hρ], by omega, by omega, hs, r, t, by simp (maxSteps := 1000000) (implicitDefEqProofs := false) (disch := omega) only [push_cast, ↓reduceIte, Nat.reduceEqDiff, reduceCtorEq, wz, h7], ht, by omega, hrc⟩ (by omega)
                · rw [if_pos (.inr g2)] at hrc
                  simp (maxSteps := 1000000) (implicitDefEqProofs := false) (disch := omega) only [push_cast, ↓reduceIte, Nat.reduceEqDiff, reduceCtorEq, wz, hρ, gc0, gc1, gc2, hc2, g1, g2]
                  exact hN (k + 1) _ _ ⟨by simp (maxSteps := 1000000) (implicitDefEqProofs := false) (disch := omega) only [push_cast, ↓reduceIte, Nat.reduceEqDiff, reduceCtorEq, wz, hρ], by omega, by omega, hs, r, t, by simp (maxSteps := 1000000) (implicitDefEqProofs := false) (disch := omega) only [push_cast, ↓reduceIte, Nat.reduceEqDiff, reduceCtorEq, wz, h7], ht, by omega, hrc⟩ (by omega)
              · rw [if_pos (.inl g1)] at hrc
                simp (maxSteps := 1000000) (implicitDefEqProofs := false) (disch := omega) only [push_cast, ↓reduceIte, Nat.reduceEqDiff, reduceCtorEq, wz, hρ, gc0, gc1, gc2, hc2, g1]
                exact hN (k + 1) _ _ ⟨by simp (maxSteps := 1000000) (implicitDefEqProofs := false) (disch := omega) only [push_cast, ↓reduceIte, Nat.reduceEqDiff, reduceCtorEq, wz, hρ], by omega, by omega, hs, r, t, by simp (maxSteps := 1000000) (implicitDefEqProofs := false) (disch := omega) only [push_cast, ↓reduceIte, Nat.reduceEqDiff, reduceCtorEq, wz, h7], ht, by omega, hrc⟩ (by omega)
            · simp (maxSteps := 1000000) (implicitDefEqProofs := false) (disch := omega) only [push_cast, ↓reduceIte, Nat.reduceEqDiff, reduceCtorEq, wz, hρ]
              obtain rfl : k = l.length := by omega
              rw [List.drop_length] at hrc
              exact hE _ _ ⟨by simp (maxSteps := 1000000) (implicitDefEqProofs := false) (disch := omega) only [push_cast, ↓reduceIte, Nat.reduceEqDiff, reduceCtorEq, wz, hρ], hs, r, t, by simp (maxSteps := 1000000) (implicitDefEqProofs := false) (disch := omega) only [push_cast, ↓reduceIte, Nat.reduceEqDiff, reduceCtorEq, wz, h7], by rw [← hrc]; simp [rowCells]⟩
          · rintro ε σ ⟨hρ, hs, r, t, h7, hr⟩
            have hres : (AV.sl r.length (r.flatMap aCC) t).res σ = aRow r := aSlN_res (aCC_res σ) r t
            have hwk : weak (Go.Kx.freeze [] σ) [true] [AV.sl r.length (r.flatMap aCC) t] = [aRow r] := congrArg (fun x => [x]) hres
            simp (maxSteps := 1000000) (implicitDefEqProofs := false) (disch := omega) only [push_cast, ↓reduceIte, Nat.reduceEqDiff, reduceCtorEq, wz, hρ, h7]
            refine wpa_frz [] [true] ?_
            rw [hwk]
            refine wpa_bsl (sz := 1) (by intro a ha; simp at ha; subst ha; rfl) (by simp) ?_
            simp (maxSteps := 1000000) (implicitDefEqProofs := false) (disch := omega) only [push_cast, ↓reduceIte, Nat.reduceEqDiff, reduceCtorEq, wz, hρ]
            refine wpa_app (m := 1) rfl rfl rfl rfl (by simp) (by omega) (by omega) hs ?_
            simp (maxSteps := 1000000) (implicitDefEqProofs := false) (disch := omega) only [push_cast, ↓reduceIte, Nat.reduceEqDiff, reduceCtorEq, wz, hρ]
            rw [hr] at *
            refine hN (i + 1) _ _ ⟨by simp (maxSteps := 1000000) (implicitDefEqProofs := false) (disch := omega) only [push_cast, ↓reduceIte, Nat.reduceEqDiff, reduceCtorEq, wz, hρ], by omega, R ++ [⟨0, false⟩ :: rowCells lp e.it (l.drop (i + 1))], w + 1, ?_, get_set_eq hs, by simp; omega, ?_⟩ (by omega)
            · simp (maxSteps := 1000000) (implicitDefEqProofs := false) (disch := omega) only [push_cast, ↓reduceIte, Nat.reduceEqDiff, reduceCtorEq, wz]
              simp [AV.cells, aRow, aSlN]
            · rw [← hrr]; simp
        · rw [if_neg fun h => k1 h.2] at hrr
          simp (maxSteps := 1000000) (implicitDefEqProofs := false) (disch := omega) only [push_cast, ↓reduceIte, Nat.reduceEqDiff, reduceCtorEq, wz, hρ, hc0, hc1, h1, k1]
          exact hN (i + 1) _ _ ⟨by simp (maxSteps := 1000000) (implicitDefEqProofs := false) (disch := omega) only [push_cast, ↓reduceIte, Nat.reduceEqDiff, reduceCtorEq, wz, hρ], by omega, R, w, by simp (maxSteps := 1000000) (implicitDefEqProofs := false) (disch := omega) only [push_cast, ↓reduceIte, Nat.reduceEqDiff, reduceCtorEq, wz, h5], hs, by omega, hrr⟩ (by omega)
      · rw [if_neg fun h => h1 h.1] at hrr
        simp (maxSteps := 1000000) (implicitDefEqProofs := false) (disch := omega) only [push_cast, ↓reduceIte, Nat.reduceEqDiff, reduceCtorEq, wz, hρ, hc0, hc1, h1]
        exact hN (i + 1) _ _ ⟨by simp (maxSteps := 1000000) (implicitDefEqProofs := false) (disch := omega) only [push_cast, ↓reduceIte, Nat.reduceEqDiff, reduceCtorEq, wz, hρ], by omega, R, w, by simp (maxSteps := 1000000) (implicitDefEqProofs := false) (disch := omega) only [push_cast, ↓reduceIte, Nat.reduceEqDiff, reduceCtorEq, wz, h5], hs, by omega, hrr⟩ (by omega)
    · simp (maxSteps := 1000000) (implicitDefEqProofs := false) (disch := omega) only [push_cast, ↓reduceIte, Nat.reduceEqDiff, reduceCtorEq, wz, hρ]
      obtain rfl : i = l.length := by omega
      rw [List.drop_length] at hrr
      simp only [rowsRef, List.append_nil] at hrr
      subst hrr
      exact hE _ _ ⟨w, h5⟩
  · rintro ε σ ⟨w, h5⟩
    simp (maxSteps := 1000000) (implicitDefEqProofs := false) (disch := omega) only [push_cast, ↓reduceIte, Nat.reduceEqDiff, reduceCtorEq, wz, h5]
    exact fin_res [] (aRows_res _ _ _) (aRows_pure _)
end Go.Proofs.Ythgmfjkbgacfaaa
/- Trace: the document's first and Follows; TraceChecks: the walk. -/
namespace Go.Proofs.Ythgmfjkbgacfaaa
set_option linter.unusedVariables false
set_option linter.unusedSimpArgs false
open Go Go.Kx Go.Proofs Go.Proofs.Ythgmfjkbgacfaaa.Gr
open Go.Proofs.Ythgmfjkbgacfaaa (mixed)

theorem eqs2 (n : Bool) (p q : Int × Int) : PF.av (.eqs n [.int .i64, .int .i64]) [.agg (aI2 p), .agg (aI2 q)] = some (.v (.bool (n != decide (p = q)))) := by
  show ((PF.val (.eqs n [.int .i64, .int .i64]) [.agg [.int .i64 p.1, .int .i64 p.2].toArray, .agg [.int .i64 q.1, .int .i64 q.2].toArray]).map AV.v) = _
  have h : (decide (p = q)) = (decide (p.1 = q.1) && decide (p.2 = q.2)) := by rw [Bool.eq_iff_iff]; simp [Prod.ext_iff]
  rw [h]
  have k1 : (p.1 == q.1) = decide (p.1 = q.1) := by rw [Bool.eq_iff_iff]; simp
  have k2 : (p.2 == q.2) = decide (p.2 = q.2) := by rw [Bool.eq_iff_iff]; simp
  by_cases h1 : p.1 = q.1 <;> by_cases h2 : p.2 = q.2 <;> cases n <;> simp [PF.val, eqCs, eqC, k1, k2, h1, h2]
theorem cellsI2 (p : Int × Int) (m : List AV) : cellsA (some 2) (aI2 p ++ m) = some (.agg (aI2 p)) := by rw [cellsA_n _ _ (by simp [aI2_len])]; rfl
theorem cellsI2' (p : Int × Int) : cellsA (some 2) (aI2 p) = some (.agg (aI2 p)) := rfl
set_option maxHeartbeats 4000000 in
theorem ref34_first_a (b : List (Int × Int)) (q : Int × Int) (hb : b.length ≤ 100000) : FnP Try.prog 57 [aI2s b, .agg (aI2 q)] fun a => a = aInt (getE (whenF b) q - 1) := by
  refine fnP_in K_forebayref34_first Go.Proofs.Ythgmfjkbgacfaaa.mixed rfl (by simp [AV.pureL, aI2s_pure, AV.pure, aI2_pure]) ?_
  simp only [S_forebayref34_first, aI2s, aSlN, aInt]
  have hac : (AV.agg (aI2 q)).cells = aI2 q := rfl
  simp (maxSteps := 1000000) (implicitDefEqProofs := false) (disch := omega) only [push_cast, ↓reduceIte, Nat.reduceEqDiff, reduceCtorEq, wz]
  refine wpa_box ?_
  simp (maxSteps := 1000000) (implicitDefEqProofs := false) (disch := omega) only [push_cast, ↓reduceIte, Nat.reduceEqDiff, reduceCtorEq, wz, hac]
  refine wpa_bl (α := Nat) (I := fun k ε σ => (ε 0 = .sl b.length (b.flatMap aI2) .none ∧ ε 3 = .ref 0 0 0 ∧ ε 5 = .v (.int .i64 k)) ∧ k ≤ b.length ∧ σ[0]? = some (.obj 0 (aI2 q)) ∧ ∀ j, j < k → b[j]? ≠ some q)
    (μ := fun k => b.length - k) (Q := fun ε σ => ∀ j, j < b.length → b[j]? ≠ some q) (x := 0) ?_ ?_ ?_
  · simp (maxSteps := 1000000) (implicitDefEqProofs := false) (disch := omega) only [push_cast, ↓reduceIte, Nat.reduceEqDiff, reduceCtorEq, wz]
    exact ⟨by omega, fun j hj => absurd hj (by omega)⟩
  · rintro k ε σ N E ⟨hρ, hk, hs, hno⟩ hN hE
    simp only [S_forebayref34_first_L1]
    by_cases hlt : k < b.length
    · obtain ⟨p, hp⟩ := at_lt hlt
      have hd := flat_drop aI2_len hp
      have hq := eqs2 false p q
      by_cases he : p = q
      · subst he
        rw [show (false != decide (p = p)) = true by simp] at hq
        simp (maxSteps := 1000000) (implicitDefEqProofs := false) (disch := omega) only [push_cast, ↓reduceIte, Nat.reduceEqDiff, reduceCtorEq, wz, hρ, hd, cellsI2, cellsI2', hs, hq]
        refine ⟨[], rfl, ?_⟩
        rcases whenF_spec b p b.length (Nat.le_refl _) with ⟨h1, h2⟩ | ⟨m, h1, h2, h3, h4⟩
        · rw [List.take_length] at h2
          exact absurd (List.mem_of_getElem? hp) h2
        · rw [List.take_length] at h2
          have : m = k := by
            rcases Nat.lt_trichotomy m k with h | h | h
            · exact absurd h3 (hno m h)
            · exact h
            · exact absurd hp (h4 k h)
          subst this
          rw [h2]
          rw [show ((m : Int) + 1 - 1) = m by omega]
      · have hne : (false != decide (p = q)) = false := by simp [he]
        simp (maxSteps := 1000000) (implicitDefEqProofs := false) (disch := omega) only [push_cast, ↓reduceIte, Nat.reduceEqDiff, reduceCtorEq, wz, hρ, hd, cellsI2, cellsI2', hs, hq, hne]
        refine hN (k + 1) _ _ ⟨by simp (maxSteps := 1000000) (implicitDefEqProofs := false) (disch := omega) only [push_cast, ↓reduceIte, Nat.reduceEqDiff, reduceCtorEq, wz, hρ], by omega, hs, fun j hj => ?_⟩ (by omega)
        by_cases hjk : j = k
        · subst hjk; rw [hp]; simpa using he
        · exact hno j (by omega)
    · simp (maxSteps := 1000000) (implicitDefEqProofs := false) (disch := omega) only [push_cast, ↓reduceIte, Nat.reduceEqDiff, reduceCtorEq, wz, hρ]
      exact hE _ _ fun j hj => hno j (by omega)
  · rintro ε σ hno
    simp (maxSteps := 1000000) (implicitDefEqProofs := false) (disch := omega) only [push_cast, ↓reduceIte, Nat.reduceEqDiff, reduceCtorEq, wz]
    refine ⟨[], rfl, ?_⟩
    rcases whenF_spec b q b.length (Nat.le_refl _) with ⟨h1, h2⟩ | ⟨m, h1, h2, h3, h4⟩
    · rw [List.take_length] at h1
      rw [h1]; rfl
    · exact absurd h3 (hno m h1)
theorem gchk_len {l : List (List CC)} (h : gchk l = 0) : True := trivial
set_option maxHeartbeats 4000000 in
theorem ref34_Follows_a (l : List Ev) (lp : Int) (hl : l.length ≤ 100000) : FnP Try.prog 23 [aEvs l, aInt lp] fun a => a = aBool (followsF l lp) := by
  refine fnP_in K_forebayref34_Follows Go.Proofs.Ythgmfjkbgacfaaa.mixed rfl (by simp [AV.pureL, aEvs_pure, AV.pure, aInt]) ?_
  simp only [S_forebayref34_Follows]
  obtain ⟨hR1, hR2⟩ := rowsF_ok l lp
  simp (maxSteps := 1000000) (implicitDefEqProofs := false) (disch := omega) only [push_cast, ↓reduceIte, Nat.reduceEqDiff, reduceCtorEq, wz]
  refine wpa_call (ref34_Rows_a l lp hl) ?_
  rintro a rfl
  simp (maxSteps := 1000000) (implicitDefEqProofs := false) (disch := omega) only [push_cast, ↓reduceIte, Nat.reduceEqDiff, reduceCtorEq, wz]
  refine wpa_call (ref33_Check_a _ (by omega) fun r hr => by have := hR2 r hr; omega) ?_
  rintro a rfl
  by_cases h0 : gchk (rowsF l lp) = 0
  · have hF : followsF l lp = (edgeL (rowsF l lp)).all fun e => !badE (whenF (begunF l lp)) e := by unfold followsF; rw [h0]; simp
    obtain ⟨hok, hlen⟩ := edgeL_ok h0
    rw [hF]
    simp (maxSteps := 1000000) (implicitDefEqProofs := false) (disch := omega) only [push_cast, ↓reduceIte, Nat.reduceEqDiff, reduceCtorEq, wz, aInt, h0]
    refine wpa_call (ref33_Edges_a _ h0) ?_
    rintro a rfl
    simp (maxSteps := 1000000) (implicitDefEqProofs := false) (disch := omega) only [push_cast, ↓reduceIte, Nat.reduceEqDiff, reduceCtorEq, wz]
    refine wpa_call (ref34_Begun_a l lp hl) ?_
    rintro a rfl
    have hbok := begunF_ok l lp
    have hbl := begunF_len l lp
    generalize edgeL (rowsF l lp) = es at hok hlen
    obtain ⟨hM, hM0⟩ := whenF_ok hbok (begunF l lp).length (Nat.le_refl _)
    rw [List.take_length] at hM hM0
    generalize begunF l lp = b at hbok hbl hM hM0
    simp (maxSteps := 1000000) (implicitDefEqProofs := false) (disch := omega) only [push_cast, ↓reduceIte, Nat.reduceEqDiff, reduceCtorEq, wz, aE4s, aSlN]
    refine wpa_bl (α := Nat) (I := fun n ε σ => (ε 6 = .sl es.length (es.flatMap aE4) .none ∧ ε 7 = aI2s b ∧ ε 8 = .v (.int .i64 n)) ∧ n ≤ es.length ∧ ((es.take n).all fun e => !badE (whenF b) e) = true)
      (μ := fun n => es.length - n) (Q := fun ε σ => (es.all fun e => !badE (whenF b) e) = true) (x := 0) ?_ ?_ ?_
    · simp (maxSteps := 1000000) (implicitDefEqProofs := false) (disch := omega) only [push_cast, ↓reduceIte, Nat.reduceEqDiff, reduceCtorEq, wz]
      exact ⟨Nat.zero_le _, rfl⟩
    · rintro n ε σ N E ⟨hρ, hn, hall⟩ hN hE'
      simp only [S_forebayref34_Follows_L1]
      by_cases hlt : n < es.length
      · obtain ⟨e, he⟩ := at_lt hlt
        have hd := flat_drop aE4_len he
        have hc0 : (es.flatMap aE4)[n * 4]? = some (.v (.int .i64 e.1.1)) := by
          have : ((es.flatMap aE4).drop (n * 4))[0]? = some (.v (.int .i64 e.1.1)) := by rw [hd]; rfl
          rwa [List.getElem?_drop, Nat.add_zero] at this
        have hc1 : (es.flatMap aE4)[n * 4 + 1]? = some (.v (.int .i64 e.1.2)) := by rw [← List.getElem?_drop, hd]; rfl
        have hc2 : (es.flatMap aE4)[n * 4 + 2]? = some (.v (.int .i64 e.2.1)) := by rw [← List.getElem?_drop, hd]; rfl
        have hc3 : (es.flatMap aE4)[n * 4 + 3]? = some (.v (.int .i64 e.2.2)) := by rw [← List.getElem?_drop, hd]; rfl
        have hd0 : (es.flatMap aE4)[n * 4 + Int.toNat 0]? = some (.v (.int .i64 e.1.1)) := hc0
        have hd1 : (es.flatMap aE4)[n * 4 + Int.toNat 1]? = some (.v (.int .i64 e.1.2)) := hc1
        have hd2 : (es.flatMap aE4)[n * 4 + Int.toNat 2]? = some (.v (.int .i64 e.2.1)) := hc2
        have hd3 : (es.flatMap aE4)[n * 4 + Int.toNat 3]? = some (.v (.int .i64 e.2.2)) := hc3
        have hb2 : ∀ a b : Int, fillA [AV.v (.int .i64 0), AV.v (.int .i64 0)] [(0, 1), (1, 1)] [AV.v (.int .i64 a), AV.v (.int .i64 b)] = some (aI2 (a, b)) := fun a b => by simp [fillA, AV.cells, Value.cells, setAtA, aI2]
        have hsucc := take_succ_at he
        simp (maxSteps := 1000000) (implicitDefEqProofs := false) (disch := omega) only [push_cast, ↓reduceIte, Nat.reduceEqDiff, reduceCtorEq, wz, hρ, hd0, hd1, hd2, hd3, hb2]
        refine wpa_call (ref34_first_a b e.1 (by omega)) ?_
        rintro a rfl
        simp (maxSteps := 1000000) (implicitDefEqProofs := false) (disch := omega) only [push_cast, ↓reduceIte, Nat.reduceEqDiff, reduceCtorEq, wz]
        refine ⟨aholds_e (by simp (maxSteps := 1000000) (implicitDefEqProofs := false) (disch := omega) only [push_cast, ↓reduceIte, Nat.reduceEqDiff, reduceCtorEq, wz, hρ, hd3, ex_int3]), aholds_e (by simp (maxSteps := 1000000) (implicitDefEqProofs := false) (disch := omega) only [push_cast, ↓reduceIte, Nat.reduceEqDiff, reduceCtorEq, wz, hρ, hd2, ex_int3]), ?_⟩
        refine wpa_call (ref34_first_a b e.2 (by omega)) ?_
        rintro a rfl
        have h1 := hM0 e.1
        have h2 := hM0 e.2
        by_cases g1 : 0 < getE (whenF b) e.2
        · have g1' : 0 ≤ getE (whenF b) e.2 - 1 := by omega
          by_cases g2 : getE (whenF b) e.1 = 0
          · have hbad : badE (whenF b) e = true := by simp [badE, g1, g2]
            have g2' : getE (whenF b) e.1 - 1 < 0 := by omega
            simp (maxSteps := 1000000) (implicitDefEqProofs := false) (disch := omega) only [push_cast, ↓reduceIte, Nat.reduceEqDiff, reduceCtorEq, wz, hρ, aInt, g1', g2']
            exact ⟨[], rfl, by rw [all_bad he hbad]; rfl⟩
          · have g2' : ¬ getE (whenF b) e.1 - 1 < 0 := by omega
            by_cases g3 : getE (whenF b) e.2 < getE (whenF b) e.1
            · have hbad : badE (whenF b) e = true := by simp [badE, g1, g3]
              have g3' : getE (whenF b) e.2 - 1 < getE (whenF b) e.1 - 1 := by omega
              simp (maxSteps := 1000000) (implicitDefEqProofs := false) (disch := omega) only [push_cast, ↓reduceIte, Nat.reduceEqDiff, reduceCtorEq, wz, hρ, aInt, g1', g2', g3']
              exact ⟨[], rfl, by rw [all_bad he hbad]; rfl⟩
            · have hgd : badE (whenF b) e = false := by simp [badE, g2, g3]
              have g3' : ¬ getE (whenF b) e.2 - 1 < getE (whenF b) e.1 - 1 := by omega
              simp (maxSteps := 1000000) (implicitDefEqProofs := false) (disch := omega) only [push_cast, ↓reduceIte, Nat.reduceEqDiff, reduceCtorEq, wz, hρ, aInt, g1', g2', g3']
              exact hN (n + 1) _ _ ⟨by simp (maxSteps := 1000000) (implicitDefEqProofs := false) (disch := omega) only [push_cast, ↓reduceIte, Nat.reduceEqDiff, reduceCtorEq, wz, hρ], by omega, by rw [hsucc, List.all_append, hall]; simp [hgd]⟩ (by omega)
        · have hgd : badE (whenF b) e = false := by simp [badE, g1]
          have g1' : ¬ 0 ≤ getE (whenF b) e.2 - 1 := by omega
          simp (maxSteps := 1000000) (implicitDefEqProofs := false) (disch := omega) only [push_cast, ↓reduceIte, Nat.reduceEqDiff, reduceCtorEq, wz, hρ, aInt, g1']
          exact hN (n + 1) _ _ ⟨by simp (maxSteps := 1000000) (implicitDefEqProofs := false) (disch := omega) only [push_cast, ↓reduceIte, Nat.reduceEqDiff, reduceCtorEq, wz, hρ], by omega, by rw [hsucc, List.all_append, hall]; simp [hgd]⟩ (by omega)
      · simp (maxSteps := 1000000) (implicitDefEqProofs := false) (disch := omega) only [push_cast, ↓reduceIte, Nat.reduceEqDiff, reduceCtorEq, wz, hρ]
        refine hE' _ _ ?_
        rw [List.take_of_length_le (by omega)] at hall
        exact hall
    · rintro ε σ hall
      simp (maxSteps := 1000000) (implicitDefEqProofs := false) (disch := omega) only [push_cast, ↓reduceIte, Nat.reduceEqDiff, reduceCtorEq, wz]
      exact ⟨[], rfl, by rw [hall]; rfl⟩
  · have hF : followsF l lp = false := by unfold followsF; simp [h0]
    rw [hF]
    simp (maxSteps := 1000000) (implicitDefEqProofs := false) (disch := omega) only [push_cast, ↓reduceIte, Nat.reduceEqDiff, reduceCtorEq, wz, aInt, h0]
    exact ⟨[], rfl, rfl⟩
end Go.Proofs.Ythgmfjkbgacfaaa
/- TraceChecks: the walk. -/
namespace Go.Proofs.Ythgmfjkbgacfaaa
set_option linter.unusedVariables false
set_option linter.unusedSimpArgs false
open Go Go.Kx Go.Proofs Go.Proofs.Ythgmfjkbgacfaaa.Gr
open Go.Proofs.Ythgmfjkbgacfaaa (mixed)

theorem eqsCC (c : CC) : PF.av (.eqs true [.int .i64, .bool]) [.agg (aCC c), .agg (aCC c)] = some (.v (.bool false)) := by
  show ((PF.val (.eqs true [.int .i64, .bool]) [.agg [.int .i64 c.st, .bool c.wt].toArray, .agg [.int .i64 c.st, .bool c.wt].toArray]).map AV.v) = _
  simp [PF.val, eqCs, eqC]
theorem cellsCC (c : CC) (m : List AV) : cellsA (some 2) (aCC c ++ m) = some (.agg (aCC c)) := by rw [cellsA_n _ _ (by simp [aCC_len])]; rfl
set_option maxHeartbeats 8000000 in
theorem TraceChecks_a (l : List Ev) (lp : Int) (hl : l.length ≤ 9223372036854775807) : FnP Try.prog 4 [aEvs l, aInt lp] fun a => a = aBool true := by
  refine fnP_in K_forebaylaw34_TraceChecks Go.Proofs.Ythgmfjkbgacfaaa.mixed rfl (by simp [AV.pureL, aEvs_pure, AV.pure, aInt]) ?_
  simp only [S_forebaylaw34_TraceChecks]
  have hEL : aEvs l = .sl l.length (l.flatMap aEv) .none := rfl
  refine wpa_seqx (fun ε σ => (ε 0 = aEvs l ∧ ε 1 = aInt lp) ∧ σ = []) (fun N X' R' hN => by simp (maxSteps := 1000000) (implicitDefEqProofs := false) (disch := omega) only [push_cast, ↓reduceIte, Nat.reduceEqDiff, reduceCtorEq, wz]; exact hN _ _ (by simp (maxSteps := 1000000) (implicitDefEqProofs := false) (disch := omega) only [push_cast, ↓reduceIte, Nat.reduceEqDiff, reduceCtorEq, wz])) ?_
  rintro ε σ ⟨hρ, rfl⟩
  refine wpa_seq (fun ε σ => (ε 0 = aEvs l ∧ ε 1 = aInt lp) ∧ σ = []) ?_ ?_
  · intro N hN
    simp (maxSteps := 1000000) (implicitDefEqProofs := false) (disch := omega) only [push_cast, ↓reduceIte, Nat.reduceEqDiff, reduceCtorEq, wz]
    refine wpa_call law34_works_a ?_
    rintro a rfl
    simp (maxSteps := 1000000) (implicitDefEqProofs := false) (disch := omega) only [push_cast, ↓reduceIte, Nat.reduceEqDiff, reduceCtorEq, wz, aBool]
    exact hN _ _ (by simp (maxSteps := 1000000) (implicitDefEqProofs := false) (disch := omega) only [push_cast, ↓reduceIte, Nat.reduceEqDiff, reduceCtorEq, wz, hρ])
  clear hρ ε
  rintro ε σ ⟨hρ, rfl⟩
  refine wpa_seq (fun ε σ => (ε 0 = aEvs l ∧ ε 1 = aInt lp) ∧ l.length ≤ 150 ∧ σ = []) ?_ ?_
  · intro N hN
    by_cases h150 : 150 < l.length
    · simp (maxSteps := 1000000) (implicitDefEqProofs := false) (disch := omega) only [push_cast, ↓reduceIte, Nat.reduceEqDiff, reduceCtorEq, wz, hρ, hEL, h150]
      exact ⟨[], rfl, rfl⟩
    simp (maxSteps := 1000000) (implicitDefEqProofs := false) (disch := omega) only [push_cast, ↓reduceIte, Nat.reduceEqDiff, reduceCtorEq, wz, hρ, hEL, h150]
    exact hN _ _ (by simp (maxSteps := 1000000) (implicitDefEqProofs := false) (disch := omega) only [push_cast, ↓reduceIte, Nat.reduceEqDiff, reduceCtorEq, wz, hρ]; omega)
  clear hρ ε
  rintro ε σ ⟨hρ, h150, rfl⟩
  refine wpa_seqx (fun ε σ => (ε 0 = aEvs l ∧ ε 1 = aInt lp ∧ ε 5 = aInt (checkF S0 0 l).1 ∧ ε 6 = aInt (checkF S0 0 l).2) ∧ σ = []) ?_ ?_
  · intro N X' R' hN
    simp (maxSteps := 1000000) (implicitDefEqProofs := false) (disch := omega) only [push_cast, ↓reduceIte, Nat.reduceEqDiff, reduceCtorEq, wz, hρ]
    refine wpa_call (law34_own_a l (by omega)) ?_
    rintro a rfl
    simp (maxSteps := 1000000) (implicitDefEqProofs := false) (disch := omega) only [push_cast, ↓reduceIte, Nat.reduceEqDiff, reduceCtorEq, wz]
    refine wpa_call (trace_Check_a l (by omega)) ?_
    rintro a rfl
    simp (maxSteps := 1000000) (implicitDefEqProofs := false) (disch := omega) only [push_cast, ↓reduceIte, Nat.reduceEqDiff, reduceCtorEq, wz, hρ]
    exact hN _ _ (by simp (maxSteps := 1000000) (implicitDefEqProofs := false) (disch := omega) only [push_cast, ↓reduceIte, Nat.reduceEqDiff, reduceCtorEq, wz, hρ])
  clear hρ ε
  rintro ε σ ⟨hρ, rfl⟩
  refine wpa_seqx (fun ε σ => (ε 0 = aEvs l ∧ ε 1 = aInt lp ∧ ε 5 = aInt (checkF S0 0 l).1 ∧ ε 6 = aInt (checkF S0 0 l).2 ∧ ε 7 = aInt (checkF S0 0 l).1 ∧ ε 8 = aInt (checkF S0 0 l).2) ∧ σ = []) ?_ ?_
  · intro N X' R' hN
    simp (maxSteps := 1000000) (implicitDefEqProofs := false) (disch := omega) only [push_cast, ↓reduceIte, Nat.reduceEqDiff, reduceCtorEq, wz, hρ]
    refine wpa_call (ref34_Check_a l (by omega)) ?_
    rintro a rfl
    simp (maxSteps := 1000000) (implicitDefEqProofs := false) (disch := omega) only [push_cast, ↓reduceIte, Nat.reduceEqDiff, reduceCtorEq, wz, hρ]
    exact hN _ _ (by simp (maxSteps := 1000000) (implicitDefEqProofs := false) (disch := omega) only [push_cast, ↓reduceIte, Nat.reduceEqDiff, reduceCtorEq, wz, hρ])
  clear hρ ε
  rintro ε σ ⟨hρ, rfl⟩
  refine wpa_seqx (fun ε σ => (ε 0 = aEvs l ∧ ε 1 = aInt lp ∧ ε 5 = aInt (checkF S0 0 l).1 ∧ ε 6 = aInt (checkF S0 0 l).2 ∧ ε 7 = aInt (checkF S0 0 l).1 ∧ ε 8 = aInt (checkF S0 0 l).2 ∧ ε 9 = aRows (rowsF l lp) ∧ ε 10 = aRows (rowsF l lp)) ∧ σ = []) ?_ ?_
  · intro N X' R' hN
    simp (maxSteps := 1000000) (implicitDefEqProofs := false) (disch := omega) only [push_cast, ↓reduceIte, Nat.reduceEqDiff, reduceCtorEq, wz, hρ]
    refine wpa_call (law34_own_a l (by omega)) ?_
    rintro a rfl
    simp (maxSteps := 1000000) (implicitDefEqProofs := false) (disch := omega) only [push_cast, ↓reduceIte, Nat.reduceEqDiff, reduceCtorEq, wz, hρ]
    refine wpa_call (trace_Rows_a l lp (by omega)) ?_
    rintro a rfl
    simp (maxSteps := 1000000) (implicitDefEqProofs := false) (disch := omega) only [push_cast, ↓reduceIte, Nat.reduceEqDiff, reduceCtorEq, wz, hρ]
    refine wpa_call (ref34_Rows_a l lp (by omega)) ?_
    rintro a rfl
    simp (maxSteps := 1000000) (implicitDefEqProofs := false) (disch := omega) only [push_cast, ↓reduceIte, Nat.reduceEqDiff, reduceCtorEq, wz, hρ]
    exact hN _ _ (by simp (maxSteps := 1000000) (implicitDefEqProofs := false) (disch := omega) only [push_cast, ↓reduceIte, Nat.reduceEqDiff, reduceCtorEq, wz, hρ])
  clear hρ ε
  rintro ε σ ⟨hρ, rfl⟩
  refine wpa_seqx (fun ε σ => (ε 0 = aEvs l ∧ ε 1 = aInt lp ∧ ε 5 = aInt (checkF S0 0 l).1 ∧ ε 6 = aInt (checkF S0 0 l).2 ∧ ε 7 = aInt (checkF S0 0 l).1 ∧ ε 8 = aInt (checkF S0 0 l).2 ∧ ε 9 = aRows (rowsF l lp) ∧ ε 10 = aRows (rowsF l lp) ∧ ε 11 = aNs (begunF l lp) ∧ ε 12 = aI2s (begunF l lp)) ∧ σ = []) ?_ ?_
  · intro N X' R' hN
    simp (maxSteps := 1000000) (implicitDefEqProofs := false) (disch := omega) only [push_cast, ↓reduceIte, Nat.reduceEqDiff, reduceCtorEq, wz, hρ]
    refine wpa_call (law34_own_a l (by omega)) ?_
    rintro a rfl
    simp (maxSteps := 1000000) (implicitDefEqProofs := false) (disch := omega) only [push_cast, ↓reduceIte, Nat.reduceEqDiff, reduceCtorEq, wz, hρ]
    refine wpa_call (trace_Begun_a l lp (by omega)) ?_
    rintro a rfl
    simp (maxSteps := 1000000) (implicitDefEqProofs := false) (disch := omega) only [push_cast, ↓reduceIte, Nat.reduceEqDiff, reduceCtorEq, wz, hρ]
    refine wpa_call (ref34_Begun_a l lp (by omega)) ?_
    rintro a rfl
    simp (maxSteps := 1000000) (implicitDefEqProofs := false) (disch := omega) only [push_cast, ↓reduceIte, Nat.reduceEqDiff, reduceCtorEq, wz, hρ]
    exact hN _ _ (by simp (maxSteps := 1000000) (implicitDefEqProofs := false) (disch := omega) only [push_cast, ↓reduceIte, Nat.reduceEqDiff, reduceCtorEq, wz, hρ])
  clear hρ ε
  rintro ε σ ⟨hρ, rfl⟩
  have hRL : aRows (rowsF l lp) = .sl (rowsF l lp).length ((rowsF l lp).map aRow) .none := rfl
  have hNL : aNs (begunF l lp) = .sl (begunF l lp).length ((begunF l lp).map aN) .none := rfl
  have hIL : aI2s (begunF l lp) = .sl (begunF l lp).length ((begunF l lp).flatMap aI2) .none := rfl
  refine wpa_seq (fun ε σ => (ε 9 = aRows (rowsF l lp) ∧ ε 10 = aRows (rowsF l lp) ∧ ε 11 = aNs (begunF l lp) ∧ ε 12 = aI2s (begunF l lp)) ∧ σ = []) ?_ ?_
  · intro N hN
    simp (maxSteps := 1000000) (implicitDefEqProofs := false) (disch := omega) only [push_cast, ↓reduceIte, Nat.reduceEqDiff, reduceCtorEq, wz, hρ, aInt, hRL, hNL, hIL]
    refine wpa_call (law34_own_a l (by omega)) ?_
    rintro a rfl
    simp (maxSteps := 1000000) (implicitDefEqProofs := false) (disch := omega) only [push_cast, ↓reduceIte, Nat.reduceEqDiff, reduceCtorEq, wz, hρ]
    refine wpa_call (trace_Follows_a l lp (by omega)) ?_
    rintro a rfl
    simp (maxSteps := 1000000) (implicitDefEqProofs := false) (disch := omega) only [push_cast, ↓reduceIte, Nat.reduceEqDiff, reduceCtorEq, wz, hρ]
    refine wpa_call (ref34_Follows_a l lp (by omega)) ?_
    rintro a rfl
    simp (maxSteps := 1000000) (implicitDefEqProofs := false) (disch := omega) only [push_cast, ↓reduceIte, Nat.reduceEqDiff, reduceCtorEq, wz, hρ, aBool]
    exact hN _ _ (by simp (maxSteps := 1000000) (implicitDefEqProofs := false) (disch := omega) only [push_cast, ↓reduceIte, Nat.reduceEqDiff, reduceCtorEq, wz, hρ])
  clear hρ ε
  rintro ε σ ⟨hρ, rfl⟩
  have hbok := begunF_ok l lp
  have hbl := begunF_len l lp
  obtain ⟨hR1, hR2⟩ := rowsF_ok l lp
  generalize rowsF l lp = Rw at hρ hRL hR1 hR2
  generalize begunF l lp = B at hρ hNL hIL hbok hbl
  refine wpa_seq (fun ε σ => (ε 11 = aNs B ∧ ε 12 = aI2s B) ∧ σ = []) ?_ ?_
  · intro N hN
    simp (maxSteps := 1000000) (implicitDefEqProofs := false) (disch := omega) only [push_cast, ↓reduceIte, Nat.reduceEqDiff, reduceCtorEq, wz]
    refine wpa_bl (α := Nat) (I := fun i ε σ => (ε 9 = aRows Rw ∧ ε 10 = aRows Rw ∧ ε 11 = aNs B ∧ ε 12 = aI2s B ∧ ε 13 = .v (.int .i64 i)) ∧ i ≤ Rw.length ∧ σ = [])
      (μ := fun i => Rw.length - i) (Q := fun ε σ => (ε 11 = aNs B ∧ ε 12 = aI2s B) ∧ σ = []) (x := 0) ?_ ?_ hN
    · simp (maxSteps := 1000000) (implicitDefEqProofs := false) (disch := omega) only [push_cast, ↓reduceIte, Nat.reduceEqDiff, reduceCtorEq, wz, hρ]
      omega
    · clear hρ hN N ε
      rintro i ε σ N E ⟨hρ, hi, rfl⟩ hN hE
      simp only [S_forebaylaw34_TraceChecks_L1]
      by_cases hlt : i < Rw.length
      · obtain ⟨r, hr⟩ := at_lt hlt
        have hr2 := hR2 r (List.mem_of_getElem? hr)
        have hrl : aRow r = .sl r.length (r.flatMap aCC) .none := rfl
        simp (maxSteps := 1000000) (implicitDefEqProofs := false) (disch := omega) only [push_cast, ↓reduceIte, Nat.reduceEqDiff, reduceCtorEq, wz, hρ, hRL, hr, hrl]
        refine wpa_bl (α := Nat) (I := fun k ε σ => (ε 9 = aRows Rw ∧ ε 10 = aRows Rw ∧ ε 11 = aNs B ∧ ε 12 = aI2s B ∧ ε 13 = .v (.int .i64 i) ∧ ε 14 = .v (.int .i64 k)) ∧ k ≤ r.length ∧ σ = [])
          (μ := fun k => r.length - k) (Q := fun ε σ => (ε 9 = aRows Rw ∧ ε 10 = aRows Rw ∧ ε 11 = aNs B ∧ ε 12 = aI2s B ∧ ε 13 = .v (.int .i64 i)) ∧ σ = []) (x := 0) ?_ ?_ ?_
        · simp (maxSteps := 1000000) (implicitDefEqProofs := false) (disch := omega) only [push_cast, ↓reduceIte, Nat.reduceEqDiff, reduceCtorEq, wz, hρ, hRL]
          omega
        · rintro k ε σ N E ⟨hρ, hk, rfl⟩ hN hE
          simp only [S_forebaylaw34_TraceChecks_L2]
          by_cases hlk : k < r.length
          · obtain ⟨c, hc⟩ := at_lt hlk
            have hd := flat_drop aCC_len hc
            simp (maxSteps := 1000000) (implicitDefEqProofs := false) (disch := omega) only [push_cast, ↓reduceIte, Nat.reduceEqDiff, reduceCtorEq, wz, hρ, hRL, hr, hrl, hd, cellsCC, eqsCC]
            exact hN (k + 1) _ _ ⟨by simp (maxSteps := 1000000) (implicitDefEqProofs := false) (disch := omega) only [push_cast, ↓reduceIte, Nat.reduceEqDiff, reduceCtorEq, wz, hρ, hRL], by omega, rfl⟩ (by omega)
          · simp (maxSteps := 1000000) (implicitDefEqProofs := false) (disch := omega) only [push_cast, ↓reduceIte, Nat.reduceEqDiff, reduceCtorEq, wz, hρ, hRL, hr, hrl]
            exact hE _ _ ⟨by simp (maxSteps := 1000000) (implicitDefEqProofs := false) (disch := omega) only [push_cast, ↓reduceIte, Nat.reduceEqDiff, reduceCtorEq, wz, hρ, hRL], rfl⟩
        · rintro ε σ ⟨hρ, rfl⟩
          simp (maxSteps := 1000000) (implicitDefEqProofs := false) (disch := omega) only [push_cast, ↓reduceIte, Nat.reduceEqDiff, reduceCtorEq, wz, hρ]
          exact hN (i + 1) _ _ ⟨by simp (maxSteps := 1000000) (implicitDefEqProofs := false) (disch := omega) only [push_cast, ↓reduceIte, Nat.reduceEqDiff, reduceCtorEq, wz, hρ], by omega, rfl⟩ (by omega)
      · simp (maxSteps := 1000000) (implicitDefEqProofs := false) (disch := omega) only [push_cast, ↓reduceIte, Nat.reduceEqDiff, reduceCtorEq, wz, hρ, hRL]
        exact hE _ _ ⟨by simp (maxSteps := 1000000) (implicitDefEqProofs := false) (disch := omega) only [push_cast, ↓reduceIte, Nat.reduceEqDiff, reduceCtorEq, wz, hρ], rfl⟩
  clear hρ ε
  rintro ε σ ⟨hρ, rfl⟩
  refine wpa_seq (fun ε σ => True) ?_ ?_
  · intro N hN
    simp (maxSteps := 1000000) (implicitDefEqProofs := false) (disch := omega) only [push_cast, ↓reduceIte, Nat.reduceEqDiff, reduceCtorEq, wz]
    refine wpa_bl (α := Nat) (I := fun i ε σ => (ε 11 = aNs B ∧ ε 12 = aI2s B ∧ ε 15 = .v (.int .i64 i)) ∧ i ≤ B.length ∧ σ = [])
      (μ := fun i => B.length - i) (Q := fun ε σ => True) (x := 0) ?_ ?_ hN
    · simp (maxSteps := 1000000) (implicitDefEqProofs := false) (disch := omega) only [push_cast, ↓reduceIte, Nat.reduceEqDiff, reduceCtorEq, wz, hρ]
      omega
    · clear hρ hN N ε
      rintro i ε σ N E ⟨hρ, hi, rfl⟩ hN hE
      simp only [S_forebaylaw34_TraceChecks_L3]
      by_cases hlt : i < B.length
      · obtain ⟨p, hp⟩ := at_lt hlt
        have hpo := hbok p (List.mem_of_getElem? hp)
        have hpx : (B.map aN)[i]? = some (aN p) := by rw [List.getElem?_map, hp]; rfl
        have hd := flat_drop aI2_len hp
        have hc0 : (B.flatMap aI2)[i * 2 + Int.toNat 0]? = some (.v (.int .i64 p.1)) := by
          have : ((B.flatMap aI2).drop (i * 2))[0]? = some (.v (.int .i64 p.1)) := by rw [hd]; rfl
          rwa [List.getElem?_drop, Nat.add_zero] at this
        have hc1 : (B.flatMap aI2)[i * 2 + Int.toNat 1]? = some (.v (.int .i64 p.2)) := by
          have : ((B.flatMap aI2).drop (i * 2))[1]? = some (.v (.int .i64 p.2)) := by rw [hd]; rfl
          rwa [List.getElem?_drop] at this
        have hv : PF.val (.bin .neq) [vN p, vN p] = some (.bool false) := by rw [v_cne hpo hpo]; simp
        have hh : aN (heldI p.1, heldI p.2) = .v (vN p) := by rw [heldI_id hpo.1, heldI_id hpo.2]; rfl
        have hax : aN p = .v (vN p) := rfl
        rw [hax] at hpx
        simp (maxSteps := 1000000) (implicitDefEqProofs := false) (disch := omega) only [push_cast, ↓reduceIte, Nat.reduceEqDiff, reduceCtorEq, wz, hρ, hNL, hIL, hpx, hc0, hc1]
        refine wpa_call (grid_Node_a p.1 p.2) ?_
        rintro a rfl
        simp (maxSteps := 1000000) (implicitDefEqProofs := false) (disch := omega) only [push_cast, ↓reduceIte, Nat.reduceEqDiff, reduceCtorEq, wz, hh]
        refine ⟨aholds_e (by simp (maxSteps := 1000000) (implicitDefEqProofs := false) (disch := omega) only [push_cast, ↓reduceIte, Nat.reduceEqDiff, reduceCtorEq, wz, hρ, hpx, ex_N]), ?_⟩
        simp (maxSteps := 1000000) (implicitDefEqProofs := false) (disch := omega) only [push_cast, ↓reduceIte, Nat.reduceEqDiff, reduceCtorEq, wz, hv, hρ]
        refine hN (i + 1) _ _ ?_ (by omega)
        exact ⟨by simp (maxSteps := 1000000) (implicitDefEqProofs := false) (disch := omega) only [push_cast, ↓reduceIte, Nat.reduceEqDiff, reduceCtorEq, wz, hρ, hNL, hIL], by omega, rfl⟩
      · simp (maxSteps := 1000000) (implicitDefEqProofs := false) (disch := omega) only [push_cast, ↓reduceIte, Nat.reduceEqDiff, reduceCtorEq, wz, hρ, hNL, hIL]
        exact hE _ _ trivial
  rintro ε σ -
  simp (maxSteps := 1000000) (implicitDefEqProofs := false) (disch := omega) only [push_cast, ↓reduceIte, Nat.reduceEqDiff, reduceCtorEq, wz]
  exact ⟨[], rfl, rfl⟩
end Go.Proofs.Ythgmfjkbgacfaaa
