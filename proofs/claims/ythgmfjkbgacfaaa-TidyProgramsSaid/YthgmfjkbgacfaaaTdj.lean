/- Tidy: a round; programs: the walks. -/
import Derived.Test.YthgmfjkbgacfaaaTdi
namespace Go.Proofs.Ythgmfjkbgacfaaa
set_option linter.unusedVariables false
set_option linter.unusedSimpArgs false
open Go Go.Kx Go.Proofs

def plN (f : Nat → Nat) (Z k : Nat) : List AV := (List.range Z).map fun j => aNt (if j < k then f j else 0)
theorem pl_len (f : Nat → Nat) (Z k : Nat) : (plN f Z k).length = Z := by simp [plN]
theorem pl_0 (f : Nat → Nat) (Z : Nat) : plN f Z 0 = List.replicate Z (.v (.int .i64 0)) := by
  unfold plN
  rw [List.eq_replicate_iff]
  refine ⟨by simp, fun a ha => ?_⟩
  obtain ⟨j, _, rfl⟩ := List.mem_map.1 ha
  rfl
theorem pl_set {f : Nat → Nat} {Z k : Nat} : (plN f Z k).set k (.v (.int .i64 (f k : Nat))) = plN f Z (k + 1) := by
  refine List.ext_getElem? fun j => ?_
  by_cases e : k = j
  · subst e
    by_cases hk : k < Z
    · rw [List.getElem?_set_self (by rw [pl_len]; exact hk)]
      simp [plN, hk, aNt]
    · rw [List.getElem?_eq_none (by simp [plN]; omega), List.getElem?_eq_none (by rw [pl_len]; omega)]
  · rw [List.getElem?_set_ne e]
    unfold plN
    rw [List.getElem?_map, List.getElem?_map]
    by_cases hj : j < Z
    · rw [List.getElem?_range hj]
      have : (j < k) ↔ (j < k + 1) := by omega
      simp only [Option.map_some, this]
    · rw [List.getElem?_eq_none (by simp; omega)]; rfl
theorem pl_at {f : Nat → Nat} {Z k t : Nat} (ht : t < k) (hk : k ≤ Z) : (plN f Z k)[t]? = some (.v (.int .i64 (f t : Nat))) := by
  unfold plN
  rw [List.getElem?_map, List.getElem?_range (by omega)]
  simp [ht, aNt]
def OutAt (a : AV) (σ : Kx.St) (L : List Ix) : Prop := (L = [] ∧ a = .sl 0 [] .nil) ∨ (L ≠ [] ∧ ∃ j w, a = .ms j w 0 L.length 4 ∧ σ[j]? = some (.obj w (L.flatMap aIx)) ∧ j ≠ 0)
theorem OutAt.len {a : AV} {σ : Kx.St} {L : List Ix} (h : OutAt a σ L) : PF.av (.len false) [a] = some (.v (.int .i64 L.length)) := by
  rcases h with ⟨rfl, rfl⟩ | ⟨_, j, w, rfl, _⟩ <;> rfl
theorem OutAt.app {a : AV} {σ τ : Kx.St} {L : List Ix} (h : OutAt a σ L) : OutAt a (σ ++ τ) L := by
  rcases h with h | ⟨h1, j, w, h2, h3, h4⟩
  · exact .inl h
  · exact .inr ⟨h1, j, w, h2, get_app h3, h4⟩
theorem OutAt.set0 {a : AV} {σ : Kx.St} {L : List Ix} {o : Res} (h : OutAt a σ L) : OutAt a (σ.set 0 o) L := by
  rcases h with h | ⟨h1, j, w, h2, h3, h4⟩
  · exact .inl h
  · exact .inr ⟨h1, j, w, h2, get_set_ne (fun e => h4 e.symm) h3, h4⟩
theorem kN_len_le (m : List Ix) (n : Nat) : (kN m n).length ≤ n := cnt_le m n
set_option maxHeartbeats 16000000 in
theorem tidy_round_a (l : List Ix) (hR : Rt l) (hl : l.length ≤ 300) : FnP Try.prog 62 [aIxs l] fun a => a = aIxs (rnd l) := by
  refine fnP_in K_tidy_round mixed rfl (by simp [AV.pureL, aIxs_pure]) ?_
  simp only [S_tidy_round]
  have hM := led_rt hR
  have hml := led_len l
  refine wpa_seqx (fun ε σ => ε 0 = aIxs l ∧ σ = []) (fun N X' R' hN => by simp (maxSteps := 1000000) (implicitDefEqProofs := false) (disch := omega) only [push_cast, ↓reduceIte, Nat.reduceEqDiff, reduceCtorEq, wz]; exact hN _ _ (by simp (maxSteps := 1000000) (implicitDefEqProofs := false) (disch := omega) only [push_cast, ↓reduceIte, Nat.reduceEqDiff, reduceCtorEq, wz])) ?_
  rintro ε σ ⟨hρ, rfl⟩
  refine wpa_seqx (fun ε σ => ε 3 = aIxs (ledL l) ∧ σ = []) ?_ ?_
  · intro N X R hN
    simp (maxSteps := 1000000) (implicitDefEqProofs := false) (disch := omega) only [push_cast, ↓reduceIte, Nat.reduceEqDiff, reduceCtorEq, wz, hρ]
    refine wpa_call (tidy_ledOn_a l hR hl) ?_
    rintro a rfl
    simp (maxSteps := 1000000) (implicitDefEqProofs := false) (disch := omega) only [push_cast, ↓reduceIte, Nat.reduceEqDiff, reduceCtorEq, wz]
    exact hN _ _ (by simp (maxSteps := 1000000) (implicitDefEqProofs := false) (disch := omega) only [push_cast, ↓reduceIte, Nat.reduceEqDiff, reduceCtorEq, wz])
  clear hρ ε
  rintro ε σ ⟨hρ, rfl⟩
  unfold rnd
  generalize ledL l = m at hρ hM hml
  replace hl : m.length ≤ 300 := by omega
  clear hml hR
  clear l
  have hIL : aIxs m = .sl m.length (m.flatMap aIx) .none := rfl
  have hpos := hM.pos
  obtain ⟨hbl, hbs⟩ := reachB_spec hM
  have hBL : aSl aBool (reachB m) = .sl m.length ((reachB m).map aBool) .none := by unfold aSl; rw [hbl]
  obtain ⟨Z, hZ⟩ : ∃ Z : Nat, Z = m.length + 1 := ⟨_, rfl⟩
  have hZi : ((m.length : Int) + 1) = (Z : Int) := by omega
  refine wpa_seqx (fun ε σ => (ε 3 = aIxs m ∧ ε 4 = aSl aBool (reachB m)) ∧ σ = []) ?_ ?_
  · intro N X R hN
    simp (maxSteps := 1000000) (implicitDefEqProofs := false) (disch := omega) only [push_cast, ↓reduceIte, Nat.reduceEqDiff, reduceCtorEq, wz, hρ]
    refine wpa_call (tidy_reached_a m hM hl) ?_
    rintro a rfl
    simp (maxSteps := 1000000) (implicitDefEqProofs := false) (disch := omega) only [push_cast, ↓reduceIte, Nat.reduceEqDiff, reduceCtorEq, wz]
    exact hN _ _ (by simp (maxSteps := 1000000) (implicitDefEqProofs := false) (disch := omega) only [push_cast, ↓reduceIte, Nat.reduceEqDiff, reduceCtorEq, wz, hρ])
  clear hρ ε
  rintro ε σ ⟨hρ, rfl⟩
  refine wpa_seqx (fun ε σ => (ε 3 = aIxs m ∧ ε 4 = aSl aBool (reachB m) ∧ ε 5 = .ms 0 0 0 Z 1) ∧ σ = [.obj 0 (plN (cnt m) Z 0)]) ?_ ?_
  · intro N X R hN
    simp (maxSteps := 1000000) (implicitDefEqProofs := false) (disch := omega) only [push_cast, ↓reduceIte, Nat.reduceEqDiff, reduceCtorEq, wz, hρ, hIL, hZi]
    refine wpa_mks rfl (by omega) (by omega) ?_
    simp (maxSteps := 1000000) (implicitDefEqProofs := false) (disch := omega) only [push_cast, ↓reduceIte, Nat.reduceEqDiff, reduceCtorEq, wz, repA_one]
    exact hN _ _ ⟨by simp (maxSteps := 1000000) (implicitDefEqProofs := false) (disch := omega) only [push_cast, ↓reduceIte, Nat.reduceEqDiff, reduceCtorEq, wz, hρ, hIL], by rw [pl_0]⟩
  clear hρ ε
  rintro ε σ ⟨hρ, rfl⟩
  refine wpa_seqx (fun ε σ => (ε 3 = aIxs m ∧ ε 4 = aSl aBool (reachB m) ∧ ε 5 = .ms 0 0 0 Z 1 ∧ ε 6 = .sl 0 [] .nil) ∧ σ = [.obj 0 (plN (cnt m) Z 0)]) ?_ ?_
  · intro N X R hN
    simp (maxSteps := 1000000) (implicitDefEqProofs := false) (disch := omega) only [push_cast, ↓reduceIte, Nat.reduceEqDiff, reduceCtorEq, wz, hρ]
    exact hN _ _ (by simp (maxSteps := 1000000) (implicitDefEqProofs := false) (disch := omega) only [push_cast, ↓reduceIte, Nat.reduceEqDiff, reduceCtorEq, wz, hρ])
  clear hρ ε
  rintro ε σ ⟨hρ, rfl⟩
  refine wpa_seqx (fun ε σ => (ε 5 = .ms 0 0 0 Z 1 ∧ σ[0]? = some (.obj 0 (plN (cnt m) Z m.length))) ∧ OutAt (ε 6) σ (kN m m.length)) ?_ ?_
  · intro N X R hN
    simp (maxSteps := 1000000) (implicitDefEqProofs := false) (disch := omega) only [push_cast, ↓reduceIte, Nat.reduceEqDiff, reduceCtorEq, wz, hρ, hIL]
    refine wpa_blx (α := Nat) (I := fun k ε σ => (ε 3 = aIxs m ∧ ε 4 = aSl aBool (reachB m) ∧ ε 5 = .ms 0 0 0 Z 1 ∧ ε 19 = aIxs m ∧ ε 20 = .v (.int .i64 m.length) ∧ ε 21 = .v (.int .i64 k)) ∧ k ≤ m.length ∧ σ[0]? = some (.obj 0 (plN (cnt m) Z k)) ∧ OutAt (ε 6) σ (kN m k))
      (μ := fun k => m.length - k) (Q := fun ε σ => (ε 5 = .ms 0 0 0 Z 1 ∧ σ[0]? = some (.obj 0 (plN (cnt m) Z m.length))) ∧ OutAt (ε 6) σ (kN m m.length)) (x := 0) ?_ ?_ hN
    · simp (maxSteps := 1000000) (implicitDefEqProofs := false) (disch := omega) only [push_cast, ↓reduceIte, Nat.reduceEqDiff, reduceCtorEq, wz, hρ, hIL]
      exact ⟨by omega, .inl ⟨rfl, rfl⟩⟩
    · clear hN N X R hρ ε
      rintro k ε σ N E X R ⟨hρ, hk, hs0, hO⟩ hN hE
      simp only [S_tidy_round_L1]
      by_cases hlt : k < m.length
      · obtain ⟨x, hx⟩ := at_lt hlt
        have hd := flat_drop aIx_len hx
        obtain ⟨b, hb⟩ := at_lt (l := reachB m) (k := k) (by omega)
        have hkn := kN_succ hx
        have hkp : kp m k = (b && !usL m k) := by unfold kp; rw [List.getD_eq_getElem?_getD, hb]; rfl
        have hkl := kN_len_le m k
        have hpset := pl_set (f := cnt m) (Z := Z) (k := k)
        have hpl := pl_len (cnt m) Z k
        have hcnt : cnt m k = (kN m k).length := rfl
        rw [hcnt] at hpset
        have hbb : ((reachB m).map aBool)[k]? = some (.v (.bool b)) := by rw [List.getElem?_map, hb]; rfl
        refine wpa_seqx (fun ε σ => (ε 3 = aIxs m ∧ ε 4 = aSl aBool (reachB m) ∧ ε 5 = .ms 0 0 0 Z 1 ∧ ε 19 = aIxs m ∧ ε 20 = .v (.int .i64 m.length) ∧ ε 21 = .v (.int .i64 k) ∧ ε 22 = .v (.bool true)) ∧ σ[0]? = some (.obj 0 (plN (cnt m) Z k)) ∧ OutAt (ε 6) σ (kN m k)) ?_ ?_
        · intro N2 X2 R2 hN2
          simp (maxSteps := 1000000) (implicitDefEqProofs := false) (disch := omega) only [push_cast, ↓reduceIte, Nat.reduceEqDiff, reduceCtorEq, wz, hρ]
          exact hN2 _ _ ⟨by simp (maxSteps := 1000000) (implicitDefEqProofs := false) (disch := omega) only [push_cast, ↓reduceIte, Nat.reduceEqDiff, reduceCtorEq, wz, hρ], hs0, by simp (maxSteps := 1000000) (implicitDefEqProofs := false) (disch := omega) only [push_cast, ↓reduceIte, Nat.reduceEqDiff, reduceCtorEq, wz, hO]⟩
        clear hρ hs0 hO ε σ
        rintro ε σ ⟨hρ, hs0, hO⟩
        refine wpa_seq (fun ε σ => (ε 3 = aIxs m ∧ ε 4 = aSl aBool (reachB m) ∧ ε 5 = .ms 0 0 0 Z 1 ∧ ε 19 = aIxs m ∧ ε 20 = .v (.int .i64 m.length) ∧ ε 21 = .v (.int .i64 k)) ∧ σ[0]? = some (.obj 0 (plN (cnt m) Z k)) ∧ OutAt (ε 6) σ (kN m k)) ?_ ?_
        · intro N2 hN2
          simp (maxSteps := 1000000) (implicitDefEqProofs := false) (disch := omega) only [push_cast, ↓reduceIte, Nat.reduceEqDiff, reduceCtorEq, wz, hρ]
          exact hN2 _ _ ⟨by simp (maxSteps := 1000000) (implicitDefEqProofs := false) (disch := omega) only [push_cast, ↓reduceIte, Nat.reduceEqDiff, reduceCtorEq, wz, hρ], hs0, by simp (maxSteps := 1000000) (implicitDefEqProofs := false) (disch := omega) only [push_cast, ↓reduceIte, Nat.reduceEqDiff, reduceCtorEq, wz, hO]⟩
        clear hρ hs0 hO ε σ
        rintro ε σ ⟨hρ, hs0, hO⟩
        refine wpa_seqx (fun ε σ => (ε 3 = aIxs m ∧ ε 4 = aSl aBool (reachB m) ∧ ε 5 = .ms 0 0 0 Z 1 ∧ ε 19 = aIxs m ∧ ε 20 = .v (.int .i64 m.length) ∧ ε 21 = .v (.int .i64 k)) ∧ σ[0]? = some (.obj 0 (plN (cnt m) Z (k + 1))) ∧ OutAt (ε 6) σ (kN m (k + 1))) ?_ ?_
        · intro N2 X2 R2 hN2
          refine wpa_blk fun X' _ => ?_
          refine wpa_seqx (fun ε' σ' => ∃ ip, (ε' 3 = aIxs m ∧ ε' 4 = aSl aBool (reachB m) ∧ ε' 5 = .ms 0 0 0 Z 1 ∧ ε' 19 = aIxs m ∧ ε' 20 = .v (.int .i64 m.length) ∧ ε' 21 = .v (.int .i64 k) ∧ ε' 7 = .v (.int .i64 k) ∧ ε' 8 = .ref ip 0 0) ∧ σ'[0]? = some (.obj 0 (plN (cnt m) Z k)) ∧ OutAt (ε' 6) σ' (kN m k) ∧ σ'[ip]? = some (.obj 0 (aIx x)) ∧ ip ≠ 0) ?_ ?_
          · intro N3 X3 R3 hN3
            simp (maxSteps := 1000000) (implicitDefEqProofs := false) (disch := omega) only [push_cast, ↓reduceIte, Nat.reduceEqDiff, reduceCtorEq, wz, hρ, hIL, hd, cellsIx]
            refine wpa_new ?_
            simp (maxSteps := 1000000) (implicitDefEqProofs := false) (disch := omega) only [push_cast, ↓reduceIte, Nat.reduceEqDiff, reduceCtorEq, wz]
            refine wpa_stn (cs := [AV.v (.int .i64 0), AV.v (.int .i64 0), AV.v (.int .i64 0), AV.v (.int .i64 0)]) rfl rfl (at_snoc _ _) (by simp) ?_
            rw [z4set, set_snoc]
            simp (maxSteps := 1000000) (implicitDefEqProofs := false) (disch := omega) only [push_cast, ↓reduceIte, Nat.reduceEqDiff, reduceCtorEq, wz]
            exact hN3 _ _ ⟨σ.length, by simp (maxSteps := 1000000) (implicitDefEqProofs := false) (disch := omega) only [push_cast, ↓reduceIte, Nat.reduceEqDiff, reduceCtorEq, wz, hρ, hIL], get_app hs0, by simp (maxSteps := 1000000) (implicitDefEqProofs := false) (disch := omega) only [push_cast, ↓reduceIte, Nat.reduceEqDiff, reduceCtorEq, wz, hO.app], at_snoc _ _, by have := lt_at hs0; omega⟩
          clear hρ hs0 hO ε σ
          rintro ε σ ⟨ip, hρ, hs0, hO, hip, hip0⟩
          refine wpa_seqx (fun ε' σ' => (ε' 3 = aIxs m ∧ ε' 4 = aSl aBool (reachB m) ∧ ε' 5 = .ms 0 0 0 Z 1 ∧ ε' 19 = aIxs m ∧ ε' 20 = .v (.int .i64 m.length) ∧ ε' 21 = .v (.int .i64 k) ∧ ε' 7 = .v (.int .i64 k) ∧ ε' 8 = .ref ip 0 0) ∧ σ'[0]? = some (.obj 0 (plN (cnt m) Z (k + 1))) ∧ OutAt (ε' 6) σ' (kN m k) ∧ σ'[ip]? = some (.obj 0 (aIx x))) ?_ ?_
          · intro N3 X3 R3 hN3
            have hol := hO.len
            simp (maxSteps := 1000000) (implicitDefEqProofs := false) (disch := omega) only [push_cast, ↓reduceIte, Nat.reduceEqDiff, reduceCtorEq, wz, hρ, hol]
            refine wpa_st1 rfl rfl hs0 (by rw [hpl]; omega) ?_
            rw [hpset]
            simp (maxSteps := 1000000) (implicitDefEqProofs := false) (disch := omega) only [push_cast, ↓reduceIte, Nat.reduceEqDiff, reduceCtorEq, wz]
            exact hN3 _ _ ⟨by simp (maxSteps := 1000000) (implicitDefEqProofs := false) (disch := omega) only [push_cast, ↓reduceIte, Nat.reduceEqDiff, reduceCtorEq, wz, hρ], get_set_eq hs0, by simp (maxSteps := 1000000) (implicitDefEqProofs := false) (disch := omega) only [push_cast, ↓reduceIte, Nat.reduceEqDiff, reduceCtorEq, wz, hO.set0], get_set_ne (fun h => hip0 h.symm) hip⟩
          clear hρ hs0 hO hip ε σ
          rintro ε σ ⟨hρ, hs0, hO, hip⟩
          refine wpa_seqx (fun ε' σ' => (ε' 3 = aIxs m ∧ ε' 4 = aSl aBool (reachB m) ∧ ε' 5 = .ms 0 0 0 Z 1 ∧ ε' 19 = aIxs m ∧ ε' 20 = .v (.int .i64 m.length) ∧ ε' 21 = .v (.int .i64 k) ∧ ε' 8 = .ref ip 0 0 ∧ ε' 40 = .v (.bool (kp m k))) ∧ σ'[0]? = some (.obj 0 (plN (cnt m) Z (k + 1))) ∧ OutAt (ε' 6) σ' (kN m k) ∧ σ'[ip]? = some (.obj 0 (aIx x))) ?_ ?_
          · intro N3 X3 R3 hN3
            cases b with
            | false =>
              simp (maxSteps := 1000000) (implicitDefEqProofs := false) (disch := omega) only [push_cast, ↓reduceIte, Nat.reduceEqDiff, reduceCtorEq, wz, hρ, hBL, hbb]
              exact hN3 _ _ ⟨by simp (maxSteps := 1000000) (implicitDefEqProofs := false) (disch := omega) only [push_cast, ↓reduceIte, Nat.reduceEqDiff, reduceCtorEq, wz, hρ, hkp, Bool.false_and, hBL], hs0, by simp (maxSteps := 1000000) (implicitDefEqProofs := false) (disch := omega) only [push_cast, ↓reduceIte, Nat.reduceEqDiff, reduceCtorEq, wz, hO], hip⟩
            | true =>
              simp (maxSteps := 1000000) (implicitDefEqProofs := false) (disch := omega) only [push_cast, ↓reduceIte, Nat.reduceEqDiff, reduceCtorEq, wz, hρ, hBL, hbb]
              refine wpa_call (tidy_Useless_a m k hlt hl) ?_
              rintro a rfl
              simp (maxSteps := 1000000) (implicitDefEqProofs := false) (disch := omega) only [push_cast, ↓reduceIte, Nat.reduceEqDiff, reduceCtorEq, wz, aBool]
              exact hN3 _ _ ⟨by simp (maxSteps := 1000000) (implicitDefEqProofs := false) (disch := omega) only [push_cast, ↓reduceIte, Nat.reduceEqDiff, reduceCtorEq, wz, hρ, hkp, Bool.true_and, hBL], hs0, by simp (maxSteps := 1000000) (implicitDefEqProofs := false) (disch := omega) only [push_cast, ↓reduceIte, Nat.reduceEqDiff, reduceCtorEq, wz, hO], hip⟩
          clear hρ hs0 hO hip ε σ
          rintro ε σ ⟨hρ, hs0, hO, hip⟩
          rw [hkn] at hN2
          cases hq : kp m k with
          | false =>
            rw [hq] at hρ hN2
            simp only [Bool.false_eq_true, if_false, List.append_nil] at hN2
            simp (maxSteps := 1000000) (implicitDefEqProofs := false) (disch := omega) only [push_cast, ↓reduceIte, Nat.reduceEqDiff, reduceCtorEq, wz, hρ]
            exact hN2 _ _ ⟨by simp (maxSteps := 1000000) (implicitDefEqProofs := false) (disch := omega) only [push_cast, ↓reduceIte, Nat.reduceEqDiff, reduceCtorEq, wz, hρ], hs0, by simp (maxSteps := 1000000) (implicitDefEqProofs := false) (disch := omega) only [push_cast, ↓reduceIte, Nat.reduceEqDiff, reduceCtorEq, wz, hO]⟩
          | true =>
            rw [hq] at hρ hN2
            simp only [if_true] at hN2
            have hfl := flat_len aIx_len (kN m k)
            have hax : (AV.agg (aIx x)).cells = aIx x := rfl
            rcases hO with ⟨hO1, hO2⟩ | ⟨hO1, j, w, hO2, hO3, hO4⟩
            · rw [hO1] at hN2
              simp (maxSteps := 1000000) (implicitDefEqProofs := false) (disch := omega) only [push_cast, ↓reduceIte, Nat.reduceEqDiff, reduceCtorEq, wz, hρ, hO2, hip, cellsIx']
              refine wpa_bsl (sz := 4) (by intro a ha; simp at ha; subst ha; rfl) (by simp) ?_
              simp (maxSteps := 1000000) (implicitDefEqProofs := false) (disch := omega) only [push_cast, ↓reduceIte, Nat.reduceEqDiff, reduceCtorEq, wz, hax, List.append_nil]
              refine wpa_app_nilo (m := 1) rfl rfl rfl rfl (by omega) (by omega) (by omega) ?_
              simp (maxSteps := 1000000) (implicitDefEqProofs := false) (disch := omega) only [push_cast, ↓reduceIte, Nat.reduceEqDiff, reduceCtorEq, wz]
              exact hN2 _ _ ⟨by simp (maxSteps := 1000000) (implicitDefEqProofs := false) (disch := omega) only [push_cast, ↓reduceIte, Nat.reduceEqDiff, reduceCtorEq, wz, hρ], get_app hs0, .inr ⟨by simp, σ.length, 0, (by simp (maxSteps := 1000000) (implicitDefEqProofs := false) (disch := omega) only [push_cast, ↓reduceIte, Nat.reduceEqDiff, reduceCtorEq, wz]; try rfl), by rw [at_snoc]; simp, by have := lt_at hs0; omega⟩⟩
            · simp (maxSteps := 1000000) (implicitDefEqProofs := false) (disch := omega) only [push_cast, ↓reduceIte, Nat.reduceEqDiff, reduceCtorEq, wz, hρ, hO2, hip, cellsIx']
              refine wpa_bsl (sz := 4) (by intro a ha; simp at ha; subst ha; rfl) (by simp) ?_
              simp (maxSteps := 1000000) (implicitDefEqProofs := false) (disch := omega) only [push_cast, ↓reduceIte, Nat.reduceEqDiff, reduceCtorEq, wz, hax, List.append_nil]
              refine wpa_app_ms (m := 1) rfl rfl rfl rfl (by omega) (by omega) (by omega) hO3 ?_
              simp (maxSteps := 1000000) (implicitDefEqProofs := false) (disch := omega) only [push_cast, ↓reduceIte, Nat.reduceEqDiff, reduceCtorEq, wz]
              refine hN2 _ _ ⟨by simp (maxSteps := 1000000) (implicitDefEqProofs := false) (disch := omega) only [push_cast, ↓reduceIte, Nat.reduceEqDiff, reduceCtorEq, wz, hρ], get_set_ne hO4 hs0, .inr ⟨by simp, j, w + 1, (by simp (maxSteps := 1000000) (implicitDefEqProofs := false) (disch := omega) only [push_cast, ↓reduceIte, Nat.reduceEqDiff, reduceCtorEq, wz]; try simp), ?_, hO4⟩⟩
              rw [get_set_eq hO3, List.take_of_length_le (by omega)]
              simp
        clear hρ hs0 hO ε σ
        rintro ε σ ⟨hρ, hs0, hO⟩
        simp (maxSteps := 1000000) (implicitDefEqProofs := false) (disch := omega) only [push_cast, ↓reduceIte, Nat.reduceEqDiff, reduceCtorEq, wz, hρ]
        refine hN (k + 1) _ _ ?_ (by omega)
        exact ⟨by simp (maxSteps := 1000000) (implicitDefEqProofs := false) (disch := omega) only [push_cast, ↓reduceIte, Nat.reduceEqDiff, reduceCtorEq, wz, hρ], by omega, hs0, by simp (maxSteps := 1000000) (implicitDefEqProofs := false) (disch := omega) only [push_cast, ↓reduceIte, Nat.reduceEqDiff, reduceCtorEq, wz, hO]⟩
      · simp (maxSteps := 1000000) (implicitDefEqProofs := false) (disch := omega) only [push_cast, ↓reduceIte, Nat.reduceEqDiff, reduceCtorEq, wz, hρ]
        obtain rfl : k = m.length := by omega
        exact hE _ _ ⟨⟨by simp (maxSteps := 1000000) (implicitDefEqProofs := false) (disch := omega) only [push_cast, ↓reduceIte, Nat.reduceEqDiff, reduceCtorEq, wz, hρ], hs0⟩, by simp (maxSteps := 1000000) (implicitDefEqProofs := false) (disch := omega) only [push_cast, ↓reduceIte, Nat.reduceEqDiff, reduceCtorEq, wz, hO]⟩
  clear hρ ε
  rintro ε σ ⟨⟨hρ, hs0⟩, hO⟩
  have hne : kN m m.length ≠ [] := by
    obtain ⟨j, h1, h2, h3⟩ := stays hM _ 0 rfl .zero
    have h4 := cnt_lt h3 h2 h2
    intro e
    unfold cnt at h4
    rw [e] at h4
    simp at h4
  have hkn := kN_len_le m m.length
  have hat := fun k x => kN_at m.length k x (Nat.le_refl m.length)
  have hrm : rndM m = (kN m m.length).map (mapX (cnt m)) := rfl
  rw [hrm]
  generalize kN m m.length = L at hO hne hkn hat
  rcases hO with ⟨hO1, _⟩ | ⟨_, j, w, hO2, hO3, hO4⟩
  · exact absurd hO1 hne
  refine wpa_seqx (fun ε σ => ε 6 = .ms j w 0 L.length 4 ∧ σ[j]? = some (.obj w ((L.map (mapX (cnt m))).flatMap aIx))) ?_ ?_
  · intro N X R hN
    simp (maxSteps := 1000000) (implicitDefEqProofs := false) (disch := omega) only [push_cast, ↓reduceIte, Nat.reduceEqDiff, reduceCtorEq, wz, hρ, hO2]
    refine wpa_blx (α := Nat) (I := fun k ε σ => (ε 5 = .ms 0 0 0 Z 1 ∧ ε 6 = .ms j w 0 L.length 4 ∧ ε 47 = .v (.int .i64 L.length) ∧ ε 48 = .v (.int .i64 k)) ∧ k ≤ L.length ∧ σ[0]? = some (.obj 0 (plN (cnt m) Z m.length)) ∧ σ[j]? = some (.obj w ((curL (cnt m) L k).flatMap aIx)))
      (μ := fun k => L.length - k) (Q := fun ε σ => ε 6 = .ms j w 0 L.length 4 ∧ σ[j]? = some (.obj w ((L.map (mapX (cnt m))).flatMap aIx))) (x := 0) ?_ ?_ hN
    · simp (maxSteps := 1000000) (implicitDefEqProofs := false) (disch := omega) only [push_cast, ↓reduceIte, Nat.reduceEqDiff, reduceCtorEq, wz, hρ, hO2]
      exact ⟨by omega, hs0, by rw [cur_0]; exact hO3⟩
    · clear hN N X R hρ hs0 hO2 hO3 ε σ
      rintro k ε σ N E X R ⟨hρ, hk, hs0, hs⟩ hN hE
      simp only [S_tidy_round_L2]
      by_cases hlt : k < L.length
      · obtain ⟨x, hx⟩ := at_lt hlt
        obtain ⟨i, _, _, hxm, _⟩ := hat k x hx
        have hcx := cur_at (f := cnt m) hx
        have h0 := op_at hcx
        have h1 := a_at hcx
        have h2 := b_at hcx
        have hll : ((curL (cnt m) L k).flatMap aIx).length = L.length * 4 := by rw [flat_len aIx_len, cur_len]
        simp (maxSteps := 1000000) (implicitDefEqProofs := false) (disch := omega) only [push_cast, ↓reduceIte, Nat.reduceEqDiff, reduceCtorEq, wz, hρ]
        refine wpa_callG (tidy_target_a hs h0) ?_
        rintro a σ' ⟨rfl, rfl⟩
        by_cases c1 : x.op = 18
        · have htg := hM.tg i x x.a hxm (tgt_jump c1)
          obtain ⟨t, ht⟩ : ∃ t : Nat, x.a = t := ⟨x.a.toNat, by omega⟩
          have hst := flat_set_a (t := ((cnt m t : Nat) : Int)) hcx
          have hmx := map18 (f := cnt m) c1
          have hpa := pl_at (f := cnt m) (Z := Z) (k := m.length) (t := t) (by omega) (by omega)
          rw [ht] at h1 hmx
          rw [Int.toNat_natCast] at hmx
          rw [← hmx, cur_set hx] at hst
          rw [tg18 c1]
          simp (maxSteps := 1000000) (implicitDefEqProofs := false) (disch := omega) only [push_cast, ↓reduceIte, Nat.reduceEqDiff, reduceCtorEq, wz, hρ, hs, h1, hs0, hpa]
          refine wpa_st1 rfl rfl hs (by rw [hll]; omega) ?_
          rw [hst]
          simp (maxSteps := 1000000) (implicitDefEqProofs := false) (disch := omega) only [push_cast, ↓reduceIte, Nat.reduceEqDiff, reduceCtorEq, wz, hρ]
          refine hN (k + 1) _ _ ?_ (by omega)
          exact ⟨by simp (maxSteps := 1000000) (implicitDefEqProofs := false) (disch := omega) only [push_cast, ↓reduceIte, Nat.reduceEqDiff, reduceCtorEq, wz, hρ], by omega, get_set_ne hO4 hs0, get_set_eq hs⟩
        by_cases c2 : x.op = 19
        · have htx : tgtX x = some x.b := by unfold tgtX; rw [if_neg c1, if_pos c2]
          have htg := hM.tg i x x.b hxm htx
          obtain ⟨t, ht⟩ : ∃ t : Nat, x.b = t := ⟨x.b.toNat, by omega⟩
          have hst := flat_set_b (t := ((cnt m t : Nat) : Int)) hcx
          have hmx := map19 (f := cnt m) c1 c2
          have hpa := pl_at (f := cnt m) (Z := Z) (k := m.length) (t := t) (by omega) (by omega)
          rw [ht] at h2 hmx
          rw [Int.toNat_natCast] at hmx
          rw [← hmx, cur_set hx] at hst
          rw [tg19 c1 c2]
          simp (maxSteps := 1000000) (implicitDefEqProofs := false) (disch := omega) only [push_cast, ↓reduceIte, Nat.reduceEqDiff, reduceCtorEq, wz, hρ, hs, h2, hs0, hpa]
          refine wpa_st1 rfl rfl hs (by rw [hll]; omega) ?_
          rw [hst]
          simp (maxSteps := 1000000) (implicitDefEqProofs := false) (disch := omega) only [push_cast, ↓reduceIte, Nat.reduceEqDiff, reduceCtorEq, wz, hρ]
          refine hN (k + 1) _ _ ?_ (by omega)
          exact ⟨by simp (maxSteps := 1000000) (implicitDefEqProofs := false) (disch := omega) only [push_cast, ↓reduceIte, Nat.reduceEqDiff, reduceCtorEq, wz, hρ], by omega, get_set_ne hO4 hs0, get_set_eq hs⟩
        rw [tg0 c1 c2]
        simp (maxSteps := 1000000) (implicitDefEqProofs := false) (disch := omega) only [push_cast, ↓reduceIte, Nat.reduceEqDiff, reduceCtorEq, wz, hρ, Option.isNone_none]
        refine hN (k + 1) _ _ ?_ (by omega)
        exact ⟨by simp (maxSteps := 1000000) (implicitDefEqProofs := false) (disch := omega) only [push_cast, ↓reduceIte, Nat.reduceEqDiff, reduceCtorEq, wz, hρ], by omega, hs0, by rw [cur_keep hx (map0 c1 c2)]; exact hs⟩
      · simp (maxSteps := 1000000) (implicitDefEqProofs := false) (disch := omega) only [push_cast, ↓reduceIte, Nat.reduceEqDiff, reduceCtorEq, wz, hρ]
        obtain rfl : k = L.length := by omega
        rw [cur_all] at hs
        exact hE _ _ ⟨by simp (maxSteps := 1000000) (implicitDefEqProofs := false) (disch := omega) only [push_cast, ↓reduceIte, Nat.reduceEqDiff, reduceCtorEq, wz, hρ], hs⟩
  clear hρ hs0 hO2 hO3 ε σ
  rintro ε σ ⟨hρ, hs⟩
  simp (maxSteps := 1000000) (implicitDefEqProofs := false) (disch := omega) only [push_cast, ↓reduceIte, Nat.reduceEqDiff, reduceCtorEq, wz, hρ]
  refine fin_res [j] ?_ (aIxs_pure _)
  have := res_ixs hs
  rwa [List.length_map] at this
end Go.Proofs.Ythgmfjkbgacfaaa
