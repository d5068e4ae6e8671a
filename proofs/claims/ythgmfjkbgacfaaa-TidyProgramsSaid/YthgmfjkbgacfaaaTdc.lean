/- Tidy: what is wrong with an instruction, by the document. -/
import Derived.Test.YthgmfjkbgacfaaaTdb
namespace Go.Proofs.Ythgmfjkbgacfaaa
set_option linter.unusedVariables false
set_option linter.unusedSimpArgs false
open Go Go.Kx Go.Proofs

def FL : List AV := [⟨#[]⟩, ⟨#[114, 110]⟩, ⟨#[114, 114]⟩, ⟨#[114, 114, 114]⟩, ⟨#[114, 114, 114]⟩, ⟨#[114, 114, 114]⟩, ⟨#[114, 114, 114]⟩, ⟨#[114, 114, 114]⟩, ⟨#[114, 114, 114]⟩, ⟨#[114, 114, 114]⟩, ⟨#[114, 114, 114]⟩, ⟨#[114, 114, 114]⟩, ⟨#[114, 114, 114]⟩, ⟨#[114, 114]⟩, ⟨#[114, 114]⟩, ⟨#[114, 114, 114]⟩, ⟨#[114, 114, 114]⟩, ⟨#[114]⟩, ⟨#[116]⟩, ⟨#[114, 116]⟩, ⟨#[102]⟩, ⟨#[]⟩, ⟨#[102]⟩, ⟨#[114]⟩, ⟨#[114]⟩, ⟨#[]⟩].map fun s : ByteArray => .v (.string s)
theorem FL_at (n : Nat) (h : n < 26) : FL[n]? = some (.v (.string (fmS n))) := by
  have : n = 0 ∨ n = 1 ∨ n = 2 ∨ n = 3 ∨ n = 4 ∨ n = 5 ∨ n = 6 ∨ n = 7 ∨ n = 8 ∨ n = 9 ∨ n = 10 ∨ n = 11 ∨ n = 12 ∨ n = 13 ∨ n = 14 ∨ n = 15 ∨ n = 16 ∨ n = 17 ∨ n = 18 ∨ n = 19 ∨ n = 20 ∨ n = 21 ∨ n = 22 ∨ n = 23 ∨ n = 24 ∨ n = 25 := by omega
  rcases this with rfl | rfl | rfl | rfl | rfl | rfl | rfl | rfl | rfl | rfl | rfl | rfl | rfl | rfl | rfl | rfl | rfl | rfl | rfl | rfl | rfl | rfl | rfl | rfl | rfl | rfl <;> rfl
theorem ref03_Forms_a : FnP Try.prog 123 [] fun a => a = .sl 26 FL .none := by
  refine fnP_in K_forebayref03_Forms mixed rfl (by simp [AV.pureL]) ?_
  simp only [S_forebayref03_Forms]
  simp (maxSteps := 1000000) (implicitDefEqProofs := false) (disch := omega) only [push_cast, ↓reduceIte, Nat.reduceEqDiff, reduceCtorEq, wz]
  refine wpa_bsl (sz := 1) (by intro a ha; have hm : a ∈ FL := ha; obtain ⟨s, _, rfl⟩ := List.mem_map.1 hm; rfl) (by simp) ?_
  simp (maxSteps := 1000000) (implicitDefEqProofs := false) (disch := omega) only [push_cast, ↓reduceIte, Nat.reduceEqDiff, reduceCtorEq, wz]
  refine ⟨[], by decide, ?_⟩
  simp [AV.res, AV.resL, FL]
theorem ref03_Form_a (op : Int) (h0 : 0 ≤ op) (h1 : op < 26) : FnP Try.prog 116 [aInt op] fun a => a = .v (.string (fmS op)) := by
  refine fnP_in K_forebayref03_Form mixed rfl (by simp [AV.pureL, aInt_pure]) ?_
  simp only [S_forebayref03_Form, aInt]
  have c1 : ¬ op < 0 := by omega
  have c2 : ¬ 25 < op := by omega
  have hFL : FL[op.toNat]? = some (.v (.string (fmS op))) := by
    rw [FL_at _ (by omega), show ((op.toNat : Nat) : Int) = op by omega]
  simp (maxSteps := 1000000) (implicitDefEqProofs := false) (disch := omega) only [push_cast, ↓reduceIte, Nat.reduceEqDiff, reduceCtorEq, wz, c1, c2]
  refine wpa_call ref03_Forms_a ?_
  rintro a rfl
  simp (maxSteps := 1000000) (implicitDefEqProofs := false) (disch := omega) only [push_cast, ↓reduceIte, Nat.reduceEqDiff, reduceCtorEq, wz, hFL]
  first | exact ⟨[], rfl, rfl⟩ | exact ⟨[], rfl⟩
theorem one_eq (a b : UInt8) : decide ((⟨#[a]⟩ : ByteArray) = ⟨#[b]⟩) = decide (a = b) := by
  rw [Bool.eq_iff_iff]; simp
theorem ref03_ends_a (b : UInt8) : FnP Try.prog 117 [.v (.string ⟨#[b]⟩)] fun a => a = .tup [aInt (endsB b).1, aInt (endsB b).2] := by
  refine fnP_in K_forebayref03_ends mixed rfl (by simp [AV.pureL, AV.pure]) ?_
  simp only [S_forebayref03_ends, aInt]
  by_cases h1 : b = 114
  · have e : endsB b = (0, 7) := by subst h1; rfl
    rw [e]
    simp (maxSteps := 1000000) (implicitDefEqProofs := false) (disch := omega) only [push_cast, ↓reduceIte, Nat.reduceEqDiff, reduceCtorEq, wz, one_eq, h1]
    first | exact ⟨[], rfl, rfl⟩ | exact ⟨[], rfl⟩
  by_cases h2 : b = 102
  · have e : endsB b = (0, 15) := by subst h2; rfl
    rw [e]
    have h1' : ((102 : UInt8) = 114) = False := by simp
    simp (maxSteps := 1000000) (implicitDefEqProofs := false) (disch := omega) only [push_cast, ↓reduceIte, Nat.reduceEqDiff, reduceCtorEq, wz, one_eq, h2, h1']
    first | exact ⟨[], rfl, rfl⟩ | exact ⟨[], rfl⟩
  by_cases h3 : b = 116
  · have e : endsB b = (0, 199) := by subst h3; rfl
    rw [e]
    have h1' : ((116 : UInt8) = 114) = False := by simp
    have h2' : ((116 : UInt8) = 102) = False := by simp
    simp (maxSteps := 1000000) (implicitDefEqProofs := false) (disch := omega) only [push_cast, ↓reduceIte, Nat.reduceEqDiff, reduceCtorEq, wz, one_eq, h3, h1', h2']
    first | exact ⟨[], rfl, rfl⟩ | exact ⟨[], rfl⟩
  have e : endsB b = (-32768, 32767) := by unfold endsB; rw [if_neg h1, if_neg h2, if_neg h3]
  rw [e]
  simp (maxSteps := 1000000) (implicitDefEqProofs := false) (disch := omega) only [push_cast, ↓reduceIte, Nat.reduceEqDiff, reduceCtorEq, wz, one_eq, h1, h2, h3]
  first | exact ⟨[], rfl, rfl⟩ | exact ⟨[], rfl⟩
set_option maxHeartbeats 8000000 in
theorem ref03_Check_a (x : Ix) : FnP Try.prog 95 [.agg (aIx x)] fun a => a = aInt (insE x) := by
  refine fnP_in K_forebayref03_Check mixed rfl (by simp [AV.pureL, AV.pure, aIx_pure]) ?_
  simp only [S_forebayref03_Check]
  have hac : (AV.agg (aIx x)).cells = aIx x := rfl
  have g0 : (aIx x)[0]? = some (.v (.int .i64 x.op)) := rfl
  have g1 : (aIx x)[1]? = some (.v (.int .i64 x.a)) := rfl
  have g2 : (aIx x)[2]? = some (.v (.int .i64 x.b)) := rfl
  have g3 : (aIx x)[3]? = some (.v (.int .i64 x.c)) := rfl
  refine wpa_seqx (fun ε σ => ε 1 = .ref 0 0 0 ∧ σ = [.obj 0 (aIx x)]) ?_ ?_
  · intro N X R hN
    simp (maxSteps := 1000000) (implicitDefEqProofs := false) (disch := omega) only [push_cast, ↓reduceIte, Nat.reduceEqDiff, reduceCtorEq, wz]
    refine wpa_box ?_
    simp (maxSteps := 1000000) (implicitDefEqProofs := false) (disch := omega) only [push_cast, ↓reduceIte, Nat.reduceEqDiff, reduceCtorEq, wz, hac]
    exact hN _ _ (by simp (maxSteps := 1000000) (implicitDefEqProofs := false) (disch := omega) only [push_cast, ↓reduceIte, Nat.reduceEqDiff, reduceCtorEq, wz])
  rintro ε σ ⟨hρ, rfl⟩
  refine wpa_seq (fun ε σ => ε 1 = .ref 0 0 0 ∧ (0 ≤ x.op ∧ x.op < 26) ∧ σ = [.obj 0 (aIx x)]) ?_ ?_
  · intro N hN
    by_cases c1 : x.op < 0
    · have e : insE x = 5 := by unfold insE; rw [if_pos (.inl c1)]
      simp (maxSteps := 1000000) (implicitDefEqProofs := false) (disch := omega) only [push_cast, ↓reduceIte, Nat.reduceEqDiff, reduceCtorEq, wz, hρ, g0, c1, e]
      first | exact ⟨[], rfl, rfl⟩ | exact ⟨[], rfl⟩
    by_cases c2 : 25 < x.op
    · have e : insE x = 5 := by unfold insE; rw [if_pos (.inr (by omega))]
      simp (maxSteps := 1000000) (implicitDefEqProofs := false) (disch := omega) only [push_cast, ↓reduceIte, Nat.reduceEqDiff, reduceCtorEq, wz, hρ, g0, c1, c2, e]
      first | exact ⟨[], rfl, rfl⟩ | exact ⟨[], rfl⟩
    simp (maxSteps := 1000000) (implicitDefEqProofs := false) (disch := omega) only [push_cast, ↓reduceIte, Nat.reduceEqDiff, reduceCtorEq, wz, hρ, g0, c1, c2]
    exact hN _ _ (by simp (maxSteps := 1000000) (implicitDefEqProofs := false) (disch := omega) only [push_cast, ↓reduceIte, Nat.reduceEqDiff, reduceCtorEq, wz, hρ]; omega)
  clear hρ ε
  rintro ε σ ⟨hρ, hop, rfl⟩
  have hE : insE x = if ((letX x).zip (opsX x)).all (fun p => fitB p.1 p.2) then (if ((opsX x).drop (letX x).length).all (fun n => decide (n = 0)) then 0 else 4) else 3 := by unfold insE; rw [if_neg (by omega)]
  have hL3 := letX_len x
  have hsz := letX_size x
  refine wpa_seqx (fun ε σ => (ε 1 = .ref 0 0 0 ∧ ε 3 = .v (.string (fmS x.op))) ∧ σ = [.obj 0 (aIx x)]) ?_ ?_
  · intro N X R hN
    simp (maxSteps := 1000000) (implicitDefEqProofs := false) (disch := omega) only [push_cast, ↓reduceIte, Nat.reduceEqDiff, reduceCtorEq, wz, hρ, g0]
    refine wpa_call (ref03_Form_a x.op hop.1 hop.2) ?_
    rintro a rfl
    simp (maxSteps := 1000000) (implicitDefEqProofs := false) (disch := omega) only [push_cast, ↓reduceIte, Nat.reduceEqDiff, reduceCtorEq, wz]
    exact hN _ _ (by simp (maxSteps := 1000000) (implicitDefEqProofs := false) (disch := omega) only [push_cast, ↓reduceIte, Nat.reduceEqDiff, reduceCtorEq, wz, hρ])
  clear hρ ε
  rintro ε σ ⟨hρ, rfl⟩
  refine wpa_seqx (fun ε σ => (ε 3 = .v (.string (fmS x.op)) ∧ ε 4 = .sl 3 (aI3 x) .full)) ?_ ?_
  · intro N X R hN
    simp (maxSteps := 1000000) (implicitDefEqProofs := false) (disch := omega) only [push_cast, ↓reduceIte, Nat.reduceEqDiff, reduceCtorEq, wz, hρ, g1, g2, g3]
    refine wpa_bsl (sz := 1) (by intro a ha; simp at ha; rcases ha with rfl | rfl | rfl <;> rfl) (by simp) ?_
    simp (maxSteps := 1000000) (implicitDefEqProofs := false) (disch := omega) only [push_cast, ↓reduceIte, Nat.reduceEqDiff, reduceCtorEq, wz]
    exact hN _ _ (by simp (maxSteps := 1000000) (implicitDefEqProofs := false) (disch := omega) only [push_cast, ↓reduceIte, Nat.reduceEqDiff, reduceCtorEq, wz, hρ]; rfl)
  clear hρ ε
  rintro ε σ hρ
  refine wpa_seq (fun ε σ => (ε 3 = .v (.string (fmS x.op)) ∧ ε 4 = .sl 3 (aI3 x) .full) ∧ ((letX x).zip (opsX x)).all (fun p => fitB p.1 p.2) = true) ?_ ?_
  · intro N hN
    simp (maxSteps := 1000000) (implicitDefEqProofs := false) (disch := omega) only [push_cast, ↓reduceIte, Nat.reduceEqDiff, reduceCtorEq, wz]
    refine wpa_bl (α := Nat) (I := fun k ε σ => (ε 3 = .v (.string (fmS x.op)) ∧ ε 4 = .sl 3 (aI3 x) .full ∧ ε 5 = .v (.int .i64 k)) ∧ k ≤ (letX x).length ∧ (((letX x).zip (opsX x)).take k).all (fun p => fitB p.1 p.2) = true)
      (μ := fun k => (letX x).length - k) (Q := fun ε σ => (ε 3 = .v (.string (fmS x.op)) ∧ ε 4 = .sl 3 (aI3 x) .full) ∧ ((letX x).zip (opsX x)).all (fun p => fitB p.1 p.2) = true) (x := 0) ?_ ?_ hN
    · simp (maxSteps := 1000000) (implicitDefEqProofs := false) (disch := omega) only [push_cast, ↓reduceIte, Nat.reduceEqDiff, reduceCtorEq, wz, hρ]
      exact ⟨by omega, rfl⟩
    · clear hN N hρ ε
      rintro k ε σ N E ⟨hρ, hk, hall⟩ hN hE'
      simp only [S_forebayref03_Check_L1]
      by_cases hlt : k < (letX x).length
      · obtain ⟨b, hb⟩ := at_lt hlt
        obtain ⟨n, hn⟩ := at_lt (l := opsX x) (k := k) (by show k < 3; omega)
        have hn' : (aI3 x)[k]? = some (.v (.int .i64 n)) := by rw [aI3_map, List.getElem?_map, hn]; rfl
        have hz := zip_all (f := fun _ => true) hb hn
        have hsu := take_succ_at hz
        have hex : (fmS x.op).extract k (k + 1) = ⟨#[b]⟩ := str_one (by show (letX x)[k]? = some b; exact hb)
        have hss : PF.val (.sls true true) [.string (fmS x.op), .int .i64 k, .int .i64 (k + 1)] = some (.string ⟨#[b]⟩) := by
          rw [pv_sls_lh _ _ _ _ _ (by omega) (by omega) (by omega)]
          rw [show (((k : Nat) : Int)).toNat = k by omega, show (((k : Nat) : Int) + 1).toNat = k + 1 by omega, hex]
        have hf : fitB b n = decide ((endsB b).1 ≤ n ∧ n ≤ (endsB b).2) := rfl
        simp (maxSteps := 1000000) (implicitDefEqProofs := false) (disch := omega) only [push_cast, ↓reduceIte, Nat.reduceEqDiff, reduceCtorEq, wz, hρ, hsz, hss]
        refine wpa_call (ref03_ends_a b) ?_
        rintro a rfl
        generalize endsB b = lh at hf
        by_cases d1 : n < lh.1
        · have hfn : fitB b n = false := by rw [hf]; simp; omega
          have e : insE x = 3 := by
            rw [hE, if_neg]
            rw [List.all_eq_true]
            intro h
            have := h (b, n) (List.mem_of_getElem? hz)
            simp only [hfn] at this
            cases this
          rw [e]
          simp (maxSteps := 1000000) (implicitDefEqProofs := false) (disch := omega) only [push_cast, ↓reduceIte, Nat.reduceEqDiff, reduceCtorEq, wz, hρ, aInt, hn', d1]
          first | exact ⟨[], rfl, rfl⟩ | exact ⟨[], rfl⟩
        by_cases d2 : lh.2 < n
        · have hfn : fitB b n = false := by rw [hf]; simp; omega
          have e : insE x = 3 := by
            rw [hE, if_neg]
            rw [List.all_eq_true]
            intro h
            have := h (b, n) (List.mem_of_getElem? hz)
            simp only [hfn] at this
            cases this
          rw [e]
          simp (maxSteps := 1000000) (implicitDefEqProofs := false) (disch := omega) only [push_cast, ↓reduceIte, Nat.reduceEqDiff, reduceCtorEq, wz, hρ, aInt, hn', d1, d2]
          first | exact ⟨[], rfl, rfl⟩ | exact ⟨[], rfl⟩
        have hfn : fitB b n = true := by rw [hf]; simp; omega
        simp (maxSteps := 1000000) (implicitDefEqProofs := false) (disch := omega) only [push_cast, ↓reduceIte, Nat.reduceEqDiff, reduceCtorEq, wz, hρ, aInt, hn', d1, d2]
        exact hN (k + 1) _ _ ⟨by simp (maxSteps := 1000000) (implicitDefEqProofs := false) (disch := omega) only [push_cast, ↓reduceIte, Nat.reduceEqDiff, reduceCtorEq, wz, hρ], by omega, by rw [hsu, List.all_append, hall]; simp [hfn]⟩ (by omega)
      · simp (maxSteps := 1000000) (implicitDefEqProofs := false) (disch := omega) only [push_cast, ↓reduceIte, Nat.reduceEqDiff, reduceCtorEq, wz, hρ, hsz]
        refine hE' _ _ ⟨by simp (maxSteps := 1000000) (implicitDefEqProofs := false) (disch := omega) only [push_cast, ↓reduceIte, Nat.reduceEqDiff, reduceCtorEq, wz, hρ], ?_⟩
        rw [List.take_of_length_le] at hall
        · exact hall
        · rw [List.length_zip]; omega
  clear hρ ε
  rintro ε σ ⟨hρ, hall⟩
  rw [hE, if_pos hall]
  refine wpa_seq (fun ε σ => ((opsX x).drop (letX x).length).all (fun n => decide (n = 0)) = true) ?_ ?_
  · intro N hN
    simp (maxSteps := 1000000) (implicitDefEqProofs := false) (disch := omega) only [push_cast, ↓reduceIte, Nat.reduceEqDiff, reduceCtorEq, wz, hρ, hsz]
    refine wpa_bl (α := Nat) (I := fun k ε σ => (ε 4 = .sl 3 (aI3 x) .full ∧ ε 8 = .v (.int .i64 k)) ∧ (letX x).length ≤ k ∧ k ≤ 3 ∧ (((opsX x).take k).drop (letX x).length).all (fun n => decide (n = 0)) = true)
      (μ := fun k => 3 - k) (Q := fun ε σ => ((opsX x).drop (letX x).length).all (fun n => decide (n = 0)) = true) (x := (letX x).length) ?_ ?_ hN
    · simp (maxSteps := 1000000) (implicitDefEqProofs := false) (disch := omega) only [push_cast, ↓reduceIte, Nat.reduceEqDiff, reduceCtorEq, wz, hρ]
      exact ⟨by omega, by omega, by rw [List.drop_of_length_le (by rw [List.length_take]; omega)]; rfl⟩
    · clear hρ ε hN N
      rintro k ε σ N E ⟨hρ, hLk, hk, ha⟩ hN hE'
      simp only [S_forebayref03_Check_L2]
      by_cases hlt : k < 3
      · obtain ⟨n, hn⟩ := at_lt (l := opsX x) (k := k) hlt
        have hn' : (aI3 x)[k]? = some (.v (.int .i64 n)) := by rw [aI3_map, List.getElem?_map, hn]; rfl
        have hsu := take_succ_at hn
        have hlt' : (k : Int) < 3 := by omega
        by_cases h0 : n = 0
        · rw [h0] at hn'
          simp (maxSteps := 1000000) (implicitDefEqProofs := false) (disch := omega) only [push_cast, ↓reduceIte, Nat.reduceEqDiff, reduceCtorEq, wz, hρ, hn', hlt']
          refine hN (k + 1) _ _ ⟨by simp (maxSteps := 1000000) (implicitDefEqProofs := false) (disch := omega) only [push_cast, ↓reduceIte, Nat.reduceEqDiff, reduceCtorEq, wz, hρ], by omega, by omega, ?_⟩ (by omega)
          rw [hsu, List.drop_append_of_le_length (by rw [List.length_take]; show _ ≤ min k 3; omega), List.all_append, ha]
          simp [h0]
        · have e : (((opsX x).drop (letX x).length).all fun n => decide (n = 0)) = false := by
            rw [List.all_eq_false]
            refine ⟨n, ?_, by simpa using h0⟩
            refine List.mem_of_getElem? (i := k - (letX x).length) ?_
            rw [List.getElem?_drop, show (letX x).length + (k - (letX x).length) = k by omega]
            exact hn
          rw [e]
          simp (maxSteps := 1000000) (implicitDefEqProofs := false) (disch := omega) only [push_cast, ↓reduceIte, Nat.reduceEqDiff, reduceCtorEq, wz, hρ, hn', h0, hlt']
          first | exact ⟨[], rfl, rfl⟩ | exact ⟨[], rfl⟩
      · have hlt' : ¬ (k : Int) < 3 := by omega
        simp (maxSteps := 1000000) (implicitDefEqProofs := false) (disch := omega) only [push_cast, ↓reduceIte, Nat.reduceEqDiff, reduceCtorEq, wz, hρ, hlt']
        rw [List.take_of_length_le (by show 3 ≤ k; omega)] at ha
        exact hE' _ _ ha
  rintro ε σ h
  rw [if_pos h]
  simp (maxSteps := 1000000) (implicitDefEqProofs := false) (disch := omega) only [push_cast, ↓reduceIte, Nat.reduceEqDiff, reduceCtorEq, wz]
  first | exact ⟨[], rfl, rfl⟩ | exact ⟨[], rfl⟩
end Go.Proofs.Ythgmfjkbgacfaaa
