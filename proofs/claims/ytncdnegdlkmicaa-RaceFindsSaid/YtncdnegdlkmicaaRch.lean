/- RaceFinds: the walk; shapes of what comes in. -/
import Derived.Test.YtncdnegdlkmicaaRce
import Derived.Test.YtncdnegdlkmicaaRzb
import Derived.Test.YtncdnegdlkmicaaCRl
namespace Go.Proofs.Ytncdnegdlkmicaa.Rc
set_option linter.unusedVariables false
set_option linter.unusedSimpArgs false
open Go Go.Kx Go.Proofs
open Go.Proofs.Ytncdnegdlkmicaa.Rx hiding at_lt snoc_ind take_succ_at drop_at mixed
open Go.Proofs.Ytncdnegdlkmicaa.St (Ac aAc aAc_len aAc_one aAc_pure aAc_res Nd aNd aNd_pure aNd_res)

theorem eqs3 (n : Bool) (a b c a' b' c' : Int) : PF.av (.eqs n [.int .i64, .int .i64, .int .i64]) [.agg [.v (.int .i64 a), .v (.int .i64 b), .v (.int .i64 c)], .agg [.v (.int .i64 a'), .v (.int .i64 b'), .v (.int .i64 c')]] = some (.v (.bool (n != (decide (a = a') && (decide (b = b') && decide (c = c')))))) := by
  show ((PF.val (.eqs n [.int .i64, .int .i64, .int .i64]) [.agg [.int .i64 a, .int .i64 b, .int .i64 c].toArray, .agg [.int .i64 a', .int .i64 b', .int .i64 c'].toArray]).map AV.v) = _
  simp only [PF.val, eqCs, eqC]
  have k (u v : Int) : (u == v) = decide (u = v) := by rw [Bool.eq_iff_iff]; simp
  simp only [k]
  by_cases h1 : a = a' <;> by_cases h2 : b = b' <;> by_cases h3 : c = c' <;> cases n <;> simp [h1, h2, h3]
theorem find_ref {xss : List (List Int)} {l : List Ac} {r : Fd} {q : Int × Int × Int} (h : FindR xss l r) (k : RefR xss l q) :
    r.e = q.2.2 ∧ ((r.ok = false ∧ q.1 < 0 ∧ r.i = 0 ∧ r.k = 0 ∧ r.w = 0) ∨ (r.ok = true ∧ 0 ≤ q.1 ∧ ∃ (j : Nat) (b : Ac), q.2.1 = j ∧ l[j]? = some b ∧ r.i = q.1 ∧ r.k = q.2.1 ∧ r.w = b.wd)) := by
  rcases h with ⟨a, rfl⟩ | ⟨a, b, rfl⟩ | ⟨a, b, p, c, rfl⟩ <;> rcases k with ⟨a', rfl⟩ | ⟨a', b', rfl⟩ | ⟨a', b', p', c', rfl⟩
  · exact ⟨rfl, .inl ⟨rfl, (by show (-1 : Int) < 0; decide), rfl, rfl, rfl⟩⟩
  · exact absurd a' a
  · exact absurd a' a
  · exact absurd a a'
  · exact ⟨rfl, .inl ⟨rfl, (by show (-1 : Int) < 0; decide), rfl, rfl, rfl⟩⟩
  · exact absurd b b'
  · exact absurd a a'
  · exact absurd b' b
  · have e := c.uniq c'
    subst e
    cases p with
    | none => exact ⟨rfl, .inl ⟨rfl, (by show (-1 : Int) < 0; decide), rfl, rfl, rfl⟩⟩
    | some p =>
      obtain ⟨b', hb⟩ := at_lt (l := l) (k := p.2) c.2.1
      exact ⟨rfl, .inr ⟨rfl, by simp only; omega, p.2, b', rfl, hb, rfl, rfl, (wdAt_at hb).1⟩⟩
set_option maxHeartbeats 8000000 in
theorem RaceFinds_a (xss : List (List Int)) (l : List Ac) (hs : xss.length ≤ 9223372036854775807) (hl : l.length ≤ 9223372036854775807) :
    FnP Try.prog 6 [aInts2 xss, aAcs l] fun a => a = aBool true := by
  refine fnP_in K_forebaylaw32_RaceFinds mixed rfl (by simp [AV.pureL, aInts2_pure, aAcs_pure]) ?_
  simp only [S_forebaylaw32_RaceFinds]
  refine wpa_seqx (fun ε σ => (ε 0 = aInts2 xss ∧ ε 1 = aAcs l) ∧ σ = []) ?_ ?_
  · intro N X R hN
    simp (maxSteps:=999999) -implicitDefEqProofs (disch:=omega) only [push_cast,↓reduceIte,Nat.reduceEqDiff,reduceCtorEq,wz]
    exact hN _ _ (by simp (maxSteps:=999999) -implicitDefEqProofs (disch:=omega) only [push_cast,↓reduceIte,Nat.reduceEqDiff,reduceCtorEq,wz])
  rintro ε σ ⟨hρ, rfl⟩
  refine wpa_seq (fun ε σ => (ε 0 = aInts2 xss ∧ ε 1 = aAcs l) ∧ σ = []) ?_ ?_
  · intro N hN
    simp (maxSteps:=999999) -implicitDefEqProofs (disch:=omega) only [push_cast,↓reduceIte,Nat.reduceEqDiff,reduceCtorEq,wz]
    refine wpa_call law32_Works_a ?_
    rintro a rfl
    simp (maxSteps:=999999) -implicitDefEqProofs (disch:=omega) only [push_cast,↓reduceIte,Nat.reduceEqDiff,reduceCtorEq,wz,aBool]
    exact hN _ _ (by simp (maxSteps:=999999) -implicitDefEqProofs (disch:=omega) only [push_cast,↓reduceIte,Nat.reduceEqDiff,reduceCtorEq,wz,hρ])
  clear hρ ε
  rintro ε σ ⟨hρ, rfl⟩
  refine wpa_seq (fun ε σ => (ε 0 = aInts2 xss ∧ ε 1 = aAcs l) ∧ σ = [] ∧ l.length ≤ 150 ∧ xss.length ≤ 200 ∧ ∀ x ∈ xss, x.length ≤ 60) ?_ ?_
  · intro N hN
    simp (maxSteps:=999999) -implicitDefEqProofs (disch:=omega) only [push_cast,↓reduceIte,Nat.reduceEqDiff,reduceCtorEq,wz,hρ]
    refine wpa_call (law32_great_a xss l hs hl) ?_
    rintro a ⟨b, rfl, hb⟩
    cases b with
    | true =>
      simp (maxSteps:=999999) -implicitDefEqProofs (disch:=omega) only [push_cast,↓reduceIte,Nat.reduceEqDiff,reduceCtorEq,wz,aBool]
      first | exact ⟨[], rfl, rfl⟩ | exact ⟨[], rfl⟩
    | false =>
      simp (maxSteps:=999999) -implicitDefEqProofs (disch:=omega) only [push_cast,↓reduceIte,Nat.reduceEqDiff,reduceCtorEq,wz,aBool]
      exact hN _ _ ⟨by simp (maxSteps:=999999) -implicitDefEqProofs (disch:=omega) only [push_cast,↓reduceIte,Nat.reduceEqDiff,reduceCtorEq,wz,hρ], rfl, hb rfl⟩
  clear hρ ε hs hl
  rintro ε σ ⟨hρ, rfl, hl, hs, hs2⟩
  have hs2' : ∀ x ∈ xss, x.length ≤ 1000000 := fun x hx => by have := hs2 x hx; omega
  have hD := law32_dag_a xss l (by omega) hs2' (by omega)
  have hF := race_Find_a xss (.sl 0 [] .none) l rfl (by omega) hs2' (by omega)
  have hR := ref32_Find_a xss l (by omega) hs2' (by omega)
  refine wpa_seqx (fun ε σ => ∃ r : Fd, FindR xss l r ∧ (ε 0 = aInts2 xss ∧ ε 1 = aAcs l ∧ ε 5 = .ref 0 0 0 ∧ ε 6 = .v (.bool r.ok) ∧ ε 7 = .v (.int .i64 r.e)) ∧ σ = [.obj 0 [AV.v (.int .i64 r.i), AV.v (.int .i64 r.k), AV.v (.int .i64 r.w)]]) ?_ ?_
  · intro N X R hN
    simp (maxSteps:=999999) -implicitDefEqProofs (disch:=omega) only [push_cast,↓reduceIte,Nat.reduceEqDiff,reduceCtorEq,wz,hρ]
    refine wpa_call hD ?_
    rintro a rfl
    simp (maxSteps:=999999) -implicitDefEqProofs (disch:=omega) only [push_cast,↓reduceIte,Nat.reduceEqDiff,reduceCtorEq,wz]
    refine wpa_call hF ?_
    rintro a ⟨r, rfl, hr⟩
    simp (maxSteps:=999999) -implicitDefEqProofs (disch:=omega) only [push_cast,↓reduceIte,Nat.reduceEqDiff,reduceCtorEq,wz,aFd]
    refine wpa_new ?_
    simp (maxSteps:=999999) -implicitDefEqProofs (disch:=omega) only [push_cast,↓reduceIte,Nat.reduceEqDiff,reduceCtorEq,wz]
    refine wpa_stn (n := 3) (cs := [AV.v (.int .i64 0), AV.v (.int .i64 0), AV.v (.int .i64 0)]) rfl rfl rfl (by decide) ?_
    rw [set3n]
    simp (maxSteps:=999999) -implicitDefEqProofs (disch:=omega) only [push_cast,↓reduceIte,Nat.reduceEqDiff,reduceCtorEq,wz]
    exact hN _ _ ⟨r, hr, by simp (maxSteps:=999999) -implicitDefEqProofs (disch:=omega) only [push_cast,↓reduceIte,Nat.reduceEqDiff,reduceCtorEq,wz,hρ], rfl⟩
  clear hρ ε
  rintro ε σ ⟨r, hr, hρ, rfl⟩
  refine wpa_seqx (fun ε σ => ∃ q : Int × Int × Int, RefR xss l q ∧ (ε 1 = aAcs l ∧ ε 5 = .ref 0 0 0 ∧ ε 6 = .v (.bool r.ok) ∧ ε 7 = .v (.int .i64 r.e) ∧ ε 8 = .v (.int .i64 q.1) ∧ ε 9 = .v (.int .i64 q.2.1) ∧ ε 10 = .v (.int .i64 q.2.2)) ∧ σ = [.obj 0 [AV.v (.int .i64 r.i), AV.v (.int .i64 r.k), AV.v (.int .i64 r.w)]]) ?_ ?_
  · intro N X R hN
    simp (maxSteps:=999999) -implicitDefEqProofs (disch:=omega) only [push_cast,↓reduceIte,Nat.reduceEqDiff,reduceCtorEq,wz,hρ]
    refine wpa_call hR ?_
    rintro a ⟨q, rfl, hq⟩
    simp (maxSteps:=999999) -implicitDefEqProofs (disch:=omega) only [push_cast,↓reduceIte,Nat.reduceEqDiff,reduceCtorEq,wz,aRf]
    exact hN _ _ ⟨q, hq, by simp (maxSteps:=999999) -implicitDefEqProofs (disch:=omega) only [push_cast,↓reduceIte,Nat.reduceEqDiff,reduceCtorEq,wz,hρ], rfl⟩
  clear hρ ε
  rintro ε σ ⟨q, hq, hρ, rfl⟩
  obtain ⟨he, hcase⟩ := find_ref hr hq
  obtain ⟨i, k, w, ok, e⟩ := r
  obtain ⟨q1, q2, q3⟩ := q
  simp only at he hcase hρ ⊢
  subst he
  have hA : aAcs l = .sl l.length (l.flatMap aAc) .none := rfl
  rcases hcase with ⟨rfl, hq1, rfl, rfl, rfl⟩ | ⟨rfl, hq1, j, b, rfl, hb, rfl, rfl, rfl⟩
  · have hq := eqs3 false 0 0 0 0 0 0
    simp (maxSteps:=999999) -implicitDefEqProofs (disch:=omega) only [push_cast,↓reduceIte,Nat.reduceEqDiff,reduceCtorEq,wz,hρ,hq1,fill3z,cell3,hq]
    first | exact ⟨[], rfl, rfl⟩ | exact ⟨[], rfl⟩
  · have hq := eqs3 false i j b.wd i j b.wd
    have hd := flat_drop aAc_len hb
    have g1 : ∀ t : List AV, (aAc b ++ t)[1]? = some (.v (.int .i64 b.wd)) := fun _ => rfl
    have hjl := lt_at hb
    simp (maxSteps:=999999) -implicitDefEqProofs (disch:=omega) only [push_cast,↓reduceIte,Nat.reduceEqDiff,reduceCtorEq,wz,hρ,hq1,hA,fill3n,cell3,hd,g1,hq]
    first | exact ⟨[], rfl, rfl⟩ | exact ⟨[], rfl⟩
end Go.Proofs.Ytncdnegdlkmicaa.Rc
