/- words.Num. -/
import Derived.Test.YtjdpejggafefjaaDoorWk
namespace Go.Proofs.YtjdpejggafefjaaDoor
set_option linter.unusedVariables false
set_option linter.unusedSimpArgs false
open Go Go.Kx Go.Proofs

abbrev aNum (p : Int × Bool) : AV := .tup [.v (.int .i64 p.1), .v (.bool p.2)]
set_option maxHeartbeats 4000000 in
theorem Num_a (l : List UInt8) (hl : l.length ≤ 1000000) : FnP Tryd.prog 29 [aB l] fun a => a = aNum (numF l) := by
  refine fnP_in K_words_Num mixed rfl rfl ?_
  simp only [S_words_Num]
  by_cases h20 : 20 < l.length
  · have hgt : ((20 : Int) < (bA l).size) := by rw [size_bA]; omega
    simp (maxSteps:=999999) -implicitDefEqProofs (disch:=omega) only [push_cast,↓reduceIte,Nat.reduceEqDiff,reduceCtorEq,wz,hgt]
    refine fin_vv ?_
    unfold numF
    rw [if_pos h20]
  · have hgt : ¬ ((20 : Int) < (bA l).size) := by rw [size_bA]; omega
    simp (maxSteps:=999999) -implicitDefEqProofs (disch:=omega) only [push_cast,↓reduceIte,Nat.reduceEqDiff,reduceCtorEq,wz,hgt]
    refine wpa_call (TrimPrefix_a l 45 hl) ?_
    rintro a rfl
    simp (maxSteps:=999999) -implicitDefEqProofs (disch:=omega) only [push_cast,↓reduceIte,Nat.reduceEqDiff,reduceCtorEq,wz]
    refine wpa_sit ?_
    simp (maxSteps:=999999) -implicitDefEqProofs (disch:=omega) only [push_cast,↓reduceIte,Nat.reduceEqDiff,reduceCtorEq,wz]
    have htl : (bodyN l).length ≤ 20 := by
      have h1 : l.tail.length ≤ l.length := by rw [List.length_tail]; omega
      unfold bodyN
      split <;> omega
    change act (wpA _ _ _ _ _ _ [.itr (bA (bodyN l)) 0])
    generalize hT : bodyN l = T at htl
    refine wpa_bl (α := Nat) (I := fun k ε σ => (ε 0 = aB l ∧ ε 12 = .ref 0 0 0 ∧ ε 4 = .v (.int .i64 (IntKind.i64.wrap (-(valD (T.take k)))))) ∧ k ≤ T.length ∧ σ[0]? = some (.itr (bA T) k) ∧ (T.take k).all digB = true)
      (μ := fun k => T.length - k) (Q := fun ε σ => (ε 0 = aB l ∧ ε 4 = .v (.int .i64 (IntKind.i64.wrap (-(valD T))))) ∧ T.all digB = true) (x := 0) ?_ ?_ ?_
    · simp (maxSteps:=999999) -implicitDefEqProofs (disch:=omega) only [push_cast,↓reduceIte,Nat.reduceEqDiff,reduceCtorEq,wz]
      exact ⟨rfl, by omega, rfl⟩
    · rintro k ε σ N E ⟨hρ, hk, hit, hdg⟩ hN hE
      simp only [S_words_Num_L1]
      simp (maxSteps:=999999) -implicitDefEqProofs (disch:=omega) only [push_cast,↓reduceIte,Nat.reduceEqDiff,reduceCtorEq,wz,hρ]
      by_cases hlt : k < T.length
      · obtain ⟨b, hb⟩ := at_lt hlt
        have hsz : k < (bA T).size := hlt
        have hget : (bA T).get! k = b := Option.some.inj ((data_at hsz).symm.trans hb)
        have hnum : digB b ≠ true → numF l = (0, false) := by
          intro hd
          unfold numF
          rw [if_neg h20, hT, if_neg]
          intro h
          exact hd (List.all_eq_true.1 h b (List.mem_of_getElem? hb))
        refine wpa_nxt hit hsz ?_
        by_cases h128 : b.toNat < 128
        · have hd : Utf8.decode (bA T) k = (b.toNat, 1) := by
            rw [← hget, get_bang _ k hsz]
            exact decode_ascii _ k hsz (by rw [← get_bang _ k hsz, hget]; exact h128)
          rw [hd]
          by_cases hdb : 48 ≤ b.toNat ∧ b.toNat ≤ 57
          · have e1 : ¬ ((b.toNat : Int) < 48) := by omega
            have e2 : ¬ ((57 : Int) < (b.toNat : Int)) := by omega
            simp (maxSteps:=999999) -implicitDefEqProofs (disch:=omega) only [push_cast,↓reduceIte,Nat.reduceEqDiff,reduceCtorEq,wz,hρ,e1,e2]
            have hv : IntKind.i64.wrap (IntKind.i64.wrap (10 * IntKind.i64.wrap (-valD (T.take k))) - IntKind.i64.wrap (IntKind.i32.wrap ((b.toNat : Int) - 48))) = IntKind.i64.wrap (-(valD (T.take (k + 1)))) := by
              rw [take_succ_at hb, valD_snoc]
              have w32 : ∀ d : Nat, d < 10 → IntKind.i32.wrap (d : Int) = d := by decide
              have e3 := w32 (b.toNat - 48) (by omega)
              rw [show ((b.toNat - 48 : Nat) : Int) = (b.toNat : Int) - 48 by omega] at e3
              rw [e3, wrap_in ((b.toNat : Int) - 48) (by omega) (by omega)]
              apply wrap_congr
              have m1 := wrap_emod (-valD (T.take k))
              generalize IntKind.i64.wrap (-valD (T.take k)) = A at m1 ⊢
              have m2 := wrap_emod (10 * A)
              generalize IntKind.i64.wrap (10 * A) = B at m2 ⊢
              omega
            rw [hv]
            exact hN (k + 1) _ _ ⟨by simp (maxSteps:=999999) -implicitDefEqProofs (disch:=omega) only [push_cast,↓reduceIte,Nat.reduceEqDiff,reduceCtorEq,wz,hρ], by omega, get_set_eq hit, by rw [take_succ_at hb, List.all_append, hdg, List.all_cons]; simp [digB, hdb]⟩ (by omega)
          · have hn := hnum (by unfold digB; simp; omega)
            by_cases h48 : b.toNat < 48
            · have e1 : ((b.toNat : Int) < 48) := by omega
              simp (maxSteps:=999999) -implicitDefEqProofs (disch:=omega) only [push_cast,↓reduceIte,Nat.reduceEqDiff,reduceCtorEq,wz,hρ,e1]
              refine fin_vv ?_
              rw [hn]
            · have e1 : ¬ ((b.toNat : Int) < 48) := by omega
              have e2 : ((57 : Int) < (b.toNat : Int)) := by omega
              simp (maxSteps:=999999) -implicitDefEqProofs (disch:=omega) only [push_cast,↓reduceIte,Nat.reduceEqDiff,reduceCtorEq,wz,hρ,e1,e2]
              refine fin_vv ?_
              rw [hn]
        · have hn := hnum (by unfold digB; simp; omega)
          have hc := (decode_high (bA T) k hsz (by rw [← get_bang _ k hsz, hget]; omega)).1
          generalize Utf8.decode (bA T) k = d at hc
          have e1 : ¬ ((d.1 : Int) < 48) := by omega
          have e2 : ((57 : Int) < (d.1 : Int)) := by omega
          simp (maxSteps:=999999) -implicitDefEqProofs (disch:=omega) only [push_cast,↓reduceIte,Nat.reduceEqDiff,reduceCtorEq,wz,hρ,e1,e2]
          refine fin_vv ?_
          rw [hn]
      · refine wpa_nxt_end hit (show ¬ k < (bA T).size from hlt) ?_
        simp (maxSteps:=999999) -implicitDefEqProofs (disch:=omega) only [push_cast,↓reduceIte,Nat.reduceEqDiff,reduceCtorEq,wz]
        have : k = T.length := by omega
        subst this
        rw [List.take_length] at hdg hρ
        exact hE _ _ ⟨by simp (maxSteps:=999999) -implicitDefEqProofs (disch:=omega) only [push_cast,↓reduceIte,Nat.reduceEqDiff,reduceCtorEq,wz,hρ], hdg⟩
    · rintro ε σ ⟨hρ, hdg⟩
      simp (maxSteps:=999999) -implicitDefEqProofs (disch:=omega) only [push_cast,↓reduceIte,Nat.reduceEqDiff,reduceCtorEq,wz,hρ]
      refine wpa_call (HasPrefix_a l 45 hl) ?_
      rintro a rfl
      have wb : ∀ a : Int, -9223372036854775808 ≤ IntKind.i64.wrap a ∧ IntKind.i64.wrap a ≤ 9223372036854775807 := by
        intro a
        simp only [IntKind.wrap, IntKind.bits, IntKind.signed]
        simp
        first | omega | (constructor <;> omega) | (split <;> omega)
      by_cases hm : l.head? = some 45
      · have hd : decide (l.head? = some 45) = true := decide_eq_true hm
        simp (maxSteps:=999999) -implicitDefEqProofs (disch:=omega) only [push_cast,↓reduceIte,Nat.reduceEqDiff,reduceCtorEq,wz,hρ,aBool,hd]
        refine wpa_call (Of_a _ (wb (-valD T)).1 (wb (-valD T)).2) ?_
        rintro a rfl
        by_cases he : Lib.itoa (IntKind.i64.wrap (-valD T)) = l
        · have h1 : bA (Lib.itoa (IntKind.i64.wrap (-valD T))) = bA l := by rw [he]
          simp (maxSteps:=999999) -implicitDefEqProofs (disch:=omega) only [push_cast,↓reduceIte,Nat.reduceEqDiff,reduceCtorEq,wz,hρ,h1]
          refine fin_vv ?_
          unfold numF signN
          rw [if_neg h20, hT, if_pos hdg, if_pos hm, if_pos he]
        · have h1 : ¬ (bA (Lib.itoa (IntKind.i64.wrap (-valD T))) = bA l) := fun e => he (by have := congrArg (fun x : ByteArray => x.data.toList) e; simpa using this)
          simp (maxSteps:=999999) -implicitDefEqProofs (disch:=omega) only [push_cast,↓reduceIte,Nat.reduceEqDiff,reduceCtorEq,wz,hρ,h1]
          refine fin_vv ?_
          unfold numF signN
          rw [if_neg h20, hT, if_pos hdg, if_pos hm, if_neg he]
      · have hd : decide (l.head? = some 45) = false := decide_eq_false hm
        have hv : IntKind.i64.wrap (-(IntKind.i64.wrap (-valD T))) = IntKind.i64.wrap (valD T) := by
          apply wrap_congr
          have m1 := wrap_emod (-valD T)
          generalize IntKind.i64.wrap (-valD T) = A at m1 ⊢
          omega
        have hng : PF.val .neg [.int .i64 (IntKind.i64.wrap (-valD T))] = some (.int .i64 (IntKind.i64.wrap (valD T))) := by
          rw [← hv]
          simp [PF.val]
        simp (maxSteps:=999999) -implicitDefEqProofs (disch:=omega) only [push_cast,↓reduceIte,Nat.reduceEqDiff,reduceCtorEq,wz,hρ,aBool,hd,hng]
        refine wpa_call (Of_a _ (wb (valD T)).1 (wb (valD T)).2) ?_
        rintro a rfl
        by_cases he : Lib.itoa (IntKind.i64.wrap (valD T)) = l
        · have h1 : bA (Lib.itoa (IntKind.i64.wrap (valD T))) = bA l := by rw [he]
          simp (maxSteps:=999999) -implicitDefEqProofs (disch:=omega) only [push_cast,↓reduceIte,Nat.reduceEqDiff,reduceCtorEq,wz,hρ,h1]
          refine fin_vv ?_
          unfold numF signN
          rw [if_neg h20, hT, if_pos hdg, if_neg hm, if_pos he]
        · have h1 : ¬ (bA (Lib.itoa (IntKind.i64.wrap (valD T))) = bA l) := fun e => he (by have := congrArg (fun x : ByteArray => x.data.toList) e; simpa using this)
          simp (maxSteps:=999999) -implicitDefEqProofs (disch:=omega) only [push_cast,↓reduceIte,Nat.reduceEqDiff,reduceCtorEq,wz,hρ,h1]
          refine fin_vv ?_
          unfold numF signN
          rw [if_neg h20, hT, if_pos hdg, if_neg hm, if_neg he]
end Go.Proofs.YtjdpejggafefjaaDoor
