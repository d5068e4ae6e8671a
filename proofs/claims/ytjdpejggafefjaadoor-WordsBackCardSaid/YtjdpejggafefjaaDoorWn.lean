/- The document's Num. -/
import Derived.Test.YtjdpejggafefjaaDoorWm
namespace Go.Proofs.YtjdpejggafefjaaDoor
set_option linter.unusedVariables false
set_option linter.unusedSimpArgs false
open Go Go.Kx Go.Proofs

theorem bodyN_step {l : List UInt8} {k : Nat} {b : UInt8} (h : l[k]? = some b) (hn : ¬ (k = 0 ∧ b = 45)) : bodyN (l.take (k + 1)) = bodyN (l.take k) ++ [b] ∧ b ∈ bodyN l := by
  cases l with
  | nil => simp at h
  | cons x l =>
    cases k with
    | zero =>
      simp only [List.getElem?_cons_zero, Option.some.injEq] at h
      subst h
      have h45 : x ≠ 45 := fun e => hn ⟨rfl, e⟩
      simp [bodyN, h45]
    | succ k =>
      simp only [List.getElem?_cons_succ] at h
      by_cases h45 : x = 45
      · simp only [bodyN, h45, List.take_succ_cons, List.head?_cons, if_true, List.tail_cons]
        exact ⟨take_succ_at h, List.mem_of_getElem? h⟩
      · have hne : ¬ ((x :: l).head? = some 45) := by simp [h45]
        have hne2 : ∀ m, ¬ ((x :: l.take m).head? = some 45) := by intro m; simp [h45]
        simp only [bodyN, List.take_succ_cons, if_neg hne, if_neg (hne2 _)]
        exact ⟨by rw [take_succ_at h]; simp [h45], List.mem_cons_of_mem _ (List.mem_of_getElem? h)⟩
theorem bodyN_dash {l : List UInt8} (h : l[0]? = some 45) : bodyN (l.take 1) = [] := by
  cases l with
  | nil => simp at h
  | cons x l => simp at h; subst h; simp [bodyN]
theorem wrapI (a : Int) : -9223372036854775808 ≤ IntKind.i64.wrap a ∧ IntKind.i64.wrap a ≤ 9223372036854775807 := by
  simp only [IntKind.wrap, IntKind.bits, IntKind.signed]
  simp
  first | omega | (constructor <;> omega) | (split <;> omega)
theorem ne_bA {a b : List UInt8} (h : a ≠ b) : ¬ (bA a = bA b) := fun e => h (by have := congrArg (fun x : ByteArray => x.data.toList) e; simpa using this)

set_option maxHeartbeats 4000000 in
theorem ref05_Num_a (l : List UInt8) (hl : l.length ≤ 1000000) : FnP Tryd.prog 30 [aB l] fun a => a = aNum (numF l) := by
  refine fnP_in K_forebayref05_Num mixed rfl rfl ?_
  simp only [S_forebayref05_Num]
  by_cases h20 : 20 < l.length
  · have hgt : ((20 : Int) < (bA l).size) := by rw [size_bA]; omega
    simp (maxSteps:=999999) -implicitDefEqProofs (disch:=omega) only [push_cast,↓reduceIte,Nat.reduceEqDiff,reduceCtorEq,wz,hgt]
    refine fin_vv ?_
    unfold numF
    rw [if_pos h20]
  · have hgt : ¬ ((20 : Int) < (bA l).size) := by rw [size_bA]; omega
    simp (maxSteps:=999999) -implicitDefEqProofs (disch:=omega) only [push_cast,↓reduceIte,Nat.reduceEqDiff,reduceCtorEq,wz,hgt]
    refine wpa_bl (α := Nat) (I := fun k ε σ => (ε 0 = aB l ∧ ε 5 = .v (.int .i64 k) ∧ ε 4 = .v (.int .i64 (IntKind.i64.wrap (valD (bodyN (l.take k)))))) ∧ k ≤ l.length ∧ (bodyN (l.take k)).all digB = true)
      (μ := fun k => l.length - k) (Q := fun ε σ => (ε 0 = aB l ∧ ε 4 = .v (.int .i64 (IntKind.i64.wrap (valD (bodyN l))))) ∧ (bodyN l).all digB = true) (x := 0) ?_ ?_ ?_
    · simp (maxSteps:=999999) -implicitDefEqProofs (disch:=omega) only [push_cast,↓reduceIte,Nat.reduceEqDiff,reduceCtorEq,wz]
      exact ⟨by rw [show valD (bodyN []) = 0 from rfl]; rfl, by omega, by simp [bodyN]⟩
    · rintro k ε σ N E ⟨hρ, hk, hdg⟩ hN hE
      simp only [S_forebayref05_Num_L1]
      by_cases hlt : k < l.length
      · obtain ⟨b, hb⟩ := at_lt hlt
        have hkl : (k : Int) < (bA l).size := by rw [size_bA]; omega
        have hix : PF.val .ixs [.string (bA l), .int .i64 k] = some (.int .u8 b.toNat) := pv_str_ix (by omega) (by simpa using hb)
        by_cases hd : k = 0 ∧ b = 45
        · obtain ⟨rfl, rfl⟩ := hd
          have hix : PF.val .ixs [.string (bA l), .int .i64 0] = some (.int .u8 45) := hix
          simp (maxSteps:=999999) -implicitDefEqProofs (disch:=omega) only [push_cast,↓reduceIte,Nat.reduceEqDiff,reduceCtorEq,wz,hρ,hkl,hix]
          exact hN 1 _ _ ⟨by simp (maxSteps:=999999) -implicitDefEqProofs (disch:=omega) only [push_cast,↓reduceIte,Nat.reduceEqDiff,reduceCtorEq,wz,hρ]; rw [bodyN_dash hb]; simp [bodyN], by omega, by rw [bodyN_dash hb]; rfl⟩ (by omega)
        · obtain ⟨hst, hmem⟩ := bodyN_step hb hd
          have hnum : digB b ≠ true → numF l = (0, false) := by
            intro hdb
            unfold numF
            rw [if_neg h20, if_neg]
            intro h
            exact hdb (List.all_eq_true.1 h b hmem)
          have hc : (¬ ((k : Int) = 0)) ∨ (k = 0 ∧ ¬ ((b.toNat : Int) = 45)) := by
            by_cases hk0 : k = 0
            · refine .inr ⟨hk0, fun e => hd ⟨hk0, UInt8.toNat_inj.1 (by rw [show (45 : UInt8).toNat = 45 from rfl]; omega)⟩⟩
            · exact .inl (by omega)
          by_cases hdb : 48 ≤ b.toNat ∧ b.toNat ≤ 57
          · have e1 : ¬ ((b.toNat : Int) < 48) := by omega
            have e2 : ¬ ((57 : Int) < (b.toNat : Int)) := by omega
            have hdig : digB b = true := by simp [digB, hdb]
            have hv : IntKind.i64.wrap (IntKind.i64.wrap (IntKind.i64.wrap (10 * IntKind.i64.wrap (valD (bodyN (l.take k)))) + (b.toNat : Int)) - 48) = IntKind.i64.wrap (valD (bodyN (l.take (k + 1)))) := by
              rw [hst, valD_snoc]
              apply wrap_congr
              have m1 := wrap_emod (valD (bodyN (l.take k)))
              generalize IntKind.i64.wrap (valD (bodyN (l.take k))) = A at m1 ⊢
              have m2 := wrap_emod (10 * A)
              generalize IntKind.i64.wrap (10 * A) = B at m2 ⊢
              have m3 := wrap_emod (B + (b.toNat : Int))
              generalize IntKind.i64.wrap (B + (b.toNat : Int)) = C at m3 ⊢
              omega
            rcases hc with hc | ⟨rfl, hc⟩
            · simp (maxSteps:=999999) -implicitDefEqProofs (disch:=omega) only [push_cast,↓reduceIte,Nat.reduceEqDiff,reduceCtorEq,wz,hρ,hkl,hix,hc,e1,e2,hv]
              exact hN (k + 1) _ _ ⟨by simp (maxSteps:=999999) -implicitDefEqProofs (disch:=omega) only [push_cast,↓reduceIte,Nat.reduceEqDiff,reduceCtorEq,wz,hρ], by omega, by rw [hst, List.all_append, hdg, List.all_cons, hdig]; rfl⟩ (by omega)
            · have hix : PF.val .ixs [.string (bA l), .int .i64 0] = some (.int .u8 b.toNat) := hix
              simp (maxSteps:=999999) -implicitDefEqProofs (disch:=omega) only [push_cast,↓reduceIte,Nat.reduceEqDiff,reduceCtorEq,wz,hρ,hkl,hix,hc,e1,e2,hv]
              exact hN (0 + 1) _ _ ⟨by simp (maxSteps:=999999) -implicitDefEqProofs (disch:=omega) only [push_cast,↓reduceIte,Nat.reduceEqDiff,reduceCtorEq,wz,hρ]; exact congrArg (fun z => AV.v (Value.int .i64 z)) hv, by omega, by rw [hst, List.all_append, hdg, List.all_cons, hdig]; rfl⟩ (by omega)
          · have hn := hnum (by unfold digB; simp; omega)
            have e12 : ((b.toNat : Int) < 48) ∨ (¬ ((b.toNat : Int) < 48) ∧ (57 : Int) < (b.toNat : Int)) := by omega
            rcases hc with hc | ⟨rfl, hc⟩
            · rcases e12 with e1 | ⟨e1, e2⟩
              · simp (maxSteps:=999999) -implicitDefEqProofs (disch:=omega) only [push_cast,↓reduceIte,Nat.reduceEqDiff,reduceCtorEq,wz,hρ,hkl,hix,hc,e1]
                refine fin_vv ?_
                rw [hn]
              · simp (maxSteps:=999999) -implicitDefEqProofs (disch:=omega) only [push_cast,↓reduceIte,Nat.reduceEqDiff,reduceCtorEq,wz,hρ,hkl,hix,hc,e1,e2]
                refine fin_vv ?_
                rw [hn]
            · have hix : PF.val .ixs [.string (bA l), .int .i64 0] = some (.int .u8 b.toNat) := hix
              rcases e12 with e1 | ⟨e1, e2⟩
              · simp (maxSteps:=999999) -implicitDefEqProofs (disch:=omega) only [push_cast,↓reduceIte,Nat.reduceEqDiff,reduceCtorEq,wz,hρ,hkl,hix,hc,e1]
                refine fin_vv ?_
                rw [hn]
              · simp (maxSteps:=999999) -implicitDefEqProofs (disch:=omega) only [push_cast,↓reduceIte,Nat.reduceEqDiff,reduceCtorEq,wz,hρ,hkl,hix,hc,e1,e2]
                refine fin_vv ?_
                rw [hn]
      · have hle : ¬ (k : Int) < (bA l).size := by rw [size_bA]; omega
        simp (maxSteps:=999999) -implicitDefEqProofs (disch:=omega) only [push_cast,↓reduceIte,Nat.reduceEqDiff,reduceCtorEq,wz,hρ,hle]
        have : k = l.length := by omega
        subst this
        rw [List.take_length] at hdg hρ
        exact hE _ _ ⟨by simp (maxSteps:=999999) -implicitDefEqProofs (disch:=omega) only [push_cast,↓reduceIte,Nat.reduceEqDiff,reduceCtorEq,wz,hρ], hdg⟩
    · rintro ε σ ⟨hρ, hdg⟩
      have fin : ∀ v, v = IntKind.i64.wrap (signN l (valD (bodyN l))) → numF l = if Lib.itoa v = l then (v, true) else (0, false) := by
        rintro v rfl
        unfold numF
        rw [if_neg h20, if_pos hdg]
      by_cases hm : l[0]? = some 45
      · have hlen : (0 : Int) < (bA l).size := by rw [size_bA]; have := lt_at hm; omega
        have hix : PF.val .ixs [.string (bA l), .int .i64 0] = some (.int .u8 45) := pv_str_ix (b := 45) (i := 0) (by decide) (by simpa using hm)
        have hv : IntKind.i64.wrap (-(IntKind.i64.wrap (valD (bodyN l)))) = IntKind.i64.wrap (signN l (valD (bodyN l))) := by
          unfold signN
          rw [if_pos (by rw [List.head?_eq_getElem?]; exact hm)]
          apply wrap_congr
          have m1 := wrap_emod (valD (bodyN l))
          generalize IntKind.i64.wrap (valD (bodyN l)) = A at m1 ⊢
          omega
        have hng : PF.val .neg [.int .i64 (IntKind.i64.wrap (valD (bodyN l)))] = some (.int .i64 (IntKind.i64.wrap (signN l (valD (bodyN l))))) := by
          rw [← hv]
          simp [PF.val]
        simp (maxSteps:=999999) -implicitDefEqProofs (disch:=omega) only [push_cast,↓reduceIte,Nat.reduceEqDiff,reduceCtorEq,wz,hρ,hlen,hix,hng]
        refine wpa_call (ref05_Of_a _ (wrapI _).1 (wrapI _).2) ?_
        rintro a rfl
        have hf := fin _ rfl
        by_cases he : Lib.itoa (IntKind.i64.wrap (signN l (valD (bodyN l)))) = l
        · have h1 : bA (Lib.itoa (IntKind.i64.wrap (signN l (valD (bodyN l))))) = bA l := by rw [he]
          rw [if_pos he] at hf
          simp (maxSteps:=999999) -implicitDefEqProofs (disch:=omega) only [push_cast,↓reduceIte,Nat.reduceEqDiff,reduceCtorEq,wz,hρ,h1]
          refine fin_vv ?_
          rw [hf]
        · have h1 := ne_bA he
          rw [if_neg he] at hf
          simp (maxSteps:=999999) -implicitDefEqProofs (disch:=omega) only [push_cast,↓reduceIte,Nat.reduceEqDiff,reduceCtorEq,wz,hρ,h1]
          refine fin_vv ?_
          rw [hf]
      · have hv : signN l (valD (bodyN l)) = valD (bodyN l) := by
          unfold signN
          rw [if_neg (by rw [List.head?_eq_getElem?]; exact hm)]
        have hf := fin _ rfl
        rw [hv] at hf
        have hcase : (¬ (0 : Int) < (bA l).size) ∨ ((0 : Int) < (bA l).size ∧ ∃ b : UInt8, PF.val .ixs [.string (bA l), .int .i64 0] = some (.int .u8 b.toNat) ∧ ¬ ((b.toNat : Int) = 45)) := by
          by_cases hlt : 0 < l.length
          · obtain ⟨b, hb⟩ := at_lt hlt
            have hix : PF.val .ixs [.string (bA l), .int .i64 0] = some (.int .u8 b.toNat) := pv_str_ix (by omega) (by simpa using hb)
            refine .inr ⟨by rw [size_bA]; omega, b, hix, fun e => hm ?_⟩
            rw [hb]
            congr 1
            exact UInt8.toNat_inj.1 (by rw [show (45 : UInt8).toNat = 45 from rfl]; omega)
          · exact .inl (by rw [size_bA]; omega)
        rcases hcase with hlen | ⟨hlen, b, hix, hb⟩
        · simp (maxSteps:=999999) -implicitDefEqProofs (disch:=omega) only [push_cast,↓reduceIte,Nat.reduceEqDiff,reduceCtorEq,wz,hρ,hlen]
          refine wpa_call (ref05_Of_a _ (wrapI _).1 (wrapI _).2) ?_
          rintro a rfl
          by_cases he : Lib.itoa (IntKind.i64.wrap (valD (bodyN l))) = l
          · have h1 : bA (Lib.itoa (IntKind.i64.wrap (valD (bodyN l)))) = bA l := by rw [he]
            rw [if_pos he] at hf
            simp (maxSteps:=999999) -implicitDefEqProofs (disch:=omega) only [push_cast,↓reduceIte,Nat.reduceEqDiff,reduceCtorEq,wz,hρ,h1]
            refine fin_vv ?_
            rw [hf]
          · have h1 := ne_bA he
            rw [if_neg he] at hf
            simp (maxSteps:=999999) -implicitDefEqProofs (disch:=omega) only [push_cast,↓reduceIte,Nat.reduceEqDiff,reduceCtorEq,wz,hρ,h1]
            refine fin_vv ?_
            rw [hf]
        · simp (maxSteps:=999999) -implicitDefEqProofs (disch:=omega) only [push_cast,↓reduceIte,Nat.reduceEqDiff,reduceCtorEq,wz,hρ,hlen,hix,hb]
          refine wpa_call (ref05_Of_a _ (wrapI _).1 (wrapI _).2) ?_
          rintro a rfl
          by_cases he : Lib.itoa (IntKind.i64.wrap (valD (bodyN l))) = l
          · have h1 : bA (Lib.itoa (IntKind.i64.wrap (valD (bodyN l)))) = bA l := by rw [he]
            rw [if_pos he] at hf
            simp (maxSteps:=999999) -implicitDefEqProofs (disch:=omega) only [push_cast,↓reduceIte,Nat.reduceEqDiff,reduceCtorEq,wz,hρ,h1]
            refine fin_vv ?_
            rw [hf]
          · have h1 := ne_bA he
            rw [if_neg he] at hf
            simp (maxSteps:=999999) -implicitDefEqProofs (disch:=omega) only [push_cast,↓reduceIte,Nat.reduceEqDiff,reduceCtorEq,wz,hρ,h1]
            refine fin_vv ?_
            rw [hf]
end Go.Proofs.YtjdpejggafefjaaDoor
