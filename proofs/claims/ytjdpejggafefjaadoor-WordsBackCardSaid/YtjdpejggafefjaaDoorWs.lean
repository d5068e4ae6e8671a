/- The walk of WordsBack. -/
import Derived.Test.YtjdpejggafefjaaDoorWp
namespace Go.Proofs.YtjdpejggafefjaaDoor
set_option linter.unusedVariables false
set_option linter.unusedSimpArgs false
open Go Go.Kx Go.Proofs

theorem aholds_u {d : Nat} {n : Option Nat} {x : Operand} {ε : AEnv} {σ : Kx.St} {a : AV} (h : ldA n (evA ε x) σ = some a) (he : a.exact = true) (hd : ε d = a) : SItem.aholds ⟨some d, none, .ld n x⟩ ε σ :=
  .inl ⟨trivial, a, h, he, fun e he' => by cases he'; exact hd⟩
theorem linesT_snoc (ws : List (List UInt8)) (w : List UInt8) : linesT (ws ++ [w]) = linesT ws ++ w ++ [10] := by simp [linesT]
theorem linesT_len {m : Nat} : ∀ {ws : List (List UInt8)}, (∀ w ∈ ws, w.length ≤ m) → (linesT ws).length ≤ ws.length * (m + 1) := by
  intro ws
  induction ws with
  | nil => intro _; simp [linesT]
  | cons w ws ih =>
    intro h
    have h1 := ih fun y hy => h y (by simp [hy])
    have h2 := h w (by simp)
    have e : linesT (w :: ws) = w ++ 10 :: linesT ws := by simp [linesT]
    rw [e, List.length_cons, Nat.succ_mul]
    simp only [List.length_append, List.length_cons]
    omega
/-- The plain words among the first k. -/
def plainsK (P : List (List UInt8)) (k : Nat) : List (List UInt8) := (P.take k).filter plainW
theorem plainsK_succ {P : List (List UInt8)} {k : Nat} {x : List UInt8} (h : P[k]? = some x) : plainsK P (k + 1) = if plainW x = true then plainsK P k ++ [x] else plainsK P k := by
  unfold plainsK
  rw [take_succ_at h, List.filter_append]
  by_cases hx : plainW x = true <;> simp [hx]
theorem plainsK_ok {P : List (List UInt8)} {k m : Nat} (h : ∀ x ∈ P.take k, x.length ≤ m) : (plainsK P k).length ≤ k ∧ (∀ x ∈ plainsK P k, x.length ≤ m) ∧ ∀ x ∈ plainsK P k, x ≠ [] ∧ (∀ b ∈ x, b ≠ 32) ∧ ∀ b ∈ x, b ≠ 10 := by
  unfold plainsK
  refine ⟨Nat.le_trans (List.length_filter_le _ _) (by rw [List.length_take]; omega), fun x hx => h x (List.mem_filter.1 hx).1, fun x hx => plainW_ok (List.mem_filter.1 hx).2⟩
theorem plain_cases (x : List UInt8) : (plainW x = true ∧ partsB 32 false [] x = [x] ∧ partsB 10 true [] x = [x]) ∨
    (plainW x = false ∧ (¬ ((partsB 32 false [] x).length = 1) ∨ (∃ f, partsB 32 false [] x = [f] ∧ f ≠ x) ∨ (partsB 32 false [] x = [x] ∧ ¬ ((partsB 10 true [] x).length = 1)) ∨ (partsB 32 false [] x = [x] ∧ ∃ g, partsB 10 true [] x = [g] ∧ g ≠ x))) := by
  unfold plainW
  generalize partsB 32 false [] x = F
  generalize partsB 10 true [] x = G
  by_cases h1 : F = [x]
  · subst h1
    by_cases h2 : G = [x]
    · subst h2; left; simp
    · right
      refine ⟨by simp [h2], .inr (.inr ?_)⟩
      by_cases h3 : G.length = 1
      · right
        obtain ⟨g, rfl⟩ := List.length_eq_one_iff.1 h3
        exact ⟨rfl, g, rfl, fun e => h2 (by rw [e])⟩
      · exact .inl ⟨rfl, h3⟩
  · right
    refine ⟨by simp [h1], ?_⟩
    by_cases h3 : F.length = 1
    · obtain ⟨f, rfl⟩ := List.length_eq_one_iff.1 h3
      exact .inr (.inl ⟨f, rfl, fun e => h1 (by rw [e])⟩)
    · exact .inl h3

set_option maxHeartbeats 8000000 in
theorem WordsBack_a (P : List (List UInt8)) (hP : P.length ≤ 9223372036854775807) : FnP Tryd.prog 11 [aSl aB P] fun a => a = aBool true := by
  refine fnP_in K_forebaylaw05_WordsBack mixed rfl (by simp only [AV.pureL, aBl_pure]; rfl) ?_
  simp only [S_forebaylaw05_WordsBack]
  simp (maxSteps:=999999) -implicitDefEqProofs (disch:=omega) only [push_cast,↓reduceIte,Nat.reduceEqDiff,reduceCtorEq,wz]
  refine wpa_call law05_works_a ?_
  rintro a rfl
  simp (maxSteps:=999999) -implicitDefEqProofs (disch:=omega) only [push_cast,↓reduceIte,Nat.reduceEqDiff,reduceCtorEq,wz,aBool]
  by_cases hg2 : 100 < P.length
  · have hgt2 : (100 : Int) < P.length := by omega
    simp (maxSteps:=999999) -implicitDefEqProofs (disch:=omega) only [push_cast,↓reduceIte,Nat.reduceEqDiff,reduceCtorEq,wz,hgt2,aSl]
    exact ⟨[], rfl⟩
  · have hgt2 : ¬ (100 : Int) < P.length := by omega
    simp (maxSteps:=999999) -implicitDefEqProofs (disch:=omega) only [push_cast,↓reduceIte,Nat.reduceEqDiff,reduceCtorEq,wz,hgt2,aSl]
    refine wpa_blg (GU.tok 3 1 rfl) (α := Nat) (I := fun k ε σ => (ε 0 = .sl P.length (P.map aB) .none ∧ ε 4 = aB (linesT (plainsK P k)) ∧ ε 5 = .v (.int .i64 k)) ∧ k ≤ P.length ∧ (∀ x ∈ P.take k, x.length ≤ 100) ∧ ∃ w : Nat, ε 3 = .sl (plainsK P k).length ((plainsK P k).map aB) (.id 0 w 1) ∧ σ[0]? = some (.tail w))
      (μ := fun k => P.length - k) (Q := fun ε σ => (∀ x ∈ P, x.length ≤ 100) ∧ ε 4 = aB (linesT (plainsK P P.length)) ∧ ∃ w : Nat, ε 3 = .sl (plainsK P P.length).length ((plainsK P P.length).map aB) (.id 0 w 1) ∧ σ[0]? = some (.tail w)) (x := 0) ?_ ?_ ?_
    · simp (maxSteps:=999999) -implicitDefEqProofs (disch:=omega) only [push_cast,↓reduceIte,Nat.reduceEqDiff,reduceCtorEq,wz]
      exact ⟨rfl, by omega, by simp, 0, rfl, rfl⟩
    · rintro k ε σ N E ⟨hρ, hk, hall, w, h3, hs0⟩ hN hE
      simp only [S_forebaylaw05_WordsBack_L1]
      by_cases hlt : k < P.length
      · obtain ⟨x, hx⟩ := at_lt hlt
        have hkl : (k : Int) < P.length := by omega
        by_cases h2 : 100 < x.length
        · have h4 : (100 : Int) < (bA x).size := by rw [size_bA]; omega
          simp (maxSteps:=999999) -implicitDefEqProofs (disch:=omega) only [push_cast,↓reduceIte,Nat.reduceEqDiff,reduceCtorEq,wz,hρ,hkl,hx,h4]
          exact ⟨[], rfl⟩
        · have h4 : ¬ (100 : Int) < (bA x).size := by rw [size_bA]; omega
          have hall2 : ∀ y ∈ P.take (k + 1), y.length ≤ 100 := by
            rw [take_succ_at hx]
            intro y hy
            rcases List.mem_append.1 hy with h | h
            · exact hall y h
            · rw [List.mem_singleton.1 h]; omega
          obtain ⟨hl1, hl2, _⟩ := plainsK_ok hall
          have hll := linesT_len hl2
          have hll2 : (linesT (plainsK P k)).length ≤ 100 * 101 := Nat.le_trans hll (Nat.mul_le_mul (by omega) (Nat.le_refl _))
          have hsuc := plainsK_succ hx
          have hsz : (bA x).size ≤ 100000 := by rw [size_bA]; omega
          have hfd := ref05_Fields_a (bA x) hsz
          have hln := ref05_Lines_a (bA x) hsz
          rw [show (bA x).data.toList = x by simp] at hfd hln
          have hi0 : ∀ f : List UInt8, [f][Int.toNat 0]? = some f := fun _ => rfl
          simp (maxSteps:=999999) -implicitDefEqProofs (disch:=omega) only [push_cast,↓reduceIte,Nat.reduceEqDiff,reduceCtorEq,wz,hρ,hkl,hx,h4]
          rcases plain_cases x with ⟨hp, hF, hG⟩ | ⟨hp, hcs⟩
          · rw [hF] at hfd
            rw [hG] at hln
            refine wpa_call hfd ?_
            rintro a rfl
            simp (maxSteps:=999999) -implicitDefEqProofs (disch:=omega) only [push_cast,↓reduceIte,Nat.reduceEqDiff,reduceCtorEq,wz,hρ,hx,aSl]
            refine ⟨aholds_u (a := aB x) (by simp (maxSteps:=999999) -implicitDefEqProofs (disch:=omega) only [push_cast,↓reduceIte,Nat.reduceEqDiff,reduceCtorEq,wz,hρ,hx]) rfl (by simp (maxSteps:=999999) -implicitDefEqProofs (disch:=omega) only [push_cast,↓reduceIte,Nat.reduceEqDiff,reduceCtorEq,wz]), ?_⟩
            refine wpa_call hln ?_
            rintro a rfl
            simp (maxSteps:=999999) -implicitDefEqProofs (disch:=omega) only [push_cast,↓reduceIte,Nat.reduceEqDiff,reduceCtorEq,wz,hρ,hx,aSl,h3,hi0]
            refine wpa_bsl (sz := 1) (by intro a ha; simp at ha; subst ha; rfl) (by simp) ?_
            have ha1 := add_bA (linesT (plainsK P k)) x (by omega)
            have ha2 := add_bA (linesT (plainsK P k) ++ x) [10] (by simp; omega)
            simp (maxSteps:=999999) -implicitDefEqProofs (disch:=omega) only [push_cast,↓reduceIte,Nat.reduceEqDiff,reduceCtorEq,wz,h3]
            refine wpa_app (m := 1) rfl rfl rfl rfl (by simp) (by omega) (by omega) hs0 ?_
            simp (maxSteps:=999999) -implicitDefEqProofs (disch:=omega) only [push_cast,↓reduceIte,Nat.reduceEqDiff,reduceCtorEq,wz,hρ,hx,ha1,ha2]
            rw [if_pos hp] at hsuc
            refine hN (k + 1) _ _ ⟨by simp (maxSteps:=999999) -implicitDefEqProofs (disch:=omega) only [push_cast,↓reduceIte,Nat.reduceEqDiff,reduceCtorEq,wz,hρ]; rw [hsuc, linesT_snoc], by omega, hall2, w + 1, by simp (maxSteps:=999999) -implicitDefEqProofs (disch:=omega) only [push_cast,↓reduceIte,Nat.reduceEqDiff,reduceCtorEq,wz]; rw [hsuc]; simp [AV.cells, Value.cells], get_set_eq hs0⟩ (by omega)
          · rw [if_neg (by rw [hp]; simp)] at hsuc
            have hgo : ∀ ε' : AEnv, ε' 0 = .sl P.length (P.map aB) .none → ε' 4 = aB (linesT (plainsK P k)) → ε' 5 = .v (.int .i64 ((k + 1 : Nat) : Int)) → ε' 3 = .sl (plainsK P k).length ((plainsK P k).map aB) (.id 0 w 1) → act (N ε' σ) := fun ε' g0 g4 g5 g3 =>
              hN (k + 1) _ _ ⟨⟨g0, by rw [g4, hsuc], g5⟩, by omega, hall2, w, by rw [g3, hsuc], hs0⟩ (by omega)
            rcases hcs with hne | ⟨f, hF, hne⟩ | ⟨hF, hne⟩ | ⟨hF, g, hG, hne⟩
            · generalize partsB 32 false [] x = F at hfd hne
              generalize partsB 10 true [] x = G at hln
              have hne2 : ¬ ((F.length : Int) = 1) := by omega
              refine wpa_call hfd ?_
              rintro a rfl
              simp (maxSteps:=999999) -implicitDefEqProofs (disch:=omega) only [push_cast,↓reduceIte,Nat.reduceEqDiff,reduceCtorEq,wz,hρ,hx,aSl]
              refine ⟨aholds_u (a := aB x) (by simp (maxSteps:=999999) -implicitDefEqProofs (disch:=omega) only [push_cast,↓reduceIte,Nat.reduceEqDiff,reduceCtorEq,wz,hρ,hx]) rfl (by simp (maxSteps:=999999) -implicitDefEqProofs (disch:=omega) only [push_cast,↓reduceIte,Nat.reduceEqDiff,reduceCtorEq,wz]), ?_⟩
              refine wpa_call hln ?_
              rintro a rfl
              simp (maxSteps:=999999) -implicitDefEqProofs (disch:=omega) only [push_cast,↓reduceIte,Nat.reduceEqDiff,reduceCtorEq,wz,hρ,hx,aSl,hne2,hi0]
              refine hgo _ ?_ ?_ ?_ ?_ <;> simp (maxSteps:=999999) -implicitDefEqProofs (disch:=omega) only [push_cast,↓reduceIte,Nat.reduceEqDiff,reduceCtorEq,wz,hρ,h3]
            · rw [hF] at hfd
              generalize partsB 10 true [] x = G at hln
              have hne2 := ne_bA hne
              refine wpa_call hfd ?_
              rintro a rfl
              simp (maxSteps:=999999) -implicitDefEqProofs (disch:=omega) only [push_cast,↓reduceIte,Nat.reduceEqDiff,reduceCtorEq,wz,hρ,hx,aSl]
              refine ⟨aholds_u (a := aB x) (by simp (maxSteps:=999999) -implicitDefEqProofs (disch:=omega) only [push_cast,↓reduceIte,Nat.reduceEqDiff,reduceCtorEq,wz,hρ,hx]) rfl (by simp (maxSteps:=999999) -implicitDefEqProofs (disch:=omega) only [push_cast,↓reduceIte,Nat.reduceEqDiff,reduceCtorEq,wz]), ?_⟩
              refine wpa_call hln ?_
              rintro a rfl
              simp (maxSteps:=999999) -implicitDefEqProofs (disch:=omega) only [push_cast,↓reduceIte,Nat.reduceEqDiff,reduceCtorEq,wz,hρ,hx,aSl,hne2,hi0]
              refine hgo _ ?_ ?_ ?_ ?_ <;> simp (maxSteps:=999999) -implicitDefEqProofs (disch:=omega) only [push_cast,↓reduceIte,Nat.reduceEqDiff,reduceCtorEq,wz,hρ,h3]
            · rw [hF] at hfd
              generalize partsB 10 true [] x = G at hln hne
              have hne2 : ¬ ((G.length : Int) = 1) := by omega
              refine wpa_call hfd ?_
              rintro a rfl
              simp (maxSteps:=999999) -implicitDefEqProofs (disch:=omega) only [push_cast,↓reduceIte,Nat.reduceEqDiff,reduceCtorEq,wz,hρ,hx,aSl]
              refine ⟨aholds_u (a := aB x) (by simp (maxSteps:=999999) -implicitDefEqProofs (disch:=omega) only [push_cast,↓reduceIte,Nat.reduceEqDiff,reduceCtorEq,wz,hρ,hx]) rfl (by simp (maxSteps:=999999) -implicitDefEqProofs (disch:=omega) only [push_cast,↓reduceIte,Nat.reduceEqDiff,reduceCtorEq,wz]), ?_⟩
              refine wpa_call hln ?_
              rintro a rfl
              simp (maxSteps:=999999) -implicitDefEqProofs (disch:=omega) only [push_cast,↓reduceIte,Nat.reduceEqDiff,reduceCtorEq,wz,hρ,hx,aSl,hne2,hi0]
              refine hgo _ ?_ ?_ ?_ ?_ <;> simp (maxSteps:=999999) -implicitDefEqProofs (disch:=omega) only [push_cast,↓reduceIte,Nat.reduceEqDiff,reduceCtorEq,wz,hρ,h3]
            · rw [hF] at hfd
              rw [hG] at hln
              have hne2 := ne_bA hne
              refine wpa_call hfd ?_
              rintro a rfl
              simp (maxSteps:=999999) -implicitDefEqProofs (disch:=omega) only [push_cast,↓reduceIte,Nat.reduceEqDiff,reduceCtorEq,wz,hρ,hx,aSl]
              refine ⟨aholds_u (a := aB x) (by simp (maxSteps:=999999) -implicitDefEqProofs (disch:=omega) only [push_cast,↓reduceIte,Nat.reduceEqDiff,reduceCtorEq,wz,hρ,hx]) rfl (by simp (maxSteps:=999999) -implicitDefEqProofs (disch:=omega) only [push_cast,↓reduceIte,Nat.reduceEqDiff,reduceCtorEq,wz]), ?_⟩
              refine wpa_call hln ?_
              rintro a rfl
              simp (maxSteps:=999999) -implicitDefEqProofs (disch:=omega) only [push_cast,↓reduceIte,Nat.reduceEqDiff,reduceCtorEq,wz,hρ,hx,aSl,hne2,hi0]
              refine hgo _ ?_ ?_ ?_ ?_ <;> simp (maxSteps:=999999) -implicitDefEqProofs (disch:=omega) only [push_cast,↓reduceIte,Nat.reduceEqDiff,reduceCtorEq,wz,hρ,h3]
      · have hle : ¬ ((k : Int) < P.length) := by omega
        simp (maxSteps:=999999) -implicitDefEqProofs (disch:=omega) only [push_cast,↓reduceIte,Nat.reduceEqDiff,reduceCtorEq,wz,hρ,hle]
        have : k = P.length := by omega
        subst this
        rw [List.take_length] at hall
        exact hE _ _ ⟨hall, by simp (maxSteps:=999999) -implicitDefEqProofs (disch:=omega) only [push_cast,↓reduceIte,Nat.reduceEqDiff,reduceCtorEq,wz,hρ], w, by simp (maxSteps:=999999) -implicitDefEqProofs (disch:=omega) only [push_cast,↓reduceIte,Nat.reduceEqDiff,reduceCtorEq,wz,h3], hs0⟩
    · rintro ε σ ⟨hall, h4, w, h3, hs0⟩
      obtain ⟨hl1, hl2, hok⟩ := plainsK_ok (P := P) (k := P.length) (m := 100) (by rw [List.take_length]; exact hall)
      generalize plainsK P P.length = ws at h4 h3 hl1 hl2 hok
      have hjl := joinR_len (sep := [32]) (f := true) hl2
      have hjl2 : (joinR [32] ws true).length ≤ 100 * 101 := Nat.le_trans hjl (Nat.mul_le_mul (by omega) (by simp))
      have hll := linesT_len hl2
      have hll2 : (linesT ws).length ≤ 100 * 101 := Nat.le_trans hll (Nat.mul_le_mul (by omega) (Nat.le_refl _))
      simp (maxSteps:=999999) -implicitDefEqProofs (disch:=omega) only [push_cast,↓reduceIte,Nat.reduceEqDiff,reduceCtorEq,wz,h3,h4]
      refine wpa_bsl (sz := 1) (by simp) (by simp) ?_
      simp (maxSteps:=999999) -implicitDefEqProofs (disch:=omega) only [push_cast,↓reduceIte,Nat.reduceEqDiff,reduceCtorEq,wz,h3,h4]
      refine wpa_app_full0 (n := 0) (cs := []) (m := ws.length) (news := ws.map aB) rfl rfl (by simp) (by rw [List.all_map]; exact List.all_eq_true.2 fun _ _ => rfl) rfl (by omega) (by omega) ?_
      simp (maxSteps:=999999) -implicitDefEqProofs (disch:=omega) only [push_cast,↓reduceIte,Nat.reduceEqDiff,reduceCtorEq,wz,h3,h4]
      have h1 : FnP Tryd.prog 49 [.sl ws.length (ws.map aB) .none] fun a => a = aB (joinR [32] ws true) := by
        have h := Join_a ws (by omega) (by rw [join_joinR]; omega)
        rw [join_joinR] at h
        exact h
      refine wpa_call h1 ?_
      rintro a rfl
      simp (maxSteps:=999999) -implicitDefEqProofs (disch:=omega) only [push_cast,↓reduceIte,Nat.reduceEqDiff,reduceCtorEq,wz,h3,h4]
      have h2 : FnP Tryd.prog 47 [aB (joinR [32] ws true)] fun a => a = aSl aB ws := by
        have h := Fields_a (bA (joinR [32] ws true)) (by rw [size_bA]; omega)
        rw [show (bA (joinR [32] ws true)).data.toList = joinR [32] ws true by simp, fields_back ws fun y hy => ⟨(hok y hy).1, (hok y hy).2.1⟩] at h
        exact h
      refine wpa_call h2 ?_
      rintro a rfl
      simp (maxSteps:=999999) -implicitDefEqProofs (disch:=omega) only [push_cast,↓reduceIte,Nat.reduceEqDiff,reduceCtorEq,wz,h3,h4]
      have hw : ∀ τ : Kx.St, weak (Go.Kx.freeze [] τ) [false, true] [aSl aB ws, .sl ws.length (ws.map aB) (.id 0 w 1)] = [aSl aB ws, aSl aB ws] := by
        intro τ
        show [aSl aB ws, AV.res _ _] = _
        rw [aSl_res (fun _ => rfl)]
      refine wpa_callw [] [false, true] (law05_Strings_a ws ws (by omega) (by omega)) (hw _) ?_
      rintro a rfl
      simp (maxSteps:=999999) -implicitDefEqProofs (disch:=omega) only [push_cast,↓reduceIte,Nat.reduceEqDiff,reduceCtorEq,wz,h3,h4,aBool]
      have h5 : FnP Tryd.prog 48 [aB (linesT ws)] fun a => a = aSl aB ws := by
        have h := Lines_a (bA (linesT ws)) (by rw [size_bA]; omega)
        rw [show (bA (linesT ws)).data.toList = linesT ws by simp, lines_back ws fun y hy => (hok y hy).2.2] at h
        exact h
      refine wpa_call h5 ?_
      rintro a rfl
      simp (maxSteps:=999999) -implicitDefEqProofs (disch:=omega) only [push_cast,↓reduceIte,Nat.reduceEqDiff,reduceCtorEq,wz,h3,h4]
      refine wpa_callw [] [false, true] (law05_Strings_a ws ws (by omega) (by omega)) (hw _) ?_
      rintro a rfl
      simp (maxSteps:=999999) -implicitDefEqProofs (disch:=omega) only [push_cast,↓reduceIte,Nat.reduceEqDiff,reduceCtorEq,wz,h3,h4,aBool]
      exact ⟨[], rfl⟩
end Go.Proofs.YtjdpejggafefjaaDoor
