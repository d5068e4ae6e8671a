/- RaceFewer: a dag whose predecessors are added to: the walk. -/
import Derived.Test.YtncdnegdlkmicaaRck
namespace Go.Proofs.Ytncdnegdlkmicaa.Rc
set_option linter.unusedVariables false
set_option linter.unusedSimpArgs false
open Go Go.Kx Go.Proofs
open Go.Proofs.Ytncdnegdlkmicaa.Rx hiding at_lt snoc_ind take_succ_at drop_at mixed
open Go.Proofs.Ytncdnegdlkmicaa.St (Ac aAc aAc_len aAc_one aAc_pure aAc_res Nd aNd aNd_pure aNd_res)

structure En where
  x : List Int
  t : Nat
  v : Nat
def cellE (e : En) : AV := .sl e.x.length (e.x.map aInt) (.id e.t e.v 1)
structure PH (σ : Kx.St) (j w : Nat) (E : List En) : Prop where
  obj : σ[j]? = some (.obj w (E.map cellE))
  tl : ∀ e ∈ E, σ[e.t]? = some (.tail e.v)
  inj : ∀ (i k : Nat) (e d : En), E[i]? = some e → E[k]? = some d → e.t = d.t → i = k
theorem PH.setO {σ : Kx.St} {j w : Nat} {E : List En} (h : PH σ j w E) {i w' : Nat} {cs : List AV} (hi : σ[i]? = some (.obj w' cs)) (hij : i ≠ j) (o : Res) : PH (σ.set i o) j w E :=
  ⟨get_set_ne hij h.obj, fun e he => get_set_ne (fun e' => by have := h.tl e he; rw [← e', hi] at this; cases this) (h.tl e he), h.inj⟩
theorem PH.app {σ τ : Kx.St} {j w : Nat} {E : List En} (h : PH σ j w E) : PH (σ ++ τ) j w E := ⟨get_app h.obj, fun e he => get_app (h.tl e he), h.inj⟩
theorem PH.more {σ : Kx.St} {j w : Nat} {E : List En} (h : PH σ j w E) (x : List Int) (w' : Nat) : PH ((σ ++ [Res.tail 1]).set j (.obj w' ((E ++ [En.mk x σ.length 1]).map cellE))) j w' (E ++ [En.mk x σ.length 1]) := by
  have hj := lt_at h.obj
  refine ⟨get_set_eq (get_app h.obj), fun e he => ?_, ?_⟩
  · rcases List.mem_append.1 he with he | he
    · exact get_set_ne (fun e' => by have := h.tl e he; rw [← e', h.obj] at this; cases this) (get_app (h.tl e he))
    · simp at he
      subst he
      exact get_set_ne (by simp only; omega) (at_snoc _ _)
  · intro i k e d hi hk hed
    have key : ∀ (m : Nat) (c : En), (E ++ [En.mk x σ.length 1])[m]? = some c → (m < E.length ∧ E[m]? = some c ∧ c.t < σ.length) ∨ (m = E.length ∧ c.t = σ.length) := fun m c hm => by
      by_cases hml : m < E.length
      · rw [List.getElem?_append_left hml] at hm
        exact .inl ⟨hml, hm, lt_at (h.tl c (List.mem_of_getElem? hm))⟩
      · rw [List.getElem?_append_right (by omega)] at hm
        have := lt_at hm
        simp at this
        have h0 : m - E.length = 0 := by omega
        rw [h0] at hm
        simp at hm
        subst hm
        exact .inr ⟨by omega, rfl⟩
    rcases key i e hi with ⟨a1, a2, a3⟩ | ⟨a1, a2⟩ <;> rcases key k d hk with ⟨b1, b2, b3⟩ | ⟨b1, b2⟩
    · exact h.inj i k e d a2 b2 hed
    · omega
    · omega
    · omega
/-- One of them longer. -/
theorem PH.add {σ : Kx.St} {j w : Nat} {E : List En} (h : PH σ j w E) {k : Nat} {e : En} (hk : E[k]? = some e) (f : Int) :
    PH ((σ.set e.t (.tail (e.v + 1))).set j (.obj w ((E.map cellE).set k (.sl (e.x.length + 1) (e.x.map aInt ++ [.v (.int .i64 f)]) (.id e.t (e.v + 1) 1))))) j w (E.set k ⟨e.x ++ [f], e.t, e.v + 1⟩) := by
  have he := h.tl e (List.mem_of_getElem? hk)
  have hne : e.t ≠ j := fun e' => by rw [e', h.obj] at he; cases he
  refine ⟨?_, fun d hd => ?_, ?_⟩
  · rw [get_set_eq (get_set_ne hne h.obj), List.map_set]
    simp [cellE, aInt]
  · rcases List.mem_iff_getElem?.1 hd with ⟨i, hi⟩
    by_cases e1 : k = i
    · subst e1
      rw [List.getElem?_set_self (lt_at hk)] at hi
      cases hi
      exact get_set_ne (fun e' => hne e'.symm) (get_set_eq he)
    · rw [List.getElem?_set_ne e1] at hi
      have hdi := h.tl d (List.mem_of_getElem? hi)
      have hne2 : e.t ≠ d.t := fun e2 => e1 (h.inj k i e d hk hi e2)
      exact get_set_ne (fun e' => by rw [← e', h.obj] at hdi; cases hdi) (get_set_ne hne2 hdi)
  · have key : ∀ (m : Nat) (c : En), (E.set k ⟨e.x ++ [f], e.t, e.v + 1⟩)[m]? = some c → ∃ c', E[m]? = some c' ∧ c'.t = c.t := fun m c hm => by
      by_cases e1 : k = m
      · subst e1
        rw [List.getElem?_set_self (lt_at hk)] at hm
        cases hm
        exact ⟨e, hk, rfl⟩
      · rw [List.getElem?_set_ne e1] at hm
        exact ⟨c, hm, rfl⟩
    intro i m a b ha hb hab
    obtain ⟨a', ha', ea⟩ := key i a ha
    obtain ⟨b', hb', eb⟩ := key m b hb
    exact h.inj i m a' b' ha' hb' (by rw [ea, eb, hab])
theorem cells_res (σ : Kx.St) (E : List En) : AV.resL σ (E.map cellE) = (E.map En.x).map aInts := by
  rw [resL_map, List.map_map, List.map_map]
  refine List.map_congr_left fun e _ => ?_
  exact aSl_res (aInt_res σ) e.x _
def shE (k : Nat) (e : En) : En := ⟨e.x, e.t + k, e.v⟩
theorem PH.shift {τ : Kx.St} {j w : Nat} {E : List En} (h : PH τ j w E) (A : Kx.St) : PH (A ++ τ.map (Res.shift A.length)) (j + A.length) w (E.map (shE A.length)) := by
  have hat : ∀ (i : Nat) (r : Res), τ[i]? = some r → (A ++ τ.map (Res.shift A.length))[i + A.length]? = some (r.shift A.length) := fun i r hr => by
    rw [List.getElem?_append_right (by omega), Nat.add_sub_cancel, List.getElem?_map, hr]; rfl
  refine ⟨?_, fun e he => ?_, ?_⟩
  · rw [hat _ _ h.obj]
    show some (Res.obj w (AV.shiftL A.length (E.map cellE))) = _
    rw [shiftL_map, List.map_map, List.map_map]
    congr 2
    refine List.map_congr_left fun e _ => ?_
    show AV.shift A.length (.sl e.x.length (e.x.map aInt) (.id e.t e.v 1)) = _
    simp only [AV.shift]
    rw [shift_ints]
    rfl
  · obtain ⟨d, hd, rfl⟩ := List.mem_map.1 he
    exact hat _ _ (h.tl d hd)
  · intro i k a b ha hb hab
    rw [List.getElem?_map] at ha hb
    cases ha' : E[i]? with
    | none => rw [ha'] at ha; cases ha
    | some a' =>
      cases hb' : E[k]? with
      | none => rw [hb'] at hb; cases hb
      | some b' =>
        rw [ha'] at ha
        rw [hb'] at hb
        cases ha
        cases hb
        exact h.inj i k a' b' ha' hb' (by simp only [shE] at hab; omega)
def nil3 : List AV := [.sl 0 [] .nil, .sl 0 [] .nil, .sl 0 [] .nil]
def DI (xss : List (List Int)) (l : List Ac) (k : Nat) (σ : Kx.St) : Prop :=
  (k = 0 ∧ σ = [.obj 0 nil3, .obj 0 [.sl 0 [] .nil, .sl 0 [] .nil, aAcs l]]) ∨
  (0 < k ∧ ∃ w E, σ[0]? = some (.obj 0 nil3) ∧ σ[1]? = some (.obj 0 [.ms 3 w 0 k 1, .sl 0 [] .nil, aAcs l]) ∧ E.map En.x = xss.take k ∧ PH σ 3 w E)
set_option maxHeartbeats 8000000 in
theorem law32_dag_m (xss : List (List Int)) (l : List Ac) (hn : 0 < xss.length) (hs : xss.length ≤ 1000000) (hs2 : ∀ x ∈ xss, x.length ≤ 1000000) (hl : l.length ≤ 1000000) :
    FnG Try.prog 25 [aInts2 xss, aAcs l] [] fun a σ => ∃ w E, a = .agg [.ms 3 w 0 xss.length 1, .sl 0 [] .nil, aAcs l] ∧ E.map En.x = xss ∧ PH σ 3 w E := by
  refine fnG_in2 K2_forebaylaw32_dag mixed rfl ?_
  simp only [S2_forebaylaw32_dag]
  have hX : aInts2 xss = .sl xss.length (xss.map aInts) .none := rfl
  have hA : aAcs l = .sl l.length (l.flatMap aAc) .none := rfl
  have h1 : (l.flatMap aAc).all AV.one = true := by rw [List.all_flatMap]; exact List.all_eq_true.2 fun x _ => rfl
  have hfl := flat_len aAc_len l
  refine wpa_seqx (fun ε σ => (ε 0 = aInts2 xss ∧ ε 1 = aAcs l ∧ ε 4 = .ref 0 0 0) ∧ σ = [.obj 0 nil3]) ?_ ?_
  · intro N X R hN
    simp (maxSteps:=999999) -implicitDefEqProofs (disch:=omega) only [push_cast,↓reduceIte,Nat.reduceEqDiff,reduceCtorEq,wz]
    refine wpa_new ?_
    simp (maxSteps:=999999) -implicitDefEqProofs (disch:=omega) only [push_cast,↓reduceIte,Nat.reduceEqDiff,reduceCtorEq,wz]
    exact hN _ _ ⟨by simp (maxSteps:=999999) -implicitDefEqProofs (disch:=omega) only [push_cast,↓reduceIte,Nat.reduceEqDiff,reduceCtorEq,wz], rfl⟩
  rintro ε σ ⟨hρ, rfl⟩
  refine wpa_seqx (fun ε σ => (ε 0 = aInts2 xss ∧ ε 4 = .ref 0 0 0 ∧ ε 5 = .ref 1 0 0) ∧ σ = [.obj 0 nil3, .obj 0 [.sl 0 [] .nil, .sl 0 [] .nil, aAcs l]]) ?_ ?_
  · intro N X R hN
    simp (maxSteps:=999999) -implicitDefEqProofs (disch:=omega) only [push_cast,↓reduceIte,Nat.reduceEqDiff,reduceCtorEq,wz,hρ]
    refine wpa_bsl (sz := 3) (by simp) (by simp) ?_
    simp (maxSteps:=999999) -implicitDefEqProofs (disch:=omega) only [push_cast,↓reduceIte,Nat.reduceEqDiff,reduceCtorEq,wz,hρ,hA]
    refine wpa_app_full0 (n := 0) (cs := []) (m := l.length) rfl rfl hfl h1 rfl (by omega) (by omega) ?_
    simp (maxSteps:=999999) -implicitDefEqProofs (disch:=omega) only [push_cast,↓reduceIte,Nat.reduceEqDiff,reduceCtorEq,wz,hρ]
    rw [fill_acs _ rfl]
    simp (maxSteps:=999999) -implicitDefEqProofs (disch:=omega) only [push_cast,↓reduceIte,Nat.reduceEqDiff,reduceCtorEq,wz]
    refine wpa_new ?_
    simp (maxSteps:=999999) -implicitDefEqProofs (disch:=omega) only [push_cast,↓reduceIte,Nat.reduceEqDiff,reduceCtorEq,wz]
    refine wpa_stn (cs := [.sl 0 [] .nil, .sl 0 [] .nil, .sl 0 [] .nil]) rfl rfl rfl (by decide) ?_
    simp (maxSteps:=999999) -implicitDefEqProofs (disch:=omega) only [push_cast,↓reduceIte,Nat.reduceEqDiff,reduceCtorEq,wz]
    exact hN _ _ ⟨by simp (maxSteps:=999999) -implicitDefEqProofs (disch:=omega) only [push_cast,↓reduceIte,Nat.reduceEqDiff,reduceCtorEq,wz,hρ], rfl⟩
  clear hρ ε
  rintro ε σ ⟨hρ, rfl⟩
  refine wpa_seqx (fun ε σ => (ε 4 = .ref 0 0 0 ∧ ε 5 = .ref 1 0 0) ∧ DI xss l xss.length σ) ?_ ?_
  · intro N X R hN
    simp (maxSteps:=999999) -implicitDefEqProofs (disch:=omega) only [push_cast,↓reduceIte,Nat.reduceEqDiff,reduceCtorEq,wz,hρ]
    refine wpa_blx (α := Nat) (I := fun k ε σ => (ε 0 = aInts2 xss ∧ ε 4 = .ref 0 0 0 ∧ ε 5 = .ref 1 0 0 ∧ ε 6 = .v (.int .i64 k)) ∧ k ≤ xss.length ∧ DI xss l k σ)
      (μ := fun k => xss.length - k) (Q := fun ε σ => (ε 4 = .ref 0 0 0 ∧ ε 5 = .ref 1 0 0) ∧ DI xss l xss.length σ) (x := 0) ?_ ?_ ?_
    · simp (maxSteps:=999999) -implicitDefEqProofs (disch:=omega) only [push_cast,↓reduceIte,Nat.reduceEqDiff,reduceCtorEq,wz,hρ]
      exact ⟨by omega, .inl ⟨rfl, rfl⟩⟩
    · rintro k ε σ N E X' R' ⟨hρ, hk, hD⟩ hN hE
      simp only [S2_forebaylaw32_dag_L1]
      by_cases hlt : k < xss.length
      · obtain ⟨x, hx⟩ := at_lt hlt
        have hxl := hs2 x (List.mem_of_getElem? hx)
        have hxx : aInts x = .sl x.length (x.map aInt) .none := rfl
        have hx1 : (x.map aInt).all AV.one = true := by rw [List.all_map]; exact List.all_eq_true.2 fun y _ => rfl
        rcases hD with ⟨hkz, rfl⟩ | ⟨hk0, w, En0, o0, o1, hE0, hP⟩
        · have o1 : ([.obj 0 nil3, .obj 0 [.sl 0 [] .nil, .sl 0 [] .nil, aAcs l]] : Kx.St)[1]? = some (.obj 0 [.sl 0 [] .nil, .sl 0 [] .nil, aAcs l]) := rfl
          simp (maxSteps:=999999) -implicitDefEqProofs (disch:=omega) only [push_cast,↓reduceIte,Nat.reduceEqDiff,reduceCtorEq,wz,hρ,hX,hx,o1]
          refine wpa_bsl (sz := 1) (by simp) (by simp) ?_
          simp (maxSteps:=999999) -implicitDefEqProofs (disch:=omega) only [push_cast,↓reduceIte,Nat.reduceEqDiff,reduceCtorEq,wz,hρ,hxx]
          refine wpa_app_full (n := 0) (cs := []) (m := x.length) rfl rfl (by simp) hx1 rfl (by omega) (by omega) ?_
          simp (maxSteps:=999999) -implicitDefEqProofs (disch:=omega) only [push_cast,↓reduceIte,Nat.reduceEqDiff,reduceCtorEq,wz,hρ]
          refine ⟨aholds_x (by simp (maxSteps:=999999) -implicitDefEqProofs (disch:=omega) only [push_cast,↓reduceIte,Nat.reduceEqDiff,reduceCtorEq,wz,hρ]; first | exact rfl | exact ⟨rfl, rfl⟩), ?_⟩
          refine wpa_bsl (sz := 1) (by simp [AV.cells]) (by simp) ?_
          simp (maxSteps:=999999) -implicitDefEqProofs (disch:=omega) only [push_cast,↓reduceIte,Nat.reduceEqDiff,reduceCtorEq,wz,hρ]
          refine ⟨aholds_x (by simp (maxSteps:=999999) -implicitDefEqProofs (disch:=omega) only [push_cast,↓reduceIte,Nat.reduceEqDiff,reduceCtorEq,wz,hρ]; first | exact rfl | exact ⟨rfl, rfl⟩), ?_⟩
          refine wpa_app_nilo (m := 1) rfl rfl rfl rfl (by omega) (by omega) (by omega) ?_
          simp (maxSteps:=999999) -implicitDefEqProofs (disch:=omega) only [push_cast,↓reduceIte,Nat.reduceEqDiff,reduceCtorEq,wz,hρ]
          refine wpa_st1 rfl rfl rfl (by simp) ?_
          simp (maxSteps:=999999) -implicitDefEqProofs (disch:=omega) only [push_cast,↓reduceIte,Nat.reduceEqDiff,reduceCtorEq,wz,hρ]
          refine hN (k + 1) _ _ ?_ (by omega)
          simp (maxSteps:=999999) -implicitDefEqProofs (disch:=omega) only [push_cast,↓reduceIte,Nat.reduceEqDiff,reduceCtorEq,wz,hρ]
          subst hkz
          refine ⟨by omega, .inr ⟨by omega, 0, [⟨x, 2, 1⟩], rfl, rfl, ?_, ⟨?_, fun e he => ?_, ?_⟩⟩⟩
          · rw [take_succ_at hx]; simp
          · simp [cellE, AV.cells]
          · simp at he; subst he; rfl
          · intro i k a b ha hb _
            have := lt_at ha
            have := lt_at hb
            simp at *
            omega
        · have hEl : En0.length = k := by
            have := congrArg List.length hE0
            simp at this; omega
          have hP1 := hP.more x (w + 1)
          have htk : (En0.map cellE).take (k * 1) = En0.map cellE := List.take_of_length_le (by simp; omega)
          simp (maxSteps:=999999) -implicitDefEqProofs (disch:=omega) only [push_cast,↓reduceIte,Nat.reduceEqDiff,reduceCtorEq,wz,hρ,hX,hx,o1]
          refine wpa_bsl (sz := 1) (by simp) (by simp) ?_
          simp (maxSteps:=999999) -implicitDefEqProofs (disch:=omega) only [push_cast,↓reduceIte,Nat.reduceEqDiff,reduceCtorEq,wz,hρ,hxx]
          refine wpa_app_full (n := 0) (cs := []) (m := x.length) rfl rfl (by simp) hx1 rfl (by omega) (by omega) ?_
          have o1' := get_app (τ := [Res.tail 1]) o1
          simp (maxSteps:=999999) -implicitDefEqProofs (disch:=omega) only [push_cast,↓reduceIte,Nat.reduceEqDiff,reduceCtorEq,wz,hρ]
          refine ⟨aholds_x (by simp (maxSteps:=999999) -implicitDefEqProofs (disch:=omega) only [push_cast,↓reduceIte,Nat.reduceEqDiff,reduceCtorEq,wz,hρ,o1']; exact rfl), ?_⟩
          refine wpa_bsl (sz := 1) (by simp [AV.cells]) (by simp) ?_
          simp (maxSteps:=999999) -implicitDefEqProofs (disch:=omega) only [push_cast,↓reduceIte,Nat.reduceEqDiff,reduceCtorEq,wz,hρ]
          refine ⟨aholds_x (by simp (maxSteps:=999999) -implicitDefEqProofs (disch:=omega) only [push_cast,↓reduceIte,Nat.reduceEqDiff,reduceCtorEq,wz,hρ,o1']; exact rfl), ?_⟩
          refine wpa_app_ms (m := 1) rfl rfl rfl rfl (by simp; omega) (by omega) (by omega) (get_app hP.obj) ?_
          rw [htk]
          have q1 := get_set_ne (o := Res.obj (w + 1) ((En0 ++ [En.mk x σ.length 1]).map cellE)) (show (3 : Nat) ≠ 1 by decide) o1'
          have q0 := get_set_ne (o := Res.obj (w + 1) ((En0 ++ [En.mk x σ.length 1]).map cellE)) (show (3 : Nat) ≠ 0 by decide) (get_app (τ := [Res.tail 1]) o0)
          have hce : En0.map cellE ++ [AV.sl (0 + x.length) ([] ++ x.map aInt) (.id σ.length 1 1)] = (En0 ++ [En.mk x σ.length 1]).map cellE := by simp [cellE]
          rw [show (0 + x.length) = x.length by omega] at hce
          rw [show ([] : List AV) ++ x.map aInt = x.map aInt from rfl] at hce
          simp (maxSteps:=999999) -implicitDefEqProofs (disch:=omega) only [push_cast,↓reduceIte,Nat.reduceEqDiff,reduceCtorEq,wz,hρ]
          rw [hce]
          refine wpa_st1 rfl rfl q1 (by simp) ?_
          simp (maxSteps:=999999) -implicitDefEqProofs (disch:=omega) only [push_cast,↓reduceIte,Nat.reduceEqDiff,reduceCtorEq,wz,hρ]
          refine hN (k + 1) _ _ ?_ (by omega)
          simp (maxSteps:=999999) -implicitDefEqProofs (disch:=omega) only [push_cast,↓reduceIte,Nat.reduceEqDiff,reduceCtorEq,wz,hρ]
          refine ⟨by omega, .inr ⟨by omega, w + 1, En0 ++ [En.mk x σ.length 1], get_set_ne (by decide) q0, ?_, ?_, hP1.setO q1 (by decide) _⟩⟩
          · rw [get_set_eq q1]
          · rw [List.map_append, hE0, take_succ_at hx]; rfl
      · have e : k = xss.length := by omega
        subst e
        simp (maxSteps:=999999) -implicitDefEqProofs (disch:=omega) only [push_cast,↓reduceIte,Nat.reduceEqDiff,reduceCtorEq,wz,hρ,hX]
        refine hE _ _ ?_
        simp (maxSteps:=999999) -implicitDefEqProofs (disch:=omega) only [push_cast,↓reduceIte,Nat.reduceEqDiff,reduceCtorEq,wz,hρ]
        exact hD
    · rintro ε σ h
      exact hN _ _ h
  clear hρ ε
  rintro ε σ ⟨hρ, hD⟩
  rcases hD with ⟨h0, _⟩ | ⟨_, w, E, o0, o1, hE, hP⟩
  · omega
  simp (maxSteps:=999999) -implicitDefEqProofs (disch:=omega) only [push_cast,↓reduceIte,Nat.reduceEqDiff,reduceCtorEq,wz,hρ,o1,cell3]
  refine wpa_stn (n := 3) rfl rfl o0 (by decide) ?_
  have o0' := get_set_eq (o := Res.obj 0 [AV.ms 3 w 0 xss.length 1, .sl 0 [] .nil, aAcs l]) o0
  have hs3 : ∀ a b c : AV, setAtA nil3 0 [a, b, c] = [a, b, c] := fun _ _ _ => rfl
  rw [hs3]
  simp (maxSteps:=999999) -implicitDefEqProofs (disch:=omega) only [push_cast,↓reduceIte,Nat.reduceEqDiff,reduceCtorEq,wz,hρ,o0',cell3]
  exact ⟨w, E, rfl, by rw [hE, List.take_length], hP.setO o0 (by decide) _⟩
end Go.Proofs.Ytncdnegdlkmicaa.Rc
