/- Contracts on annotated values: forebayref30.Dag's next, wrong, begin; forebayref30.at. -/
import Derived.Test.YtilofhocodbknaaStm
namespace Go.Proofs.Ytilofhocodbknaa
set_option linter.unusedVariables false
set_option linter.unusedSimpArgs false
open Go Go.Kx Go.Proofs

structure RD where
  pos : Nat
  preds : List (List Int)
  nodes : List Nd
  accs : List Ac
  over : Bool
  e : Int
def rdC (l : List Mk) (D : RD) (t : Tb) : List AV := [.sl l.length (l.flatMap aMk) .none, .v (.int .i64 D.pos), .sl D.preds.length (D.preds.map aInts) t.p, .sl D.nodes.length (D.nodes.flatMap aNd) t.n, .sl D.accs.length (D.accs.flatMap aAc) t.a, .v (.bool D.over), .v (.int .i64 D.e)]
theorem rdC_0 (l : List Mk) (D : RD) (t : Tb) : (rdC l D t)[0]? = some (.sl l.length (l.flatMap aMk) .none) := rfl
theorem rdC_1 (l : List Mk) (D : RD) (t : Tb) : (rdC l D t)[1]? = some (.v (.int .i64 D.pos)) := rfl
theorem rdC_2 (l : List Mk) (D : RD) (t : Tb) : (rdC l D t)[2]? = some (.sl D.preds.length (D.preds.map aInts) t.p) := rfl
theorem rdC_3 (l : List Mk) (D : RD) (t : Tb) : (rdC l D t)[3]? = some (.sl D.nodes.length (D.nodes.flatMap aNd) t.n) := rfl
theorem rdC_4 (l : List Mk) (D : RD) (t : Tb) : (rdC l D t)[4]? = some (.sl D.accs.length (D.accs.flatMap aAc) t.a) := rfl
theorem rdC_5 (l : List Mk) (D : RD) (t : Tb) : (rdC l D t)[5]? = some (.v (.bool D.over)) := rfl
theorem rdC_6 (l : List Mk) (D : RD) (t : Tb) : (rdC l D t)[6]? = some (.v (.int .i64 D.e)) := rfl
structure RdAt (σ : St) (lab : Nat → Role) (id : Nat) (l : List Mk) (D : RD) (t : Tb) : Prop where
  obj : σ[id]? = some (.obj 0 (rdC l D t))
  li : lab id = (1, 0)
  p : TokOk σ lab (3, 0) t.p D.preds.length 1
  n : TokOk σ lab (4, 0) t.n D.nodes.length 3
  a : TokOk σ lab (5, 0) t.a D.accs.length 3
theorem RdAt.stp {S : Role → Prop} {σ σ' : St} {lab lab' : Nat → Role} {id : Nat} {l : List Mk} {D : RD} {t : Tb} (h : RdAt σ lab id l D t) (k : Stp S σ lab σ' lab') (hS : ∀ q, 1 ≤ q → q ≤ 5 → ¬ S (q, 0)) : RdAt σ' lab' id l D t := by
  obtain ⟨a, b⟩ := k.get h.obj (by rw [h.li]; exact hS 1 (by omega) (by omega))
  exact ⟨a, b.trans h.li, h.p.stp k (hS 3 (by omega) (by omega)), h.n.stp k (hS 4 (by omega) (by omega)), h.a.stp k (hS 5 (by omega) (by omega))⟩
theorem Stp.setNew {S : Role → Prop} {σ σ1 : St} {lab lab1 : Nat → Role} {b : Nat} {x : Res} (k : Stp S σ lab σ1 lab1) (hb : σ.length ≤ b) : Stp S σ lab (σ1.set b x) lab1 :=
  ⟨by rw [List.length_set]; exact k.le, fun j hj hS => by rw [List.getElem?_set_ne (by omega)]; exact k.same j hj hS⟩
theorem RdAt.put {σ : St} {lab : Nat → Role} {id : Nat} {l : List Mk} {D D' : RD} {t : Tb} (h : RdAt σ lab id l D t) (hp : D'.preds = D.preds) (hn : D'.nodes = D.nodes) (ha : D'.accs = D.accs) :
    RdAt (σ.set id (.obj 0 (rdC l D' t))) lab id l D' t ∧ Stp isB σ lab (σ.set id (.obj 0 (rdC l D' t))) lab := by
  have k2 := stp_set (σ := σ) (x := .obj 0 (rdC l D' t)) h.li
  exact ⟨⟨get_set_eq h.obj, h.li, by rw [hp]; exact h.p.stp k2 (by simp), by rw [hn]; exact h.n.stp k2 (by simp), by rw [ha]; exact h.a.stp k2 (by simp)⟩, k2.mono fun r e => by subst e; exact isB_10⟩
theorem RdAt.ps {σ σ1 : St} {lab lab1 : Nat → Role} {id : Nat} {l : List Mk} {D : RD} {t : Tb} {t1 : Tok} (h : RdAt σ lab id l D t) (k : Stp (· = (3, 0)) σ lab σ1 lab1) (ps : List Int) (ht : TokOk σ1 lab1 (3, 0) t1 (D.preds.length + 1) 1) :
    RdAt (σ1.set id (.obj 0 (rdC l { D with preds := D.preds ++ [ps] } { t with p := t1 }))) lab1 id l { D with preds := D.preds ++ [ps] } { t with p := t1 } ∧
      Stp isB σ lab (σ1.set id (.obj 0 (rdC l { D with preds := D.preds ++ [ps] } { t with p := t1 }))) lab1 := by
  obtain ⟨a, b⟩ := k.get h.obj (by rw [h.li]; simp)
  have hl := b.trans h.li
  have k2 := stp_set (σ := σ1) (x := .obj 0 (rdC l { D with preds := D.preds ++ [ps] } { t with p := t1 })) hl
  refine ⟨⟨get_set_eq a, hl, ?_, (h.n.stp k (by simp)).stp k2 (by simp), (h.a.stp k (by simp)).stp k2 (by simp)⟩, k.trans k2 (fun r e => by subst e; simp [isB]) (fun r e => by subst e; simp [isB])⟩
  have := ht.stp k2 (by simp)
  rw [show ({ D with preds := D.preds ++ [ps] } : RD).preds.length = D.preds.length + 1 by simp]
  exact this
theorem RdAt.ns {σ σ1 : St} {lab lab1 : Nat → Role} {id : Nat} {l : List Mk} {D : RD} {t : Tb} {t1 : Tok} (h : RdAt σ lab id l D t) (k : Stp (· = (4, 0)) σ lab σ1 lab1) (n : Nd) (ht : TokOk σ1 lab1 (4, 0) t1 (D.nodes.length + 1) 3) :
    RdAt (σ1.set id (.obj 0 (rdC l { D with nodes := D.nodes ++ [n] } { t with n := t1 }))) lab1 id l { D with nodes := D.nodes ++ [n] } { t with n := t1 } ∧
      Stp isB σ lab (σ1.set id (.obj 0 (rdC l { D with nodes := D.nodes ++ [n] } { t with n := t1 }))) lab1 := by
  obtain ⟨a, b⟩ := k.get h.obj (by rw [h.li]; simp)
  have hl := b.trans h.li
  have k2 := stp_set (σ := σ1) (x := .obj 0 (rdC l { D with nodes := D.nodes ++ [n] } { t with n := t1 })) hl
  refine ⟨⟨get_set_eq a, hl, (h.p.stp k (by simp)).stp k2 (by simp), ?_, (h.a.stp k (by simp)).stp k2 (by simp)⟩, k.trans k2 (fun r e => by subst e; simp [isB]) (fun r e => by subst e; simp [isB])⟩
  have := ht.stp k2 (by simp)
  rw [show ({ D with nodes := D.nodes ++ [n] } : RD).nodes.length = D.nodes.length + 1 by simp]
  exact this
theorem RdAt.cs {σ σ1 : St} {lab lab1 : Nat → Role} {id : Nat} {l : List Mk} {D : RD} {t : Tb} {t1 : Tok} (h : RdAt σ lab id l D t) (k : Stp (· = (5, 0)) σ lab σ1 lab1) (c : Ac) (ht : TokOk σ1 lab1 (5, 0) t1 (D.accs.length + 1) 3) :
    RdAt (σ1.set id (.obj 0 (rdC l { D with accs := D.accs ++ [c] } { t with a := t1 }))) lab1 id l { D with accs := D.accs ++ [c] } { t with a := t1 } ∧
      Stp isB σ lab (σ1.set id (.obj 0 (rdC l { D with accs := D.accs ++ [c] } { t with a := t1 }))) lab1 := by
  obtain ⟨a, b⟩ := k.get h.obj (by rw [h.li]; simp)
  have hl := b.trans h.li
  have k2 := stp_set (σ := σ1) (x := .obj 0 (rdC l { D with accs := D.accs ++ [c] } { t with a := t1 })) hl
  refine ⟨⟨get_set_eq a, hl, (h.p.stp k (by simp)).stp k2 (by simp), (h.n.stp k (by simp)).stp k2 (by simp), ?_⟩, k.trans k2 (fun r e => by subst e; simp [isB]) (fun r e => by subst e; simp [isB])⟩
  have := ht.stp k2 (by simp)
  rw [show ({ D with accs := D.accs ++ [c] } : RD).accs.length = D.accs.length + 1 by simp]
  exact this
def RD.begin (D : RD) (n : Nd) (ps : List Int) : Int × RD := if D.preds.length = 1000 then (0, { D with e := 9, over := true }) else ((D.preds.length : Int), { D with preds := D.preds ++ [ps], nodes := D.nodes ++ [n] })
def RD.wrong (D : RD) : RD := { D with e := 4, over := true }
def RD.next (l : List Mk) (D : RD) : Mk × RD :=
  match l[D.pos]? with
  | none => (⟨0, 0, 0⟩, { D with over := true })
  | some m => if m.k < 1 ∨ 12 < m.k then (m, { D with pos := D.pos + 1, e := 5, over := true }) else (m, { D with pos := D.pos + 1 })
theorem wrong_a {σ : St} {lab : Nat → Role} {id : Nat} {l : List Mk} {D : RD} {t : Tb} (h : RdAt σ lab id l D t) :
    FnG Try.prog 124 [.ref id 0 0] σ fun _ σ' => RdAt σ' lab id l D.wrong t ∧ Stp isB σ lab σ' lab := by
  refine fnG_in K_forebayref30_Dag_wrong mixed rfl ?_
  simp only [S_forebayref30_Dag_wrong]
  have ho := h.obj
  obtain ⟨m1, m2⟩ := h.put (D' := { D with e := 4 }) rfl rfl rfl
  have ho1 := m1.obj
  obtain ⟨n1, n2⟩ := m1.put (D' := D.wrong) rfl rfl rfl
  simp (maxSteps := 1000000) (implicitDefEqProofs := false) (disch := omega) only [push_cast, ↓reduceIte, Nat.reduceEqDiff, reduceCtorEq, decide_true, decide_false, Bool.not_true, Bool.not_false, Option.isNone_some, Option.isNone_none, List.drop_zero, List.drop_succ_cons, List.getElem?_cons_zero, List.getElem?_cons_succ, List.length_cons, List.length_nil, List.take_succ_cons, List.take_zero, Nat.mul_one, Nat.zero_add, Nat.add_zero, Nat.one_mul, Nat.zero_mul, List.getElem?_map, List.getElem?_drop, List.getElem?_take, List.length_map, Option.map_some, List.set_cons_zero, List.set_cons_succ, and_true, true_and, List.flatMap_cons, List.flatMap_nil, Bool.not_not]
  refine wpa_st1 rfl rfl ho (by simp [rdC]) ?_
  have e1 : (rdC l D t).set 6 (.v (.int .i64 4)) = rdC l { D with e := 4 } t := rfl
  rw [e1]
  simp (maxSteps := 1000000) (implicitDefEqProofs := false) (disch := omega) only [push_cast, ↓reduceIte, Nat.reduceEqDiff, reduceCtorEq, decide_true, decide_false, Bool.not_true, Bool.not_false, Option.isNone_some, Option.isNone_none, List.drop_zero, List.drop_succ_cons, List.getElem?_cons_zero, List.getElem?_cons_succ, List.length_cons, List.length_nil, List.take_succ_cons, List.take_zero, Nat.mul_one, Nat.zero_add, Nat.add_zero, Nat.one_mul, Nat.zero_mul, List.getElem?_map, List.getElem?_drop, List.getElem?_take, List.length_map, Option.map_some, List.set_cons_zero, List.set_cons_succ, and_true, true_and, List.flatMap_cons, List.flatMap_nil, Bool.not_not]
  refine wpa_st1 rfl rfl ho1 (by simp [rdC]) ?_
  have e2 : (rdC l { D with e := 4 } t).set 5 (.v (.bool true)) = rdC l D.wrong t := rfl
  rw [e2]
  simp (maxSteps := 1000000) (implicitDefEqProofs := false) (disch := omega) only [push_cast, ↓reduceIte, Nat.reduceEqDiff, reduceCtorEq, decide_true, decide_false, Bool.not_true, Bool.not_false, Option.isNone_some, Option.isNone_none, List.drop_zero, List.drop_succ_cons, List.getElem?_cons_zero, List.getElem?_cons_succ, List.length_cons, List.length_nil, List.take_succ_cons, List.take_zero, Nat.mul_one, Nat.zero_add, Nat.add_zero, Nat.one_mul, Nat.zero_mul, List.getElem?_map, List.getElem?_drop, List.getElem?_take, List.length_map, Option.map_some, List.set_cons_zero, List.set_cons_succ, and_true, true_and, List.flatMap_cons, List.flatMap_nil, Bool.not_not]
  exact ⟨n1, m2.trans n2 (fun _ h => h) fun _ h => h⟩
theorem at_a (l : List (Int × Int)) (s : Int) (hl : l.length ≤ 100000) : FnP Try.prog 123 [.sl l.length (l.flatMap aSt) .none, aInt s] fun a => a = aInt (lastA l s) := by
  have hpu : (AV.sl l.length (l.flatMap aSt) .none).pure = true := aSlN_pure (f := aSt) (fun p => by simp [aSt, AV.pureL, AV.pure]) l
  refine fnP_in K_forebayref30_at mixed rfl (by simp [AV.pureL, hpu, aInt_pure]) ?_
  simp only [S_forebayref30_at]
  simp (maxSteps := 1000000) (implicitDefEqProofs := false) (disch := omega) only [push_cast, ↓reduceIte, Nat.reduceEqDiff, reduceCtorEq, decide_true, decide_false, Bool.not_true, Bool.not_false, Option.isNone_some, Option.isNone_none, List.drop_zero, List.drop_succ_cons, List.getElem?_cons_zero, List.getElem?_cons_succ, List.length_cons, List.length_nil, List.take_succ_cons, List.take_zero, Nat.mul_one, Nat.zero_add, Nat.add_zero, Nat.one_mul, Nat.zero_mul, List.getElem?_map, List.getElem?_drop, List.getElem?_take, List.length_map, Option.map_some, List.set_cons_zero, List.set_cons_succ, and_true, true_and, List.flatMap_cons, List.flatMap_nil, Bool.not_not, aInt]
  refine wpa_bl (α := Nat) (I := fun n ε σ => (ε 0 = .sl l.length (l.flatMap aSt) .none ∧ ε 1 = .v (.int .i64 s) ∧ ε 5 = .v (.int .i64 (lastA (l.take n) s)) ∧ ε 6 = .v (.int .i64 n)) ∧ n ≤ l.length)
    (μ := fun n => l.length - n) (Q := fun ε _ => ε 5 = .v (.int .i64 (lastA l s))) (x := 0) ?_ ?_ ?_
  · simp (maxSteps := 1000000) (implicitDefEqProofs := false) (disch := omega) only [push_cast, ↓reduceIte, Nat.reduceEqDiff, reduceCtorEq, decide_true, decide_false, Bool.not_true, Bool.not_false, Option.isNone_some, Option.isNone_none, List.drop_zero, List.drop_succ_cons, List.getElem?_cons_zero, List.getElem?_cons_succ, List.length_cons, List.length_nil, List.take_succ_cons, List.take_zero, Nat.mul_one, Nat.zero_add, Nat.add_zero, Nat.one_mul, Nat.zero_mul, List.getElem?_map, List.getElem?_drop, List.getElem?_take, List.length_map, Option.map_some, List.set_cons_zero, List.set_cons_succ, and_true, true_and, List.flatMap_cons, List.flatMap_nil, Bool.not_not]
    exact ⟨rfl, by omega⟩
  · rintro n ε σ N E ⟨hρ, hn⟩ hN hE
    simp only [S_forebayref30_at_L1]
    by_cases hlt : n < l.length
    · obtain ⟨e, he⟩ := at_lt hlt
      have hd := flat_drop aSt_len he
      have g0 : ∀ k : List AV, (aSt e ++ k)[0]? = some (.v (.int .i64 e.1)) := fun _ => rfl
      have g1 : ∀ k : List AV, (aSt e ++ k)[1]? = some (.v (.int .i64 e.2)) := fun _ => rfl
      have hls := lastA_snoc (l.take n) e s
      rw [← take_succ_at he] at hls
      have hN1 := hN (n + 1)
      rw [hls] at hN1
      by_cases h : e.1 ≤ s
      · rw [if_pos h] at hN1
        simp (maxSteps := 1000000) (implicitDefEqProofs := false) (disch := omega) only [push_cast, ↓reduceIte, Nat.reduceEqDiff, reduceCtorEq, decide_true, decide_false, Bool.not_true, Bool.not_false, Option.isNone_some, Option.isNone_none, List.drop_zero, List.drop_succ_cons, List.getElem?_cons_zero, List.getElem?_cons_succ, List.length_cons, List.length_nil, List.take_succ_cons, List.take_zero, Nat.mul_one, Nat.zero_add, Nat.add_zero, Nat.one_mul, Nat.zero_mul, List.getElem?_map, List.getElem?_drop, List.getElem?_take, List.length_map, Option.map_some, List.set_cons_zero, List.set_cons_succ, and_true, true_and, List.flatMap_cons, List.flatMap_nil, Bool.not_not, hρ, hd, g0, g1, h]
        refine hN1 _ _ ?_ (by omega)
        simp (maxSteps := 1000000) (implicitDefEqProofs := false) (disch := omega) only [push_cast, ↓reduceIte, Nat.reduceEqDiff, reduceCtorEq, decide_true, decide_false, Bool.not_true, Bool.not_false, Option.isNone_some, Option.isNone_none, List.drop_zero, List.drop_succ_cons, List.getElem?_cons_zero, List.getElem?_cons_succ, List.length_cons, List.length_nil, List.take_succ_cons, List.take_zero, Nat.mul_one, Nat.zero_add, Nat.add_zero, Nat.one_mul, Nat.zero_mul, List.getElem?_map, List.getElem?_drop, List.getElem?_take, List.length_map, Option.map_some, List.set_cons_zero, List.set_cons_succ, and_true, true_and, List.flatMap_cons, List.flatMap_nil, Bool.not_not, hρ]
        omega
      · rw [if_neg h] at hN1
        simp (maxSteps := 1000000) (implicitDefEqProofs := false) (disch := omega) only [push_cast, ↓reduceIte, Nat.reduceEqDiff, reduceCtorEq, decide_true, decide_false, Bool.not_true, Bool.not_false, Option.isNone_some, Option.isNone_none, List.drop_zero, List.drop_succ_cons, List.getElem?_cons_zero, List.getElem?_cons_succ, List.length_cons, List.length_nil, List.take_succ_cons, List.take_zero, Nat.mul_one, Nat.zero_add, Nat.add_zero, Nat.one_mul, Nat.zero_mul, List.getElem?_map, List.getElem?_drop, List.getElem?_take, List.length_map, Option.map_some, List.set_cons_zero, List.set_cons_succ, and_true, true_and, List.flatMap_cons, List.flatMap_nil, Bool.not_not, hρ, hd, g0, g1, h]
        refine hN1 _ _ ?_ (by omega)
        simp (maxSteps := 1000000) (implicitDefEqProofs := false) (disch := omega) only [push_cast, ↓reduceIte, Nat.reduceEqDiff, reduceCtorEq, decide_true, decide_false, Bool.not_true, Bool.not_false, Option.isNone_some, Option.isNone_none, List.drop_zero, List.drop_succ_cons, List.getElem?_cons_zero, List.getElem?_cons_succ, List.length_cons, List.length_nil, List.take_succ_cons, List.take_zero, Nat.mul_one, Nat.zero_add, Nat.add_zero, Nat.one_mul, Nat.zero_mul, List.getElem?_map, List.getElem?_drop, List.getElem?_take, List.length_map, Option.map_some, List.set_cons_zero, List.set_cons_succ, and_true, true_and, List.flatMap_cons, List.flatMap_nil, Bool.not_not, hρ]
        omega
    · simp (maxSteps := 1000000) (implicitDefEqProofs := false) (disch := omega) only [push_cast, ↓reduceIte, Nat.reduceEqDiff, reduceCtorEq, decide_true, decide_false, Bool.not_true, Bool.not_false, Option.isNone_some, Option.isNone_none, List.drop_zero, List.drop_succ_cons, List.getElem?_cons_zero, List.getElem?_cons_succ, List.length_cons, List.length_nil, List.take_succ_cons, List.take_zero, Nat.mul_one, Nat.zero_add, Nat.add_zero, Nat.one_mul, Nat.zero_mul, List.getElem?_map, List.getElem?_drop, List.getElem?_take, List.length_map, Option.map_some, List.set_cons_zero, List.set_cons_succ, and_true, true_and, List.flatMap_cons, List.flatMap_nil, Bool.not_not, hρ]
      refine hE _ _ ?_
      rw [List.take_of_length_le (by omega)] at hρ
      simp (maxSteps := 1000000) (implicitDefEqProofs := false) (disch := omega) only [push_cast, ↓reduceIte, Nat.reduceEqDiff, reduceCtorEq, decide_true, decide_false, Bool.not_true, Bool.not_false, Option.isNone_some, Option.isNone_none, List.drop_zero, List.drop_succ_cons, List.getElem?_cons_zero, List.getElem?_cons_succ, List.length_cons, List.length_nil, List.take_succ_cons, List.take_zero, Nat.mul_one, Nat.zero_add, Nat.add_zero, Nat.one_mul, Nat.zero_mul, List.getElem?_map, List.getElem?_drop, List.getElem?_take, List.length_map, Option.map_some, List.set_cons_zero, List.set_cons_succ, and_true, true_and, List.flatMap_cons, List.flatMap_nil, Bool.not_not, hρ]
  · rintro ε σ h
    simp (maxSteps := 1000000) (implicitDefEqProofs := false) (disch := omega) only [push_cast, ↓reduceIte, Nat.reduceEqDiff, reduceCtorEq, decide_true, decide_false, Bool.not_true, Bool.not_false, Option.isNone_some, Option.isNone_none, List.drop_zero, List.drop_succ_cons, List.getElem?_cons_zero, List.getElem?_cons_succ, List.length_cons, List.length_nil, List.take_succ_cons, List.take_zero, Nat.mul_one, Nat.zero_add, Nat.add_zero, Nat.one_mul, Nat.zero_mul, List.getElem?_map, List.getElem?_drop, List.getElem?_take, List.length_map, Option.map_some, List.set_cons_zero, List.set_cons_succ, and_true, true_and, List.flatMap_cons, List.flatMap_nil, Bool.not_not, h]
    exact ⟨[], rfl⟩
set_option maxHeartbeats 1000000 in
theorem begin_a {σ : St} {lab : Nat → Role} {id : Nat} {l : List Mk} {D : RD} {t0 : Tb} (H : RdAt σ lab id l D t0) (hp : D.preds.length ≤ 1000) (hn : D.nodes.length = D.preds.length) (n : Nd) (ps : List Int) :
    FnG Try.prog 107 [.ref id 0 0, .agg (aNd n), aInts ps] σ fun a σ' => a = aInt (D.begin n ps).1 ∧ ∃ lab' t', RdAt σ' lab' id l (D.begin n ps).2 t' ∧ Stp isB σ lab σ' lab' := by
  refine fnG_in K_forebayref30_Dag_begin mixed rfl ?_
  simp only [S_forebayref30_Dag_begin]
  simp (maxSteps := 1000000) (implicitDefEqProofs := false) (disch := omega) only [push_cast, ↓reduceIte, Nat.reduceEqDiff, reduceCtorEq, decide_true, decide_false, Bool.not_true, Bool.not_false, Option.isNone_some, Option.isNone_none, List.drop_zero, List.drop_succ_cons, List.getElem?_cons_zero, List.getElem?_cons_succ, List.length_cons, List.length_nil, List.take_succ_cons, List.take_zero, Nat.mul_one, Nat.zero_add, Nat.add_zero, Nat.one_mul, Nat.zero_mul, List.getElem?_map, List.getElem?_drop, List.getElem?_take, List.length_map, Option.map_some, List.set_cons_zero, List.set_cons_succ, and_true, true_and, List.flatMap_cons, List.flatMap_nil, Bool.not_not]
  refine wpa_box ?_
  have k0 : Stp isB σ lab (σ ++ [.obj 0 (AV.cells (.agg (aNd n)))]) (labN σ lab (0, 0)) := stp_new (0, 0)
  have H0 := H.stp (stp_new (S := fun _ => False) (x := .obj 0 (AV.cells (.agg (aNd n)))) (0, 0)) fun _ _ _ h => h
  have hbx : (σ ++ [Res.obj 0 (AV.cells (.agg (aNd n)))])[σ.length]? = some (.obj 0 (aNd n)) := at_snoc _ _
  have hlx : labN σ lab (0, 0) σ.length = (0, 0) := labN_self _ _ _
  generalize σ ++ [Res.obj 0 (AV.cells (.agg (aNd n)))] = σ0 at k0 H0 hbx ⊢
  generalize labN σ lab (0, 0) = lab0 at k0 H0 hlx
  generalize σ.length = bx at hbx hlx
  have h1 := H0
  have ho := h1.obj
  by_cases h1000 : D.preds.length = 1000
  · have hb : D.begin n ps = (0, { D with e := 9, over := true }) := if_pos h1000
    rw [hb]
    have h1000' : ((D.preds.length : Nat) : Int) = 1000 := by omega
    obtain ⟨m1, m2⟩ := h1.put (D' := { D with e := 9 }) rfl rfl rfl
    have ho1 := m1.obj
    obtain ⟨n1, n2⟩ := m1.put (D' := { D with e := 9, over := true }) rfl rfl rfl
    simp (maxSteps := 1000000) (implicitDefEqProofs := false) (disch := omega) only [push_cast, ↓reduceIte, Nat.reduceEqDiff, reduceCtorEq, decide_true, decide_false, Bool.not_true, Bool.not_false, Option.isNone_some, Option.isNone_none, List.drop_zero, List.drop_succ_cons, List.getElem?_cons_zero, List.getElem?_cons_succ, List.length_cons, List.length_nil, List.take_succ_cons, List.take_zero, Nat.mul_one, Nat.zero_add, Nat.add_zero, Nat.one_mul, Nat.zero_mul, List.getElem?_map, List.getElem?_drop, List.getElem?_take, List.length_map, Option.map_some, List.set_cons_zero, List.set_cons_succ, and_true, true_and, List.flatMap_cons, List.flatMap_nil, Bool.not_not, ho, rdC_2, h1000']
    refine wpa_st1 rfl rfl ho (by simp [rdC]) ?_
    have e1 : (rdC l D t0).set 6 (.v (.int .i64 9)) = rdC l { D with e := 9 } t0 := rfl
    rw [e1]
    simp (maxSteps := 1000000) (implicitDefEqProofs := false) (disch := omega) only [push_cast, ↓reduceIte, Nat.reduceEqDiff, reduceCtorEq, decide_true, decide_false, Bool.not_true, Bool.not_false, Option.isNone_some, Option.isNone_none, List.drop_zero, List.drop_succ_cons, List.getElem?_cons_zero, List.getElem?_cons_succ, List.length_cons, List.length_nil, List.take_succ_cons, List.take_zero, Nat.mul_one, Nat.zero_add, Nat.add_zero, Nat.one_mul, Nat.zero_mul, List.getElem?_map, List.getElem?_drop, List.getElem?_take, List.length_map, Option.map_some, List.set_cons_zero, List.set_cons_succ, and_true, true_and, List.flatMap_cons, List.flatMap_nil, Bool.not_not]
    refine wpa_st1 rfl rfl ho1 (by simp [rdC]) ?_
    have e2 : (rdC l { D with e := 9 } t0).set 5 (.v (.bool true)) = rdC l { D with e := 9, over := true } t0 := rfl
    rw [e2]
    simp (maxSteps := 1000000) (implicitDefEqProofs := false) (disch := omega) only [push_cast, ↓reduceIte, Nat.reduceEqDiff, reduceCtorEq, decide_true, decide_false, Bool.not_true, Bool.not_false, Option.isNone_some, Option.isNone_none, List.drop_zero, List.drop_succ_cons, List.getElem?_cons_zero, List.getElem?_cons_succ, List.length_cons, List.length_nil, List.take_succ_cons, List.take_zero, Nat.mul_one, Nat.zero_add, Nat.add_zero, Nat.one_mul, Nat.zero_mul, List.getElem?_map, List.getElem?_drop, List.getElem?_take, List.length_map, Option.map_some, List.set_cons_zero, List.set_cons_succ, and_true, true_and, List.flatMap_cons, List.flatMap_nil, Bool.not_not]
    exact ⟨rfl, lab0, t0, n1, (k0.trans m2 (U := isB) (fun _ h => h) fun _ h => h).trans n2 (fun _ h => h) fun _ h => h⟩
  · have hb : D.begin n ps = ((D.preds.length : Int), { D with preds := D.preds ++ [ps], nodes := D.nodes ++ [n] }) := if_neg h1000
    rw [hb]
    have h1000' : ¬ ((D.preds.length : Int) = 1000) := by omega
    simp (maxSteps := 1000000) (implicitDefEqProofs := false) (disch := omega) only [push_cast, ↓reduceIte, Nat.reduceEqDiff, reduceCtorEq, decide_true, decide_false, Bool.not_true, Bool.not_false, Option.isNone_some, Option.isNone_none, List.drop_zero, List.drop_succ_cons, List.getElem?_cons_zero, List.getElem?_cons_succ, List.length_cons, List.length_nil, List.take_succ_cons, List.take_zero, Nat.mul_one, Nat.zero_add, Nat.add_zero, Nat.one_mul, Nat.zero_mul, List.getElem?_map, List.getElem?_drop, List.getElem?_take, List.length_map, Option.map_some, List.set_cons_zero, List.set_cons_succ, and_true, true_and, List.flatMap_cons, List.flatMap_nil, Bool.not_not, ho, rdC_2, h1000']
    refine wpa_bsl (sz := 1) (by intro a ha; simp at ha; subst ha; rfl) (by simp) ?_
    simp (maxSteps := 1000000) (implicitDefEqProofs := false) (disch := omega) only [push_cast, ↓reduceIte, Nat.reduceEqDiff, reduceCtorEq, decide_true, decide_false, Bool.not_true, Bool.not_false, Option.isNone_some, Option.isNone_none, List.drop_zero, List.drop_succ_cons, List.getElem?_cons_zero, List.getElem?_cons_succ, List.length_cons, List.length_nil, List.take_succ_cons, List.take_zero, Nat.mul_one, Nat.zero_add, Nat.add_zero, Nat.one_mul, Nat.zero_mul, List.getElem?_map, List.getElem?_drop, List.getElem?_take, List.length_map, Option.map_some, List.set_cons_zero, List.set_cons_succ, and_true, true_and, List.flatMap_cons, List.flatMap_nil, Bool.not_not]
    refine wpa_app_t (m := 1) rfl h1.p rfl rfl rfl (by simp) (by omega) (by omega) ?_
    intro σ1 lab1 t1 k1 ht1
    have ho1 := (k1.get ho (by rw [h1.li]; simp)).1
    obtain ⟨m1, m2⟩ := h1.ps k1 ps ht1
    simp (maxSteps := 1000000) (implicitDefEqProofs := false) (disch := omega) only [push_cast, ↓reduceIte, Nat.reduceEqDiff, reduceCtorEq, decide_true, decide_false, Bool.not_true, Bool.not_false, Option.isNone_some, Option.isNone_none, List.drop_zero, List.drop_succ_cons, List.getElem?_cons_zero, List.getElem?_cons_succ, List.length_cons, List.length_nil, List.take_succ_cons, List.take_zero, Nat.mul_one, Nat.zero_add, Nat.add_zero, Nat.one_mul, Nat.zero_mul, List.getElem?_map, List.getElem?_drop, List.getElem?_take, List.length_map, Option.map_some, List.set_cons_zero, List.set_cons_succ, and_true, true_and, List.flatMap_cons, List.flatMap_nil, Bool.not_not]
    refine wpa_st1 rfl rfl ho1 (by simp [rdC]) ?_
    have e1 : (rdC l D t0).set 2 (.sl (D.preds.length + 1) (D.preds.map aInts ++ ((aInts ps).cells ++ [])) t1) = rdC l { D with preds := D.preds ++ [ps] } { t0 with p := t1 } := by
      have e2 : D.preds.map aInts ++ ((aInts ps).cells ++ []) = (D.preds ++ [ps]).map aInts := by simp [aInts, aSl, AV.cells]
      rw [e2]
      simp [rdC]
    rw [e1]
    have hbx1 := m2.get hbx (by rw [hlx]; simp [isB])
    have k3 := k0.trans m2 (U := isB) (fun _ h => h) fun _ h => h
    generalize σ1.set id (.obj 0 (rdC l { D with preds := D.preds ++ [ps] } { t0 with p := t1 })) = σ2 at m1 m2 hbx1 k3 ⊢
    obtain ⟨hbx1, hlx1⟩ := hbx1
    clear e1 ho1 ho k1 ht1 h1 m2 k0 hbx H0
    have ho2 := m1.obj
    simp (maxSteps := 1000000) (implicitDefEqProofs := false) (disch := omega) only [push_cast, ↓reduceIte, Nat.reduceEqDiff, reduceCtorEq, decide_true, decide_false, Bool.not_true, Bool.not_false, Option.isNone_some, Option.isNone_none, List.drop_zero, List.drop_succ_cons, List.getElem?_cons_zero, List.getElem?_cons_succ, List.length_cons, List.length_nil, List.take_succ_cons, List.take_zero, Nat.mul_one, Nat.zero_add, Nat.add_zero, Nat.one_mul, Nat.zero_mul, List.getElem?_map, List.getElem?_drop, List.getElem?_take, List.length_map, Option.map_some, List.set_cons_zero, List.set_cons_succ, and_true, true_and, List.flatMap_cons, List.flatMap_nil, Bool.not_not, ho2, rdC_3, hbx1, cell3]
    refine wpa_bsl (sz := 3) (by intro a ha; simp at ha; subst ha; rfl) (by simp) ?_
    have hac : (AV.agg (aNd n)).cells = aNd n := rfl
    simp (maxSteps := 1000000) (implicitDefEqProofs := false) (disch := omega) only [push_cast, ↓reduceIte, Nat.reduceEqDiff, reduceCtorEq, decide_true, decide_false, Bool.not_true, Bool.not_false, Option.isNone_some, Option.isNone_none, List.drop_zero, List.drop_succ_cons, List.getElem?_cons_zero, List.getElem?_cons_succ, List.length_cons, List.length_nil, List.take_succ_cons, List.take_zero, Nat.mul_one, Nat.zero_add, Nat.add_zero, Nat.one_mul, Nat.zero_mul, List.getElem?_map, List.getElem?_drop, List.getElem?_take, List.length_map, Option.map_some, List.set_cons_zero, List.set_cons_succ, and_true, true_and, List.flatMap_cons, List.flatMap_nil, Bool.not_not, ho2, rdC_3, hac]
    refine ⟨aholds_lde (by simp (maxSteps := 1000000) (implicitDefEqProofs := false) (disch := omega) only [push_cast, ↓reduceIte, Nat.reduceEqDiff, reduceCtorEq, decide_true, decide_false, Bool.not_true, Bool.not_false, Option.isNone_some, Option.isNone_none, List.drop_zero, List.drop_succ_cons, List.getElem?_cons_zero, List.getElem?_cons_succ, List.length_cons, List.length_nil, List.take_succ_cons, List.take_zero, Nat.mul_one, Nat.zero_add, Nat.add_zero, Nat.one_mul, Nat.zero_mul, List.getElem?_map, List.getElem?_drop, List.getElem?_take, List.length_map, Option.map_some, List.set_cons_zero, List.set_cons_succ, and_true, true_and, List.flatMap_cons, List.flatMap_nil, Bool.not_not, ho2, rdC_3, m1.n.exact]), ?_⟩
    refine wpa_app_t (m := 1) rfl m1.n rfl rfl rfl (flat_len aNd_len _) (by omega) (by omega) ?_
    intro σ3 lab3 t3 k5 ht5
    have ho3 := (k5.get ho2 (by rw [m1.li]; simp)).1
    obtain ⟨n1, n2⟩ := m1.ns k5 n ht5
    simp (maxSteps := 1000000) (implicitDefEqProofs := false) (disch := omega) only [push_cast, ↓reduceIte, Nat.reduceEqDiff, reduceCtorEq, decide_true, decide_false, Bool.not_true, Bool.not_false, Option.isNone_some, Option.isNone_none, List.drop_zero, List.drop_succ_cons, List.getElem?_cons_zero, List.getElem?_cons_succ, List.length_cons, List.length_nil, List.take_succ_cons, List.take_zero, Nat.mul_one, Nat.zero_add, Nat.add_zero, Nat.one_mul, Nat.zero_mul, List.getElem?_map, List.getElem?_drop, List.getElem?_take, List.length_map, Option.map_some, List.set_cons_zero, List.set_cons_succ, and_true, true_and, List.flatMap_cons, List.flatMap_nil, Bool.not_not]
    refine wpa_st1 rfl rfl ho3 (by simp [rdC]) ?_
    have e3 : (rdC l { D with preds := D.preds ++ [ps] } { t0 with p := t1 }).set 3 (.sl (D.nodes.length + 1) (D.nodes.flatMap aNd ++ (aNd n ++ [])) t3) = rdC l { D with preds := D.preds ++ [ps], nodes := D.nodes ++ [n] } { t0 with p := t1, n := t3 } := by
      have e2 : D.nodes.flatMap aNd ++ (aNd n ++ []) = (D.nodes ++ [n]).flatMap aNd := by simp
      rw [e2]
      simp [rdC]
    rw [e3]
    have k4 := k3.trans n2 (U := isB) (fun _ h => h) fun _ h => h
    generalize σ3.set id (.obj 0 (rdC l { D with preds := D.preds ++ [ps], nodes := D.nodes ++ [n] } { t0 with p := t1, n := t3 })) = σ4 at n1 n2 k4 ⊢
    have ho4 := n1.obj
    simp (maxSteps := 1000000) (implicitDefEqProofs := false) (disch := omega) only [push_cast, ↓reduceIte, Nat.reduceEqDiff, reduceCtorEq, decide_true, decide_false, Bool.not_true, Bool.not_false, Option.isNone_some, Option.isNone_none, List.drop_zero, List.drop_succ_cons, List.getElem?_cons_zero, List.getElem?_cons_succ, List.length_cons, List.length_nil, List.take_succ_cons, List.take_zero, Nat.mul_one, Nat.zero_add, Nat.add_zero, Nat.one_mul, Nat.zero_mul, List.getElem?_map, List.getElem?_drop, List.getElem?_take, List.length_map, Option.map_some, List.set_cons_zero, List.set_cons_succ, and_true, true_and, List.flatMap_cons, List.flatMap_nil, Bool.not_not, ho4, rdC_2]
    refine ⟨?_, lab3, _, n1, k4⟩
    simp [aInt]
    rw [IntKind.wrap_i64]; omega
end Go.Proofs.Ytilofhocodbknaa
