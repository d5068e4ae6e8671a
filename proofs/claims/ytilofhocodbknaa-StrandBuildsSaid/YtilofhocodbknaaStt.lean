/- Contracts on annotated values: forebayref30.Dag.next (its code, with the loads that may come behind an allocation left out). -/
import Derived.Test.YtilofhocodbknaaSts
import Derived.Test.YtilofhocodbknaaVn
namespace Go.Proofs.Ytilofhocodbknaa
set_option linter.unusedVariables false
set_option linter.unusedSimpArgs false
open Go Go.Kx Go.Proofs

def S2_forebayref30_Dag_next : Fun := ⟨50, [2, 0, 13, 3, 42], [.cell 2 (some 3)],
  .seq (.reg (straight [⟨some 2, none, .eff (.new 116 [.int .i64 0, .int .i64 0, .int .i64 0]) []⟩]) [2])
  (.seq (.seq (.reg (straight [⟨some 4, none, .pur .mov [.tmp 0]⟩, ⟨some 5, none, .pur .nilc [.tmp 4]⟩, ⟨some 6, none, .pur (.fla 1) [.tmp 5]⟩, ⟨some 7, none, .ld none (.tmp 6)⟩, ⟨some 8, none, .pur .mov [.tmp 0]⟩, ⟨some 9, none, .pur .nilc [.tmp 8]⟩, ⟨some 10, none, .pur (.fla 0) [.tmp 9]⟩, ⟨some 11, none, .ld none (.tmp 10)⟩, ⟨some 12, none, .pur (.len false) [.tmp 11]⟩, ⟨some 13, none, .pur (.bin .eql) [.tmp 7, .tmp 12]⟩]) [13])
  (.cond (.tmp 13) (.seq (.reg (straight [⟨some 14, none, .pur .mov [.tmp 0]⟩, ⟨some 15, none, .pur .nilc [.tmp 14]⟩, ⟨some 16, none, .pur (.fla 5) [.tmp 15]⟩, ⟨none, none, .eff (.st 1) [.tmp 16, .const (.bool true)]⟩]) [])
  (.seq (.reg (straight [⟨some 17, none, .pur (.bld [.int .i64 0, .int .i64 0, .int .i64 0] []) []⟩, ⟨none, none, .eff (.st 3) [.tmp 2, .tmp 17]⟩]) [])
  (.ret))) (.skip)))
  (.seq (.reg (.run ⟨some 18, none, .pur .mov [.tmp 0]⟩ (.run ⟨some 19, none, .pur .nilc [.tmp 18]⟩ (.run ⟨some 20, none, .pur (.fla 0) [.tmp 19]⟩ (.run ⟨some 21, none, .ld none (.tmp 20)⟩ (.run ⟨some 22, none, .pur .mov [.tmp 0]⟩ (.run ⟨some 23, none, .pur .nilc [.tmp 22]⟩ (.run ⟨some 24, none, .pur (.fla 1) [.tmp 23]⟩ (.run ⟨some 25, none, .ld none (.tmp 24)⟩ (.run ⟨some 26, none, .pur (.ixa 3) [.tmp 21, .tmp 25]⟩ (.run ⟨some 27, none, .ld (some 3) (.tmp 26)⟩ (.eff ⟨some 3, none, .eff (.new 116 [.int .i64 0, .int .i64 0, .int .i64 0]) []⟩ [] (.eff ⟨none, none, .eff (.st 3) [.tmp 3, .tmp 27]⟩ [] .done)))))))))))) [3])
  (.seq (.reg (straight [⟨some 28, none, .pur .mov [.tmp 0]⟩, ⟨some 29, none, .pur .nilc [.tmp 28]⟩, ⟨some 30, none, .pur (.fla 1) [.tmp 29]⟩, ⟨some 31, none, .ld none (.tmp 30)⟩, ⟨some 32, none, .pur (.bin .add) [.tmp 31, .const (.int .i64 1)]⟩, ⟨some 33, none, .pur .nilc [.tmp 28]⟩, ⟨some 34, none, .pur (.fla 1) [.tmp 33]⟩, ⟨none, none, .eff (.st 1) [.tmp 34, .tmp 32]⟩]) [])
  (.seq (.seq (.reg (straight [⟨some 35, none, .pur (.fla 0) [.tmp 3]⟩, ⟨some 36, none, .ld none (.tmp 35)⟩, ⟨some 37, none, .pur (.bin .lss) [.tmp 36, .const (.int .i64 1)]⟩, ⟨some 38, none, .pur .mov [.tmp 37]⟩, ⟨some 39, some (38, false), .pur (.fla 0) [.tmp 3]⟩, ⟨some 40, some (38, false), .ld none (.tmp 39)⟩, ⟨some 41, some (38, false), .pur (.bin .gtr) [.tmp 40, .const (.int .i64 12)]⟩, ⟨some 42, none, .pur .pick [.tmp 38, .const (.bool true), .tmp 41]⟩]) [42])
  (.cond (.tmp 42) (.seq (.reg (straight [⟨some 43, none, .pur .mov [.tmp 0]⟩, ⟨some 44, none, .pur .nilc [.tmp 43]⟩, ⟨some 45, none, .pur (.fla 6) [.tmp 44]⟩, ⟨none, none, .eff (.st 1) [.tmp 45, .const (.int .i64 5)]⟩]) [])
  (.reg (straight [⟨some 46, none, .pur .mov [.tmp 0]⟩, ⟨some 47, none, .pur .nilc [.tmp 46]⟩, ⟨some 48, none, .pur (.fla 5) [.tmp 47]⟩, ⟨none, none, .eff (.st 1) [.tmp 48, .const (.bool true)]⟩]) [])) (.skip)))
  (.seq (.reg (straight [⟨some 49, none, .ld (some 3) (.tmp 3)⟩, ⟨none, none, .eff (.st 3) [.tmp 2, .tmp 49]⟩]) [])
  (.ret))))))⟩
theorem K2_forebayref30_Dag_next : (compF Try.prog 121).map Fun.slim = some S2_forebayref30_Dag_next := by kernel_rfl
set_option maxHeartbeats 1000000 in
theorem next_a {σ : St} {lab : Nat → Role} {id : Nat} {l : List Mk} {D : RD} {t : Tb} (H : RdAt σ lab id l D t) (hp : D.pos ≤ l.length) (hl : l.length ≤ 8000) :
    FnG Try.prog 121 [.ref id 0 0] σ fun a σ' => a = .agg (aMk (D.next l).1) ∧ ∃ lab', RdAt σ' lab' id l (D.next l).2 t ∧ Stp isB σ lab σ' lab' := by
  refine fnG_in2 K2_forebayref30_Dag_next mixed rfl ?_
  simp only [S2_forebayref30_Dag_next]
  simp (maxSteps := 1000000) (implicitDefEqProofs := false) (disch := omega) only [push_cast, ↓reduceIte, Nat.reduceEqDiff, reduceCtorEq, decide_true, decide_false, Bool.not_true, Bool.not_false, Option.isNone_some, Option.isNone_none, List.drop_zero, List.drop_succ_cons, List.getElem?_cons_zero, List.getElem?_cons_succ, List.length_cons, List.length_nil, List.take_succ_cons, List.take_zero, Nat.mul_one, Nat.zero_add, Nat.add_zero, Nat.one_mul, Nat.zero_mul, List.getElem?_map, List.getElem?_drop, List.getElem?_take, List.length_map, Option.map_some, List.set_cons_zero, List.set_cons_succ, and_true, true_and, List.flatMap_cons, List.flatMap_nil, Bool.not_not]
  refine wpa_new ?_
  have hz : (List.map abs1 [Value.int .i64 0, Value.int .i64 0, Value.int .i64 0]) = aMk ⟨0, 0, 0⟩ := rfl
  rw [hz]
  have k0 : Stp isB σ lab (σ ++ [.obj 0 (aMk ⟨0, 0, 0⟩)]) (labN σ lab (0, 0)) := stp_new (0, 0)
  have H0 := H.stp (stp_new (S := fun _ => False) (x := .obj 0 (aMk ⟨0, 0, 0⟩)) (0, 0)) fun _ _ _ h => h
  have hbx : (σ ++ [Res.obj 0 (aMk ⟨0, 0, 0⟩)])[σ.length]? = some (.obj 0 (aMk ⟨0, 0, 0⟩)) := at_snoc _ _
  have hlx : labN σ lab (0, 0) σ.length = (0, 0) := labN_self _ _ _
  generalize σ ++ [Res.obj 0 (aMk ⟨0, 0, 0⟩)] = σ0 at k0 H0 hbx ⊢
  generalize labN σ lab (0, 0) = lab0 at k0 H0 hlx
  obtain ⟨bx, hbe⟩ : ∃ bx, bx = σ.length := ⟨_, rfl⟩
  rw [← hbe] at hbx hlx ⊢
  have ho := H0.obj
  by_cases he : D.pos = l.length
  · have hn : D.next l = (⟨0, 0, 0⟩, { D with over := true }) := by
      unfold RD.next
      rw [List.getElem?_eq_none (by omega)]
    rw [hn]
    have he' : ((D.pos : Nat) : Int) = (l.length : Int) := by omega
    obtain ⟨m1, m2⟩ := H0.put (D' := { D with over := true }) rfl rfl rfl
    obtain ⟨hbx1, _⟩ := m2.get hbx (by rw [hlx]; simp [isB])
    simp (maxSteps := 1000000) (implicitDefEqProofs := false) (disch := omega) only [push_cast, ↓reduceIte, Nat.reduceEqDiff, reduceCtorEq, decide_true, decide_false, Bool.not_true, Bool.not_false, Option.isNone_some, Option.isNone_none, List.drop_zero, List.drop_succ_cons, List.getElem?_cons_zero, List.getElem?_cons_succ, List.length_cons, List.length_nil, List.take_succ_cons, List.take_zero, Nat.mul_one, Nat.zero_add, Nat.add_zero, Nat.one_mul, Nat.zero_mul, List.getElem?_map, List.getElem?_drop, List.getElem?_take, List.length_map, Option.map_some, List.set_cons_zero, List.set_cons_succ, and_true, true_and, List.flatMap_cons, List.flatMap_nil, Bool.not_not, ho, rdC_0, rdC_1, he']
    refine wpa_st1 rfl rfl ho (by simp [rdC]) ?_
    have e1 : (rdC l D t).set 5 (.v (.bool true)) = rdC l { D with over := true } t := rfl
    rw [e1]
    have hz2 : AV.agg [AV.v (.int .i64 0), AV.v (.int .i64 0), AV.v (.int .i64 0)] = .agg (aMk ⟨0, 0, 0⟩) := rfl
    simp (maxSteps := 1000000) (implicitDefEqProofs := false) (disch := omega) only [push_cast, ↓reduceIte, Nat.reduceEqDiff, reduceCtorEq, decide_true, decide_false, Bool.not_true, Bool.not_false, Option.isNone_some, Option.isNone_none, List.drop_zero, List.drop_succ_cons, List.getElem?_cons_zero, List.getElem?_cons_succ, List.length_cons, List.length_nil, List.take_succ_cons, List.take_zero, Nat.mul_one, Nat.zero_add, Nat.add_zero, Nat.one_mul, Nat.zero_mul, List.getElem?_map, List.getElem?_drop, List.getElem?_take, List.length_map, Option.map_some, List.set_cons_zero, List.set_cons_succ, and_true, true_and, List.flatMap_cons, List.flatMap_nil, Bool.not_not, hz2]
    refine wpa_stn rfl rfl hbx1 (by simp [aMk_len]) ?_
    have hset : setAtA (aMk ⟨0, 0, 0⟩) 0 (aMk ⟨0, 0, 0⟩) = aMk ⟨0, 0, 0⟩ := rfl
    have hne : bx ≠ id := by
      rintro rfl
      have := H0.li
      rw [hlx] at this
      cases this
    rw [hset]
    have k1 := k0.trans m2 (U := isB) (fun _ h => h) fun _ h => h
    have m3 := m1.stp (stp_set (x := .obj 0 (aMk ⟨0, 0, 0⟩)) hlx) (fun q hq _ e => by cases e; omega)
    have k2 := k1.setNew (b := bx) (x := .obj 0 (aMk ⟨0, 0, 0⟩)) (by omega)
    have hg := get_set_eq (o := .obj 0 (aMk ⟨0, 0, 0⟩)) hbx1
    simp (maxSteps := 1000000) (implicitDefEqProofs := false) (disch := omega) only [push_cast, ↓reduceIte, Nat.reduceEqDiff, reduceCtorEq, decide_true, decide_false, Bool.not_true, Bool.not_false, Option.isNone_some, Option.isNone_none, List.drop_zero, List.drop_succ_cons, List.getElem?_cons_zero, List.getElem?_cons_succ, List.length_cons, List.length_nil, List.take_succ_cons, List.take_zero, Nat.mul_one, Nat.zero_add, Nat.add_zero, Nat.one_mul, Nat.zero_mul, List.getElem?_map, List.getElem?_drop, List.getElem?_take, List.length_map, Option.map_some, List.set_cons_zero, List.set_cons_succ, and_true, true_and, List.flatMap_cons, List.flatMap_nil, Bool.not_not, hg, cell3m]
    exact ⟨lab0, m3, k2⟩
  · obtain ⟨m, hm⟩ := at_lt (l := l) (k := D.pos) (by omega)
    have hd := flat_drop aMk_len hm
    have hcl : ∀ k : List AV, cellsA (some 3) (aMk m ++ k) = some (.agg (aMk m)) := fun k => by rw [cellsA_n _ _ (by simp [aMk_len])]; rfl
    have he' : ¬ ((D.pos : Nat) : Int) = (l.length : Int) := by omega
    simp (maxSteps := 1000000) (implicitDefEqProofs := false) (disch := omega) only [push_cast, ↓reduceIte, Nat.reduceEqDiff, reduceCtorEq, decide_true, decide_false, Bool.not_true, Bool.not_false, Option.isNone_some, Option.isNone_none, List.drop_zero, List.drop_succ_cons, List.getElem?_cons_zero, List.getElem?_cons_succ, List.length_cons, List.length_nil, List.take_succ_cons, List.take_zero, Nat.mul_one, Nat.zero_add, Nat.add_zero, Nat.one_mul, Nat.zero_mul, List.getElem?_map, List.getElem?_drop, List.getElem?_take, List.length_map, Option.map_some, List.set_cons_zero, List.set_cons_succ, and_true, true_and, List.flatMap_cons, List.flatMap_nil, Bool.not_not, ho, rdC_0, rdC_1, he', hd, hcl]
    refine wpa_new ?_
    rw [hz]
    simp (maxSteps := 1000000) (implicitDefEqProofs := false) (disch := omega) only [push_cast, ↓reduceIte, Nat.reduceEqDiff, reduceCtorEq, decide_true, decide_false, Bool.not_true, Bool.not_false, Option.isNone_some, Option.isNone_none, List.drop_zero, List.drop_succ_cons, List.getElem?_cons_zero, List.getElem?_cons_succ, List.length_cons, List.length_nil, List.take_succ_cons, List.take_zero, Nat.mul_one, Nat.zero_add, Nat.add_zero, Nat.one_mul, Nat.zero_mul, List.getElem?_map, List.getElem?_drop, List.getElem?_take, List.length_map, Option.map_some, List.set_cons_zero, List.set_cons_succ, and_true, true_and, List.flatMap_cons, List.flatMap_nil, Bool.not_not]
    refine wpa_stn (aMk_len m) (by rfl) (at_snoc _ _) (by simp [aMk_len]) ?_
    have hset : ∀ a, setAtA (aMk ⟨0, 0, 0⟩) 0 (aMk a) = aMk a := fun _ => rfl
    simp (maxSteps := 1000000) (implicitDefEqProofs := false) (disch := omega) only [push_cast, ↓reduceIte, Nat.reduceEqDiff, reduceCtorEq, decide_true, decide_false, Bool.not_true, Bool.not_false, Option.isNone_some, Option.isNone_none, List.drop_zero, List.drop_succ_cons, List.getElem?_cons_zero, List.getElem?_cons_succ, List.length_cons, List.length_nil, List.take_succ_cons, List.take_zero, Nat.mul_one, Nat.zero_add, Nat.add_zero, Nat.one_mul, Nat.zero_mul, List.getElem?_map, List.getElem?_drop, List.getElem?_take, List.length_map, Option.map_some, List.set_cons_zero, List.set_cons_succ, and_true, true_and, List.flatMap_cons, List.flatMap_nil, Bool.not_not, hset]
    have k1 := k0.trans (stp_new (S := isB) (x := .obj 0 (aMk m)) (0, 0)) (U := isB) (fun _ h => h) fun _ h => h
    have H1 := H0.stp (stp_new (S := fun _ => False) (x := .obj 0 (aMk m)) (0, 0)) fun _ _ _ h => h
    have hbx1 : (σ0 ++ [Res.obj 0 (aMk m)])[bx]? = some (.obj 0 (aMk ⟨0, 0, 0⟩)) := get_app hbx
    have hlx1 : labN σ0 lab0 (0, 0) bx = (0, 0) := by unfold labN; split; rfl; exact hlx
    have hmx : (σ0 ++ [Res.obj 0 (aMk m)])[σ0.length]? = some (.obj 0 (aMk m)) := at_snoc _ _
    have hlm : labN σ0 lab0 (0, 0) σ0.length = (0, 0) := labN_self _ _ _
    have hmb : bx ≠ σ0.length := by have := lt_at hbx; omega
    generalize σ0 ++ [Res.obj 0 (aMk m)] = σ1 at k1 H1 hbx1 hmx ⊢
    generalize labN σ0 lab0 (0, 0) = lab1 at k1 H1 hlx1 hlm
    generalize σ0.length = mx at hmx hlm hmb ⊢
    clear ho H0 hbx hlx k0
    have ho := H1.obj
    obtain ⟨m1, m2⟩ := H1.put (D' := { D with pos := D.pos + 1 }) rfl rfl rfl
    obtain ⟨hmx2, _⟩ := m2.get hmx (by rw [hlm]; simp [isB])
    obtain ⟨hbx2, _⟩ := m2.get hbx1 (by rw [hlx1]; simp [isB])
    have k2 := k1.trans m2 (U := isB) (fun _ h => h) fun _ h => h
    simp (maxSteps := 1000000) (implicitDefEqProofs := false) (disch := omega) only [push_cast, ↓reduceIte, Nat.reduceEqDiff, reduceCtorEq, decide_true, decide_false, Bool.not_true, Bool.not_false, Option.isNone_some, Option.isNone_none, List.drop_zero, List.drop_succ_cons, List.getElem?_cons_zero, List.getElem?_cons_succ, List.length_cons, List.length_nil, List.take_succ_cons, List.take_zero, Nat.mul_one, Nat.zero_add, Nat.add_zero, Nat.one_mul, Nat.zero_mul, List.getElem?_map, List.getElem?_drop, List.getElem?_take, List.length_map, Option.map_some, List.set_cons_zero, List.set_cons_succ, and_true, true_and, List.flatMap_cons, List.flatMap_nil, Bool.not_not, ho, rdC_1]
    refine wpa_st1 rfl rfl ho (by simp [rdC]) ?_
    have e1 : (rdC l D t).set 1 (.v (.int .i64 ((D.pos : Int) + 1))) = rdC l { D with pos := D.pos + 1 } t := by simp [rdC]
    rw [e1]
    generalize σ1.set id (.obj 0 (rdC l { D with pos := D.pos + 1 } t)) = σ2 at m1 m2 hmx2 hbx2 k2 ⊢
    have ho2 := m1.obj
    by_cases hk : m.k < 1 ∨ 12 < m.k
    · have hn : D.next l = (m, { D with pos := D.pos + 1, e := 5, over := true }) := by
        unfold RD.next
        rw [hm]
        simp only
        rw [if_pos hk]
      rw [hn]
      obtain ⟨n1, n2⟩ := m1.put (D' := { D with pos := D.pos + 1, e := 5 }) rfl rfl rfl
      have ho3 := n1.obj
      obtain ⟨p1, p2⟩ := n1.put (D' := { D with pos := D.pos + 1, e := 5, over := true }) rfl rfl rfl
      have k3 := (k2.trans n2 (U := isB) (fun _ h => h) fun _ h => h).trans p2 (U := isB) (fun _ h => h) fun _ h => h
      obtain ⟨hmx3, _⟩ := n2.get hmx2 (by rw [hlm]; simp [isB])
      obtain ⟨hmx4, _⟩ := p2.get hmx3 (by rw [hlm]; simp [isB])
      obtain ⟨hbx3, _⟩ := n2.get hbx2 (by rw [hlx1]; simp [isB])
      obtain ⟨hbx4, _⟩ := p2.get hbx3 (by rw [hlx1]; simp [isB])
      have p3 := p1.stp (stp_set (x := .obj 0 (aMk m)) hlx1) (fun q hq _ e => by cases e; omega)
      have k4 := k3.setNew (b := bx) (x := .obj 0 (aMk m)) (by omega)
      have hg := get_set_eq (o := .obj 0 (aMk m)) hbx4
      have e2 : (rdC l { D with pos := D.pos + 1 } t).set 6 (.v (.int .i64 5)) = rdC l { D with pos := D.pos + 1, e := 5 } t := rfl
      have e3 : (rdC l { D with pos := D.pos + 1, e := 5 } t).set 5 (.v (.bool true)) = rdC l { D with pos := D.pos + 1, e := 5, over := true } t := rfl
      by_cases hk1 : m.k < 1
      · simp (maxSteps := 1000000) (implicitDefEqProofs := false) (disch := omega) only [push_cast, ↓reduceIte, Nat.reduceEqDiff, reduceCtorEq, decide_true, decide_false, Bool.not_true, Bool.not_false, Option.isNone_some, Option.isNone_none, List.drop_zero, List.drop_succ_cons, List.getElem?_cons_zero, List.getElem?_cons_succ, List.length_cons, List.length_nil, List.take_succ_cons, List.take_zero, Nat.mul_one, Nat.zero_add, Nat.add_zero, Nat.one_mul, Nat.zero_mul, List.getElem?_map, List.getElem?_drop, List.getElem?_take, List.length_map, Option.map_some, List.set_cons_zero, List.set_cons_succ, and_true, true_and, List.flatMap_cons, List.flatMap_nil, Bool.not_not, hmx2, aMk_0, hk1]
        refine wpa_st1 rfl rfl ho2 (by simp [rdC]) ?_
        rw [e2]
        simp (maxSteps := 1000000) (implicitDefEqProofs := false) (disch := omega) only [push_cast, ↓reduceIte, Nat.reduceEqDiff, reduceCtorEq, decide_true, decide_false, Bool.not_true, Bool.not_false, Option.isNone_some, Option.isNone_none, List.drop_zero, List.drop_succ_cons, List.getElem?_cons_zero, List.getElem?_cons_succ, List.length_cons, List.length_nil, List.take_succ_cons, List.take_zero, Nat.mul_one, Nat.zero_add, Nat.add_zero, Nat.one_mul, Nat.zero_mul, List.getElem?_map, List.getElem?_drop, List.getElem?_take, List.length_map, Option.map_some, List.set_cons_zero, List.set_cons_succ, and_true, true_and, List.flatMap_cons, List.flatMap_nil, Bool.not_not]
        refine wpa_st1 rfl rfl ho3 (by simp [rdC]) ?_
        rw [e3]
        simp (maxSteps := 1000000) (implicitDefEqProofs := false) (disch := omega) only [push_cast, ↓reduceIte, Nat.reduceEqDiff, reduceCtorEq, decide_true, decide_false, Bool.not_true, Bool.not_false, Option.isNone_some, Option.isNone_none, List.drop_zero, List.drop_succ_cons, List.getElem?_cons_zero, List.getElem?_cons_succ, List.length_cons, List.length_nil, List.take_succ_cons, List.take_zero, Nat.mul_one, Nat.zero_add, Nat.add_zero, Nat.one_mul, Nat.zero_mul, List.getElem?_map, List.getElem?_drop, List.getElem?_take, List.length_map, Option.map_some, List.set_cons_zero, List.set_cons_succ, and_true, true_and, List.flatMap_cons, List.flatMap_nil, Bool.not_not, hmx4, cell3m]
        refine wpa_stn (aMk_len m) (by rfl) hbx4 (by simp [aMk_len]) ?_
        rw [hset]
        simp (maxSteps := 1000000) (implicitDefEqProofs := false) (disch := omega) only [push_cast, ↓reduceIte, Nat.reduceEqDiff, reduceCtorEq, decide_true, decide_false, Bool.not_true, Bool.not_false, Option.isNone_some, Option.isNone_none, List.drop_zero, List.drop_succ_cons, List.getElem?_cons_zero, List.getElem?_cons_succ, List.length_cons, List.length_nil, List.take_succ_cons, List.take_zero, Nat.mul_one, Nat.zero_add, Nat.add_zero, Nat.one_mul, Nat.zero_mul, List.getElem?_map, List.getElem?_drop, List.getElem?_take, List.length_map, Option.map_some, List.set_cons_zero, List.set_cons_succ, and_true, true_and, List.flatMap_cons, List.flatMap_nil, Bool.not_not, hg, cell3m]
        exact ⟨lab1, p3, k4⟩
      · have hk2 : 12 < m.k := by omega
        simp (maxSteps := 1000000) (implicitDefEqProofs := false) (disch := omega) only [push_cast, ↓reduceIte, Nat.reduceEqDiff, reduceCtorEq, decide_true, decide_false, Bool.not_true, Bool.not_false, Option.isNone_some, Option.isNone_none, List.drop_zero, List.drop_succ_cons, List.getElem?_cons_zero, List.getElem?_cons_succ, List.length_cons, List.length_nil, List.take_succ_cons, List.take_zero, Nat.mul_one, Nat.zero_add, Nat.add_zero, Nat.one_mul, Nat.zero_mul, List.getElem?_map, List.getElem?_drop, List.getElem?_take, List.length_map, Option.map_some, List.set_cons_zero, List.set_cons_succ, and_true, true_and, List.flatMap_cons, List.flatMap_nil, Bool.not_not, hmx2, aMk_0, hk1, hk2]
        refine wpa_st1 rfl rfl ho2 (by simp [rdC]) ?_
        rw [e2]
        simp (maxSteps := 1000000) (implicitDefEqProofs := false) (disch := omega) only [push_cast, ↓reduceIte, Nat.reduceEqDiff, reduceCtorEq, decide_true, decide_false, Bool.not_true, Bool.not_false, Option.isNone_some, Option.isNone_none, List.drop_zero, List.drop_succ_cons, List.getElem?_cons_zero, List.getElem?_cons_succ, List.length_cons, List.length_nil, List.take_succ_cons, List.take_zero, Nat.mul_one, Nat.zero_add, Nat.add_zero, Nat.one_mul, Nat.zero_mul, List.getElem?_map, List.getElem?_drop, List.getElem?_take, List.length_map, Option.map_some, List.set_cons_zero, List.set_cons_succ, and_true, true_and, List.flatMap_cons, List.flatMap_nil, Bool.not_not]
        refine wpa_st1 rfl rfl ho3 (by simp [rdC]) ?_
        rw [e3]
        simp (maxSteps := 1000000) (implicitDefEqProofs := false) (disch := omega) only [push_cast, ↓reduceIte, Nat.reduceEqDiff, reduceCtorEq, decide_true, decide_false, Bool.not_true, Bool.not_false, Option.isNone_some, Option.isNone_none, List.drop_zero, List.drop_succ_cons, List.getElem?_cons_zero, List.getElem?_cons_succ, List.length_cons, List.length_nil, List.take_succ_cons, List.take_zero, Nat.mul_one, Nat.zero_add, Nat.add_zero, Nat.one_mul, Nat.zero_mul, List.getElem?_map, List.getElem?_drop, List.getElem?_take, List.length_map, Option.map_some, List.set_cons_zero, List.set_cons_succ, and_true, true_and, List.flatMap_cons, List.flatMap_nil, Bool.not_not, hmx4, cell3m]
        refine wpa_stn (aMk_len m) (by rfl) hbx4 (by simp [aMk_len]) ?_
        rw [hset]
        simp (maxSteps := 1000000) (implicitDefEqProofs := false) (disch := omega) only [push_cast, ↓reduceIte, Nat.reduceEqDiff, reduceCtorEq, decide_true, decide_false, Bool.not_true, Bool.not_false, Option.isNone_some, Option.isNone_none, List.drop_zero, List.drop_succ_cons, List.getElem?_cons_zero, List.getElem?_cons_succ, List.length_cons, List.length_nil, List.take_succ_cons, List.take_zero, Nat.mul_one, Nat.zero_add, Nat.add_zero, Nat.one_mul, Nat.zero_mul, List.getElem?_map, List.getElem?_drop, List.getElem?_take, List.length_map, Option.map_some, List.set_cons_zero, List.set_cons_succ, and_true, true_and, List.flatMap_cons, List.flatMap_nil, Bool.not_not, hg, cell3m]
        exact ⟨lab1, p3, k4⟩
    · have hn : D.next l = (m, { D with pos := D.pos + 1 }) := by
        unfold RD.next
        rw [hm]
        simp only
        rw [if_neg hk]
      rw [hn]
      have hk1 : ¬ m.k < 1 := fun h => hk (.inl h)
      have hk2 : ¬ 12 < m.k := fun h => hk (.inr h)
      have p3 := m1.stp (stp_set (x := .obj 0 (aMk m)) hlx1) (fun q hq _ e => by cases e; omega)
      have k4 := k2.setNew (b := bx) (x := .obj 0 (aMk m)) (by omega)
      have hg := get_set_eq (o := .obj 0 (aMk m)) hbx2
      simp (maxSteps := 1000000) (implicitDefEqProofs := false) (disch := omega) only [push_cast, ↓reduceIte, Nat.reduceEqDiff, reduceCtorEq, decide_true, decide_false, Bool.not_true, Bool.not_false, Option.isNone_some, Option.isNone_none, List.drop_zero, List.drop_succ_cons, List.getElem?_cons_zero, List.getElem?_cons_succ, List.length_cons, List.length_nil, List.take_succ_cons, List.take_zero, Nat.mul_one, Nat.zero_add, Nat.add_zero, Nat.one_mul, Nat.zero_mul, List.getElem?_map, List.getElem?_drop, List.getElem?_take, List.length_map, Option.map_some, List.set_cons_zero, List.set_cons_succ, and_true, true_and, List.flatMap_cons, List.flatMap_nil, Bool.not_not, hmx2, aMk_0, hk1, hk2, cell3m]
      refine wpa_stn (aMk_len m) (by rfl) hbx2 (by simp [aMk_len]) ?_
      rw [hset]
      simp (maxSteps := 1000000) (implicitDefEqProofs := false) (disch := omega) only [push_cast, ↓reduceIte, Nat.reduceEqDiff, reduceCtorEq, decide_true, decide_false, Bool.not_true, Bool.not_false, Option.isNone_some, Option.isNone_none, List.drop_zero, List.drop_succ_cons, List.getElem?_cons_zero, List.getElem?_cons_succ, List.length_cons, List.length_nil, List.take_succ_cons, List.take_zero, Nat.mul_one, Nat.zero_add, Nat.add_zero, Nat.one_mul, Nat.zero_mul, List.getElem?_map, List.getElem?_drop, List.getElem?_take, List.length_map, Option.map_some, List.set_cons_zero, List.set_cons_succ, and_true, true_and, List.flatMap_cons, List.flatMap_nil, Bool.not_not, hg, cell3m]
      exact ⟨lab1, p3, k4⟩
end Go.Proofs.Ytilofhocodbknaa
