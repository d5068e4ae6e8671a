/- Contracts on annotated values: strand.Build. -/
import Derived.Test.YtilofhocodbknaaStj
namespace Go.Proofs.Ytilofhocodbknaa
set_option linter.unusedVariables false
set_option linter.unusedSimpArgs false
open Go Go.Kx Go.Proofs

def aMks (l : List Mk) : AV := aSlN aMk l
theorem aMk_pure (m : Mk) : AV.pureL (aMk m) = true := by simp [aMk, AV.pureL, AV.pure]
theorem aMks_pure (l : List Mk) : (aMks l).pure = true := aSlN_pure aMk_pure l
def dagC (B : Bd) : List AV := [aInts2 B.preds, aSlN aNd B.nodes, aSlN aAc B.accs]
def noneB : Bd := ⟨[], [], [], [], false⟩
def buildR (l : List Mk) : Int × Bd := if (runB bd0 l).1 = 0 then (0, (runB bd0 l).2) else ((runB bd0 l).1, noneB)
def rootFr : Fr := ⟨1, false, 0, [], 0, 0, 0, [], 0, 0, [], []⟩
theorem bldF0 : fillA [AV.v (.int .i64 0), AV.v (.bool false), AV.v (.int .i64 0), AV.sl 0 [] Tok.nil, AV.v (.int .i64 0), AV.v (.int .i64 0), AV.v (.int .i64 0), AV.sl 0 [] Tok.nil, AV.v (.int .i64 0), AV.v (.int .i64 0), AV.sl 0 [] Tok.nil, AV.sl 0 [] Tok.nil]
    [(0, 1), (2, 1)] [AV.v (.int .i64 1), aInt 0] = some (frC rootFr nilT) := by simp [fillA, AV.cells, Value.cells, setAtA, aInt, frC, rootFr, nilT]
def nilB : Tb := ⟨.nil, .nil, .nil⟩
theorem len3 {α : Type} {l : List α} (h : l.length = 3) : ∃ x y z, l = [x, y, z] := by
  match l, h with
  | [x, y, z], _ => exact ⟨x, y, z, rfl⟩
theorem cell3a (x y z : AV) : cellsA (some 3) [x, y, z] = some (.agg [x, y, z]) := rfl
theorem aNd_res (σ : St) (n : Nd) : AV.resL σ (aNd n) = aNd n := by simp [aNd, AV.resL, AV.res]
theorem aAc_res (σ : St) (c : Ac) : AV.resL σ (aAc c) = aAc c := by simp [aAc, AV.resL, AV.res]
theorem aNd_pure (n : Nd) : AV.pureL (aNd n) = true := by simp [aNd, AV.pureL, AV.pure]
theorem aAc_pure (c : Ac) : AV.pureL (aAc c) = true := by simp [aAc, AV.pureL, AV.pure]
theorem dag_pure (B : Bd) : (AV.agg (dagC B)).pure = true := by
  simp only [AV.pure, dagC, AV.pureL, aInts2_pure, aSlN_pure aNd_pure, aSlN_pure aAc_pure]; rfl
theorem dag_res (σ : St) (B : Bd) (t : Tb) : (AV.agg [.sl B.preds.length (B.preds.map aInts) t.p, .sl B.nodes.length (B.nodes.flatMap aNd) t.n, .sl B.accs.length (B.accs.flatMap aAc) t.a]).res σ = .agg (dagC B) := by
  simp only [AV.res, AV.resL]
  have e1 := aSl_res (aInts_res σ) B.preds t.p
  have e2 := aSlN_res (aNd_res σ) B.nodes t.n
  have e3 := aSlN_res (aAc_res σ) B.accs t.a
  simp only [AV.res] at e1 e2 e3
  rw [e1, e2, e3]; rfl
theorem fin_dag (σ : St) (B : Bd) (t : Tb) (e : Int) : ∃ is, (AV.res (Go.Kx.freeze is σ) (.tup [.agg [.sl B.preds.length (B.preds.map aInts) t.p, .sl B.nodes.length (B.nodes.flatMap aNd) t.n, .sl B.accs.length (B.accs.flatMap aAc) t.a], .v (.int .i64 e)])).pure = true ∧
    AV.res (Go.Kx.freeze is σ) (.tup [.agg [.sl B.preds.length (B.preds.map aInts) t.p, .sl B.nodes.length (B.nodes.flatMap aNd) t.n, .sl B.accs.length (B.accs.flatMap aAc) t.a], .v (.int .i64 e)]) = .tup [.agg (dagC B), aInt e] :=
  fin_tup2 [] (dag_res _ B t) (res_v _ _) (dag_pure B) rfl rfl
set_option maxHeartbeats 4000000 in
theorem build_a (l : List Mk) (hl : l.length ≤ 8000) : FnP Try.prog 73 [aMks l] fun a => a = .tup [.agg (dagC (buildR l).2), aInt (buildR l).1] := by
  refine fnP_in K_strand_Build mixed rfl (by simp [AV.pureL, aMks_pure]) ?_
  simp only [S_strand_Build]
  refine wpa_seqx (fun ε σ => (ε 0 = aMks l ∧ ε 2 = .ref 0 0 0 ∧ ε 3 = .v (.int .i64 0)) ∧ σ = [.obj 0 [.sl 0 [] .nil, .sl 0 [] .nil, .sl 0 [] .nil]]) ?_ ?_
  · intro N X R hN
    simp (maxSteps := 1000000) (implicitDefEqProofs := false) (disch := omega) only [push_cast, ↓reduceIte, Nat.reduceEqDiff, reduceCtorEq, decide_true, decide_false, Bool.not_true, Bool.not_false, Option.isNone_some, Option.isNone_none, List.drop_zero, List.drop_succ_cons, List.getElem?_cons_zero, List.getElem?_cons_succ, List.length_cons, List.length_nil, List.take_succ_cons, List.take_zero, Nat.mul_one, Nat.zero_add, Nat.add_zero, Nat.one_mul, Nat.zero_mul, List.getElem?_map, List.getElem?_drop, List.getElem?_take, List.length_map, Option.map_some, List.set_cons_zero, List.set_cons_succ, and_true, true_and, List.flatMap_cons, List.flatMap_nil, Bool.not_not]
    refine wpa_new ?_
    simp (maxSteps := 1000000) (implicitDefEqProofs := false) (disch := omega) only [push_cast, ↓reduceIte, Nat.reduceEqDiff, reduceCtorEq, decide_true, decide_false, Bool.not_true, Bool.not_false, Option.isNone_some, Option.isNone_none, List.drop_zero, List.drop_succ_cons, List.getElem?_cons_zero, List.getElem?_cons_succ, List.length_cons, List.length_nil, List.take_succ_cons, List.take_zero, Nat.mul_one, Nat.zero_add, Nat.add_zero, Nat.one_mul, Nat.zero_mul, List.getElem?_map, List.getElem?_drop, List.getElem?_take, List.length_map, Option.map_some, List.set_cons_zero, List.set_cons_succ, and_true, true_and, List.flatMap_cons, List.flatMap_nil, Bool.not_not]
    refine hN _ _ ?_
    simp (maxSteps := 1000000) (implicitDefEqProofs := false) (disch := omega) only [push_cast, ↓reduceIte, Nat.reduceEqDiff, reduceCtorEq, decide_true, decide_false, Bool.not_true, Bool.not_false, Option.isNone_some, Option.isNone_none, List.drop_zero, List.drop_succ_cons, List.getElem?_cons_zero, List.getElem?_cons_succ, List.length_cons, List.length_nil, List.take_succ_cons, List.take_zero, Nat.mul_one, Nat.zero_add, Nat.add_zero, Nat.one_mul, Nat.zero_mul, List.getElem?_map, List.getElem?_drop, List.getElem?_take, List.length_map, Option.map_some, List.set_cons_zero, List.set_cons_succ, and_true, true_and, List.flatMap_cons, List.flatMap_nil, Bool.not_not]
  rintro ε σ ⟨hρ, rfl⟩
  refine wpa_seqx (fun ε σ => (ε 0 = aMks l ∧ ε 2 = .ref 0 0 0 ∧ ε 3 = .v (.int .i64 0) ∧ ε 4 = .ref 1 0 0) ∧ σ = [.obj 0 [.sl 0 [] .nil, .sl 0 [] .nil, .sl 0 [] .nil], .obj 0 (bdC noneB nilB (.sl 0 [] .nil))]) ?_ ?_
  · intro N X R hN
    simp (maxSteps := 1000000) (implicitDefEqProofs := false) (disch := omega) only [push_cast, ↓reduceIte, Nat.reduceEqDiff, reduceCtorEq, decide_true, decide_false, Bool.not_true, Bool.not_false, Option.isNone_some, Option.isNone_none, List.drop_zero, List.drop_succ_cons, List.getElem?_cons_zero, List.getElem?_cons_succ, List.length_cons, List.length_nil, List.take_succ_cons, List.take_zero, Nat.mul_one, Nat.zero_add, Nat.add_zero, Nat.one_mul, Nat.zero_mul, List.getElem?_map, List.getElem?_drop, List.getElem?_take, List.length_map, Option.map_some, List.set_cons_zero, List.set_cons_succ, and_true, true_and, List.flatMap_cons, List.flatMap_nil, Bool.not_not]
    refine wpa_box ?_
    simp (maxSteps := 1000000) (implicitDefEqProofs := false) (disch := omega) only [push_cast, ↓reduceIte, Nat.reduceEqDiff, reduceCtorEq, decide_true, decide_false, Bool.not_true, Bool.not_false, Option.isNone_some, Option.isNone_none, List.drop_zero, List.drop_succ_cons, List.getElem?_cons_zero, List.getElem?_cons_succ, List.length_cons, List.length_nil, List.take_succ_cons, List.take_zero, Nat.mul_one, Nat.zero_add, Nat.add_zero, Nat.one_mul, Nat.zero_mul, List.getElem?_map, List.getElem?_drop, List.getElem?_take, List.length_map, Option.map_some, List.set_cons_zero, List.set_cons_succ, and_true, true_and, List.flatMap_cons, List.flatMap_nil, Bool.not_not]
    refine hN _ _ ?_
    simp (maxSteps := 1000000) (implicitDefEqProofs := false) (disch := omega) only [push_cast, ↓reduceIte, Nat.reduceEqDiff, reduceCtorEq, decide_true, decide_false, Bool.not_true, Bool.not_false, Option.isNone_some, Option.isNone_none, List.drop_zero, List.drop_succ_cons, List.getElem?_cons_zero, List.getElem?_cons_succ, List.length_cons, List.length_nil, List.take_succ_cons, List.take_zero, Nat.mul_one, Nat.zero_add, Nat.add_zero, Nat.one_mul, Nat.zero_mul, List.getElem?_map, List.getElem?_drop, List.getElem?_take, List.length_map, Option.map_some, List.set_cons_zero, List.set_cons_succ, and_true, true_and, List.flatMap_cons, List.flatMap_nil, Bool.not_not, hρ]
    rfl
  clear hρ ε
  rintro ε σ ⟨hρ, rfl⟩
  refine wpa_seqx (fun ε σ => (ε 0 = aMks l ∧ ε 2 = .ref 0 0 0 ∧ ε 3 = .v (.int .i64 0) ∧ ε 4 = .ref 1 0 0) ∧ ∃ lab il vl is, BR σ lab 1 il vl bd0 is) ?_ ?_
  · intro N X R hN
    have hd0 : BdAt [.obj 0 [.sl 0 [] .nil, .sl 0 [] .nil, .sl 0 [] .nil], .obj 0 (bdC noneB nilB (.sl 0 [] .nil))] (fun j => if j = 1 then (1, 0) else (0, 1)) 1 noneB nilB (.sl 0 [] .nil) := ⟨rfl, rfl, TokOk.nil, TokOk.nil, TokOk.nil⟩
    have hk0 : KP [.obj 0 [.sl 0 [] .nil, .sl 0 [] .nil, .sl 0 [] .nil], .obj 0 (bdC noneB nilB (.sl 0 [] .nil))] (fun j => if j = 1 then (1, 0) else (0, 1)) := ⟨_, rfl, rfl, rfl⟩
    have hdo := hd0.obj
    simp (maxSteps := 1000000) (implicitDefEqProofs := false) (disch := omega) only [push_cast, ↓reduceIte, Nat.reduceEqDiff, reduceCtorEq, decide_true, decide_false, Bool.not_true, Bool.not_false, Option.isNone_some, Option.isNone_none, List.drop_zero, List.drop_succ_cons, List.getElem?_cons_zero, List.getElem?_cons_succ, List.length_cons, List.length_nil, List.take_succ_cons, List.take_zero, Nat.mul_one, Nat.zero_add, Nat.add_zero, Nat.one_mul, Nat.zero_mul, List.getElem?_map, List.getElem?_drop, List.getElem?_take, List.length_map, Option.map_some, List.set_cons_zero, List.set_cons_succ, and_true, true_and, List.flatMap_cons, List.flatMap_nil, Bool.not_not, hρ, bdC_3]
    refine wpa_callGw [] [false, false, true] (strand_g hd0 (by decide) rfl (0, 0, 0) []) (weak3 _ _ _ [] _) ?_
    rintro a σ1 ⟨rfl, lab1, t1, hd1, k1⟩
    have hk1 := hk0.stp k1 (by simp [isB])
    have hbeg : noneB.begin (0, 0, 0) [] = (0, ⟨[[]], [(0, 0, 0)], [], [], false⟩) := rfl
    rw [hbeg] at hd1 ⊢
    have hdo1 := hd1.obj
    have exn : (AV.sl 0 [] .nil).exact = true := rfl
    simp (maxSteps := 1000000) (implicitDefEqProofs := false) (disch := omega) only [push_cast, ↓reduceIte, Nat.reduceEqDiff, reduceCtorEq, decide_true, decide_false, Bool.not_true, Bool.not_false, Option.isNone_some, Option.isNone_none, List.drop_zero, List.drop_succ_cons, List.getElem?_cons_zero, List.getElem?_cons_succ, List.length_cons, List.length_nil, List.take_succ_cons, List.take_zero, Nat.mul_one, Nat.zero_add, Nat.add_zero, Nat.one_mul, Nat.zero_mul, List.getElem?_map, List.getElem?_drop, List.getElem?_take, List.length_map, Option.map_some, List.set_cons_zero, List.set_cons_succ, and_true, true_and, List.flatMap_cons, List.flatMap_nil, Bool.not_not]
    refine ⟨aholds_lde (by simp (maxSteps := 1000000) (implicitDefEqProofs := false) (disch := omega) only [push_cast, ↓reduceIte, Nat.reduceEqDiff, reduceCtorEq, decide_true, decide_false, Bool.not_true, Bool.not_false, Option.isNone_some, Option.isNone_none, List.drop_zero, List.drop_succ_cons, List.getElem?_cons_zero, List.getElem?_cons_succ, List.length_cons, List.length_nil, List.take_succ_cons, List.take_zero, Nat.mul_one, Nat.zero_add, Nat.add_zero, Nat.one_mul, Nat.zero_mul, List.getElem?_map, List.getElem?_drop, List.getElem?_take, List.length_map, Option.map_some, List.set_cons_zero, List.set_cons_succ, and_true, true_and, List.flatMap_cons, List.flatMap_nil, Bool.not_not, hdo1, bdC_3, exn]), ?_⟩
    simp (maxSteps := 1000000) (implicitDefEqProofs := false) (disch := omega) only [push_cast, ↓reduceIte, Nat.reduceEqDiff, reduceCtorEq, decide_true, decide_false, Bool.not_true, Bool.not_false, Option.isNone_some, Option.isNone_none, List.drop_zero, List.drop_succ_cons, List.getElem?_cons_zero, List.getElem?_cons_succ, List.length_cons, List.length_nil, List.take_succ_cons, List.take_zero, Nat.mul_one, Nat.zero_add, Nat.add_zero, Nat.one_mul, Nat.zero_mul, List.getElem?_map, List.getElem?_drop, List.getElem?_take, List.length_map, Option.map_some, List.set_cons_zero, List.set_cons_succ, and_true, true_and, List.flatMap_cons, List.flatMap_nil, Bool.not_not, bldF0]
    refine wpa_box ?_
    have hcc : (AV.agg (frC rootFr nilT)).cells = frC rootFr nilT := rfl
    rw [hcc]
    have k2 := stp_new (S := fun _ => False) (σ := σ1) (lab := lab1) (x := .obj 0 (frC rootFr nilT)) (6, 0)
    have hd2 := hd1.stp k2 fun _ _ h => h
    have hk2 := hk1.stp k2 id
    have hdo2 := hd2.obj
    have hy : (σ1 ++ [Res.obj 0 (frC rootFr nilT)])[σ1.length]? = some (.obj 0 (frC rootFr nilT)) := at_snoc _ _
    have hly := labN_self σ1 lab1 (6, 0)
    simp (maxSteps := 1000000) (implicitDefEqProofs := false) (disch := omega) only [push_cast, ↓reduceIte, Nat.reduceEqDiff, reduceCtorEq, decide_true, decide_false, Bool.not_true, Bool.not_false, Option.isNone_some, Option.isNone_none, List.drop_zero, List.drop_succ_cons, List.getElem?_cons_zero, List.getElem?_cons_succ, List.length_cons, List.length_nil, List.take_succ_cons, List.take_zero, Nat.mul_one, Nat.zero_add, Nat.add_zero, Nat.one_mul, Nat.zero_mul, List.getElem?_map, List.getElem?_drop, List.getElem?_take, List.length_map, Option.map_some, List.set_cons_zero, List.set_cons_succ, and_true, true_and, List.flatMap_cons, List.flatMap_nil, Bool.not_not]
    generalize σ1 ++ [Res.obj 0 (frC rootFr nilT)] = σ2 at k2 hd2 hk2 hdo2 hy ⊢
    generalize labN σ1 lab1 (6, 0) = lab2 at k2 hd2 hk2 hly
    generalize σ1.length = y at hy hly ⊢
    refine ⟨aholds_lde (by simp (maxSteps := 1000000) (implicitDefEqProofs := false) (disch := omega) only [push_cast, ↓reduceIte, Nat.reduceEqDiff, reduceCtorEq, decide_true, decide_false, Bool.not_true, Bool.not_false, Option.isNone_some, Option.isNone_none, List.drop_zero, List.drop_succ_cons, List.getElem?_cons_zero, List.getElem?_cons_succ, List.length_cons, List.length_nil, List.take_succ_cons, List.take_zero, Nat.mul_one, Nat.zero_add, Nat.add_zero, Nat.one_mul, Nat.zero_mul, List.getElem?_map, List.getElem?_drop, List.getElem?_take, List.length_map, Option.map_some, List.set_cons_zero, List.set_cons_succ, and_true, true_and, List.flatMap_cons, List.flatMap_nil, Bool.not_not, hdo2, bdC_3, exn]), ?_⟩
    refine wpa_bsl (sz := 1) (by intro a ha; simp at ha; subst ha; rfl) (by simp) ?_
    simp (maxSteps := 1000000) (implicitDefEqProofs := false) (disch := omega) only [push_cast, ↓reduceIte, Nat.reduceEqDiff, reduceCtorEq, decide_true, decide_false, Bool.not_true, Bool.not_false, Option.isNone_some, Option.isNone_none, List.drop_zero, List.drop_succ_cons, List.getElem?_cons_zero, List.getElem?_cons_succ, List.length_cons, List.length_nil, List.take_succ_cons, List.take_zero, Nat.mul_one, Nat.zero_add, Nat.add_zero, Nat.one_mul, Nat.zero_mul, List.getElem?_map, List.getElem?_drop, List.getElem?_take, List.length_map, Option.map_some, List.set_cons_zero, List.set_cons_succ, and_true, true_and, List.flatMap_cons, List.flatMap_nil, Bool.not_not]
    refine ⟨aholds_lde (by simp (maxSteps := 1000000) (implicitDefEqProofs := false) (disch := omega) only [push_cast, ↓reduceIte, Nat.reduceEqDiff, reduceCtorEq, decide_true, decide_false, Bool.not_true, Bool.not_false, Option.isNone_some, Option.isNone_none, List.drop_zero, List.drop_succ_cons, List.getElem?_cons_zero, List.getElem?_cons_succ, List.length_cons, List.length_nil, List.take_succ_cons, List.take_zero, Nat.mul_one, Nat.zero_add, Nat.add_zero, Nat.one_mul, Nat.zero_mul, List.getElem?_map, List.getElem?_drop, List.getElem?_take, List.length_map, Option.map_some, List.set_cons_zero, List.set_cons_succ, and_true, true_and, List.flatMap_cons, List.flatMap_nil, Bool.not_not, hdo2, bdC_3, exn]), ?_⟩
    refine wpa_app_nilo (m := 1) rfl rfl rfl rfl (by omega) (by omega) (by omega) ?_
    have k3 := stp_new (S := fun _ => False) (σ := σ2) (lab := lab2) (x := .obj 0 [.ref y 0 0]) (2, 0)
    have hd3 := hd2.stp k3 fun _ _ h => h
    have hk3 := hk2.stp k3 id
    have hdo3 := hd3.obj
    obtain ⟨hy3, hly3⟩ := k3.get hy id
    have hz : (σ2 ++ [Res.obj 0 [AV.ref y 0 0]])[σ2.length]? = some (.obj 0 [.ref y 0 0]) := at_snoc _ _
    have hlz := labN_self σ2 lab2 (2, 0)
    simp (maxSteps := 1000000) (implicitDefEqProofs := false) (disch := omega) only [push_cast, ↓reduceIte, Nat.reduceEqDiff, reduceCtorEq, decide_true, decide_false, Bool.not_true, Bool.not_false, Option.isNone_some, Option.isNone_none, List.drop_zero, List.drop_succ_cons, List.getElem?_cons_zero, List.getElem?_cons_succ, List.length_cons, List.length_nil, List.take_succ_cons, List.take_zero, Nat.mul_one, Nat.zero_add, Nat.add_zero, Nat.one_mul, Nat.zero_mul, List.getElem?_map, List.getElem?_drop, List.getElem?_take, List.length_map, Option.map_some, List.set_cons_zero, List.set_cons_succ, and_true, true_and, List.flatMap_cons, List.flatMap_nil, Bool.not_not, hρ]
    generalize σ2 ++ [Res.obj 0 [AV.ref y 0 0]] = σ3 at k3 hd3 hk3 hdo3 hy3 hz ⊢
    generalize labN σ2 lab2 (2, 0) = lab3 at k3 hd3 hk3 hly3 hlz
    generalize σ2.length = il at hz hlz ⊢
    refine wpa_st1 rfl rfl hdo3 (by simp [bdC]) ?_
    obtain ⟨n1, n2⟩ := hd3.put (B' := bd0) (ms' := .ms il 0 0 1 1) rfl rfl rfl
    have e3 : (bdC (⟨[[]], [(0, 0, 0)], [], [], false⟩ : Bd) t1 (.sl 0 [] .nil)).set 3 (.ms il 0 0 1 1) = bdC bd0 t1 (.ms il 0 0 1 1) := rfl
    rw [e3]
    obtain ⟨hy4, _⟩ := n2.get hy3 (by rw [hly3, hly]; simp)
    obtain ⟨hz4, _⟩ := n2.get hz (by rw [hlz]; simp)
    have hk4 := hk3.stp n2 (by simp)
    simp (maxSteps := 1000000) (implicitDefEqProofs := false) (disch := omega) only [push_cast, ↓reduceIte, Nat.reduceEqDiff, reduceCtorEq, decide_true, decide_false, Bool.not_true, Bool.not_false, Option.isNone_some, Option.isNone_none, List.drop_zero, List.drop_succ_cons, List.getElem?_cons_zero, List.getElem?_cons_succ, List.length_cons, List.length_nil, List.take_succ_cons, List.take_zero, Nat.mul_one, Nat.zero_add, Nat.add_zero, Nat.one_mul, Nat.zero_mul, List.getElem?_map, List.getElem?_drop, List.getElem?_take, List.length_map, Option.map_some, List.set_cons_zero, List.set_cons_succ, and_true, true_and, List.flatMap_cons, List.flatMap_nil, Bool.not_not]
    refine hN _ _ ?_
    simp (maxSteps := 1000000) (implicitDefEqProofs := false) (disch := omega) only [push_cast, ↓reduceIte, Nat.reduceEqDiff, reduceCtorEq, decide_true, decide_false, Bool.not_true, Bool.not_false, Option.isNone_some, Option.isNone_none, List.drop_zero, List.drop_succ_cons, List.getElem?_cons_zero, List.getElem?_cons_succ, List.length_cons, List.length_nil, List.take_succ_cons, List.take_zero, Nat.mul_one, Nat.zero_add, Nat.add_zero, Nat.one_mul, Nat.zero_mul, List.getElem?_map, List.getElem?_drop, List.getElem?_take, List.length_map, Option.map_some, List.set_cons_zero, List.set_cons_succ, and_true, true_and, List.flatMap_cons, List.flatMap_nil, Bool.not_not, hρ]
    exact ⟨lab3, il, 0, [y], ⟨⟨t1, n1⟩, ⟨⟨_, hz4, rfl⟩, hlz⟩, ⟨⟨nilT, hy4, hly3.trans hly, TokOk.nil, TokOk.nil, TokOk.nil, TokOk.nil⟩, trivial⟩, hk4⟩⟩
  clear hρ ε
  rintro ε σ ⟨hρ, lab, il, vl, is, H⟩
  have hret : ∀ (ε' : AEnv) (σ' : St) (e : Int) (D : List AV), ε' 2 = .ref 0 0 0 → ε' 3 = .v (.int .i64 e) → σ'[0]? = some (.obj 0 D) → D.length = 3 → True := fun _ _ _ _ _ _ _ _ => trivial
  simp (maxSteps := 1000000) (implicitDefEqProofs := false) (disch := omega) only [push_cast, ↓reduceIte, Nat.reduceEqDiff, reduceCtorEq, decide_true, decide_false, Bool.not_true, Bool.not_false, Option.isNone_some, Option.isNone_none, List.drop_zero, List.drop_succ_cons, List.getElem?_cons_zero, List.getElem?_cons_succ, List.length_cons, List.length_nil, List.take_succ_cons, List.take_zero, Nat.mul_one, Nat.zero_add, Nat.add_zero, Nat.one_mul, Nat.zero_mul, List.getElem?_map, List.getElem?_drop, List.getElem?_take, List.length_map, Option.map_some, List.set_cons_zero, List.set_cons_succ, and_true, true_and, List.flatMap_cons, List.flatMap_nil, Bool.not_not, hρ, aMks, aSlN]
  refine wpa_bl (α := Nat) (I := fun n ε σ => (ε 2 = .ref 0 0 0 ∧ ε 4 = .ref 1 0 0 ∧ ε 24 = .sl l.length (l.flatMap aMk) .none ∧ ε 25 = .v (.int .i64 l.length) ∧ ε 26 = .v (.int .i64 n)) ∧ n ≤ l.length ∧
      ∃ lab il vl is B, BR σ lab 1 il vl B is ∧ InvB B n ∧ B.full = false ∧ runB bd0 l = runB B (l.drop n))
    (μ := fun n => l.length - n) (Q := fun ε σ => (ε 2 = .ref 0 0 0 ∧ ε 4 = .ref 1 0 0) ∧ ∃ lab il vl is B, BR σ lab 1 il vl B is ∧ runB bd0 l = (0, B)) (x := 0) ?_ ?_ ?_
  · simp (maxSteps := 1000000) (implicitDefEqProofs := false) (disch := omega) only [push_cast, ↓reduceIte, Nat.reduceEqDiff, reduceCtorEq, decide_true, decide_false, Bool.not_true, Bool.not_false, Option.isNone_some, Option.isNone_none, List.drop_zero, List.drop_succ_cons, List.getElem?_cons_zero, List.getElem?_cons_succ, List.length_cons, List.length_nil, List.take_succ_cons, List.take_zero, Nat.mul_one, Nat.zero_add, Nat.add_zero, Nat.one_mul, Nat.zero_mul, List.getElem?_map, List.getElem?_drop, List.getElem?_take, List.length_map, Option.map_some, List.set_cons_zero, List.set_cons_succ, and_true, true_and, List.flatMap_cons, List.flatMap_nil, Bool.not_not, hρ]
    exact ⟨by omega, lab, il, vl, is, bd0, H, inv0, rfl, rfl⟩
  · clear hρ H hret lab il vl is ε
    rintro n ε σ N E ⟨hρ, hn, lab, il, vl, is, B, H, hi, hfu, hrun⟩ hN hE
    simp only [S_strand_Build_L1]
    by_cases hlt : n < l.length
    · obtain ⟨m, hm⟩ := at_lt hlt
      have hdm := flat_drop aMk_len hm
      have hcl : ∀ k : List AV, cellsA (some 3) (aMk m ++ k) = some (.agg (aMk m)) := fun k => by rw [cellsA_n _ _ (by simp [aMk_len])]; rfl
      rw [drop_at hm] at hrun
      have hb := hi.bnd (by omega)
      simp (maxSteps := 1000000) (implicitDefEqProofs := false) (disch := omega) only [push_cast, ↓reduceIte, Nat.reduceEqDiff, reduceCtorEq, decide_true, decide_false, Bool.not_true, Bool.not_false, Option.isNone_some, Option.isNone_none, List.drop_zero, List.drop_succ_cons, List.getElem?_cons_zero, List.getElem?_cons_succ, List.length_cons, List.length_nil, List.take_succ_cons, List.take_zero, Nat.mul_one, Nat.zero_add, Nat.add_zero, Nat.one_mul, Nat.zero_mul, List.getElem?_map, List.getElem?_drop, List.getElem?_take, List.length_map, Option.map_some, List.set_cons_zero, List.set_cons_succ, and_true, true_and, List.flatMap_cons, List.flatMap_nil, Bool.not_not, hρ, hdm, hcl]
      refine wpa_new ?_
      simp (maxSteps := 1000000) (implicitDefEqProofs := false) (disch := omega) only [push_cast, ↓reduceIte, Nat.reduceEqDiff, reduceCtorEq, decide_true, decide_false, Bool.not_true, Bool.not_false, Option.isNone_some, Option.isNone_none, List.drop_zero, List.drop_succ_cons, List.getElem?_cons_zero, List.getElem?_cons_succ, List.length_cons, List.length_nil, List.take_succ_cons, List.take_zero, Nat.mul_one, Nat.zero_add, Nat.add_zero, Nat.one_mul, Nat.zero_mul, List.getElem?_map, List.getElem?_drop, List.getElem?_take, List.length_map, Option.map_some, List.set_cons_zero, List.set_cons_succ, and_true, true_and, List.flatMap_cons, List.flatMap_nil, Bool.not_not]
      refine wpa_stn (aMk_len m) (by rfl) (at_snoc _ _) (by simp) ?_
      have hset : setAtA [AV.v (.int .i64 0), AV.v (.int .i64 0), AV.v (.int .i64 0)] 0 (aMk m) = aMk m := rfl
      have H0 := H.stp (stp_new (S := fun r => r = (0, 0)) (x := .obj 0 (aMk m)) (0, 0)) fun _ h => h
      have hmx : (σ ++ [Res.obj 0 (aMk m)])[σ.length]? = some (.obj 0 (aMk m)) := at_snoc _ _
      simp (maxSteps := 1000000) (implicitDefEqProofs := false) (disch := omega) only [push_cast, ↓reduceIte, Nat.reduceEqDiff, reduceCtorEq, decide_true, decide_false, Bool.not_true, Bool.not_false, Option.isNone_some, Option.isNone_none, List.drop_zero, List.drop_succ_cons, List.getElem?_cons_zero, List.getElem?_cons_succ, List.length_cons, List.length_nil, List.take_succ_cons, List.take_zero, Nat.mul_one, Nat.zero_add, Nat.add_zero, Nat.one_mul, Nat.zero_mul, List.getElem?_map, List.getElem?_drop, List.getElem?_take, List.length_map, Option.map_some, List.set_cons_zero, List.set_cons_succ, and_true, true_and, List.flatMap_cons, List.flatMap_nil, Bool.not_not, hset]
      generalize σ ++ [Res.obj 0 (aMk m)] = σ1 at H0 hmx ⊢
      generalize labN σ lab (0, 0) = lab1 at H0
      generalize σ.length = mx at hmx ⊢
      clear H
      have hfe : B.fs ≠ [] := by
        intro e
        have := hi.f.wf
        rw [e] at this
        exact this
      obtain ⟨F, fs, hB⟩ : ∃ F fs, B.fs = F :: fs := by
        cases h : B.fs with
        | nil => exact absurd h hfe
        | cons F fs => exact ⟨F, fs, rfl⟩
      obtain ⟨i, js, rfl⟩ : ∃ i js, is = i :: js := by
        have := H0.fr.len
        rw [hB] at this
        cases is with
        | nil => simp at this
        | cons i js => exact ⟨i, js, rfl⟩
      simp only [runB] at hrun
      by_cases hk : m.k < 1 ∨ 12 < m.k
      · rw [if_pos hk] at hrun
        have hbr : buildR l = (5, noneB) := by unfold buildR; rw [hrun]; rfl
        rw [hbr]
        obtain ⟨cs, hc0, hc3, hc1⟩ := H0.kp
        obtain ⟨x, y, z, rfl⟩ := len3 hc3
        have hg : ∀ r : Res, (σ1.set 0 r)[0]? = some r := fun r => get_set_eq hc0
        by_cases hk1 : m.k < 1
        · simp (maxSteps := 1000000) (implicitDefEqProofs := false) (disch := omega) only [push_cast, ↓reduceIte, Nat.reduceEqDiff, reduceCtorEq, decide_true, decide_false, Bool.not_true, Bool.not_false, Option.isNone_some, Option.isNone_none, List.drop_zero, List.drop_succ_cons, List.getElem?_cons_zero, List.getElem?_cons_succ, List.length_cons, List.length_nil, List.take_succ_cons, List.take_zero, Nat.mul_one, Nat.zero_add, Nat.add_zero, Nat.one_mul, Nat.zero_mul, List.getElem?_map, List.getElem?_drop, List.getElem?_take, List.length_map, Option.map_some, List.set_cons_zero, List.set_cons_succ, and_true, true_and, List.flatMap_cons, List.flatMap_nil, Bool.not_not, hρ, hmx, aMk_0, hk1]
          refine wpa_stn rfl rfl hc0 (by simp) ?_
          simp (maxSteps := 1000000) (implicitDefEqProofs := false) (disch := omega) only [push_cast, ↓reduceIte, Nat.reduceEqDiff, reduceCtorEq, decide_true, decide_false, Bool.not_true, Bool.not_false, Option.isNone_some, Option.isNone_none, List.drop_zero, List.drop_succ_cons, List.getElem?_cons_zero, List.getElem?_cons_succ, List.length_cons, List.length_nil, List.take_succ_cons, List.take_zero, Nat.mul_one, Nat.zero_add, Nat.add_zero, Nat.one_mul, Nat.zero_mul, List.getElem?_map, List.getElem?_drop, List.getElem?_take, List.length_map, Option.map_some, List.set_cons_zero, List.set_cons_succ, and_true, true_and, List.flatMap_cons, List.flatMap_nil, Bool.not_not, hρ, hg, cell3a]
          exact fin_dag _ noneB nilB 5
        · have hk2 : 12 < m.k := by omega
          simp (maxSteps := 1000000) (implicitDefEqProofs := false) (disch := omega) only [push_cast, ↓reduceIte, Nat.reduceEqDiff, reduceCtorEq, decide_true, decide_false, Bool.not_true, Bool.not_false, Option.isNone_some, Option.isNone_none, List.drop_zero, List.drop_succ_cons, List.getElem?_cons_zero, List.getElem?_cons_succ, List.length_cons, List.length_nil, List.take_succ_cons, List.take_zero, Nat.mul_one, Nat.zero_add, Nat.add_zero, Nat.one_mul, Nat.zero_mul, List.getElem?_map, List.getElem?_drop, List.getElem?_take, List.length_map, Option.map_some, List.set_cons_zero, List.set_cons_succ, and_true, true_and, List.flatMap_cons, List.flatMap_nil, Bool.not_not, hρ, hmx, aMk_0, hk1, hk2]
          refine wpa_stn rfl rfl hc0 (by simp) ?_
          simp (maxSteps := 1000000) (implicitDefEqProofs := false) (disch := omega) only [push_cast, ↓reduceIte, Nat.reduceEqDiff, reduceCtorEq, decide_true, decide_false, Bool.not_true, Bool.not_false, Option.isNone_some, Option.isNone_none, List.drop_zero, List.drop_succ_cons, List.getElem?_cons_zero, List.getElem?_cons_succ, List.length_cons, List.length_nil, List.take_succ_cons, List.take_zero, Nat.mul_one, Nat.zero_add, Nat.add_zero, Nat.one_mul, Nat.zero_mul, List.getElem?_map, List.getElem?_drop, List.getElem?_take, List.length_map, Option.map_some, List.set_cons_zero, List.set_cons_succ, and_true, true_and, List.flatMap_cons, List.flatMap_nil, Bool.not_not, hρ, hg, cell3a]
          exact fin_dag _ noneB nilB 5
      · rw [if_neg hk] at hrun
        have hk1 : ¬ m.k < 1 := fun h => hk (.inl h)
        have hk2 : ¬ 12 < m.k := fun h => hk (.inr h)
        have hjl := H0.fr.len
        have hbf := hb.f
        rw [hB] at hbf hjl
        simp only [List.length_cons] at hbf hjl
        simp (maxSteps := 1000000) (implicitDefEqProofs := false) (disch := omega) only [push_cast, ↓reduceIte, Nat.reduceEqDiff, reduceCtorEq, decide_true, decide_false, Bool.not_true, Bool.not_false, Option.isNone_some, Option.isNone_none, List.drop_zero, List.drop_succ_cons, List.getElem?_cons_zero, List.getElem?_cons_succ, List.length_cons, List.length_nil, List.take_succ_cons, List.take_zero, Nat.mul_one, Nat.zero_add, Nat.add_zero, Nat.one_mul, Nat.zero_mul, List.getElem?_map, List.getElem?_drop, List.getElem?_take, List.length_map, Option.map_some, List.set_cons_zero, List.set_cons_succ, and_true, true_and, List.flatMap_cons, List.flatMap_nil, Bool.not_not, hρ, hmx, aMk_0, hk1, hk2]
        refine wpa_callG (top_a H0 (by omega)) ?_
        rintro a τ ⟨rfl, hτ⟩
        rw [hτ]
        clear hτ τ
        have h3 := H0.fr
        rw [hB] at h3
        obtain ⟨⟨t, hf⟩, _⟩ := h3
        simp (maxSteps := 1000000) (implicitDefEqProofs := false) (disch := omega) only [push_cast, ↓reduceIte, Nat.reduceEqDiff, reduceCtorEq, decide_true, decide_false, Bool.not_true, Bool.not_false, Option.isNone_some, Option.isNone_none, List.drop_zero, List.drop_succ_cons, List.getElem?_cons_zero, List.getElem?_cons_succ, List.length_cons, List.length_nil, List.take_succ_cons, List.take_zero, Nat.mul_one, Nat.zero_add, Nat.add_zero, Nat.one_mul, Nat.zero_mul, List.getElem?_map, List.getElem?_drop, List.getElem?_take, List.length_map, Option.map_some, List.set_cons_zero, List.set_cons_succ, and_true, true_and, List.flatMap_cons, List.flatMap_nil, Bool.not_not, hmx, cell3m]
        refine wpa_callG (fits_a hf.obj m) ?_
        rintro a τ ⟨rfl, hτ⟩
        rw [hτ]
        clear hτ τ
        have H1 := H0.stp (stp_new (S := fun r => r = (0, 0)) (x := .obj 0 (aMk m)) (0, 0)) fun _ h => h
        have hmx1 : (σ1 ++ [Res.obj 0 (aMk m)])[mx]? = some (.obj 0 (aMk m)) := get_app hmx
        have hf1 := hf.stp (stp_new (S := fun _ => False) (x := .obj 0 (aMk m)) (0, 0)) fun _ _ h => h
        generalize σ1 ++ [Res.obj 0 (aMk m)] = σ2 at H1 hmx1 hf1 ⊢
        generalize labN σ1 lab1 (0, 0) = lab2 at H1 hf1
        clear H0 hmx hf
        obtain ⟨cs, hc0, hc3, hc1⟩ := H1.kp
        obtain ⟨x, y, z, rfl⟩ := len3 hc3
        have hg : ∀ r : Res, (σ2.set 0 r)[0]? = some r := fun r => get_set_eq hc0
        cases hfit : fitsB F m with
        | false =>
          rw [hB] at hrun
          simp only [hfit, Bool.false_eq_true, if_false] at hrun
          have hbr : buildR l = (4, noneB) := by unfold buildR; rw [hrun]; rfl
          rw [hbr]
          simp (maxSteps := 1000000) (implicitDefEqProofs := false) (disch := omega) only [push_cast, ↓reduceIte, Nat.reduceEqDiff, reduceCtorEq, decide_true, decide_false, Bool.not_true, Bool.not_false, Option.isNone_some, Option.isNone_none, List.drop_zero, List.drop_succ_cons, List.getElem?_cons_zero, List.getElem?_cons_succ, List.length_cons, List.length_nil, List.take_succ_cons, List.take_zero, Nat.mul_one, Nat.zero_add, Nat.add_zero, Nat.one_mul, Nat.zero_mul, List.getElem?_map, List.getElem?_drop, List.getElem?_take, List.length_map, Option.map_some, List.set_cons_zero, List.set_cons_succ, and_true, true_and, List.flatMap_cons, List.flatMap_nil, Bool.not_not, aBool, hρ]
          refine wpa_stn rfl rfl hc0 (by simp) ?_
          simp (maxSteps := 1000000) (implicitDefEqProofs := false) (disch := omega) only [push_cast, ↓reduceIte, Nat.reduceEqDiff, reduceCtorEq, decide_true, decide_false, Bool.not_true, Bool.not_false, Option.isNone_some, Option.isNone_none, List.drop_zero, List.drop_succ_cons, List.getElem?_cons_zero, List.getElem?_cons_succ, List.length_cons, List.length_nil, List.take_succ_cons, List.take_zero, Nat.mul_one, Nat.zero_add, Nat.add_zero, Nat.one_mul, Nat.zero_mul, List.getElem?_map, List.getElem?_drop, List.getElem?_take, List.length_map, Option.map_some, List.set_cons_zero, List.set_cons_succ, and_true, true_and, List.flatMap_cons, List.flatMap_nil, Bool.not_not, hρ, hg, cell3a]
          exact fin_dag _ noneB nilB 4
        | true =>
          rw [hB] at hrun
          simp only [hfit, if_true] at hrun
          have hup := fits_up hi hB hfit
          have hst := inv_step hi hB hfit
          have hah : m.k = 9 → 0 < F.cnt → F.ahead ≠ [] := by
            intro k9 hc
            refine hi.f.top F fs hB ?_ hc
            have := hfit
            unfold fitsB at this
            simp [k9] at this
            exact this.1
          clear hc0 hc3 hc1 hg
          simp (maxSteps := 1000000) (implicitDefEqProofs := false) (disch := omega) only [push_cast, ↓reduceIte, Nat.reduceEqDiff, reduceCtorEq, decide_true, decide_false, Bool.not_true, Bool.not_false, Option.isNone_some, Option.isNone_none, List.drop_zero, List.drop_succ_cons, List.getElem?_cons_zero, List.getElem?_cons_succ, List.length_cons, List.length_nil, List.take_succ_cons, List.take_zero, Nat.mul_one, Nat.zero_add, Nat.add_zero, Nat.one_mul, Nat.zero_mul, List.getElem?_map, List.getElem?_drop, List.getElem?_take, List.length_map, Option.map_some, List.set_cons_zero, List.set_cons_succ, and_true, true_and, List.flatMap_cons, List.flatMap_nil, Bool.not_not, aBool, hρ, hmx1, cell3m]
          refine wpa_callG (mark_a H1 hB hb m hup hah) ?_
          rintro a σ3 ⟨lab3, vl3, is3, H3⟩
          obtain ⟨tb, hd3⟩ := H3.bd
          have hdo3 := hd3.obj
          obtain ⟨cs, hc0, hc3, hc1⟩ := H3.kp
          obtain ⟨x, y, z, rfl⟩ := len3 hc3
          have hg : ∀ r : Res, (σ3.set 0 r)[0]? = some r := fun r => get_set_eq hc0
          cases hfu2 : (stepF B m F fs).full with
          | true =>
            rw [hfu2] at hrun
            simp only [if_true] at hrun
            have hbr : buildR l = (9, noneB) := by unfold buildR; rw [hrun]; rfl
            rw [hbr]
            simp (maxSteps := 1000000) (implicitDefEqProofs := false) (disch := omega) only [push_cast, ↓reduceIte, Nat.reduceEqDiff, reduceCtorEq, decide_true, decide_false, Bool.not_true, Bool.not_false, Option.isNone_some, Option.isNone_none, List.drop_zero, List.drop_succ_cons, List.getElem?_cons_zero, List.getElem?_cons_succ, List.length_cons, List.length_nil, List.take_succ_cons, List.take_zero, Nat.mul_one, Nat.zero_add, Nat.add_zero, Nat.one_mul, Nat.zero_mul, List.getElem?_map, List.getElem?_drop, List.getElem?_take, List.length_map, Option.map_some, List.set_cons_zero, List.set_cons_succ, and_true, true_and, List.flatMap_cons, List.flatMap_nil, Bool.not_not, hρ, hdo3, bdC_4, hfu2]
            refine wpa_stn rfl rfl hc0 (by simp) ?_
            simp (maxSteps := 1000000) (implicitDefEqProofs := false) (disch := omega) only [push_cast, ↓reduceIte, Nat.reduceEqDiff, reduceCtorEq, decide_true, decide_false, Bool.not_true, Bool.not_false, Option.isNone_some, Option.isNone_none, List.drop_zero, List.drop_succ_cons, List.getElem?_cons_zero, List.getElem?_cons_succ, List.length_cons, List.length_nil, List.take_succ_cons, List.take_zero, Nat.mul_one, Nat.zero_add, Nat.add_zero, Nat.one_mul, Nat.zero_mul, List.getElem?_map, List.getElem?_drop, List.getElem?_take, List.length_map, Option.map_some, List.set_cons_zero, List.set_cons_succ, and_true, true_and, List.flatMap_cons, List.flatMap_nil, Bool.not_not, hρ, hg, cell3a]
            exact fin_dag _ noneB nilB 9
          | false =>
            rw [hfu2] at hrun
            simp only [Bool.false_eq_true, if_false] at hrun
            simp (maxSteps := 1000000) (implicitDefEqProofs := false) (disch := omega) only [push_cast, ↓reduceIte, Nat.reduceEqDiff, reduceCtorEq, decide_true, decide_false, Bool.not_true, Bool.not_false, Option.isNone_some, Option.isNone_none, List.drop_zero, List.drop_succ_cons, List.getElem?_cons_zero, List.getElem?_cons_succ, List.length_cons, List.length_nil, List.take_succ_cons, List.take_zero, Nat.mul_one, Nat.zero_add, Nat.add_zero, Nat.one_mul, Nat.zero_mul, List.getElem?_map, List.getElem?_drop, List.getElem?_take, List.length_map, Option.map_some, List.set_cons_zero, List.set_cons_succ, and_true, true_and, List.flatMap_cons, List.flatMap_nil, Bool.not_not, hρ, hdo3, bdC_4, hfu2]
            refine hN (n + 1) _ _ ?_ (by omega)
            simp (maxSteps := 1000000) (implicitDefEqProofs := false) (disch := omega) only [push_cast, ↓reduceIte, Nat.reduceEqDiff, reduceCtorEq, decide_true, decide_false, Bool.not_true, Bool.not_false, Option.isNone_some, Option.isNone_none, List.drop_zero, List.drop_succ_cons, List.getElem?_cons_zero, List.getElem?_cons_succ, List.length_cons, List.length_nil, List.take_succ_cons, List.take_zero, Nat.mul_one, Nat.zero_add, Nat.add_zero, Nat.one_mul, Nat.zero_mul, List.getElem?_map, List.getElem?_drop, List.getElem?_take, List.length_map, Option.map_some, List.set_cons_zero, List.set_cons_succ, and_true, true_and, List.flatMap_cons, List.flatMap_nil, Bool.not_not, hρ]
            exact ⟨by omega, lab3, il, vl3, is3, _, H3, hst, hfu2, hrun⟩
    · simp (maxSteps := 1000000) (implicitDefEqProofs := false) (disch := omega) only [push_cast, ↓reduceIte, Nat.reduceEqDiff, reduceCtorEq, decide_true, decide_false, Bool.not_true, Bool.not_false, Option.isNone_some, Option.isNone_none, List.drop_zero, List.drop_succ_cons, List.getElem?_cons_zero, List.getElem?_cons_succ, List.length_cons, List.length_nil, List.take_succ_cons, List.take_zero, Nat.mul_one, Nat.zero_add, Nat.add_zero, Nat.one_mul, Nat.zero_mul, List.getElem?_map, List.getElem?_drop, List.getElem?_take, List.length_map, Option.map_some, List.set_cons_zero, List.set_cons_succ, and_true, true_and, List.flatMap_cons, List.flatMap_nil, Bool.not_not, hρ]
      refine hE _ _ ?_
      simp (maxSteps := 1000000) (implicitDefEqProofs := false) (disch := omega) only [push_cast, ↓reduceIte, Nat.reduceEqDiff, reduceCtorEq, decide_true, decide_false, Bool.not_true, Bool.not_false, Option.isNone_some, Option.isNone_none, List.drop_zero, List.drop_succ_cons, List.getElem?_cons_zero, List.getElem?_cons_succ, List.length_cons, List.length_nil, List.take_succ_cons, List.take_zero, Nat.mul_one, Nat.zero_add, Nat.add_zero, Nat.one_mul, Nat.zero_mul, List.getElem?_map, List.getElem?_drop, List.getElem?_take, List.length_map, Option.map_some, List.set_cons_zero, List.set_cons_succ, and_true, true_and, List.flatMap_cons, List.flatMap_nil, Bool.not_not, hρ]
      rw [drop_all hlt] at hrun
      exact ⟨lab, il, vl, is, B, H, hrun⟩
  · clear hρ H hret lab il vl is ε
    rintro ε σ ⟨hρ, lab, il, vl, is, B, H, hrun⟩
    have hbr : buildR l = (0, B) := by unfold buildR; rw [hrun]; rfl
    rw [hbr]
    obtain ⟨cs, hc0, hc3, hc1⟩ := H.kp
    obtain ⟨t, hd⟩ := H.bd
    have hdo := hd.obj
    have hcd : ∀ ms, cellsA (some 3) (bdC B t ms) = some (.agg [.sl B.preds.length (B.preds.map aInts) t.p, .sl B.nodes.length (B.nodes.flatMap aNd) t.n, .sl B.accs.length (B.accs.flatMap aAc) t.a]) := fun _ => rfl
    simp (maxSteps := 1000000) (implicitDefEqProofs := false) (disch := omega) only [push_cast, ↓reduceIte, Nat.reduceEqDiff, reduceCtorEq, decide_true, decide_false, Bool.not_true, Bool.not_false, Option.isNone_some, Option.isNone_none, List.drop_zero, List.drop_succ_cons, List.getElem?_cons_zero, List.getElem?_cons_succ, List.length_cons, List.length_nil, List.take_succ_cons, List.take_zero, Nat.mul_one, Nat.zero_add, Nat.add_zero, Nat.one_mul, Nat.zero_mul, List.getElem?_map, List.getElem?_drop, List.getElem?_take, List.length_map, Option.map_some, List.set_cons_zero, List.set_cons_succ, and_true, true_and, List.flatMap_cons, List.flatMap_nil, Bool.not_not, hρ, hdo, hcd]
    refine wpa_stn rfl rfl hc0 (by omega) ?_
    obtain ⟨x, y, z, rfl⟩ := len3 hc3
    have hg : ∀ r : Res, (σ.set 0 r)[0]? = some r := fun r => get_set_eq hc0
    simp (maxSteps := 1000000) (implicitDefEqProofs := false) (disch := omega) only [push_cast, ↓reduceIte, Nat.reduceEqDiff, reduceCtorEq, decide_true, decide_false, Bool.not_true, Bool.not_false, Option.isNone_some, Option.isNone_none, List.drop_zero, List.drop_succ_cons, List.getElem?_cons_zero, List.getElem?_cons_succ, List.length_cons, List.length_nil, List.take_succ_cons, List.take_zero, Nat.mul_one, Nat.zero_add, Nat.add_zero, Nat.one_mul, Nat.zero_mul, List.getElem?_map, List.getElem?_drop, List.getElem?_take, List.length_map, Option.map_some, List.set_cons_zero, List.set_cons_succ, and_true, true_and, List.flatMap_cons, List.flatMap_nil, Bool.not_not, hρ, hg, cell3a]
    exact fin_dag _ B t 0
end Go.Proofs.Ytilofhocodbknaa
