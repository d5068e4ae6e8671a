/- Contracts on annotated values: strand.builder.iterate, done, access. -/
import Derived.Test.YtilofhocodbknaaStf
namespace Go.Proofs.Ytilofhocodbknaa
set_option linter.unusedVariables false
set_option linter.unusedSimpArgs false
open Go Go.Kx Go.Proofs

def nilT : Tk := ⟨.nil, .nil, .nil, .nil⟩
theorem LsAt.len {σ : St} {lab : Nat → Role} {il vl : Nat} {is : List Nat} {cells : List AV} (h : cells.take is.length = (is.map fun i => AV.ref i 0 0).reverse) : is.length ≤ cells.length := by
  have := congrArg List.length h
  rw [List.length_take, List.length_reverse, List.length_map] at this
  omega
/-- Another frame begins. -/
theorem BR.push {σ : St} {lab : Nat → Role} {ib il vl : Nat} {B : Bd} {is : List Nat} {cells : List AV} {t : Tb} (H : BR σ lab ib il vl B is) (hd : BdAt σ lab ib B t (.ms il vl 0 is.length 1)) (hc : σ[il]? = some (.obj vl cells)) (ht : cells.take is.length = (is.map fun i => AV.ref i 0 0).reverse)
    (N : Fr) (hl : N.left = []) (hr : N.row = []) (ha : N.ahead = []) (hs : N.lasts = []) :
    BR (((σ ++ [Res.obj 0 (frC N nilT)]).set il (.obj (vl + 1) (cells.take is.length ++ [.ref σ.length 0 0]))).set ib (.obj 0 (bdC B t (.ms il (vl + 1) 0 (is.length + 1) 1)))) (labN σ lab (6, is.length)) ib il (vl + 1) { B with fs := N :: B.fs } (σ.length :: is) ∧
      ((σ ++ [Res.obj 0 (frC N nilT)]).set il (.obj (vl + 1) (cells.take is.length ++ [.ref σ.length 0 0])))[ib]? = some (.obj 0 (bdC B t (.ms il vl 0 is.length 1))) := by
  have k1 := stp_new (S := fun _ => False) (σ := σ) (lab := lab) (x := .obj 0 (frC N nilT)) (6, is.length)
  have hd1 := hd.stp k1 fun _ _ h => h
  have hl1 := H.ls.stp k1 id
  have hkp := H.kp.stp k1 id
  have hf1 := H.fr.stp k1 fun _ _ _ _ h => h
  have hn : FrAt (σ ++ [Res.obj 0 (frC N nilT)]) (labN σ lab (6, is.length)) is.length σ.length N nilT :=
    ⟨at_snoc _ _, labN_self _ _ _, by rw [hl]; exact TokOk.nil, by rw [hr]; exact TokOk.nil, by rw [ha]; exact TokOk.nil, by rw [hs]; exact TokOk.nil⟩
  have hc1 : (σ ++ [Res.obj 0 (frC N nilT)])[il]? = some (.obj vl cells) := get_app hc
  generalize hS : σ ++ [Res.obj 0 (frC N nilT)] = σ1 at *
  generalize labN σ lab (6, is.length) = lab1 at *
  generalize σ.length = y at *
  have k2 := stp_set (σ := σ1) (x := .obj (vl + 1) (cells.take is.length ++ [.ref y 0 0])) hl1.li
  obtain ⟨ho2, hi2⟩ := k2.get hd1.obj (by rw [hd1.li]; simp)
  have hg2 : (σ1.set il (.obj (vl + 1) (cells.take is.length ++ [.ref y 0 0])))[il]? = some (.obj (vl + 1) (cells.take is.length ++ [.ref y 0 0])) := get_set_eq hc1
  have k3 := stp_set (σ := σ1.set il (.obj (vl + 1) (cells.take is.length ++ [.ref y 0 0]))) (x := .obj 0 (bdC B t (.ms il (vl + 1) 0 (is.length + 1) 1))) (hi2.trans hd1.li)
  refine ⟨⟨⟨t, get_set_eq ho2, hd1.li, (hd1.p.stp k2 (by simp)).stp k3 (by simp), (hd1.n.stp k2 (by simp)).stp k3 (by simp), (hd1.a.stp k2 (by simp)).stp k3 (by simp)⟩, ?_, ?_, (hkp.stp k2 (by simp)).stp k3 (by simp)⟩, ho2⟩
  · obtain ⟨a, b⟩ := k3.get hg2 (by rw [hl1.li]; simp)
    refine ⟨⟨_, a, ?_⟩, hl1.li⟩
    have hlen := LsAt.len (σ := σ) (lab := lab) (il := il) (vl := vl) ht
    rw [List.take_of_length_le (by simp; omega), ht]
    simp
  · refine ⟨⟨nilT, (hn.stp k2 fun q hq => ?_).stp k3 fun q hq => ?_⟩, (hf1.stp k2 fun q d hq _ => ?_).stp k3 fun q d hq _ => ?_⟩ <;> (intro e; have := congrArg Prod.fst e; simp only at this; omega)
def iterFr (F : Fr) (now : Int) : Fr := ⟨2, false, now, [], F.ser, F.cnt, 0, [], 0, 0, [], []⟩
def iterB (B : Bd) (F : Fr) (fs : List Fr) : Bd :=
  let r := ({ B with fs := { F with cnt := F.cnt + 1 } :: fs } : Bd).begin (F.ser, F.cnt, 0) [if 0 < F.cnt then (F.ahead.headD (0, 0)).2 else F.now]
  { r.2 with fs := iterFr F r.1 :: { F with cnt := F.cnt + 1 } :: fs }
set_option maxHeartbeats 2000000 in
theorem iterate_a {σ : St} {lab : Nat → Role} {ib il vl i : Nat} {B : Bd} {is : List Nat} {F : Fr} {fs : List Fr} (H : BR σ lab ib il vl B (i :: is)) (hB : B.fs = F :: fs) (hb : Bnd B) (ha : 0 < F.cnt → F.ahead ≠ []) :
    FnG Try.prog 117 [.ref ib 0 0, .ref i 0 0] σ fun _ σ' => ∃ lab' y, BR σ' lab' ib il (vl + 1) (iterB B F fs) (y :: i :: is) := by
  refine fnG_in K_strand_builder_iterate mixed rfl ?_
  simp only [S_strand_builder_iterate]
  obtain ⟨_, _, hF3, _, hF5⟩ := hb.s F (by rw [hB]; simp)
  have hfl := hb.f
  have hisl := H.fr.len
  rw [hB] at hfl hisl
  simp only [List.length_cons] at hfl hisl
  have h3 := H.fr
  rw [hB] at h3
  obtain ⟨⟨t, hf⟩, _⟩ := h3
  have hfo := hf.obj
  generalize hpe : (if 0 < F.cnt then (F.ahead.headD (0, 0)).2 else F.now) = pred
  refine wpa_seqx (fun ε σ' => (ε 0 = .ref ib 0 0 ∧ ε 1 = .ref i 0 0 ∧ ε 4 = .v (.int .i64 F.now)) ∧ σ' = σ) ?_ ?_
  · intro N X R hN
    simp (maxSteps := 1000000) (implicitDefEqProofs := false) (disch := omega) only [push_cast, ↓reduceIte, Nat.reduceEqDiff, reduceCtorEq, decide_true, decide_false, Bool.not_true, Bool.not_false, Option.isNone_some, Option.isNone_none, List.drop_zero, List.drop_succ_cons, List.getElem?_cons_zero, List.getElem?_cons_succ, List.length_cons, List.length_nil, List.take_succ_cons, List.take_zero, Nat.mul_one, Nat.zero_add, Nat.add_zero, Nat.one_mul, Nat.zero_mul, List.getElem?_map, List.getElem?_drop, List.getElem?_take, List.length_map, Option.map_some, List.set_cons_zero, List.set_cons_succ, and_true, true_and, List.flatMap_cons, List.flatMap_nil, Bool.not_not, hfo, frC_2]
    refine hN _ _ ?_
    simp (maxSteps := 1000000) (implicitDefEqProofs := false) (disch := omega) only [push_cast, ↓reduceIte, Nat.reduceEqDiff, reduceCtorEq, decide_true, decide_false, Bool.not_true, Bool.not_false, Option.isNone_some, Option.isNone_none, List.drop_zero, List.drop_succ_cons, List.getElem?_cons_zero, List.getElem?_cons_succ, List.length_cons, List.length_nil, List.take_succ_cons, List.take_zero, Nat.mul_one, Nat.zero_add, Nat.add_zero, Nat.one_mul, Nat.zero_mul, List.getElem?_map, List.getElem?_drop, List.getElem?_take, List.length_map, Option.map_some, List.set_cons_zero, List.set_cons_succ, and_true, true_and, List.flatMap_cons, List.flatMap_nil, Bool.not_not]
  rintro ε τ ⟨hρ, hτ⟩
  rw [hτ]
  clear hτ τ
  refine wpa_seqx (fun ε σ' => (ε 0 = .ref ib 0 0 ∧ ε 1 = .ref i 0 0 ∧ ε 4 = .v (.int .i64 pred)) ∧ σ' = σ) ?_ ?_
  · intro N X R hN
    by_cases hc : 0 < F.cnt
    · rw [if_pos hc] at hpe
      have hc' : (0 : Int) < (F.cnt : Int) := by omega
      have hane := ha hc
      cases hah : F.ahead with
      | nil => exact absurd hah hane
      | cons e l =>
        rw [hah] at hpe
        have hpe : e.2 = pred := hpe
        have hd : List.drop (Int.toNat 0 * 2) (F.ahead.flatMap aSt) = aSt e ++ l.flatMap aSt := by rw [hah]; rfl
        have hlen : (0 : Int) < (F.ahead.length : Int) := by rw [hah]; simp
        have g1 : ∀ l : List AV, (aSt e ++ l)[1]? = some (.v (.int .i64 e.2)) := fun _ => rfl
        simp (maxSteps := 1000000) (implicitDefEqProofs := false) (disch := omega) only [push_cast, ↓reduceIte, Nat.reduceEqDiff, reduceCtorEq, decide_true, decide_false, Bool.not_true, Bool.not_false, Option.isNone_some, Option.isNone_none, List.drop_zero, List.drop_succ_cons, List.getElem?_cons_zero, List.getElem?_cons_succ, List.length_cons, List.length_nil, List.take_succ_cons, List.take_zero, Nat.mul_one, Nat.zero_add, Nat.add_zero, Nat.one_mul, Nat.zero_mul, List.getElem?_map, List.getElem?_drop, List.getElem?_take, List.length_map, Option.map_some, List.set_cons_zero, List.set_cons_succ, and_true, true_and, List.flatMap_cons, List.flatMap_nil, Bool.not_not, hρ, hfo, frC_9, hc', frC_10, hlen, hd, g1, hpe]
        refine hN _ _ ?_
        simp (maxSteps := 1000000) (implicitDefEqProofs := false) (disch := omega) only [push_cast, ↓reduceIte, Nat.reduceEqDiff, reduceCtorEq, decide_true, decide_false, Bool.not_true, Bool.not_false, Option.isNone_some, Option.isNone_none, List.drop_zero, List.drop_succ_cons, List.getElem?_cons_zero, List.getElem?_cons_succ, List.length_cons, List.length_nil, List.take_succ_cons, List.take_zero, Nat.mul_one, Nat.zero_add, Nat.add_zero, Nat.one_mul, Nat.zero_mul, List.getElem?_map, List.getElem?_drop, List.getElem?_take, List.length_map, Option.map_some, List.set_cons_zero, List.set_cons_succ, and_true, true_and, List.flatMap_cons, List.flatMap_nil, Bool.not_not, hρ]
    · rw [if_neg hc] at hpe
      have hc' : ¬ (0 : Int) < (F.cnt : Int) := by omega
      simp (maxSteps := 1000000) (implicitDefEqProofs := false) (disch := omega) only [push_cast, ↓reduceIte, Nat.reduceEqDiff, reduceCtorEq, decide_true, decide_false, Bool.not_true, Bool.not_false, Option.isNone_some, Option.isNone_none, List.drop_zero, List.drop_succ_cons, List.getElem?_cons_zero, List.getElem?_cons_succ, List.length_cons, List.length_nil, List.take_succ_cons, List.take_zero, Nat.mul_one, Nat.zero_add, Nat.add_zero, Nat.one_mul, Nat.zero_mul, List.getElem?_map, List.getElem?_drop, List.getElem?_take, List.length_map, Option.map_some, List.set_cons_zero, List.set_cons_succ, and_true, true_and, List.flatMap_cons, List.flatMap_nil, Bool.not_not, hρ, hfo, frC_9, hc']
      refine hN _ _ ?_
      simp (maxSteps := 1000000) (implicitDefEqProofs := false) (disch := omega) only [push_cast, ↓reduceIte, Nat.reduceEqDiff, reduceCtorEq, decide_true, decide_false, Bool.not_true, Bool.not_false, Option.isNone_some, Option.isNone_none, List.drop_zero, List.drop_succ_cons, List.getElem?_cons_zero, List.getElem?_cons_succ, List.length_cons, List.length_nil, List.take_succ_cons, List.take_zero, Nat.mul_one, Nat.zero_add, Nat.add_zero, Nat.one_mul, Nat.zero_mul, List.getElem?_map, List.getElem?_drop, List.getElem?_take, List.length_map, Option.map_some, List.set_cons_zero, List.set_cons_succ, and_true, true_and, List.flatMap_cons, List.flatMap_nil, Bool.not_not, hρ, hpe]
  clear hρ ε
  rintro ε τ ⟨hρ, hτ⟩
  rw [hτ]
  clear hτ τ
  refine wpa_seqx (fun ε σ' => ∃ nx, (ε 0 = .ref ib 0 0 ∧ ε 1 = .ref i 0 0 ∧ ε 4 = .v (.int .i64 pred) ∧ ε 5 = .ref nx 0 0) ∧ ∃ lab', σ'[nx]? = some (.obj 0 (aNd (F.ser, F.cnt, 0))) ∧ lab' nx = (0, 0) ∧ BR σ' lab' ib il vl B (i :: is)) ?_ ?_
  · intro N X R hN
    have bld3 : ∀ a b c : Int, fillA [AV.v (.int .i64 0), AV.v (.int .i64 0), AV.v (.int .i64 0)] [(0, 1), (1, 1), (2, 1)] [AV.v (.int .i64 a), AV.v (.int .i64 b), AV.v (.int .i64 c)] = some (aNd (a, b, c)) := fun a b c => by simp [fillA, AV.cells, Value.cells, setAtA, aNd]
    simp (maxSteps := 1000000) (implicitDefEqProofs := false) (disch := omega) only [push_cast, ↓reduceIte, Nat.reduceEqDiff, reduceCtorEq, decide_true, decide_false, Bool.not_true, Bool.not_false, Option.isNone_some, Option.isNone_none, List.drop_zero, List.drop_succ_cons, List.getElem?_cons_zero, List.getElem?_cons_succ, List.length_cons, List.length_nil, List.take_succ_cons, List.take_zero, Nat.mul_one, Nat.zero_add, Nat.add_zero, Nat.one_mul, Nat.zero_mul, List.getElem?_map, List.getElem?_drop, List.getElem?_take, List.length_map, Option.map_some, List.set_cons_zero, List.set_cons_succ, and_true, true_and, List.flatMap_cons, List.flatMap_nil, Bool.not_not, hρ, hfo, frC_8, frC_9, bld3]
    refine wpa_new ?_
    have hz : (List.map abs1 [Value.int .i64 0, Value.int .i64 0, Value.int .i64 0]) = aNd (0, 0, 0) := rfl
    rw [hz]
    have hfo1 : (σ ++ [Res.obj 0 (aNd (0, 0, 0))])[i]? = some (.obj 0 (frC F t)) := get_app hfo
    have hex : ∀ n : Int, (AV.v (.int .i64 n)).exact = true := fun _ => rfl
    simp (maxSteps := 1000000) (implicitDefEqProofs := false) (disch := omega) only [push_cast, ↓reduceIte, Nat.reduceEqDiff, reduceCtorEq, decide_true, decide_false, Bool.not_true, Bool.not_false, Option.isNone_some, Option.isNone_none, List.drop_zero, List.drop_succ_cons, List.getElem?_cons_zero, List.getElem?_cons_succ, List.length_cons, List.length_nil, List.take_succ_cons, List.take_zero, Nat.mul_one, Nat.zero_add, Nat.add_zero, Nat.one_mul, Nat.zero_mul, List.getElem?_map, List.getElem?_drop, List.getElem?_take, List.length_map, Option.map_some, List.set_cons_zero, List.set_cons_succ, and_true, true_and, List.flatMap_cons, List.flatMap_nil, Bool.not_not]
    refine ⟨aholds_lde (by simp (maxSteps := 1000000) (implicitDefEqProofs := false) (disch := omega) only [push_cast, ↓reduceIte, Nat.reduceEqDiff, reduceCtorEq, decide_true, decide_false, Bool.not_true, Bool.not_false, Option.isNone_some, Option.isNone_none, List.drop_zero, List.drop_succ_cons, List.getElem?_cons_zero, List.getElem?_cons_succ, List.length_cons, List.length_nil, List.take_succ_cons, List.take_zero, Nat.mul_one, Nat.zero_add, Nat.add_zero, Nat.one_mul, Nat.zero_mul, List.getElem?_map, List.getElem?_drop, List.getElem?_take, List.length_map, Option.map_some, List.set_cons_zero, List.set_cons_succ, and_true, true_and, List.flatMap_cons, List.flatMap_nil, Bool.not_not, hfo1, frC_9, hex]), aholds_lde (by simp (maxSteps := 1000000) (implicitDefEqProofs := false) (disch := omega) only [push_cast, ↓reduceIte, Nat.reduceEqDiff, reduceCtorEq, decide_true, decide_false, Bool.not_true, Bool.not_false, Option.isNone_some, Option.isNone_none, List.drop_zero, List.drop_succ_cons, List.getElem?_cons_zero, List.getElem?_cons_succ, List.length_cons, List.length_nil, List.take_succ_cons, List.take_zero, Nat.mul_one, Nat.zero_add, Nat.add_zero, Nat.one_mul, Nat.zero_mul, List.getElem?_map, List.getElem?_drop, List.getElem?_take, List.length_map, Option.map_some, List.set_cons_zero, List.set_cons_succ, and_true, true_and, List.flatMap_cons, List.flatMap_nil, Bool.not_not, hfo1, frC_8, hex]), ?_⟩
    refine wpa_stn (aNd_len _) (aNd_one _) (at_snoc _ _) (by simp [aNd_len]) ?_
    have hset : setAtA (aNd (0, 0, 0)) 0 (aNd (F.ser, F.cnt, 0)) = aNd (F.ser, F.cnt, 0) := rfl
    have H1 := H.stp (stp_new (S := fun r => r = (0, 0)) (x := .obj 0 (aNd (F.ser, F.cnt, 0))) (0, 0)) fun _ h => h
    simp (maxSteps := 1000000) (implicitDefEqProofs := false) (disch := omega) only [push_cast, ↓reduceIte, Nat.reduceEqDiff, reduceCtorEq, decide_true, decide_false, Bool.not_true, Bool.not_false, Option.isNone_some, Option.isNone_none, List.drop_zero, List.drop_succ_cons, List.getElem?_cons_zero, List.getElem?_cons_succ, List.length_cons, List.length_nil, List.take_succ_cons, List.take_zero, Nat.mul_one, Nat.zero_add, Nat.add_zero, Nat.one_mul, Nat.zero_mul, List.getElem?_map, List.getElem?_drop, List.getElem?_take, List.length_map, Option.map_some, List.set_cons_zero, List.set_cons_succ, and_true, true_and, List.flatMap_cons, List.flatMap_nil, Bool.not_not, hset]
    refine hN _ _ ⟨σ.length, ?_, _, at_snoc _ _, labN_self _ _ _, H1⟩
    simp (maxSteps := 1000000) (implicitDefEqProofs := false) (disch := omega) only [push_cast, ↓reduceIte, Nat.reduceEqDiff, reduceCtorEq, decide_true, decide_false, Bool.not_true, Bool.not_false, Option.isNone_some, Option.isNone_none, List.drop_zero, List.drop_succ_cons, List.getElem?_cons_zero, List.getElem?_cons_succ, List.length_cons, List.length_nil, List.take_succ_cons, List.take_zero, Nat.mul_one, Nat.zero_add, Nat.add_zero, Nat.one_mul, Nat.zero_mul, List.getElem?_map, List.getElem?_drop, List.getElem?_take, List.length_map, Option.map_some, List.set_cons_zero, List.set_cons_succ, and_true, true_and, List.flatMap_cons, List.flatMap_nil, Bool.not_not, hρ]
  clear hρ H hf hfo ε
  rintro ε σ1 ⟨nx, hρ, lab1, hnx, hlx, H⟩
  refine wpa_seqx (fun ε σ' => (ε 0 = .ref ib 0 0 ∧ ε 4 = .v (.int .i64 pred) ∧ ε 5 = .ref nx 0 0) ∧ ∃ lab', σ'[nx]? = some (.obj 0 (aNd (F.ser, F.cnt, 0))) ∧ lab' nx = (0, 0) ∧ BR σ' lab' ib il vl { B with fs := { F with cnt := F.cnt + 1 } :: fs } (i :: is)) ?_ ?_
  · intro N X R hN
    have h3 := H.fr
    rw [hB] at h3
    obtain ⟨⟨t, hf⟩, _⟩ := h3
    have hfo := hf.obj
    obtain ⟨n1, n2⟩ := hf.put (F' := { F with cnt := F.cnt + 1 }) rfl rfl rfl rfl
    have H2 := H.setTop hB n1 n2
    obtain ⟨hnx2, hlx2⟩ := n2.get hnx (by rw [hlx]; simp [isF])
    simp (maxSteps := 1000000) (implicitDefEqProofs := false) (disch := omega) only [push_cast, ↓reduceIte, Nat.reduceEqDiff, reduceCtorEq, decide_true, decide_false, Bool.not_true, Bool.not_false, Option.isNone_some, Option.isNone_none, List.drop_zero, List.drop_succ_cons, List.getElem?_cons_zero, List.getElem?_cons_succ, List.length_cons, List.length_nil, List.take_succ_cons, List.take_zero, Nat.mul_one, Nat.zero_add, Nat.add_zero, Nat.one_mul, Nat.zero_mul, List.getElem?_map, List.getElem?_drop, List.getElem?_take, List.length_map, Option.map_some, List.set_cons_zero, List.set_cons_succ, and_true, true_and, List.flatMap_cons, List.flatMap_nil, Bool.not_not, hρ, hfo, frC_9]
    refine wpa_st1 rfl rfl hfo (by simp [frC]) ?_
    have e5 : (frC F t).set 9 (.v (.int .i64 ((F.cnt : Int) + 1))) = frC { F with cnt := F.cnt + 1 } t := rfl
    rw [e5]
    simp (maxSteps := 1000000) (implicitDefEqProofs := false) (disch := omega) only [push_cast, ↓reduceIte, Nat.reduceEqDiff, reduceCtorEq, decide_true, decide_false, Bool.not_true, Bool.not_false, Option.isNone_some, Option.isNone_none, List.drop_zero, List.drop_succ_cons, List.getElem?_cons_zero, List.getElem?_cons_succ, List.length_cons, List.length_nil, List.take_succ_cons, List.take_zero, Nat.mul_one, Nat.zero_add, Nat.add_zero, Nat.one_mul, Nat.zero_mul, List.getElem?_map, List.getElem?_drop, List.getElem?_take, List.length_map, Option.map_some, List.set_cons_zero, List.set_cons_succ, and_true, true_and, List.flatMap_cons, List.flatMap_nil, Bool.not_not]
    refine hN _ _ ?_
    simp (maxSteps := 1000000) (implicitDefEqProofs := false) (disch := omega) only [push_cast, ↓reduceIte, Nat.reduceEqDiff, reduceCtorEq, decide_true, decide_false, Bool.not_true, Bool.not_false, Option.isNone_some, Option.isNone_none, List.drop_zero, List.drop_succ_cons, List.getElem?_cons_zero, List.getElem?_cons_succ, List.length_cons, List.length_nil, List.take_succ_cons, List.take_zero, Nat.mul_one, Nat.zero_add, Nat.add_zero, Nat.one_mul, Nat.zero_mul, List.getElem?_map, List.getElem?_drop, List.getElem?_take, List.length_map, Option.map_some, List.set_cons_zero, List.set_cons_succ, and_true, true_and, List.flatMap_cons, List.flatMap_nil, Bool.not_not, hρ]
    exact ⟨lab1, hnx2, hlx2.trans hlx, H2⟩
  clear hρ H hnx hlx ε
  rintro ε σ2 ⟨hρ, lab2, hnx, hlx, H⟩
  obtain ⟨tb, hd⟩ := H.bd
  have hdo := hd.obj
  have hcl : ∀ n, cellsA (some 3) (aNd n) = some (.agg (aNd n)) := fun _ => rfl
  have hex3 : ∀ n, (AV.agg (aNd n)).exact = true := fun _ => rfl
  have hexm : ∀ n, (AV.ms il vl 0 n 1).exact = true := fun _ => rfl
  simp (maxSteps := 1000000) (implicitDefEqProofs := false) (disch := omega) only [push_cast, ↓reduceIte, Nat.reduceEqDiff, reduceCtorEq, decide_true, decide_false, Bool.not_true, Bool.not_false, Option.isNone_some, Option.isNone_none, List.drop_zero, List.drop_succ_cons, List.getElem?_cons_zero, List.getElem?_cons_succ, List.length_cons, List.length_nil, List.take_succ_cons, List.take_zero, Nat.mul_one, Nat.zero_add, Nat.add_zero, Nat.one_mul, Nat.zero_mul, List.getElem?_map, List.getElem?_drop, List.getElem?_take, List.length_map, Option.map_some, List.set_cons_zero, List.set_cons_succ, and_true, true_and, List.flatMap_cons, List.flatMap_nil, Bool.not_not, hρ, hdo, bdC_3, hnx, hcl]
  refine wpa_bsl (sz := 1) (by intro a ha; simp at ha; subst ha; rfl) (by simp) ?_
  simp (maxSteps := 1000000) (implicitDefEqProofs := false) (disch := omega) only [push_cast, ↓reduceIte, Nat.reduceEqDiff, reduceCtorEq, decide_true, decide_false, Bool.not_true, Bool.not_false, Option.isNone_some, Option.isNone_none, List.drop_zero, List.drop_succ_cons, List.getElem?_cons_zero, List.getElem?_cons_succ, List.length_cons, List.length_nil, List.take_succ_cons, List.take_zero, Nat.mul_one, Nat.zero_add, Nat.add_zero, Nat.one_mul, Nat.zero_mul, List.getElem?_map, List.getElem?_drop, List.getElem?_take, List.length_map, Option.map_some, List.set_cons_zero, List.set_cons_succ, and_true, true_and, List.flatMap_cons, List.flatMap_nil, Bool.not_not, hρ]
  refine ⟨aholds_lde (by simp (maxSteps := 1000000) (implicitDefEqProofs := false) (disch := omega) only [push_cast, ↓reduceIte, Nat.reduceEqDiff, reduceCtorEq, decide_true, decide_false, Bool.not_true, Bool.not_false, Option.isNone_some, Option.isNone_none, List.drop_zero, List.drop_succ_cons, List.getElem?_cons_zero, List.getElem?_cons_succ, List.length_cons, List.length_nil, List.take_succ_cons, List.take_zero, Nat.mul_one, Nat.zero_add, Nat.add_zero, Nat.one_mul, Nat.zero_mul, List.getElem?_map, List.getElem?_drop, List.getElem?_take, List.length_map, Option.map_some, List.set_cons_zero, List.set_cons_succ, and_true, true_and, List.flatMap_cons, List.flatMap_nil, Bool.not_not, hρ, hnx, hcl, hex3]), aholds_lde (by simp (maxSteps := 1000000) (implicitDefEqProofs := false) (disch := omega) only [push_cast, ↓reduceIte, Nat.reduceEqDiff, reduceCtorEq, decide_true, decide_false, Bool.not_true, Bool.not_false, Option.isNone_some, Option.isNone_none, List.drop_zero, List.drop_succ_cons, List.getElem?_cons_zero, List.getElem?_cons_succ, List.length_cons, List.length_nil, List.take_succ_cons, List.take_zero, Nat.mul_one, Nat.zero_add, Nat.add_zero, Nat.one_mul, Nat.zero_mul, List.getElem?_map, List.getElem?_drop, List.getElem?_take, List.length_map, Option.map_some, List.set_cons_zero, List.set_cons_succ, and_true, true_and, List.flatMap_cons, List.flatMap_nil, Bool.not_not, hρ, hnx, hcl, hex3]), aholds_lde (by simp (maxSteps := 1000000) (implicitDefEqProofs := false) (disch := omega) only [push_cast, ↓reduceIte, Nat.reduceEqDiff, reduceCtorEq, decide_true, decide_false, Bool.not_true, Bool.not_false, Option.isNone_some, Option.isNone_none, List.drop_zero, List.drop_succ_cons, List.getElem?_cons_zero, List.getElem?_cons_succ, List.length_cons, List.length_nil, List.take_succ_cons, List.take_zero, Nat.mul_one, Nat.zero_add, Nat.add_zero, Nat.one_mul, Nat.zero_mul, List.getElem?_map, List.getElem?_drop, List.getElem?_take, List.length_map, Option.map_some, List.set_cons_zero, List.set_cons_succ, and_true, true_and, List.flatMap_cons, List.flatMap_nil, Bool.not_not, hρ, hdo, bdC_3, hexm]), ?_⟩
  refine wpa_callGw [] [false, false, true] (strand_a H hb.p hb.n (F.ser, F.cnt, 0) [pred]) (weak3 _ _ _ [pred] _) ?_
  rintro a σ3 ⟨rfl, lab3, H3, k3⟩
  obtain ⟨hnx3, hlx3⟩ := k3.get hnx (by rw [hlx]; simp [isB])
  obtain ⟨tb3, hd3⟩ := H3.bd
  have hdo3 := hd3.obj
  have hn3 : (i :: is).length = is.length + 1 := rfl
  rw [hn3] at hdo3
  simp (maxSteps := 1000000) (implicitDefEqProofs := false) (disch := omega) only [push_cast, ↓reduceIte, Nat.reduceEqDiff, reduceCtorEq, decide_true, decide_false, Bool.not_true, Bool.not_false, Option.isNone_some, Option.isNone_none, List.drop_zero, List.drop_succ_cons, List.getElem?_cons_zero, List.getElem?_cons_succ, List.length_cons, List.length_nil, List.take_succ_cons, List.take_zero, Nat.mul_one, Nat.zero_add, Nat.add_zero, Nat.one_mul, Nat.zero_mul, List.getElem?_map, List.getElem?_drop, List.getElem?_take, List.length_map, Option.map_some, List.set_cons_zero, List.set_cons_succ, and_true, true_and, List.flatMap_cons, List.flatMap_nil, Bool.not_not, hρ]
  refine ⟨aholds_lde (by simp (maxSteps := 1000000) (implicitDefEqProofs := false) (disch := omega) only [push_cast, ↓reduceIte, Nat.reduceEqDiff, reduceCtorEq, decide_true, decide_false, Bool.not_true, Bool.not_false, Option.isNone_some, Option.isNone_none, List.drop_zero, List.drop_succ_cons, List.getElem?_cons_zero, List.getElem?_cons_succ, List.length_cons, List.length_nil, List.take_succ_cons, List.take_zero, Nat.mul_one, Nat.zero_add, Nat.add_zero, Nat.one_mul, Nat.zero_mul, List.getElem?_map, List.getElem?_drop, List.getElem?_take, List.length_map, Option.map_some, List.set_cons_zero, List.set_cons_succ, and_true, true_and, List.flatMap_cons, List.flatMap_nil, Bool.not_not, hρ, hnx3, hcl, hex3]), aholds_lde (by simp (maxSteps := 1000000) (implicitDefEqProofs := false) (disch := omega) only [push_cast, ↓reduceIte, Nat.reduceEqDiff, reduceCtorEq, decide_true, decide_false, Bool.not_true, Bool.not_false, Option.isNone_some, Option.isNone_none, List.drop_zero, List.drop_succ_cons, List.getElem?_cons_zero, List.getElem?_cons_succ, List.length_cons, List.length_nil, List.take_succ_cons, List.take_zero, Nat.mul_one, Nat.zero_add, Nat.add_zero, Nat.one_mul, Nat.zero_mul, List.getElem?_map, List.getElem?_drop, List.getElem?_take, List.length_map, Option.map_some, List.set_cons_zero, List.set_cons_succ, and_true, true_and, List.flatMap_cons, List.flatMap_nil, Bool.not_not, hρ, hdo3, bdC_3, hexm]), ?_⟩
  generalize hr : ({ B with fs := { F with cnt := F.cnt + 1 } :: fs } : Bd).begin (F.ser, F.cnt, 0) [pred] = r at H3 hd3 hdo3
  have hit : iterB B F fs = { r.2 with fs := iterFr F r.1 :: r.2.fs } := by
    unfold iterB
    rw [hpe, hr]
    have := begin_fs ({ B with fs := { F with cnt := F.cnt + 1 } :: fs } : Bd) (F.ser, F.cnt, 0) [pred]
    rw [hr] at this
    simp only [this]
  rw [hit]
  have hbld : ∀ s, fillA [AV.v (.int .i64 0), AV.v (.bool false), AV.v (.int .i64 0), AV.sl 0 [] Tok.nil, AV.v (.int .i64 0), AV.v (.int .i64 0), AV.v (.int .i64 0), AV.sl 0 [] Tok.nil, AV.v (.int .i64 0), AV.v (.int .i64 0), AV.sl 0 [] Tok.nil, AV.sl 0 [] Tok.nil]
      [(0, 1), (4, 3), (2, 1)] [AV.v (.int .i64 2), AV.agg (aNd (F.ser, F.cnt, 0)), aInt s] = some (frC (iterFr F s) nilT) := fun s => by simp [fillA, AV.cells, Value.cells, setAtA, aNd, aInt, frC, iterFr, nilT]
  simp (maxSteps := 1000000) (implicitDefEqProofs := false) (disch := omega) only [push_cast, ↓reduceIte, Nat.reduceEqDiff, reduceCtorEq, decide_true, decide_false, Bool.not_true, Bool.not_false, Option.isNone_some, Option.isNone_none, List.drop_zero, List.drop_succ_cons, List.getElem?_cons_zero, List.getElem?_cons_succ, List.length_cons, List.length_nil, List.take_succ_cons, List.take_zero, Nat.mul_one, Nat.zero_add, Nat.add_zero, Nat.one_mul, Nat.zero_mul, List.getElem?_map, List.getElem?_drop, List.getElem?_take, List.length_map, Option.map_some, List.set_cons_zero, List.set_cons_succ, and_true, true_and, List.flatMap_cons, List.flatMap_nil, Bool.not_not, hbld]
  refine wpa_box ?_
  obtain ⟨cells, hc, htk⟩ := H3.ls.obj
  obtain ⟨hP, hibP⟩ := H3.push hd3 hc htk (iterFr F r.1) rfl rfl rfl rfl
  rw [hn3] at hP hibP
  have hcc : (AV.agg (frC (iterFr F r.1) nilT)).cells = frC (iterFr F r.1) nilT := rfl
  have hdo4 : (σ3 ++ [Res.obj 0 (frC (iterFr F r.1) nilT)])[ib]? = some (.obj 0 (bdC r.2 tb3 (.ms il vl 0 (is.length + 1) 1))) := get_app hdo3
  have hc4 : (σ3 ++ [Res.obj 0 (frC (iterFr F r.1) nilT)])[il]? = some (.obj vl cells) := get_app hc
  rw [hcc]
  simp (maxSteps := 1000000) (implicitDefEqProofs := false) (disch := omega) only [push_cast, ↓reduceIte, Nat.reduceEqDiff, reduceCtorEq, decide_true, decide_false, Bool.not_true, Bool.not_false, Option.isNone_some, Option.isNone_none, List.drop_zero, List.drop_succ_cons, List.getElem?_cons_zero, List.getElem?_cons_succ, List.length_cons, List.length_nil, List.take_succ_cons, List.take_zero, Nat.mul_one, Nat.zero_add, Nat.add_zero, Nat.one_mul, Nat.zero_mul, List.getElem?_map, List.getElem?_drop, List.getElem?_take, List.length_map, Option.map_some, List.set_cons_zero, List.set_cons_succ, and_true, true_and, List.flatMap_cons, List.flatMap_nil, Bool.not_not]
  refine ⟨aholds_lde (by simp (maxSteps := 1000000) (implicitDefEqProofs := false) (disch := omega) only [push_cast, ↓reduceIte, Nat.reduceEqDiff, reduceCtorEq, decide_true, decide_false, Bool.not_true, Bool.not_false, Option.isNone_some, Option.isNone_none, List.drop_zero, List.drop_succ_cons, List.getElem?_cons_zero, List.getElem?_cons_succ, List.length_cons, List.length_nil, List.take_succ_cons, List.take_zero, Nat.mul_one, Nat.zero_add, Nat.add_zero, Nat.one_mul, Nat.zero_mul, List.getElem?_map, List.getElem?_drop, List.getElem?_take, List.length_map, Option.map_some, List.set_cons_zero, List.set_cons_succ, and_true, true_and, List.flatMap_cons, List.flatMap_nil, Bool.not_not, hρ, hdo4, bdC_3, hexm]), ?_⟩
  refine wpa_bsl (sz := 1) (by intro a ha; simp at ha; subst ha; rfl) (by simp) ?_
  simp (maxSteps := 1000000) (implicitDefEqProofs := false) (disch := omega) only [push_cast, ↓reduceIte, Nat.reduceEqDiff, reduceCtorEq, decide_true, decide_false, Bool.not_true, Bool.not_false, Option.isNone_some, Option.isNone_none, List.drop_zero, List.drop_succ_cons, List.getElem?_cons_zero, List.getElem?_cons_succ, List.length_cons, List.length_nil, List.take_succ_cons, List.take_zero, Nat.mul_one, Nat.zero_add, Nat.add_zero, Nat.one_mul, Nat.zero_mul, List.getElem?_map, List.getElem?_drop, List.getElem?_take, List.length_map, Option.map_some, List.set_cons_zero, List.set_cons_succ, and_true, true_and, List.flatMap_cons, List.flatMap_nil, Bool.not_not]
  refine ⟨aholds_lde (by simp (maxSteps := 1000000) (implicitDefEqProofs := false) (disch := omega) only [push_cast, ↓reduceIte, Nat.reduceEqDiff, reduceCtorEq, decide_true, decide_false, Bool.not_true, Bool.not_false, Option.isNone_some, Option.isNone_none, List.drop_zero, List.drop_succ_cons, List.getElem?_cons_zero, List.getElem?_cons_succ, List.length_cons, List.length_nil, List.take_succ_cons, List.take_zero, Nat.mul_one, Nat.zero_add, Nat.add_zero, Nat.one_mul, Nat.zero_mul, List.getElem?_map, List.getElem?_drop, List.getElem?_take, List.length_map, Option.map_some, List.set_cons_zero, List.set_cons_succ, and_true, true_and, List.flatMap_cons, List.flatMap_nil, Bool.not_not, hρ, hdo4, bdC_3, hexm]), ?_⟩
  refine wpa_app_ms (m := 1) rfl rfl rfl rfl (by have := LsAt.len (σ := σ3) (lab := lab3) (il := il) (vl := vl) htk; rw [hn3] at this; omega) (by omega) (by omega) hc4 ?_
  simp (maxSteps := 1000000) (implicitDefEqProofs := false) (disch := omega) only [push_cast, ↓reduceIte, Nat.reduceEqDiff, reduceCtorEq, decide_true, decide_false, Bool.not_true, Bool.not_false, Option.isNone_some, Option.isNone_none, List.drop_zero, List.drop_succ_cons, List.getElem?_cons_zero, List.getElem?_cons_succ, List.length_cons, List.length_nil, List.take_succ_cons, List.take_zero, Nat.mul_one, Nat.zero_add, Nat.add_zero, Nat.one_mul, Nat.zero_mul, List.getElem?_map, List.getElem?_drop, List.getElem?_take, List.length_map, Option.map_some, List.set_cons_zero, List.set_cons_succ, and_true, true_and, List.flatMap_cons, List.flatMap_nil, Bool.not_not, hρ]
  refine wpa_st1 rfl rfl hibP (by simp [bdC]) ?_
  have e5 : (bdC r.2 tb3 (.ms il vl 0 (is.length + 1) 1)).set 3 (.ms il (vl + 1) 0 (is.length + 1 + 1) 1) = bdC r.2 tb3 (.ms il (vl + 1) 0 (is.length + 1 + 1) 1) := rfl
  rw [e5]
  simp (maxSteps := 1000000) (implicitDefEqProofs := false) (disch := omega) only [push_cast, ↓reduceIte, Nat.reduceEqDiff, reduceCtorEq, decide_true, decide_false, Bool.not_true, Bool.not_false, Option.isNone_some, Option.isNone_none, List.drop_zero, List.drop_succ_cons, List.getElem?_cons_zero, List.getElem?_cons_succ, List.length_cons, List.length_nil, List.take_succ_cons, List.take_zero, Nat.mul_one, Nat.zero_add, Nat.add_zero, Nat.one_mul, Nat.zero_mul, List.getElem?_map, List.getElem?_drop, List.getElem?_take, List.length_map, Option.map_some, List.set_cons_zero, List.set_cons_succ, and_true, true_and, List.flatMap_cons, List.flatMap_nil, Bool.not_not]
  exact ⟨_, _, hP⟩
end Go.Proofs.Ytilofhocodbknaa
