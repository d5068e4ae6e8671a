/- Contracts on annotated values: strand.builder.done, access. -/
import Derived.Test.YtilofhocodbknaaStg
namespace Go.Proofs.Ytilofhocodbknaa
set_option linter.unusedVariables false
set_option linter.unusedSimpArgs false
open Go Go.Kx Go.Proofs

def isG (d : Nat) (r : Role) : Prop := d ≤ r.2 ∧ 6 ≤ r.1
theorem BR.setTopG {σ σ' : St} {lab lab' : Nat → Role} {ib il vl i : Nat} {B : Bd} {is : List Nat} {F F' : Fr} {fs : List Fr} {t : Tk} (H : BR σ lab ib il vl B (i :: is)) (hB : B.fs = F :: fs) (h : FrAt σ' lab' is.length i F' t) (k : Stp (isG is.length) σ lab σ' lab') :
    BR σ' lab' ib il vl { B with fs := F' :: fs } (i :: is) := by
  obtain ⟨⟨tb, h1⟩, h2, h3, h5⟩ := H
  rw [hB] at h3
  have m := h1.stp k (fun q hq e => by have := e.2; simp only at this; omega)
  exact ⟨⟨tb, m.obj, m.li, m.p, m.n, m.a⟩, h2.stp k (fun e => by have := e.2; simp only at this; omega), ⟨⟨t, h⟩, h3.2.stp k fun q d hq hd e => by have := e.1; simp only at this; omega⟩, h5.stp k (fun e => by have := e.2; simp only at this; omega)⟩
theorem TokOk.relabel {σ : St} {lab : Nat → Role} {r r' : Role} {t : Tok} {n sz : Nat} (h : TokOk σ lab r t n sz) : ∃ lab', TokOk σ lab' r' t n sz ∧ Stp (· = r) σ lab σ lab' := by
  rcases h with h | ⟨j, w, h1, h2, h3⟩
  · exact ⟨lab, .inl h, Stp.refl⟩
  · refine ⟨fun k => if k = j then r' else lab k, .inr ⟨j, w, h1, h2, if_pos rfl⟩, Nat.le_refl _, fun k _ hk => ⟨rfl, ?_⟩⟩
    rw [if_neg]
    rintro rfl
    exact hk h3
theorem FrAt.taG {σ σ1 : St} {lab lab1 : Nat → Role} {d i : Nat} {F F' : Fr} {t : Tk} {t1 : Tok} (h : FrAt σ lab d i F t) (k : Stp (· = (8, d + 1)) σ lab σ1 lab1) (ht : TokOk σ1 lab1 (9, d) t1 F'.ahead.length 2) (hl : F'.left = F.left) (hr : F'.row = F.row) (hs : F'.lasts = F.lasts) :
    FrAt (σ1.set i (.obj 0 (frC F' { t with a := t1 }))) lab1 d i F' { t with a := t1 } ∧ Stp (isG d) σ lab (σ1.set i (.obj 0 (frC F' { t with a := t1 }))) lab1 := by
  obtain ⟨a, b⟩ := k.get h.obj (by rw [h.li]; simp)
  have hli := b.trans h.li
  have k2 := stp_set (σ := σ1) (x := .obj 0 (frC F' { t with a := t1 })) hli
  exact ⟨⟨get_set_eq a, hli, by rw [hl]; exact (h.l.stp k (by simp)).stp k2 (by simp), by rw [hr]; exact (h.r.stp k (by simp)).stp k2 (by simp), ht.stp k2 (by simp), by rw [hs]; exact (h.s.stp k (by simp)).stp k2 (by simp)⟩,
    k.trans k2 (fun r e => by subst e; exact ⟨by simp, by simp⟩) fun r e => by subst e; exact ⟨by simp, by simp⟩⟩
def doneB (B : Bd) (F G : Fr) (fs : List Fr) : Bd := { B with fs := { G with ahead := F.row ++ [(F.sg, F.now)], lasts := G.lasts ++ [F.now] } :: fs }
theorem bldS (a b : Int) : fillA [AV.v (.int .i64 0), AV.v (.int .i64 0)] [(0, 1), (1, 1)] [AV.v (.int .i64 a), AV.v (.int .i64 b)] = some (aSt (a, b)) := by simp [fillA, AV.cells, Value.cells, setAtA, aSt]
set_option maxHeartbeats 2000000 in
theorem done_a {σ : St} {lab : Nat → Role} {ib il vl i j : Nat} {B : Bd} {is : List Nat} {F G : Fr} {fs : List Fr} (H : BR σ lab ib il vl B (i :: j :: is)) (hB : B.fs = F :: G :: fs) (hb : Bnd B) :
    FnG Try.prog 119 [.ref ib 0 0, .ref i 0 0] σ fun _ σ' => ∃ lab', BR σ' lab' ib il vl (doneB B F G fs) (j :: is) := by
  refine fnG_in K_strand_builder_done mixed rfl ?_
  simp only [S_strand_builder_done]
  obtain ⟨_, hF2, _, _, _⟩ := hb.s F (by rw [hB]; simp)
  obtain ⟨_, _, _, hG4, _⟩ := hb.s G (by rw [hB]; simp)
  have hfl := hb.f
  have hisl := H.fr.len
  rw [hB] at hfl hisl
  simp only [List.length_cons] at hfl hisl
  have h3 := H.fr
  rw [hB] at h3
  obtain ⟨⟨t, hf⟩, _⟩ := h3
  refine wpa_seqx (fun ε σ' => (ε 0 = .ref ib 0 0 ∧ ε 1 = .ref i 0 0) ∧ FrAt σ' lab (is.length + 1) i F t ∧ BR σ' lab ib il vl { B with fs := G :: fs } (j :: is)) ?_ ?_
  · intro N X R hN
    simp (maxSteps := 1000000) (implicitDefEqProofs := false) (disch := omega) only [push_cast, ↓reduceIte, Nat.reduceEqDiff, reduceCtorEq, decide_true, decide_false, Bool.not_true, Bool.not_false, Option.isNone_some, Option.isNone_none, List.drop_zero, List.drop_succ_cons, List.getElem?_cons_zero, List.getElem?_cons_succ, List.length_cons, List.length_nil, List.take_succ_cons, List.take_zero, Nat.mul_one, Nat.zero_add, Nat.add_zero, Nat.one_mul, Nat.zero_mul, List.getElem?_map, List.getElem?_drop, List.getElem?_take, List.length_map, Option.map_some, List.set_cons_zero, List.set_cons_succ, and_true, true_and, List.flatMap_cons, List.flatMap_nil, Bool.not_not]
    refine wpa_callG (pop_a H (by simp only [List.length_cons]; omega) hB) ?_
    rintro a σ1 ⟨rfl, H1, k⟩
    have hf1 := hf.stp k (fun q hq => by simp)
    simp (maxSteps := 1000000) (implicitDefEqProofs := false) (disch := omega) only [push_cast, ↓reduceIte, Nat.reduceEqDiff, reduceCtorEq, decide_true, decide_false, Bool.not_true, Bool.not_false, Option.isNone_some, Option.isNone_none, List.drop_zero, List.drop_succ_cons, List.getElem?_cons_zero, List.getElem?_cons_succ, List.length_cons, List.length_nil, List.take_succ_cons, List.take_zero, Nat.mul_one, Nat.zero_add, Nat.add_zero, Nat.one_mul, Nat.zero_mul, List.getElem?_map, List.getElem?_drop, List.getElem?_take, List.length_map, Option.map_some, List.set_cons_zero, List.set_cons_succ, and_true, true_and, List.flatMap_cons, List.flatMap_nil, Bool.not_not]
    refine hN _ _ ?_
    simp (maxSteps := 1000000) (implicitDefEqProofs := false) (disch := omega) only [push_cast, ↓reduceIte, Nat.reduceEqDiff, reduceCtorEq, decide_true, decide_false, Bool.not_true, Bool.not_false, Option.isNone_some, Option.isNone_none, List.drop_zero, List.drop_succ_cons, List.getElem?_cons_zero, List.getElem?_cons_succ, List.length_cons, List.length_nil, List.take_succ_cons, List.take_zero, Nat.mul_one, Nat.zero_add, Nat.add_zero, Nat.one_mul, Nat.zero_mul, List.getElem?_map, List.getElem?_drop, List.getElem?_take, List.length_map, Option.map_some, List.set_cons_zero, List.set_cons_succ, and_true, true_and, List.flatMap_cons, List.flatMap_nil, Bool.not_not]
    exact ⟨hf1, H1⟩
  clear H hf
  rintro ε σ1 ⟨hρ, hf, H⟩
  refine wpa_seqx (fun ε σ' => (ε 1 = .ref i 0 0 ∧ ε 4 = .ref j 0 0) ∧ FrAt σ' lab (is.length + 1) i F t ∧ BR σ' lab ib il vl { B with fs := G :: fs } (j :: is)) ?_ ?_
  · intro N X R hN
    simp (maxSteps := 1000000) (implicitDefEqProofs := false) (disch := omega) only [push_cast, ↓reduceIte, Nat.reduceEqDiff, reduceCtorEq, decide_true, decide_false, Bool.not_true, Bool.not_false, Option.isNone_some, Option.isNone_none, List.drop_zero, List.drop_succ_cons, List.getElem?_cons_zero, List.getElem?_cons_succ, List.length_cons, List.length_nil, List.take_succ_cons, List.take_zero, Nat.mul_one, Nat.zero_add, Nat.add_zero, Nat.one_mul, Nat.zero_mul, List.getElem?_map, List.getElem?_drop, List.getElem?_take, List.length_map, Option.map_some, List.set_cons_zero, List.set_cons_succ, and_true, true_and, List.flatMap_cons, List.flatMap_nil, Bool.not_not, hρ]
    refine wpa_callG (top_a H (by omega)) ?_
    rintro a _ ⟨rfl, rfl⟩
    simp (maxSteps := 1000000) (implicitDefEqProofs := false) (disch := omega) only [push_cast, ↓reduceIte, Nat.reduceEqDiff, reduceCtorEq, decide_true, decide_false, Bool.not_true, Bool.not_false, Option.isNone_some, Option.isNone_none, List.drop_zero, List.drop_succ_cons, List.getElem?_cons_zero, List.getElem?_cons_succ, List.length_cons, List.length_nil, List.take_succ_cons, List.take_zero, Nat.mul_one, Nat.zero_add, Nat.add_zero, Nat.one_mul, Nat.zero_mul, List.getElem?_map, List.getElem?_drop, List.getElem?_take, List.length_map, Option.map_some, List.set_cons_zero, List.set_cons_succ, and_true, true_and, List.flatMap_cons, List.flatMap_nil, Bool.not_not]
    refine hN _ _ ?_
    simp (maxSteps := 1000000) (implicitDefEqProofs := false) (disch := omega) only [push_cast, ↓reduceIte, Nat.reduceEqDiff, reduceCtorEq, decide_true, decide_false, Bool.not_true, Bool.not_false, Option.isNone_some, Option.isNone_none, List.drop_zero, List.drop_succ_cons, List.getElem?_cons_zero, List.getElem?_cons_succ, List.length_cons, List.length_nil, List.take_succ_cons, List.take_zero, Nat.mul_one, Nat.zero_add, Nat.add_zero, Nat.one_mul, Nat.zero_mul, List.getElem?_map, List.getElem?_drop, List.getElem?_take, List.length_map, Option.map_some, List.set_cons_zero, List.set_cons_succ, and_true, true_and, List.flatMap_cons, List.flatMap_nil, Bool.not_not, hρ]
    exact ⟨hf, H⟩
  clear hf H hρ ε
  rintro ε σ1 ⟨hρ, hf, H⟩
  have hfo := hf.obj
  obtain ⟨⟨t2, hg⟩, _⟩ := H.fr
  have hgo := hg.obj
  refine wpa_seqx (fun ε σ' => (ε 1 = .ref i 0 0 ∧ ε 4 = .ref j 0 0) ∧ ∃ lab', σ'[i]? = some (.obj 0 (frC F t)) ∧ lab' i = (6, is.length + 1) ∧ BR σ' lab' ib il vl { B with fs := { G with ahead := F.row ++ [(F.sg, F.now)] } :: fs } (j :: is)) ?_ ?_
  · intro N X R hN
    simp (maxSteps := 1000000) (implicitDefEqProofs := false) (disch := omega) only [push_cast, ↓reduceIte, Nat.reduceEqDiff, reduceCtorEq, decide_true, decide_false, Bool.not_true, Bool.not_false, Option.isNone_some, Option.isNone_none, List.drop_zero, List.drop_succ_cons, List.getElem?_cons_zero, List.getElem?_cons_succ, List.length_cons, List.length_nil, List.take_succ_cons, List.take_zero, Nat.mul_one, Nat.zero_add, Nat.add_zero, Nat.one_mul, Nat.zero_mul, List.getElem?_map, List.getElem?_drop, List.getElem?_take, List.length_map, Option.map_some, List.set_cons_zero, List.set_cons_succ, and_true, true_and, List.flatMap_cons, List.flatMap_nil, Bool.not_not, hρ, hfo, frC_7, frC_6a, frC_2, bldS]
    refine wpa_bsl (sz := 2) (by intro a ha; simp at ha; subst ha; rfl) (by simp) ?_
    have hac2 : ∀ p, (AV.agg (aSt p)).cells = aSt p := fun _ => rfl
    simp (maxSteps := 1000000) (implicitDefEqProofs := false) (disch := omega) only [push_cast, ↓reduceIte, Nat.reduceEqDiff, reduceCtorEq, decide_true, decide_false, Bool.not_true, Bool.not_false, Option.isNone_some, Option.isNone_none, List.drop_zero, List.drop_succ_cons, List.getElem?_cons_zero, List.getElem?_cons_succ, List.length_cons, List.length_nil, List.take_succ_cons, List.take_zero, Nat.mul_one, Nat.zero_add, Nat.add_zero, Nat.one_mul, Nat.zero_mul, List.getElem?_map, List.getElem?_drop, List.getElem?_take, List.length_map, Option.map_some, List.set_cons_zero, List.set_cons_succ, and_true, true_and, List.flatMap_cons, List.flatMap_nil, Bool.not_not, hac2]
    refine ⟨aholds_lde (by simp (maxSteps := 1000000) (implicitDefEqProofs := false) (disch := omega) only [push_cast, ↓reduceIte, Nat.reduceEqDiff, reduceCtorEq, decide_true, decide_false, Bool.not_true, Bool.not_false, Option.isNone_some, Option.isNone_none, List.drop_zero, List.drop_succ_cons, List.getElem?_cons_zero, List.getElem?_cons_succ, List.length_cons, List.length_nil, List.take_succ_cons, List.take_zero, Nat.mul_one, Nat.zero_add, Nat.add_zero, Nat.one_mul, Nat.zero_mul, List.getElem?_map, List.getElem?_drop, List.getElem?_take, List.length_map, Option.map_some, List.set_cons_zero, List.set_cons_succ, and_true, true_and, List.flatMap_cons, List.flatMap_nil, Bool.not_not, hfo, frC_7, hf.r.exact]), ?_⟩
    refine wpa_app_t (m := 1) rfl hf.r rfl rfl rfl (flat_len aSt_len _) (by omega) (by omega) ?_
    intro σ2 lab2 t1 k1 ht1
    obtain ⟨lab3, ht3, k3⟩ := ht1.relabel (r' := (9, is.length))
    have k := k1.trans k3 (U := (· = (8, is.length + 1))) (fun _ h => h) fun _ h => h
    have hgo1 := (k.get hgo (by rw [hg.li]; simp)).1
    obtain ⟨hfo1, hfi1⟩ := k.get hfo (by rw [hf.li]; simp)
    obtain ⟨n1, n2⟩ := hg.taG (F' := { G with ahead := F.row ++ [(F.sg, F.now)] }) k (by simpa using ht3) rfl rfl rfl
    have H2 := H.setTopG rfl n1 n2
    have hne : j ≠ i := by
      rintro rfl
      have := hf.li
      rw [hg.li] at this
      simp at this
    simp (maxSteps := 1000000) (implicitDefEqProofs := false) (disch := omega) only [push_cast, ↓reduceIte, Nat.reduceEqDiff, reduceCtorEq, decide_true, decide_false, Bool.not_true, Bool.not_false, Option.isNone_some, Option.isNone_none, List.drop_zero, List.drop_succ_cons, List.getElem?_cons_zero, List.getElem?_cons_succ, List.length_cons, List.length_nil, List.take_succ_cons, List.take_zero, Nat.mul_one, Nat.zero_add, Nat.add_zero, Nat.one_mul, Nat.zero_mul, List.getElem?_map, List.getElem?_drop, List.getElem?_take, List.length_map, Option.map_some, List.set_cons_zero, List.set_cons_succ, and_true, true_and, List.flatMap_cons, List.flatMap_nil, Bool.not_not]
    refine wpa_st1 rfl rfl hgo1 (by simp [frC]) ?_
    have e1 : (frC G t2).set 10 (.sl (F.row.length + 1) (F.row.flatMap aSt ++ (aSt (F.sg, F.now) ++ [])) t1) = frC { G with ahead := F.row ++ [(F.sg, F.now)] } { t2 with a := t1 } := by
      have e2 : F.row.flatMap aSt ++ (aSt (F.sg, F.now) ++ []) = (F.row ++ [(F.sg, F.now)]).flatMap aSt := by simp
      rw [e2]
      simp [frC]
    rw [e1]
    simp (maxSteps := 1000000) (implicitDefEqProofs := false) (disch := omega) only [push_cast, ↓reduceIte, Nat.reduceEqDiff, reduceCtorEq, decide_true, decide_false, Bool.not_true, Bool.not_false, Option.isNone_some, Option.isNone_none, List.drop_zero, List.drop_succ_cons, List.getElem?_cons_zero, List.getElem?_cons_succ, List.length_cons, List.length_nil, List.take_succ_cons, List.take_zero, Nat.mul_one, Nat.zero_add, Nat.add_zero, Nat.one_mul, Nat.zero_mul, List.getElem?_map, List.getElem?_drop, List.getElem?_take, List.length_map, Option.map_some, List.set_cons_zero, List.set_cons_succ, and_true, true_and, List.flatMap_cons, List.flatMap_nil, Bool.not_not]
    refine hN _ _ ?_
    simp (maxSteps := 1000000) (implicitDefEqProofs := false) (disch := omega) only [push_cast, ↓reduceIte, Nat.reduceEqDiff, reduceCtorEq, decide_true, decide_false, Bool.not_true, Bool.not_false, Option.isNone_some, Option.isNone_none, List.drop_zero, List.drop_succ_cons, List.getElem?_cons_zero, List.getElem?_cons_succ, List.length_cons, List.length_nil, List.take_succ_cons, List.take_zero, Nat.mul_one, Nat.zero_add, Nat.add_zero, Nat.one_mul, Nat.zero_mul, List.getElem?_map, List.getElem?_drop, List.getElem?_take, List.length_map, Option.map_some, List.set_cons_zero, List.set_cons_succ, and_true, true_and, List.flatMap_cons, List.flatMap_nil, Bool.not_not, hρ]
    exact ⟨lab3, get_set_ne hne hfo1, hfi1.trans hf.li, H2⟩
  clear hf H hρ hfo hg hgo t2 ε
  rintro ε σ2 ⟨hρ, lab2, hfo, hfi, H⟩
  obtain ⟨⟨t2, hg⟩, _⟩ := H.fr
  have hgo := hg.obj
  simp (maxSteps := 1000000) (implicitDefEqProofs := false) (disch := omega) only [push_cast, ↓reduceIte, Nat.reduceEqDiff, reduceCtorEq, decide_true, decide_false, Bool.not_true, Bool.not_false, Option.isNone_some, Option.isNone_none, List.drop_zero, List.drop_succ_cons, List.getElem?_cons_zero, List.getElem?_cons_succ, List.length_cons, List.length_nil, List.take_succ_cons, List.take_zero, Nat.mul_one, Nat.zero_add, Nat.add_zero, Nat.one_mul, Nat.zero_mul, List.getElem?_map, List.getElem?_drop, List.getElem?_take, List.length_map, Option.map_some, List.set_cons_zero, List.set_cons_succ, and_true, true_and, List.flatMap_cons, List.flatMap_nil, Bool.not_not, hρ, hgo, frC_11, hfo, frC_2]
  refine wpa_bsl (sz := 1) (by intro a ha; simp at ha; subst ha; rfl) (by simp) ?_
  simp (maxSteps := 1000000) (implicitDefEqProofs := false) (disch := omega) only [push_cast, ↓reduceIte, Nat.reduceEqDiff, reduceCtorEq, decide_true, decide_false, Bool.not_true, Bool.not_false, Option.isNone_some, Option.isNone_none, List.drop_zero, List.drop_succ_cons, List.getElem?_cons_zero, List.getElem?_cons_succ, List.length_cons, List.length_nil, List.take_succ_cons, List.take_zero, Nat.mul_one, Nat.zero_add, Nat.add_zero, Nat.one_mul, Nat.zero_mul, List.getElem?_map, List.getElem?_drop, List.getElem?_take, List.length_map, Option.map_some, List.set_cons_zero, List.set_cons_succ, and_true, true_and, List.flatMap_cons, List.flatMap_nil, Bool.not_not]
  refine ⟨aholds_lde (by simp (maxSteps := 1000000) (implicitDefEqProofs := false) (disch := omega) only [push_cast, ↓reduceIte, Nat.reduceEqDiff, reduceCtorEq, decide_true, decide_false, Bool.not_true, Bool.not_false, Option.isNone_some, Option.isNone_none, List.drop_zero, List.drop_succ_cons, List.getElem?_cons_zero, List.getElem?_cons_succ, List.length_cons, List.length_nil, List.take_succ_cons, List.take_zero, Nat.mul_one, Nat.zero_add, Nat.add_zero, Nat.one_mul, Nat.zero_mul, List.getElem?_map, List.getElem?_drop, List.getElem?_take, List.length_map, Option.map_some, List.set_cons_zero, List.set_cons_succ, and_true, true_and, List.flatMap_cons, List.flatMap_nil, Bool.not_not, hgo, frC_11, hg.s.exact]), ?_⟩
  refine wpa_app_t (m := 1) rfl hg.s rfl rfl rfl (by simp) (by omega) (by omega) ?_
  intro σ3 lab3 t1 k1 ht1
  have hgo1 := (k1.get hgo (by rw [hg.li]; simp)).1
  obtain ⟨n1, n2⟩ := hg.ts (F' := { G with ahead := F.row ++ [(F.sg, F.now)], lasts := G.lasts ++ [F.now] }) k1 (by simpa using ht1) rfl rfl rfl
  have H2 := H.setTop rfl n1 n2
  simp (maxSteps := 1000000) (implicitDefEqProofs := false) (disch := omega) only [push_cast, ↓reduceIte, Nat.reduceEqDiff, reduceCtorEq, decide_true, decide_false, Bool.not_true, Bool.not_false, Option.isNone_some, Option.isNone_none, List.drop_zero, List.drop_succ_cons, List.getElem?_cons_zero, List.getElem?_cons_succ, List.length_cons, List.length_nil, List.take_succ_cons, List.take_zero, Nat.mul_one, Nat.zero_add, Nat.add_zero, Nat.one_mul, Nat.zero_mul, List.getElem?_map, List.getElem?_drop, List.getElem?_take, List.length_map, Option.map_some, List.set_cons_zero, List.set_cons_succ, and_true, true_and, List.flatMap_cons, List.flatMap_nil, Bool.not_not]
  refine wpa_st1 rfl rfl hgo1 (by simp [frC]) ?_
  have e1 : (frC { G with ahead := F.row ++ [(F.sg, F.now)] } t2).set 11 (.sl (G.lasts.length + 1) (G.lasts.map aInt ++ [.v (.int .i64 F.now)]) t1) = frC { G with ahead := F.row ++ [(F.sg, F.now)], lasts := G.lasts ++ [F.now] } { t2 with s := t1 } := by
    simp [frC, aInt]
  rw [e1]
  simp (maxSteps := 1000000) (implicitDefEqProofs := false) (disch := omega) only [push_cast, ↓reduceIte, Nat.reduceEqDiff, reduceCtorEq, decide_true, decide_false, Bool.not_true, Bool.not_false, Option.isNone_some, Option.isNone_none, List.drop_zero, List.drop_succ_cons, List.getElem?_cons_zero, List.getElem?_cons_succ, List.length_cons, List.length_nil, List.take_succ_cons, List.take_zero, Nat.mul_one, Nat.zero_add, Nat.add_zero, Nat.one_mul, Nat.zero_mul, List.getElem?_map, List.getElem?_drop, List.getElem?_take, List.length_map, Option.map_some, List.set_cons_zero, List.set_cons_succ, and_true, true_and, List.flatMap_cons, List.flatMap_nil, Bool.not_not]
  exact ⟨lab3, H2⟩
def accOf (F : Fr) (m : Mk) : Ac := ⟨F.now, if m.k = 3 then -1 else m.a, decide (m.k ≠ 1)⟩
theorem BR.setBd {σ σ' : St} {lab lab' : Nat → Role} {ib il vl : Nat} {B B' : Bd} {is : List Nat} {t : Tb} (H : BR σ lab ib il vl B is) (h : BdAt σ' lab' ib B' t (.ms il vl 0 is.length 1)) (hf : B'.fs = B.fs) (k : Stp isB σ lab σ' lab') : BR σ' lab' ib il vl B' is :=
  ⟨⟨t, h⟩, H.ls.stp k (by simp [isB]), by rw [hf]; exact isB_frs H.fr k, H.kp.stp k (by simp [isB])⟩
set_option maxHeartbeats 2000000 in
theorem access_a {σ : St} {lab : Nat → Role} {ib il vl i : Nat} {B : Bd} {is : List Nat} {F : Fr} {fs : List Fr} (H : BR σ lab ib il vl B (i :: is)) (hB : B.fs = F :: fs) (hb : Bnd B) (m : Mk) :
    FnG Try.prog 120 [.ref ib 0 0, .ref i 0 0, .agg (aMk m)] σ fun _ σ' => ∃ lab', BR σ' lab' ib il vl { B with accs := B.accs ++ [accOf F m] } (i :: is) := by
  refine fnG_in K_strand_builder_access mixed rfl ?_
  simp only [S_strand_builder_access]
  have hba := hb.a
  have h3 := H.fr
  rw [hB] at h3
  obtain ⟨⟨t, hf⟩, _⟩ := h3
  have hfo := hf.obj
  clear hf
  refine wpa_seqx (fun ε σ' => ∃ bx, (ε 0 = .ref ib 0 0 ∧ ε 1 = .ref i 0 0 ∧ ε 5 = .ref bx 0 0) ∧ ∃ lab', σ'[bx]? = some (.obj 0 (aMk m)) ∧ lab' bx = (0, 0) ∧ σ'[i]? = some (.obj 0 (frC F t)) ∧ BR σ' lab' ib il vl B (i :: is)) ?_ ?_
  · intro N X R hN
    simp (maxSteps := 1000000) (implicitDefEqProofs := false) (disch := omega) only [push_cast, ↓reduceIte, Nat.reduceEqDiff, reduceCtorEq, decide_true, decide_false, Bool.not_true, Bool.not_false, Option.isNone_some, Option.isNone_none, List.drop_zero, List.drop_succ_cons, List.getElem?_cons_zero, List.getElem?_cons_succ, List.length_cons, List.length_nil, List.take_succ_cons, List.take_zero, Nat.mul_one, Nat.zero_add, Nat.add_zero, Nat.one_mul, Nat.zero_mul, List.getElem?_map, List.getElem?_drop, List.getElem?_take, List.length_map, Option.map_some, List.set_cons_zero, List.set_cons_succ, and_true, true_and, List.flatMap_cons, List.flatMap_nil, Bool.not_not]
    refine wpa_box ?_
    have hac : (AV.agg (aMk m)).cells = aMk m := rfl
    have H0 := H.stp (stp_new (S := fun r => r = (0, 0)) (x := .obj 0 (aMk m)) (0, 0)) fun _ h => h
    rw [hac]
    simp (maxSteps := 1000000) (implicitDefEqProofs := false) (disch := omega) only [push_cast, ↓reduceIte, Nat.reduceEqDiff, reduceCtorEq, decide_true, decide_false, Bool.not_true, Bool.not_false, Option.isNone_some, Option.isNone_none, List.drop_zero, List.drop_succ_cons, List.getElem?_cons_zero, List.getElem?_cons_succ, List.length_cons, List.length_nil, List.take_succ_cons, List.take_zero, Nat.mul_one, Nat.zero_add, Nat.add_zero, Nat.one_mul, Nat.zero_mul, List.getElem?_map, List.getElem?_drop, List.getElem?_take, List.length_map, Option.map_some, List.set_cons_zero, List.set_cons_succ, and_true, true_and, List.flatMap_cons, List.flatMap_nil, Bool.not_not]
    refine hN _ _ ⟨σ.length, ?_, _, at_snoc _ _, labN_self _ _ _, get_app hfo, H0⟩
    simp (maxSteps := 1000000) (implicitDefEqProofs := false) (disch := omega) only [push_cast, ↓reduceIte, Nat.reduceEqDiff, reduceCtorEq, decide_true, decide_false, Bool.not_true, Bool.not_false, Option.isNone_some, Option.isNone_none, List.drop_zero, List.drop_succ_cons, List.getElem?_cons_zero, List.getElem?_cons_succ, List.length_cons, List.length_nil, List.take_succ_cons, List.take_zero, Nat.mul_one, Nat.zero_add, Nat.add_zero, Nat.one_mul, Nat.zero_mul, List.getElem?_map, List.getElem?_drop, List.getElem?_take, List.length_map, Option.map_some, List.set_cons_zero, List.set_cons_succ, and_true, true_and, List.flatMap_cons, List.flatMap_nil, Bool.not_not]
  clear H hfo
  rintro ε σ0 ⟨bx, hρ, lab0, hbx, hlx, hfo, H⟩
  have hcl : ∀ n, cellsA (some 3) (aAc n) = some (.agg (aAc n)) := fun _ => rfl
  refine wpa_seqx (fun ε σ' => ∃ ax, (ε 0 = .ref ib 0 0 ∧ ε 5 = .ref bx 0 0 ∧ ε 6 = .ref ax 0 0) ∧ ∃ lab', σ'[bx]? = some (.obj 0 (aMk m)) ∧ σ'[ax]? = some (.obj 0 (aAc ⟨F.now, m.a, decide (m.k ≠ 1)⟩)) ∧ lab' ax = (0, 0) ∧ BR σ' lab' ib il vl B (i :: is)) ?_ ?_
  · intro N X R hN
    have bld3 : ∀ (a b : Int) (c : Bool), fillA [AV.v (.int .i64 0), AV.v (.int .i64 0), AV.v (.bool false)] [(0, 1), (1, 1), (2, 1)] [AV.v (.int .i64 a), AV.v (.int .i64 b), AV.v (.bool c)] = some (aAc ⟨a, b, c⟩) := fun a b c => by simp [fillA, AV.cells, Value.cells, setAtA, aAc]
    have hex : ∀ n : Int, (AV.v (.int .i64 n)).exact = true := fun _ => rfl
    have hz : (List.map abs1 [Value.int .i64 0, Value.int .i64 0, Value.bool false]) = aAc ⟨0, 0, false⟩ := rfl
    have hfo1 : ∀ x, (σ0 ++ [x])[i]? = some (.obj 0 (frC F t)) := fun x => get_app hfo
    have hbx1 : ∀ x, (σ0 ++ [x])[bx]? = some (.obj 0 (aMk m)) := fun x => get_app hbx
    have hset : ∀ a, setAtA (aAc ⟨0, 0, false⟩) 0 (aAc a) = aAc a := fun _ => rfl
    by_cases hk : m.k = 1
    · have hk' : decide (m.k ≠ 1) = false := by simp [hk]
      rw [hk'] at hN
      simp (maxSteps := 1000000) (implicitDefEqProofs := false) (disch := omega) only [push_cast, ↓reduceIte, Nat.reduceEqDiff, reduceCtorEq, decide_true, decide_false, Bool.not_true, Bool.not_false, Option.isNone_some, Option.isNone_none, List.drop_zero, List.drop_succ_cons, List.getElem?_cons_zero, List.getElem?_cons_succ, List.length_cons, List.length_nil, List.take_succ_cons, List.take_zero, Nat.mul_one, Nat.zero_add, Nat.add_zero, Nat.one_mul, Nat.zero_mul, List.getElem?_map, List.getElem?_drop, List.getElem?_take, List.length_map, Option.map_some, List.set_cons_zero, List.set_cons_succ, and_true, true_and, List.flatMap_cons, List.flatMap_nil, Bool.not_not, hρ, hfo, frC_2, hbx, aMk_0, aMk_1, hk, bld3]
      refine wpa_new ?_
      rw [hz]
      simp (maxSteps := 1000000) (implicitDefEqProofs := false) (disch := omega) only [push_cast, ↓reduceIte, Nat.reduceEqDiff, reduceCtorEq, decide_true, decide_false, Bool.not_true, Bool.not_false, Option.isNone_some, Option.isNone_none, List.drop_zero, List.drop_succ_cons, List.getElem?_cons_zero, List.getElem?_cons_succ, List.length_cons, List.length_nil, List.take_succ_cons, List.take_zero, Nat.mul_one, Nat.zero_add, Nat.add_zero, Nat.one_mul, Nat.zero_mul, List.getElem?_map, List.getElem?_drop, List.getElem?_take, List.length_map, Option.map_some, List.set_cons_zero, List.set_cons_succ, and_true, true_and, List.flatMap_cons, List.flatMap_nil, Bool.not_not]
      refine ⟨aholds_lde (by simp (maxSteps := 1000000) (implicitDefEqProofs := false) (disch := omega) only [push_cast, ↓reduceIte, Nat.reduceEqDiff, reduceCtorEq, decide_true, decide_false, Bool.not_true, Bool.not_false, Option.isNone_some, Option.isNone_none, List.drop_zero, List.drop_succ_cons, List.getElem?_cons_zero, List.getElem?_cons_succ, List.length_cons, List.length_nil, List.take_succ_cons, List.take_zero, Nat.mul_one, Nat.zero_add, Nat.add_zero, Nat.one_mul, Nat.zero_mul, List.getElem?_map, List.getElem?_drop, List.getElem?_take, List.length_map, Option.map_some, List.set_cons_zero, List.set_cons_succ, and_true, true_and, List.flatMap_cons, List.flatMap_nil, Bool.not_not, hbx1, aMk_0, hex, hk]), aholds_lde (by simp (maxSteps := 1000000) (implicitDefEqProofs := false) (disch := omega) only [push_cast, ↓reduceIte, Nat.reduceEqDiff, reduceCtorEq, decide_true, decide_false, Bool.not_true, Bool.not_false, Option.isNone_some, Option.isNone_none, List.drop_zero, List.drop_succ_cons, List.getElem?_cons_zero, List.getElem?_cons_succ, List.length_cons, List.length_nil, List.take_succ_cons, List.take_zero, Nat.mul_one, Nat.zero_add, Nat.add_zero, Nat.one_mul, Nat.zero_mul, List.getElem?_map, List.getElem?_drop, List.getElem?_take, List.length_map, Option.map_some, List.set_cons_zero, List.set_cons_succ, and_true, true_and, List.flatMap_cons, List.flatMap_nil, Bool.not_not, hbx1, aMk_1, hex]), aholds_lde (by simp (maxSteps := 1000000) (implicitDefEqProofs := false) (disch := omega) only [push_cast, ↓reduceIte, Nat.reduceEqDiff, reduceCtorEq, decide_true, decide_false, Bool.not_true, Bool.not_false, Option.isNone_some, Option.isNone_none, List.drop_zero, List.drop_succ_cons, List.getElem?_cons_zero, List.getElem?_cons_succ, List.length_cons, List.length_nil, List.take_succ_cons, List.take_zero, Nat.mul_one, Nat.zero_add, Nat.add_zero, Nat.one_mul, Nat.zero_mul, List.getElem?_map, List.getElem?_drop, List.getElem?_take, List.length_map, Option.map_some, List.set_cons_zero, List.set_cons_succ, and_true, true_and, List.flatMap_cons, List.flatMap_nil, Bool.not_not, hfo1, frC_2, hex]), ?_⟩
      refine wpa_stn (aAc_len _) (aAc_one _) (at_snoc _ _) (by simp [aAc_len]) ?_
      have H1 := H.stp (stp_new (S := fun r => r = (0, 0)) (x := .obj 0 (aAc ⟨F.now, m.a, false⟩)) (0, 0)) fun _ h => h
      simp (maxSteps := 1000000) (implicitDefEqProofs := false) (disch := omega) only [push_cast, ↓reduceIte, Nat.reduceEqDiff, reduceCtorEq, decide_true, decide_false, Bool.not_true, Bool.not_false, Option.isNone_some, Option.isNone_none, List.drop_zero, List.drop_succ_cons, List.getElem?_cons_zero, List.getElem?_cons_succ, List.length_cons, List.length_nil, List.take_succ_cons, List.take_zero, Nat.mul_one, Nat.zero_add, Nat.add_zero, Nat.one_mul, Nat.zero_mul, List.getElem?_map, List.getElem?_drop, List.getElem?_take, List.length_map, Option.map_some, List.set_cons_zero, List.set_cons_succ, and_true, true_and, List.flatMap_cons, List.flatMap_nil, Bool.not_not, hset]
      refine hN _ _ ⟨σ0.length, ?_, _, hbx1 _, at_snoc _ _, labN_self _ _ _, H1⟩
      simp (maxSteps := 1000000) (implicitDefEqProofs := false) (disch := omega) only [push_cast, ↓reduceIte, Nat.reduceEqDiff, reduceCtorEq, decide_true, decide_false, Bool.not_true, Bool.not_false, Option.isNone_some, Option.isNone_none, List.drop_zero, List.drop_succ_cons, List.getElem?_cons_zero, List.getElem?_cons_succ, List.length_cons, List.length_nil, List.take_succ_cons, List.take_zero, Nat.mul_one, Nat.zero_add, Nat.add_zero, Nat.one_mul, Nat.zero_mul, List.getElem?_map, List.getElem?_drop, List.getElem?_take, List.length_map, Option.map_some, List.set_cons_zero, List.set_cons_succ, and_true, true_and, List.flatMap_cons, List.flatMap_nil, Bool.not_not, hρ]
    · have hk' : decide (m.k ≠ 1) = true := by simp [hk]
      rw [hk'] at hN
      simp (maxSteps := 1000000) (implicitDefEqProofs := false) (disch := omega) only [push_cast, ↓reduceIte, Nat.reduceEqDiff, reduceCtorEq, decide_true, decide_false, Bool.not_true, Bool.not_false, Option.isNone_some, Option.isNone_none, List.drop_zero, List.drop_succ_cons, List.getElem?_cons_zero, List.getElem?_cons_succ, List.length_cons, List.length_nil, List.take_succ_cons, List.take_zero, Nat.mul_one, Nat.zero_add, Nat.add_zero, Nat.one_mul, Nat.zero_mul, List.getElem?_map, List.getElem?_drop, List.getElem?_take, List.length_map, Option.map_some, List.set_cons_zero, List.set_cons_succ, and_true, true_and, List.flatMap_cons, List.flatMap_nil, Bool.not_not, hρ, hfo, frC_2, hbx, aMk_0, aMk_1, hk, bld3]
      refine wpa_new ?_
      rw [hz]
      simp (maxSteps := 1000000) (implicitDefEqProofs := false) (disch := omega) only [push_cast, ↓reduceIte, Nat.reduceEqDiff, reduceCtorEq, decide_true, decide_false, Bool.not_true, Bool.not_false, Option.isNone_some, Option.isNone_none, List.drop_zero, List.drop_succ_cons, List.getElem?_cons_zero, List.getElem?_cons_succ, List.length_cons, List.length_nil, List.take_succ_cons, List.take_zero, Nat.mul_one, Nat.zero_add, Nat.add_zero, Nat.one_mul, Nat.zero_mul, List.getElem?_map, List.getElem?_drop, List.getElem?_take, List.length_map, Option.map_some, List.set_cons_zero, List.set_cons_succ, and_true, true_and, List.flatMap_cons, List.flatMap_nil, Bool.not_not]
      refine ⟨aholds_lde (by simp (maxSteps := 1000000) (implicitDefEqProofs := false) (disch := omega) only [push_cast, ↓reduceIte, Nat.reduceEqDiff, reduceCtorEq, decide_true, decide_false, Bool.not_true, Bool.not_false, Option.isNone_some, Option.isNone_none, List.drop_zero, List.drop_succ_cons, List.getElem?_cons_zero, List.getElem?_cons_succ, List.length_cons, List.length_nil, List.take_succ_cons, List.take_zero, Nat.mul_one, Nat.zero_add, Nat.add_zero, Nat.one_mul, Nat.zero_mul, List.getElem?_map, List.getElem?_drop, List.getElem?_take, List.length_map, Option.map_some, List.set_cons_zero, List.set_cons_succ, and_true, true_and, List.flatMap_cons, List.flatMap_nil, Bool.not_not, hbx1, aMk_0, hex]), aholds_lde (by simp (maxSteps := 1000000) (implicitDefEqProofs := false) (disch := omega) only [push_cast, ↓reduceIte, Nat.reduceEqDiff, reduceCtorEq, decide_true, decide_false, Bool.not_true, Bool.not_false, Option.isNone_some, Option.isNone_none, List.drop_zero, List.drop_succ_cons, List.getElem?_cons_zero, List.getElem?_cons_succ, List.length_cons, List.length_nil, List.take_succ_cons, List.take_zero, Nat.mul_one, Nat.zero_add, Nat.add_zero, Nat.one_mul, Nat.zero_mul, List.getElem?_map, List.getElem?_drop, List.getElem?_take, List.length_map, Option.map_some, List.set_cons_zero, List.set_cons_succ, and_true, true_and, List.flatMap_cons, List.flatMap_nil, Bool.not_not, hbx1, aMk_1, hex]), aholds_lde (by simp (maxSteps := 1000000) (implicitDefEqProofs := false) (disch := omega) only [push_cast, ↓reduceIte, Nat.reduceEqDiff, reduceCtorEq, decide_true, decide_false, Bool.not_true, Bool.not_false, Option.isNone_some, Option.isNone_none, List.drop_zero, List.drop_succ_cons, List.getElem?_cons_zero, List.getElem?_cons_succ, List.length_cons, List.length_nil, List.take_succ_cons, List.take_zero, Nat.mul_one, Nat.zero_add, Nat.add_zero, Nat.one_mul, Nat.zero_mul, List.getElem?_map, List.getElem?_drop, List.getElem?_take, List.length_map, Option.map_some, List.set_cons_zero, List.set_cons_succ, and_true, true_and, List.flatMap_cons, List.flatMap_nil, Bool.not_not, hfo1, frC_2, hex]), ?_⟩
      refine wpa_stn (aAc_len _) (aAc_one _) (at_snoc _ _) (by simp [aAc_len]) ?_
      have H1 := H.stp (stp_new (S := fun r => r = (0, 0)) (x := .obj 0 (aAc ⟨F.now, m.a, true⟩)) (0, 0)) fun _ h => h
      simp (maxSteps := 1000000) (implicitDefEqProofs := false) (disch := omega) only [push_cast, ↓reduceIte, Nat.reduceEqDiff, reduceCtorEq, decide_true, decide_false, Bool.not_true, Bool.not_false, Option.isNone_some, Option.isNone_none, List.drop_zero, List.drop_succ_cons, List.getElem?_cons_zero, List.getElem?_cons_succ, List.length_cons, List.length_nil, List.take_succ_cons, List.take_zero, Nat.mul_one, Nat.zero_add, Nat.add_zero, Nat.one_mul, Nat.zero_mul, List.getElem?_map, List.getElem?_drop, List.getElem?_take, List.length_map, Option.map_some, List.set_cons_zero, List.set_cons_succ, and_true, true_and, List.flatMap_cons, List.flatMap_nil, Bool.not_not, hset]
      refine hN _ _ ⟨σ0.length, ?_, _, hbx1 _, at_snoc _ _, labN_self _ _ _, H1⟩
      simp (maxSteps := 1000000) (implicitDefEqProofs := false) (disch := omega) only [push_cast, ↓reduceIte, Nat.reduceEqDiff, reduceCtorEq, decide_true, decide_false, Bool.not_true, Bool.not_false, Option.isNone_some, Option.isNone_none, List.drop_zero, List.drop_succ_cons, List.getElem?_cons_zero, List.getElem?_cons_succ, List.length_cons, List.length_nil, List.take_succ_cons, List.take_zero, Nat.mul_one, Nat.zero_add, Nat.add_zero, Nat.one_mul, Nat.zero_mul, List.getElem?_map, List.getElem?_drop, List.getElem?_take, List.length_map, Option.map_some, List.set_cons_zero, List.set_cons_succ, and_true, true_and, List.flatMap_cons, List.flatMap_nil, Bool.not_not, hρ]
  clear H hρ hfo hbx ε
  rintro ε σ1 ⟨ax, hρ, lab1, hbx, hax, hlx1, H⟩
  refine wpa_seqx (fun ε σ' => (ε 0 = .ref ib 0 0 ∧ ε 6 = .ref ax 0 0) ∧ ∃ lab', σ'[ax]? = some (.obj 0 (aAc (accOf F m))) ∧ lab' ax = (0, 0) ∧ BR σ' lab' ib il vl B (i :: is)) ?_ ?_
  · intro N X R hN
    by_cases hk : m.k = 3
    · have hao : accOf F m = ⟨F.now, -1, decide (m.k ≠ 1)⟩ := by unfold accOf; rw [if_pos hk]
      simp (maxSteps := 1000000) (implicitDefEqProofs := false) (disch := omega) only [push_cast, ↓reduceIte, Nat.reduceEqDiff, reduceCtorEq, decide_true, decide_false, Bool.not_true, Bool.not_false, Option.isNone_some, Option.isNone_none, List.drop_zero, List.drop_succ_cons, List.getElem?_cons_zero, List.getElem?_cons_succ, List.length_cons, List.length_nil, List.take_succ_cons, List.take_zero, Nat.mul_one, Nat.zero_add, Nat.add_zero, Nat.one_mul, Nat.zero_mul, List.getElem?_map, List.getElem?_drop, List.getElem?_take, List.length_map, Option.map_some, List.set_cons_zero, List.set_cons_succ, and_true, true_and, List.flatMap_cons, List.flatMap_nil, Bool.not_not, hρ, hbx, aMk_0, hk]
      refine wpa_st1 rfl rfl hax (by simp [aAc]) ?_
      have e1 : (aAc ⟨F.now, m.a, decide (m.k ≠ 1)⟩).set 1 (.v (.int .i64 (-1))) = aAc (accOf F m) := by rw [hao]; rfl
      rw [e1]
      have k := stp_set (σ := σ1) (lab := lab1) (x := .obj 0 (aAc (accOf F m))) hlx1
      simp (maxSteps := 1000000) (implicitDefEqProofs := false) (disch := omega) only [push_cast, ↓reduceIte, Nat.reduceEqDiff, reduceCtorEq, decide_true, decide_false, Bool.not_true, Bool.not_false, Option.isNone_some, Option.isNone_none, List.drop_zero, List.drop_succ_cons, List.getElem?_cons_zero, List.getElem?_cons_succ, List.length_cons, List.length_nil, List.take_succ_cons, List.take_zero, Nat.mul_one, Nat.zero_add, Nat.add_zero, Nat.one_mul, Nat.zero_mul, List.getElem?_map, List.getElem?_drop, List.getElem?_take, List.length_map, Option.map_some, List.set_cons_zero, List.set_cons_succ, and_true, true_and, List.flatMap_cons, List.flatMap_nil, Bool.not_not]
      refine hN _ _ ?_
      simp (maxSteps := 1000000) (implicitDefEqProofs := false) (disch := omega) only [push_cast, ↓reduceIte, Nat.reduceEqDiff, reduceCtorEq, decide_true, decide_false, Bool.not_true, Bool.not_false, Option.isNone_some, Option.isNone_none, List.drop_zero, List.drop_succ_cons, List.getElem?_cons_zero, List.getElem?_cons_succ, List.length_cons, List.length_nil, List.take_succ_cons, List.take_zero, Nat.mul_one, Nat.zero_add, Nat.add_zero, Nat.one_mul, Nat.zero_mul, List.getElem?_map, List.getElem?_drop, List.getElem?_take, List.length_map, Option.map_some, List.set_cons_zero, List.set_cons_succ, and_true, true_and, List.flatMap_cons, List.flatMap_nil, Bool.not_not, hρ]
      exact ⟨lab1, get_set_eq hax, hlx1, H.stp k fun r e => e⟩
    · have hao : accOf F m = ⟨F.now, m.a, decide (m.k ≠ 1)⟩ := by unfold accOf; rw [if_neg hk]
      simp (maxSteps := 1000000) (implicitDefEqProofs := false) (disch := omega) only [push_cast, ↓reduceIte, Nat.reduceEqDiff, reduceCtorEq, decide_true, decide_false, Bool.not_true, Bool.not_false, Option.isNone_some, Option.isNone_none, List.drop_zero, List.drop_succ_cons, List.getElem?_cons_zero, List.getElem?_cons_succ, List.length_cons, List.length_nil, List.take_succ_cons, List.take_zero, Nat.mul_one, Nat.zero_add, Nat.add_zero, Nat.one_mul, Nat.zero_mul, List.getElem?_map, List.getElem?_drop, List.getElem?_take, List.length_map, Option.map_some, List.set_cons_zero, List.set_cons_succ, and_true, true_and, List.flatMap_cons, List.flatMap_nil, Bool.not_not, hρ, hbx, aMk_0, hk]
      refine hN _ _ ?_
      simp (maxSteps := 1000000) (implicitDefEqProofs := false) (disch := omega) only [push_cast, ↓reduceIte, Nat.reduceEqDiff, reduceCtorEq, decide_true, decide_false, Bool.not_true, Bool.not_false, Option.isNone_some, Option.isNone_none, List.drop_zero, List.drop_succ_cons, List.getElem?_cons_zero, List.getElem?_cons_succ, List.length_cons, List.length_nil, List.take_succ_cons, List.take_zero, Nat.mul_one, Nat.zero_add, Nat.add_zero, Nat.one_mul, Nat.zero_mul, List.getElem?_map, List.getElem?_drop, List.getElem?_take, List.length_map, Option.map_some, List.set_cons_zero, List.set_cons_succ, and_true, true_and, List.flatMap_cons, List.flatMap_nil, Bool.not_not, hρ]
      exact ⟨lab1, by rw [hao]; exact hax, hlx1, H⟩
  clear H hρ hbx hax ε
  rintro ε σ2 ⟨hρ, lab2, hax, hlx2, H⟩
  obtain ⟨tb, hd⟩ := H.bd
  have hdo := hd.obj
  simp (maxSteps := 1000000) (implicitDefEqProofs := false) (disch := omega) only [push_cast, ↓reduceIte, Nat.reduceEqDiff, reduceCtorEq, decide_true, decide_false, Bool.not_true, Bool.not_false, Option.isNone_some, Option.isNone_none, List.drop_zero, List.drop_succ_cons, List.getElem?_cons_zero, List.getElem?_cons_succ, List.length_cons, List.length_nil, List.take_succ_cons, List.take_zero, Nat.mul_one, Nat.zero_add, Nat.add_zero, Nat.one_mul, Nat.zero_mul, List.getElem?_map, List.getElem?_drop, List.getElem?_take, List.length_map, Option.map_some, List.set_cons_zero, List.set_cons_succ, and_true, true_and, List.flatMap_cons, List.flatMap_nil, Bool.not_not, hρ, hdo, bdC_2, hax, hcl]
  refine wpa_bsl (sz := 3) (by intro a ha; simp at ha; subst ha; rfl) (by simp) ?_
  have hac2 : ∀ p, (AV.agg (aAc p)).cells = aAc p := fun _ => rfl
  simp (maxSteps := 1000000) (implicitDefEqProofs := false) (disch := omega) only [push_cast, ↓reduceIte, Nat.reduceEqDiff, reduceCtorEq, decide_true, decide_false, Bool.not_true, Bool.not_false, Option.isNone_some, Option.isNone_none, List.drop_zero, List.drop_succ_cons, List.getElem?_cons_zero, List.getElem?_cons_succ, List.length_cons, List.length_nil, List.take_succ_cons, List.take_zero, Nat.mul_one, Nat.zero_add, Nat.add_zero, Nat.one_mul, Nat.zero_mul, List.getElem?_map, List.getElem?_drop, List.getElem?_take, List.length_map, Option.map_some, List.set_cons_zero, List.set_cons_succ, and_true, true_and, List.flatMap_cons, List.flatMap_nil, Bool.not_not, hac2]
  refine ⟨aholds_lde (by simp (maxSteps := 1000000) (implicitDefEqProofs := false) (disch := omega) only [push_cast, ↓reduceIte, Nat.reduceEqDiff, reduceCtorEq, decide_true, decide_false, Bool.not_true, Bool.not_false, Option.isNone_some, Option.isNone_none, List.drop_zero, List.drop_succ_cons, List.getElem?_cons_zero, List.getElem?_cons_succ, List.length_cons, List.length_nil, List.take_succ_cons, List.take_zero, Nat.mul_one, Nat.zero_add, Nat.add_zero, Nat.one_mul, Nat.zero_mul, List.getElem?_map, List.getElem?_drop, List.getElem?_take, List.length_map, Option.map_some, List.set_cons_zero, List.set_cons_succ, and_true, true_and, List.flatMap_cons, List.flatMap_nil, Bool.not_not, hdo, bdC_2, hd.a.exact]), ?_⟩
  refine wpa_app_t (m := 1) rfl hd.a rfl rfl rfl (flat_len aAc_len _) (by omega) (by omega) ?_
  intro σ3 lab3 t3 k3 ht3
  have hdo3 := (k3.get hdo (by rw [hd.li]; simp)).1
  obtain ⟨n1, n2⟩ := hd.accs k3 (accOf F m) ht3
  have H3 := H.setBd n1 rfl n2
  simp (maxSteps := 1000000) (implicitDefEqProofs := false) (disch := omega) only [push_cast, ↓reduceIte, Nat.reduceEqDiff, reduceCtorEq, decide_true, decide_false, Bool.not_true, Bool.not_false, Option.isNone_some, Option.isNone_none, List.drop_zero, List.drop_succ_cons, List.getElem?_cons_zero, List.getElem?_cons_succ, List.length_cons, List.length_nil, List.take_succ_cons, List.take_zero, Nat.mul_one, Nat.zero_add, Nat.add_zero, Nat.one_mul, Nat.zero_mul, List.getElem?_map, List.getElem?_drop, List.getElem?_take, List.length_map, Option.map_some, List.set_cons_zero, List.set_cons_succ, and_true, true_and, List.flatMap_cons, List.flatMap_nil, Bool.not_not]
  refine wpa_st1 rfl rfl hdo3 (by simp [bdC]) ?_
  have hn3 : (i :: is).length = is.length + 1 := rfl
  have e3 : ∀ ms, (bdC B tb ms).set 2 (.sl (B.accs.length + 1) (B.accs.flatMap aAc ++ (aAc (accOf F m) ++ [])) t3) = bdC { B with accs := B.accs ++ [accOf F m] } { tb with a := t3 } ms := by
    intro ms
    have e2 : B.accs.flatMap aAc ++ (aAc (accOf F m) ++ []) = (B.accs ++ [accOf F m]).flatMap aAc := by simp
    rw [e2]
    simp [bdC]
  rw [e3]
  simp (maxSteps := 1000000) (implicitDefEqProofs := false) (disch := omega) only [push_cast, ↓reduceIte, Nat.reduceEqDiff, reduceCtorEq, decide_true, decide_false, Bool.not_true, Bool.not_false, Option.isNone_some, Option.isNone_none, List.drop_zero, List.drop_succ_cons, List.getElem?_cons_zero, List.getElem?_cons_succ, List.length_cons, List.length_nil, List.take_succ_cons, List.take_zero, Nat.mul_one, Nat.zero_add, Nat.add_zero, Nat.one_mul, Nat.zero_mul, List.getElem?_map, List.getElem?_drop, List.getElem?_take, List.length_map, Option.map_some, List.set_cons_zero, List.set_cons_succ, and_true, true_and, List.flatMap_cons, List.flatMap_nil, Bool.not_not]
  exact ⟨lab3, H3⟩
end Go.Proofs.Ytilofhocodbknaa
