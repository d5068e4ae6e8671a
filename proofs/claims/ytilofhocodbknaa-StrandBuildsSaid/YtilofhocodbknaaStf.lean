/- Contracts on annotated values: strand.builder.goOn. -/
import Derived.Test.YtilofhocodbknaaSte
namespace Go.Proofs.Ytilofhocodbknaa
set_option linter.unusedVariables false
set_option linter.unusedSimpArgs false
open Go Go.Kx Go.Proofs

def isF (d : Nat) (r : Role) : Prop := r.2 = d ∧ 6 ≤ r.1
theorem FrAt.put {σ : St} {lab : Nat → Role} {d i : Nat} {F F' : Fr} {t : Tk} (h : FrAt σ lab d i F t) (hl : F'.left = F.left) (hr : F'.row = F.row) (ha : F'.ahead = F.ahead) (hs : F'.lasts = F.lasts) :
    FrAt (σ.set i (.obj 0 (frC F' t))) lab d i F' t ∧ Stp (isF d) σ lab (σ.set i (.obj 0 (frC F' t))) lab := by
  have k2 := stp_set (σ := σ) (x := .obj 0 (frC F' t)) h.li
  exact ⟨⟨get_set_eq h.obj, h.li, by rw [hl]; exact h.l.stp k2 (by simp), by rw [hr]; exact h.r.stp k2 (by simp), by rw [ha]; exact h.a.stp k2 (by simp), by rw [hs]; exact h.s.stp k2 (by simp)⟩, k2.mono fun r e => by subst e; exact ⟨rfl, by simp⟩⟩
theorem FrAt.tl {σ σ1 : St} {lab lab1 : Nat → Role} {d i : Nat} {F F' : Fr} {t : Tk} {t1 : Tok} (h : FrAt σ lab d i F t) (k : Stp (· = (7, d)) σ lab σ1 lab1) (ht : TokOk σ1 lab1 (7, d) t1 F'.left.length 1) (hr : F'.row = F.row) (ha : F'.ahead = F.ahead) (hs : F'.lasts = F.lasts) :
    FrAt (σ1.set i (.obj 0 (frC F' { t with l := t1 }))) lab1 d i F' { t with l := t1 } ∧ Stp (isF d) σ lab (σ1.set i (.obj 0 (frC F' { t with l := t1 }))) lab1 := by
  obtain ⟨a, b⟩ := k.get h.obj (by rw [h.li]; simp)
  have hli := b.trans h.li
  have k2 := stp_set (σ := σ1) (x := .obj 0 (frC F' { t with l := t1 })) hli
  exact ⟨⟨get_set_eq a, hli, ht.stp k2 (by simp), by rw [hr]; exact (h.r.stp k (by simp)).stp k2 (by simp), by rw [ha]; exact (h.a.stp k (by simp)).stp k2 (by simp), by rw [hs]; exact (h.s.stp k (by simp)).stp k2 (by simp)⟩,
    k.trans k2 (fun r e => by subst e; exact ⟨rfl, by simp⟩) fun r e => by subst e; exact ⟨rfl, by simp⟩⟩
theorem FrAt.tr {σ σ1 : St} {lab lab1 : Nat → Role} {d i : Nat} {F F' : Fr} {t : Tk} {t1 : Tok} (h : FrAt σ lab d i F t) (k : Stp (· = (8, d)) σ lab σ1 lab1) (ht : TokOk σ1 lab1 (8, d) t1 F'.row.length 2) (hl : F'.left = F.left) (ha : F'.ahead = F.ahead) (hs : F'.lasts = F.lasts) :
    FrAt (σ1.set i (.obj 0 (frC F' { t with r := t1 }))) lab1 d i F' { t with r := t1 } ∧ Stp (isF d) σ lab (σ1.set i (.obj 0 (frC F' { t with r := t1 }))) lab1 := by
  obtain ⟨a, b⟩ := k.get h.obj (by rw [h.li]; simp)
  have hli := b.trans h.li
  have k2 := stp_set (σ := σ1) (x := .obj 0 (frC F' { t with r := t1 })) hli
  exact ⟨⟨get_set_eq a, hli, by rw [hl]; exact (h.l.stp k (by simp)).stp k2 (by simp), ht.stp k2 (by simp), by rw [ha]; exact (h.a.stp k (by simp)).stp k2 (by simp), by rw [hs]; exact (h.s.stp k (by simp)).stp k2 (by simp)⟩,
    k.trans k2 (fun r e => by subst e; exact ⟨rfl, by simp⟩) fun r e => by subst e; exact ⟨rfl, by simp⟩⟩
theorem FrAt.ta {σ σ1 : St} {lab lab1 : Nat → Role} {d i : Nat} {F F' : Fr} {t : Tk} {t1 : Tok} (h : FrAt σ lab d i F t) (k : Stp (· = (9, d)) σ lab σ1 lab1) (ht : TokOk σ1 lab1 (9, d) t1 F'.ahead.length 2) (hl : F'.left = F.left) (hr : F'.row = F.row) (hs : F'.lasts = F.lasts) :
    FrAt (σ1.set i (.obj 0 (frC F' { t with a := t1 }))) lab1 d i F' { t with a := t1 } ∧ Stp (isF d) σ lab (σ1.set i (.obj 0 (frC F' { t with a := t1 }))) lab1 := by
  obtain ⟨a, b⟩ := k.get h.obj (by rw [h.li]; simp)
  have hli := b.trans h.li
  have k2 := stp_set (σ := σ1) (x := .obj 0 (frC F' { t with a := t1 })) hli
  exact ⟨⟨get_set_eq a, hli, by rw [hl]; exact (h.l.stp k (by simp)).stp k2 (by simp), by rw [hr]; exact (h.r.stp k (by simp)).stp k2 (by simp), ht.stp k2 (by simp), by rw [hs]; exact (h.s.stp k (by simp)).stp k2 (by simp)⟩,
    k.trans k2 (fun r e => by subst e; exact ⟨rfl, by simp⟩) fun r e => by subst e; exact ⟨rfl, by simp⟩⟩
theorem FrAt.ts {σ σ1 : St} {lab lab1 : Nat → Role} {d i : Nat} {F F' : Fr} {t : Tk} {t1 : Tok} (h : FrAt σ lab d i F t) (k : Stp (· = (10, d)) σ lab σ1 lab1) (ht : TokOk σ1 lab1 (10, d) t1 F'.lasts.length 1) (hl : F'.left = F.left) (hr : F'.row = F.row) (ha : F'.ahead = F.ahead) :
    FrAt (σ1.set i (.obj 0 (frC F' { t with s := t1 }))) lab1 d i F' { t with s := t1 } ∧ Stp (isF d) σ lab (σ1.set i (.obj 0 (frC F' { t with s := t1 }))) lab1 := by
  obtain ⟨a, b⟩ := k.get h.obj (by rw [h.li]; simp)
  have hli := b.trans h.li
  have k2 := stp_set (σ := σ1) (x := .obj 0 (frC F' { t with s := t1 })) hli
  exact ⟨⟨get_set_eq a, hli, by rw [hl]; exact (h.l.stp k (by simp)).stp k2 (by simp), by rw [hr]; exact (h.r.stp k (by simp)).stp k2 (by simp), by rw [ha]; exact (h.a.stp k (by simp)).stp k2 (by simp), ht.stp k2 (by simp)⟩,
    k.trans k2 (fun r e => by subst e; exact ⟨rfl, by simp⟩) fun r e => by subst e; exact ⟨rfl, by simp⟩⟩
/-- The frame that runs, as it is now. -/
theorem BR.setTop {σ σ' : St} {lab lab' : Nat → Role} {ib il vl i : Nat} {B : Bd} {is : List Nat} {F F' : Fr} {fs : List Fr} {t : Tk} (H : BR σ lab ib il vl B (i :: is)) (hB : B.fs = F :: fs) (h : FrAt σ' lab' is.length i F' t) (k : Stp (isF is.length) σ lab σ' lab') :
    BR σ' lab' ib il vl { B with fs := F' :: fs } (i :: is) := by
  obtain ⟨⟨tb, h1⟩, h2, h3, h5⟩ := H
  rw [hB] at h3
  have m := h1.stp k (fun q hq e => by have := e.2; simp only at this; omega)
  exact ⟨⟨tb, m.obj, m.li, m.p, m.n, m.a⟩, h2.stp k (fun e => by have := e.2; simp only at this; omega), ⟨⟨t, h⟩, h3.2.stp k fun q d hq hd e => by have := e.1; simp only at this; omega⟩, h5.stp k (fun e => by have := e.2; simp only at this; omega)⟩
structure Bnd (B : Bd) : Prop where
  p : B.preds.length ≤ 1000
  n : B.nodes.length = B.preds.length
  a : B.accs.length ≤ 10000
  f : B.fs.length ≤ 10000
  s : ∀ F ∈ B.fs, F.left.length ≤ 10000 ∧ F.row.length ≤ 10000 ∧ F.ahead.length ≤ 10000 ∧ F.lasts.length ≤ 10000 ∧ F.cnt ≤ 10000
def lastA (l : List (Int × Int)) (s : Int) : Int := l.foldl (fun a e => if e.1 ≤ s then e.2 else a) 0
theorem lastA_snoc (l : List (Int × Int)) (e : Int × Int) (s : Int) : lastA (l ++ [e]) s = if e.1 ≤ s then e.2 else lastA l s := by simp [lastA]
def goPreds (F G : Fr) (m : Mk) : List Int := if m.k = 11 ∧ 0 < F.it then [F.now, lastA G.ahead m.a] else [F.now]
def goFr (F : Fr) (m : Mk) : Fr := { F with row := F.row ++ [(F.sg, F.now)], sg := m.a }
def goOnB (B : Bd) (F G : Fr) (fs : List Fr) (m : Mk) : Bd :=
  let r := ({ B with fs := goFr F m :: G :: fs } : Bd).begin (F.lp, F.it, m.a) (goPreds F G m)
  { r.2 with fs := { goFr F m with now := r.1 } :: G :: fs }
theorem weak3 (σ : St) (a b : AV) (xs : List Int) (t : Tok) : weak σ [false, false, true] [a, b, .sl xs.length (xs.map aInt) t] = [a, b, aInts xs] := by
  simp only [weak, if_true]
  rw [aSl_res (aInt_res σ) xs t]; rfl
def aSt2 (l : List (Int × Int)) : List AV := l.flatMap aSt
set_option maxHeartbeats 2000000 in
theorem goOn_a {σ : St} {lab : Nat → Role} {ib il vl i j : Nat} {B : Bd} {is : List Nat} {F G : Fr} {fs : List Fr} (H : BR σ lab ib il vl B (i :: j :: is)) (hB : B.fs = F :: G :: fs) (hb : Bnd B) (m : Mk) :
    FnG Try.prog 118 [.ref ib 0 0, .ref i 0 0, .agg (aMk m)] σ fun _ σ' => ∃ lab', BR σ' lab' ib il vl (goOnB B F G fs m) (i :: j :: is) := by
  refine fnG_in K_strand_builder_goOn mixed rfl ?_
  simp only [S_strand_builder_goOn]
  obtain ⟨hF1, hF2, _, _, _⟩ := hb.s F (by rw [hB]; simp)
  obtain ⟨_, _, hG3, _, _⟩ := hb.s G (by rw [hB]; simp)
  have hfl := hb.f
  have hisl := H.fr.len
  rw [hB] at hfl hisl
  simp only [List.length_cons] at hfl hisl
  refine wpa_seqx (fun ε σ' => ∃ bx, (ε 0 = .ref ib 0 0 ∧ ε 1 = .ref i 0 0 ∧ ε 5 = .ref bx 0 0) ∧ ∃ lab', σ'[bx]? = some (.obj 0 (aMk m)) ∧ lab' bx = (0, 0) ∧ BR σ' lab' ib il vl B (i :: j :: is)) ?_ ?_
  · intro N X R hN
    simp (maxSteps := 1000000) (implicitDefEqProofs := false) (disch := omega) only [push_cast, ↓reduceIte, Nat.reduceEqDiff, reduceCtorEq, decide_true, decide_false, Bool.not_true, Bool.not_false, Option.isNone_some, Option.isNone_none, List.drop_zero, List.drop_succ_cons, List.getElem?_cons_zero, List.getElem?_cons_succ, List.length_cons, List.length_nil, List.take_succ_cons, List.take_zero, Nat.mul_one, Nat.zero_add, Nat.add_zero, Nat.one_mul, Nat.zero_mul, List.getElem?_map, List.getElem?_drop, List.getElem?_take, List.length_map, Option.map_some, List.set_cons_zero, List.set_cons_succ, and_true, true_and, List.flatMap_cons, List.flatMap_nil, Bool.not_not]
    refine wpa_box ?_
    have hac : (AV.agg (aMk m)).cells = aMk m := rfl
    have H0 := H.stp (stp_new (S := fun r => r = (0, 0)) (x := .obj 0 (aMk m)) (0, 0)) fun _ h => h
    have hbx : (σ ++ [Res.obj 0 (aMk m)])[σ.length]? = some (.obj 0 (aMk m)) := at_snoc _ _
    rw [hac]
    simp (maxSteps := 1000000) (implicitDefEqProofs := false) (disch := omega) only [push_cast, ↓reduceIte, Nat.reduceEqDiff, reduceCtorEq, decide_true, decide_false, Bool.not_true, Bool.not_false, Option.isNone_some, Option.isNone_none, List.drop_zero, List.drop_succ_cons, List.getElem?_cons_zero, List.getElem?_cons_succ, List.length_cons, List.length_nil, List.take_succ_cons, List.take_zero, Nat.mul_one, Nat.zero_add, Nat.add_zero, Nat.one_mul, Nat.zero_mul, List.getElem?_map, List.getElem?_drop, List.getElem?_take, List.length_map, Option.map_some, List.set_cons_zero, List.set_cons_succ, and_true, true_and, List.flatMap_cons, List.flatMap_nil, Bool.not_not]
    refine hN _ _ ⟨σ.length, ?_, _, hbx, labN_self _ _ _, H0⟩
    simp (maxSteps := 1000000) (implicitDefEqProofs := false) (disch := omega) only [push_cast, ↓reduceIte, Nat.reduceEqDiff, reduceCtorEq, decide_true, decide_false, Bool.not_true, Bool.not_false, Option.isNone_some, Option.isNone_none, List.drop_zero, List.drop_succ_cons, List.getElem?_cons_zero, List.getElem?_cons_succ, List.length_cons, List.length_nil, List.take_succ_cons, List.take_zero, Nat.mul_one, Nat.zero_add, Nat.add_zero, Nat.one_mul, Nat.zero_mul, List.getElem?_map, List.getElem?_drop, List.getElem?_take, List.length_map, Option.map_some, List.set_cons_zero, List.set_cons_succ, and_true, true_and, List.flatMap_cons, List.flatMap_nil, Bool.not_not]
  clear H
  rintro ε σ0 ⟨bx, hρ, lab0, hbx, hlx, H0⟩
  have h3 := H0.fr
  rw [hB] at h3
  obtain ⟨⟨t, hf⟩, _⟩ := h3
  have hfo := hf.obj
  have bld2 : ∀ a b : Int, fillA [AV.v (.int .i64 0), AV.v (.int .i64 0)] [(0, 1), (1, 1)] [AV.v (.int .i64 a), AV.v (.int .i64 b)] = some (aSt (a, b)) := fun a b => by simp [fillA, AV.cells, Value.cells, setAtA, aSt]
  refine wpa_seqx (fun ε σ' => (ε 0 = .ref ib 0 0 ∧ ε 1 = .ref i 0 0 ∧ ε 5 = .ref bx 0 0) ∧ ∃ lab', σ'[bx]? = some (.obj 0 (aMk m)) ∧ lab' bx = (0, 0) ∧ BR σ' lab' ib il vl { B with fs := { F with row := F.row ++ [(F.sg, F.now)] } :: G :: fs } (i :: j :: is)) ?_ ?_
  · intro N X R hN
    simp (maxSteps := 1000000) (implicitDefEqProofs := false) (disch := omega) only [push_cast, ↓reduceIte, Nat.reduceEqDiff, reduceCtorEq, decide_true, decide_false, Bool.not_true, Bool.not_false, Option.isNone_some, Option.isNone_none, List.drop_zero, List.drop_succ_cons, List.getElem?_cons_zero, List.getElem?_cons_succ, List.length_cons, List.length_nil, List.take_succ_cons, List.take_zero, Nat.mul_one, Nat.zero_add, Nat.add_zero, Nat.one_mul, Nat.zero_mul, List.getElem?_map, List.getElem?_drop, List.getElem?_take, List.length_map, Option.map_some, List.set_cons_zero, List.set_cons_succ, and_true, true_and, List.flatMap_cons, List.flatMap_nil, Bool.not_not, hρ, hfo, frC_7, frC_6a, frC_2, bld2]
    refine wpa_bsl (sz := 2) (by intro a ha; simp at ha; subst ha; rfl) (by simp) ?_
    have hac2 : ∀ p, (AV.agg (aSt p)).cells = aSt p := fun _ => rfl
    simp (maxSteps := 1000000) (implicitDefEqProofs := false) (disch := omega) only [push_cast, ↓reduceIte, Nat.reduceEqDiff, reduceCtorEq, decide_true, decide_false, Bool.not_true, Bool.not_false, Option.isNone_some, Option.isNone_none, List.drop_zero, List.drop_succ_cons, List.getElem?_cons_zero, List.getElem?_cons_succ, List.length_cons, List.length_nil, List.take_succ_cons, List.take_zero, Nat.mul_one, Nat.zero_add, Nat.add_zero, Nat.one_mul, Nat.zero_mul, List.getElem?_map, List.getElem?_drop, List.getElem?_take, List.length_map, Option.map_some, List.set_cons_zero, List.set_cons_succ, and_true, true_and, List.flatMap_cons, List.flatMap_nil, Bool.not_not, hac2]
    refine ⟨aholds_lde (by simp (maxSteps := 1000000) (implicitDefEqProofs := false) (disch := omega) only [push_cast, ↓reduceIte, Nat.reduceEqDiff, reduceCtorEq, decide_true, decide_false, Bool.not_true, Bool.not_false, Option.isNone_some, Option.isNone_none, List.drop_zero, List.drop_succ_cons, List.getElem?_cons_zero, List.getElem?_cons_succ, List.length_cons, List.length_nil, List.take_succ_cons, List.take_zero, Nat.mul_one, Nat.zero_add, Nat.add_zero, Nat.one_mul, Nat.zero_mul, List.getElem?_map, List.getElem?_drop, List.getElem?_take, List.length_map, Option.map_some, List.set_cons_zero, List.set_cons_succ, and_true, true_and, List.flatMap_cons, List.flatMap_nil, Bool.not_not, hfo, frC_7, hf.r.exact]), ?_⟩
    refine wpa_app_t (m := 1) rfl hf.r rfl rfl rfl (flat_len aSt_len _) (by omega) (by omega) ?_
    intro σ1 lab1 t1 k1 ht1
    have hfo1 := (k1.get hfo (by rw [hf.li]; simp)).1
    obtain ⟨n1, n2⟩ := hf.tr (F' := { F with row := F.row ++ [(F.sg, F.now)] }) k1 (by simpa using ht1) rfl rfl rfl
    simp (maxSteps := 1000000) (implicitDefEqProofs := false) (disch := omega) only [push_cast, ↓reduceIte, Nat.reduceEqDiff, reduceCtorEq, decide_true, decide_false, Bool.not_true, Bool.not_false, Option.isNone_some, Option.isNone_none, List.drop_zero, List.drop_succ_cons, List.getElem?_cons_zero, List.getElem?_cons_succ, List.length_cons, List.length_nil, List.take_succ_cons, List.take_zero, Nat.mul_one, Nat.zero_add, Nat.add_zero, Nat.one_mul, Nat.zero_mul, List.getElem?_map, List.getElem?_drop, List.getElem?_take, List.length_map, Option.map_some, List.set_cons_zero, List.set_cons_succ, and_true, true_and, List.flatMap_cons, List.flatMap_nil, Bool.not_not]
    refine wpa_st1 rfl rfl hfo1 (by simp [frC]) ?_
    have e1 : (frC F t).set 7 (.sl (F.row.length + 1) (F.row.flatMap aSt ++ (aSt (F.sg, F.now) ++ [])) t1) = frC { F with row := F.row ++ [(F.sg, F.now)] } { t with r := t1 } := by
      have e2 : F.row.flatMap aSt ++ (aSt (F.sg, F.now) ++ []) = (F.row ++ [(F.sg, F.now)]).flatMap aSt := by simp
      rw [e2]
      simp [frC]
    rw [e1]
    obtain ⟨hbx2, hlx2⟩ := n2.get hbx (by rw [hlx]; simp [isF])
    have H1 := H0.setTop hB n1 n2
    simp (maxSteps := 1000000) (implicitDefEqProofs := false) (disch := omega) only [push_cast, ↓reduceIte, Nat.reduceEqDiff, reduceCtorEq, decide_true, decide_false, Bool.not_true, Bool.not_false, Option.isNone_some, Option.isNone_none, List.drop_zero, List.drop_succ_cons, List.getElem?_cons_zero, List.getElem?_cons_succ, List.length_cons, List.length_nil, List.take_succ_cons, List.take_zero, Nat.mul_one, Nat.zero_add, Nat.add_zero, Nat.one_mul, Nat.zero_mul, List.getElem?_map, List.getElem?_drop, List.getElem?_take, List.length_map, Option.map_some, List.set_cons_zero, List.set_cons_succ, and_true, true_and, List.flatMap_cons, List.flatMap_nil, Bool.not_not]
    refine hN _ _ ?_
    simp (maxSteps := 1000000) (implicitDefEqProofs := false) (disch := omega) only [push_cast, ↓reduceIte, Nat.reduceEqDiff, reduceCtorEq, decide_true, decide_false, Bool.not_true, Bool.not_false, Option.isNone_some, Option.isNone_none, List.drop_zero, List.drop_succ_cons, List.getElem?_cons_zero, List.getElem?_cons_succ, List.length_cons, List.length_nil, List.take_succ_cons, List.take_zero, Nat.mul_one, Nat.zero_add, Nat.add_zero, Nat.one_mul, Nat.zero_mul, List.getElem?_map, List.getElem?_drop, List.getElem?_take, List.length_map, Option.map_some, List.set_cons_zero, List.set_cons_succ, and_true, true_and, List.flatMap_cons, List.flatMap_nil, Bool.not_not, hρ]
    exact ⟨lab1, hbx2, hlx2.trans hlx, H1⟩
  clear hf hfo H0 hbx hlx hρ ε
  rintro ε σ1 ⟨hρ, lab1, hbx, hlx, H1⟩
  generalize hF' : ({ F with row := F.row ++ [(F.sg, F.now)] } : Fr) = F1 at H1
  have eF1 : F1.now = F.now ∧ F1.lp = F.lp ∧ F1.it = F.it ∧ ({ F1 with sg := m.a } : Fr) = goFr F m := by rw [← hF']; exact ⟨rfl, rfl, rfl, rfl⟩
  obtain ⟨e1, e2, e3, e4⟩ := eF1
  have h3 := H1.fr
  obtain ⟨⟨t, hf⟩, ⟨t2, hg⟩, _⟩ := h3
  have hfo := hf.obj
  have hgo := hg.obj
  obtain ⟨tb, hbd⟩ := H1.bd
  have hbo := hbd.obj
  refine wpa_seqx (fun ε σ' => (ε 0 = .ref ib 0 0 ∧ ε 1 = .ref i 0 0 ∧ ε 5 = .ref bx 0 0 ∧ ε 6 = .sl 1 [.v (.int .i64 F.now)] .full) ∧ σ' = σ1) ?_ ?_
  · intro N X R hN
    simp (maxSteps := 1000000) (implicitDefEqProofs := false) (disch := omega) only [push_cast, ↓reduceIte, Nat.reduceEqDiff, reduceCtorEq, decide_true, decide_false, Bool.not_true, Bool.not_false, Option.isNone_some, Option.isNone_none, List.drop_zero, List.drop_succ_cons, List.getElem?_cons_zero, List.getElem?_cons_succ, List.length_cons, List.length_nil, List.take_succ_cons, List.take_zero, Nat.mul_one, Nat.zero_add, Nat.add_zero, Nat.one_mul, Nat.zero_mul, List.getElem?_map, List.getElem?_drop, List.getElem?_take, List.length_map, Option.map_some, List.set_cons_zero, List.set_cons_succ, and_true, true_and, List.flatMap_cons, List.flatMap_nil, Bool.not_not, hρ, hfo, frC_2]
    refine wpa_bsl (sz := 1) (by intro a ha; simp at ha; subst ha; rfl) (by simp) ?_
    simp (maxSteps := 1000000) (implicitDefEqProofs := false) (disch := omega) only [push_cast, ↓reduceIte, Nat.reduceEqDiff, reduceCtorEq, decide_true, decide_false, Bool.not_true, Bool.not_false, Option.isNone_some, Option.isNone_none, List.drop_zero, List.drop_succ_cons, List.getElem?_cons_zero, List.getElem?_cons_succ, List.length_cons, List.length_nil, List.take_succ_cons, List.take_zero, Nat.mul_one, Nat.zero_add, Nat.add_zero, Nat.one_mul, Nat.zero_mul, List.getElem?_map, List.getElem?_drop, List.getElem?_take, List.length_map, Option.map_some, List.set_cons_zero, List.set_cons_succ, and_true, true_and, List.flatMap_cons, List.flatMap_nil, Bool.not_not]
    refine hN _ _ ?_
    simp (maxSteps := 1000000) (implicitDefEqProofs := false) (disch := omega) only [push_cast, ↓reduceIte, Nat.reduceEqDiff, reduceCtorEq, decide_true, decide_false, Bool.not_true, Bool.not_false, Option.isNone_some, Option.isNone_none, List.drop_zero, List.drop_succ_cons, List.getElem?_cons_zero, List.getElem?_cons_succ, List.length_cons, List.length_nil, List.take_succ_cons, List.take_zero, Nat.mul_one, Nat.zero_add, Nat.add_zero, Nat.one_mul, Nat.zero_mul, List.getElem?_map, List.getElem?_drop, List.getElem?_take, List.length_map, Option.map_some, List.set_cons_zero, List.set_cons_succ, and_true, true_and, List.flatMap_cons, List.flatMap_nil, Bool.not_not, hρ, e1]
  clear hρ ε
  rintro ε τ ⟨hρ, hτ⟩
  rw [hτ]
  clear hτ τ
  refine wpa_seqx (fun ε σ' => (ε 0 = .ref ib 0 0 ∧ ε 1 = .ref i 0 0 ∧ ε 5 = .ref bx 0 0 ∧ ε 6 = .sl 1 [.v (.int .i64 F.now)] .full ∧ ε 7 = .ref j 0 0) ∧ σ' = σ1) ?_ ?_
  · intro N X R hN
    obtain ⟨cells, hc, hcu⟩ := H1.ls.up
    have e5 : ((is.length : Int) + 1 + 1 - 2).toNat = is.length := by omega
    have e6 : (i :: j :: is).length = is.length + 1 + 1 := rfl
    rw [e6] at hbo
    simp (maxSteps := 1000000) (implicitDefEqProofs := false) (disch := omega) only [push_cast, ↓reduceIte, Nat.reduceEqDiff, reduceCtorEq, decide_true, decide_false, Bool.not_true, Bool.not_false, Option.isNone_some, Option.isNone_none, List.drop_zero, List.drop_succ_cons, List.getElem?_cons_zero, List.getElem?_cons_succ, List.length_cons, List.length_nil, List.take_succ_cons, List.take_zero, Nat.mul_one, Nat.zero_add, Nat.add_zero, Nat.one_mul, Nat.zero_mul, List.getElem?_map, List.getElem?_drop, List.getElem?_take, List.length_map, Option.map_some, List.set_cons_zero, List.set_cons_succ, and_true, true_and, List.flatMap_cons, List.flatMap_nil, Bool.not_not, hρ, hbo, bdC_3, hc, hcu, e5]
    refine hN _ _ ?_
    simp (maxSteps := 1000000) (implicitDefEqProofs := false) (disch := omega) only [push_cast, ↓reduceIte, Nat.reduceEqDiff, reduceCtorEq, decide_true, decide_false, Bool.not_true, Bool.not_false, Option.isNone_some, Option.isNone_none, List.drop_zero, List.drop_succ_cons, List.getElem?_cons_zero, List.getElem?_cons_succ, List.length_cons, List.length_nil, List.take_succ_cons, List.take_zero, Nat.mul_one, Nat.zero_add, Nat.add_zero, Nat.one_mul, Nat.zero_mul, List.getElem?_map, List.getElem?_drop, List.getElem?_take, List.length_map, Option.map_some, List.set_cons_zero, List.set_cons_succ, and_true, true_and, List.flatMap_cons, List.flatMap_nil, Bool.not_not, hρ]
  clear hρ ε
  rintro ε τ ⟨hρ, hτ⟩
  rw [hτ]
  clear hτ τ
  refine wpa_seqx (fun ε σ' => (ε 0 = .ref ib 0 0 ∧ ε 1 = .ref i 0 0 ∧ ε 5 = .ref bx 0 0 ∧ ∃ tt, ε 6 = .sl (goPreds F G m).length ((goPreds F G m).map aInt) tt) ∧ ∃ lab2, σ'[bx]? = some (.obj 0 (aMk m)) ∧ lab2 bx = (0, 0) ∧ BR σ' lab2 ib il vl { B with fs := F1 :: G :: fs } (i :: j :: is)) ?_ ?_
  · intro N X R hN
    by_cases h11 : m.k = 11
    · by_cases hit : 0 < F.it
      · have hit1 : 0 < F1.it := by rw [e3]; exact hit
        have hgp : goPreds F G m = [F.now, lastA G.ahead m.a] := by unfold goPreds; rw [if_pos ⟨h11, hit⟩]
        rw [hgp] at hN
        simp (maxSteps := 1000000) (implicitDefEqProofs := false) (disch := omega) only [push_cast, ↓reduceIte, Nat.reduceEqDiff, reduceCtorEq, decide_true, decide_false, Bool.not_true, Bool.not_false, Option.isNone_some, Option.isNone_none, List.drop_zero, List.drop_succ_cons, List.getElem?_cons_zero, List.getElem?_cons_succ, List.length_cons, List.length_nil, List.take_succ_cons, List.take_zero, Nat.mul_one, Nat.zero_add, Nat.add_zero, Nat.one_mul, Nat.zero_mul, List.getElem?_map, List.getElem?_drop, List.getElem?_take, List.length_map, Option.map_some, List.set_cons_zero, List.set_cons_succ, and_true, true_and, List.flatMap_cons, List.flatMap_nil, Bool.not_not, hρ, hbx, aMk_0, h11, hfo, frC_5a, hit1, hgo, frC_10]
        refine wpa_blx (α := Nat) (I := fun n ε σ' => (ε 0 = .ref ib 0 0 ∧ ε 1 = .ref i 0 0 ∧ ε 5 = .ref bx 0 0 ∧ ε 6 = .sl 1 [.v (.int .i64 F.now)] .full ∧ ε 8 = .v (.int .i64 (lastA (G.ahead.take n) m.a)) ∧ ε 61 = .sl G.ahead.length (G.ahead.flatMap aSt) t2.a ∧ ε 62 = .v (.int .i64 G.ahead.length) ∧ ε 63 = .v (.int .i64 n)) ∧ n ≤ G.ahead.length ∧
            ∃ lab2, σ'[bx]? = some (.obj 0 (aMk m)) ∧ lab2 bx = (0, 0) ∧ BR σ' lab2 ib il vl { B with fs := F1 :: G :: fs } (i :: j :: is))
          (μ := fun n => G.ahead.length - n) (Q := fun ε σ' => (ε 0 = .ref ib 0 0 ∧ ε 1 = .ref i 0 0 ∧ ε 5 = .ref bx 0 0 ∧ ε 6 = .sl 1 [.v (.int .i64 F.now)] .full ∧ ε 8 = .v (.int .i64 (lastA G.ahead m.a))) ∧
            ∃ lab2, σ'[bx]? = some (.obj 0 (aMk m)) ∧ lab2 bx = (0, 0) ∧ BR σ' lab2 ib il vl { B with fs := F1 :: G :: fs } (i :: j :: is)) (x := 0) ?_ ?_ ?_
        · simp (maxSteps := 1000000) (implicitDefEqProofs := false) (disch := omega) only [push_cast, ↓reduceIte, Nat.reduceEqDiff, reduceCtorEq, decide_true, decide_false, Bool.not_true, Bool.not_false, Option.isNone_some, Option.isNone_none, List.drop_zero, List.drop_succ_cons, List.getElem?_cons_zero, List.getElem?_cons_succ, List.length_cons, List.length_nil, List.take_succ_cons, List.take_zero, Nat.mul_one, Nat.zero_add, Nat.add_zero, Nat.one_mul, Nat.zero_mul, List.getElem?_map, List.getElem?_drop, List.getElem?_take, List.length_map, Option.map_some, List.set_cons_zero, List.set_cons_succ, and_true, true_and, List.flatMap_cons, List.flatMap_nil, Bool.not_not, hρ]
          exact ⟨rfl, by omega, lab1, hbx, hlx, H1⟩
        · clear hN hρ hbx hlx H1 hf hg hfo hgo hbd hbo hit1 ε
          rintro n ε τ N2 E2 X2 R2 ⟨hρ, hn, lab2, hbx, hlx, H1⟩ hN2 hE2
          simp only [S_strand_builder_goOn_L1]
          by_cases hlt : n < G.ahead.length
          · obtain ⟨e, he⟩ := at_lt hlt
            have hde := flat_drop aSt_len he
            have hcl : ∀ l : List AV, cellsA (some 2) (aSt e ++ l) = some (.agg (aSt e)) := fun l => by rw [cellsA_n _ _ (by simp [aSt_len])]; rfl
            simp (maxSteps := 1000000) (implicitDefEqProofs := false) (disch := omega) only [push_cast, ↓reduceIte, Nat.reduceEqDiff, reduceCtorEq, decide_true, decide_false, Bool.not_true, Bool.not_false, Option.isNone_some, Option.isNone_none, List.drop_zero, List.drop_succ_cons, List.getElem?_cons_zero, List.getElem?_cons_succ, List.length_cons, List.length_nil, List.take_succ_cons, List.take_zero, Nat.mul_one, Nat.zero_add, Nat.add_zero, Nat.one_mul, Nat.zero_mul, List.getElem?_map, List.getElem?_drop, List.getElem?_take, List.length_map, Option.map_some, List.set_cons_zero, List.set_cons_succ, and_true, true_and, List.flatMap_cons, List.flatMap_nil, Bool.not_not, hρ, hde, hcl]
            refine wpa_new ?_
            simp (maxSteps := 1000000) (implicitDefEqProofs := false) (disch := omega) only [push_cast, ↓reduceIte, Nat.reduceEqDiff, reduceCtorEq, decide_true, decide_false, Bool.not_true, Bool.not_false, Option.isNone_some, Option.isNone_none, List.drop_zero, List.drop_succ_cons, List.getElem?_cons_zero, List.getElem?_cons_succ, List.length_cons, List.length_nil, List.take_succ_cons, List.take_zero, Nat.mul_one, Nat.zero_add, Nat.add_zero, Nat.one_mul, Nat.zero_mul, List.getElem?_map, List.getElem?_drop, List.getElem?_take, List.length_map, Option.map_some, List.set_cons_zero, List.set_cons_succ, and_true, true_and, List.flatMap_cons, List.flatMap_nil, Bool.not_not]
            refine wpa_stn (aSt_len e) (aSt_one e) (at_snoc _ _) (by simp) ?_
            have hset : setAtA [AV.v (.int .i64 0), AV.v (.int .i64 0)] 0 (aSt e) = aSt e := rfl
            have k := stp_new (S := fun r => r = (0, 0)) (σ := τ) (lab := lab2) (x := .obj 0 (aSt e)) (0, 0)
            have H2 := H1.stp k fun _ h => h
            have hbx2 : (τ ++ [Res.obj 0 (aSt e)])[bx]? = some (.obj 0 (aMk m)) := get_app hbx
            have hlx2 : labN τ lab2 (0, 0) bx = (0, 0) := by unfold labN; split; rfl; exact hlx
            have hy : (τ ++ [Res.obj 0 (aSt e)])[τ.length]? = some (.obj 0 (aSt e)) := at_snoc _ _
            have f0 : (aSt e)[0]? = some (.v (.int .i64 e.1)) := rfl
            have f1 : (aSt e)[1]? = some (.v (.int .i64 e.2)) := rfl
            have hls := lastA_snoc (G.ahead.take n) e m.a
            rw [← take_succ_at he] at hls
            have hN3 := hN2 (n + 1)
            rw [hls] at hN3
            simp (maxSteps := 1000000) (implicitDefEqProofs := false) (disch := omega) only [push_cast, ↓reduceIte, Nat.reduceEqDiff, reduceCtorEq, decide_true, decide_false, Bool.not_true, Bool.not_false, Option.isNone_some, Option.isNone_none, List.drop_zero, List.drop_succ_cons, List.getElem?_cons_zero, List.getElem?_cons_succ, List.length_cons, List.length_nil, List.take_succ_cons, List.take_zero, Nat.mul_one, Nat.zero_add, Nat.add_zero, Nat.one_mul, Nat.zero_mul, List.getElem?_map, List.getElem?_drop, List.getElem?_take, List.length_map, Option.map_some, List.set_cons_zero, List.set_cons_succ, and_true, true_and, List.flatMap_cons, List.flatMap_nil, Bool.not_not, hset]
            generalize τ ++ [Res.obj 0 (aSt e)] = τ2 at H2 hbx2 hy ⊢
            generalize labN τ lab2 (0, 0) = lab3 at H2 hlx2
            generalize τ.length = y at hy ⊢
            by_cases hle : e.1 ≤ m.a
            · rw [if_pos hle] at hN3
              simp (maxSteps := 1000000) (implicitDefEqProofs := false) (disch := omega) only [push_cast, ↓reduceIte, Nat.reduceEqDiff, reduceCtorEq, decide_true, decide_false, Bool.not_true, Bool.not_false, Option.isNone_some, Option.isNone_none, List.drop_zero, List.drop_succ_cons, List.getElem?_cons_zero, List.getElem?_cons_succ, List.length_cons, List.length_nil, List.take_succ_cons, List.take_zero, Nat.mul_one, Nat.zero_add, Nat.add_zero, Nat.one_mul, Nat.zero_mul, List.getElem?_map, List.getElem?_drop, List.getElem?_take, List.length_map, Option.map_some, List.set_cons_zero, List.set_cons_succ, and_true, true_and, List.flatMap_cons, List.flatMap_nil, Bool.not_not, hρ, hy, f0, f1, hbx2, aMk_1, hle]
              refine hN3 _ _ ?_ (by omega)
              simp (maxSteps := 1000000) (implicitDefEqProofs := false) (disch := omega) only [push_cast, ↓reduceIte, Nat.reduceEqDiff, reduceCtorEq, decide_true, decide_false, Bool.not_true, Bool.not_false, Option.isNone_some, Option.isNone_none, List.drop_zero, List.drop_succ_cons, List.getElem?_cons_zero, List.getElem?_cons_succ, List.length_cons, List.length_nil, List.take_succ_cons, List.take_zero, Nat.mul_one, Nat.zero_add, Nat.add_zero, Nat.one_mul, Nat.zero_mul, List.getElem?_map, List.getElem?_drop, List.getElem?_take, List.length_map, Option.map_some, List.set_cons_zero, List.set_cons_succ, and_true, true_and, List.flatMap_cons, List.flatMap_nil, Bool.not_not, hρ]
              exact ⟨by omega, lab3, hbx2, hlx2, H2⟩
            · rw [if_neg hle] at hN3
              simp (maxSteps := 1000000) (implicitDefEqProofs := false) (disch := omega) only [push_cast, ↓reduceIte, Nat.reduceEqDiff, reduceCtorEq, decide_true, decide_false, Bool.not_true, Bool.not_false, Option.isNone_some, Option.isNone_none, List.drop_zero, List.drop_succ_cons, List.getElem?_cons_zero, List.getElem?_cons_succ, List.length_cons, List.length_nil, List.take_succ_cons, List.take_zero, Nat.mul_one, Nat.zero_add, Nat.add_zero, Nat.one_mul, Nat.zero_mul, List.getElem?_map, List.getElem?_drop, List.getElem?_take, List.length_map, Option.map_some, List.set_cons_zero, List.set_cons_succ, and_true, true_and, List.flatMap_cons, List.flatMap_nil, Bool.not_not, hρ, hy, f0, f1, hbx2, aMk_1, hle]
              refine hN3 _ _ ?_ (by omega)
              simp (maxSteps := 1000000) (implicitDefEqProofs := false) (disch := omega) only [push_cast, ↓reduceIte, Nat.reduceEqDiff, reduceCtorEq, decide_true, decide_false, Bool.not_true, Bool.not_false, Option.isNone_some, Option.isNone_none, List.drop_zero, List.drop_succ_cons, List.getElem?_cons_zero, List.getElem?_cons_succ, List.length_cons, List.length_nil, List.take_succ_cons, List.take_zero, Nat.mul_one, Nat.zero_add, Nat.add_zero, Nat.one_mul, Nat.zero_mul, List.getElem?_map, List.getElem?_drop, List.getElem?_take, List.length_map, Option.map_some, List.set_cons_zero, List.set_cons_succ, and_true, true_and, List.flatMap_cons, List.flatMap_nil, Bool.not_not, hρ]
              exact ⟨by omega, lab3, hbx2, hlx2, H2⟩
          · simp (maxSteps := 1000000) (implicitDefEqProofs := false) (disch := omega) only [push_cast, ↓reduceIte, Nat.reduceEqDiff, reduceCtorEq, decide_true, decide_false, Bool.not_true, Bool.not_false, Option.isNone_some, Option.isNone_none, List.drop_zero, List.drop_succ_cons, List.getElem?_cons_zero, List.getElem?_cons_succ, List.length_cons, List.length_nil, List.take_succ_cons, List.take_zero, Nat.mul_one, Nat.zero_add, Nat.add_zero, Nat.one_mul, Nat.zero_mul, List.getElem?_map, List.getElem?_drop, List.getElem?_take, List.length_map, Option.map_some, List.set_cons_zero, List.set_cons_succ, and_true, true_and, List.flatMap_cons, List.flatMap_nil, Bool.not_not, hρ]
            refine hE2 _ _ ?_
            rw [List.take_of_length_le (by omega)] at hρ
            simp (maxSteps := 1000000) (implicitDefEqProofs := false) (disch := omega) only [push_cast, ↓reduceIte, Nat.reduceEqDiff, reduceCtorEq, decide_true, decide_false, Bool.not_true, Bool.not_false, Option.isNone_some, Option.isNone_none, List.drop_zero, List.drop_succ_cons, List.getElem?_cons_zero, List.getElem?_cons_succ, List.length_cons, List.length_nil, List.take_succ_cons, List.take_zero, Nat.mul_one, Nat.zero_add, Nat.add_zero, Nat.one_mul, Nat.zero_mul, List.getElem?_map, List.getElem?_drop, List.getElem?_take, List.length_map, Option.map_some, List.set_cons_zero, List.set_cons_succ, and_true, true_and, List.flatMap_cons, List.flatMap_nil, Bool.not_not, hρ]
            exact ⟨lab2, hbx, hlx, H1⟩
        · clear hρ hbx hlx H1 hf hg hfo hgo hbd hbo ε
          rintro ε τ ⟨hρ, lab2, hbx, hlx, H1⟩
          simp (maxSteps := 1000000) (implicitDefEqProofs := false) (disch := omega) only [push_cast, ↓reduceIte, Nat.reduceEqDiff, reduceCtorEq, decide_true, decide_false, Bool.not_true, Bool.not_false, Option.isNone_some, Option.isNone_none, List.drop_zero, List.drop_succ_cons, List.getElem?_cons_zero, List.getElem?_cons_succ, List.length_cons, List.length_nil, List.take_succ_cons, List.take_zero, Nat.mul_one, Nat.zero_add, Nat.add_zero, Nat.one_mul, Nat.zero_mul, List.getElem?_map, List.getElem?_drop, List.getElem?_take, List.length_map, Option.map_some, List.set_cons_zero, List.set_cons_succ, and_true, true_and, List.flatMap_cons, List.flatMap_nil, Bool.not_not, hρ]
          refine wpa_bsl (sz := 1) (by intro a ha; simp at ha; subst ha; rfl) (by simp) ?_
          simp (maxSteps := 1000000) (implicitDefEqProofs := false) (disch := omega) only [push_cast, ↓reduceIte, Nat.reduceEqDiff, reduceCtorEq, decide_true, decide_false, Bool.not_true, Bool.not_false, Option.isNone_some, Option.isNone_none, List.drop_zero, List.drop_succ_cons, List.getElem?_cons_zero, List.getElem?_cons_succ, List.length_cons, List.length_nil, List.take_succ_cons, List.take_zero, Nat.mul_one, Nat.zero_add, Nat.add_zero, Nat.one_mul, Nat.zero_mul, List.getElem?_map, List.getElem?_drop, List.getElem?_take, List.length_map, Option.map_some, List.set_cons_zero, List.set_cons_succ, and_true, true_and, List.flatMap_cons, List.flatMap_nil, Bool.not_not, hρ]
          refine wpa_app_full0 (m := 1) rfl rfl rfl rfl rfl (by omega) (by omega) ?_
          simp (maxSteps := 1000000) (implicitDefEqProofs := false) (disch := omega) only [push_cast, ↓reduceIte, Nat.reduceEqDiff, reduceCtorEq, decide_true, decide_false, Bool.not_true, Bool.not_false, Option.isNone_some, Option.isNone_none, List.drop_zero, List.drop_succ_cons, List.getElem?_cons_zero, List.getElem?_cons_succ, List.length_cons, List.length_nil, List.take_succ_cons, List.take_zero, Nat.mul_one, Nat.zero_add, Nat.add_zero, Nat.one_mul, Nat.zero_mul, List.getElem?_map, List.getElem?_drop, List.getElem?_take, List.length_map, Option.map_some, List.set_cons_zero, List.set_cons_succ, and_true, true_and, List.flatMap_cons, List.flatMap_nil, Bool.not_not]
          refine hN _ _ ?_
          simp (maxSteps := 1000000) (implicitDefEqProofs := false) (disch := omega) only [push_cast, ↓reduceIte, Nat.reduceEqDiff, reduceCtorEq, decide_true, decide_false, Bool.not_true, Bool.not_false, Option.isNone_some, Option.isNone_none, List.drop_zero, List.drop_succ_cons, List.getElem?_cons_zero, List.getElem?_cons_succ, List.length_cons, List.length_nil, List.take_succ_cons, List.take_zero, Nat.mul_one, Nat.zero_add, Nat.add_zero, Nat.one_mul, Nat.zero_mul, List.getElem?_map, List.getElem?_drop, List.getElem?_take, List.length_map, Option.map_some, List.set_cons_zero, List.set_cons_succ, and_true, true_and, List.flatMap_cons, List.flatMap_nil, Bool.not_not, hρ]
          exact ⟨⟨_, rfl⟩, lab2, hbx, hlx, H1⟩
      · have hit1 : ¬ 0 < F1.it := by rw [e3]; exact hit
        have hgp : goPreds F G m = [F.now] := by unfold goPreds; rw [if_neg (fun h => hit h.2)]
        rw [hgp] at hN
        simp (maxSteps := 1000000) (implicitDefEqProofs := false) (disch := omega) only [push_cast, ↓reduceIte, Nat.reduceEqDiff, reduceCtorEq, decide_true, decide_false, Bool.not_true, Bool.not_false, Option.isNone_some, Option.isNone_none, List.drop_zero, List.drop_succ_cons, List.getElem?_cons_zero, List.getElem?_cons_succ, List.length_cons, List.length_nil, List.take_succ_cons, List.take_zero, Nat.mul_one, Nat.zero_add, Nat.add_zero, Nat.one_mul, Nat.zero_mul, List.getElem?_map, List.getElem?_drop, List.getElem?_take, List.length_map, Option.map_some, List.set_cons_zero, List.set_cons_succ, and_true, true_and, List.flatMap_cons, List.flatMap_nil, Bool.not_not, hρ, hbx, aMk_0, h11, hfo, frC_5a, hit1]
        refine hN _ _ ?_
        simp (maxSteps := 1000000) (implicitDefEqProofs := false) (disch := omega) only [push_cast, ↓reduceIte, Nat.reduceEqDiff, reduceCtorEq, decide_true, decide_false, Bool.not_true, Bool.not_false, Option.isNone_some, Option.isNone_none, List.drop_zero, List.drop_succ_cons, List.getElem?_cons_zero, List.getElem?_cons_succ, List.length_cons, List.length_nil, List.take_succ_cons, List.take_zero, Nat.mul_one, Nat.zero_add, Nat.add_zero, Nat.one_mul, Nat.zero_mul, List.getElem?_map, List.getElem?_drop, List.getElem?_take, List.length_map, Option.map_some, List.set_cons_zero, List.set_cons_succ, and_true, true_and, List.flatMap_cons, List.flatMap_nil, Bool.not_not, hρ]
        exact ⟨⟨_, rfl⟩, lab1, hbx, hlx, H1⟩
    · have hgp : goPreds F G m = [F.now] := by unfold goPreds; rw [if_neg (fun h => h11 h.1)]
      rw [hgp] at hN
      simp (maxSteps := 1000000) (implicitDefEqProofs := false) (disch := omega) only [push_cast, ↓reduceIte, Nat.reduceEqDiff, reduceCtorEq, decide_true, decide_false, Bool.not_true, Bool.not_false, Option.isNone_some, Option.isNone_none, List.drop_zero, List.drop_succ_cons, List.getElem?_cons_zero, List.getElem?_cons_succ, List.length_cons, List.length_nil, List.take_succ_cons, List.take_zero, Nat.mul_one, Nat.zero_add, Nat.add_zero, Nat.one_mul, Nat.zero_mul, List.getElem?_map, List.getElem?_drop, List.getElem?_take, List.length_map, Option.map_some, List.set_cons_zero, List.set_cons_succ, and_true, true_and, List.flatMap_cons, List.flatMap_nil, Bool.not_not, hρ, hbx, aMk_0, h11]
      refine hN _ _ ?_
      simp (maxSteps := 1000000) (implicitDefEqProofs := false) (disch := omega) only [push_cast, ↓reduceIte, Nat.reduceEqDiff, reduceCtorEq, decide_true, decide_false, Bool.not_true, Bool.not_false, Option.isNone_some, Option.isNone_none, List.drop_zero, List.drop_succ_cons, List.getElem?_cons_zero, List.getElem?_cons_succ, List.length_cons, List.length_nil, List.take_succ_cons, List.take_zero, Nat.mul_one, Nat.zero_add, Nat.add_zero, Nat.one_mul, Nat.zero_mul, List.getElem?_map, List.getElem?_drop, List.getElem?_take, List.length_map, Option.map_some, List.set_cons_zero, List.set_cons_succ, and_true, true_and, List.flatMap_cons, List.flatMap_nil, Bool.not_not, hρ]
      exact ⟨⟨_, rfl⟩, lab1, hbx, hlx, H1⟩
  clear hρ hbx hlx H1 hf hg hfo hgo hbd hbo ε
  rintro ε σ2 ⟨⟨h0, h1, h5, tt, h6⟩, lab2, hbx, hlx, H1⟩
  have hρ : ε 0 = .ref ib 0 0 ∧ ε 1 = .ref i 0 0 ∧ ε 5 = .ref bx 0 0 ∧ ε 6 = .sl (goPreds F G m).length ((goPreds F G m).map aInt) tt := ⟨h0, h1, h5, h6⟩
  clear h0 h1 h5 h6
  refine wpa_seqx (fun ε σ' => (ε 0 = .ref ib 0 0 ∧ ε 1 = .ref i 0 0 ∧ ε 6 = .sl (goPreds F G m).length ((goPreds F G m).map aInt) tt) ∧ ∃ lab3, BR σ' lab3 ib il vl { B with fs := goFr F m :: G :: fs } (i :: j :: is)) ?_ ?_
  · intro N X R hN
    obtain ⟨⟨t, hf⟩, _⟩ := H1.fr
    have hfo := hf.obj
    obtain ⟨n1, n2⟩ := hf.put (F' := goFr F m) (by rw [← e4]) (by rw [← e4]) (by rw [← e4]) (by rw [← e4])
    have H2 := H1.setTop rfl n1 n2
    simp (maxSteps := 1000000) (implicitDefEqProofs := false) (disch := omega) only [push_cast, ↓reduceIte, Nat.reduceEqDiff, reduceCtorEq, decide_true, decide_false, Bool.not_true, Bool.not_false, Option.isNone_some, Option.isNone_none, List.drop_zero, List.drop_succ_cons, List.getElem?_cons_zero, List.getElem?_cons_succ, List.length_cons, List.length_nil, List.take_succ_cons, List.take_zero, Nat.mul_one, Nat.zero_add, Nat.add_zero, Nat.one_mul, Nat.zero_mul, List.getElem?_map, List.getElem?_drop, List.getElem?_take, List.length_map, Option.map_some, List.set_cons_zero, List.set_cons_succ, and_true, true_and, List.flatMap_cons, List.flatMap_nil, Bool.not_not, hρ, hbx, aMk_1]
    refine wpa_st1 rfl rfl hfo (by simp [frC]) ?_
    have e5 : (frC F1 t).set (4 + 2) (.v (.int .i64 m.a)) = frC (goFr F m) t := by rw [← e4]; rfl
    rw [e5]
    simp (maxSteps := 1000000) (implicitDefEqProofs := false) (disch := omega) only [push_cast, ↓reduceIte, Nat.reduceEqDiff, reduceCtorEq, decide_true, decide_false, Bool.not_true, Bool.not_false, Option.isNone_some, Option.isNone_none, List.drop_zero, List.drop_succ_cons, List.getElem?_cons_zero, List.getElem?_cons_succ, List.length_cons, List.length_nil, List.take_succ_cons, List.take_zero, Nat.mul_one, Nat.zero_add, Nat.add_zero, Nat.one_mul, Nat.zero_mul, List.getElem?_map, List.getElem?_drop, List.getElem?_take, List.length_map, Option.map_some, List.set_cons_zero, List.set_cons_succ, and_true, true_and, List.flatMap_cons, List.flatMap_nil, Bool.not_not]
    refine hN _ _ ?_
    simp (maxSteps := 1000000) (implicitDefEqProofs := false) (disch := omega) only [push_cast, ↓reduceIte, Nat.reduceEqDiff, reduceCtorEq, decide_true, decide_false, Bool.not_true, Bool.not_false, Option.isNone_some, Option.isNone_none, List.drop_zero, List.drop_succ_cons, List.getElem?_cons_zero, List.getElem?_cons_succ, List.length_cons, List.length_nil, List.take_succ_cons, List.take_zero, Nat.mul_one, Nat.zero_add, Nat.add_zero, Nat.one_mul, Nat.zero_mul, List.getElem?_map, List.getElem?_drop, List.getElem?_take, List.length_map, Option.map_some, List.set_cons_zero, List.set_cons_succ, and_true, true_and, List.flatMap_cons, List.flatMap_nil, Bool.not_not, hρ]
    exact ⟨lab2, H2⟩
  clear hρ hbx hlx H1 ε
  rintro ε σ3 ⟨hρ, lab3, H1⟩
  obtain ⟨⟨t, hf⟩, _⟩ := H1.fr
  have hfo := hf.obj
  have hcl : cellsA (some 3) ((frC (goFr F m) t).drop 4) = some (.agg (aNd (F.lp, F.it, m.a))) := rfl
  simp (maxSteps := 1000000) (implicitDefEqProofs := false) (disch := omega) only [push_cast, ↓reduceIte, Nat.reduceEqDiff, reduceCtorEq, decide_true, decide_false, Bool.not_true, Bool.not_false, Option.isNone_some, Option.isNone_none, List.drop_zero, List.drop_succ_cons, List.getElem?_cons_zero, List.getElem?_cons_succ, List.length_cons, List.length_nil, List.take_succ_cons, List.take_zero, Nat.mul_one, Nat.zero_add, Nat.add_zero, Nat.one_mul, Nat.zero_mul, List.getElem?_map, List.getElem?_drop, List.getElem?_take, List.length_map, Option.map_some, List.set_cons_zero, List.set_cons_succ, and_true, true_and, List.flatMap_cons, List.flatMap_nil, Bool.not_not, hρ, hfo, hcl]
  refine wpa_callGw [] [false, false, true] (strand_a H1 hb.p hb.n (F.lp, F.it, m.a) (goPreds F G m)) ?_ ?_
  · exact weak3 _ _ _ _ _
  rintro a σ4 ⟨rfl, lab4, H4, _⟩
  have h4 := H4.fr
  rw [begin_fs] at h4
  obtain ⟨⟨t', hf'⟩, _⟩ := h4
  have hfo' := hf'.obj
  obtain ⟨n1, n2⟩ := hf'.put (F' := { goFr F m with now := (({ B with fs := goFr F m :: G :: fs } : Bd).begin (F.lp, F.it, m.a) (goPreds F G m)).1 }) rfl rfl rfl rfl
  have H5 := H4.setTop (begin_fs _ _ _) n1 n2
  simp (maxSteps := 1000000) (implicitDefEqProofs := false) (disch := omega) only [push_cast, ↓reduceIte, Nat.reduceEqDiff, reduceCtorEq, decide_true, decide_false, Bool.not_true, Bool.not_false, Option.isNone_some, Option.isNone_none, List.drop_zero, List.drop_succ_cons, List.getElem?_cons_zero, List.getElem?_cons_succ, List.length_cons, List.length_nil, List.take_succ_cons, List.take_zero, Nat.mul_one, Nat.zero_add, Nat.add_zero, Nat.one_mul, Nat.zero_mul, List.getElem?_map, List.getElem?_drop, List.getElem?_take, List.length_map, Option.map_some, List.set_cons_zero, List.set_cons_succ, and_true, true_and, List.flatMap_cons, List.flatMap_nil, Bool.not_not]
  refine wpa_st1 rfl rfl hfo' (by simp [frC]) ?_
  have e5 : ∀ x, (frC (goFr F m) t').set 2 (aInt x) = frC { goFr F m with now := x } t' := fun _ => rfl
  rw [e5]
  simp (maxSteps := 1000000) (implicitDefEqProofs := false) (disch := omega) only [push_cast, ↓reduceIte, Nat.reduceEqDiff, reduceCtorEq, decide_true, decide_false, Bool.not_true, Bool.not_false, Option.isNone_some, Option.isNone_none, List.drop_zero, List.drop_succ_cons, List.getElem?_cons_zero, List.getElem?_cons_succ, List.length_cons, List.length_nil, List.take_succ_cons, List.take_zero, Nat.mul_one, Nat.zero_add, Nat.add_zero, Nat.one_mul, Nat.zero_mul, List.getElem?_map, List.getElem?_drop, List.getElem?_take, List.length_map, Option.map_some, List.set_cons_zero, List.set_cons_succ, and_true, true_and, List.flatMap_cons, List.flatMap_nil, Bool.not_not]
  exact ⟨lab4, H5⟩
end Go.Proofs.Ytilofhocodbknaa
