/- Contracts on annotated values: forebayref30.Dag.frame. -/
import Derived.Test.YtilofhocodbknaaStu
namespace Go.Proofs.Ytilofhocodbknaa
set_option linter.unusedVariables false
set_option linter.unusedSimpArgs false
open Go Go.Kx Go.Proofs

def isR (a : Nat) (r : Role) : Prop := isB r ∨ (6 ≤ r.1 ∧ a ≤ r.2)
def sameF (F0 F : Fr) : Prop := F.kind = F0.kind ∧ F.child = F0.child ∧ F.lp = F0.lp ∧ F.it = F0.it ∧ (F0.kind ≠ 2 → F.row = [])
def closes (m : Mk) (F : Fr) : Prop := (m.k = 5 ∧ F.child = true ∧ F.kind = 1) ∨ (m.k = 10 ∧ F.kind = 2 ∧ m.a = F.it)
def FrameOut (l : List Mk) (D0 : RD) (F0 : Fr) (C : Cx) (a : AV) (E : RD) : Prop :=
  (E.over = true ∧ Ends l D0 F0 E C) ∨
    (E.over = false ∧ E.e = 0 ∧ ∃ (D2 : RD) (F2 : Fr) (m : Mk) (tk : Tok), E = D2.nx ∧ DOk l D2 ∧ l[D2.pos]? = some m ∧ closes m F2 ∧ sameF F0 F2 ∧ F2.row.length ≤ D2.pos ∧ Goes l D0 F0 D2 F2 C ∧
      a = .sl (F2.row ++ [(if F2.kind = 1 then 0 else F2.sg, F2.now)]).length ((F2.row ++ [(if F2.kind = 1 then 0 else F2.sg, F2.now)]).flatMap aSt) tk)
def kindOf (kd : Int) (F : Fr) : Prop := (kd = 0 ∧ F.kind = 1 ∧ F.child = false) ∨ (kd = 1 ∧ F.kind = 1 ∧ F.child = true) ∨ (kd = 2 ∧ F.kind = 2 ∧ F.child = false)
def SF (l : List Mk) (n : Nat) : Prop := ∀ (σ : St) (lab : Nat → Role) (id : Nat) (D : RD) (t : Tb) (F0 : Fr) (ahead : List (Int × Int)) (C : Cx) (kd : Int), RdAt σ lab id l D t → DOk l D → D.over = false → D.e = 0 → l.length - D.pos = n → kindOf kd F0 → F0.left = [] → F0.row = [] →
  (F0.kind = 2 → ∀ K, C K → ∃ G K', K = G :: K' ∧ G.ahead = ahead) → ahead.length ≤ 10000 →
  FnG Try.prog 106 [.ref id 0 0, aInt kd, .agg (aNd F0.node), aInt F0.now, .sl ahead.length (ahead.flatMap aSt) .none] σ fun a σ' =>
    ∃ lab' E t', RdAt σ' lab' id l E t' ∧ DOk l E ∧ D.pos ≤ E.pos ∧ FrameOut l D F0 C a E ∧ Stp (isR D.pos) σ lab σ' lab'
def LoopOut (l : List Mk) (D0 : RD) (L0 : Fr) (a : AV) (E : RD) : Prop :=
  (E.over = true ∧ ∀ K, EndsAt l D0 (L0 :: K) E) ∨
    (E.over = false ∧ E.e = 0 ∧ ∃ (D2 : RD) (L2 : Fr) (m : Mk) (tk : Tok), E = D2.nx ∧ DOk l D2 ∧ l[D2.pos]? = some m ∧ m.k = 8 ∧ fitsB L2 m = true ∧ L2.lasts.length ≤ D2.pos ∧ Goes l D0 L0 D2 L2 (fun _ => True) ∧ a = .sl L2.lasts.length (L2.lasts.map aInt) tk)
def SL (l : List Mk) (n : Nat) : Prop := ∀ (σ : St) (lab : Nat → Role) (id : Nat) (D : RD) (t : Tb) (s now : Int), RdAt σ lab id l D t → DOk l D → D.over = false → D.e = 0 → l.length - D.pos = n →
  FnG Try.prog 122 [.ref id 0 0, aInt s, aInt now] σ fun a σ' =>
    ∃ lab' E t', RdAt σ' lab' id l E t' ∧ DOk l E ∧ D.pos ≤ E.pos ∧ LoopOut l D (loopFr s now) a E ∧ Stp (isR D.pos) σ lab σ' lab'
/-- What a frame has at hand, between two marks. -/
structure FI (l : List Mk) (id nx a : Nat) (σ0 : St) (lab0 : Nat → Role) (D0 : RD) (F0 : Fr) (C : Cx) (σ : St) (lab : Nat → Role) (D : RD) (F : Fr) (t : Tb) (tr tl : Tok) : Prop where
  rd : RdAt σ lab id l D t
  ok : DOk l D
  le : D0.pos ≤ D.pos
  tr : TokOk σ lab (8, a) tr F.row.length 2
  tl : TokOk σ lab (7, a) tl F.left.length 1
  nd : σ[nx]? = some (.obj 0 (aNd F.node))
  nl : lab nx = (6, a)
  k : Stp (isR a) σ0 lab0 σ lab
  same : sameF F0 F
  ll : F.left.length ≤ D.pos
  rl : F.row.length ≤ D.pos
  st : (D.over = false ∧ D.e = 0 ∧ Goes l D0 F0 D F C) ∨ (D.over = true ∧ Ends l D0 F0 D C)
theorem isR_le {a b : Nat} (h : a ≤ b) {r : Role} (hr : isR b r) : isR a r := hr.elim .inl fun h' => .inr ⟨h'.1, by omega⟩
theorem isB_R {a : Nat} {r : Role} (h : isB r) : isR a r := .inl h
/-- Something turned that was none of the frame's own. -/
theorem FI.stp {l : List Mk} {id nx a : Nat} {σ0 : St} {lab0 : Nat → Role} {D0 : RD} {F0 : Fr} {C : Cx} {σ : St} {lab : Nat → Role} {D : RD} {F : Fr} {t : Tb} {tr tl : Tok} (h : FI l id nx a σ0 lab0 D0 F0 C σ lab D F t tr tl) {S : Role → Prop} {σ' : St} {lab' : Nat → Role} {D' : RD} {t' : Tb}
    (k : Stp S σ lab σ' lab') (hS : ∀ r, S r → r = (0, 0) ∨ isB r ∨ (6 ≤ r.1 ∧ a + 1 ≤ r.2)) (hU : ∀ r, S r → isR a r) (hr : RdAt σ' lab' id l D' t') (ok : DOk l D') (le : D.pos ≤ D'.pos) (st : (D'.over = false ∧ D'.e = 0 ∧ Goes l D0 F0 D' F C) ∨ (D'.over = true ∧ Ends l D0 F0 D' C)) :
    FI l id nx a σ0 lab0 D0 F0 C σ' lab' D' F t' tr tl := by
  have hn : ∀ q, 6 ≤ q → ¬ S (q, a) := fun q hq hs => by
    rcases hS _ hs with e | e | e
    · have := congrArg Prod.fst e; simp only at this; omega
    · have := e.2.2.1; simp only at this; omega
    · have := e.2; simp only at this; omega
  obtain ⟨g1, g2⟩ := k.get h.nd (by rw [h.nl]; exact hn 6 (by omega))
  exact ⟨hr, ok, by have := h.le; omega, h.tr.stp k (hn 8 (by omega)), h.tl.stp k (hn 7 (by omega)), g1, g2.trans h.nl, h.k.trans k (fun _ h => h) hU, h.same, by have := h.ll; omega, by have := h.rl; omega, st⟩
set_option maxHeartbeats 8000000 in
theorem frame_step {l : List Mk} (hl : l.length ≤ 8000) {n : Nat} (ihF : ∀ k, k < n → SF l k) (ihL : ∀ k, k < n → SL l k) : SF l n := by
  intro σ0 lab0 id D0 t0 F0 ahead C kd H0 hok0 hov0 he0 hrem hkd hleft0 hrow0 hC hah
  refine fnG_in K_forebayref30_Dag_frame mixed rfl ?_
  simp only [S_forebayref30_Dag_frame]
  refine wpa_seqx (fun ε σ => ∃ nx, (ε 0 = .ref id 0 0 ∧ ε 1 = aInt kd ∧ ε 3 = .v (.int .i64 F0.now) ∧ ε 4 = .sl ahead.length (ahead.flatMap aSt) .none ∧ ε 7 = .ref nx 0 0) ∧ ∃ lab, σ[nx]? = some (.obj 0 (aNd F0.node)) ∧ lab nx = (6, D0.pos) ∧ RdAt σ lab id l D0 t0 ∧ Stp (isR D0.pos) σ0 lab0 σ lab) ?_ ?_
  · intro N X R hN
    simp (maxSteps := 1000000) (implicitDefEqProofs := false) (disch := omega) only [push_cast, ↓reduceIte, Nat.reduceEqDiff, reduceCtorEq, decide_true, decide_false, Bool.not_true, Bool.not_false, Option.isNone_some, Option.isNone_none, List.drop_zero, List.drop_succ_cons, List.getElem?_cons_zero, List.getElem?_cons_succ, List.length_cons, List.length_nil, List.take_succ_cons, List.take_zero, Nat.mul_one, Nat.zero_add, Nat.add_zero, Nat.one_mul, Nat.zero_mul, List.getElem?_map, List.getElem?_drop, List.getElem?_take, List.length_map, Option.map_some, List.set_cons_zero, List.set_cons_succ, and_true, true_and, List.flatMap_cons, List.flatMap_nil, Bool.not_not]
    refine wpa_box ?_
    have hac : (AV.agg (aNd F0.node)).cells = aNd F0.node := rfl
    rw [hac]
    simp (maxSteps := 1000000) (implicitDefEqProofs := false) (disch := omega) only [push_cast, ↓reduceIte, Nat.reduceEqDiff, reduceCtorEq, decide_true, decide_false, Bool.not_true, Bool.not_false, Option.isNone_some, Option.isNone_none, List.drop_zero, List.drop_succ_cons, List.getElem?_cons_zero, List.getElem?_cons_succ, List.length_cons, List.length_nil, List.take_succ_cons, List.take_zero, Nat.mul_one, Nat.zero_add, Nat.add_zero, Nat.one_mul, Nat.zero_mul, List.getElem?_map, List.getElem?_drop, List.getElem?_take, List.length_map, Option.map_some, List.set_cons_zero, List.set_cons_succ, and_true, true_and, List.flatMap_cons, List.flatMap_nil, Bool.not_not]
    refine hN _ _ ⟨σ0.length, ?_, labN σ0 lab0 (6, D0.pos), at_snoc _ _, labN_self _ _ _, H0.stp (stp_new (S := fun _ => False) (6, D0.pos)) fun _ _ _ h => h, stp_new (6, D0.pos)⟩
    simp (maxSteps := 1000000) (implicitDefEqProofs := false) (disch := omega) only [push_cast, ↓reduceIte, Nat.reduceEqDiff, reduceCtorEq, decide_true, decide_false, Bool.not_true, Bool.not_false, Option.isNone_some, Option.isNone_none, List.drop_zero, List.drop_succ_cons, List.getElem?_cons_zero, List.getElem?_cons_succ, List.length_cons, List.length_nil, List.take_succ_cons, List.take_zero, Nat.mul_one, Nat.zero_add, Nat.add_zero, Nat.one_mul, Nat.zero_mul, List.getElem?_map, List.getElem?_drop, List.getElem?_take, List.length_map, Option.map_some, List.set_cons_zero, List.set_cons_succ, and_true, true_and, List.flatMap_cons, List.flatMap_nil, Bool.not_not, aInt]
  rintro ε σ ⟨nx, hρ, lab, hnx, hnl, H, hk⟩
  refine wpa_seqx (fun ε σ' => (ε 0 = .ref id 0 0 ∧ ε 1 = aInt kd ∧ ε 3 = .v (.int .i64 F0.now) ∧ ε 4 = .sl ahead.length (ahead.flatMap aSt) .none ∧ ε 7 = .ref nx 0 0 ∧ ε 11 = .sl 0 [] .nil) ∧ σ' = σ) ?_ ?_
  · intro N X R hN
    simp (maxSteps := 1000000) (implicitDefEqProofs := false) (disch := omega) only [push_cast, ↓reduceIte, Nat.reduceEqDiff, reduceCtorEq, decide_true, decide_false, Bool.not_true, Bool.not_false, Option.isNone_some, Option.isNone_none, List.drop_zero, List.drop_succ_cons, List.getElem?_cons_zero, List.getElem?_cons_succ, List.length_cons, List.length_nil, List.take_succ_cons, List.take_zero, Nat.mul_one, Nat.zero_add, Nat.add_zero, Nat.one_mul, Nat.zero_mul, List.getElem?_map, List.getElem?_drop, List.getElem?_take, List.length_map, Option.map_some, List.set_cons_zero, List.set_cons_succ, and_true, true_and, List.flatMap_cons, List.flatMap_nil, Bool.not_not]
    refine hN _ _ ?_
    simp (maxSteps := 1000000) (implicitDefEqProofs := false) (disch := omega) only [push_cast, ↓reduceIte, Nat.reduceEqDiff, reduceCtorEq, decide_true, decide_false, Bool.not_true, Bool.not_false, Option.isNone_some, Option.isNone_none, List.drop_zero, List.drop_succ_cons, List.getElem?_cons_zero, List.getElem?_cons_succ, List.length_cons, List.length_nil, List.take_succ_cons, List.take_zero, Nat.mul_one, Nat.zero_add, Nat.add_zero, Nat.one_mul, Nat.zero_mul, List.getElem?_map, List.getElem?_drop, List.getElem?_take, List.length_map, Option.map_some, List.set_cons_zero, List.set_cons_succ, and_true, true_and, List.flatMap_cons, List.flatMap_nil, Bool.not_not, hρ]
  clear hρ ε
  rintro ε τ ⟨hρ, hτ⟩
  rw [hτ]
  clear hτ τ
  refine wpa_seqx (fun ε σ' => (ε 0 = .ref id 0 0 ∧ ε 1 = aInt kd ∧ ε 3 = .v (.int .i64 F0.now) ∧ ε 4 = .sl ahead.length (ahead.flatMap aSt) .none ∧ ε 7 = .ref nx 0 0 ∧ ε 11 = .sl 0 [] .nil ∧ ε 12 = .sl 0 [] .nil) ∧ σ' = σ) ?_ ?_
  · intro N X R hN
    simp (maxSteps := 1000000) (implicitDefEqProofs := false) (disch := omega) only [push_cast, ↓reduceIte, Nat.reduceEqDiff, reduceCtorEq, decide_true, decide_false, Bool.not_true, Bool.not_false, Option.isNone_some, Option.isNone_none, List.drop_zero, List.drop_succ_cons, List.getElem?_cons_zero, List.getElem?_cons_succ, List.length_cons, List.length_nil, List.take_succ_cons, List.take_zero, Nat.mul_one, Nat.zero_add, Nat.add_zero, Nat.one_mul, Nat.zero_mul, List.getElem?_map, List.getElem?_drop, List.getElem?_take, List.length_map, Option.map_some, List.set_cons_zero, List.set_cons_succ, and_true, true_and, List.flatMap_cons, List.flatMap_nil, Bool.not_not]
    refine hN _ _ ?_
    simp (maxSteps := 1000000) (implicitDefEqProofs := false) (disch := omega) only [push_cast, ↓reduceIte, Nat.reduceEqDiff, reduceCtorEq, decide_true, decide_false, Bool.not_true, Bool.not_false, Option.isNone_some, Option.isNone_none, List.drop_zero, List.drop_succ_cons, List.getElem?_cons_zero, List.getElem?_cons_succ, List.length_cons, List.length_nil, List.take_succ_cons, List.take_zero, Nat.mul_one, Nat.zero_add, Nat.add_zero, Nat.one_mul, Nat.zero_mul, List.getElem?_map, List.getElem?_drop, List.getElem?_take, List.length_map, Option.map_some, List.set_cons_zero, List.set_cons_succ, and_true, true_and, List.flatMap_cons, List.flatMap_nil, Bool.not_not, hρ]
  clear hρ ε
  rintro ε τ ⟨hρ, hτ⟩
  rw [hτ]
  clear hτ τ
  have hfi0 : FI l id nx D0.pos σ0 lab0 D0 F0 C σ lab D0 F0 t0 .nil .nil :=
    ⟨H, hok0, Nat.le_refl _, by rw [hrow0]; exact TokOk.nil, by rw [hleft0]; exact TokOk.nil, hnx, hnl, hk, ⟨rfl, rfl, rfl, rfl, fun _ => hrow0⟩, by rw [hleft0]; simp, by rw [hrow0]; simp, .inl ⟨hov0, he0, Goes.refl⟩⟩
  simp (maxSteps := 1000000) (implicitDefEqProofs := false) (disch := omega) only [push_cast, ↓reduceIte, Nat.reduceEqDiff, reduceCtorEq, decide_true, decide_false, Bool.not_true, Bool.not_false, Option.isNone_some, Option.isNone_none, List.drop_zero, List.drop_succ_cons, List.getElem?_cons_zero, List.getElem?_cons_succ, List.length_cons, List.length_nil, List.take_succ_cons, List.take_zero, Nat.mul_one, Nat.zero_add, Nat.add_zero, Nat.one_mul, Nat.zero_mul, List.getElem?_map, List.getElem?_drop, List.getElem?_take, List.length_map, Option.map_some, List.set_cons_zero, List.set_cons_succ, and_true, true_and, List.flatMap_cons, List.flatMap_nil, Bool.not_not]
  refine wpa_bl (α := RD × Fr) (I := fun x ε σ => (ε 0 = .ref id 0 0 ∧ ε 1 = aInt kd ∧ ε 3 = .v (.int .i64 x.2.now) ∧ ε 4 = .sl ahead.length (ahead.flatMap aSt) .none ∧ ε 7 = .ref nx 0 0) ∧
      ∃ lab t tr tl, (ε 11 = .sl x.2.row.length (x.2.row.flatMap aSt) tr ∧ ε 12 = .sl x.2.left.length (x.2.left.map aInt) tl) ∧ FI l id nx D0.pos σ0 lab0 D0 F0 C σ lab x.1 x.2 t tr tl)
    (μ := fun x => 2 * (l.length - x.1.pos) + if x.1.over then 0 else 1) (Q := fun _ σ => ∃ lab E t, RdAt σ lab id l E t ∧ DOk l E ∧ D0.pos ≤ E.pos ∧ (E.over = true ∧ Ends l D0 F0 E C) ∧ Stp (isR D0.pos) σ0 lab0 σ lab) (x := (D0, F0)) ?_ ?_ ?_
  · refine ⟨?_, lab, t0, .nil, .nil, ?_, hfi0⟩
    · simp (maxSteps := 1000000) (implicitDefEqProofs := false) (disch := omega) only [push_cast, ↓reduceIte, Nat.reduceEqDiff, reduceCtorEq, decide_true, decide_false, Bool.not_true, Bool.not_false, Option.isNone_some, Option.isNone_none, List.drop_zero, List.drop_succ_cons, List.getElem?_cons_zero, List.getElem?_cons_succ, List.length_cons, List.length_nil, List.take_succ_cons, List.take_zero, Nat.mul_one, Nat.zero_add, Nat.add_zero, Nat.one_mul, Nat.zero_mul, List.getElem?_map, List.getElem?_drop, List.getElem?_take, List.length_map, Option.map_some, List.set_cons_zero, List.set_cons_succ, and_true, true_and, List.flatMap_cons, List.flatMap_nil, Bool.not_not, hρ]
    · simp (maxSteps := 1000000) (implicitDefEqProofs := false) (disch := omega) only [push_cast, ↓reduceIte, Nat.reduceEqDiff, reduceCtorEq, decide_true, decide_false, Bool.not_true, Bool.not_false, Option.isNone_some, Option.isNone_none, List.drop_zero, List.drop_succ_cons, List.getElem?_cons_zero, List.getElem?_cons_succ, List.length_cons, List.length_nil, List.take_succ_cons, List.take_zero, Nat.mul_one, Nat.zero_add, Nat.add_zero, Nat.one_mul, Nat.zero_mul, List.getElem?_map, List.getElem?_drop, List.getElem?_take, List.length_map, Option.map_some, List.set_cons_zero, List.set_cons_succ, and_true, true_and, List.flatMap_cons, List.flatMap_nil, Bool.not_not, hρ, hleft0, hrow0]
      rfl
  · clear hρ hnx hnl H hk hfi0 ε σ lab
    rintro ⟨D, F⟩ ε σ N E ⟨hρ, lab, t, tr, tl, hrl, hfi⟩ hN hE
    simp only at hρ hrl hfi
    simp only [S_forebayref30_Dag_frame_L1]
    have ho := hfi.rd.obj
    rcases hfi.st with ⟨hov, he, hgo⟩ | ⟨hov, hen⟩
    · simp (maxSteps := 1000000) (implicitDefEqProofs := false) (disch := omega) only [push_cast, ↓reduceIte, Nat.reduceEqDiff, reduceCtorEq, decide_true, decide_false, Bool.not_true, Bool.not_false, Option.isNone_some, Option.isNone_none, List.drop_zero, List.drop_succ_cons, List.getElem?_cons_zero, List.getElem?_cons_succ, List.length_cons, List.length_nil, List.take_succ_cons, List.take_zero, Nat.mul_one, Nat.zero_add, Nat.add_zero, Nat.one_mul, Nat.zero_mul, List.getElem?_map, List.getElem?_drop, List.getElem?_take, List.length_map, Option.map_some, List.set_cons_zero, List.set_cons_succ, and_true, true_and, List.flatMap_cons, List.flatMap_nil, Bool.not_not, hρ, ho, rdC_5, hov]
      refine wpa_callG (next_a hfi.rd hfi.ok.pos hl) ?_
      rintro a σ1 ⟨rfl, lab1, H1, k1⟩
      simp (maxSteps := 1000000) (implicitDefEqProofs := false) (disch := omega) only [push_cast, ↓reduceIte, Nat.reduceEqDiff, reduceCtorEq, decide_true, decide_false, Bool.not_true, Bool.not_false, Option.isNone_some, Option.isNone_none, List.drop_zero, List.drop_succ_cons, List.getElem?_cons_zero, List.getElem?_cons_succ, List.length_cons, List.length_nil, List.take_succ_cons, List.take_zero, Nat.mul_one, Nat.zero_add, Nat.add_zero, Nat.one_mul, Nat.zero_mul, List.getElem?_map, List.getElem?_drop, List.getElem?_take, List.length_map, Option.map_some, List.set_cons_zero, List.set_cons_succ, and_true, true_and, List.flatMap_cons, List.flatMap_nil, Bool.not_not]
      refine wpa_new ?_
      have hz : (List.map abs1 [Value.int .i64 0, Value.int .i64 0, Value.int .i64 0]) = aMk ⟨0, 0, 0⟩ := rfl
      rw [hz]
      simp (maxSteps := 1000000) (implicitDefEqProofs := false) (disch := omega) only [push_cast, ↓reduceIte, Nat.reduceEqDiff, reduceCtorEq, decide_true, decide_false, Bool.not_true, Bool.not_false, Option.isNone_some, Option.isNone_none, List.drop_zero, List.drop_succ_cons, List.getElem?_cons_zero, List.getElem?_cons_succ, List.length_cons, List.length_nil, List.take_succ_cons, List.take_zero, Nat.mul_one, Nat.zero_add, Nat.add_zero, Nat.one_mul, Nat.zero_mul, List.getElem?_map, List.getElem?_drop, List.getElem?_take, List.length_map, Option.map_some, List.set_cons_zero, List.set_cons_succ, and_true, true_and, List.flatMap_cons, List.flatMap_nil, Bool.not_not]
      refine wpa_stn (aMk_len _) (by rfl) (at_snoc _ _) (by simp [aMk_len]) ?_
      have hset : ∀ a, setAtA (aMk ⟨0, 0, 0⟩) 0 (aMk a) = aMk a := fun _ => rfl
      simp (maxSteps := 1000000) (implicitDefEqProofs := false) (disch := omega) only [push_cast, ↓reduceIte, Nat.reduceEqDiff, reduceCtorEq, decide_true, decide_false, Bool.not_true, Bool.not_false, Option.isNone_some, Option.isNone_none, List.drop_zero, List.drop_succ_cons, List.getElem?_cons_zero, List.getElem?_cons_succ, List.length_cons, List.length_nil, List.take_succ_cons, List.take_zero, Nat.mul_one, Nat.zero_add, Nat.add_zero, Nat.one_mul, Nat.zero_mul, List.getElem?_map, List.getElem?_drop, List.getElem?_take, List.length_map, Option.map_some, List.set_cons_zero, List.set_cons_succ, and_true, true_and, List.flatMap_cons, List.flatMap_nil, Bool.not_not, hset]
      generalize hnx : D.next l = nx1 at H1 ⊢
      have k2 := k1.trans (stp_new (S := isB) (x := .obj 0 (aMk nx1.1)) (0, 0)) (U := isB) (fun _ h => h) fun _ h => h
      have H2 := H1.stp (stp_new (S := fun _ => False) (x := .obj 0 (aMk nx1.1)) (0, 0)) fun _ _ _ h => h
      have hmx : (σ1 ++ [Res.obj 0 (aMk nx1.1)])[σ1.length]? = some (.obj 0 (aMk nx1.1)) := at_snoc _ _
      have hlm : labN σ1 lab1 (0, 0) σ1.length = (0, 0) := labN_self _ _ _
      generalize σ1 ++ [Res.obj 0 (aMk nx1.1)] = σ2 at k2 H2 hmx ⊢
      generalize labN σ1 lab1 (0, 0) = lab2 at k2 H2 hlm
      generalize σ1.length = mx at hmx hlm ⊢
      clear H1 k1 ho
      have ho2 := H2.obj
      have hBR : ∀ r, isB r → r = (0, 0) ∨ isB r ∨ (6 ≤ r.1 ∧ D0.pos + 1 ≤ r.2) := fun r h => .inr (.inl h)
      cases hm : l[D.pos]? with
      | none =>
        have hn1 := next_end hm
        rw [hnx] at hn1
        subst hn1
        simp (maxSteps := 1000000) (implicitDefEqProofs := false) (disch := omega) only [push_cast, ↓reduceIte, Nat.reduceEqDiff, reduceCtorEq, decide_true, decide_false, Bool.not_true, Bool.not_false, Option.isNone_some, Option.isNone_none, List.drop_zero, List.drop_succ_cons, List.getElem?_cons_zero, List.getElem?_cons_succ, List.length_cons, List.length_nil, List.take_succ_cons, List.take_zero, Nat.mul_one, Nat.zero_add, Nat.add_zero, Nat.one_mul, Nat.zero_mul, List.getElem?_map, List.getElem?_drop, List.getElem?_take, List.length_map, Option.map_some, List.set_cons_zero, List.set_cons_succ, and_true, true_and, List.flatMap_cons, List.flatMap_nil, Bool.not_not, hρ, ho2, rdC_5]
        refine hN ({ D with over := true }, F) _ _ ⟨?_, lab2, t, tr, tl, ?_, hfi.stp k2 hBR (fun _ => isB_R) H2 ⟨hfi.ok.pos, hfi.ok.p, hfi.ok.q, hfi.ok.a⟩ (Nat.le_refl _) (.inr ⟨rfl, hgo.ends fun K _ => ends_end hm he⟩)⟩ ?_
        · simp (maxSteps := 1000000) (implicitDefEqProofs := false) (disch := omega) only [push_cast, ↓reduceIte, Nat.reduceEqDiff, reduceCtorEq, decide_true, decide_false, Bool.not_true, Bool.not_false, Option.isNone_some, Option.isNone_none, List.drop_zero, List.drop_succ_cons, List.getElem?_cons_zero, List.getElem?_cons_succ, List.length_cons, List.length_nil, List.take_succ_cons, List.take_zero, Nat.mul_one, Nat.zero_add, Nat.add_zero, Nat.one_mul, Nat.zero_mul, List.getElem?_map, List.getElem?_drop, List.getElem?_take, List.length_map, Option.map_some, List.set_cons_zero, List.set_cons_succ, and_true, true_and, List.flatMap_cons, List.flatMap_nil, Bool.not_not, hρ]
        · simp (maxSteps := 1000000) (implicitDefEqProofs := false) (disch := omega) only [push_cast, ↓reduceIte, Nat.reduceEqDiff, reduceCtorEq, decide_true, decide_false, Bool.not_true, Bool.not_false, Option.isNone_some, Option.isNone_none, List.drop_zero, List.drop_succ_cons, List.getElem?_cons_zero, List.getElem?_cons_succ, List.length_cons, List.length_nil, List.take_succ_cons, List.take_zero, Nat.mul_one, Nat.zero_add, Nat.add_zero, Nat.one_mul, Nat.zero_mul, List.getElem?_map, List.getElem?_drop, List.getElem?_take, List.length_map, Option.map_some, List.set_cons_zero, List.set_cons_succ, and_true, true_and, List.flatMap_cons, List.flatMap_nil, Bool.not_not, hrl]
        · simp [hov]
      | some m =>
      have hlt := lt_at hm
      by_cases hk : m.k < 1 ∨ 12 < m.k
      · have hn1 := next_bad hm hk
        rw [hnx] at hn1
        subst hn1
        simp (maxSteps := 1000000) (implicitDefEqProofs := false) (disch := omega) only [push_cast, ↓reduceIte, Nat.reduceEqDiff, reduceCtorEq, decide_true, decide_false, Bool.not_true, Bool.not_false, Option.isNone_some, Option.isNone_none, List.drop_zero, List.drop_succ_cons, List.getElem?_cons_zero, List.getElem?_cons_succ, List.length_cons, List.length_nil, List.take_succ_cons, List.take_zero, Nat.mul_one, Nat.zero_add, Nat.add_zero, Nat.one_mul, Nat.zero_mul, List.getElem?_map, List.getElem?_drop, List.getElem?_take, List.length_map, Option.map_some, List.set_cons_zero, List.set_cons_succ, and_true, true_and, List.flatMap_cons, List.flatMap_nil, Bool.not_not, hρ, ho2, rdC_5]
        refine hN ({ D with pos := D.pos + 1, e := 5, over := true }, F) _ _ ⟨?_, lab2, t, tr, tl, ?_, hfi.stp k2 hBR (fun _ => isB_R) H2 ⟨by simp only; omega, hfi.ok.p, hfi.ok.q, by have := hfi.ok.a; simp only; omega⟩ (by simp only; omega) (.inr ⟨rfl, hgo.ends fun K _ => ends_bad hm hk⟩)⟩ ?_
        · simp (maxSteps := 1000000) (implicitDefEqProofs := false) (disch := omega) only [push_cast, ↓reduceIte, Nat.reduceEqDiff, reduceCtorEq, decide_true, decide_false, Bool.not_true, Bool.not_false, Option.isNone_some, Option.isNone_none, List.drop_zero, List.drop_succ_cons, List.getElem?_cons_zero, List.getElem?_cons_succ, List.length_cons, List.length_nil, List.take_succ_cons, List.take_zero, Nat.mul_one, Nat.zero_add, Nat.add_zero, Nat.one_mul, Nat.zero_mul, List.getElem?_map, List.getElem?_drop, List.getElem?_take, List.length_map, Option.map_some, List.set_cons_zero, List.set_cons_succ, and_true, true_and, List.flatMap_cons, List.flatMap_nil, Bool.not_not, hρ]
        · simp (maxSteps := 1000000) (implicitDefEqProofs := false) (disch := omega) only [push_cast, ↓reduceIte, Nat.reduceEqDiff, reduceCtorEq, decide_true, decide_false, Bool.not_true, Bool.not_false, Option.isNone_some, Option.isNone_none, List.drop_zero, List.drop_succ_cons, List.getElem?_cons_zero, List.getElem?_cons_succ, List.length_cons, List.length_nil, List.take_succ_cons, List.take_zero, Nat.mul_one, Nat.zero_add, Nat.add_zero, Nat.one_mul, Nat.zero_mul, List.getElem?_map, List.getElem?_drop, List.getElem?_take, List.length_map, Option.map_some, List.set_cons_zero, List.set_cons_succ, and_true, true_and, List.flatMap_cons, List.flatMap_nil, Bool.not_not, hrl]
        · simp [hov]; omega
      have hn1 := next_ok hm hk
      rw [hnx] at hn1
      subst hn1
      have hov2 : D.nx.over = false := hov
      have hok2 : DOk l D.nx := hfi.ok.nx hm
      have hkF : kindOf kd F := by
        obtain ⟨g1, g2, _⟩ := hfi.same
        unfold kindOf at hkd ⊢
        rw [g1, g2]; exact hkd
      obtain ⟨hsk, hsc, hsl, hsi, hsr⟩ := hfi.same
      have hnd := hfi.nd
      obtain ⟨hnd2, hnl2⟩ := k2.get hnd (by rw [hfi.nl]; simp [isB])
      have hnl3 := hnl2.trans hfi.nl
      have hpos := hfi.ok.pos
      have nd0 : (aNd F.node)[0]? = some (.v (.int .i64 F.lp)) := rfl
      have nd1 : (aNd F.node)[1]? = some (.v (.int .i64 F.it)) := rfl
      have nd2 : (aNd F.node)[2]? = some (.v (.int .i64 F.sg)) := rfl
      have hmu : 2 * (l.length - (D.pos + 1)) + 1 < 2 * (l.length - D.pos) + (if D.over = true then 0 else 1) := by rw [hov]; simp; omega
      have htr2 := hfi.tr.stp k2 (by simp [isB])
      have htl2 := hfi.tl.stp k2 (by simp [isB])
      have hll := hfi.ll
      have hrl2 := hfi.rl
      by_cases c5 : m.k = 5 ∧ kd = 1
      · obtain ⟨k5, hkd1⟩ := c5
        subst hkd1
        have hF1 : F.kind = 1 ∧ F.child = true := by
          unfold kindOf at hkF
          rcases hkF with ⟨h, _, _⟩ | ⟨_, h1, h2⟩ | ⟨h, _, _⟩
          · omega
          · exact ⟨h1, h2⟩
          · omega
        simp (maxSteps := 1000000) (implicitDefEqProofs := false) (disch := omega) only [push_cast, ↓reduceIte, Nat.reduceEqDiff, reduceCtorEq, decide_true, decide_false, Bool.not_true, Bool.not_false, Option.isNone_some, Option.isNone_none, List.drop_zero, List.drop_succ_cons, List.getElem?_cons_zero, List.getElem?_cons_succ, List.length_cons, List.length_nil, List.take_succ_cons, List.take_zero, Nat.mul_one, Nat.zero_add, Nat.add_zero, Nat.one_mul, Nat.zero_mul, List.getElem?_map, List.getElem?_drop, List.getElem?_take, List.length_map, Option.map_some, List.set_cons_zero, List.set_cons_succ, and_true, true_and, List.flatMap_cons, List.flatMap_nil, Bool.not_not, hρ, ho2, rdC_5, hov2, hmx, aMk_0, k5, aInt, hrl, bldS]
        refine wpa_bsl (sz := 2) (by intro a ha; simp at ha; subst ha; rfl) (by simp) ?_
        have hac2 : ∀ p, (AV.agg (aSt p)).cells = aSt p := fun _ => rfl
        simp (maxSteps := 1000000) (implicitDefEqProofs := false) (disch := omega) only [push_cast, ↓reduceIte, Nat.reduceEqDiff, reduceCtorEq, decide_true, decide_false, Bool.not_true, Bool.not_false, Option.isNone_some, Option.isNone_none, List.drop_zero, List.drop_succ_cons, List.getElem?_cons_zero, List.getElem?_cons_succ, List.length_cons, List.length_nil, List.take_succ_cons, List.take_zero, Nat.mul_one, Nat.zero_add, Nat.add_zero, Nat.one_mul, Nat.zero_mul, List.getElem?_map, List.getElem?_drop, List.getElem?_take, List.length_map, Option.map_some, List.set_cons_zero, List.set_cons_succ, and_true, true_and, List.flatMap_cons, List.flatMap_nil, Bool.not_not, hac2]
        refine wpa_app_t (m := 1) rfl htr2 rfl rfl rfl (flat_len aSt_len _) (by omega) (by omega) ?_
        intro σ3 lab3 t3 k3 ht3
        simp (maxSteps := 1000000) (implicitDefEqProofs := false) (disch := omega) only [push_cast, ↓reduceIte, Nat.reduceEqDiff, reduceCtorEq, decide_true, decide_false, Bool.not_true, Bool.not_false, Option.isNone_some, Option.isNone_none, List.drop_zero, List.drop_succ_cons, List.getElem?_cons_zero, List.getElem?_cons_succ, List.length_cons, List.length_nil, List.take_succ_cons, List.take_zero, Nat.mul_one, Nat.zero_add, Nat.add_zero, Nat.one_mul, Nat.zero_mul, List.getElem?_map, List.getElem?_drop, List.getElem?_take, List.length_map, Option.map_some, List.set_cons_zero, List.set_cons_succ, and_true, true_and, List.flatMap_cons, List.flatMap_nil, Bool.not_not]
        refine ⟨lab3, D.nx, t, H2.stp k3 (fun q _ _ e => by have := congrArg Prod.fst e; simp only at this; omega), hok2, by have := hfi.le; unfold RD.nx; simp only; omega, .inr ⟨hov2, he, D, F, m, t3, rfl, hfi.ok, hm, .inl ⟨k5, hF1.2, hF1.1⟩, hfi.same, hrl2, hgo, ?_⟩, (hfi.k.trans k2 (U := isR D0.pos) (fun _ h => h) fun _ => isB_R).trans k3 (fun _ h => h) fun r e => by subst e; exact .inr ⟨by simp, by simp⟩⟩
        rw [if_pos hF1.1]
        simp [aSt]
      by_cases c10 : m.k = 10 ∧ kd = 2 ∧ m.a = F.it
      · obtain ⟨k10, hkd2, hma⟩ := c10
        subst hkd2
        have hF2 : F.kind = 2 := by
          unfold kindOf at hkF
          rcases hkF with ⟨h, _, _⟩ | ⟨h, _, _⟩ | ⟨_, h1, _⟩
          · omega
          · omega
          · exact h1
        simp (maxSteps := 1000000) (implicitDefEqProofs := false) (disch := omega) only [push_cast, ↓reduceIte, Nat.reduceEqDiff, reduceCtorEq, decide_true, decide_false, Bool.not_true, Bool.not_false, Option.isNone_some, Option.isNone_none, List.drop_zero, List.drop_succ_cons, List.getElem?_cons_zero, List.getElem?_cons_succ, List.length_cons, List.length_nil, List.take_succ_cons, List.take_zero, Nat.mul_one, Nat.zero_add, Nat.add_zero, Nat.one_mul, Nat.zero_mul, List.getElem?_map, List.getElem?_drop, List.getElem?_take, List.length_map, Option.map_some, List.set_cons_zero, List.set_cons_succ, and_true, true_and, List.flatMap_cons, List.flatMap_nil, Bool.not_not, hρ, ho2, rdC_5, hov2, hmx, aMk_0, aMk_1, k10, hma, hnd2, nd1, nd2, aInt, hrl, bldS]
        refine wpa_bsl (sz := 2) (by intro a ha; simp at ha; subst ha; rfl) (by simp) ?_
        have hac2 : ∀ p, (AV.agg (aSt p)).cells = aSt p := fun _ => rfl
        simp (maxSteps := 1000000) (implicitDefEqProofs := false) (disch := omega) only [push_cast, ↓reduceIte, Nat.reduceEqDiff, reduceCtorEq, decide_true, decide_false, Bool.not_true, Bool.not_false, Option.isNone_some, Option.isNone_none, List.drop_zero, List.drop_succ_cons, List.getElem?_cons_zero, List.getElem?_cons_succ, List.length_cons, List.length_nil, List.take_succ_cons, List.take_zero, Nat.mul_one, Nat.zero_add, Nat.add_zero, Nat.one_mul, Nat.zero_mul, List.getElem?_map, List.getElem?_drop, List.getElem?_take, List.length_map, Option.map_some, List.set_cons_zero, List.set_cons_succ, and_true, true_and, List.flatMap_cons, List.flatMap_nil, Bool.not_not, hac2]
        refine wpa_app_t (m := 1) rfl htr2 rfl rfl rfl (flat_len aSt_len _) (by omega) (by omega) ?_
        intro σ3 lab3 t3 k3 ht3
        simp (maxSteps := 1000000) (implicitDefEqProofs := false) (disch := omega) only [push_cast, ↓reduceIte, Nat.reduceEqDiff, reduceCtorEq, decide_true, decide_false, Bool.not_true, Bool.not_false, Option.isNone_some, Option.isNone_none, List.drop_zero, List.drop_succ_cons, List.getElem?_cons_zero, List.getElem?_cons_succ, List.length_cons, List.length_nil, List.take_succ_cons, List.take_zero, Nat.mul_one, Nat.zero_add, Nat.add_zero, Nat.one_mul, Nat.zero_mul, List.getElem?_map, List.getElem?_drop, List.getElem?_take, List.length_map, Option.map_some, List.set_cons_zero, List.set_cons_succ, and_true, true_and, List.flatMap_cons, List.flatMap_nil, Bool.not_not]
        refine ⟨lab3, D.nx, t, H2.stp k3 (fun q _ _ e => by have := congrArg Prod.fst e; simp only at this; omega), hok2, by have := hfi.le; unfold RD.nx; simp only; omega, .inr ⟨hov2, he, D, F, m, t3, rfl, hfi.ok, hm, .inr ⟨k10, hF2, hma⟩, hfi.same, hrl2, hgo, ?_⟩, (hfi.k.trans k2 (U := isR D0.pos) (fun _ h => h) fun _ => isB_R).trans k3 (fun _ h => h) fun r e => by subst e; exact .inr ⟨by simp, by simp⟩⟩
        rw [if_neg (by omega)]
        simp [aSt]
      have hF3 : F.kind ≠ 3 := by unfold kindOf at hkF; omega
      by_cases c3 : m.k ≤ 3
      · have hk3 : m.k = 1 ∨ m.k = 2 ∨ m.k = 3 := by omega
        have hza : (List.map abs1 [Value.int .i64 0, Value.int .i64 0, Value.bool false]) = aAc ⟨0, 0, false⟩ := rfl
        have hsetA : ∀ a, setAtA (aAc ⟨0, 0, false⟩) 0 (aAc a) = aAc a := fun _ => rfl
        have cell3c : ∀ n, cellsA (some 3) (aAc n) = some (.agg (aAc n)) := fun _ => rfl
        have bldA : ∀ (a b : Int) (c : Bool), fillA [AV.v (.int .i64 0), AV.v (.int .i64 0), AV.v (.bool false)] [(0, 1), (1, 1), (2, 1)] [AV.v (.int .i64 a), AV.v (.int .i64 b), AV.v (.bool c)] = some (aAc ⟨a, b, c⟩) := fun a b c => by simp [fillA, AV.cells, Value.cells, setAtA, aAc]
        have hmxa : ∀ x, (σ2 ++ [x])[mx]? = some (.obj 0 (aMk m)) := fun x => get_app hmx
        have step3 : ∀ x : Ac, Stp isB σ2 lab2 (σ2 ++ [Res.obj 0 (aAc x)]) (labN σ2 lab2 (0, 0)) ∧ RdAt (σ2 ++ [Res.obj 0 (aAc x)]) (labN σ2 lab2 (0, 0)) id l D.nx t := fun x => ⟨stp_new (0, 0), H2.stp (stp_new (S := fun _ => False) (0, 0)) fun _ _ _ h => h⟩
        rcases hk3 with k | k | k
        · have hao : accOf F m = ⟨F.now, m.a, false⟩ := by unfold accOf; rw [if_neg (by omega), decide_eq_false (by simp [k])]
          simp (maxSteps := 1000000) (implicitDefEqProofs := false) (disch := omega) only [push_cast, ↓reduceIte, Nat.reduceEqDiff, reduceCtorEq, decide_true, decide_false, Bool.not_true, Bool.not_false, Option.isNone_some, Option.isNone_none, List.drop_zero, List.drop_succ_cons, List.getElem?_cons_zero, List.getElem?_cons_succ, List.length_cons, List.length_nil, List.take_succ_cons, List.take_zero, Nat.mul_one, Nat.zero_add, Nat.add_zero, Nat.one_mul, Nat.zero_mul, List.getElem?_map, List.getElem?_drop, List.getElem?_take, List.length_map, Option.map_some, List.set_cons_zero, List.set_cons_succ, and_true, true_and, List.flatMap_cons, List.flatMap_nil, Bool.not_not, hρ, ho2, rdC_5, hov2, hmx, aMk_0, aMk_1, k, bldA]
          refine wpa_new ?_
          rw [hza]
          simp (maxSteps := 1000000) (implicitDefEqProofs := false) (disch := omega) only [push_cast, ↓reduceIte, Nat.reduceEqDiff, reduceCtorEq, decide_true, decide_false, Bool.not_true, Bool.not_false, Option.isNone_some, Option.isNone_none, List.drop_zero, List.drop_succ_cons, List.getElem?_cons_zero, List.getElem?_cons_succ, List.length_cons, List.length_nil, List.take_succ_cons, List.take_zero, Nat.mul_one, Nat.zero_add, Nat.add_zero, Nat.one_mul, Nat.zero_mul, List.getElem?_map, List.getElem?_drop, List.getElem?_take, List.length_map, Option.map_some, List.set_cons_zero, List.set_cons_succ, and_true, true_and, List.flatMap_cons, List.flatMap_nil, Bool.not_not]
          refine wpa_stn (aAc_len _) (aAc_one _) (at_snoc _ _) (by simp [aAc_len]) ?_
          simp (maxSteps := 1000000) (implicitDefEqProofs := false) (disch := omega) only [push_cast, ↓reduceIte, Nat.reduceEqDiff, reduceCtorEq, decide_true, decide_false, Bool.not_true, Bool.not_false, Option.isNone_some, Option.isNone_none, List.drop_zero, List.drop_succ_cons, List.getElem?_cons_zero, List.getElem?_cons_succ, List.length_cons, List.length_nil, List.take_succ_cons, List.take_zero, Nat.mul_one, Nat.zero_add, Nat.add_zero, Nat.one_mul, Nat.zero_mul, List.getElem?_map, List.getElem?_drop, List.getElem?_take, List.length_map, Option.map_some, List.set_cons_zero, List.set_cons_succ, and_true, true_and, List.flatMap_cons, List.flatMap_nil, Bool.not_not, hsetA, hmxa, aMk_0, k]
          obtain ⟨k3, H3⟩ := step3 ⟨F.now, m.a, false⟩
          have hax3 : (σ2 ++ [Res.obj 0 (aAc ⟨F.now, m.a, false⟩)])[σ2.length]? = some (.obj 0 (aAc ⟨F.now, m.a, false⟩)) := at_snoc _ _
          rw [← hao] at k3 H3 hax3 ⊢
          generalize σ2 ++ [Res.obj 0 (aAc (accOf F m))] = σ3 at k3 H3 hax3 ⊢
          generalize labN σ2 lab2 (0, 0) = lab3 at k3 H3
          generalize σ2.length = ax at hax3 ⊢
          have ho3 := H3.obj
          simp (maxSteps := 1000000) (implicitDefEqProofs := false) (disch := omega) only [push_cast, ↓reduceIte, Nat.reduceEqDiff, reduceCtorEq, decide_true, decide_false, Bool.not_true, Bool.not_false, Option.isNone_some, Option.isNone_none, List.drop_zero, List.drop_succ_cons, List.getElem?_cons_zero, List.getElem?_cons_succ, List.length_cons, List.length_nil, List.take_succ_cons, List.take_zero, Nat.mul_one, Nat.zero_add, Nat.add_zero, Nat.one_mul, Nat.zero_mul, List.getElem?_map, List.getElem?_drop, List.getElem?_take, List.length_map, Option.map_some, List.set_cons_zero, List.set_cons_succ, and_true, true_and, List.flatMap_cons, List.flatMap_nil, Bool.not_not, hρ, ho3, rdC_4, hax3, cell3c]
          refine wpa_bsl (sz := 3) (by intro a ha; simp at ha; subst ha; rfl) (by simp) ?_
          have hac2 : ∀ p, (AV.agg (aAc p)).cells = aAc p := fun _ => rfl
          simp (maxSteps := 1000000) (implicitDefEqProofs := false) (disch := omega) only [push_cast, ↓reduceIte, Nat.reduceEqDiff, reduceCtorEq, decide_true, decide_false, Bool.not_true, Bool.not_false, Option.isNone_some, Option.isNone_none, List.drop_zero, List.drop_succ_cons, List.getElem?_cons_zero, List.getElem?_cons_succ, List.length_cons, List.length_nil, List.take_succ_cons, List.take_zero, Nat.mul_one, Nat.zero_add, Nat.add_zero, Nat.one_mul, Nat.zero_mul, List.getElem?_map, List.getElem?_drop, List.getElem?_take, List.length_map, Option.map_some, List.set_cons_zero, List.set_cons_succ, and_true, true_and, List.flatMap_cons, List.flatMap_nil, Bool.not_not, hac2]
          refine ⟨aholds_lde (by simp (maxSteps := 1000000) (implicitDefEqProofs := false) (disch := omega) only [push_cast, ↓reduceIte, Nat.reduceEqDiff, reduceCtorEq, decide_true, decide_false, Bool.not_true, Bool.not_false, Option.isNone_some, Option.isNone_none, List.drop_zero, List.drop_succ_cons, List.getElem?_cons_zero, List.getElem?_cons_succ, List.length_cons, List.length_nil, List.take_succ_cons, List.take_zero, Nat.mul_one, Nat.zero_add, Nat.add_zero, Nat.one_mul, Nat.zero_mul, List.getElem?_map, List.getElem?_drop, List.getElem?_take, List.length_map, Option.map_some, List.set_cons_zero, List.set_cons_succ, and_true, true_and, List.flatMap_cons, List.flatMap_nil, Bool.not_not, ho3, rdC_4, H3.a.exact]), ?_⟩
          have haa := hfi.ok.a
          have hal : D.nx.accs.length = D.accs.length := rfl
          refine wpa_app_t (m := 1) rfl H3.a rfl rfl rfl (flat_len aAc_len _) (by omega) (by omega) ?_
          intro σ4 lab4 t4 k4 ht4
          have ho4 := (k4.get ho3 (by rw [H3.li]; simp)).1
          obtain ⟨n1, n2⟩ := H3.cs k4 (accOf F m) ht4
          simp (maxSteps := 1000000) (implicitDefEqProofs := false) (disch := omega) only [push_cast, ↓reduceIte, Nat.reduceEqDiff, reduceCtorEq, decide_true, decide_false, Bool.not_true, Bool.not_false, Option.isNone_some, Option.isNone_none, List.drop_zero, List.drop_succ_cons, List.getElem?_cons_zero, List.getElem?_cons_succ, List.length_cons, List.length_nil, List.take_succ_cons, List.take_zero, Nat.mul_one, Nat.zero_add, Nat.add_zero, Nat.one_mul, Nat.zero_mul, List.getElem?_map, List.getElem?_drop, List.getElem?_take, List.length_map, Option.map_some, List.set_cons_zero, List.set_cons_succ, and_true, true_and, List.flatMap_cons, List.flatMap_nil, Bool.not_not]
          refine wpa_st1 rfl rfl ho4 (by simp [rdC]) ?_
          have e4 : (rdC l D.nx t).set 4 (.sl (D.nx.accs.length + 1) (D.nx.accs.flatMap aAc ++ (aAc (accOf F m) ++ [])) t4) = rdC l { D.nx with accs := D.nx.accs ++ [accOf F m] } { t with a := t4 } := by
            have e2 : D.nx.accs.flatMap aAc ++ (aAc (accOf F m) ++ []) = (D.nx.accs ++ [accOf F m]).flatMap aAc := by simp
            rw [e2]
            simp [rdC]
          rw [e4]
          simp (maxSteps := 1000000) (implicitDefEqProofs := false) (disch := omega) only [push_cast, ↓reduceIte, Nat.reduceEqDiff, reduceCtorEq, decide_true, decide_false, Bool.not_true, Bool.not_false, Option.isNone_some, Option.isNone_none, List.drop_zero, List.drop_succ_cons, List.getElem?_cons_zero, List.getElem?_cons_succ, List.length_cons, List.length_nil, List.take_succ_cons, List.take_zero, Nat.mul_one, Nat.zero_add, Nat.add_zero, Nat.one_mul, Nat.zero_mul, List.getElem?_map, List.getElem?_drop, List.getElem?_take, List.length_map, Option.map_some, List.set_cons_zero, List.set_cons_succ, and_true, true_and, List.flatMap_cons, List.flatMap_nil, Bool.not_not]
          refine hN ({ D.nx with accs := D.nx.accs ++ [accOf F m] }, F) _ _ ⟨?_, lab4, _, tr, tl, ?_, hfi.stp ((k2.trans k3 (U := isB) (fun _ h => h) fun _ h => h).trans n2 (U := isB) (fun _ h => h) fun _ h => h) hBR (fun _ => isB_R) n1 ⟨hok2.pos, hok2.p, hok2.q, by simp only [List.length_append, List.length_singleton, RD.nx]; omega⟩ (by simp only [RD.nx]; omega) (.inl ⟨hov, he, hgo.trans fun K _ => s_access hm (by omega) hF3⟩)⟩ ?_
          · simp (maxSteps := 1000000) (implicitDefEqProofs := false) (disch := omega) only [push_cast, ↓reduceIte, Nat.reduceEqDiff, reduceCtorEq, decide_true, decide_false, Bool.not_true, Bool.not_false, Option.isNone_some, Option.isNone_none, List.drop_zero, List.drop_succ_cons, List.getElem?_cons_zero, List.getElem?_cons_succ, List.length_cons, List.length_nil, List.take_succ_cons, List.take_zero, Nat.mul_one, Nat.zero_add, Nat.add_zero, Nat.one_mul, Nat.zero_mul, List.getElem?_map, List.getElem?_drop, List.getElem?_take, List.length_map, Option.map_some, List.set_cons_zero, List.set_cons_succ, and_true, true_and, List.flatMap_cons, List.flatMap_nil, Bool.not_not, hρ]
          · simp (maxSteps := 1000000) (implicitDefEqProofs := false) (disch := omega) only [push_cast, ↓reduceIte, Nat.reduceEqDiff, reduceCtorEq, decide_true, decide_false, Bool.not_true, Bool.not_false, Option.isNone_some, Option.isNone_none, List.drop_zero, List.drop_succ_cons, List.getElem?_cons_zero, List.getElem?_cons_succ, List.length_cons, List.length_nil, List.take_succ_cons, List.take_zero, Nat.mul_one, Nat.zero_add, Nat.add_zero, Nat.one_mul, Nat.zero_mul, List.getElem?_map, List.getElem?_drop, List.getElem?_take, List.length_map, Option.map_some, List.set_cons_zero, List.set_cons_succ, and_true, true_and, List.flatMap_cons, List.flatMap_nil, Bool.not_not, hrl]
          · simp only [RD.nx, hov, Bool.false_eq_true, if_false]; omega
        · have hao : accOf F m = ⟨F.now, m.a, true⟩ := by unfold accOf; rw [if_neg (by omega), decide_eq_true (by simp [k])]
          simp (maxSteps := 1000000) (implicitDefEqProofs := false) (disch := omega) only [push_cast, ↓reduceIte, Nat.reduceEqDiff, reduceCtorEq, decide_true, decide_false, Bool.not_true, Bool.not_false, Option.isNone_some, Option.isNone_none, List.drop_zero, List.drop_succ_cons, List.getElem?_cons_zero, List.getElem?_cons_succ, List.length_cons, List.length_nil, List.take_succ_cons, List.take_zero, Nat.mul_one, Nat.zero_add, Nat.add_zero, Nat.one_mul, Nat.zero_mul, List.getElem?_map, List.getElem?_drop, List.getElem?_take, List.length_map, Option.map_some, List.set_cons_zero, List.set_cons_succ, and_true, true_and, List.flatMap_cons, List.flatMap_nil, Bool.not_not, hρ, ho2, rdC_5, hov2, hmx, aMk_0, aMk_1, k, bldA]
          refine wpa_new ?_
          rw [hza]
          simp (maxSteps := 1000000) (implicitDefEqProofs := false) (disch := omega) only [push_cast, ↓reduceIte, Nat.reduceEqDiff, reduceCtorEq, decide_true, decide_false, Bool.not_true, Bool.not_false, Option.isNone_some, Option.isNone_none, List.drop_zero, List.drop_succ_cons, List.getElem?_cons_zero, List.getElem?_cons_succ, List.length_cons, List.length_nil, List.take_succ_cons, List.take_zero, Nat.mul_one, Nat.zero_add, Nat.add_zero, Nat.one_mul, Nat.zero_mul, List.getElem?_map, List.getElem?_drop, List.getElem?_take, List.length_map, Option.map_some, List.set_cons_zero, List.set_cons_succ, and_true, true_and, List.flatMap_cons, List.flatMap_nil, Bool.not_not]
          refine wpa_stn (aAc_len _) (aAc_one _) (at_snoc _ _) (by simp [aAc_len]) ?_
          simp (maxSteps := 1000000) (implicitDefEqProofs := false) (disch := omega) only [push_cast, ↓reduceIte, Nat.reduceEqDiff, reduceCtorEq, decide_true, decide_false, Bool.not_true, Bool.not_false, Option.isNone_some, Option.isNone_none, List.drop_zero, List.drop_succ_cons, List.getElem?_cons_zero, List.getElem?_cons_succ, List.length_cons, List.length_nil, List.take_succ_cons, List.take_zero, Nat.mul_one, Nat.zero_add, Nat.add_zero, Nat.one_mul, Nat.zero_mul, List.getElem?_map, List.getElem?_drop, List.getElem?_take, List.length_map, Option.map_some, List.set_cons_zero, List.set_cons_succ, and_true, true_and, List.flatMap_cons, List.flatMap_nil, Bool.not_not, hsetA, hmxa, aMk_0, k]
          obtain ⟨k3, H3⟩ := step3 ⟨F.now, m.a, true⟩
          have hax3 : (σ2 ++ [Res.obj 0 (aAc ⟨F.now, m.a, true⟩)])[σ2.length]? = some (.obj 0 (aAc ⟨F.now, m.a, true⟩)) := at_snoc _ _
          rw [← hao] at k3 H3 hax3 ⊢
          generalize σ2 ++ [Res.obj 0 (aAc (accOf F m))] = σ3 at k3 H3 hax3 ⊢
          generalize labN σ2 lab2 (0, 0) = lab3 at k3 H3
          generalize σ2.length = ax at hax3 ⊢
          have ho3 := H3.obj
          simp (maxSteps := 1000000) (implicitDefEqProofs := false) (disch := omega) only [push_cast, ↓reduceIte, Nat.reduceEqDiff, reduceCtorEq, decide_true, decide_false, Bool.not_true, Bool.not_false, Option.isNone_some, Option.isNone_none, List.drop_zero, List.drop_succ_cons, List.getElem?_cons_zero, List.getElem?_cons_succ, List.length_cons, List.length_nil, List.take_succ_cons, List.take_zero, Nat.mul_one, Nat.zero_add, Nat.add_zero, Nat.one_mul, Nat.zero_mul, List.getElem?_map, List.getElem?_drop, List.getElem?_take, List.length_map, Option.map_some, List.set_cons_zero, List.set_cons_succ, and_true, true_and, List.flatMap_cons, List.flatMap_nil, Bool.not_not, hρ, ho3, rdC_4, hax3, cell3c]
          refine wpa_bsl (sz := 3) (by intro a ha; simp at ha; subst ha; rfl) (by simp) ?_
          have hac2 : ∀ p, (AV.agg (aAc p)).cells = aAc p := fun _ => rfl
          simp (maxSteps := 1000000) (implicitDefEqProofs := false) (disch := omega) only [push_cast, ↓reduceIte, Nat.reduceEqDiff, reduceCtorEq, decide_true, decide_false, Bool.not_true, Bool.not_false, Option.isNone_some, Option.isNone_none, List.drop_zero, List.drop_succ_cons, List.getElem?_cons_zero, List.getElem?_cons_succ, List.length_cons, List.length_nil, List.take_succ_cons, List.take_zero, Nat.mul_one, Nat.zero_add, Nat.add_zero, Nat.one_mul, Nat.zero_mul, List.getElem?_map, List.getElem?_drop, List.getElem?_take, List.length_map, Option.map_some, List.set_cons_zero, List.set_cons_succ, and_true, true_and, List.flatMap_cons, List.flatMap_nil, Bool.not_not, hac2]
          refine ⟨aholds_lde (by simp (maxSteps := 1000000) (implicitDefEqProofs := false) (disch := omega) only [push_cast, ↓reduceIte, Nat.reduceEqDiff, reduceCtorEq, decide_true, decide_false, Bool.not_true, Bool.not_false, Option.isNone_some, Option.isNone_none, List.drop_zero, List.drop_succ_cons, List.getElem?_cons_zero, List.getElem?_cons_succ, List.length_cons, List.length_nil, List.take_succ_cons, List.take_zero, Nat.mul_one, Nat.zero_add, Nat.add_zero, Nat.one_mul, Nat.zero_mul, List.getElem?_map, List.getElem?_drop, List.getElem?_take, List.length_map, Option.map_some, List.set_cons_zero, List.set_cons_succ, and_true, true_and, List.flatMap_cons, List.flatMap_nil, Bool.not_not, ho3, rdC_4, H3.a.exact]), ?_⟩
          have haa := hfi.ok.a
          have hal : D.nx.accs.length = D.accs.length := rfl
          refine wpa_app_t (m := 1) rfl H3.a rfl rfl rfl (flat_len aAc_len _) (by omega) (by omega) ?_
          intro σ4 lab4 t4 k4 ht4
          have ho4 := (k4.get ho3 (by rw [H3.li]; simp)).1
          obtain ⟨n1, n2⟩ := H3.cs k4 (accOf F m) ht4
          simp (maxSteps := 1000000) (implicitDefEqProofs := false) (disch := omega) only [push_cast, ↓reduceIte, Nat.reduceEqDiff, reduceCtorEq, decide_true, decide_false, Bool.not_true, Bool.not_false, Option.isNone_some, Option.isNone_none, List.drop_zero, List.drop_succ_cons, List.getElem?_cons_zero, List.getElem?_cons_succ, List.length_cons, List.length_nil, List.take_succ_cons, List.take_zero, Nat.mul_one, Nat.zero_add, Nat.add_zero, Nat.one_mul, Nat.zero_mul, List.getElem?_map, List.getElem?_drop, List.getElem?_take, List.length_map, Option.map_some, List.set_cons_zero, List.set_cons_succ, and_true, true_and, List.flatMap_cons, List.flatMap_nil, Bool.not_not]
          refine wpa_st1 rfl rfl ho4 (by simp [rdC]) ?_
          have e4 : (rdC l D.nx t).set 4 (.sl (D.nx.accs.length + 1) (D.nx.accs.flatMap aAc ++ (aAc (accOf F m) ++ [])) t4) = rdC l { D.nx with accs := D.nx.accs ++ [accOf F m] } { t with a := t4 } := by
            have e2 : D.nx.accs.flatMap aAc ++ (aAc (accOf F m) ++ []) = (D.nx.accs ++ [accOf F m]).flatMap aAc := by simp
            rw [e2]
            simp [rdC]
          rw [e4]
          simp (maxSteps := 1000000) (implicitDefEqProofs := false) (disch := omega) only [push_cast, ↓reduceIte, Nat.reduceEqDiff, reduceCtorEq, decide_true, decide_false, Bool.not_true, Bool.not_false, Option.isNone_some, Option.isNone_none, List.drop_zero, List.drop_succ_cons, List.getElem?_cons_zero, List.getElem?_cons_succ, List.length_cons, List.length_nil, List.take_succ_cons, List.take_zero, Nat.mul_one, Nat.zero_add, Nat.add_zero, Nat.one_mul, Nat.zero_mul, List.getElem?_map, List.getElem?_drop, List.getElem?_take, List.length_map, Option.map_some, List.set_cons_zero, List.set_cons_succ, and_true, true_and, List.flatMap_cons, List.flatMap_nil, Bool.not_not]
          refine hN ({ D.nx with accs := D.nx.accs ++ [accOf F m] }, F) _ _ ⟨?_, lab4, _, tr, tl, ?_, hfi.stp ((k2.trans k3 (U := isB) (fun _ h => h) fun _ h => h).trans n2 (U := isB) (fun _ h => h) fun _ h => h) hBR (fun _ => isB_R) n1 ⟨hok2.pos, hok2.p, hok2.q, by simp only [List.length_append, List.length_singleton, RD.nx]; omega⟩ (by simp only [RD.nx]; omega) (.inl ⟨hov, he, hgo.trans fun K _ => s_access hm (by omega) hF3⟩)⟩ ?_
          · simp (maxSteps := 1000000) (implicitDefEqProofs := false) (disch := omega) only [push_cast, ↓reduceIte, Nat.reduceEqDiff, reduceCtorEq, decide_true, decide_false, Bool.not_true, Bool.not_false, Option.isNone_some, Option.isNone_none, List.drop_zero, List.drop_succ_cons, List.getElem?_cons_zero, List.getElem?_cons_succ, List.length_cons, List.length_nil, List.take_succ_cons, List.take_zero, Nat.mul_one, Nat.zero_add, Nat.add_zero, Nat.one_mul, Nat.zero_mul, List.getElem?_map, List.getElem?_drop, List.getElem?_take, List.length_map, Option.map_some, List.set_cons_zero, List.set_cons_succ, and_true, true_and, List.flatMap_cons, List.flatMap_nil, Bool.not_not, hρ]
          · simp (maxSteps := 1000000) (implicitDefEqProofs := false) (disch := omega) only [push_cast, ↓reduceIte, Nat.reduceEqDiff, reduceCtorEq, decide_true, decide_false, Bool.not_true, Bool.not_false, Option.isNone_some, Option.isNone_none, List.drop_zero, List.drop_succ_cons, List.getElem?_cons_zero, List.getElem?_cons_succ, List.length_cons, List.length_nil, List.take_succ_cons, List.take_zero, Nat.mul_one, Nat.zero_add, Nat.add_zero, Nat.one_mul, Nat.zero_mul, List.getElem?_map, List.getElem?_drop, List.getElem?_take, List.length_map, Option.map_some, List.set_cons_zero, List.set_cons_succ, and_true, true_and, List.flatMap_cons, List.flatMap_nil, Bool.not_not, hrl]
          · simp only [RD.nx, hov, Bool.false_eq_true, if_false]; omega
        · have hao : accOf F m = ⟨F.now, -1, true⟩ := by unfold accOf; rw [if_pos k, decide_eq_true (by simp [k])]
          simp (maxSteps := 1000000) (implicitDefEqProofs := false) (disch := omega) only [push_cast, ↓reduceIte, Nat.reduceEqDiff, reduceCtorEq, decide_true, decide_false, Bool.not_true, Bool.not_false, Option.isNone_some, Option.isNone_none, List.drop_zero, List.drop_succ_cons, List.getElem?_cons_zero, List.getElem?_cons_succ, List.length_cons, List.length_nil, List.take_succ_cons, List.take_zero, Nat.mul_one, Nat.zero_add, Nat.add_zero, Nat.one_mul, Nat.zero_mul, List.getElem?_map, List.getElem?_drop, List.getElem?_take, List.length_map, Option.map_some, List.set_cons_zero, List.set_cons_succ, and_true, true_and, List.flatMap_cons, List.flatMap_nil, Bool.not_not, hρ, ho2, rdC_5, hov2, hmx, aMk_0, aMk_1, k, bldA]
          refine wpa_new ?_
          rw [hza]
          simp (maxSteps := 1000000) (implicitDefEqProofs := false) (disch := omega) only [push_cast, ↓reduceIte, Nat.reduceEqDiff, reduceCtorEq, decide_true, decide_false, Bool.not_true, Bool.not_false, Option.isNone_some, Option.isNone_none, List.drop_zero, List.drop_succ_cons, List.getElem?_cons_zero, List.getElem?_cons_succ, List.length_cons, List.length_nil, List.take_succ_cons, List.take_zero, Nat.mul_one, Nat.zero_add, Nat.add_zero, Nat.one_mul, Nat.zero_mul, List.getElem?_map, List.getElem?_drop, List.getElem?_take, List.length_map, Option.map_some, List.set_cons_zero, List.set_cons_succ, and_true, true_and, List.flatMap_cons, List.flatMap_nil, Bool.not_not]
          refine wpa_stn (aAc_len _) (aAc_one _) (at_snoc _ _) (by simp [aAc_len]) ?_
          simp (maxSteps := 1000000) (implicitDefEqProofs := false) (disch := omega) only [push_cast, ↓reduceIte, Nat.reduceEqDiff, reduceCtorEq, decide_true, decide_false, Bool.not_true, Bool.not_false, Option.isNone_some, Option.isNone_none, List.drop_zero, List.drop_succ_cons, List.getElem?_cons_zero, List.getElem?_cons_succ, List.length_cons, List.length_nil, List.take_succ_cons, List.take_zero, Nat.mul_one, Nat.zero_add, Nat.add_zero, Nat.one_mul, Nat.zero_mul, List.getElem?_map, List.getElem?_drop, List.getElem?_take, List.length_map, Option.map_some, List.set_cons_zero, List.set_cons_succ, and_true, true_and, List.flatMap_cons, List.flatMap_nil, Bool.not_not, hsetA, hmxa, aMk_0, k]
          refine wpa_st1 rfl rfl (at_snoc _ _) (by simp [aAc]) ?_
          have e0 : (aAc ⟨F.now, m.a, true⟩).set 1 (.v (.int .i64 (-1))) = aAc ⟨F.now, -1, true⟩ := rfl
          simp (maxSteps := 1000000) (implicitDefEqProofs := false) (disch := omega) only [push_cast, ↓reduceIte, Nat.reduceEqDiff, reduceCtorEq, decide_true, decide_false, Bool.not_true, Bool.not_false, Option.isNone_some, Option.isNone_none, List.drop_zero, List.drop_succ_cons, List.getElem?_cons_zero, List.getElem?_cons_succ, List.length_cons, List.length_nil, List.take_succ_cons, List.take_zero, Nat.mul_one, Nat.zero_add, Nat.add_zero, Nat.one_mul, Nat.zero_mul, List.getElem?_map, List.getElem?_drop, List.getElem?_take, List.length_map, Option.map_some, List.set_cons_zero, List.set_cons_succ, and_true, true_and, List.flatMap_cons, List.flatMap_nil, Bool.not_not, e0]
          obtain ⟨k3, H3⟩ := step3 ⟨F.now, -1, true⟩
          have hax3 : (σ2 ++ [Res.obj 0 (aAc ⟨F.now, -1, true⟩)])[σ2.length]? = some (.obj 0 (aAc ⟨F.now, -1, true⟩)) := at_snoc _ _
          rw [← hao] at k3 H3 hax3 ⊢
          generalize σ2 ++ [Res.obj 0 (aAc (accOf F m))] = σ3 at k3 H3 hax3 ⊢
          generalize labN σ2 lab2 (0, 0) = lab3 at k3 H3
          generalize σ2.length = ax at hax3 ⊢
          have ho3 := H3.obj
          simp (maxSteps := 1000000) (implicitDefEqProofs := false) (disch := omega) only [push_cast, ↓reduceIte, Nat.reduceEqDiff, reduceCtorEq, decide_true, decide_false, Bool.not_true, Bool.not_false, Option.isNone_some, Option.isNone_none, List.drop_zero, List.drop_succ_cons, List.getElem?_cons_zero, List.getElem?_cons_succ, List.length_cons, List.length_nil, List.take_succ_cons, List.take_zero, Nat.mul_one, Nat.zero_add, Nat.add_zero, Nat.one_mul, Nat.zero_mul, List.getElem?_map, List.getElem?_drop, List.getElem?_take, List.length_map, Option.map_some, List.set_cons_zero, List.set_cons_succ, and_true, true_and, List.flatMap_cons, List.flatMap_nil, Bool.not_not, hρ, ho3, rdC_4, hax3, cell3c]
          refine wpa_bsl (sz := 3) (by intro a ha; simp at ha; subst ha; rfl) (by simp) ?_
          have hac2 : ∀ p, (AV.agg (aAc p)).cells = aAc p := fun _ => rfl
          simp (maxSteps := 1000000) (implicitDefEqProofs := false) (disch := omega) only [push_cast, ↓reduceIte, Nat.reduceEqDiff, reduceCtorEq, decide_true, decide_false, Bool.not_true, Bool.not_false, Option.isNone_some, Option.isNone_none, List.drop_zero, List.drop_succ_cons, List.getElem?_cons_zero, List.getElem?_cons_succ, List.length_cons, List.length_nil, List.take_succ_cons, List.take_zero, Nat.mul_one, Nat.zero_add, Nat.add_zero, Nat.one_mul, Nat.zero_mul, List.getElem?_map, List.getElem?_drop, List.getElem?_take, List.length_map, Option.map_some, List.set_cons_zero, List.set_cons_succ, and_true, true_and, List.flatMap_cons, List.flatMap_nil, Bool.not_not, hac2]
          refine ⟨aholds_lde (by simp (maxSteps := 1000000) (implicitDefEqProofs := false) (disch := omega) only [push_cast, ↓reduceIte, Nat.reduceEqDiff, reduceCtorEq, decide_true, decide_false, Bool.not_true, Bool.not_false, Option.isNone_some, Option.isNone_none, List.drop_zero, List.drop_succ_cons, List.getElem?_cons_zero, List.getElem?_cons_succ, List.length_cons, List.length_nil, List.take_succ_cons, List.take_zero, Nat.mul_one, Nat.zero_add, Nat.add_zero, Nat.one_mul, Nat.zero_mul, List.getElem?_map, List.getElem?_drop, List.getElem?_take, List.length_map, Option.map_some, List.set_cons_zero, List.set_cons_succ, and_true, true_and, List.flatMap_cons, List.flatMap_nil, Bool.not_not, ho3, rdC_4, H3.a.exact]), ?_⟩
          have haa := hfi.ok.a
          have hal : D.nx.accs.length = D.accs.length := rfl
          refine wpa_app_t (m := 1) rfl H3.a rfl rfl rfl (flat_len aAc_len _) (by omega) (by omega) ?_
          intro σ4 lab4 t4 k4 ht4
          have ho4 := (k4.get ho3 (by rw [H3.li]; simp)).1
          obtain ⟨n1, n2⟩ := H3.cs k4 (accOf F m) ht4
          simp (maxSteps := 1000000) (implicitDefEqProofs := false) (disch := omega) only [push_cast, ↓reduceIte, Nat.reduceEqDiff, reduceCtorEq, decide_true, decide_false, Bool.not_true, Bool.not_false, Option.isNone_some, Option.isNone_none, List.drop_zero, List.drop_succ_cons, List.getElem?_cons_zero, List.getElem?_cons_succ, List.length_cons, List.length_nil, List.take_succ_cons, List.take_zero, Nat.mul_one, Nat.zero_add, Nat.add_zero, Nat.one_mul, Nat.zero_mul, List.getElem?_map, List.getElem?_drop, List.getElem?_take, List.length_map, Option.map_some, List.set_cons_zero, List.set_cons_succ, and_true, true_and, List.flatMap_cons, List.flatMap_nil, Bool.not_not]
          refine wpa_st1 rfl rfl ho4 (by simp [rdC]) ?_
          have e4 : (rdC l D.nx t).set 4 (.sl (D.nx.accs.length + 1) (D.nx.accs.flatMap aAc ++ (aAc (accOf F m) ++ [])) t4) = rdC l { D.nx with accs := D.nx.accs ++ [accOf F m] } { t with a := t4 } := by
            have e2 : D.nx.accs.flatMap aAc ++ (aAc (accOf F m) ++ []) = (D.nx.accs ++ [accOf F m]).flatMap aAc := by simp
            rw [e2]
            simp [rdC]
          rw [e4]
          simp (maxSteps := 1000000) (implicitDefEqProofs := false) (disch := omega) only [push_cast, ↓reduceIte, Nat.reduceEqDiff, reduceCtorEq, decide_true, decide_false, Bool.not_true, Bool.not_false, Option.isNone_some, Option.isNone_none, List.drop_zero, List.drop_succ_cons, List.getElem?_cons_zero, List.getElem?_cons_succ, List.length_cons, List.length_nil, List.take_succ_cons, List.take_zero, Nat.mul_one, Nat.zero_add, Nat.add_zero, Nat.one_mul, Nat.zero_mul, List.getElem?_map, List.getElem?_drop, List.getElem?_take, List.length_map, Option.map_some, List.set_cons_zero, List.set_cons_succ, and_true, true_and, List.flatMap_cons, List.flatMap_nil, Bool.not_not]
          refine hN ({ D.nx with accs := D.nx.accs ++ [accOf F m] }, F) _ _ ⟨?_, lab4, _, tr, tl, ?_, hfi.stp ((k2.trans k3 (U := isB) (fun _ h => h) fun _ h => h).trans n2 (U := isB) (fun _ h => h) fun _ h => h) hBR (fun _ => isB_R) n1 ⟨hok2.pos, hok2.p, hok2.q, by simp only [List.length_append, List.length_singleton, RD.nx]; omega⟩ (by simp only [RD.nx]; omega) (.inl ⟨hov, he, hgo.trans fun K _ => s_access hm (by omega) hF3⟩)⟩ ?_
          · simp (maxSteps := 1000000) (implicitDefEqProofs := false) (disch := omega) only [push_cast, ↓reduceIte, Nat.reduceEqDiff, reduceCtorEq, decide_true, decide_false, Bool.not_true, Bool.not_false, Option.isNone_some, Option.isNone_none, List.drop_zero, List.drop_succ_cons, List.getElem?_cons_zero, List.getElem?_cons_succ, List.length_cons, List.length_nil, List.take_succ_cons, List.take_zero, Nat.mul_one, Nat.zero_add, Nat.add_zero, Nat.one_mul, Nat.zero_mul, List.getElem?_map, List.getElem?_drop, List.getElem?_take, List.length_map, Option.map_some, List.set_cons_zero, List.set_cons_succ, and_true, true_and, List.flatMap_cons, List.flatMap_nil, Bool.not_not, hρ]
          · simp (maxSteps := 1000000) (implicitDefEqProofs := false) (disch := omega) only [push_cast, ↓reduceIte, Nat.reduceEqDiff, reduceCtorEq, decide_true, decide_false, Bool.not_true, Bool.not_false, Option.isNone_some, Option.isNone_none, List.drop_zero, List.drop_succ_cons, List.getElem?_cons_zero, List.getElem?_cons_succ, List.length_cons, List.length_nil, List.take_succ_cons, List.take_zero, Nat.mul_one, Nat.zero_add, Nat.add_zero, Nat.one_mul, Nat.zero_mul, List.getElem?_map, List.getElem?_drop, List.getElem?_take, List.length_map, Option.map_some, List.set_cons_zero, List.set_cons_succ, and_true, true_and, List.flatMap_cons, List.flatMap_nil, Bool.not_not, hrl]
          · simp only [RD.nx, hov, Bool.false_eq_true, if_false]; omega
      by_cases c4 : m.k = 4
      · have hz3 : AV.agg [AV.v (.int .i64 0), AV.v (.int .i64 0), AV.v (.int .i64 0)] = .agg (aNd (0, 0, 0)) := rfl
        simp (maxSteps := 1000000) (implicitDefEqProofs := false) (disch := omega) only [push_cast, ↓reduceIte, Nat.reduceEqDiff, reduceCtorEq, decide_true, decide_false, Bool.not_true, Bool.not_false, Option.isNone_some, Option.isNone_none, List.drop_zero, List.drop_succ_cons, List.getElem?_cons_zero, List.getElem?_cons_succ, List.length_cons, List.length_nil, List.take_succ_cons, List.take_zero, Nat.mul_one, Nat.zero_add, Nat.add_zero, Nat.one_mul, Nat.zero_mul, List.getElem?_map, List.getElem?_drop, List.getElem?_take, List.length_map, Option.map_some, List.set_cons_zero, List.set_cons_succ, and_true, true_and, List.flatMap_cons, List.flatMap_nil, Bool.not_not, hρ, ho2, rdC_5, hov2, hmx, aMk_0, c4]
        refine wpa_bsl (sz := 1) (by intro a ha; simp at ha; subst ha; rfl) (by simp) ?_
        simp (maxSteps := 1000000) (implicitDefEqProofs := false) (disch := omega) only [push_cast, ↓reduceIte, Nat.reduceEqDiff, reduceCtorEq, decide_true, decide_false, Bool.not_true, Bool.not_false, Option.isNone_some, Option.isNone_none, List.drop_zero, List.drop_succ_cons, List.getElem?_cons_zero, List.getElem?_cons_succ, List.length_cons, List.length_nil, List.take_succ_cons, List.take_zero, Nat.mul_one, Nat.zero_add, Nat.add_zero, Nat.one_mul, Nat.zero_mul, List.getElem?_map, List.getElem?_drop, List.getElem?_take, List.length_map, Option.map_some, List.set_cons_zero, List.set_cons_succ, and_true, true_and, List.flatMap_cons, List.flatMap_nil, Bool.not_not]
        refine wpa_callGw [] [false, false, true] (begin_a H2 hok2.p hok2.q (0, 0, 0) [F.now]) (weak3 _ _ _ [F.now] _) ?_
        rintro a σ3 ⟨rfl, lab3, t3, H3, k3⟩
        have hokr := hok2.begin (0, 0, 0) [F.now]
        have kk3 := k2.trans k3 (U := isB) (fun _ h => h) fun _ h => h
        have ho3 := H3.obj
        by_cases hfull : D.preds.length = 1000
        · obtain ⟨_, e2⟩ := begin_no (D := D.nx) hfull (0, 0, 0) [F.now] []
          have hend : Ends l D F (D.nx.begin (0, 0, 0) [F.now]).2 C := fun K _ => s_fork_full hm c4 hF3 hfull
          rw [e2] at H3 hokr ho3 hend
          simp (maxSteps := 1000000) (implicitDefEqProofs := false) (disch := omega) only [push_cast, ↓reduceIte, Nat.reduceEqDiff, reduceCtorEq, decide_true, decide_false, Bool.not_true, Bool.not_false, Option.isNone_some, Option.isNone_none, List.drop_zero, List.drop_succ_cons, List.getElem?_cons_zero, List.getElem?_cons_succ, List.length_cons, List.length_nil, List.take_succ_cons, List.take_zero, Nat.mul_one, Nat.zero_add, Nat.add_zero, Nat.one_mul, Nat.zero_mul, List.getElem?_map, List.getElem?_drop, List.getElem?_take, List.length_map, Option.map_some, List.set_cons_zero, List.set_cons_succ, and_true, true_and, List.flatMap_cons, List.flatMap_nil, Bool.not_not, hρ, ho3, rdC_5]
          refine hN ({ D.nx with e := 9, over := true }, F) _ _ ⟨?_, lab3, t3, tr, tl, ?_, hfi.stp kk3 hBR (fun _ => isB_R) H3 hokr (by simp only [RD.nx]; omega) (.inr ⟨rfl, hgo.ends hend⟩)⟩ ?_
          · simp (maxSteps := 1000000) (implicitDefEqProofs := false) (disch := omega) only [push_cast, ↓reduceIte, Nat.reduceEqDiff, reduceCtorEq, decide_true, decide_false, Bool.not_true, Bool.not_false, Option.isNone_some, Option.isNone_none, List.drop_zero, List.drop_succ_cons, List.getElem?_cons_zero, List.getElem?_cons_succ, List.length_cons, List.length_nil, List.take_succ_cons, List.take_zero, Nat.mul_one, Nat.zero_add, Nat.add_zero, Nat.one_mul, Nat.zero_mul, List.getElem?_map, List.getElem?_drop, List.getElem?_take, List.length_map, Option.map_some, List.set_cons_zero, List.set_cons_succ, and_true, true_and, List.flatMap_cons, List.flatMap_nil, Bool.not_not, hρ]
          · simp (maxSteps := 1000000) (implicitDefEqProofs := false) (disch := omega) only [push_cast, ↓reduceIte, Nat.reduceEqDiff, reduceCtorEq, decide_true, decide_false, Bool.not_true, Bool.not_false, Option.isNone_some, Option.isNone_none, List.drop_zero, List.drop_succ_cons, List.getElem?_cons_zero, List.getElem?_cons_succ, List.length_cons, List.length_nil, List.take_succ_cons, List.take_zero, Nat.mul_one, Nat.zero_add, Nat.add_zero, Nat.one_mul, Nat.zero_mul, List.getElem?_map, List.getElem?_drop, List.getElem?_take, List.length_map, Option.map_some, List.set_cons_zero, List.set_cons_succ, and_true, true_and, List.flatMap_cons, List.flatMap_nil, Bool.not_not, hrl]
          · simp only [RD.nx, if_true]; omega
        · obtain ⟨_, e2, e3, e4⟩ := begin_ok (D := D.nx) hfull (0, 0, 0) [F.now] []
          have hfork := fun K => s_fork (K := K) hm c4 hF3 hfull
          generalize D.nx.begin (0, 0, 0) [F.now] = r at H3 hokr ho3 hfork e2 e3 e4 ⊢
          have hpr : r.2.pos = D.pos + 1 := e4
          have hwk : ∀ S : St, weak (Go.Kx.freeze [] S) [false, false, false, false, true] [.ref id 0 0, .v (.int .i64 1), .agg [AV.v (.int .i64 0), AV.v (.int .i64 0), AV.v (.int .i64 0)], aInt r.1, .sl 0 [] .nil] = [.ref id 0 0, aInt 1, .agg (aNd (taskFr r.1).node), aInt (taskFr r.1).now, .sl ([] : List (Int × Int)).length (([] : List (Int × Int)).flatMap aSt) .none] := fun S => by simp [weak, AV.res, AV.resL, aInt, aNd, Fr.node, taskFr]
          have hov3 : r.2.over = false := e2.trans hov2
          simp (maxSteps := 1000000) (implicitDefEqProofs := false) (disch := omega) only [push_cast, ↓reduceIte, Nat.reduceEqDiff, reduceCtorEq, decide_true, decide_false, Bool.not_true, Bool.not_false, Option.isNone_some, Option.isNone_none, List.drop_zero, List.drop_succ_cons, List.getElem?_cons_zero, List.getElem?_cons_succ, List.length_cons, List.length_nil, List.take_succ_cons, List.take_zero, Nat.mul_one, Nat.zero_add, Nat.add_zero, Nat.one_mul, Nat.zero_mul, List.getElem?_map, List.getElem?_drop, List.getElem?_take, List.length_map, Option.map_some, List.set_cons_zero, List.set_cons_succ, and_true, true_and, List.flatMap_cons, List.flatMap_nil, Bool.not_not, hρ, ho3, rdC_5, hov3]
          refine wpa_callGw [] [false, false, false, false, true] (ihF (l.length - r.2.pos) (by rw [hpr, ← hrem]; have := hfi.le; omega) σ3 lab3 id r.2 t3 (taskFr r.1) [] (fun K' => ∃ K, C K ∧ K' = F :: K) 1 H3 hokr hov3 (e3.trans he) rfl (.inr (.inl ⟨rfl, rfl, rfl⟩)) rfl rfl (fun e => by simp [taskFr] at e) (by simp)) (hwk _) ?_
          rintro a2 σ4 ⟨lab4, E, t4, H4, hokE, hlE, hout, k4⟩
          have ho4 := H4.obj
          have kk4 := kk3.trans k4 (U := isR (D.pos + 1)) (fun _ => isB_R) fun r' h => isR_le (by omega) h
          have hSR : ∀ r', isR (D.pos + 1) r' → r' = (0, 0) ∨ isB r' ∨ (6 ≤ r'.1 ∧ D0.pos + 1 ≤ r'.2) := fun r' h => h.elim (fun h => .inr (.inl h)) fun h => .inr (.inr ⟨h.1, by have := h.2; have := hfi.le; omega⟩)
          have hSU : ∀ r', isR (D.pos + 1) r' → isR D0.pos r' := fun r' h => isR_le (by have := hfi.le; omega) h
          rcases hout with ⟨hovE, henE⟩ | ⟨hovE, heE, D2, F2, m5, tk, rfl, hokD2, hm5, hcl5, hsame2, hrow2, hgo2, rfl⟩
          · have hlE' : D.pos ≤ E.pos := by have : r.2.pos ≤ E.pos := hlE; omega
            simp (maxSteps := 1000000) (implicitDefEqProofs := false) (disch := omega) only [push_cast, ↓reduceIte, Nat.reduceEqDiff, reduceCtorEq, decide_true, decide_false, Bool.not_true, Bool.not_false, Option.isNone_some, Option.isNone_none, List.drop_zero, List.drop_succ_cons, List.getElem?_cons_zero, List.getElem?_cons_succ, List.length_cons, List.length_nil, List.take_succ_cons, List.take_zero, Nat.mul_one, Nat.zero_add, Nat.add_zero, Nat.one_mul, Nat.zero_mul, List.getElem?_map, List.getElem?_drop, List.getElem?_take, List.length_map, Option.map_some, List.set_cons_zero, List.set_cons_succ, and_true, true_and, List.flatMap_cons, List.flatMap_nil, Bool.not_not, hρ, ho4, rdC_5, hovE]
            refine hN (E, F) _ _ ⟨?_, lab4, t4, tr, tl, ?_, hfi.stp kk4 hSR hSU H4 hokE hlE' (.inr ⟨hovE, hgo.ends fun K hK => by unfold EndsAt; rw [hfork K]; exact henE _ ⟨K, hK, rfl⟩⟩)⟩ ?_
            · simp (maxSteps := 1000000) (implicitDefEqProofs := false) (disch := omega) only [push_cast, ↓reduceIte, Nat.reduceEqDiff, reduceCtorEq, decide_true, decide_false, Bool.not_true, Bool.not_false, Option.isNone_some, Option.isNone_none, List.drop_zero, List.drop_succ_cons, List.getElem?_cons_zero, List.getElem?_cons_succ, List.length_cons, List.length_nil, List.take_succ_cons, List.take_zero, Nat.mul_one, Nat.zero_add, Nat.add_zero, Nat.one_mul, Nat.zero_mul, List.getElem?_map, List.getElem?_drop, List.getElem?_take, List.length_map, Option.map_some, List.set_cons_zero, List.set_cons_succ, and_true, true_and, List.flatMap_cons, List.flatMap_nil, Bool.not_not, hρ]
            · simp (maxSteps := 1000000) (implicitDefEqProofs := false) (disch := omega) only [push_cast, ↓reduceIte, Nat.reduceEqDiff, reduceCtorEq, decide_true, decide_false, Bool.not_true, Bool.not_false, Option.isNone_some, Option.isNone_none, List.drop_zero, List.drop_succ_cons, List.getElem?_cons_zero, List.getElem?_cons_succ, List.length_cons, List.length_nil, List.take_succ_cons, List.take_zero, Nat.mul_one, Nat.zero_add, Nat.add_zero, Nat.one_mul, Nat.zero_mul, List.getElem?_map, List.getElem?_drop, List.getElem?_take, List.length_map, Option.map_some, List.set_cons_zero, List.set_cons_succ, and_true, true_and, List.flatMap_cons, List.flatMap_nil, Bool.not_not, hrl]
            · have : r.2.pos ≤ E.pos := hlE
              simp only [hovE, hov, if_true, Bool.false_eq_true, if_false]; omega
          · have hF2k : F2.kind = 1 ∧ F2.child = true ∧ F2.row = [] := ⟨hsame2.1, hsame2.2.1, hsame2.2.2.2.2 (by simp [taskFr])⟩
            have hm5k : m5.k = 5 := by
              rcases hcl5 with ⟨h, _⟩ | ⟨_, h, _⟩
              · exact h
              · rw [hF2k.1] at h; omega
            rw [hF2k.2.2, if_pos hF2k.1]
            have hnd4 := kk4.get hnd (by rw [hfi.nl]; intro h; exact h.elim (fun h => by have := h.2.2.1; simp only at this; omega) fun h => by have := h.2; simp only at this; have := hfi.le; omega)
            have htl4 := hfi.tl.stp kk4 (fun h => h.elim (fun h => by have := h.2.2.1; simp only at this; omega) fun h => by have := h.2; simp only at this; have := hfi.le; omega)
            have hsl1 : AV.sl (([] : List (Int × Int)) ++ [((0 : Int), F2.now)]).length ((([] : List (Int × Int)) ++ [((0 : Int), F2.now)]).flatMap aSt) tk = .sl 1 (aSt (0, F2.now)) tk := rfl
            have hg0 : List.drop (Int.toNat 0 * 2) (aSt (0, F2.now)) = aSt (0, F2.now) := rfl
            have hg1 : (aSt (0, F2.now))[1]? = some (.v (.int .i64 F2.now)) := rfl
            have hD2p : D.pos ≤ D2.pos := by
              have h1 : r.2.pos ≤ D2.nx.pos := hlE
              have h2 : D2.nx.pos = D2.pos + 1 := rfl
              omega
            have hm5l := lt_at hm5
            have hok5 := hokD2.nx hm5
            obtain ⟨hnd5, hnl5⟩ := hnd4
            rw [hsl1]
            simp (maxSteps := 1000000) (implicitDefEqProofs := false) (disch := omega) only [push_cast, ↓reduceIte, Nat.reduceEqDiff, reduceCtorEq, decide_true, decide_false, Bool.not_true, Bool.not_false, Option.isNone_some, Option.isNone_none, List.drop_zero, List.drop_succ_cons, List.getElem?_cons_zero, List.getElem?_cons_succ, List.length_cons, List.length_nil, List.take_succ_cons, List.take_zero, Nat.mul_one, Nat.zero_add, Nat.add_zero, Nat.one_mul, Nat.zero_mul, List.getElem?_map, List.getElem?_drop, List.getElem?_take, List.length_map, Option.map_some, List.set_cons_zero, List.set_cons_succ, and_true, true_and, List.flatMap_cons, List.flatMap_nil, Bool.not_not, hρ, ho4, rdC_5, hovE, hg0, hg1]
            refine wpa_bsl (sz := 1) (by intro a ha; simp at ha; subst ha; rfl) (by simp) ?_
            simp (maxSteps := 1000000) (implicitDefEqProofs := false) (disch := omega) only [push_cast, ↓reduceIte, Nat.reduceEqDiff, reduceCtorEq, decide_true, decide_false, Bool.not_true, Bool.not_false, Option.isNone_some, Option.isNone_none, List.drop_zero, List.drop_succ_cons, List.getElem?_cons_zero, List.getElem?_cons_succ, List.length_cons, List.length_nil, List.take_succ_cons, List.take_zero, Nat.mul_one, Nat.zero_add, Nat.add_zero, Nat.one_mul, Nat.zero_mul, List.getElem?_map, List.getElem?_drop, List.getElem?_take, List.length_map, Option.map_some, List.set_cons_zero, List.set_cons_succ, and_true, true_and, List.flatMap_cons, List.flatMap_nil, Bool.not_not, hrl]
            refine wpa_app_t (m := 1) rfl htl4 rfl rfl rfl (by simp) (by omega) (by omega) ?_
            intro σ5 lab5 t5 k5 ht5
            obtain ⟨hnd6, hnl6⟩ := k5.get hnd5 (by rw [hnl5, hfi.nl]; simp)
            have H5 := H4.stp k5 (fun q _ _ e => by have := congrArg Prod.fst e; simp only at this; omega)
            have htr5 := (hfi.tr.stp kk4 (fun h => h.elim (fun h => by have := h.2.2.1; simp only at this; omega) fun h => by have := h.2; simp only at this; have := hfi.le; omega)).stp k5 (by simp)
            simp (maxSteps := 1000000) (implicitDefEqProofs := false) (disch := omega) only [push_cast, ↓reduceIte, Nat.reduceEqDiff, reduceCtorEq, decide_true, decide_false, Bool.not_true, Bool.not_false, Option.isNone_some, Option.isNone_none, List.drop_zero, List.drop_succ_cons, List.getElem?_cons_zero, List.getElem?_cons_succ, List.length_cons, List.length_nil, List.take_succ_cons, List.take_zero, Nat.mul_one, Nat.zero_add, Nat.add_zero, Nat.one_mul, Nat.zero_mul, List.getElem?_map, List.getElem?_drop, List.getElem?_take, List.length_map, Option.map_some, List.set_cons_zero, List.set_cons_succ, and_true, true_and, List.flatMap_cons, List.flatMap_nil, Bool.not_not, hρ, hnd6, cell3]
            refine wpa_bsl (sz := 1) (by intro a ha; simp at ha; subst ha; rfl) (by simp) ?_
            simp (maxSteps := 1000000) (implicitDefEqProofs := false) (disch := omega) only [push_cast, ↓reduceIte, Nat.reduceEqDiff, reduceCtorEq, decide_true, decide_false, Bool.not_true, Bool.not_false, Option.isNone_some, Option.isNone_none, List.drop_zero, List.drop_succ_cons, List.getElem?_cons_zero, List.getElem?_cons_succ, List.length_cons, List.length_nil, List.take_succ_cons, List.take_zero, Nat.mul_one, Nat.zero_add, Nat.add_zero, Nat.one_mul, Nat.zero_mul, List.getElem?_map, List.getElem?_drop, List.getElem?_take, List.length_map, Option.map_some, List.set_cons_zero, List.set_cons_succ, and_true, true_and, List.flatMap_cons, List.flatMap_nil, Bool.not_not]
            refine wpa_callGw [] [false, false, true] (begin_a H5 hok5.p hok5.q F.node [F.now]) (weak3 _ _ _ [F.now] _) ?_
            rintro a σ6 ⟨rfl, lab6, t6, H6, k6⟩
            obtain ⟨hnd7, hnl7⟩ := k6.get hnd6 (by rw [hnl6, hnl5, hfi.nl]; intro h; have := h.2.2.1; simp only at this; omega)
            have hpE : (D2.nx.begin F.node [F.now]).2.pos = D2.pos + 1 := by unfold RD.begin; split <;> rfl
            have hkk : Stp (isR D0.pos) σ0 lab0 σ6 lab6 := ((hfi.k.trans kk4 (U := isR D0.pos) (fun _ h => h) hSU).trans k5 (U := isR D0.pos) (fun _ h => h) fun r' e => by subst e; exact .inr ⟨by simp, by simp⟩).trans k6 (fun _ h => h) fun _ => isB_R
            have hst : ((D2.nx.begin F.node [F.now]).2.over = false ∧ (D2.nx.begin F.node [F.now]).2.e = 0 ∧ Goes l D0 F0 (D2.nx.begin F.node [F.now]).2 { F with left := F.left ++ [F2.now], now := (D2.nx.begin F.node [F.now]).1 } C) ∨
                ((D2.nx.begin F.node [F.now]).2.over = true ∧ Ends l D0 F0 (D2.nx.begin F.node [F.now]).2 C) := by
              by_cases hfull2 : D2.preds.length = 1000
              · refine .inr ⟨by rw [(begin_no (D := D2.nx) hfull2 F.node [F.now] []).2], hgo.ends fun K hK => ?_⟩
                unfold EndsAt
                rw [hfork K, hgo2 _ ⟨K, hK, rfl⟩]
                exact s_ret_full hm5 hm5k hF2k.2.1 hfull2
              · obtain ⟨_, g2, g3, _⟩ := begin_ok (D := D2.nx) hfull2 F.node [F.now] []
                exact .inl ⟨g2.trans hovE, g3.trans heE, hgo.trans fun K hK => by
                  rw [hfork K, hgo2 _ ⟨K, hK, rfl⟩]
                  exact s_ret hm5 hm5k hF2k.2.1 hfull2⟩
            simp (maxSteps := 1000000) (implicitDefEqProofs := false) (disch := omega) only [push_cast, ↓reduceIte, Nat.reduceEqDiff, reduceCtorEq, decide_true, decide_false, Bool.not_true, Bool.not_false, Option.isNone_some, Option.isNone_none, List.drop_zero, List.drop_succ_cons, List.getElem?_cons_zero, List.getElem?_cons_succ, List.length_cons, List.length_nil, List.take_succ_cons, List.take_zero, Nat.mul_one, Nat.zero_add, Nat.add_zero, Nat.one_mul, Nat.zero_mul, List.getElem?_map, List.getElem?_drop, List.getElem?_take, List.length_map, Option.map_some, List.set_cons_zero, List.set_cons_succ, and_true, true_and, List.flatMap_cons, List.flatMap_nil, Bool.not_not]
            refine hN ((D2.nx.begin F.node [F.now]).2, { F with left := F.left ++ [F2.now], now := (D2.nx.begin F.node [F.now]).1 }) _ _ ⟨?_, lab6, t6, tr, t5, ?_, H6, hok5.begin _ _, by rw [hpE]; have := hfi.le; omega, htr5.stp k6 (fun h => by have := h.2.2.1; simp only at this; omega), ?_, hnd7, hnl7.trans (hnl6.trans (hnl5.trans hfi.nl)), hkk, hfi.same, by simp only [List.length_append, List.length_singleton, hpE]; omega, by simp only [hpE]; omega, hst⟩ ?_
            · simp (maxSteps := 1000000) (implicitDefEqProofs := false) (disch := omega) only [push_cast, ↓reduceIte, Nat.reduceEqDiff, reduceCtorEq, decide_true, decide_false, Bool.not_true, Bool.not_false, Option.isNone_some, Option.isNone_none, List.drop_zero, List.drop_succ_cons, List.getElem?_cons_zero, List.getElem?_cons_succ, List.length_cons, List.length_nil, List.take_succ_cons, List.take_zero, Nat.mul_one, Nat.zero_add, Nat.add_zero, Nat.one_mul, Nat.zero_mul, List.getElem?_map, List.getElem?_drop, List.getElem?_take, List.length_map, Option.map_some, List.set_cons_zero, List.set_cons_succ, and_true, true_and, List.flatMap_cons, List.flatMap_nil, Bool.not_not, hρ]
              rfl
            · simp (maxSteps := 1000000) (implicitDefEqProofs := false) (disch := omega) only [push_cast, ↓reduceIte, Nat.reduceEqDiff, reduceCtorEq, decide_true, decide_false, Bool.not_true, Bool.not_false, Option.isNone_some, Option.isNone_none, List.drop_zero, List.drop_succ_cons, List.getElem?_cons_zero, List.getElem?_cons_succ, List.length_cons, List.length_nil, List.take_succ_cons, List.take_zero, Nat.mul_one, Nat.zero_add, Nat.add_zero, Nat.one_mul, Nat.zero_mul, List.getElem?_map, List.getElem?_drop, List.getElem?_take, List.length_map, Option.map_some, List.set_cons_zero, List.set_cons_succ, and_true, true_and, List.flatMap_cons, List.flatMap_nil, Bool.not_not, hrl]
              simp [aInt]
            · have := ht5.stp k6 (fun h => by have := h.2.2.1; simp only at this; omega)
              simpa using this
            · simp only [hpE, hov, Bool.false_eq_true, if_false]
              split <;> omega
      have hn7 : ∀ {S : Role → Prop}, (∀ r, S r → isB r) → ∀ q, 6 ≤ q → ¬ S (q, D0.pos) := fun hS q hq h => by have := (hS _ h).2.2.1; simp only at this; omega
      by_cases c6 : m.k = 6
      · simp (maxSteps := 1000000) (implicitDefEqProofs := false) (disch := omega) only [push_cast, ↓reduceIte, Nat.reduceEqDiff, reduceCtorEq, decide_true, decide_false, Bool.not_true, Bool.not_false, Option.isNone_some, Option.isNone_none, List.drop_zero, List.drop_succ_cons, List.getElem?_cons_zero, List.getElem?_cons_succ, List.length_cons, List.length_nil, List.take_succ_cons, List.take_zero, Nat.mul_one, Nat.zero_add, Nat.add_zero, Nat.one_mul, Nat.zero_mul, List.getElem?_map, List.getElem?_drop, List.getElem?_take, List.length_map, Option.map_some, List.set_cons_zero, List.set_cons_succ, and_true, true_and, List.flatMap_cons, List.flatMap_nil, Bool.not_not, hρ, ho2, rdC_5, hov2, hmx, aMk_0, c6, hnd2, cell3]
        refine wpa_bsl (sz := 1) (by intro a ha; simp at ha; subst ha; rfl) (by simp) ?_
        simp (maxSteps := 1000000) (implicitDefEqProofs := false) (disch := omega) only [push_cast, ↓reduceIte, Nat.reduceEqDiff, reduceCtorEq, decide_true, decide_false, Bool.not_true, Bool.not_false, Option.isNone_some, Option.isNone_none, List.drop_zero, List.drop_succ_cons, List.getElem?_cons_zero, List.getElem?_cons_succ, List.length_cons, List.length_nil, List.take_succ_cons, List.take_zero, Nat.mul_one, Nat.zero_add, Nat.add_zero, Nat.one_mul, Nat.zero_mul, List.getElem?_map, List.getElem?_drop, List.getElem?_take, List.length_map, Option.map_some, List.set_cons_zero, List.set_cons_succ, and_true, true_and, List.flatMap_cons, List.flatMap_nil, Bool.not_not, hrl]
        refine ⟨aholds_lde (by simp (maxSteps := 1000000) (implicitDefEqProofs := false) (disch := omega) only [push_cast, ↓reduceIte, Nat.reduceEqDiff, reduceCtorEq, decide_true, decide_false, Bool.not_true, Bool.not_false, Option.isNone_some, Option.isNone_none, List.drop_zero, List.drop_succ_cons, List.getElem?_cons_zero, List.getElem?_cons_succ, List.length_cons, List.length_nil, List.take_succ_cons, List.take_zero, Nat.mul_one, Nat.zero_add, Nat.add_zero, Nat.one_mul, Nat.zero_mul, List.getElem?_map, List.getElem?_drop, List.getElem?_take, List.length_map, Option.map_some, List.set_cons_zero, List.set_cons_succ, and_true, true_and, List.flatMap_cons, List.flatMap_nil, Bool.not_not, hρ, hnd2, cell3, ex_nd]), ?_⟩
        refine wpa_app_full0 (m := F.left.length) rfl rfl (by simp) (by rw [List.all_map]; exact List.all_eq_true.2 fun x _ => rfl) rfl (by omega) (by omega) ?_
        simp (maxSteps := 1000000) (implicitDefEqProofs := false) (disch := omega) only [push_cast, ↓reduceIte, Nat.reduceEqDiff, reduceCtorEq, decide_true, decide_false, Bool.not_true, Bool.not_false, Option.isNone_some, Option.isNone_none, List.drop_zero, List.drop_succ_cons, List.getElem?_cons_zero, List.getElem?_cons_succ, List.length_cons, List.length_nil, List.take_succ_cons, List.take_zero, Nat.mul_one, Nat.zero_add, Nat.add_zero, Nat.one_mul, Nat.zero_mul, List.getElem?_map, List.getElem?_drop, List.getElem?_take, List.length_map, Option.map_some, List.set_cons_zero, List.set_cons_succ, and_true, true_and, List.flatMap_cons, List.flatMap_nil, Bool.not_not]
        refine ⟨aholds_lde (by simp (maxSteps := 1000000) (implicitDefEqProofs := false) (disch := omega) only [push_cast, ↓reduceIte, Nat.reduceEqDiff, reduceCtorEq, decide_true, decide_false, Bool.not_true, Bool.not_false, Option.isNone_some, Option.isNone_none, List.drop_zero, List.drop_succ_cons, List.getElem?_cons_zero, List.getElem?_cons_succ, List.length_cons, List.length_nil, List.take_succ_cons, List.take_zero, Nat.mul_one, Nat.zero_add, Nat.add_zero, Nat.one_mul, Nat.zero_mul, List.getElem?_map, List.getElem?_drop, List.getElem?_take, List.length_map, Option.map_some, List.set_cons_zero, List.set_cons_succ, and_true, true_and, List.flatMap_cons, List.flatMap_nil, Bool.not_not, hρ, hnd2, cell3, ex_nd]), ?_⟩
        have hml : AV.sl (1 + F.left.length) ([AV.v (.int .i64 F.now)] ++ F.left.map aInt) .none = .sl (F.now :: F.left).length ((F.now :: F.left).map aInt) .none := by
          rw [List.length_cons, Nat.add_comm]; rfl
        refine wpa_callGw [] [false, false, true] (begin_a H2 hok2.p hok2.q F.node (F.now :: F.left)) (by
          have := weak3 (Go.Kx.freeze [] σ2) (.ref id 0 0) (.agg (aNd F.node)) (F.now :: F.left) .none
          rw [← hml] at this
          exact this) ?_
        rintro a σ6 ⟨rfl, lab6, t6, H6, k6⟩
        obtain ⟨hnd7, hnl7⟩ := k6.get hnd2 (by rw [hnl3]; exact hn7 (fun _ h => h) 6 (by omega))
        have hpE : (D.nx.begin F.node (F.now :: F.left)).2.pos = D.pos + 1 := by unfold RD.begin; split <;> rfl
        have hst : ((D.nx.begin F.node (F.now :: F.left)).2.over = false ∧ (D.nx.begin F.node (F.now :: F.left)).2.e = 0 ∧ Goes l D0 F0 (D.nx.begin F.node (F.now :: F.left)).2 { F with now := (D.nx.begin F.node (F.now :: F.left)).1, left := [] } C) ∨
            ((D.nx.begin F.node (F.now :: F.left)).2.over = true ∧ Ends l D0 F0 (D.nx.begin F.node (F.now :: F.left)).2 C) := by
          by_cases hfull2 : D.preds.length = 1000
          · exact .inr ⟨by rw [(begin_no (D := D.nx) hfull2 F.node (F.now :: F.left) []).2], hgo.ends fun K hK => s_meet_full hm c6 hF3 hfull2⟩
          · obtain ⟨_, g2, g3, _⟩ := begin_ok (D := D.nx) hfull2 F.node (F.now :: F.left) []
            exact .inl ⟨g2.trans hov2, g3.trans he, hgo.trans fun K hK => s_meet hm c6 hF3 hfull2⟩
        simp (maxSteps := 1000000) (implicitDefEqProofs := false) (disch := omega) only [push_cast, ↓reduceIte, Nat.reduceEqDiff, reduceCtorEq, decide_true, decide_false, Bool.not_true, Bool.not_false, Option.isNone_some, Option.isNone_none, List.drop_zero, List.drop_succ_cons, List.getElem?_cons_zero, List.getElem?_cons_succ, List.length_cons, List.length_nil, List.take_succ_cons, List.take_zero, Nat.mul_one, Nat.zero_add, Nat.add_zero, Nat.one_mul, Nat.zero_mul, List.getElem?_map, List.getElem?_drop, List.getElem?_take, List.length_map, Option.map_some, List.set_cons_zero, List.set_cons_succ, and_true, true_and, List.flatMap_cons, List.flatMap_nil, Bool.not_not]
        refine hN ((D.nx.begin F.node (F.now :: F.left)).2, { F with now := (D.nx.begin F.node (F.now :: F.left)).1, left := [] }) _ _ ⟨?_, lab6, t6, tr, .nil, ?_, H6, hok2.begin _ _, by rw [hpE]; have := hfi.le; omega, htr2.stp k6 (hn7 (fun _ h => h) 8 (by omega)), TokOk.nil, hnd7, hnl7.trans hnl3, (hfi.k.trans k2 (U := isR D0.pos) (fun _ h => h) fun _ => isB_R).trans k6 (fun _ h => h) fun _ => isB_R, hfi.same, by simp, by simp only [hpE]; omega, hst⟩ ?_
        · simp (maxSteps := 1000000) (implicitDefEqProofs := false) (disch := omega) only [push_cast, ↓reduceIte, Nat.reduceEqDiff, reduceCtorEq, decide_true, decide_false, Bool.not_true, Bool.not_false, Option.isNone_some, Option.isNone_none, List.drop_zero, List.drop_succ_cons, List.getElem?_cons_zero, List.getElem?_cons_succ, List.length_cons, List.length_nil, List.take_succ_cons, List.take_zero, Nat.mul_one, Nat.zero_add, Nat.add_zero, Nat.one_mul, Nat.zero_mul, List.getElem?_map, List.getElem?_drop, List.getElem?_take, List.length_map, Option.map_some, List.set_cons_zero, List.set_cons_succ, and_true, true_and, List.flatMap_cons, List.flatMap_nil, Bool.not_not, hρ]
          rfl
        · simp (maxSteps := 1000000) (implicitDefEqProofs := false) (disch := omega) only [push_cast, ↓reduceIte, Nat.reduceEqDiff, reduceCtorEq, decide_true, decide_false, Bool.not_true, Bool.not_false, Option.isNone_some, Option.isNone_none, List.drop_zero, List.drop_succ_cons, List.getElem?_cons_zero, List.getElem?_cons_succ, List.length_cons, List.length_nil, List.take_succ_cons, List.take_zero, Nat.mul_one, Nat.zero_add, Nat.add_zero, Nat.one_mul, Nat.zero_mul, List.getElem?_map, List.getElem?_drop, List.getElem?_take, List.length_map, Option.map_some, List.set_cons_zero, List.set_cons_succ, and_true, true_and, List.flatMap_cons, List.flatMap_nil, Bool.not_not, hrl]
          rfl
        · simp only [hpE, hov, Bool.false_eq_true, if_false]
          split <;> omega
      by_cases c7 : m.k = 7
      · simp (maxSteps := 1000000) (implicitDefEqProofs := false) (disch := omega) only [push_cast, ↓reduceIte, Nat.reduceEqDiff, reduceCtorEq, decide_true, decide_false, Bool.not_true, Bool.not_false, Option.isNone_some, Option.isNone_none, List.drop_zero, List.drop_succ_cons, List.getElem?_cons_zero, List.getElem?_cons_succ, List.length_cons, List.length_nil, List.take_succ_cons, List.take_zero, Nat.mul_one, Nat.zero_add, Nat.add_zero, Nat.one_mul, Nat.zero_mul, List.getElem?_map, List.getElem?_drop, List.getElem?_take, List.length_map, Option.map_some, List.set_cons_zero, List.set_cons_succ, and_true, true_and, List.flatMap_cons, List.flatMap_nil, Bool.not_not, hρ, ho2, rdC_5, hov2, hmx, aMk_0, aMk_1, c7]
        refine wpa_callG (ihL (l.length - D.nx.pos) (by have h1 : D.nx.pos = D.pos + 1 := rfl; have := hfi.le; omega) σ2 lab2 id D.nx t m.a F.now H2 hok2 hov2 he rfl) ?_
        rintro a2 σ4 ⟨lab4, E, t4, H4, hokE, hlE, hout, k4⟩
        have ho4 := H4.obj
        have hlE' : D.pos + 1 ≤ E.pos := hlE
        have kk4 := k2.trans k4 (U := isR (D.pos + 1)) (fun _ => isB_R) fun r' h => h
        have hSR : ∀ r', isR (D.pos + 1) r' → r' = (0, 0) ∨ isB r' ∨ (6 ≤ r'.1 ∧ D0.pos + 1 ≤ r'.2) := fun r' h => h.elim (fun h => .inr (.inl h)) fun h => .inr (.inr ⟨h.1, by have := h.2; have := hfi.le; omega⟩)
        have hSU : ∀ r', isR (D.pos + 1) r' → isR D0.pos r' := fun r' h => isR_le (by have := hfi.le; omega) h
        have hnR : ∀ q, 6 ≤ q → ¬ isR (D.pos + 1) (q, D0.pos) := fun q hq h => h.elim (fun h => by have := h.2.2.1; simp only at this; omega) fun h => by have := h.2; simp only at this; have := hfi.le; omega
        rcases hout with ⟨hovE, henE⟩ | ⟨hovE, heE, D2, L2, m8, tk, rfl, hokD2, hm8, hm8k, hf8, hll2, hgo2, rfl⟩
        · simp (maxSteps := 1000000) (implicitDefEqProofs := false) (disch := omega) only [push_cast, ↓reduceIte, Nat.reduceEqDiff, reduceCtorEq, decide_true, decide_false, Bool.not_true, Bool.not_false, Option.isNone_some, Option.isNone_none, List.drop_zero, List.drop_succ_cons, List.getElem?_cons_zero, List.getElem?_cons_succ, List.length_cons, List.length_nil, List.take_succ_cons, List.take_zero, Nat.mul_one, Nat.zero_add, Nat.add_zero, Nat.one_mul, Nat.zero_mul, List.getElem?_map, List.getElem?_drop, List.getElem?_take, List.length_map, Option.map_some, List.set_cons_zero, List.set_cons_succ, and_true, true_and, List.flatMap_cons, List.flatMap_nil, Bool.not_not, hρ, ho4, rdC_5, hovE]
          refine hN (E, F) _ _ ⟨?_, lab4, t4, tr, tl, ?_, hfi.stp kk4 hSR hSU H4 hokE (Nat.le_of_succ_le hlE') (.inr ⟨hovE, hgo.ends fun K hK => by unfold EndsAt; rw [s_loop (K := K) hm c7 hF3]; exact henE (F :: K)⟩)⟩ ?_
          · simp (maxSteps := 1000000) (implicitDefEqProofs := false) (disch := omega) only [push_cast, ↓reduceIte, Nat.reduceEqDiff, reduceCtorEq, decide_true, decide_false, Bool.not_true, Bool.not_false, Option.isNone_some, Option.isNone_none, List.drop_zero, List.drop_succ_cons, List.getElem?_cons_zero, List.getElem?_cons_succ, List.length_cons, List.length_nil, List.take_succ_cons, List.take_zero, Nat.mul_one, Nat.zero_add, Nat.add_zero, Nat.one_mul, Nat.zero_mul, List.getElem?_map, List.getElem?_drop, List.getElem?_take, List.length_map, Option.map_some, List.set_cons_zero, List.set_cons_succ, and_true, true_and, List.flatMap_cons, List.flatMap_nil, Bool.not_not, hρ]
          · simp (maxSteps := 1000000) (implicitDefEqProofs := false) (disch := omega) only [push_cast, ↓reduceIte, Nat.reduceEqDiff, reduceCtorEq, decide_true, decide_false, Bool.not_true, Bool.not_false, Option.isNone_some, Option.isNone_none, List.drop_zero, List.drop_succ_cons, List.getElem?_cons_zero, List.getElem?_cons_succ, List.length_cons, List.length_nil, List.take_succ_cons, List.take_zero, Nat.mul_one, Nat.zero_add, Nat.add_zero, Nat.one_mul, Nat.zero_mul, List.getElem?_map, List.getElem?_drop, List.getElem?_take, List.length_map, Option.map_some, List.set_cons_zero, List.set_cons_succ, and_true, true_and, List.flatMap_cons, List.flatMap_nil, Bool.not_not, hrl]
          · simp only [hovE, hov, if_true, Bool.false_eq_true, if_false]; omega
        · have hm8l := lt_at hm8
          have hok8 := hokD2.nx hm8
          have hD2p : D.pos ≤ D2.pos := by have h2 : D2.nx.pos = D2.pos + 1 := rfl; omega
          obtain ⟨hnd5, hnl5⟩ := kk4.get hnd (by rw [hfi.nl]; exact hnR 6 (by omega))
          have htr4 := hfi.tr.stp kk4 (hnR 8 (by omega))
          have htl4 := hfi.tl.stp kk4 (hnR 7 (by omega))
          simp (maxSteps := 1000000) (implicitDefEqProofs := false) (disch := omega) only [push_cast, ↓reduceIte, Nat.reduceEqDiff, reduceCtorEq, decide_true, decide_false, Bool.not_true, Bool.not_false, Option.isNone_some, Option.isNone_none, List.drop_zero, List.drop_succ_cons, List.getElem?_cons_zero, List.getElem?_cons_succ, List.length_cons, List.length_nil, List.take_succ_cons, List.take_zero, Nat.mul_one, Nat.zero_add, Nat.add_zero, Nat.one_mul, Nat.zero_mul, List.getElem?_map, List.getElem?_drop, List.getElem?_take, List.length_map, Option.map_some, List.set_cons_zero, List.set_cons_succ, and_true, true_and, List.flatMap_cons, List.flatMap_nil, Bool.not_not, hρ, ho4, rdC_5, hovE, hnd5, cell3]
          refine wpa_callGw [] [false, false, true] (begin_a H4 hok8.p hok8.q F.node L2.lasts) (weak3 _ _ _ L2.lasts _) ?_
          rintro a σ6 ⟨rfl, lab6, t6, H6, k6⟩
          obtain ⟨hnd7, hnl7⟩ := k6.get hnd5 (by rw [hnl5, hfi.nl]; exact hn7 (fun _ h => h) 6 (by omega))
          have hpE : (D2.nx.begin F.node L2.lasts).2.pos = D2.pos + 1 := by unfold RD.begin; split <;> rfl
          have hst : ((D2.nx.begin F.node L2.lasts).2.over = false ∧ (D2.nx.begin F.node L2.lasts).2.e = 0 ∧ Goes l D0 F0 (D2.nx.begin F.node L2.lasts).2 { F with now := (D2.nx.begin F.node L2.lasts).1 } C) ∨
              ((D2.nx.begin F.node L2.lasts).2.over = true ∧ Ends l D0 F0 (D2.nx.begin F.node L2.lasts).2 C) := by
            by_cases hfull2 : D2.preds.length = 1000
            · refine .inr ⟨by rw [(begin_no (D := D2.nx) hfull2 F.node L2.lasts []).2], hgo.ends fun K hK => ?_⟩
              unfold EndsAt
              rw [s_loop (K := K) hm c7 hF3, hgo2 _ trivial]
              exact s_leave_full hm8 hm8k hf8 hfull2
            · obtain ⟨_, g2, g3, _⟩ := begin_ok (D := D2.nx) hfull2 F.node L2.lasts []
              exact .inl ⟨g2.trans hovE, g3.trans heE, hgo.trans fun K hK => by
                rw [s_loop (K := K) hm c7 hF3, hgo2 _ trivial]
                exact s_leave hm8 hm8k hf8 hfull2⟩
          simp (maxSteps := 1000000) (implicitDefEqProofs := false) (disch := omega) only [push_cast, ↓reduceIte, Nat.reduceEqDiff, reduceCtorEq, decide_true, decide_false, Bool.not_true, Bool.not_false, Option.isNone_some, Option.isNone_none, List.drop_zero, List.drop_succ_cons, List.getElem?_cons_zero, List.getElem?_cons_succ, List.length_cons, List.length_nil, List.take_succ_cons, List.take_zero, Nat.mul_one, Nat.zero_add, Nat.add_zero, Nat.one_mul, Nat.zero_mul, List.getElem?_map, List.getElem?_drop, List.getElem?_take, List.length_map, Option.map_some, List.set_cons_zero, List.set_cons_succ, and_true, true_and, List.flatMap_cons, List.flatMap_nil, Bool.not_not]
          refine hN ((D2.nx.begin F.node L2.lasts).2, { F with now := (D2.nx.begin F.node L2.lasts).1 }) _ _ ⟨?_, lab6, t6, tr, tl, ?_, H6, hok8.begin _ _, by rw [hpE]; have := hfi.le; omega, htr4.stp k6 (hn7 (fun _ h => h) 8 (by omega)), htl4.stp k6 (hn7 (fun _ h => h) 7 (by omega)), hnd7, hnl7.trans (hnl5.trans hfi.nl), (hfi.k.trans kk4 (U := isR D0.pos) (fun _ h => h) hSU).trans k6 (fun _ h => h) fun _ => isB_R, hfi.same, by simp only [hpE]; omega, by simp only [hpE]; omega, hst⟩ ?_
          · simp (maxSteps := 1000000) (implicitDefEqProofs := false) (disch := omega) only [push_cast, ↓reduceIte, Nat.reduceEqDiff, reduceCtorEq, decide_true, decide_false, Bool.not_true, Bool.not_false, Option.isNone_some, Option.isNone_none, List.drop_zero, List.drop_succ_cons, List.getElem?_cons_zero, List.getElem?_cons_succ, List.length_cons, List.length_nil, List.take_succ_cons, List.take_zero, Nat.mul_one, Nat.zero_add, Nat.add_zero, Nat.one_mul, Nat.zero_mul, List.getElem?_map, List.getElem?_drop, List.getElem?_take, List.length_map, Option.map_some, List.set_cons_zero, List.set_cons_succ, and_true, true_and, List.flatMap_cons, List.flatMap_nil, Bool.not_not, hρ]
            rfl
          · simp (maxSteps := 1000000) (implicitDefEqProofs := false) (disch := omega) only [push_cast, ↓reduceIte, Nat.reduceEqDiff, reduceCtorEq, decide_true, decide_false, Bool.not_true, Bool.not_false, Option.isNone_some, Option.isNone_none, List.drop_zero, List.drop_succ_cons, List.getElem?_cons_zero, List.getElem?_cons_succ, List.length_cons, List.length_nil, List.take_succ_cons, List.take_zero, Nat.mul_one, Nat.zero_add, Nat.add_zero, Nat.one_mul, Nat.zero_mul, List.getElem?_map, List.getElem?_drop, List.getElem?_take, List.length_map, Option.map_some, List.set_cons_zero, List.set_cons_succ, and_true, true_and, List.flatMap_cons, List.flatMap_nil, Bool.not_not, hrl]
          · simp only [hpE, hov, Bool.false_eq_true, if_false]
            split <;> omega
      by_cases c11 : 11 ≤ m.k ∧ kd = 2 ∧ F.sg < m.a
      · obtain ⟨k11, hkd2, hsg⟩ := c11
        subst hkd2
        have hm11 : m.k = 11 ∨ m.k = 12 := by omega
        have hF2 : F.kind = 2 := by
          unfold kindOf at hkF
          rcases hkF with ⟨h, _, _⟩ | ⟨h, _, _⟩ | ⟨_, h1, _⟩
          · omega
          · omega
          · exact h1
        have j5 : ¬ m.k = 5 := by omega
        have j10 : ¬ m.k = 10 := by omega
        have j3 : ¬ m.k ≤ 3 := by omega
        obtain ⟨gp, hgp⟩ : ∃ gp : List Int, gp = if m.k = 11 ∧ 0 < F.it then [F.now, lastA ahead m.a] else [F.now] := ⟨_, rfl⟩
        have hgpl : gp.length ≤ 2 := by rw [hgp]; split <;> simp
        have hgpK : ∀ K, C K → ∃ G K', K = G :: K' ∧ goPreds F G m = gp := fun K hK => by
          obtain ⟨G, K', e1, e2⟩ := hC (hsk ▸ hF2) K hK
          exact ⟨G, K', e1, by rw [hgp]; unfold goPreds; rw [e2]⟩
        simp (maxSteps := 1000000) (implicitDefEqProofs := false) (disch := omega) only [push_cast, ↓reduceIte, Nat.reduceEqDiff, reduceCtorEq, decide_true, decide_false, Bool.not_true, Bool.not_false, Option.isNone_some, Option.isNone_none, List.drop_zero, List.drop_succ_cons, List.getElem?_cons_zero, List.getElem?_cons_succ, List.length_cons, List.length_nil, List.take_succ_cons, List.take_zero, Nat.mul_one, Nat.zero_add, Nat.add_zero, Nat.one_mul, Nat.zero_mul, List.getElem?_map, List.getElem?_drop, List.getElem?_take, List.length_map, Option.map_some, List.set_cons_zero, List.set_cons_succ, and_true, true_and, List.flatMap_cons, List.flatMap_nil, Bool.not_not, hρ, ho2, rdC_5, hov2, hmx, aMk_0, aMk_1, j5, j10, j3, c4, c6, c7, k11, hsg, hnd2, nd1, nd2, aInt, hrl, bldS]
        refine wpa_bsl (sz := 2) (by intro a ha; simp at ha; subst ha; rfl) (by simp) ?_
        have hac2 : ∀ p, (AV.agg (aSt p)).cells = aSt p := fun _ => rfl
        simp (maxSteps := 1000000) (implicitDefEqProofs := false) (disch := omega) only [push_cast, ↓reduceIte, Nat.reduceEqDiff, reduceCtorEq, decide_true, decide_false, Bool.not_true, Bool.not_false, Option.isNone_some, Option.isNone_none, List.drop_zero, List.drop_succ_cons, List.getElem?_cons_zero, List.getElem?_cons_succ, List.length_cons, List.length_nil, List.take_succ_cons, List.take_zero, Nat.mul_one, Nat.zero_add, Nat.add_zero, Nat.one_mul, Nat.zero_mul, List.getElem?_map, List.getElem?_drop, List.getElem?_take, List.length_map, Option.map_some, List.set_cons_zero, List.set_cons_succ, and_true, true_and, List.flatMap_cons, List.flatMap_nil, Bool.not_not, hac2]
        refine wpa_app_t (m := 1) rfl htr2 rfl rfl rfl (flat_len aSt_len _) (by omega) (by omega) ?_
        intro σ3 lab3 t3 k3 ht3
        obtain ⟨hmx3, hlm3⟩ := k3.get hmx (by rw [hlm]; simp)
        obtain ⟨hnd3, hnl3'⟩ := k3.get hnd2 (by rw [hnl3]; simp)
        have hnl4 := hnl3'.trans hnl3
        have H3 := H2.stp k3 (fun q _ _ e => by have := congrArg Prod.fst e; simp only at this; omega)
        have htl3 := htl2.stp k3 (by simp)
        simp (maxSteps := 1000000) (implicitDefEqProofs := false) (disch := omega) only [push_cast, ↓reduceIte, Nat.reduceEqDiff, reduceCtorEq, decide_true, decide_false, Bool.not_true, Bool.not_false, Option.isNone_some, Option.isNone_none, List.drop_zero, List.drop_succ_cons, List.getElem?_cons_zero, List.getElem?_cons_succ, List.length_cons, List.length_nil, List.take_succ_cons, List.take_zero, Nat.mul_one, Nat.zero_add, Nat.add_zero, Nat.one_mul, Nat.zero_mul, List.getElem?_map, List.getElem?_drop, List.getElem?_take, List.length_map, Option.map_some, List.set_cons_zero, List.set_cons_succ, and_true, true_and, List.flatMap_cons, List.flatMap_nil, Bool.not_not, hρ]
        refine wpa_bsl (sz := 1) (by intro a ha; simp at ha; subst ha; rfl) (by simp) ?_
        by_cases e11 : m.k = 11
        · by_cases hit : 0 < F.it
          · rw [if_pos ⟨e11, hit⟩] at hgp
            subst hgp
            simp (maxSteps := 1000000) (implicitDefEqProofs := false) (disch := omega) only [push_cast, ↓reduceIte, Nat.reduceEqDiff, reduceCtorEq, decide_true, decide_false, Bool.not_true, Bool.not_false, Option.isNone_some, Option.isNone_none, List.drop_zero, List.drop_succ_cons, List.getElem?_cons_zero, List.getElem?_cons_succ, List.length_cons, List.length_nil, List.take_succ_cons, List.take_zero, Nat.mul_one, Nat.zero_add, Nat.add_zero, Nat.one_mul, Nat.zero_mul, List.getElem?_map, List.getElem?_drop, List.getElem?_take, List.length_map, Option.map_some, List.set_cons_zero, List.set_cons_succ, and_true, true_and, List.flatMap_cons, List.flatMap_nil, Bool.not_not, hρ, hmx3, aMk_0, aMk_1, e11, hnd3, nd1, hit]
            refine wpa_call (at_a ahead m.a (by omega)) ?_
            rintro a rfl
            simp (maxSteps := 1000000) (implicitDefEqProofs := false) (disch := omega) only [push_cast, ↓reduceIte, Nat.reduceEqDiff, reduceCtorEq, decide_true, decide_false, Bool.not_true, Bool.not_false, Option.isNone_some, Option.isNone_none, List.drop_zero, List.drop_succ_cons, List.getElem?_cons_zero, List.getElem?_cons_succ, List.length_cons, List.length_nil, List.take_succ_cons, List.take_zero, Nat.mul_one, Nat.zero_add, Nat.add_zero, Nat.one_mul, Nat.zero_mul, List.getElem?_map, List.getElem?_drop, List.getElem?_take, List.length_map, Option.map_some, List.set_cons_zero, List.set_cons_succ, and_true, true_and, List.flatMap_cons, List.flatMap_nil, Bool.not_not, aInt]
            refine wpa_bsl (sz := 1) (by intro a ha; simp at ha; subst ha; rfl) (by simp) ?_
            simp (maxSteps := 1000000) (implicitDefEqProofs := false) (disch := omega) only [push_cast, ↓reduceIte, Nat.reduceEqDiff, reduceCtorEq, decide_true, decide_false, Bool.not_true, Bool.not_false, Option.isNone_some, Option.isNone_none, List.drop_zero, List.drop_succ_cons, List.getElem?_cons_zero, List.getElem?_cons_succ, List.length_cons, List.length_nil, List.take_succ_cons, List.take_zero, Nat.mul_one, Nat.zero_add, Nat.add_zero, Nat.one_mul, Nat.zero_mul, List.getElem?_map, List.getElem?_drop, List.getElem?_take, List.length_map, Option.map_some, List.set_cons_zero, List.set_cons_succ, and_true, true_and, List.flatMap_cons, List.flatMap_nil, Bool.not_not]
            refine wpa_app_full0 (m := 1) rfl rfl rfl rfl rfl (by omega) (by omega) ?_
            simp (maxSteps := 1000000) (implicitDefEqProofs := false) (disch := omega) only [push_cast, ↓reduceIte, Nat.reduceEqDiff, reduceCtorEq, decide_true, decide_false, Bool.not_true, Bool.not_false, Option.isNone_some, Option.isNone_none, List.drop_zero, List.drop_succ_cons, List.getElem?_cons_zero, List.getElem?_cons_succ, List.length_cons, List.length_nil, List.take_succ_cons, List.take_zero, Nat.mul_one, Nat.zero_add, Nat.add_zero, Nat.one_mul, Nat.zero_mul, List.getElem?_map, List.getElem?_drop, List.getElem?_take, List.length_map, Option.map_some, List.set_cons_zero, List.set_cons_succ, and_true, true_and, List.flatMap_cons, List.flatMap_nil, Bool.not_not, hρ, hmx3, aMk_1]
            refine wpa_st1 rfl rfl hnd3 (by simp [aNd]) ?_
            have en : (aNd F.node).set 2 (.v (.int .i64 m.a)) = aNd (F.lp, F.it, m.a) := rfl
            rw [en]
            have k4 := stp_set (σ := σ3) (lab := lab3) (x := .obj 0 (aNd (F.lp, F.it, m.a))) hnl4
            have H4 := H3.stp k4 (fun q _ _ e => by have := congrArg Prod.fst e; simp only at this; omega)
            have hnd4 : (σ3.set nx (.obj 0 (aNd (F.lp, F.it, m.a))))[nx]? = some (.obj 0 (aNd (F.lp, F.it, m.a))) := get_set_eq hnd3
            have htr4 := ht3.stp k4 (by simp)
            have htl4 := htl3.stp k4 (by simp)
            generalize σ3.set nx (.obj 0 (aNd (F.lp, F.it, m.a))) = σ4 at k4 H4 hnd4 htr4 htl4 ⊢
            simp (maxSteps := 1000000) (implicitDefEqProofs := false) (disch := omega) only [push_cast, ↓reduceIte, Nat.reduceEqDiff, reduceCtorEq, decide_true, decide_false, Bool.not_true, Bool.not_false, Option.isNone_some, Option.isNone_none, List.drop_zero, List.drop_succ_cons, List.getElem?_cons_zero, List.getElem?_cons_succ, List.length_cons, List.length_nil, List.take_succ_cons, List.take_zero, Nat.mul_one, Nat.zero_add, Nat.add_zero, Nat.one_mul, Nat.zero_mul, List.getElem?_map, List.getElem?_drop, List.getElem?_take, List.length_map, Option.map_some, List.set_cons_zero, List.set_cons_succ, and_true, true_and, List.flatMap_cons, List.flatMap_nil, Bool.not_not, hρ, hnd4, cell3]
            refine wpa_callGw [] [false, false, true] (begin_a H4 hok2.p hok2.q (F.lp, F.it, m.a) [F.now, lastA ahead m.a]) (weak3 _ _ _ [F.now, lastA ahead m.a] _) ?_
            rintro a σ6 ⟨rfl, lab6, t6, H6, k6⟩
            obtain ⟨hnd7, hnl7⟩ := k6.get hnd4 (by rw [hnl4]; exact hn7 (fun _ h => h) 6 (by omega))
            have hpE : (D.nx.begin (F.lp, F.it, m.a) [F.now, lastA ahead m.a]).2.pos = D.pos + 1 := by unfold RD.begin; split <;> rfl
            have hst : ((D.nx.begin (F.lp, F.it, m.a) [F.now, lastA ahead m.a]).2.over = false ∧ (D.nx.begin (F.lp, F.it, m.a) [F.now, lastA ahead m.a]).2.e = 0 ∧ Goes l D0 F0 (D.nx.begin (F.lp, F.it, m.a) [F.now, lastA ahead m.a]).2 { goFr F m with now := (D.nx.begin (F.lp, F.it, m.a) [F.now, lastA ahead m.a]).1 } C) ∨
                ((D.nx.begin (F.lp, F.it, m.a) [F.now, lastA ahead m.a]).2.over = true ∧ Ends l D0 F0 (D.nx.begin (F.lp, F.it, m.a) [F.now, lastA ahead m.a]).2 C) := by
              by_cases hfull2 : D.preds.length = 1000
              · refine .inr ⟨by rw [(begin_no (D := D.nx) hfull2 (F.lp, F.it, m.a) [F.now, lastA ahead m.a] []).2], hgo.ends fun K hK => ?_⟩
                obtain ⟨G, K', rfl, e2⟩ := hgpK K hK
                rw [← e2]
                exact s_go_full hm hm11 hF2 hsg hfull2
              · obtain ⟨_, g2, g3, _⟩ := begin_ok (D := D.nx) hfull2 (F.lp, F.it, m.a) [F.now, lastA ahead m.a] []
                refine .inl ⟨g2.trans hov2, g3.trans he, hgo.trans fun K hK => ?_⟩
                obtain ⟨G, K', rfl, e2⟩ := hgpK K hK
                rw [← e2]
                exact s_go hm hm11 hF2 hsg hfull2
            simp (maxSteps := 1000000) (implicitDefEqProofs := false) (disch := omega) only [push_cast, ↓reduceIte, Nat.reduceEqDiff, reduceCtorEq, decide_true, decide_false, Bool.not_true, Bool.not_false, Option.isNone_some, Option.isNone_none, List.drop_zero, List.drop_succ_cons, List.getElem?_cons_zero, List.getElem?_cons_succ, List.length_cons, List.length_nil, List.take_succ_cons, List.take_zero, Nat.mul_one, Nat.zero_add, Nat.add_zero, Nat.one_mul, Nat.zero_mul, List.getElem?_map, List.getElem?_drop, List.getElem?_take, List.length_map, Option.map_some, List.set_cons_zero, List.set_cons_succ, and_true, true_and, List.flatMap_cons, List.flatMap_nil, Bool.not_not]
            refine hN ((D.nx.begin (F.lp, F.it, m.a) [F.now, lastA ahead m.a]).2, { goFr F m with now := (D.nx.begin (F.lp, F.it, m.a) [F.now, lastA ahead m.a]).1 }) _ _ ⟨?_, lab6, t6, t3, tl, ?_, H6, hok2.begin _ _, by rw [hpE]; have := hfi.le; omega, ?_, htl4.stp k6 (hn7 (fun _ h => h) 7 (by omega)), hnd7, hnl7.trans hnl4, (((hfi.k.trans k2 (U := isR D0.pos) (fun _ h => h) fun _ => isB_R).trans k3 (U := isR D0.pos) (fun _ h => h) fun r e => by subst e; exact .inr ⟨by simp, by simp⟩).trans k4 (U := isR D0.pos) (fun _ h => h) fun r e => by subst e; exact .inr ⟨by simp, by simp⟩).trans k6 (fun _ h => h) fun _ => isB_R, ⟨hsk, hsc, hsl, hsi, fun h => absurd (hsk ▸ hF2) h⟩, by simp only [goFr, hpE]; omega, by simp only [goFr, List.length_append, List.length_singleton, hpE]; omega, hst⟩ ?_
            · simp (maxSteps := 1000000) (implicitDefEqProofs := false) (disch := omega) only [push_cast, ↓reduceIte, Nat.reduceEqDiff, reduceCtorEq, decide_true, decide_false, Bool.not_true, Bool.not_false, Option.isNone_some, Option.isNone_none, List.drop_zero, List.drop_succ_cons, List.getElem?_cons_zero, List.getElem?_cons_succ, List.length_cons, List.length_nil, List.take_succ_cons, List.take_zero, Nat.mul_one, Nat.zero_add, Nat.add_zero, Nat.one_mul, Nat.zero_mul, List.getElem?_map, List.getElem?_drop, List.getElem?_take, List.length_map, Option.map_some, List.set_cons_zero, List.set_cons_succ, and_true, true_and, List.flatMap_cons, List.flatMap_nil, Bool.not_not, hρ]
              rfl
            · simp (maxSteps := 1000000) (implicitDefEqProofs := false) (disch := omega) only [push_cast, ↓reduceIte, Nat.reduceEqDiff, reduceCtorEq, decide_true, decide_false, Bool.not_true, Bool.not_false, Option.isNone_some, Option.isNone_none, List.drop_zero, List.drop_succ_cons, List.getElem?_cons_zero, List.getElem?_cons_succ, List.length_cons, List.length_nil, List.take_succ_cons, List.take_zero, Nat.mul_one, Nat.zero_add, Nat.add_zero, Nat.one_mul, Nat.zero_mul, List.getElem?_map, List.getElem?_drop, List.getElem?_take, List.length_map, Option.map_some, List.set_cons_zero, List.set_cons_succ, and_true, true_and, List.flatMap_cons, List.flatMap_nil, Bool.not_not, hrl]
              simp [goFr]
            · have := htr4.stp k6 (hn7 (fun _ h => h) 8 (by omega))
              simpa [goFr] using this
            · simp only [hpE, hov, Bool.false_eq_true, if_false]
              split <;> omega
          · rw [if_neg (fun h => hit h.2)] at hgp
            subst hgp
            simp (maxSteps := 1000000) (implicitDefEqProofs := false) (disch := omega) only [push_cast, ↓reduceIte, Nat.reduceEqDiff, reduceCtorEq, decide_true, decide_false, Bool.not_true, Bool.not_false, Option.isNone_some, Option.isNone_none, List.drop_zero, List.drop_succ_cons, List.getElem?_cons_zero, List.getElem?_cons_succ, List.length_cons, List.length_nil, List.take_succ_cons, List.take_zero, Nat.mul_one, Nat.zero_add, Nat.add_zero, Nat.one_mul, Nat.zero_mul, List.getElem?_map, List.getElem?_drop, List.getElem?_take, List.length_map, Option.map_some, List.set_cons_zero, List.set_cons_succ, and_true, true_and, List.flatMap_cons, List.flatMap_nil, Bool.not_not, hρ, hmx3, aMk_0, aMk_1, e11, hnd3, nd1, hit]
            refine wpa_st1 rfl rfl hnd3 (by simp [aNd]) ?_
            have en : (aNd F.node).set 2 (.v (.int .i64 m.a)) = aNd (F.lp, F.it, m.a) := rfl
            rw [en]
            have k4 := stp_set (σ := σ3) (lab := lab3) (x := .obj 0 (aNd (F.lp, F.it, m.a))) hnl4
            have H4 := H3.stp k4 (fun q _ _ e => by have := congrArg Prod.fst e; simp only at this; omega)
            have hnd4 : (σ3.set nx (.obj 0 (aNd (F.lp, F.it, m.a))))[nx]? = some (.obj 0 (aNd (F.lp, F.it, m.a))) := get_set_eq hnd3
            have htr4 := ht3.stp k4 (by simp)
            have htl4 := htl3.stp k4 (by simp)
            generalize σ3.set nx (.obj 0 (aNd (F.lp, F.it, m.a))) = σ4 at k4 H4 hnd4 htr4 htl4 ⊢
            simp (maxSteps := 1000000) (implicitDefEqProofs := false) (disch := omega) only [push_cast, ↓reduceIte, Nat.reduceEqDiff, reduceCtorEq, decide_true, decide_false, Bool.not_true, Bool.not_false, Option.isNone_some, Option.isNone_none, List.drop_zero, List.drop_succ_cons, List.getElem?_cons_zero, List.getElem?_cons_succ, List.length_cons, List.length_nil, List.take_succ_cons, List.take_zero, Nat.mul_one, Nat.zero_add, Nat.add_zero, Nat.one_mul, Nat.zero_mul, List.getElem?_map, List.getElem?_drop, List.getElem?_take, List.length_map, Option.map_some, List.set_cons_zero, List.set_cons_succ, and_true, true_and, List.flatMap_cons, List.flatMap_nil, Bool.not_not, hρ, hnd4, cell3]
            refine wpa_callGw [] [false, false, true] (begin_a H4 hok2.p hok2.q (F.lp, F.it, m.a) [F.now]) (weak3 _ _ _ [F.now] _) ?_
            rintro a σ6 ⟨rfl, lab6, t6, H6, k6⟩
            obtain ⟨hnd7, hnl7⟩ := k6.get hnd4 (by rw [hnl4]; exact hn7 (fun _ h => h) 6 (by omega))
            have hpE : (D.nx.begin (F.lp, F.it, m.a) [F.now]).2.pos = D.pos + 1 := by unfold RD.begin; split <;> rfl
            have hst : ((D.nx.begin (F.lp, F.it, m.a) [F.now]).2.over = false ∧ (D.nx.begin (F.lp, F.it, m.a) [F.now]).2.e = 0 ∧ Goes l D0 F0 (D.nx.begin (F.lp, F.it, m.a) [F.now]).2 { goFr F m with now := (D.nx.begin (F.lp, F.it, m.a) [F.now]).1 } C) ∨
                ((D.nx.begin (F.lp, F.it, m.a) [F.now]).2.over = true ∧ Ends l D0 F0 (D.nx.begin (F.lp, F.it, m.a) [F.now]).2 C) := by
              by_cases hfull2 : D.preds.length = 1000
              · refine .inr ⟨by rw [(begin_no (D := D.nx) hfull2 (F.lp, F.it, m.a) [F.now] []).2], hgo.ends fun K hK => ?_⟩
                obtain ⟨G, K', rfl, e2⟩ := hgpK K hK
                rw [← e2]
                exact s_go_full hm hm11 hF2 hsg hfull2
              · obtain ⟨_, g2, g3, _⟩ := begin_ok (D := D.nx) hfull2 (F.lp, F.it, m.a) [F.now] []
                refine .inl ⟨g2.trans hov2, g3.trans he, hgo.trans fun K hK => ?_⟩
                obtain ⟨G, K', rfl, e2⟩ := hgpK K hK
                rw [← e2]
                exact s_go hm hm11 hF2 hsg hfull2
            simp (maxSteps := 1000000) (implicitDefEqProofs := false) (disch := omega) only [push_cast, ↓reduceIte, Nat.reduceEqDiff, reduceCtorEq, decide_true, decide_false, Bool.not_true, Bool.not_false, Option.isNone_some, Option.isNone_none, List.drop_zero, List.drop_succ_cons, List.getElem?_cons_zero, List.getElem?_cons_succ, List.length_cons, List.length_nil, List.take_succ_cons, List.take_zero, Nat.mul_one, Nat.zero_add, Nat.add_zero, Nat.one_mul, Nat.zero_mul, List.getElem?_map, List.getElem?_drop, List.getElem?_take, List.length_map, Option.map_some, List.set_cons_zero, List.set_cons_succ, and_true, true_and, List.flatMap_cons, List.flatMap_nil, Bool.not_not]
            refine hN ((D.nx.begin (F.lp, F.it, m.a) [F.now]).2, { goFr F m with now := (D.nx.begin (F.lp, F.it, m.a) [F.now]).1 }) _ _ ⟨?_, lab6, t6, t3, tl, ?_, H6, hok2.begin _ _, by rw [hpE]; have := hfi.le; omega, ?_, htl4.stp k6 (hn7 (fun _ h => h) 7 (by omega)), hnd7, hnl7.trans hnl4, (((hfi.k.trans k2 (U := isR D0.pos) (fun _ h => h) fun _ => isB_R).trans k3 (U := isR D0.pos) (fun _ h => h) fun r e => by subst e; exact .inr ⟨by simp, by simp⟩).trans k4 (U := isR D0.pos) (fun _ h => h) fun r e => by subst e; exact .inr ⟨by simp, by simp⟩).trans k6 (fun _ h => h) fun _ => isB_R, ⟨hsk, hsc, hsl, hsi, fun h => absurd (hsk ▸ hF2) h⟩, by simp only [goFr, hpE]; omega, by simp only [goFr, List.length_append, List.length_singleton, hpE]; omega, hst⟩ ?_
            · simp (maxSteps := 1000000) (implicitDefEqProofs := false) (disch := omega) only [push_cast, ↓reduceIte, Nat.reduceEqDiff, reduceCtorEq, decide_true, decide_false, Bool.not_true, Bool.not_false, Option.isNone_some, Option.isNone_none, List.drop_zero, List.drop_succ_cons, List.getElem?_cons_zero, List.getElem?_cons_succ, List.length_cons, List.length_nil, List.take_succ_cons, List.take_zero, Nat.mul_one, Nat.zero_add, Nat.add_zero, Nat.one_mul, Nat.zero_mul, List.getElem?_map, List.getElem?_drop, List.getElem?_take, List.length_map, Option.map_some, List.set_cons_zero, List.set_cons_succ, and_true, true_and, List.flatMap_cons, List.flatMap_nil, Bool.not_not, hρ]
              rfl
            · simp (maxSteps := 1000000) (implicitDefEqProofs := false) (disch := omega) only [push_cast, ↓reduceIte, Nat.reduceEqDiff, reduceCtorEq, decide_true, decide_false, Bool.not_true, Bool.not_false, Option.isNone_some, Option.isNone_none, List.drop_zero, List.drop_succ_cons, List.getElem?_cons_zero, List.getElem?_cons_succ, List.length_cons, List.length_nil, List.take_succ_cons, List.take_zero, Nat.mul_one, Nat.zero_add, Nat.add_zero, Nat.one_mul, Nat.zero_mul, List.getElem?_map, List.getElem?_drop, List.getElem?_take, List.length_map, Option.map_some, List.set_cons_zero, List.set_cons_succ, and_true, true_and, List.flatMap_cons, List.flatMap_nil, Bool.not_not, hrl]
              simp [goFr]
            · have := htr4.stp k6 (hn7 (fun _ h => h) 8 (by omega))
              simpa [goFr] using this
            · simp only [hpE, hov, Bool.false_eq_true, if_false]
              split <;> omega
        · rw [if_neg (fun h => e11 h.1)] at hgp
          subst hgp
          simp (maxSteps := 1000000) (implicitDefEqProofs := false) (disch := omega) only [push_cast, ↓reduceIte, Nat.reduceEqDiff, reduceCtorEq, decide_true, decide_false, Bool.not_true, Bool.not_false, Option.isNone_some, Option.isNone_none, List.drop_zero, List.drop_succ_cons, List.getElem?_cons_zero, List.getElem?_cons_succ, List.length_cons, List.length_nil, List.take_succ_cons, List.take_zero, Nat.mul_one, Nat.zero_add, Nat.add_zero, Nat.one_mul, Nat.zero_mul, List.getElem?_map, List.getElem?_drop, List.getElem?_take, List.length_map, Option.map_some, List.set_cons_zero, List.set_cons_succ, and_true, true_and, List.flatMap_cons, List.flatMap_nil, Bool.not_not, hρ, hmx3, aMk_0, aMk_1, e11]
          refine wpa_st1 rfl rfl hnd3 (by simp [aNd]) ?_
          have en : (aNd F.node).set 2 (.v (.int .i64 m.a)) = aNd (F.lp, F.it, m.a) := rfl
          rw [en]
          have k4 := stp_set (σ := σ3) (lab := lab3) (x := .obj 0 (aNd (F.lp, F.it, m.a))) hnl4
          have H4 := H3.stp k4 (fun q _ _ e => by have := congrArg Prod.fst e; simp only at this; omega)
          have hnd4 : (σ3.set nx (.obj 0 (aNd (F.lp, F.it, m.a))))[nx]? = some (.obj 0 (aNd (F.lp, F.it, m.a))) := get_set_eq hnd3
          have htr4 := ht3.stp k4 (by simp)
          have htl4 := htl3.stp k4 (by simp)
          generalize σ3.set nx (.obj 0 (aNd (F.lp, F.it, m.a))) = σ4 at k4 H4 hnd4 htr4 htl4 ⊢
          simp (maxSteps := 1000000) (implicitDefEqProofs := false) (disch := omega) only [push_cast, ↓reduceIte, Nat.reduceEqDiff, reduceCtorEq, decide_true, decide_false, Bool.not_true, Bool.not_false, Option.isNone_some, Option.isNone_none, List.drop_zero, List.drop_succ_cons, List.getElem?_cons_zero, List.getElem?_cons_succ, List.length_cons, List.length_nil, List.take_succ_cons, List.take_zero, Nat.mul_one, Nat.zero_add, Nat.add_zero, Nat.one_mul, Nat.zero_mul, List.getElem?_map, List.getElem?_drop, List.getElem?_take, List.length_map, Option.map_some, List.set_cons_zero, List.set_cons_succ, and_true, true_and, List.flatMap_cons, List.flatMap_nil, Bool.not_not, hρ, hnd4, cell3]
          refine wpa_callGw [] [false, false, true] (begin_a H4 hok2.p hok2.q (F.lp, F.it, m.a) [F.now]) (weak3 _ _ _ [F.now] _) ?_
          rintro a σ6 ⟨rfl, lab6, t6, H6, k6⟩
          obtain ⟨hnd7, hnl7⟩ := k6.get hnd4 (by rw [hnl4]; exact hn7 (fun _ h => h) 6 (by omega))
          have hpE : (D.nx.begin (F.lp, F.it, m.a) [F.now]).2.pos = D.pos + 1 := by unfold RD.begin; split <;> rfl
          have hst : ((D.nx.begin (F.lp, F.it, m.a) [F.now]).2.over = false ∧ (D.nx.begin (F.lp, F.it, m.a) [F.now]).2.e = 0 ∧ Goes l D0 F0 (D.nx.begin (F.lp, F.it, m.a) [F.now]).2 { goFr F m with now := (D.nx.begin (F.lp, F.it, m.a) [F.now]).1 } C) ∨
              ((D.nx.begin (F.lp, F.it, m.a) [F.now]).2.over = true ∧ Ends l D0 F0 (D.nx.begin (F.lp, F.it, m.a) [F.now]).2 C) := by
            by_cases hfull2 : D.preds.length = 1000
            · refine .inr ⟨by rw [(begin_no (D := D.nx) hfull2 (F.lp, F.it, m.a) [F.now] []).2], hgo.ends fun K hK => ?_⟩
              obtain ⟨G, K', rfl, e2⟩ := hgpK K hK
              rw [← e2]
              exact s_go_full hm hm11 hF2 hsg hfull2
            · obtain ⟨_, g2, g3, _⟩ := begin_ok (D := D.nx) hfull2 (F.lp, F.it, m.a) [F.now] []
              refine .inl ⟨g2.trans hov2, g3.trans he, hgo.trans fun K hK => ?_⟩
              obtain ⟨G, K', rfl, e2⟩ := hgpK K hK
              rw [← e2]
              exact s_go hm hm11 hF2 hsg hfull2
          simp (maxSteps := 1000000) (implicitDefEqProofs := false) (disch := omega) only [push_cast, ↓reduceIte, Nat.reduceEqDiff, reduceCtorEq, decide_true, decide_false, Bool.not_true, Bool.not_false, Option.isNone_some, Option.isNone_none, List.drop_zero, List.drop_succ_cons, List.getElem?_cons_zero, List.getElem?_cons_succ, List.length_cons, List.length_nil, List.take_succ_cons, List.take_zero, Nat.mul_one, Nat.zero_add, Nat.add_zero, Nat.one_mul, Nat.zero_mul, List.getElem?_map, List.getElem?_drop, List.getElem?_take, List.length_map, Option.map_some, List.set_cons_zero, List.set_cons_succ, and_true, true_and, List.flatMap_cons, List.flatMap_nil, Bool.not_not]
          refine hN ((D.nx.begin (F.lp, F.it, m.a) [F.now]).2, { goFr F m with now := (D.nx.begin (F.lp, F.it, m.a) [F.now]).1 }) _ _ ⟨?_, lab6, t6, t3, tl, ?_, H6, hok2.begin _ _, by rw [hpE]; have := hfi.le; omega, ?_, htl4.stp k6 (hn7 (fun _ h => h) 7 (by omega)), hnd7, hnl7.trans hnl4, (((hfi.k.trans k2 (U := isR D0.pos) (fun _ h => h) fun _ => isB_R).trans k3 (U := isR D0.pos) (fun _ h => h) fun r e => by subst e; exact .inr ⟨by simp, by simp⟩).trans k4 (U := isR D0.pos) (fun _ h => h) fun r e => by subst e; exact .inr ⟨by simp, by simp⟩).trans k6 (fun _ h => h) fun _ => isB_R, ⟨hsk, hsc, hsl, hsi, fun h => absurd (hsk ▸ hF2) h⟩, by simp only [goFr, hpE]; omega, by simp only [goFr, List.length_append, List.length_singleton, hpE]; omega, hst⟩ ?_
          · simp (maxSteps := 1000000) (implicitDefEqProofs := false) (disch := omega) only [push_cast, ↓reduceIte, Nat.reduceEqDiff, reduceCtorEq, decide_true, decide_false, Bool.not_true, Bool.not_false, Option.isNone_some, Option.isNone_none, List.drop_zero, List.drop_succ_cons, List.getElem?_cons_zero, List.getElem?_cons_succ, List.length_cons, List.length_nil, List.take_succ_cons, List.take_zero, Nat.mul_one, Nat.zero_add, Nat.add_zero, Nat.one_mul, Nat.zero_mul, List.getElem?_map, List.getElem?_drop, List.getElem?_take, List.length_map, Option.map_some, List.set_cons_zero, List.set_cons_succ, and_true, true_and, List.flatMap_cons, List.flatMap_nil, Bool.not_not, hρ]
            rfl
          · simp (maxSteps := 1000000) (implicitDefEqProofs := false) (disch := omega) only [push_cast, ↓reduceIte, Nat.reduceEqDiff, reduceCtorEq, decide_true, decide_false, Bool.not_true, Bool.not_false, Option.isNone_some, Option.isNone_none, List.drop_zero, List.drop_succ_cons, List.getElem?_cons_zero, List.getElem?_cons_succ, List.length_cons, List.length_nil, List.take_succ_cons, List.take_zero, Nat.mul_one, Nat.zero_add, Nat.add_zero, Nat.one_mul, Nat.zero_mul, List.getElem?_map, List.getElem?_drop, List.getElem?_take, List.length_map, Option.map_some, List.set_cons_zero, List.set_cons_succ, and_true, true_and, List.flatMap_cons, List.flatMap_nil, Bool.not_not, hrl]
            simp [goFr]
          · have := htr4.stp k6 (hn7 (fun _ h => h) 8 (by omega))
            simpa [goFr] using this
          · simp only [hpE, hov, Bool.false_eq_true, if_false]
            split <;> omega
      by_cases k5 : m.k = 5
      · have hkd1 : ¬ kd = 1 := fun h => c5 ⟨k5, h⟩
        have hfit : fitsB F m = false := by
          unfold fitsB
          unfold kindOf at hkF
          rcases hkF with ⟨_, _, h⟩ | ⟨h, _, _⟩ | ⟨_, _, h⟩
          · simp [k5, h]
          · exact absurd h hkd1
          · simp [k5, h]
        simp (maxSteps := 1000000) (implicitDefEqProofs := false) (disch := omega) only [push_cast, ↓reduceIte, Nat.reduceEqDiff, reduceCtorEq, decide_true, decide_false, Bool.not_true, Bool.not_false, Option.isNone_some, Option.isNone_none, List.drop_zero, List.drop_succ_cons, List.getElem?_cons_zero, List.getElem?_cons_succ, List.length_cons, List.length_nil, List.take_succ_cons, List.take_zero, Nat.mul_one, Nat.zero_add, Nat.add_zero, Nat.one_mul, Nat.zero_mul, List.getElem?_map, List.getElem?_drop, List.getElem?_take, List.length_map, Option.map_some, List.set_cons_zero, List.set_cons_succ, and_true, true_and, List.flatMap_cons, List.flatMap_nil, Bool.not_not, hρ, ho2, rdC_5, hov2, hmx, aMk_0, aMk_1, aInt, k5, hkd1]
        refine wpa_callG (wrong_a H2) ?_
        rintro a σ3 ⟨H3, k3⟩
        simp (maxSteps := 1000000) (implicitDefEqProofs := false) (disch := omega) only [push_cast, ↓reduceIte, Nat.reduceEqDiff, reduceCtorEq, decide_true, decide_false, Bool.not_true, Bool.not_false, Option.isNone_some, Option.isNone_none, List.drop_zero, List.drop_succ_cons, List.getElem?_cons_zero, List.getElem?_cons_succ, List.length_cons, List.length_nil, List.take_succ_cons, List.take_zero, Nat.mul_one, Nat.zero_add, Nat.add_zero, Nat.one_mul, Nat.zero_mul, List.getElem?_map, List.getElem?_drop, List.getElem?_take, List.length_map, Option.map_some, List.set_cons_zero, List.set_cons_succ, and_true, true_and, List.flatMap_cons, List.flatMap_nil, Bool.not_not]
        refine hN (D.nx.wrong, F) _ _ ⟨?_, lab2, t, tr, tl, ?_, hfi.stp (k2.trans k3 (U := isB) (fun _ h => h) fun _ h => h) hBR (fun _ => isB_R) H3 ⟨hok2.pos, hok2.p, hok2.q, hok2.a⟩ (by simp only [RD.wrong, RD.nx]; omega) (.inr ⟨rfl, hgo.ends fun K _ => ends_form hm hk hfit⟩)⟩ ?_
        · simp (maxSteps := 1000000) (implicitDefEqProofs := false) (disch := omega) only [push_cast, ↓reduceIte, Nat.reduceEqDiff, reduceCtorEq, decide_true, decide_false, Bool.not_true, Bool.not_false, Option.isNone_some, Option.isNone_none, List.drop_zero, List.drop_succ_cons, List.getElem?_cons_zero, List.getElem?_cons_succ, List.length_cons, List.length_nil, List.take_succ_cons, List.take_zero, Nat.mul_one, Nat.zero_add, Nat.add_zero, Nat.one_mul, Nat.zero_mul, List.getElem?_map, List.getElem?_drop, List.getElem?_take, List.length_map, Option.map_some, List.set_cons_zero, List.set_cons_succ, and_true, true_and, List.flatMap_cons, List.flatMap_nil, Bool.not_not, hρ]
        · simp (maxSteps := 1000000) (implicitDefEqProofs := false) (disch := omega) only [push_cast, ↓reduceIte, Nat.reduceEqDiff, reduceCtorEq, decide_true, decide_false, Bool.not_true, Bool.not_false, Option.isNone_some, Option.isNone_none, List.drop_zero, List.drop_succ_cons, List.getElem?_cons_zero, List.getElem?_cons_succ, List.length_cons, List.length_nil, List.take_succ_cons, List.take_zero, Nat.mul_one, Nat.zero_add, Nat.add_zero, Nat.one_mul, Nat.zero_mul, List.getElem?_map, List.getElem?_drop, List.getElem?_take, List.length_map, Option.map_some, List.set_cons_zero, List.set_cons_succ, and_true, true_and, List.flatMap_cons, List.flatMap_nil, Bool.not_not, hrl]
        · simp only [RD.wrong, RD.nx, hov, if_true, Bool.false_eq_true, if_false]; omega
      by_cases k8 : m.k = 8
      · have hfit : fitsB F m = false := by unfold fitsB; simp [k8, hF3]
        simp (maxSteps := 1000000) (implicitDefEqProofs := false) (disch := omega) only [push_cast, ↓reduceIte, Nat.reduceEqDiff, reduceCtorEq, decide_true, decide_false, Bool.not_true, Bool.not_false, Option.isNone_some, Option.isNone_none, List.drop_zero, List.drop_succ_cons, List.getElem?_cons_zero, List.getElem?_cons_succ, List.length_cons, List.length_nil, List.take_succ_cons, List.take_zero, Nat.mul_one, Nat.zero_add, Nat.add_zero, Nat.one_mul, Nat.zero_mul, List.getElem?_map, List.getElem?_drop, List.getElem?_take, List.length_map, Option.map_some, List.set_cons_zero, List.set_cons_succ, and_true, true_and, List.flatMap_cons, List.flatMap_nil, Bool.not_not, hρ, ho2, rdC_5, hov2, hmx, aMk_0, aMk_1, aInt, k8]
        refine wpa_callG (wrong_a H2) ?_
        rintro a σ3 ⟨H3, k3⟩
        simp (maxSteps := 1000000) (implicitDefEqProofs := false) (disch := omega) only [push_cast, ↓reduceIte, Nat.reduceEqDiff, reduceCtorEq, decide_true, decide_false, Bool.not_true, Bool.not_false, Option.isNone_some, Option.isNone_none, List.drop_zero, List.drop_succ_cons, List.getElem?_cons_zero, List.getElem?_cons_succ, List.length_cons, List.length_nil, List.take_succ_cons, List.take_zero, Nat.mul_one, Nat.zero_add, Nat.add_zero, Nat.one_mul, Nat.zero_mul, List.getElem?_map, List.getElem?_drop, List.getElem?_take, List.length_map, Option.map_some, List.set_cons_zero, List.set_cons_succ, and_true, true_and, List.flatMap_cons, List.flatMap_nil, Bool.not_not]
        refine hN (D.nx.wrong, F) _ _ ⟨?_, lab2, t, tr, tl, ?_, hfi.stp (k2.trans k3 (U := isB) (fun _ h => h) fun _ h => h) hBR (fun _ => isB_R) H3 ⟨hok2.pos, hok2.p, hok2.q, hok2.a⟩ (by simp only [RD.wrong, RD.nx]; omega) (.inr ⟨rfl, hgo.ends fun K _ => ends_form hm hk hfit⟩)⟩ ?_
        · simp (maxSteps := 1000000) (implicitDefEqProofs := false) (disch := omega) only [push_cast, ↓reduceIte, Nat.reduceEqDiff, reduceCtorEq, decide_true, decide_false, Bool.not_true, Bool.not_false, Option.isNone_some, Option.isNone_none, List.drop_zero, List.drop_succ_cons, List.getElem?_cons_zero, List.getElem?_cons_succ, List.length_cons, List.length_nil, List.take_succ_cons, List.take_zero, Nat.mul_one, Nat.zero_add, Nat.add_zero, Nat.one_mul, Nat.zero_mul, List.getElem?_map, List.getElem?_drop, List.getElem?_take, List.length_map, Option.map_some, List.set_cons_zero, List.set_cons_succ, and_true, true_and, List.flatMap_cons, List.flatMap_nil, Bool.not_not, hρ]
        · simp (maxSteps := 1000000) (implicitDefEqProofs := false) (disch := omega) only [push_cast, ↓reduceIte, Nat.reduceEqDiff, reduceCtorEq, decide_true, decide_false, Bool.not_true, Bool.not_false, Option.isNone_some, Option.isNone_none, List.drop_zero, List.drop_succ_cons, List.getElem?_cons_zero, List.getElem?_cons_succ, List.length_cons, List.length_nil, List.take_succ_cons, List.take_zero, Nat.mul_one, Nat.zero_add, Nat.add_zero, Nat.one_mul, Nat.zero_mul, List.getElem?_map, List.getElem?_drop, List.getElem?_take, List.length_map, Option.map_some, List.set_cons_zero, List.set_cons_succ, and_true, true_and, List.flatMap_cons, List.flatMap_nil, Bool.not_not, hrl]
        · simp only [RD.wrong, RD.nx, hov, if_true, Bool.false_eq_true, if_false]; omega
      by_cases k9 : m.k = 9
      · have hfit : fitsB F m = false := by unfold fitsB; simp [k9, hF3]
        simp (maxSteps := 1000000) (implicitDefEqProofs := false) (disch := omega) only [push_cast, ↓reduceIte, Nat.reduceEqDiff, reduceCtorEq, decide_true, decide_false, Bool.not_true, Bool.not_false, Option.isNone_some, Option.isNone_none, List.drop_zero, List.drop_succ_cons, List.getElem?_cons_zero, List.getElem?_cons_succ, List.length_cons, List.length_nil, List.take_succ_cons, List.take_zero, Nat.mul_one, Nat.zero_add, Nat.add_zero, Nat.one_mul, Nat.zero_mul, List.getElem?_map, List.getElem?_drop, List.getElem?_take, List.length_map, Option.map_some, List.set_cons_zero, List.set_cons_succ, and_true, true_and, List.flatMap_cons, List.flatMap_nil, Bool.not_not, hρ, ho2, rdC_5, hov2, hmx, aMk_0, aMk_1, aInt, k9]
        refine wpa_callG (wrong_a H2) ?_
        rintro a σ3 ⟨H3, k3⟩
        simp (maxSteps := 1000000) (implicitDefEqProofs := false) (disch := omega) only [push_cast, ↓reduceIte, Nat.reduceEqDiff, reduceCtorEq, decide_true, decide_false, Bool.not_true, Bool.not_false, Option.isNone_some, Option.isNone_none, List.drop_zero, List.drop_succ_cons, List.getElem?_cons_zero, List.getElem?_cons_succ, List.length_cons, List.length_nil, List.take_succ_cons, List.take_zero, Nat.mul_one, Nat.zero_add, Nat.add_zero, Nat.one_mul, Nat.zero_mul, List.getElem?_map, List.getElem?_drop, List.getElem?_take, List.length_map, Option.map_some, List.set_cons_zero, List.set_cons_succ, and_true, true_and, List.flatMap_cons, List.flatMap_nil, Bool.not_not]
        refine hN (D.nx.wrong, F) _ _ ⟨?_, lab2, t, tr, tl, ?_, hfi.stp (k2.trans k3 (U := isB) (fun _ h => h) fun _ h => h) hBR (fun _ => isB_R) H3 ⟨hok2.pos, hok2.p, hok2.q, hok2.a⟩ (by simp only [RD.wrong, RD.nx]; omega) (.inr ⟨rfl, hgo.ends fun K _ => ends_form hm hk hfit⟩)⟩ ?_
        · simp (maxSteps := 1000000) (implicitDefEqProofs := false) (disch := omega) only [push_cast, ↓reduceIte, Nat.reduceEqDiff, reduceCtorEq, decide_true, decide_false, Bool.not_true, Bool.not_false, Option.isNone_some, Option.isNone_none, List.drop_zero, List.drop_succ_cons, List.getElem?_cons_zero, List.getElem?_cons_succ, List.length_cons, List.length_nil, List.take_succ_cons, List.take_zero, Nat.mul_one, Nat.zero_add, Nat.add_zero, Nat.one_mul, Nat.zero_mul, List.getElem?_map, List.getElem?_drop, List.getElem?_take, List.length_map, Option.map_some, List.set_cons_zero, List.set_cons_succ, and_true, true_and, List.flatMap_cons, List.flatMap_nil, Bool.not_not, hρ]
        · simp (maxSteps := 1000000) (implicitDefEqProofs := false) (disch := omega) only [push_cast, ↓reduceIte, Nat.reduceEqDiff, reduceCtorEq, decide_true, decide_false, Bool.not_true, Bool.not_false, Option.isNone_some, Option.isNone_none, List.drop_zero, List.drop_succ_cons, List.getElem?_cons_zero, List.getElem?_cons_succ, List.length_cons, List.length_nil, List.take_succ_cons, List.take_zero, Nat.mul_one, Nat.zero_add, Nat.add_zero, Nat.one_mul, Nat.zero_mul, List.getElem?_map, List.getElem?_drop, List.getElem?_take, List.length_map, Option.map_some, List.set_cons_zero, List.set_cons_succ, and_true, true_and, List.flatMap_cons, List.flatMap_nil, Bool.not_not, hrl]
        · simp only [RD.wrong, RD.nx, hov, if_true, Bool.false_eq_true, if_false]; omega
      by_cases k10 : m.k = 10
      · have hfit : fitsB F m = false := by
          unfold fitsB
          unfold kindOf at hkF
          rcases hkF with ⟨_, h, _⟩ | ⟨_, h, _⟩ | ⟨h2, h, _⟩
          · simp [k10, h]
          · simp [k10, h]
          · have : ¬ m.a = F.it := fun e => c10 ⟨k10, h2, e⟩
            simp [k10, this]
        by_cases hkd2 : kd = 2
        · have hna : ¬ m.a = F.it := fun e => c10 ⟨k10, hkd2, e⟩
          simp (maxSteps := 1000000) (implicitDefEqProofs := false) (disch := omega) only [push_cast, ↓reduceIte, Nat.reduceEqDiff, reduceCtorEq, decide_true, decide_false, Bool.not_true, Bool.not_false, Option.isNone_some, Option.isNone_none, List.drop_zero, List.drop_succ_cons, List.getElem?_cons_zero, List.getElem?_cons_succ, List.length_cons, List.length_nil, List.take_succ_cons, List.take_zero, Nat.mul_one, Nat.zero_add, Nat.add_zero, Nat.one_mul, Nat.zero_mul, List.getElem?_map, List.getElem?_drop, List.getElem?_take, List.length_map, Option.map_some, List.set_cons_zero, List.set_cons_succ, and_true, true_and, List.flatMap_cons, List.flatMap_nil, Bool.not_not, hρ, ho2, rdC_5, hov2, hmx, aMk_0, aMk_1, aInt, k10, hkd2, hnd2, nd1, hna]
          refine wpa_callG (wrong_a H2) ?_
          rintro a σ3 ⟨H3, k3⟩
          simp (maxSteps := 1000000) (implicitDefEqProofs := false) (disch := omega) only [push_cast, ↓reduceIte, Nat.reduceEqDiff, reduceCtorEq, decide_true, decide_false, Bool.not_true, Bool.not_false, Option.isNone_some, Option.isNone_none, List.drop_zero, List.drop_succ_cons, List.getElem?_cons_zero, List.getElem?_cons_succ, List.length_cons, List.length_nil, List.take_succ_cons, List.take_zero, Nat.mul_one, Nat.zero_add, Nat.add_zero, Nat.one_mul, Nat.zero_mul, List.getElem?_map, List.getElem?_drop, List.getElem?_take, List.length_map, Option.map_some, List.set_cons_zero, List.set_cons_succ, and_true, true_and, List.flatMap_cons, List.flatMap_nil, Bool.not_not]
          refine hN (D.nx.wrong, F) _ _ ⟨?_, lab2, t, tr, tl, ?_, hfi.stp (k2.trans k3 (U := isB) (fun _ h => h) fun _ h => h) hBR (fun _ => isB_R) H3 ⟨hok2.pos, hok2.p, hok2.q, hok2.a⟩ (by simp only [RD.wrong, RD.nx]; omega) (.inr ⟨rfl, hgo.ends fun K _ => ends_form hm hk hfit⟩)⟩ ?_
          · simp (maxSteps := 1000000) (implicitDefEqProofs := false) (disch := omega) only [push_cast, ↓reduceIte, Nat.reduceEqDiff, reduceCtorEq, decide_true, decide_false, Bool.not_true, Bool.not_false, Option.isNone_some, Option.isNone_none, List.drop_zero, List.drop_succ_cons, List.getElem?_cons_zero, List.getElem?_cons_succ, List.length_cons, List.length_nil, List.take_succ_cons, List.take_zero, Nat.mul_one, Nat.zero_add, Nat.add_zero, Nat.one_mul, Nat.zero_mul, List.getElem?_map, List.getElem?_drop, List.getElem?_take, List.length_map, Option.map_some, List.set_cons_zero, List.set_cons_succ, and_true, true_and, List.flatMap_cons, List.flatMap_nil, Bool.not_not, hρ]
          · simp (maxSteps := 1000000) (implicitDefEqProofs := false) (disch := omega) only [push_cast, ↓reduceIte, Nat.reduceEqDiff, reduceCtorEq, decide_true, decide_false, Bool.not_true, Bool.not_false, Option.isNone_some, Option.isNone_none, List.drop_zero, List.drop_succ_cons, List.getElem?_cons_zero, List.getElem?_cons_succ, List.length_cons, List.length_nil, List.take_succ_cons, List.take_zero, Nat.mul_one, Nat.zero_add, Nat.add_zero, Nat.one_mul, Nat.zero_mul, List.getElem?_map, List.getElem?_drop, List.getElem?_take, List.length_map, Option.map_some, List.set_cons_zero, List.set_cons_succ, and_true, true_and, List.flatMap_cons, List.flatMap_nil, Bool.not_not, hrl]
          · simp only [RD.wrong, RD.nx, hov, if_true, Bool.false_eq_true, if_false]; omega
        · skip
          simp (maxSteps := 1000000) (implicitDefEqProofs := false) (disch := omega) only [push_cast, ↓reduceIte, Nat.reduceEqDiff, reduceCtorEq, decide_true, decide_false, Bool.not_true, Bool.not_false, Option.isNone_some, Option.isNone_none, List.drop_zero, List.drop_succ_cons, List.getElem?_cons_zero, List.getElem?_cons_succ, List.length_cons, List.length_nil, List.take_succ_cons, List.take_zero, Nat.mul_one, Nat.zero_add, Nat.add_zero, Nat.one_mul, Nat.zero_mul, List.getElem?_map, List.getElem?_drop, List.getElem?_take, List.length_map, Option.map_some, List.set_cons_zero, List.set_cons_succ, and_true, true_and, List.flatMap_cons, List.flatMap_nil, Bool.not_not, hρ, ho2, rdC_5, hov2, hmx, aMk_0, aMk_1, aInt, k10, hkd2]
          refine wpa_callG (wrong_a H2) ?_
          rintro a σ3 ⟨H3, k3⟩
          simp (maxSteps := 1000000) (implicitDefEqProofs := false) (disch := omega) only [push_cast, ↓reduceIte, Nat.reduceEqDiff, reduceCtorEq, decide_true, decide_false, Bool.not_true, Bool.not_false, Option.isNone_some, Option.isNone_none, List.drop_zero, List.drop_succ_cons, List.getElem?_cons_zero, List.getElem?_cons_succ, List.length_cons, List.length_nil, List.take_succ_cons, List.take_zero, Nat.mul_one, Nat.zero_add, Nat.add_zero, Nat.one_mul, Nat.zero_mul, List.getElem?_map, List.getElem?_drop, List.getElem?_take, List.length_map, Option.map_some, List.set_cons_zero, List.set_cons_succ, and_true, true_and, List.flatMap_cons, List.flatMap_nil, Bool.not_not]
          refine hN (D.nx.wrong, F) _ _ ⟨?_, lab2, t, tr, tl, ?_, hfi.stp (k2.trans k3 (U := isB) (fun _ h => h) fun _ h => h) hBR (fun _ => isB_R) H3 ⟨hok2.pos, hok2.p, hok2.q, hok2.a⟩ (by simp only [RD.wrong, RD.nx]; omega) (.inr ⟨rfl, hgo.ends fun K _ => ends_form hm hk hfit⟩)⟩ ?_
          · simp (maxSteps := 1000000) (implicitDefEqProofs := false) (disch := omega) only [push_cast, ↓reduceIte, Nat.reduceEqDiff, reduceCtorEq, decide_true, decide_false, Bool.not_true, Bool.not_false, Option.isNone_some, Option.isNone_none, List.drop_zero, List.drop_succ_cons, List.getElem?_cons_zero, List.getElem?_cons_succ, List.length_cons, List.length_nil, List.take_succ_cons, List.take_zero, Nat.mul_one, Nat.zero_add, Nat.add_zero, Nat.one_mul, Nat.zero_mul, List.getElem?_map, List.getElem?_drop, List.getElem?_take, List.length_map, Option.map_some, List.set_cons_zero, List.set_cons_succ, and_true, true_and, List.flatMap_cons, List.flatMap_nil, Bool.not_not, hρ]
          · simp (maxSteps := 1000000) (implicitDefEqProofs := false) (disch := omega) only [push_cast, ↓reduceIte, Nat.reduceEqDiff, reduceCtorEq, decide_true, decide_false, Bool.not_true, Bool.not_false, Option.isNone_some, Option.isNone_none, List.drop_zero, List.drop_succ_cons, List.getElem?_cons_zero, List.getElem?_cons_succ, List.length_cons, List.length_nil, List.take_succ_cons, List.take_zero, Nat.mul_one, Nat.zero_add, Nat.add_zero, Nat.one_mul, Nat.zero_mul, List.getElem?_map, List.getElem?_drop, List.getElem?_take, List.length_map, Option.map_some, List.set_cons_zero, List.set_cons_succ, and_true, true_and, List.flatMap_cons, List.flatMap_nil, Bool.not_not, hrl]
          · simp only [RD.wrong, RD.nx, hov, if_true, Bool.false_eq_true, if_false]; omega
      have k11 : m.k = 11 ∨ m.k = 12 := by omega
      have hfit : fitsB F m = false := by
        unfold fitsB
        unfold kindOf at hkF
        rcases hkF with ⟨_, h, _⟩ | ⟨_, h, _⟩ | ⟨h2, h, _⟩
        · rcases k11 with k | k <;> simp [k, h]
        · rcases k11 with k | k <;> simp [k, h]
        · have : ¬ F.sg < m.a := fun e => c11 ⟨by omega, h2, e⟩
          rcases k11 with k | k <;> simp [k, this]
      have g11 : 11 ≤ m.k := by omega
      by_cases hkd2 : kd = 2
      · have hna : ¬ F.sg < m.a := fun e => c11 ⟨g11, hkd2, e⟩
        simp (maxSteps := 1000000) (implicitDefEqProofs := false) (disch := omega) only [push_cast, ↓reduceIte, Nat.reduceEqDiff, reduceCtorEq, decide_true, decide_false, Bool.not_true, Bool.not_false, Option.isNone_some, Option.isNone_none, List.drop_zero, List.drop_succ_cons, List.getElem?_cons_zero, List.getElem?_cons_succ, List.length_cons, List.length_nil, List.take_succ_cons, List.take_zero, Nat.mul_one, Nat.zero_add, Nat.add_zero, Nat.one_mul, Nat.zero_mul, List.getElem?_map, List.getElem?_drop, List.getElem?_take, List.length_map, Option.map_some, List.set_cons_zero, List.set_cons_succ, and_true, true_and, List.flatMap_cons, List.flatMap_nil, Bool.not_not, hρ, ho2, rdC_5, hov2, hmx, aMk_0, aMk_1, aInt, k5, k10, c3, c4, c6, c7, g11, hkd2, hnd2, nd2, hna]
        refine wpa_callG (wrong_a H2) ?_
        rintro a σ3 ⟨H3, k3⟩
        simp (maxSteps := 1000000) (implicitDefEqProofs := false) (disch := omega) only [push_cast, ↓reduceIte, Nat.reduceEqDiff, reduceCtorEq, decide_true, decide_false, Bool.not_true, Bool.not_false, Option.isNone_some, Option.isNone_none, List.drop_zero, List.drop_succ_cons, List.getElem?_cons_zero, List.getElem?_cons_succ, List.length_cons, List.length_nil, List.take_succ_cons, List.take_zero, Nat.mul_one, Nat.zero_add, Nat.add_zero, Nat.one_mul, Nat.zero_mul, List.getElem?_map, List.getElem?_drop, List.getElem?_take, List.length_map, Option.map_some, List.set_cons_zero, List.set_cons_succ, and_true, true_and, List.flatMap_cons, List.flatMap_nil, Bool.not_not]
        refine hN (D.nx.wrong, F) _ _ ⟨?_, lab2, t, tr, tl, ?_, hfi.stp (k2.trans k3 (U := isB) (fun _ h => h) fun _ h => h) hBR (fun _ => isB_R) H3 ⟨hok2.pos, hok2.p, hok2.q, hok2.a⟩ (by simp only [RD.wrong, RD.nx]; omega) (.inr ⟨rfl, hgo.ends fun K _ => ends_form hm hk hfit⟩)⟩ ?_
        · simp (maxSteps := 1000000) (implicitDefEqProofs := false) (disch := omega) only [push_cast, ↓reduceIte, Nat.reduceEqDiff, reduceCtorEq, decide_true, decide_false, Bool.not_true, Bool.not_false, Option.isNone_some, Option.isNone_none, List.drop_zero, List.drop_succ_cons, List.getElem?_cons_zero, List.getElem?_cons_succ, List.length_cons, List.length_nil, List.take_succ_cons, List.take_zero, Nat.mul_one, Nat.zero_add, Nat.add_zero, Nat.one_mul, Nat.zero_mul, List.getElem?_map, List.getElem?_drop, List.getElem?_take, List.length_map, Option.map_some, List.set_cons_zero, List.set_cons_succ, and_true, true_and, List.flatMap_cons, List.flatMap_nil, Bool.not_not, hρ]
        · simp (maxSteps := 1000000) (implicitDefEqProofs := false) (disch := omega) only [push_cast, ↓reduceIte, Nat.reduceEqDiff, reduceCtorEq, decide_true, decide_false, Bool.not_true, Bool.not_false, Option.isNone_some, Option.isNone_none, List.drop_zero, List.drop_succ_cons, List.getElem?_cons_zero, List.getElem?_cons_succ, List.length_cons, List.length_nil, List.take_succ_cons, List.take_zero, Nat.mul_one, Nat.zero_add, Nat.add_zero, Nat.one_mul, Nat.zero_mul, List.getElem?_map, List.getElem?_drop, List.getElem?_take, List.length_map, Option.map_some, List.set_cons_zero, List.set_cons_succ, and_true, true_and, List.flatMap_cons, List.flatMap_nil, Bool.not_not, hrl]
        · simp only [RD.wrong, RD.nx, hov, if_true, Bool.false_eq_true, if_false]; omega
      · skip
        simp (maxSteps := 1000000) (implicitDefEqProofs := false) (disch := omega) only [push_cast, ↓reduceIte, Nat.reduceEqDiff, reduceCtorEq, decide_true, decide_false, Bool.not_true, Bool.not_false, Option.isNone_some, Option.isNone_none, List.drop_zero, List.drop_succ_cons, List.getElem?_cons_zero, List.getElem?_cons_succ, List.length_cons, List.length_nil, List.take_succ_cons, List.take_zero, Nat.mul_one, Nat.zero_add, Nat.add_zero, Nat.one_mul, Nat.zero_mul, List.getElem?_map, List.getElem?_drop, List.getElem?_take, List.length_map, Option.map_some, List.set_cons_zero, List.set_cons_succ, and_true, true_and, List.flatMap_cons, List.flatMap_nil, Bool.not_not, hρ, ho2, rdC_5, hov2, hmx, aMk_0, aMk_1, aInt, k5, k10, c3, c4, c6, c7, g11, hkd2]
        refine wpa_callG (wrong_a H2) ?_
        rintro a σ3 ⟨H3, k3⟩
        simp (maxSteps := 1000000) (implicitDefEqProofs := false) (disch := omega) only [push_cast, ↓reduceIte, Nat.reduceEqDiff, reduceCtorEq, decide_true, decide_false, Bool.not_true, Bool.not_false, Option.isNone_some, Option.isNone_none, List.drop_zero, List.drop_succ_cons, List.getElem?_cons_zero, List.getElem?_cons_succ, List.length_cons, List.length_nil, List.take_succ_cons, List.take_zero, Nat.mul_one, Nat.zero_add, Nat.add_zero, Nat.one_mul, Nat.zero_mul, List.getElem?_map, List.getElem?_drop, List.getElem?_take, List.length_map, Option.map_some, List.set_cons_zero, List.set_cons_succ, and_true, true_and, List.flatMap_cons, List.flatMap_nil, Bool.not_not]
        refine hN (D.nx.wrong, F) _ _ ⟨?_, lab2, t, tr, tl, ?_, hfi.stp (k2.trans k3 (U := isB) (fun _ h => h) fun _ h => h) hBR (fun _ => isB_R) H3 ⟨hok2.pos, hok2.p, hok2.q, hok2.a⟩ (by simp only [RD.wrong, RD.nx]; omega) (.inr ⟨rfl, hgo.ends fun K _ => ends_form hm hk hfit⟩)⟩ ?_
        · simp (maxSteps := 1000000) (implicitDefEqProofs := false) (disch := omega) only [push_cast, ↓reduceIte, Nat.reduceEqDiff, reduceCtorEq, decide_true, decide_false, Bool.not_true, Bool.not_false, Option.isNone_some, Option.isNone_none, List.drop_zero, List.drop_succ_cons, List.getElem?_cons_zero, List.getElem?_cons_succ, List.length_cons, List.length_nil, List.take_succ_cons, List.take_zero, Nat.mul_one, Nat.zero_add, Nat.add_zero, Nat.one_mul, Nat.zero_mul, List.getElem?_map, List.getElem?_drop, List.getElem?_take, List.length_map, Option.map_some, List.set_cons_zero, List.set_cons_succ, and_true, true_and, List.flatMap_cons, List.flatMap_nil, Bool.not_not, hρ]
        · simp (maxSteps := 1000000) (implicitDefEqProofs := false) (disch := omega) only [push_cast, ↓reduceIte, Nat.reduceEqDiff, reduceCtorEq, decide_true, decide_false, Bool.not_true, Bool.not_false, Option.isNone_some, Option.isNone_none, List.drop_zero, List.drop_succ_cons, List.getElem?_cons_zero, List.getElem?_cons_succ, List.length_cons, List.length_nil, List.take_succ_cons, List.take_zero, Nat.mul_one, Nat.zero_add, Nat.add_zero, Nat.one_mul, Nat.zero_mul, List.getElem?_map, List.getElem?_drop, List.getElem?_take, List.length_map, Option.map_some, List.set_cons_zero, List.set_cons_succ, and_true, true_and, List.flatMap_cons, List.flatMap_nil, Bool.not_not, hrl]
        · simp only [RD.wrong, RD.nx, hov, if_true, Bool.false_eq_true, if_false]; omega
    · simp (maxSteps := 1000000) (implicitDefEqProofs := false) (disch := omega) only [push_cast, ↓reduceIte, Nat.reduceEqDiff, reduceCtorEq, decide_true, decide_false, Bool.not_true, Bool.not_false, Option.isNone_some, Option.isNone_none, List.drop_zero, List.drop_succ_cons, List.getElem?_cons_zero, List.getElem?_cons_succ, List.length_cons, List.length_nil, List.take_succ_cons, List.take_zero, Nat.mul_one, Nat.zero_add, Nat.add_zero, Nat.one_mul, Nat.zero_mul, List.getElem?_map, List.getElem?_drop, List.getElem?_take, List.length_map, Option.map_some, List.set_cons_zero, List.set_cons_succ, and_true, true_and, List.flatMap_cons, List.flatMap_nil, Bool.not_not, hρ, ho, rdC_5, hov]
      refine hE _ _ ?_
      exact ⟨lab, D, t, hfi.rd, hfi.ok, hfi.le, ⟨hov, hen⟩, hfi.k⟩
  · clear hρ hnx hnl H hk hfi0 ε σ lab
    rintro ε σ ⟨lab, E, t, H, hok, hle, hend, hk⟩
    simp (maxSteps := 1000000) (implicitDefEqProofs := false) (disch := omega) only [push_cast, ↓reduceIte, Nat.reduceEqDiff, reduceCtorEq, decide_true, decide_false, Bool.not_true, Bool.not_false, Option.isNone_some, Option.isNone_none, List.drop_zero, List.drop_succ_cons, List.getElem?_cons_zero, List.getElem?_cons_succ, List.length_cons, List.length_nil, List.take_succ_cons, List.take_zero, Nat.mul_one, Nat.zero_add, Nat.add_zero, Nat.one_mul, Nat.zero_mul, List.getElem?_map, List.getElem?_drop, List.getElem?_take, List.length_map, Option.map_some, List.set_cons_zero, List.set_cons_succ, and_true, true_and, List.flatMap_cons, List.flatMap_nil, Bool.not_not]
    exact ⟨lab, E, t, H, hok, hle, .inl hend, hk⟩
end Go.Proofs.Ytilofhocodbknaa
