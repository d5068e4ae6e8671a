/- Contracts on annotated values: forebayref30.Dag.loop. -/
import Derived.Test.YtilofhocodbknaaStv
namespace Go.Proofs.Ytilofhocodbknaa
set_option linter.unusedVariables false
set_option linter.unusedSimpArgs false
open Go Go.Kx Go.Proofs

def anyK : Cx := fun _ => True
structure LI (l : List Mk) (id a : Nat) (s now : Int) (σ0 : St) (lab0 : Nat → Role) (D0 : RD) (σ : St) (lab : Nat → Role) (D : RD) (L : Fr) (t : Tb) (ts : Tok) : Prop where
  rd : RdAt σ lab id l D t
  ok : DOk l D
  le : D0.pos ≤ D.pos
  ts : TokOk σ lab (10, a) ts L.lasts.length 1
  k : Stp (isR a) σ0 lab0 σ lab
  sh : L.kind = 3 ∧ L.child = false ∧ L.now = now ∧ L.ser = s ∧ L.cnt = L.lasts.length
  ne : 0 < L.lasts.length → L.ahead ≠ []
  ll : L.lasts.length ≤ D.pos
  al : L.ahead.length ≤ D.pos
  st : (D.over = false ∧ D.e = 0 ∧ Goes l D0 (loopFr s now) D L anyK) ∨ (D.over = true ∧ Ends l D0 (loopFr s now) D anyK)
theorem LI.stp {l : List Mk} {id a : Nat} {s now : Int} {σ0 : St} {lab0 : Nat → Role} {D0 : RD} {σ : St} {lab : Nat → Role} {D : RD} {L : Fr} {t : Tb} {ts : Tok} (h : LI l id a s now σ0 lab0 D0 σ lab D L t ts) {S : Role → Prop} {σ' : St} {lab' : Nat → Role} {D' : RD} {t' : Tb}
    (k : Stp S σ lab σ' lab') (hS : ∀ r, S r → r = (0, 0) ∨ isB r ∨ (6 ≤ r.1 ∧ a + 1 ≤ r.2)) (hU : ∀ r, S r → isR a r) (hr : RdAt σ' lab' id l D' t') (ok : DOk l D') (le : D.pos ≤ D'.pos) (st : (D'.over = false ∧ D'.e = 0 ∧ Goes l D0 (loopFr s now) D' L anyK) ∨ (D'.over = true ∧ Ends l D0 (loopFr s now) D' anyK)) :
    LI l id a s now σ0 lab0 D0 σ' lab' D' L t' ts := by
  have hn : ¬ S (10, a) := fun hs => by
    rcases hS _ hs with e | e | e
    · have := congrArg Prod.fst e; simp only at this; omega
    · have := e.2.2.1; simp only at this; omega
    · have := e.2; simp only at this; omega
  exact ⟨hr, ok, by have := h.le; omega, h.ts.stp k hn, h.k.trans k (fun _ h => h) hU, h.sh, h.ne, by have := h.ll; omega, by have := h.al; omega, st⟩
set_option maxHeartbeats 8000000 in
theorem loop_step {l : List Mk} (hl : l.length ≤ 8000) {n : Nat} (ihF : ∀ k, k < n → SF l k) : SL l n := by
  intro σ0 lab0 id D0 t0 s now H0 hok0 hov0 he0 hrem
  refine fnG_in K_forebayref30_Dag_loop mixed rfl ?_
  simp only [S_forebayref30_Dag_loop]
  refine wpa_seqx (fun ε σ => (ε 0 = .ref id 0 0 ∧ ε 1 = aInt s ∧ ε 2 = aInt now) ∧ σ = σ0) ?_ ?_
  · intro N X R hN
    simp (maxSteps := 1000000) (implicitDefEqProofs := false) (disch := omega) only [push_cast, ↓reduceIte, Nat.reduceEqDiff, reduceCtorEq, decide_true, decide_false, Bool.not_true, Bool.not_false, Option.isNone_some, Option.isNone_none, List.drop_zero, List.drop_succ_cons, List.getElem?_cons_zero, List.getElem?_cons_succ, List.length_cons, List.length_nil, List.take_succ_cons, List.take_zero, Nat.mul_one, Nat.zero_add, Nat.add_zero, Nat.one_mul, Nat.zero_mul, List.getElem?_map, List.getElem?_drop, List.getElem?_take, List.length_map, Option.map_some, List.set_cons_zero, List.set_cons_succ, and_true, true_and, List.flatMap_cons, List.flatMap_nil, Bool.not_not]
    refine hN _ _ ?_
    simp (maxSteps := 1000000) (implicitDefEqProofs := false) (disch := omega) only [push_cast, ↓reduceIte, Nat.reduceEqDiff, reduceCtorEq, decide_true, decide_false, Bool.not_true, Bool.not_false, Option.isNone_some, Option.isNone_none, List.drop_zero, List.drop_succ_cons, List.getElem?_cons_zero, List.getElem?_cons_succ, List.length_cons, List.length_nil, List.take_succ_cons, List.take_zero, Nat.mul_one, Nat.zero_add, Nat.add_zero, Nat.one_mul, Nat.zero_mul, List.getElem?_map, List.getElem?_drop, List.getElem?_take, List.length_map, Option.map_some, List.set_cons_zero, List.set_cons_succ, and_true, true_and, List.flatMap_cons, List.flatMap_nil, Bool.not_not]
  rintro ε τ ⟨hρ, hτ⟩
  rw [hτ]
  clear hτ τ
  refine wpa_seqx (fun ε σ => (ε 0 = .ref id 0 0 ∧ ε 1 = aInt s ∧ ε 2 = aInt now ∧ ε 7 = .sl 0 [] .nil) ∧ σ = σ0) ?_ ?_
  · intro N X R hN
    simp (maxSteps := 1000000) (implicitDefEqProofs := false) (disch := omega) only [push_cast, ↓reduceIte, Nat.reduceEqDiff, reduceCtorEq, decide_true, decide_false, Bool.not_true, Bool.not_false, Option.isNone_some, Option.isNone_none, List.drop_zero, List.drop_succ_cons, List.getElem?_cons_zero, List.getElem?_cons_succ, List.length_cons, List.length_nil, List.take_succ_cons, List.take_zero, Nat.mul_one, Nat.zero_add, Nat.add_zero, Nat.one_mul, Nat.zero_mul, List.getElem?_map, List.getElem?_drop, List.getElem?_take, List.length_map, Option.map_some, List.set_cons_zero, List.set_cons_succ, and_true, true_and, List.flatMap_cons, List.flatMap_nil, Bool.not_not]
    refine hN _ _ ?_
    simp (maxSteps := 1000000) (implicitDefEqProofs := false) (disch := omega) only [push_cast, ↓reduceIte, Nat.reduceEqDiff, reduceCtorEq, decide_true, decide_false, Bool.not_true, Bool.not_false, Option.isNone_some, Option.isNone_none, List.drop_zero, List.drop_succ_cons, List.getElem?_cons_zero, List.getElem?_cons_succ, List.length_cons, List.length_nil, List.take_succ_cons, List.take_zero, Nat.mul_one, Nat.zero_add, Nat.add_zero, Nat.one_mul, Nat.zero_mul, List.getElem?_map, List.getElem?_drop, List.getElem?_take, List.length_map, Option.map_some, List.set_cons_zero, List.set_cons_succ, and_true, true_and, List.flatMap_cons, List.flatMap_nil, Bool.not_not, hρ]
  clear hρ ε
  rintro ε τ ⟨hρ, hτ⟩
  rw [hτ]
  clear hτ τ
  refine wpa_seqx (fun ε σ => (ε 0 = .ref id 0 0 ∧ ε 1 = aInt s ∧ ε 2 = aInt now ∧ ε 7 = .sl 0 [] .nil ∧ ε 8 = .sl 0 [] .nil) ∧ σ = σ0) ?_ ?_
  · intro N X R hN
    simp (maxSteps := 1000000) (implicitDefEqProofs := false) (disch := omega) only [push_cast, ↓reduceIte, Nat.reduceEqDiff, reduceCtorEq, decide_true, decide_false, Bool.not_true, Bool.not_false, Option.isNone_some, Option.isNone_none, List.drop_zero, List.drop_succ_cons, List.getElem?_cons_zero, List.getElem?_cons_succ, List.length_cons, List.length_nil, List.take_succ_cons, List.take_zero, Nat.mul_one, Nat.zero_add, Nat.add_zero, Nat.one_mul, Nat.zero_mul, List.getElem?_map, List.getElem?_drop, List.getElem?_take, List.length_map, Option.map_some, List.set_cons_zero, List.set_cons_succ, and_true, true_and, List.flatMap_cons, List.flatMap_nil, Bool.not_not]
    refine hN _ _ ?_
    simp (maxSteps := 1000000) (implicitDefEqProofs := false) (disch := omega) only [push_cast, ↓reduceIte, Nat.reduceEqDiff, reduceCtorEq, decide_true, decide_false, Bool.not_true, Bool.not_false, Option.isNone_some, Option.isNone_none, List.drop_zero, List.drop_succ_cons, List.getElem?_cons_zero, List.getElem?_cons_succ, List.length_cons, List.length_nil, List.take_succ_cons, List.take_zero, Nat.mul_one, Nat.zero_add, Nat.add_zero, Nat.one_mul, Nat.zero_mul, List.getElem?_map, List.getElem?_drop, List.getElem?_take, List.length_map, Option.map_some, List.set_cons_zero, List.set_cons_succ, and_true, true_and, List.flatMap_cons, List.flatMap_nil, Bool.not_not, hρ]
  clear hρ ε
  rintro ε τ ⟨hρ, hτ⟩
  rw [hτ]
  clear hτ τ
  have hli0 : LI l id D0.pos s now σ0 lab0 D0 σ0 lab0 D0 (loopFr s now) t0 .nil :=
    ⟨H0, hok0, Nat.le_refl _, TokOk.nil, Stp.refl, ⟨rfl, rfl, rfl, rfl, rfl⟩, fun h => by simp [loopFr] at h, by simp [loopFr], by simp [loopFr], .inl ⟨hov0, he0, Goes.refl⟩⟩
  simp (maxSteps := 1000000) (implicitDefEqProofs := false) (disch := omega) only [push_cast, ↓reduceIte, Nat.reduceEqDiff, reduceCtorEq, decide_true, decide_false, Bool.not_true, Bool.not_false, Option.isNone_some, Option.isNone_none, List.drop_zero, List.drop_succ_cons, List.getElem?_cons_zero, List.getElem?_cons_succ, List.length_cons, List.length_nil, List.take_succ_cons, List.take_zero, Nat.mul_one, Nat.zero_add, Nat.add_zero, Nat.one_mul, Nat.zero_mul, List.getElem?_map, List.getElem?_drop, List.getElem?_take, List.length_map, Option.map_some, List.set_cons_zero, List.set_cons_succ, and_true, true_and, List.flatMap_cons, List.flatMap_nil, Bool.not_not]
  refine wpa_bl (α := RD × Fr) (I := fun x ε σ => (ε 0 = .ref id 0 0 ∧ ε 1 = aInt s ∧ ε 2 = aInt now) ∧
      ∃ lab t ts, ε 7 = .sl x.2.lasts.length (x.2.lasts.map aInt) ts ∧ (x.1.over = false → ∃ ta, ε 8 = .sl x.2.ahead.length (x.2.ahead.flatMap aSt) ta) ∧ LI l id D0.pos s now σ0 lab0 D0 σ lab x.1 x.2 t ts)
    (μ := fun x => 2 * (l.length - x.1.pos) + if x.1.over then 0 else 1) (Q := fun _ σ => ∃ lab E t, RdAt σ lab id l E t ∧ DOk l E ∧ D0.pos ≤ E.pos ∧ (E.over = true ∧ Ends l D0 (loopFr s now) E anyK) ∧ Stp (isR D0.pos) σ0 lab0 σ lab) (x := (D0, loopFr s now)) ?_ ?_ ?_
  · refine ⟨?_, lab0, t0, .nil, ?_, fun _ => ⟨.nil, ?_⟩, hli0⟩
    · simp (maxSteps := 1000000) (implicitDefEqProofs := false) (disch := omega) only [push_cast, ↓reduceIte, Nat.reduceEqDiff, reduceCtorEq, decide_true, decide_false, Bool.not_true, Bool.not_false, Option.isNone_some, Option.isNone_none, List.drop_zero, List.drop_succ_cons, List.getElem?_cons_zero, List.getElem?_cons_succ, List.length_cons, List.length_nil, List.take_succ_cons, List.take_zero, Nat.mul_one, Nat.zero_add, Nat.add_zero, Nat.one_mul, Nat.zero_mul, List.getElem?_map, List.getElem?_drop, List.getElem?_take, List.length_map, Option.map_some, List.set_cons_zero, List.set_cons_succ, and_true, true_and, List.flatMap_cons, List.flatMap_nil, Bool.not_not, hρ]
    · simp (maxSteps := 1000000) (implicitDefEqProofs := false) (disch := omega) only [push_cast, ↓reduceIte, Nat.reduceEqDiff, reduceCtorEq, decide_true, decide_false, Bool.not_true, Bool.not_false, Option.isNone_some, Option.isNone_none, List.drop_zero, List.drop_succ_cons, List.getElem?_cons_zero, List.getElem?_cons_succ, List.length_cons, List.length_nil, List.take_succ_cons, List.take_zero, Nat.mul_one, Nat.zero_add, Nat.add_zero, Nat.one_mul, Nat.zero_mul, List.getElem?_map, List.getElem?_drop, List.getElem?_take, List.length_map, Option.map_some, List.set_cons_zero, List.set_cons_succ, and_true, true_and, List.flatMap_cons, List.flatMap_nil, Bool.not_not, hρ]
      rfl
    · simp (maxSteps := 1000000) (implicitDefEqProofs := false) (disch := omega) only [push_cast, ↓reduceIte, Nat.reduceEqDiff, reduceCtorEq, decide_true, decide_false, Bool.not_true, Bool.not_false, Option.isNone_some, Option.isNone_none, List.drop_zero, List.drop_succ_cons, List.getElem?_cons_zero, List.getElem?_cons_succ, List.length_cons, List.length_nil, List.take_succ_cons, List.take_zero, Nat.mul_one, Nat.zero_add, Nat.add_zero, Nat.one_mul, Nat.zero_mul, List.getElem?_map, List.getElem?_drop, List.getElem?_take, List.length_map, Option.map_some, List.set_cons_zero, List.set_cons_succ, and_true, true_and, List.flatMap_cons, List.flatMap_nil, Bool.not_not, hρ]
      rfl
  · clear hρ hli0 ε
    rintro ⟨D, L⟩ ε σ N E ⟨hρ, lab, t, ts, hrl, h8, hli⟩ hN hE
    simp only at hρ hrl h8 hli
    simp only [S_forebayref30_Dag_loop_L1]
    have ho := hli.rd.obj
    rcases hli.st with ⟨hov, he, hgo⟩ | ⟨hov, hen⟩
    · simp (maxSteps := 1000000) (implicitDefEqProofs := false) (disch := omega) only [push_cast, ↓reduceIte, Nat.reduceEqDiff, reduceCtorEq, decide_true, decide_false, Bool.not_true, Bool.not_false, Option.isNone_some, Option.isNone_none, List.drop_zero, List.drop_succ_cons, List.getElem?_cons_zero, List.getElem?_cons_succ, List.length_cons, List.length_nil, List.take_succ_cons, List.take_zero, Nat.mul_one, Nat.zero_add, Nat.add_zero, Nat.one_mul, Nat.zero_mul, List.getElem?_map, List.getElem?_drop, List.getElem?_take, List.length_map, Option.map_some, List.set_cons_zero, List.set_cons_succ, and_true, true_and, List.flatMap_cons, List.flatMap_nil, Bool.not_not, hρ, ho, rdC_5, hov]
      refine wpa_callG (next_a hli.rd hli.ok.pos hl) ?_
      rintro a σ1 ⟨rfl, lab1, H1, k1⟩
      simp (maxSteps := 1000000) (implicitDefEqProofs := false) (disch := omega) only [push_cast, ↓reduceIte, Nat.reduceEqDiff, reduceCtorEq, decide_true, decide_false, Bool.not_true, Bool.not_false, Option.isNone_some, Option.isNone_none, List.drop_zero, List.drop_succ_cons, List.getElem?_cons_zero, List.getElem?_cons_succ, List.length_cons, List.length_nil, List.take_succ_cons, List.take_zero, Nat.mul_one, Nat.zero_add, Nat.add_zero, Nat.one_mul, Nat.zero_mul, List.getElem?_map, List.getElem?_drop, List.getElem?_take, List.length_map, Option.map_some, List.set_cons_zero, List.set_cons_succ, and_true, true_and, List.flatMap_cons, List.flatMap_nil, Bool.not_not]
      refine wpa_new ?_
      have hz : (List.map abs1 [Value.int .i64 0, Value.int .i64 0, Value.int .i64 0]) = aMk ⟨0, 0, 0⟩ := rfl
      rw [hz]
      simp (maxSteps := 1000000) (implicitDefEqProofs := false) (disch := omega) only [push_cast, ↓reduceIte, Nat.reduceEqDiff, reduceCtorEq, decide_true, decide_false, Bool.not_true, Bool.not_false, Option.isNone_some, Option.isNone_none, List.drop_zero, List.drop_succ_cons, List.getElem?_cons_zero, List.getElem?_cons_succ, List.length_cons, List.length_nil, List.take_succ_cons, List.take_zero, Nat.mul_one, Nat.zero_add, Nat.add_zero, Nat.one_mul, Nat.zero_mul, List.getElem?_map, List.getElem?_drop, List.getElem?_take, List.length_map, Option.map_some, List.set_cons_zero, List.set_cons_succ, and_true, true_and, List.flatMap_cons, List.flatMap_nil, Bool.not_not]
      refine wpa_stn (aMk_len _) (by rfl) (at_snoc _ _) (by simp [aMk_len]) ?_
      have hset : ∀ a, setAtA (aMk ⟨0, 0, 0⟩) 0 (aMk a) = aMk a := fun _ => rfl
      simp (maxSteps := 1000000) (implicitDefEqProofs := false) (disch := omega) only [push_cast, ↓reduceIte, Nat.reduceEqDiff, reduceCtorEq, decide_true, decide_false, Bool.not_true, Bool.not_false, Option.isNone_some, Option.isNone_none, List.drop_zero, List.drop_succ_cons, List.getElem?_cons_zero, List.getElem?_cons_succ, List.length_cons, List.length_nil, List.take_succ_cons, List.take_zero, Nat.mul_one, Nat.zero_add, Nat.add_zero, Nat.one_mul, Nat.zero_mul, List.getElem?_map, List.getElem?_drop, List.getElem?_take, List.length_map, Option.map_some, List.set_cons_zero, List.set_cons_succ, and_true, true_and, List.flatMap_cons, List.flatMap_nil, Bool.not_not, hset]
      generalize hnx : D.next l = nx1 at H1 ⊢
      have k2 := k1.trans (stp_new (S := isB) (x := .obj 0 (aMk nx1.1)) (0, 0)) (U := isB) (fun _ h => h) fun _ h => h
      have H2 := H1.stp (stp_new (S := fun _ => False) (x := .obj 0 (aMk nx1.1)) (0, 0)) fun _ _ _ h => h
      have hmx : (σ1 ++ [Res.obj 0 (aMk nx1.1)])[σ1.length]? = some (.obj 0 (aMk nx1.1)) := at_snoc _ _
      generalize σ1 ++ [Res.obj 0 (aMk nx1.1)] = σ2 at k2 H2 hmx ⊢
      generalize labN σ1 lab1 (0, 0) = lab2 at k2 H2
      generalize σ1.length = mx at hmx ⊢
      clear H1 k1 ho
      have ho2 := H2.obj
      have hBR : ∀ r, isB r → r = (0, 0) ∨ isB r ∨ (6 ≤ r.1 ∧ D0.pos + 1 ≤ r.2) := fun r h => .inr (.inl h)
      cases hm : l[D.pos]? with
      | none =>
        have hn1 := next_end hm
        rw [hnx] at hn1
        subst hn1
        simp (maxSteps := 1000000) (implicitDefEqProofs := false) (disch := omega) only [push_cast, ↓reduceIte, Nat.reduceEqDiff, reduceCtorEq, decide_true, decide_false, Bool.not_true, Bool.not_false, Option.isNone_some, Option.isNone_none, List.drop_zero, List.drop_succ_cons, List.getElem?_cons_zero, List.getElem?_cons_succ, List.length_cons, List.length_nil, List.take_succ_cons, List.take_zero, Nat.mul_one, Nat.zero_add, Nat.add_zero, Nat.one_mul, Nat.zero_mul, List.getElem?_map, List.getElem?_drop, List.getElem?_take, List.length_map, Option.map_some, List.set_cons_zero, List.set_cons_succ, and_true, true_and, List.flatMap_cons, List.flatMap_nil, Bool.not_not, hρ, ho2, rdC_5]
        refine hN ({ D with over := true }, L) _ _ ⟨?_, lab2, t, ts, ?_, fun h => by simp at h, hli.stp k2 hBR (fun _ => isB_R) H2 ⟨hli.ok.pos, hli.ok.p, hli.ok.q, hli.ok.a⟩ (Nat.le_refl _) (.inr ⟨rfl, hgo.ends fun K _ => ends_end hm he⟩)⟩ ?_
        · simp (maxSteps := 1000000) (implicitDefEqProofs := false) (disch := omega) only [push_cast, ↓reduceIte, Nat.reduceEqDiff, reduceCtorEq, decide_true, decide_false, Bool.not_true, Bool.not_false, Option.isNone_some, Option.isNone_none, List.drop_zero, List.drop_succ_cons, List.getElem?_cons_zero, List.getElem?_cons_succ, List.length_cons, List.length_nil, List.take_succ_cons, List.take_zero, Nat.mul_one, Nat.zero_add, Nat.add_zero, Nat.one_mul, Nat.zero_mul, List.getElem?_map, List.getElem?_drop, List.getElem?_take, List.length_map, Option.map_some, List.set_cons_zero, List.set_cons_succ, and_true, true_and, List.flatMap_cons, List.flatMap_nil, Bool.not_not, hρ]
        · simp (maxSteps := 1000000) (implicitDefEqProofs := false) (disch := omega) only [push_cast, ↓reduceIte, Nat.reduceEqDiff, reduceCtorEq, decide_true, decide_false, Bool.not_true, Bool.not_false, Option.isNone_some, Option.isNone_none, List.drop_zero, List.drop_succ_cons, List.getElem?_cons_zero, List.getElem?_cons_succ, List.length_cons, List.length_nil, List.take_succ_cons, List.take_zero, Nat.mul_one, Nat.zero_add, Nat.add_zero, Nat.one_mul, Nat.zero_mul, List.getElem?_map, List.getElem?_drop, List.getElem?_take, List.length_map, Option.map_some, List.set_cons_zero, List.set_cons_succ, and_true, true_and, List.flatMap_cons, List.flatMap_nil, Bool.not_not, hrl]
        · simp [hov]
      | some m =>
      have hlt := lt_at hm
      by_cases hk : m.k < 1 ∨ 12 < m.k
      · have hn1 := next_bad hm hk
        rw [hnx] at hn1
        subst hn1
        simp (maxSteps := 1000000) (implicitDefEqProofs := false) (disch := omega) only [push_cast, ↓reduceIte, Nat.reduceEqDiff, reduceCtorEq, decide_true, decide_false, Bool.not_true, Bool.not_false, Option.isNone_some, Option.isNone_none, List.drop_zero, List.drop_succ_cons, List.getElem?_cons_zero, List.getElem?_cons_succ, List.length_cons, List.length_nil, List.take_succ_cons, List.take_zero, Nat.mul_one, Nat.zero_add, Nat.add_zero, Nat.one_mul, Nat.zero_mul, List.getElem?_map, List.getElem?_drop, List.getElem?_take, List.length_map, Option.map_some, List.set_cons_zero, List.set_cons_succ, and_true, true_and, List.flatMap_cons, List.flatMap_nil, Bool.not_not, hρ, ho2, rdC_5]
        refine hN ({ D with pos := D.pos + 1, e := 5, over := true }, L) _ _ ⟨?_, lab2, t, ts, ?_, fun h => by simp at h, hli.stp k2 hBR (fun _ => isB_R) H2 ⟨by simp only; omega, hli.ok.p, hli.ok.q, by have := hli.ok.a; simp only; omega⟩ (by simp only; omega) (.inr ⟨rfl, hgo.ends fun K _ => ends_bad hm hk⟩)⟩ ?_
        · simp (maxSteps := 1000000) (implicitDefEqProofs := false) (disch := omega) only [push_cast, ↓reduceIte, Nat.reduceEqDiff, reduceCtorEq, decide_true, decide_false, Bool.not_true, Bool.not_false, Option.isNone_some, Option.isNone_none, List.drop_zero, List.drop_succ_cons, List.getElem?_cons_zero, List.getElem?_cons_succ, List.length_cons, List.length_nil, List.take_succ_cons, List.take_zero, Nat.mul_one, Nat.zero_add, Nat.add_zero, Nat.one_mul, Nat.zero_mul, List.getElem?_map, List.getElem?_drop, List.getElem?_take, List.length_map, Option.map_some, List.set_cons_zero, List.set_cons_succ, and_true, true_and, List.flatMap_cons, List.flatMap_nil, Bool.not_not, hρ]
        · simp (maxSteps := 1000000) (implicitDefEqProofs := false) (disch := omega) only [push_cast, ↓reduceIte, Nat.reduceEqDiff, reduceCtorEq, decide_true, decide_false, Bool.not_true, Bool.not_false, Option.isNone_some, Option.isNone_none, List.drop_zero, List.drop_succ_cons, List.getElem?_cons_zero, List.getElem?_cons_succ, List.length_cons, List.length_nil, List.take_succ_cons, List.take_zero, Nat.mul_one, Nat.zero_add, Nat.add_zero, Nat.one_mul, Nat.zero_mul, List.getElem?_map, List.getElem?_drop, List.getElem?_take, List.length_map, Option.map_some, List.set_cons_zero, List.set_cons_succ, and_true, true_and, List.flatMap_cons, List.flatMap_nil, Bool.not_not, hrl]
        · simp [hov]; omega
      have hn1 := next_ok hm hk
      rw [hnx] at hn1
      subst hn1
      have hov2 : D.nx.over = false := hov
      have hok2 : DOk l D.nx := hli.ok.nx hm
      obtain ⟨hs3, hsc, hsn, hss, hsl⟩ := hli.sh
      have hpos := hli.ok.pos
      have hll := hli.ll
      have hal := hli.al
      have hts2 := hli.ts.stp k2 (by simp [isB])
      obtain ⟨ta, h8⟩ := h8 hov
      by_cases c9 : m.k = 9 ∧ m.a = (L.lasts.length : Int)
      · obtain ⟨k9, hma⟩ := c9
        by_cases hcnt : 0 < L.lasts.length
        · have hcnt' : (0 : Int) < (L.lasts.length : Int) := by omega
          cases hah : L.ahead with
          | nil => exact absurd hah (hli.ne hcnt)
          | cons e0 rest =>
            obtain ⟨pr, hpre⟩ : ∃ pr, pr = e0.2 := ⟨_, rfl⟩
            have hpr : pr = if 0 < L.cnt then (L.ahead.headD (0, 0)).2 else L.now := by rw [hsl, if_pos hcnt, hah, hpre]; rfl
            have hd0 : List.drop (Int.toNat 0 * 2) (L.ahead.flatMap aSt) = aSt e0 ++ rest.flatMap aSt := by rw [hah]; rfl
            have hal0 : (0 : Int) < (L.ahead.length : Int) := by rw [hah]; simp
            have ge : ∀ k : List AV, (aSt e0 ++ k)[1]? = some (.v (.int .i64 pr)) := fun _ => by rw [hpre]; rfl
            clear hah
            simp (maxSteps := 1000000) (implicitDefEqProofs := false) (disch := omega) only [push_cast, ↓reduceIte, Nat.reduceEqDiff, reduceCtorEq, decide_true, decide_false, Bool.not_true, Bool.not_false, Option.isNone_some, Option.isNone_none, List.drop_zero, List.drop_succ_cons, List.getElem?_cons_zero, List.getElem?_cons_succ, List.length_cons, List.length_nil, List.take_succ_cons, List.take_zero, Nat.mul_one, Nat.zero_add, Nat.add_zero, Nat.one_mul, Nat.zero_mul, List.getElem?_map, List.getElem?_drop, List.getElem?_take, List.length_map, Option.map_some, List.set_cons_zero, List.set_cons_succ, and_true, true_and, List.flatMap_cons, List.flatMap_nil, Bool.not_not, hρ, ho2, rdC_5, hov2, hmx, aMk_0, aMk_1, k9, hma, hrl, hcnt', h8, hal0, hd0, ge]
            have bldN : ∀ a b c : Int, fillA [AV.v (.int .i64 0), AV.v (.int .i64 0), AV.v (.int .i64 0)] [(0, 1), (1, 1), (2, 1)] [AV.v (.int .i64 a), AV.v (.int .i64 b), AV.v (.int .i64 c)] = some (aNd (a, b, c)) := fun a b c => by simp [fillA, AV.cells, Value.cells, setAtA, aNd]
            simp (maxSteps := 1000000) (implicitDefEqProofs := false) (disch := omega) only [push_cast, ↓reduceIte, Nat.reduceEqDiff, reduceCtorEq, decide_true, decide_false, Bool.not_true, Bool.not_false, Option.isNone_some, Option.isNone_none, List.drop_zero, List.drop_succ_cons, List.getElem?_cons_zero, List.getElem?_cons_succ, List.length_cons, List.length_nil, List.take_succ_cons, List.take_zero, Nat.mul_one, Nat.zero_add, Nat.add_zero, Nat.one_mul, Nat.zero_mul, List.getElem?_map, List.getElem?_drop, List.getElem?_take, List.length_map, Option.map_some, List.set_cons_zero, List.set_cons_succ, and_true, true_and, List.flatMap_cons, List.flatMap_nil, Bool.not_not, hρ, hrl, aInt, bldN]
            refine wpa_new ?_
            have hz3 : (List.map abs1 [Value.int .i64 0, Value.int .i64 0, Value.int .i64 0]) = aNd (0, 0, 0) := rfl
            rw [hz3]
            simp (maxSteps := 1000000) (implicitDefEqProofs := false) (disch := omega) only [push_cast, ↓reduceIte, Nat.reduceEqDiff, reduceCtorEq, decide_true, decide_false, Bool.not_true, Bool.not_false, Option.isNone_some, Option.isNone_none, List.drop_zero, List.drop_succ_cons, List.getElem?_cons_zero, List.getElem?_cons_succ, List.length_cons, List.length_nil, List.take_succ_cons, List.take_zero, Nat.mul_one, Nat.zero_add, Nat.add_zero, Nat.one_mul, Nat.zero_mul, List.getElem?_map, List.getElem?_drop, List.getElem?_take, List.length_map, Option.map_some, List.set_cons_zero, List.set_cons_succ, and_true, true_and, List.flatMap_cons, List.flatMap_nil, Bool.not_not]
            refine wpa_stn (aNd_len _) (aNd_one _) (at_snoc _ _) (by simp [aNd_len]) ?_
            have hsetN : ∀ a, setAtA (aNd (0, 0, 0)) 0 (aNd a) = aNd a := fun _ => rfl
            have hnde : ((s, ((L.lasts.length : Nat) : Int), 0) : Nd) = (L.ser, (L.cnt : Int), 0) := by rw [hss, hsl]
            rw [hsetN, hnde]
            simp (maxSteps := 1000000) (implicitDefEqProofs := false) (disch := omega) only [push_cast, ↓reduceIte, Nat.reduceEqDiff, reduceCtorEq, decide_true, decide_false, Bool.not_true, Bool.not_false, Option.isNone_some, Option.isNone_none, List.drop_zero, List.drop_succ_cons, List.getElem?_cons_zero, List.getElem?_cons_succ, List.length_cons, List.length_nil, List.take_succ_cons, List.take_zero, Nat.mul_one, Nat.zero_add, Nat.add_zero, Nat.one_mul, Nat.zero_mul, List.getElem?_map, List.getElem?_drop, List.getElem?_take, List.length_map, Option.map_some, List.set_cons_zero, List.set_cons_succ, and_true, true_and, List.flatMap_cons, List.flatMap_nil, Bool.not_not]
            have k3 : Stp isB σ2 lab2 (σ2 ++ [Res.obj 0 (aNd (L.ser, (L.cnt : Int), 0))]) (labN σ2 lab2 (0, 0)) := stp_new (0, 0)
            have H3 := H2.stp (stp_new (S := fun _ => False) (x := .obj 0 (aNd (L.ser, (L.cnt : Int), 0))) (0, 0)) fun _ _ _ h => h
            have hnx3 : (σ2 ++ [Res.obj 0 (aNd (L.ser, (L.cnt : Int), 0))])[σ2.length]? = some (.obj 0 (aNd (L.ser, (L.cnt : Int), 0))) := at_snoc _ _
            have hln3 : labN σ2 lab2 (0, 0) σ2.length = (0, 0) := labN_self _ _ _
            generalize σ2 ++ [Res.obj 0 (aNd (L.ser, (L.cnt : Int), 0))] = σ3 at k3 H3 hnx3 ⊢
            generalize labN σ2 lab2 (0, 0) = lab3 at k3 H3 hln3
            generalize σ2.length = nx at hnx3 hln3 ⊢
            have kk3 := k2.trans k3 (U := isB) (fun _ h => h) fun _ h => h
            simp (maxSteps := 1000000) (implicitDefEqProofs := false) (disch := omega) only [push_cast, ↓reduceIte, Nat.reduceEqDiff, reduceCtorEq, decide_true, decide_false, Bool.not_true, Bool.not_false, Option.isNone_some, Option.isNone_none, List.drop_zero, List.drop_succ_cons, List.getElem?_cons_zero, List.getElem?_cons_succ, List.length_cons, List.length_nil, List.take_succ_cons, List.take_zero, Nat.mul_one, Nat.zero_add, Nat.add_zero, Nat.one_mul, Nat.zero_mul, List.getElem?_map, List.getElem?_drop, List.getElem?_take, List.length_map, Option.map_some, List.set_cons_zero, List.set_cons_succ, and_true, true_and, List.flatMap_cons, List.flatMap_nil, Bool.not_not, hρ, hnx3, cell3]
            refine wpa_bsl (sz := 1) (by intro a ha; simp at ha; subst ha; rfl) (by simp) ?_
            simp (maxSteps := 1000000) (implicitDefEqProofs := false) (disch := omega) only [push_cast, ↓reduceIte, Nat.reduceEqDiff, reduceCtorEq, decide_true, decide_false, Bool.not_true, Bool.not_false, Option.isNone_some, Option.isNone_none, List.drop_zero, List.drop_succ_cons, List.getElem?_cons_zero, List.getElem?_cons_succ, List.length_cons, List.length_nil, List.take_succ_cons, List.take_zero, Nat.mul_one, Nat.zero_add, Nat.add_zero, Nat.one_mul, Nat.zero_mul, List.getElem?_map, List.getElem?_drop, List.getElem?_take, List.length_map, Option.map_some, List.set_cons_zero, List.set_cons_succ, and_true, true_and, List.flatMap_cons, List.flatMap_nil, Bool.not_not]
            refine wpa_callGw [] [false, false, true] (begin_a H3 hok2.p hok2.q (L.ser, (L.cnt : Int), 0) [pr]) (weak3 _ _ _ [pr] _) ?_
            rintro a σ4 ⟨rfl, lab4, t4, H4, k4⟩
            have hokr := hok2.begin (L.ser, (L.cnt : Int), 0) [pr]
            have kk4 := kk3.trans k4 (U := isB) (fun _ h => h) fun _ h => h
            obtain ⟨hnx4, _⟩ := k4.get hnx3 (by rw [hln3]; simp [isB])
            have ho4 := H4.obj
            have hmc : m.a = (L.cnt : Int) := by rw [hma, hsl]
            by_cases hfull : D.preds.length = 1000
            · obtain ⟨_, e2⟩ := begin_no (D := D.nx) hfull (L.ser, (L.cnt : Int), 0) [pr] []
              have hend : Ends l D L (D.nx.begin (L.ser, (L.cnt : Int), 0) [pr]).2 anyK := fun K _ => by rw [hpr]; exact s_iter_full hm k9 hs3 hmc hfull
              rw [e2] at H4 hokr ho4 hend
              simp (maxSteps := 1000000) (implicitDefEqProofs := false) (disch := omega) only [push_cast, ↓reduceIte, Nat.reduceEqDiff, reduceCtorEq, decide_true, decide_false, Bool.not_true, Bool.not_false, Option.isNone_some, Option.isNone_none, List.drop_zero, List.drop_succ_cons, List.getElem?_cons_zero, List.getElem?_cons_succ, List.length_cons, List.length_nil, List.take_succ_cons, List.take_zero, Nat.mul_one, Nat.zero_add, Nat.add_zero, Nat.one_mul, Nat.zero_mul, List.getElem?_map, List.getElem?_drop, List.getElem?_take, List.length_map, Option.map_some, List.set_cons_zero, List.set_cons_succ, and_true, true_and, List.flatMap_cons, List.flatMap_nil, Bool.not_not, hρ, ho4, rdC_5]
              refine hN ({ D.nx with e := 9, over := true }, L) _ _ ⟨?_, lab4, t4, ts, ?_, fun h => by simp at h, hli.stp kk4 hBR (fun _ => isB_R) H4 hokr (by simp only [RD.nx]; omega) (.inr ⟨rfl, hgo.ends hend⟩)⟩ ?_
              · simp (maxSteps := 1000000) (implicitDefEqProofs := false) (disch := omega) only [push_cast, ↓reduceIte, Nat.reduceEqDiff, reduceCtorEq, decide_true, decide_false, Bool.not_true, Bool.not_false, Option.isNone_some, Option.isNone_none, List.drop_zero, List.drop_succ_cons, List.getElem?_cons_zero, List.getElem?_cons_succ, List.length_cons, List.length_nil, List.take_succ_cons, List.take_zero, Nat.mul_one, Nat.zero_add, Nat.add_zero, Nat.one_mul, Nat.zero_mul, List.getElem?_map, List.getElem?_drop, List.getElem?_take, List.length_map, Option.map_some, List.set_cons_zero, List.set_cons_succ, and_true, true_and, List.flatMap_cons, List.flatMap_nil, Bool.not_not, hρ]
              · simp (maxSteps := 1000000) (implicitDefEqProofs := false) (disch := omega) only [push_cast, ↓reduceIte, Nat.reduceEqDiff, reduceCtorEq, decide_true, decide_false, Bool.not_true, Bool.not_false, Option.isNone_some, Option.isNone_none, List.drop_zero, List.drop_succ_cons, List.getElem?_cons_zero, List.getElem?_cons_succ, List.length_cons, List.length_nil, List.take_succ_cons, List.take_zero, Nat.mul_one, Nat.zero_add, Nat.add_zero, Nat.one_mul, Nat.zero_mul, List.getElem?_map, List.getElem?_drop, List.getElem?_take, List.length_map, Option.map_some, List.set_cons_zero, List.set_cons_succ, and_true, true_and, List.flatMap_cons, List.flatMap_nil, Bool.not_not, hrl]
              · simp only [RD.nx, hov, if_true, Bool.false_eq_true, if_false]; omega
            · obtain ⟨_, e2, e3, e4⟩ := begin_ok (D := D.nx) hfull (L.ser, (L.cnt : Int), 0) [pr] []
              have hiter : ∀ K, Rn l D (L :: K) = Rn l (D.nx.begin (L.ser, (L.cnt : Int), 0) [pr]).2 (iterFr L (D.nx.begin (L.ser, (L.cnt : Int), 0) [pr]).1 :: { L with cnt := L.cnt + 1 } :: K) := fun K => by
                rw [hpr]; exact s_iter hm k9 hs3 hmc hfull
              generalize D.nx.begin (L.ser, (L.cnt : Int), 0) [pr] = r at H4 hokr ho4 hiter e2 e3 e4 ⊢
              have hpr4 : r.2.pos = D.pos + 1 := e4
              have hov3 : r.2.over = false := e2.trans hov2
              have hwk : ∀ S : St, weak (Go.Kx.freeze [] S) [false, false, false, false, true] [.ref id 0 0, .v (.int .i64 2), .agg (aNd (L.ser, (L.cnt : Int), 0)), aInt r.1, .sl L.ahead.length (L.ahead.flatMap aSt) ta] = [.ref id 0 0, aInt 2, .agg (aNd (iterFr L r.1).node), aInt (iterFr L r.1).now, .sl L.ahead.length (L.ahead.flatMap aSt) .none] := fun S => by
                have := aSlN_res (f := aSt) (fun p => by simp [aSt, AV.resL, AV.res]) L.ahead ta (σ := Go.Kx.freeze [] S)
                simp only [weak, if_true, Bool.false_eq_true, if_false]
                rw [this]; rfl
              simp (maxSteps := 1000000) (implicitDefEqProofs := false) (disch := omega) only [push_cast, ↓reduceIte, Nat.reduceEqDiff, reduceCtorEq, decide_true, decide_false, Bool.not_true, Bool.not_false, Option.isNone_some, Option.isNone_none, List.drop_zero, List.drop_succ_cons, List.getElem?_cons_zero, List.getElem?_cons_succ, List.length_cons, List.length_nil, List.take_succ_cons, List.take_zero, Nat.mul_one, Nat.zero_add, Nat.add_zero, Nat.one_mul, Nat.zero_mul, List.getElem?_map, List.getElem?_drop, List.getElem?_take, List.length_map, Option.map_some, List.set_cons_zero, List.set_cons_succ, and_true, true_and, List.flatMap_cons, List.flatMap_nil, Bool.not_not, hρ, ho4, rdC_5, hov3, hnx4, cell3, h8]
              refine wpa_callGw [] [false, false, false, false, true] (ihF (l.length - r.2.pos) (by rw [hpr4, ← hrem]; have := hli.le; omega) σ4 lab4 id r.2 t4 (iterFr L r.1) L.ahead (fun K' => ∃ K, K' = { L with cnt := L.cnt + 1 } :: K) 2 H4 hokr hov3 (e3.trans he) rfl (.inr (.inr ⟨rfl, rfl, rfl⟩)) rfl rfl (fun _ K' hK' => by obtain ⟨K, rfl⟩ := hK'; exact ⟨_, K, rfl, rfl⟩) (by omega)) (hwk _) ?_
              rintro a2 σ5 ⟨lab5, E, t5, H5, hokE, hlE, hout, k5⟩
              have ho5 := H5.obj
              have hlE' : D.pos + 1 ≤ E.pos := by rw [← hpr4]; exact hlE
              have kk5 := kk4.trans k5 (U := isR (D.pos + 1)) (fun _ => isB_R) fun r' h => isR_le (by omega) h
              have hSR : ∀ r', isR (D.pos + 1) r' → r' = (0, 0) ∨ isB r' ∨ (6 ≤ r'.1 ∧ D0.pos + 1 ≤ r'.2) := fun r' h => h.elim (fun h => .inr (.inl h)) fun h => .inr (.inr ⟨h.1, by have := h.2; have := hli.le; omega⟩)
              have hSU : ∀ r', isR (D.pos + 1) r' → isR D0.pos r' := fun r' h => isR_le (by have := hli.le; omega) h
              rcases hout with ⟨hovE, henE⟩ | ⟨hovE, heE, D2, F2, m10, tk, rfl, hokD2, hm10, hcl, hsame2, hrow2, hgo2, rfl⟩
              · simp (maxSteps := 1000000) (implicitDefEqProofs := false) (disch := omega) only [push_cast, ↓reduceIte, Nat.reduceEqDiff, reduceCtorEq, decide_true, decide_false, Bool.not_true, Bool.not_false, Option.isNone_some, Option.isNone_none, List.drop_zero, List.drop_succ_cons, List.getElem?_cons_zero, List.getElem?_cons_succ, List.length_cons, List.length_nil, List.take_succ_cons, List.take_zero, Nat.mul_one, Nat.zero_add, Nat.add_zero, Nat.one_mul, Nat.zero_mul, List.getElem?_map, List.getElem?_drop, List.getElem?_take, List.length_map, Option.map_some, List.set_cons_zero, List.set_cons_succ, and_true, true_and, List.flatMap_cons, List.flatMap_nil, Bool.not_not, hρ, ho5, rdC_5, hovE]
                refine hN (E, L) _ _ ⟨?_, lab5, t5, ts, ?_, (fun h => absurd (hovE.symm.trans h) (by simp)), hli.stp kk5 hSR hSU H5 hokE (Nat.le_of_succ_le hlE') (.inr ⟨hovE, hgo.ends fun K _ => by unfold EndsAt; rw [hiter K]; exact henE _ ⟨K, rfl⟩⟩)⟩ ?_
                · simp (maxSteps := 1000000) (implicitDefEqProofs := false) (disch := omega) only [push_cast, ↓reduceIte, Nat.reduceEqDiff, reduceCtorEq, decide_true, decide_false, Bool.not_true, Bool.not_false, Option.isNone_some, Option.isNone_none, List.drop_zero, List.drop_succ_cons, List.getElem?_cons_zero, List.getElem?_cons_succ, List.length_cons, List.length_nil, List.take_succ_cons, List.take_zero, Nat.mul_one, Nat.zero_add, Nat.add_zero, Nat.one_mul, Nat.zero_mul, List.getElem?_map, List.getElem?_drop, List.getElem?_take, List.length_map, Option.map_some, List.set_cons_zero, List.set_cons_succ, and_true, true_and, List.flatMap_cons, List.flatMap_nil, Bool.not_not, hρ]
                · simp (maxSteps := 1000000) (implicitDefEqProofs := false) (disch := omega) only [push_cast, ↓reduceIte, Nat.reduceEqDiff, reduceCtorEq, decide_true, decide_false, Bool.not_true, Bool.not_false, Option.isNone_some, Option.isNone_none, List.drop_zero, List.drop_succ_cons, List.getElem?_cons_zero, List.getElem?_cons_succ, List.length_cons, List.length_nil, List.take_succ_cons, List.take_zero, Nat.mul_one, Nat.zero_add, Nat.add_zero, Nat.one_mul, Nat.zero_mul, List.getElem?_map, List.getElem?_drop, List.getElem?_take, List.length_map, Option.map_some, List.set_cons_zero, List.set_cons_succ, and_true, true_and, List.flatMap_cons, List.flatMap_nil, Bool.not_not, hrl]
                · simp only [hovE, hov, if_true, Bool.false_eq_true, if_false]; omega
              · have hF2k : F2.kind = 2 := hsame2.1
                have hm10k : m10.k = 10 ∧ m10.a = F2.it := by
                  rcases hcl with ⟨_, _, h⟩ | ⟨h, _, h'⟩
                  · omega
                  · exact ⟨h, h'⟩
                rw [if_neg (by omega)]
                have hm10l := lt_at hm10
                have hD2p : D.pos ≤ D2.pos := by have h2 : D2.nx.pos = D2.pos + 1 := rfl; omega
                have hts5 := hli.ts.stp kk5 (fun h => h.elim (fun h => by have := h.2.2.1; simp only at this; omega) fun h => by have := h.2; simp only at this; have := hli.le; omega)
                have hx : (F2.row ++ [(F2.sg, F2.now)])[F2.row.length]? = some (F2.sg, F2.now) := by simp
                have hxl : (F2.row ++ [(F2.sg, F2.now)]).length = F2.row.length + 1 := by simp
                have hdx := flat_drop aSt_len hx
                have hix : ((F2.row.length : Int) + 1 - 1).toNat = F2.row.length := by omega
                have g1 : ∀ k : List AV, (aSt (F2.sg, F2.now) ++ k)[1]? = some (.v (.int .i64 F2.now)) := fun _ => rfl
                obtain ⟨row', hrow'⟩ : ∃ row', row' = F2.row ++ [(F2.sg, F2.now)] := ⟨_, rfl⟩
                rw [← hrow'] at hdx hxl ⊢
                have hxi : (row'.length : Int) - 1 = (F2.row.length : Int) := by omega
                have hxp : (0 : Int) ≤ (F2.row.length : Int) := by omega
                have hxq : (F2.row.length : Int) < (row'.length : Int) := by omega
                simp (maxSteps := 1000000) (implicitDefEqProofs := false) (disch := omega) only [push_cast, ↓reduceIte, Nat.reduceEqDiff, reduceCtorEq, decide_true, decide_false, Bool.not_true, Bool.not_false, Option.isNone_some, Option.isNone_none, List.drop_zero, List.drop_succ_cons, List.getElem?_cons_zero, List.getElem?_cons_succ, List.length_cons, List.length_nil, List.take_succ_cons, List.take_zero, Nat.mul_one, Nat.zero_add, Nat.add_zero, Nat.one_mul, Nat.zero_mul, List.getElem?_map, List.getElem?_drop, List.getElem?_take, List.length_map, Option.map_some, List.set_cons_zero, List.set_cons_succ, and_true, true_and, List.flatMap_cons, List.flatMap_nil, Bool.not_not, hρ, ho5, rdC_5, hovE, hxi, hdx, g1, hrl]
                refine wpa_bsl (sz := 1) (by intro a ha; simp at ha; subst ha; rfl) (by simp) ?_
                simp (maxSteps := 1000000) (implicitDefEqProofs := false) (disch := omega) only [push_cast, ↓reduceIte, Nat.reduceEqDiff, reduceCtorEq, decide_true, decide_false, Bool.not_true, Bool.not_false, Option.isNone_some, Option.isNone_none, List.drop_zero, List.drop_succ_cons, List.getElem?_cons_zero, List.getElem?_cons_succ, List.length_cons, List.length_nil, List.take_succ_cons, List.take_zero, Nat.mul_one, Nat.zero_add, Nat.add_zero, Nat.one_mul, Nat.zero_mul, List.getElem?_map, List.getElem?_drop, List.getElem?_take, List.length_map, Option.map_some, List.set_cons_zero, List.set_cons_succ, and_true, true_and, List.flatMap_cons, List.flatMap_nil, Bool.not_not]
                refine wpa_app_t (m := 1) rfl hts5 rfl rfl rfl (by simp) (by omega) (by omega) ?_
                intro σ6 lab6 t6 k6 ht6
                have H6 := H5.stp k6 (fun q _ _ e => by have := congrArg Prod.fst e; simp only at this; omega)
                simp (maxSteps := 1000000) (implicitDefEqProofs := false) (disch := omega) only [push_cast, ↓reduceIte, Nat.reduceEqDiff, reduceCtorEq, decide_true, decide_false, Bool.not_true, Bool.not_false, Option.isNone_some, Option.isNone_none, List.drop_zero, List.drop_succ_cons, List.getElem?_cons_zero, List.getElem?_cons_succ, List.length_cons, List.length_nil, List.take_succ_cons, List.take_zero, Nat.mul_one, Nat.zero_add, Nat.add_zero, Nat.one_mul, Nat.zero_mul, List.getElem?_map, List.getElem?_drop, List.getElem?_take, List.length_map, Option.map_some, List.set_cons_zero, List.set_cons_succ, and_true, true_and, List.flatMap_cons, List.flatMap_nil, Bool.not_not]
                refine hN (D2.nx, { L with cnt := L.cnt + 1, ahead := row', lasts := L.lasts ++ [F2.now] }) _ _ ⟨?_, lab6, t5, t6, ?_, fun _ => ⟨tk, ?_⟩, H6, hokE, by have := hli.le; show D0.pos ≤ D2.pos + 1; omega, by simpa using ht6, (hli.k.trans kk5 (U := isR D0.pos) (fun _ h => h) hSU).trans k6 (fun _ h => h) fun r e => by subst e; exact .inr ⟨by simp, by simp⟩, ⟨hs3, hsc, hsn, hss, by simp [hsl]⟩, fun _ => by simp only [hrow']; simp, by simp only [List.length_append, List.length_singleton, RD.nx]; omega, by simp only [RD.nx]; omega, .inl ⟨hovE, heE, hgo.trans fun K _ => ?_⟩⟩ ?_
                · simp (maxSteps := 1000000) (implicitDefEqProofs := false) (disch := omega) only [push_cast, ↓reduceIte, Nat.reduceEqDiff, reduceCtorEq, decide_true, decide_false, Bool.not_true, Bool.not_false, Option.isNone_some, Option.isNone_none, List.drop_zero, List.drop_succ_cons, List.getElem?_cons_zero, List.getElem?_cons_succ, List.length_cons, List.length_nil, List.take_succ_cons, List.take_zero, Nat.mul_one, Nat.zero_add, Nat.add_zero, Nat.one_mul, Nat.zero_mul, List.getElem?_map, List.getElem?_drop, List.getElem?_take, List.length_map, Option.map_some, List.set_cons_zero, List.set_cons_succ, and_true, true_and, List.flatMap_cons, List.flatMap_nil, Bool.not_not, hρ]
                · simp (maxSteps := 1000000) (implicitDefEqProofs := false) (disch := omega) only [push_cast, ↓reduceIte, Nat.reduceEqDiff, reduceCtorEq, decide_true, decide_false, Bool.not_true, Bool.not_false, Option.isNone_some, Option.isNone_none, List.drop_zero, List.drop_succ_cons, List.getElem?_cons_zero, List.getElem?_cons_succ, List.length_cons, List.length_nil, List.take_succ_cons, List.take_zero, Nat.mul_one, Nat.zero_add, Nat.add_zero, Nat.one_mul, Nat.zero_mul, List.getElem?_map, List.getElem?_drop, List.getElem?_take, List.length_map, Option.map_some, List.set_cons_zero, List.set_cons_succ, and_true, true_and, List.flatMap_cons, List.flatMap_nil, Bool.not_not, hrl]
                  simp [aInt]
                · simp (maxSteps := 1000000) (implicitDefEqProofs := false) (disch := omega) only [push_cast, ↓reduceIte, Nat.reduceEqDiff, reduceCtorEq, decide_true, decide_false, Bool.not_true, Bool.not_false, Option.isNone_some, Option.isNone_none, List.drop_zero, List.drop_succ_cons, List.getElem?_cons_zero, List.getElem?_cons_succ, List.length_cons, List.length_nil, List.take_succ_cons, List.take_zero, Nat.mul_one, Nat.zero_add, Nat.add_zero, Nat.one_mul, Nat.zero_mul, List.getElem?_map, List.getElem?_drop, List.getElem?_take, List.length_map, Option.map_some, List.set_cons_zero, List.set_cons_succ, and_true, true_and, List.flatMap_cons, List.flatMap_nil, Bool.not_not]
                · rw [hiter K, hgo2 _ ⟨K, rfl⟩, hrow']
                  exact s_done hm10 hm10k.1 hF2k hm10k.2
                · have h2 : D2.over = false := hovE
                  simp only [RD.nx, hov, h2, Bool.false_eq_true, if_false]; omega
        · have hcnt' : ¬ (0 : Int) < (L.lasts.length : Int) := by omega
          obtain ⟨pr, hpre⟩ : ∃ pr, pr = now := ⟨_, rfl⟩
          have hpr : pr = if 0 < L.cnt then (L.ahead.headD (0, 0)).2 else L.now := by rw [hsl, if_neg hcnt, hsn, hpre]
          rw [← hpre] at hρ
          simp (maxSteps := 1000000) (implicitDefEqProofs := false) (disch := omega) only [push_cast, ↓reduceIte, Nat.reduceEqDiff, reduceCtorEq, decide_true, decide_false, Bool.not_true, Bool.not_false, Option.isNone_some, Option.isNone_none, List.drop_zero, List.drop_succ_cons, List.getElem?_cons_zero, List.getElem?_cons_succ, List.length_cons, List.length_nil, List.take_succ_cons, List.take_zero, Nat.mul_one, Nat.zero_add, Nat.add_zero, Nat.one_mul, Nat.zero_mul, List.getElem?_map, List.getElem?_drop, List.getElem?_take, List.length_map, Option.map_some, List.set_cons_zero, List.set_cons_succ, and_true, true_and, List.flatMap_cons, List.flatMap_nil, Bool.not_not, hρ, ho2, rdC_5, hov2, hmx, aMk_0, aMk_1, k9, hma, hrl, hcnt', aInt]
          have bldN : ∀ a b c : Int, fillA [AV.v (.int .i64 0), AV.v (.int .i64 0), AV.v (.int .i64 0)] [(0, 1), (1, 1), (2, 1)] [AV.v (.int .i64 a), AV.v (.int .i64 b), AV.v (.int .i64 c)] = some (aNd (a, b, c)) := fun a b c => by simp [fillA, AV.cells, Value.cells, setAtA, aNd]
          simp (maxSteps := 1000000) (implicitDefEqProofs := false) (disch := omega) only [push_cast, ↓reduceIte, Nat.reduceEqDiff, reduceCtorEq, decide_true, decide_false, Bool.not_true, Bool.not_false, Option.isNone_some, Option.isNone_none, List.drop_zero, List.drop_succ_cons, List.getElem?_cons_zero, List.getElem?_cons_succ, List.length_cons, List.length_nil, List.take_succ_cons, List.take_zero, Nat.mul_one, Nat.zero_add, Nat.add_zero, Nat.one_mul, Nat.zero_mul, List.getElem?_map, List.getElem?_drop, List.getElem?_take, List.length_map, Option.map_some, List.set_cons_zero, List.set_cons_succ, and_true, true_and, List.flatMap_cons, List.flatMap_nil, Bool.not_not, hρ, hrl, aInt, bldN]
          refine wpa_new ?_
          have hz3 : (List.map abs1 [Value.int .i64 0, Value.int .i64 0, Value.int .i64 0]) = aNd (0, 0, 0) := rfl
          rw [hz3]
          simp (maxSteps := 1000000) (implicitDefEqProofs := false) (disch := omega) only [push_cast, ↓reduceIte, Nat.reduceEqDiff, reduceCtorEq, decide_true, decide_false, Bool.not_true, Bool.not_false, Option.isNone_some, Option.isNone_none, List.drop_zero, List.drop_succ_cons, List.getElem?_cons_zero, List.getElem?_cons_succ, List.length_cons, List.length_nil, List.take_succ_cons, List.take_zero, Nat.mul_one, Nat.zero_add, Nat.add_zero, Nat.one_mul, Nat.zero_mul, List.getElem?_map, List.getElem?_drop, List.getElem?_take, List.length_map, Option.map_some, List.set_cons_zero, List.set_cons_succ, and_true, true_and, List.flatMap_cons, List.flatMap_nil, Bool.not_not]
          refine wpa_stn (aNd_len _) (aNd_one _) (at_snoc _ _) (by simp [aNd_len]) ?_
          have hsetN : ∀ a, setAtA (aNd (0, 0, 0)) 0 (aNd a) = aNd a := fun _ => rfl
          have hnde : ((s, ((L.lasts.length : Nat) : Int), 0) : Nd) = (L.ser, (L.cnt : Int), 0) := by rw [hss, hsl]
          rw [hsetN, hnde]
          simp (maxSteps := 1000000) (implicitDefEqProofs := false) (disch := omega) only [push_cast, ↓reduceIte, Nat.reduceEqDiff, reduceCtorEq, decide_true, decide_false, Bool.not_true, Bool.not_false, Option.isNone_some, Option.isNone_none, List.drop_zero, List.drop_succ_cons, List.getElem?_cons_zero, List.getElem?_cons_succ, List.length_cons, List.length_nil, List.take_succ_cons, List.take_zero, Nat.mul_one, Nat.zero_add, Nat.add_zero, Nat.one_mul, Nat.zero_mul, List.getElem?_map, List.getElem?_drop, List.getElem?_take, List.length_map, Option.map_some, List.set_cons_zero, List.set_cons_succ, and_true, true_and, List.flatMap_cons, List.flatMap_nil, Bool.not_not]
          have k3 : Stp isB σ2 lab2 (σ2 ++ [Res.obj 0 (aNd (L.ser, (L.cnt : Int), 0))]) (labN σ2 lab2 (0, 0)) := stp_new (0, 0)
          have H3 := H2.stp (stp_new (S := fun _ => False) (x := .obj 0 (aNd (L.ser, (L.cnt : Int), 0))) (0, 0)) fun _ _ _ h => h
          have hnx3 : (σ2 ++ [Res.obj 0 (aNd (L.ser, (L.cnt : Int), 0))])[σ2.length]? = some (.obj 0 (aNd (L.ser, (L.cnt : Int), 0))) := at_snoc _ _
          have hln3 : labN σ2 lab2 (0, 0) σ2.length = (0, 0) := labN_self _ _ _
          generalize σ2 ++ [Res.obj 0 (aNd (L.ser, (L.cnt : Int), 0))] = σ3 at k3 H3 hnx3 ⊢
          generalize labN σ2 lab2 (0, 0) = lab3 at k3 H3 hln3
          generalize σ2.length = nx at hnx3 hln3 ⊢
          have kk3 := k2.trans k3 (U := isB) (fun _ h => h) fun _ h => h
          simp (maxSteps := 1000000) (implicitDefEqProofs := false) (disch := omega) only [push_cast, ↓reduceIte, Nat.reduceEqDiff, reduceCtorEq, decide_true, decide_false, Bool.not_true, Bool.not_false, Option.isNone_some, Option.isNone_none, List.drop_zero, List.drop_succ_cons, List.getElem?_cons_zero, List.getElem?_cons_succ, List.length_cons, List.length_nil, List.take_succ_cons, List.take_zero, Nat.mul_one, Nat.zero_add, Nat.add_zero, Nat.one_mul, Nat.zero_mul, List.getElem?_map, List.getElem?_drop, List.getElem?_take, List.length_map, Option.map_some, List.set_cons_zero, List.set_cons_succ, and_true, true_and, List.flatMap_cons, List.flatMap_nil, Bool.not_not, hρ, hnx3, cell3]
          refine wpa_bsl (sz := 1) (by intro a ha; simp at ha; subst ha; rfl) (by simp) ?_
          simp (maxSteps := 1000000) (implicitDefEqProofs := false) (disch := omega) only [push_cast, ↓reduceIte, Nat.reduceEqDiff, reduceCtorEq, decide_true, decide_false, Bool.not_true, Bool.not_false, Option.isNone_some, Option.isNone_none, List.drop_zero, List.drop_succ_cons, List.getElem?_cons_zero, List.getElem?_cons_succ, List.length_cons, List.length_nil, List.take_succ_cons, List.take_zero, Nat.mul_one, Nat.zero_add, Nat.add_zero, Nat.one_mul, Nat.zero_mul, List.getElem?_map, List.getElem?_drop, List.getElem?_take, List.length_map, Option.map_some, List.set_cons_zero, List.set_cons_succ, and_true, true_and, List.flatMap_cons, List.flatMap_nil, Bool.not_not]
          refine wpa_callGw [] [false, false, true] (begin_a H3 hok2.p hok2.q (L.ser, (L.cnt : Int), 0) [pr]) (weak3 _ _ _ [pr] _) ?_
          rintro a σ4 ⟨rfl, lab4, t4, H4, k4⟩
          have hokr := hok2.begin (L.ser, (L.cnt : Int), 0) [pr]
          have kk4 := kk3.trans k4 (U := isB) (fun _ h => h) fun _ h => h
          obtain ⟨hnx4, _⟩ := k4.get hnx3 (by rw [hln3]; simp [isB])
          have ho4 := H4.obj
          have hmc : m.a = (L.cnt : Int) := by rw [hma, hsl]
          by_cases hfull : D.preds.length = 1000
          · obtain ⟨_, e2⟩ := begin_no (D := D.nx) hfull (L.ser, (L.cnt : Int), 0) [pr] []
            have hend : Ends l D L (D.nx.begin (L.ser, (L.cnt : Int), 0) [pr]).2 anyK := fun K _ => by rw [hpr]; exact s_iter_full hm k9 hs3 hmc hfull
            rw [e2] at H4 hokr ho4 hend
            simp (maxSteps := 1000000) (implicitDefEqProofs := false) (disch := omega) only [push_cast, ↓reduceIte, Nat.reduceEqDiff, reduceCtorEq, decide_true, decide_false, Bool.not_true, Bool.not_false, Option.isNone_some, Option.isNone_none, List.drop_zero, List.drop_succ_cons, List.getElem?_cons_zero, List.getElem?_cons_succ, List.length_cons, List.length_nil, List.take_succ_cons, List.take_zero, Nat.mul_one, Nat.zero_add, Nat.add_zero, Nat.one_mul, Nat.zero_mul, List.getElem?_map, List.getElem?_drop, List.getElem?_take, List.length_map, Option.map_some, List.set_cons_zero, List.set_cons_succ, and_true, true_and, List.flatMap_cons, List.flatMap_nil, Bool.not_not, hρ, ho4, rdC_5]
            refine hN ({ D.nx with e := 9, over := true }, L) _ _ ⟨?_, lab4, t4, ts, ?_, fun h => by simp at h, hli.stp kk4 hBR (fun _ => isB_R) H4 hokr (by simp only [RD.nx]; omega) (.inr ⟨rfl, hgo.ends hend⟩)⟩ ?_
            · simp (maxSteps := 1000000) (implicitDefEqProofs := false) (disch := omega) only [push_cast, ↓reduceIte, Nat.reduceEqDiff, reduceCtorEq, decide_true, decide_false, Bool.not_true, Bool.not_false, Option.isNone_some, Option.isNone_none, List.drop_zero, List.drop_succ_cons, List.getElem?_cons_zero, List.getElem?_cons_succ, List.length_cons, List.length_nil, List.take_succ_cons, List.take_zero, Nat.mul_one, Nat.zero_add, Nat.add_zero, Nat.one_mul, Nat.zero_mul, List.getElem?_map, List.getElem?_drop, List.getElem?_take, List.length_map, Option.map_some, List.set_cons_zero, List.set_cons_succ, and_true, true_and, List.flatMap_cons, List.flatMap_nil, Bool.not_not, hρ]
              rw [hpre]
            · simp (maxSteps := 1000000) (implicitDefEqProofs := false) (disch := omega) only [push_cast, ↓reduceIte, Nat.reduceEqDiff, reduceCtorEq, decide_true, decide_false, Bool.not_true, Bool.not_false, Option.isNone_some, Option.isNone_none, List.drop_zero, List.drop_succ_cons, List.getElem?_cons_zero, List.getElem?_cons_succ, List.length_cons, List.length_nil, List.take_succ_cons, List.take_zero, Nat.mul_one, Nat.zero_add, Nat.add_zero, Nat.one_mul, Nat.zero_mul, List.getElem?_map, List.getElem?_drop, List.getElem?_take, List.length_map, Option.map_some, List.set_cons_zero, List.set_cons_succ, and_true, true_and, List.flatMap_cons, List.flatMap_nil, Bool.not_not, hrl]
            · simp only [RD.nx, hov, if_true, Bool.false_eq_true, if_false]; omega
          · obtain ⟨_, e2, e3, e4⟩ := begin_ok (D := D.nx) hfull (L.ser, (L.cnt : Int), 0) [pr] []
            have hiter : ∀ K, Rn l D (L :: K) = Rn l (D.nx.begin (L.ser, (L.cnt : Int), 0) [pr]).2 (iterFr L (D.nx.begin (L.ser, (L.cnt : Int), 0) [pr]).1 :: { L with cnt := L.cnt + 1 } :: K) := fun K => by
              rw [hpr]; exact s_iter hm k9 hs3 hmc hfull
            generalize D.nx.begin (L.ser, (L.cnt : Int), 0) [pr] = r at H4 hokr ho4 hiter e2 e3 e4 ⊢
            have hpr4 : r.2.pos = D.pos + 1 := e4
            have hov3 : r.2.over = false := e2.trans hov2
            have hwk : ∀ S : St, weak (Go.Kx.freeze [] S) [false, false, false, false, true] [.ref id 0 0, .v (.int .i64 2), .agg (aNd (L.ser, (L.cnt : Int), 0)), aInt r.1, .sl L.ahead.length (L.ahead.flatMap aSt) ta] = [.ref id 0 0, aInt 2, .agg (aNd (iterFr L r.1).node), aInt (iterFr L r.1).now, .sl L.ahead.length (L.ahead.flatMap aSt) .none] := fun S => by
              have := aSlN_res (f := aSt) (fun p => by simp [aSt, AV.resL, AV.res]) L.ahead ta (σ := Go.Kx.freeze [] S)
              simp only [weak, if_true, Bool.false_eq_true, if_false]
              rw [this]; rfl
            simp (maxSteps := 1000000) (implicitDefEqProofs := false) (disch := omega) only [push_cast, ↓reduceIte, Nat.reduceEqDiff, reduceCtorEq, decide_true, decide_false, Bool.not_true, Bool.not_false, Option.isNone_some, Option.isNone_none, List.drop_zero, List.drop_succ_cons, List.getElem?_cons_zero, List.getElem?_cons_succ, List.length_cons, List.length_nil, List.take_succ_cons, List.take_zero, Nat.mul_one, Nat.zero_add, Nat.add_zero, Nat.one_mul, Nat.zero_mul, List.getElem?_map, List.getElem?_drop, List.getElem?_take, List.length_map, Option.map_some, List.set_cons_zero, List.set_cons_succ, and_true, true_and, List.flatMap_cons, List.flatMap_nil, Bool.not_not, hρ, ho4, rdC_5, hov3, hnx4, cell3, h8]
            refine wpa_callGw [] [false, false, false, false, true] (ihF (l.length - r.2.pos) (by rw [hpr4, ← hrem]; have := hli.le; omega) σ4 lab4 id r.2 t4 (iterFr L r.1) L.ahead (fun K' => ∃ K, K' = { L with cnt := L.cnt + 1 } :: K) 2 H4 hokr hov3 (e3.trans he) rfl (.inr (.inr ⟨rfl, rfl, rfl⟩)) rfl rfl (fun _ K' hK' => by obtain ⟨K, rfl⟩ := hK'; exact ⟨_, K, rfl, rfl⟩) (by omega)) (hwk _) ?_
            rintro a2 σ5 ⟨lab5, E, t5, H5, hokE, hlE, hout, k5⟩
            have ho5 := H5.obj
            have hlE' : D.pos + 1 ≤ E.pos := by rw [← hpr4]; exact hlE
            have kk5 := kk4.trans k5 (U := isR (D.pos + 1)) (fun _ => isB_R) fun r' h => isR_le (by omega) h
            have hSR : ∀ r', isR (D.pos + 1) r' → r' = (0, 0) ∨ isB r' ∨ (6 ≤ r'.1 ∧ D0.pos + 1 ≤ r'.2) := fun r' h => h.elim (fun h => .inr (.inl h)) fun h => .inr (.inr ⟨h.1, by have := h.2; have := hli.le; omega⟩)
            have hSU : ∀ r', isR (D.pos + 1) r' → isR D0.pos r' := fun r' h => isR_le (by have := hli.le; omega) h
            rcases hout with ⟨hovE, henE⟩ | ⟨hovE, heE, D2, F2, m10, tk, rfl, hokD2, hm10, hcl, hsame2, hrow2, hgo2, rfl⟩
            · simp (maxSteps := 1000000) (implicitDefEqProofs := false) (disch := omega) only [push_cast, ↓reduceIte, Nat.reduceEqDiff, reduceCtorEq, decide_true, decide_false, Bool.not_true, Bool.not_false, Option.isNone_some, Option.isNone_none, List.drop_zero, List.drop_succ_cons, List.getElem?_cons_zero, List.getElem?_cons_succ, List.length_cons, List.length_nil, List.take_succ_cons, List.take_zero, Nat.mul_one, Nat.zero_add, Nat.add_zero, Nat.one_mul, Nat.zero_mul, List.getElem?_map, List.getElem?_drop, List.getElem?_take, List.length_map, Option.map_some, List.set_cons_zero, List.set_cons_succ, and_true, true_and, List.flatMap_cons, List.flatMap_nil, Bool.not_not, hρ, ho5, rdC_5, hovE]
              refine hN (E, L) _ _ ⟨?_, lab5, t5, ts, ?_, (fun h => absurd (hovE.symm.trans h) (by simp)), hli.stp kk5 hSR hSU H5 hokE (Nat.le_of_succ_le hlE') (.inr ⟨hovE, hgo.ends fun K _ => by unfold EndsAt; rw [hiter K]; exact henE _ ⟨K, rfl⟩⟩)⟩ ?_
              · simp (maxSteps := 1000000) (implicitDefEqProofs := false) (disch := omega) only [push_cast, ↓reduceIte, Nat.reduceEqDiff, reduceCtorEq, decide_true, decide_false, Bool.not_true, Bool.not_false, Option.isNone_some, Option.isNone_none, List.drop_zero, List.drop_succ_cons, List.getElem?_cons_zero, List.getElem?_cons_succ, List.length_cons, List.length_nil, List.take_succ_cons, List.take_zero, Nat.mul_one, Nat.zero_add, Nat.add_zero, Nat.one_mul, Nat.zero_mul, List.getElem?_map, List.getElem?_drop, List.getElem?_take, List.length_map, Option.map_some, List.set_cons_zero, List.set_cons_succ, and_true, true_and, List.flatMap_cons, List.flatMap_nil, Bool.not_not, hρ]
                rw [hpre]
              · simp (maxSteps := 1000000) (implicitDefEqProofs := false) (disch := omega) only [push_cast, ↓reduceIte, Nat.reduceEqDiff, reduceCtorEq, decide_true, decide_false, Bool.not_true, Bool.not_false, Option.isNone_some, Option.isNone_none, List.drop_zero, List.drop_succ_cons, List.getElem?_cons_zero, List.getElem?_cons_succ, List.length_cons, List.length_nil, List.take_succ_cons, List.take_zero, Nat.mul_one, Nat.zero_add, Nat.add_zero, Nat.one_mul, Nat.zero_mul, List.getElem?_map, List.getElem?_drop, List.getElem?_take, List.length_map, Option.map_some, List.set_cons_zero, List.set_cons_succ, and_true, true_and, List.flatMap_cons, List.flatMap_nil, Bool.not_not, hrl]
              · simp only [hovE, hov, if_true, Bool.false_eq_true, if_false]; omega
            · have hF2k : F2.kind = 2 := hsame2.1
              have hm10k : m10.k = 10 ∧ m10.a = F2.it := by
                rcases hcl with ⟨_, _, h⟩ | ⟨h, _, h'⟩
                · omega
                · exact ⟨h, h'⟩
              rw [if_neg (by omega)]
              have hm10l := lt_at hm10
              have hD2p : D.pos ≤ D2.pos := by have h2 : D2.nx.pos = D2.pos + 1 := rfl; omega
              have hts5 := hli.ts.stp kk5 (fun h => h.elim (fun h => by have := h.2.2.1; simp only at this; omega) fun h => by have := h.2; simp only at this; have := hli.le; omega)
              have hx : (F2.row ++ [(F2.sg, F2.now)])[F2.row.length]? = some (F2.sg, F2.now) := by simp
              have hxl : (F2.row ++ [(F2.sg, F2.now)]).length = F2.row.length + 1 := by simp
              have hdx := flat_drop aSt_len hx
              have hix : ((F2.row.length : Int) + 1 - 1).toNat = F2.row.length := by omega
              have g1 : ∀ k : List AV, (aSt (F2.sg, F2.now) ++ k)[1]? = some (.v (.int .i64 F2.now)) := fun _ => rfl
              obtain ⟨row', hrow'⟩ : ∃ row', row' = F2.row ++ [(F2.sg, F2.now)] := ⟨_, rfl⟩
              rw [← hrow'] at hdx hxl ⊢
              have hxi : (row'.length : Int) - 1 = (F2.row.length : Int) := by omega
              have hxp : (0 : Int) ≤ (F2.row.length : Int) := by omega
              have hxq : (F2.row.length : Int) < (row'.length : Int) := by omega
              simp (maxSteps := 1000000) (implicitDefEqProofs := false) (disch := omega) only [push_cast, ↓reduceIte, Nat.reduceEqDiff, reduceCtorEq, decide_true, decide_false, Bool.not_true, Bool.not_false, Option.isNone_some, Option.isNone_none, List.drop_zero, List.drop_succ_cons, List.getElem?_cons_zero, List.getElem?_cons_succ, List.length_cons, List.length_nil, List.take_succ_cons, List.take_zero, Nat.mul_one, Nat.zero_add, Nat.add_zero, Nat.one_mul, Nat.zero_mul, List.getElem?_map, List.getElem?_drop, List.getElem?_take, List.length_map, Option.map_some, List.set_cons_zero, List.set_cons_succ, and_true, true_and, List.flatMap_cons, List.flatMap_nil, Bool.not_not, hρ, ho5, rdC_5, hovE, hxi, hdx, g1, hrl]
              refine wpa_bsl (sz := 1) (by intro a ha; simp at ha; subst ha; rfl) (by simp) ?_
              simp (maxSteps := 1000000) (implicitDefEqProofs := false) (disch := omega) only [push_cast, ↓reduceIte, Nat.reduceEqDiff, reduceCtorEq, decide_true, decide_false, Bool.not_true, Bool.not_false, Option.isNone_some, Option.isNone_none, List.drop_zero, List.drop_succ_cons, List.getElem?_cons_zero, List.getElem?_cons_succ, List.length_cons, List.length_nil, List.take_succ_cons, List.take_zero, Nat.mul_one, Nat.zero_add, Nat.add_zero, Nat.one_mul, Nat.zero_mul, List.getElem?_map, List.getElem?_drop, List.getElem?_take, List.length_map, Option.map_some, List.set_cons_zero, List.set_cons_succ, and_true, true_and, List.flatMap_cons, List.flatMap_nil, Bool.not_not]
              refine wpa_app_t (m := 1) rfl hts5 rfl rfl rfl (by simp) (by omega) (by omega) ?_
              intro σ6 lab6 t6 k6 ht6
              have H6 := H5.stp k6 (fun q _ _ e => by have := congrArg Prod.fst e; simp only at this; omega)
              simp (maxSteps := 1000000) (implicitDefEqProofs := false) (disch := omega) only [push_cast, ↓reduceIte, Nat.reduceEqDiff, reduceCtorEq, decide_true, decide_false, Bool.not_true, Bool.not_false, Option.isNone_some, Option.isNone_none, List.drop_zero, List.drop_succ_cons, List.getElem?_cons_zero, List.getElem?_cons_succ, List.length_cons, List.length_nil, List.take_succ_cons, List.take_zero, Nat.mul_one, Nat.zero_add, Nat.add_zero, Nat.one_mul, Nat.zero_mul, List.getElem?_map, List.getElem?_drop, List.getElem?_take, List.length_map, Option.map_some, List.set_cons_zero, List.set_cons_succ, and_true, true_and, List.flatMap_cons, List.flatMap_nil, Bool.not_not]
              refine hN (D2.nx, { L with cnt := L.cnt + 1, ahead := row', lasts := L.lasts ++ [F2.now] }) _ _ ⟨?_, lab6, t5, t6, ?_, fun _ => ⟨tk, ?_⟩, H6, hokE, by have := hli.le; show D0.pos ≤ D2.pos + 1; omega, by simpa using ht6, (hli.k.trans kk5 (U := isR D0.pos) (fun _ h => h) hSU).trans k6 (fun _ h => h) fun r e => by subst e; exact .inr ⟨by simp, by simp⟩, ⟨hs3, hsc, hsn, hss, by simp [hsl]⟩, fun _ => by simp only [hrow']; simp, by simp only [List.length_append, List.length_singleton, RD.nx]; omega, by simp only [RD.nx]; omega, .inl ⟨hovE, heE, hgo.trans fun K _ => ?_⟩⟩ ?_
              · simp (maxSteps := 1000000) (implicitDefEqProofs := false) (disch := omega) only [push_cast, ↓reduceIte, Nat.reduceEqDiff, reduceCtorEq, decide_true, decide_false, Bool.not_true, Bool.not_false, Option.isNone_some, Option.isNone_none, List.drop_zero, List.drop_succ_cons, List.getElem?_cons_zero, List.getElem?_cons_succ, List.length_cons, List.length_nil, List.take_succ_cons, List.take_zero, Nat.mul_one, Nat.zero_add, Nat.add_zero, Nat.one_mul, Nat.zero_mul, List.getElem?_map, List.getElem?_drop, List.getElem?_take, List.length_map, Option.map_some, List.set_cons_zero, List.set_cons_succ, and_true, true_and, List.flatMap_cons, List.flatMap_nil, Bool.not_not, hρ]
                rw [hpre]
              · simp (maxSteps := 1000000) (implicitDefEqProofs := false) (disch := omega) only [push_cast, ↓reduceIte, Nat.reduceEqDiff, reduceCtorEq, decide_true, decide_false, Bool.not_true, Bool.not_false, Option.isNone_some, Option.isNone_none, List.drop_zero, List.drop_succ_cons, List.getElem?_cons_zero, List.getElem?_cons_succ, List.length_cons, List.length_nil, List.take_succ_cons, List.take_zero, Nat.mul_one, Nat.zero_add, Nat.add_zero, Nat.one_mul, Nat.zero_mul, List.getElem?_map, List.getElem?_drop, List.getElem?_take, List.length_map, Option.map_some, List.set_cons_zero, List.set_cons_succ, and_true, true_and, List.flatMap_cons, List.flatMap_nil, Bool.not_not, hrl]
                simp [aInt]
              · simp (maxSteps := 1000000) (implicitDefEqProofs := false) (disch := omega) only [push_cast, ↓reduceIte, Nat.reduceEqDiff, reduceCtorEq, decide_true, decide_false, Bool.not_true, Bool.not_false, Option.isNone_some, Option.isNone_none, List.drop_zero, List.drop_succ_cons, List.getElem?_cons_zero, List.getElem?_cons_succ, List.length_cons, List.length_nil, List.take_succ_cons, List.take_zero, Nat.mul_one, Nat.zero_add, Nat.add_zero, Nat.one_mul, Nat.zero_mul, List.getElem?_map, List.getElem?_drop, List.getElem?_take, List.length_map, Option.map_some, List.set_cons_zero, List.set_cons_succ, and_true, true_and, List.flatMap_cons, List.flatMap_nil, Bool.not_not]
              · rw [hiter K, hgo2 _ ⟨K, rfl⟩, hrow']
                exact s_done hm10 hm10k.1 hF2k hm10k.2
              · have h2 : D2.over = false := hovE
                simp only [RD.nx, hov, h2, Bool.false_eq_true, if_false]; omega
      by_cases c8 : m.k = 8 ∧ m.a = s ∧ 0 < L.lasts.length
      · obtain ⟨k8, hma, hpl⟩ := c8
        have hpl' : (0 : Int) < (L.lasts.length : Int) := by omega
        have hf8 : fitsB L m = true := by unfold fitsB; simp [k8, hs3, hma, hss, hsl]; omega
        simp (maxSteps := 1000000) (implicitDefEqProofs := false) (disch := omega) only [push_cast, ↓reduceIte, Nat.reduceEqDiff, reduceCtorEq, decide_true, decide_false, Bool.not_true, Bool.not_false, Option.isNone_some, Option.isNone_none, List.drop_zero, List.drop_succ_cons, List.getElem?_cons_zero, List.getElem?_cons_succ, List.length_cons, List.length_nil, List.take_succ_cons, List.take_zero, Nat.mul_one, Nat.zero_add, Nat.add_zero, Nat.one_mul, Nat.zero_mul, List.getElem?_map, List.getElem?_drop, List.getElem?_take, List.length_map, Option.map_some, List.set_cons_zero, List.set_cons_succ, and_true, true_and, List.flatMap_cons, List.flatMap_nil, Bool.not_not, hρ, ho2, rdC_5, hov2, hmx, aMk_0, aMk_1, k8, hma, aInt, hrl, hpl']
        refine ⟨lab2, D.nx, t, H2, hok2, by have := hli.le; unfold RD.nx; simp only; omega, .inr ⟨hov2, he, D, L, m, ts, rfl, hli.ok, hm, k8, hf8, hll, fun K _ => hgo K trivial, ?_⟩, hli.k.trans k2 (fun _ h => h) fun _ => isB_R⟩
        rfl
      have hfit : fitsB L m = false := by
        unfold fitsB
        by_cases q9 : m.k = 9
        · have : ¬ m.a = (L.cnt : Int) := fun e => c9 ⟨q9, by rw [e, hsl]⟩
          simp [q9, this]
        · by_cases q8 : m.k = 8
          · rw [if_neg q9, if_pos q8]
            by_cases qa : m.a = L.ser
            · have : ¬ 0 < L.cnt := fun e => c8 ⟨q8, by rw [qa, hss], by omega⟩
              simp [this]
            · simp [qa]
          · rw [if_neg q9, if_neg q8]
            split
            · exact hsc
            · split
              · simp [hs3]
              · split
                · simp [hs3]
                · simp [hs3]
      by_cases q9 : m.k = 9
      · have hna : ¬ m.a = (L.lasts.length : Int) := fun e => c9 ⟨q9, e⟩
        simp (maxSteps := 1000000) (implicitDefEqProofs := false) (disch := omega) only [push_cast, ↓reduceIte, Nat.reduceEqDiff, reduceCtorEq, decide_true, decide_false, Bool.not_true, Bool.not_false, Option.isNone_some, Option.isNone_none, List.drop_zero, List.drop_succ_cons, List.getElem?_cons_zero, List.getElem?_cons_succ, List.length_cons, List.length_nil, List.take_succ_cons, List.take_zero, Nat.mul_one, Nat.zero_add, Nat.add_zero, Nat.one_mul, Nat.zero_mul, List.getElem?_map, List.getElem?_drop, List.getElem?_take, List.length_map, Option.map_some, List.set_cons_zero, List.set_cons_succ, and_true, true_and, List.flatMap_cons, List.flatMap_nil, Bool.not_not, hρ, ho2, rdC_5, hov2, hmx, aMk_0, aMk_1, aInt, hrl, q9, hna]
        refine wpa_callG (wrong_a H2) ?_
        rintro a σ3 ⟨H3, k3⟩
        simp (maxSteps := 1000000) (implicitDefEqProofs := false) (disch := omega) only [push_cast, ↓reduceIte, Nat.reduceEqDiff, reduceCtorEq, decide_true, decide_false, Bool.not_true, Bool.not_false, Option.isNone_some, Option.isNone_none, List.drop_zero, List.drop_succ_cons, List.getElem?_cons_zero, List.getElem?_cons_succ, List.length_cons, List.length_nil, List.take_succ_cons, List.take_zero, Nat.mul_one, Nat.zero_add, Nat.add_zero, Nat.one_mul, Nat.zero_mul, List.getElem?_map, List.getElem?_drop, List.getElem?_take, List.length_map, Option.map_some, List.set_cons_zero, List.set_cons_succ, and_true, true_and, List.flatMap_cons, List.flatMap_nil, Bool.not_not]
        refine hN (D.nx.wrong, L) _ _ ⟨?_, lab2, t, ts, ?_, fun h => by simp [RD.wrong] at h, hli.stp (k2.trans k3 (U := isB) (fun _ h => h) fun _ h => h) hBR (fun _ => isB_R) H3 ⟨hok2.pos, hok2.p, hok2.q, hok2.a⟩ (by simp only [RD.wrong, RD.nx]; omega) (.inr ⟨rfl, hgo.ends fun K _ => ends_form hm hk hfit⟩)⟩ ?_
        · simp (maxSteps := 1000000) (implicitDefEqProofs := false) (disch := omega) only [push_cast, ↓reduceIte, Nat.reduceEqDiff, reduceCtorEq, decide_true, decide_false, Bool.not_true, Bool.not_false, Option.isNone_some, Option.isNone_none, List.drop_zero, List.drop_succ_cons, List.getElem?_cons_zero, List.getElem?_cons_succ, List.length_cons, List.length_nil, List.take_succ_cons, List.take_zero, Nat.mul_one, Nat.zero_add, Nat.add_zero, Nat.one_mul, Nat.zero_mul, List.getElem?_map, List.getElem?_drop, List.getElem?_take, List.length_map, Option.map_some, List.set_cons_zero, List.set_cons_succ, and_true, true_and, List.flatMap_cons, List.flatMap_nil, Bool.not_not, hρ]
        · simp (maxSteps := 1000000) (implicitDefEqProofs := false) (disch := omega) only [push_cast, ↓reduceIte, Nat.reduceEqDiff, reduceCtorEq, decide_true, decide_false, Bool.not_true, Bool.not_false, Option.isNone_some, Option.isNone_none, List.drop_zero, List.drop_succ_cons, List.getElem?_cons_zero, List.getElem?_cons_succ, List.length_cons, List.length_nil, List.take_succ_cons, List.take_zero, Nat.mul_one, Nat.zero_add, Nat.add_zero, Nat.one_mul, Nat.zero_mul, List.getElem?_map, List.getElem?_drop, List.getElem?_take, List.length_map, Option.map_some, List.set_cons_zero, List.set_cons_succ, and_true, true_and, List.flatMap_cons, List.flatMap_nil, Bool.not_not, hrl]
        · simp only [RD.wrong, RD.nx, hov, if_true, Bool.false_eq_true, if_false]; omega
      by_cases q8 : m.k = 8
      · by_cases qa : m.a = s
        · have hna : ¬ (0 : Int) < (L.lasts.length : Int) := fun e => c8 ⟨q8, qa, by omega⟩
          simp (maxSteps := 1000000) (implicitDefEqProofs := false) (disch := omega) only [push_cast, ↓reduceIte, Nat.reduceEqDiff, reduceCtorEq, decide_true, decide_false, Bool.not_true, Bool.not_false, Option.isNone_some, Option.isNone_none, List.drop_zero, List.drop_succ_cons, List.getElem?_cons_zero, List.getElem?_cons_succ, List.length_cons, List.length_nil, List.take_succ_cons, List.take_zero, Nat.mul_one, Nat.zero_add, Nat.add_zero, Nat.one_mul, Nat.zero_mul, List.getElem?_map, List.getElem?_drop, List.getElem?_take, List.length_map, Option.map_some, List.set_cons_zero, List.set_cons_succ, and_true, true_and, List.flatMap_cons, List.flatMap_nil, Bool.not_not, hρ, ho2, rdC_5, hov2, hmx, aMk_0, aMk_1, aInt, hrl, q8, qa, hna]
          refine wpa_callG (wrong_a H2) ?_
          rintro a σ3 ⟨H3, k3⟩
          simp (maxSteps := 1000000) (implicitDefEqProofs := false) (disch := omega) only [push_cast, ↓reduceIte, Nat.reduceEqDiff, reduceCtorEq, decide_true, decide_false, Bool.not_true, Bool.not_false, Option.isNone_some, Option.isNone_none, List.drop_zero, List.drop_succ_cons, List.getElem?_cons_zero, List.getElem?_cons_succ, List.length_cons, List.length_nil, List.take_succ_cons, List.take_zero, Nat.mul_one, Nat.zero_add, Nat.add_zero, Nat.one_mul, Nat.zero_mul, List.getElem?_map, List.getElem?_drop, List.getElem?_take, List.length_map, Option.map_some, List.set_cons_zero, List.set_cons_succ, and_true, true_and, List.flatMap_cons, List.flatMap_nil, Bool.not_not]
          refine hN (D.nx.wrong, L) _ _ ⟨?_, lab2, t, ts, ?_, fun h => by simp [RD.wrong] at h, hli.stp (k2.trans k3 (U := isB) (fun _ h => h) fun _ h => h) hBR (fun _ => isB_R) H3 ⟨hok2.pos, hok2.p, hok2.q, hok2.a⟩ (by simp only [RD.wrong, RD.nx]; omega) (.inr ⟨rfl, hgo.ends fun K _ => ends_form hm hk hfit⟩)⟩ ?_
          · simp (maxSteps := 1000000) (implicitDefEqProofs := false) (disch := omega) only [push_cast, ↓reduceIte, Nat.reduceEqDiff, reduceCtorEq, decide_true, decide_false, Bool.not_true, Bool.not_false, Option.isNone_some, Option.isNone_none, List.drop_zero, List.drop_succ_cons, List.getElem?_cons_zero, List.getElem?_cons_succ, List.length_cons, List.length_nil, List.take_succ_cons, List.take_zero, Nat.mul_one, Nat.zero_add, Nat.add_zero, Nat.one_mul, Nat.zero_mul, List.getElem?_map, List.getElem?_drop, List.getElem?_take, List.length_map, Option.map_some, List.set_cons_zero, List.set_cons_succ, and_true, true_and, List.flatMap_cons, List.flatMap_nil, Bool.not_not, hρ]
          · simp (maxSteps := 1000000) (implicitDefEqProofs := false) (disch := omega) only [push_cast, ↓reduceIte, Nat.reduceEqDiff, reduceCtorEq, decide_true, decide_false, Bool.not_true, Bool.not_false, Option.isNone_some, Option.isNone_none, List.drop_zero, List.drop_succ_cons, List.getElem?_cons_zero, List.getElem?_cons_succ, List.length_cons, List.length_nil, List.take_succ_cons, List.take_zero, Nat.mul_one, Nat.zero_add, Nat.add_zero, Nat.one_mul, Nat.zero_mul, List.getElem?_map, List.getElem?_drop, List.getElem?_take, List.length_map, Option.map_some, List.set_cons_zero, List.set_cons_succ, and_true, true_and, List.flatMap_cons, List.flatMap_nil, Bool.not_not, hrl]
          · simp only [RD.wrong, RD.nx, hov, if_true, Bool.false_eq_true, if_false]; omega
        · skip
          simp (maxSteps := 1000000) (implicitDefEqProofs := false) (disch := omega) only [push_cast, ↓reduceIte, Nat.reduceEqDiff, reduceCtorEq, decide_true, decide_false, Bool.not_true, Bool.not_false, Option.isNone_some, Option.isNone_none, List.drop_zero, List.drop_succ_cons, List.getElem?_cons_zero, List.getElem?_cons_succ, List.length_cons, List.length_nil, List.take_succ_cons, List.take_zero, Nat.mul_one, Nat.zero_add, Nat.add_zero, Nat.one_mul, Nat.zero_mul, List.getElem?_map, List.getElem?_drop, List.getElem?_take, List.length_map, Option.map_some, List.set_cons_zero, List.set_cons_succ, and_true, true_and, List.flatMap_cons, List.flatMap_nil, Bool.not_not, hρ, ho2, rdC_5, hov2, hmx, aMk_0, aMk_1, aInt, hrl, q8, qa]
          refine wpa_callG (wrong_a H2) ?_
          rintro a σ3 ⟨H3, k3⟩
          simp (maxSteps := 1000000) (implicitDefEqProofs := false) (disch := omega) only [push_cast, ↓reduceIte, Nat.reduceEqDiff, reduceCtorEq, decide_true, decide_false, Bool.not_true, Bool.not_false, Option.isNone_some, Option.isNone_none, List.drop_zero, List.drop_succ_cons, List.getElem?_cons_zero, List.getElem?_cons_succ, List.length_cons, List.length_nil, List.take_succ_cons, List.take_zero, Nat.mul_one, Nat.zero_add, Nat.add_zero, Nat.one_mul, Nat.zero_mul, List.getElem?_map, List.getElem?_drop, List.getElem?_take, List.length_map, Option.map_some, List.set_cons_zero, List.set_cons_succ, and_true, true_and, List.flatMap_cons, List.flatMap_nil, Bool.not_not]
          refine hN (D.nx.wrong, L) _ _ ⟨?_, lab2, t, ts, ?_, fun h => by simp [RD.wrong] at h, hli.stp (k2.trans k3 (U := isB) (fun _ h => h) fun _ h => h) hBR (fun _ => isB_R) H3 ⟨hok2.pos, hok2.p, hok2.q, hok2.a⟩ (by simp only [RD.wrong, RD.nx]; omega) (.inr ⟨rfl, hgo.ends fun K _ => ends_form hm hk hfit⟩)⟩ ?_
          · simp (maxSteps := 1000000) (implicitDefEqProofs := false) (disch := omega) only [push_cast, ↓reduceIte, Nat.reduceEqDiff, reduceCtorEq, decide_true, decide_false, Bool.not_true, Bool.not_false, Option.isNone_some, Option.isNone_none, List.drop_zero, List.drop_succ_cons, List.getElem?_cons_zero, List.getElem?_cons_succ, List.length_cons, List.length_nil, List.take_succ_cons, List.take_zero, Nat.mul_one, Nat.zero_add, Nat.add_zero, Nat.one_mul, Nat.zero_mul, List.getElem?_map, List.getElem?_drop, List.getElem?_take, List.length_map, Option.map_some, List.set_cons_zero, List.set_cons_succ, and_true, true_and, List.flatMap_cons, List.flatMap_nil, Bool.not_not, hρ]
          · simp (maxSteps := 1000000) (implicitDefEqProofs := false) (disch := omega) only [push_cast, ↓reduceIte, Nat.reduceEqDiff, reduceCtorEq, decide_true, decide_false, Bool.not_true, Bool.not_false, Option.isNone_some, Option.isNone_none, List.drop_zero, List.drop_succ_cons, List.getElem?_cons_zero, List.getElem?_cons_succ, List.length_cons, List.length_nil, List.take_succ_cons, List.take_zero, Nat.mul_one, Nat.zero_add, Nat.add_zero, Nat.one_mul, Nat.zero_mul, List.getElem?_map, List.getElem?_drop, List.getElem?_take, List.length_map, Option.map_some, List.set_cons_zero, List.set_cons_succ, and_true, true_and, List.flatMap_cons, List.flatMap_nil, Bool.not_not, hrl]
          · simp only [RD.wrong, RD.nx, hov, if_true, Bool.false_eq_true, if_false]; omega
      simp (maxSteps := 1000000) (implicitDefEqProofs := false) (disch := omega) only [push_cast, ↓reduceIte, Nat.reduceEqDiff, reduceCtorEq, decide_true, decide_false, Bool.not_true, Bool.not_false, Option.isNone_some, Option.isNone_none, List.drop_zero, List.drop_succ_cons, List.getElem?_cons_zero, List.getElem?_cons_succ, List.length_cons, List.length_nil, List.take_succ_cons, List.take_zero, Nat.mul_one, Nat.zero_add, Nat.add_zero, Nat.one_mul, Nat.zero_mul, List.getElem?_map, List.getElem?_drop, List.getElem?_take, List.length_map, Option.map_some, List.set_cons_zero, List.set_cons_succ, and_true, true_and, List.flatMap_cons, List.flatMap_nil, Bool.not_not, hρ, ho2, rdC_5, hov2, hmx, aMk_0, aMk_1, aInt, hrl, q9, q8]
      refine wpa_callG (wrong_a H2) ?_
      rintro a σ3 ⟨H3, k3⟩
      simp (maxSteps := 1000000) (implicitDefEqProofs := false) (disch := omega) only [push_cast, ↓reduceIte, Nat.reduceEqDiff, reduceCtorEq, decide_true, decide_false, Bool.not_true, Bool.not_false, Option.isNone_some, Option.isNone_none, List.drop_zero, List.drop_succ_cons, List.getElem?_cons_zero, List.getElem?_cons_succ, List.length_cons, List.length_nil, List.take_succ_cons, List.take_zero, Nat.mul_one, Nat.zero_add, Nat.add_zero, Nat.one_mul, Nat.zero_mul, List.getElem?_map, List.getElem?_drop, List.getElem?_take, List.length_map, Option.map_some, List.set_cons_zero, List.set_cons_succ, and_true, true_and, List.flatMap_cons, List.flatMap_nil, Bool.not_not]
      refine hN (D.nx.wrong, L) _ _ ⟨?_, lab2, t, ts, ?_, fun h => by simp [RD.wrong] at h, hli.stp (k2.trans k3 (U := isB) (fun _ h => h) fun _ h => h) hBR (fun _ => isB_R) H3 ⟨hok2.pos, hok2.p, hok2.q, hok2.a⟩ (by simp only [RD.wrong, RD.nx]; omega) (.inr ⟨rfl, hgo.ends fun K _ => ends_form hm hk hfit⟩)⟩ ?_
      · simp (maxSteps := 1000000) (implicitDefEqProofs := false) (disch := omega) only [push_cast, ↓reduceIte, Nat.reduceEqDiff, reduceCtorEq, decide_true, decide_false, Bool.not_true, Bool.not_false, Option.isNone_some, Option.isNone_none, List.drop_zero, List.drop_succ_cons, List.getElem?_cons_zero, List.getElem?_cons_succ, List.length_cons, List.length_nil, List.take_succ_cons, List.take_zero, Nat.mul_one, Nat.zero_add, Nat.add_zero, Nat.one_mul, Nat.zero_mul, List.getElem?_map, List.getElem?_drop, List.getElem?_take, List.length_map, Option.map_some, List.set_cons_zero, List.set_cons_succ, and_true, true_and, List.flatMap_cons, List.flatMap_nil, Bool.not_not, hρ]
      · simp (maxSteps := 1000000) (implicitDefEqProofs := false) (disch := omega) only [push_cast, ↓reduceIte, Nat.reduceEqDiff, reduceCtorEq, decide_true, decide_false, Bool.not_true, Bool.not_false, Option.isNone_some, Option.isNone_none, List.drop_zero, List.drop_succ_cons, List.getElem?_cons_zero, List.getElem?_cons_succ, List.length_cons, List.length_nil, List.take_succ_cons, List.take_zero, Nat.mul_one, Nat.zero_add, Nat.add_zero, Nat.one_mul, Nat.zero_mul, List.getElem?_map, List.getElem?_drop, List.getElem?_take, List.length_map, Option.map_some, List.set_cons_zero, List.set_cons_succ, and_true, true_and, List.flatMap_cons, List.flatMap_nil, Bool.not_not, hrl]
      · simp only [RD.wrong, RD.nx, hov, if_true, Bool.false_eq_true, if_false]; omega
    · simp (maxSteps := 1000000) (implicitDefEqProofs := false) (disch := omega) only [push_cast, ↓reduceIte, Nat.reduceEqDiff, reduceCtorEq, decide_true, decide_false, Bool.not_true, Bool.not_false, Option.isNone_some, Option.isNone_none, List.drop_zero, List.drop_succ_cons, List.getElem?_cons_zero, List.getElem?_cons_succ, List.length_cons, List.length_nil, List.take_succ_cons, List.take_zero, Nat.mul_one, Nat.zero_add, Nat.add_zero, Nat.one_mul, Nat.zero_mul, List.getElem?_map, List.getElem?_drop, List.getElem?_take, List.length_map, Option.map_some, List.set_cons_zero, List.set_cons_succ, and_true, true_and, List.flatMap_cons, List.flatMap_nil, Bool.not_not, hρ, ho, rdC_5, hov]
      refine hE _ _ ?_
      exact ⟨lab, D, t, hli.rd, hli.ok, hli.le, ⟨hov, hen⟩, hli.k⟩
  · clear hρ hli0 ε
    rintro ε σ ⟨lab, E, t, H, hok, hle, hend, hk⟩
    simp (maxSteps := 1000000) (implicitDefEqProofs := false) (disch := omega) only [push_cast, ↓reduceIte, Nat.reduceEqDiff, reduceCtorEq, decide_true, decide_false, Bool.not_true, Bool.not_false, Option.isNone_some, Option.isNone_none, List.drop_zero, List.drop_succ_cons, List.getElem?_cons_zero, List.getElem?_cons_succ, List.length_cons, List.length_nil, List.take_succ_cons, List.take_zero, Nat.mul_one, Nat.zero_add, Nat.add_zero, Nat.one_mul, Nat.zero_mul, List.getElem?_map, List.getElem?_drop, List.getElem?_take, List.length_map, Option.map_some, List.set_cons_zero, List.set_cons_succ, and_true, true_and, List.flatMap_cons, List.flatMap_nil, Bool.not_not]
    exact ⟨lab, E, t, H, hok, hle, .inl ⟨hend.1, fun K => hend.2 K trivial⟩, hk⟩
end Go.Proofs.Ytilofhocodbknaa
