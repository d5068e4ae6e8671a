/- Contracts on annotated values: forebayref30.Build, forebaylaw30.Same. -/
import Derived.Test.YtilofhocodbknaaStw
namespace Go.Proofs.Ytilofhocodbknaa
set_option linter.unusedVariables false
set_option linter.unusedSimpArgs false
open Go Go.Kx Go.Proofs

theorem both {l : List Mk} (hl : l.length ≤ 8000) (n : Nat) : SF l n ∧ SL l n := by
  induction n using Nat.strongRecOn with
  | ind n ih => exact ⟨frame_step hl (fun k h => (ih k h).1) fun k h => (ih k h).2, loop_step hl fun k h => (ih k h).1⟩
/-- A dag of the document's, in object k. -/
def DgAt (σ : St) (k : Nat) (B : Bd) : Prop := ∃ c0 c1 p n a c5 c6, σ[k]? = some (.obj 0 [c0, c1, .sl B.preds.length (B.preds.map aInts) p, .sl B.nodes.length (B.nodes.flatMap aNd) n, .sl B.accs.length (B.accs.flatMap aAc) a, c5, c6])
def rd0 : RD := ⟨0, [], [], [], false, 0⟩
theorem buildR_root {l : List Mk} {E : RD} (h : Ends l (rd0.begin (0, 0, 0) []).2 rootFr E (· = [])) : (buildR l).1 = E.e ∧ (E.e = 0 → (buildR l).2.preds = E.preds ∧ (buildR l).2.nodes = E.nodes ∧ (buildR l).2.accs = E.accs) ∧ (E.e ≠ 0 → (buildR l).2 = noneB) := by
  obtain ⟨h1, h2⟩ := h [] rfl
  have e : Rn l (rd0.begin (0, 0, 0) []).2 [rootFr] = runB bd0 l := rfl
  rw [e] at h1 h2
  unfold buildR
  by_cases h0 : (runB bd0 l).1 = 0
  · rw [if_pos h0]
    refine ⟨by rw [← h1, h0], fun h3 => ?_, fun h3 => absurd (h1.symm.trans h0) h3⟩
    obtain ⟨gs, hg⟩ := h2 h3
    simp only [hg]
    exact ⟨rfl, rfl, rfl⟩
  · rw [if_neg h0]
    exact ⟨h1, fun h3 => absurd (h1.trans h3) h0, fun _ => rfl⟩
theorem ref30_Build_a {σ : St} (l : List Mk) (hl : l.length ≤ 8000) : FnG Try.prog 75 [aMks l] σ fun a σ' => ∃ k, a = .tup [.ref k 0 0, aInt (buildR l).1] ∧ DgAt σ' k (buildR l).2 ∧ ∀ j, j < σ.length → σ'[j]? = σ[j]? := by
  refine fnG_in K_forebayref30_Build mixed rfl ?_
  simp only [S_forebayref30_Build]
  have hf : fillA [AV.sl 0 [] Tok.nil, AV.v (.int .i64 0), AV.sl 0 [] Tok.nil, AV.sl 0 [] Tok.nil, AV.sl 0 [] Tok.nil, AV.v (.bool false), AV.v (.int .i64 0)] [(0, 1)] [aMks l] = some (rdC l rd0 nilB) := by simp [fillA, AV.cells, setAtA, aMks, aSlN, rdC, rd0, nilB]
  have hac : (AV.agg (rdC l rd0 nilB)).cells = rdC l rd0 nilB := rfl
  simp (maxSteps := 1000000) (implicitDefEqProofs := false) (disch := omega) only [push_cast, ↓reduceIte, Nat.reduceEqDiff, reduceCtorEq, decide_true, decide_false, Bool.not_true, Bool.not_false, Option.isNone_some, Option.isNone_none, List.drop_zero, List.drop_succ_cons, List.getElem?_cons_zero, List.getElem?_cons_succ, List.length_cons, List.length_nil, List.take_succ_cons, List.take_zero, Nat.mul_one, Nat.zero_add, Nat.add_zero, Nat.one_mul, Nat.zero_mul, List.getElem?_map, List.getElem?_drop, List.getElem?_take, List.length_map, Option.map_some, List.set_cons_zero, List.set_cons_succ, and_true, true_and, List.flatMap_cons, List.flatMap_nil, Bool.not_not, hf]
  refine wpa_box ?_
  rw [hac]
  have k0 : Stp (isR 0) σ (fun _ => (0, 1)) (σ ++ [.obj 0 (rdC l rd0 nilB)]) (labN σ (fun _ => (0, 1)) (1, 0)) := stp_new (1, 0)
  have H0 : RdAt (σ ++ [.obj 0 (rdC l rd0 nilB)]) (labN σ (fun _ => (0, 1)) (1, 0)) σ.length l rd0 nilB := ⟨at_snoc _ _, labN_self _ _ _, TokOk.nil, TokOk.nil, TokOk.nil⟩
  generalize σ ++ [Res.obj 0 (rdC l rd0 nilB)] = σ1 at k0 H0 ⊢
  generalize labN σ (fun _ => (0, 1)) (1, 0) = lab1 at k0 H0
  generalize hid : σ.length = id at H0 ⊢
  have hz3 : AV.agg [AV.v (.int .i64 0), AV.v (.int .i64 0), AV.v (.int .i64 0)] = .agg (aNd (0, 0, 0)) := rfl
  have hok0 : DOk l rd0 := ⟨Nat.zero_le _, by decide, rfl, by decide⟩
  simp (maxSteps := 1000000) (implicitDefEqProofs := false) (disch := omega) only [push_cast, ↓reduceIte, Nat.reduceEqDiff, reduceCtorEq, decide_true, decide_false, Bool.not_true, Bool.not_false, Option.isNone_some, Option.isNone_none, List.drop_zero, List.drop_succ_cons, List.getElem?_cons_zero, List.getElem?_cons_succ, List.length_cons, List.length_nil, List.take_succ_cons, List.take_zero, Nat.mul_one, Nat.zero_add, Nat.add_zero, Nat.one_mul, Nat.zero_mul, List.getElem?_map, List.getElem?_drop, List.getElem?_take, List.length_map, Option.map_some, List.set_cons_zero, List.set_cons_succ, and_true, true_and, List.flatMap_cons, List.flatMap_nil, Bool.not_not]
  refine wpa_callGw [] [false, false, true] (begin_a H0 hok0.p hok0.q (0, 0, 0) []) (weak3 _ _ _ [] _) ?_
  rintro a σ2 ⟨rfl, lab2, t2, H2, k2⟩
  have hok2 := hok0.begin (0, 0, 0) []
  have hwk : ∀ S : St, weak (Go.Kx.freeze [] S) [false, false, false, false, true] [.ref id 0 0, .v (.int .i64 0), .agg [AV.v (.int .i64 0), AV.v (.int .i64 0), AV.v (.int .i64 0)], aInt 0, .sl 0 [] .nil] = [.ref id 0 0, aInt 0, .agg (aNd rootFr.node), aInt rootFr.now, .sl ([] : List (Int × Int)).length (([] : List (Int × Int)).flatMap aSt) .none] := fun S => by simp [weak, AV.res, AV.resL, aInt, aNd, Fr.node, rootFr]
  have hb1 : (rd0.begin (0, 0, 0) []).1 = 0 := rfl
  simp (maxSteps := 1000000) (implicitDefEqProofs := false) (disch := omega) only [push_cast, ↓reduceIte, Nat.reduceEqDiff, reduceCtorEq, decide_true, decide_false, Bool.not_true, Bool.not_false, Option.isNone_some, Option.isNone_none, List.drop_zero, List.drop_succ_cons, List.getElem?_cons_zero, List.getElem?_cons_succ, List.length_cons, List.length_nil, List.take_succ_cons, List.take_zero, Nat.mul_one, Nat.zero_add, Nat.add_zero, Nat.one_mul, Nat.zero_mul, List.getElem?_map, List.getElem?_drop, List.getElem?_take, List.length_map, Option.map_some, List.set_cons_zero, List.set_cons_succ, and_true, true_and, List.flatMap_cons, List.flatMap_nil, Bool.not_not, hb1]
  refine wpa_callGw [] [false, false, false, false, true] ((both hl l.length).1 σ2 lab2 id _ t2 rootFr [] (· = []) 0 H2 hok2 rfl rfl rfl (.inl ⟨rfl, rfl, rfl⟩) rfl rfl (fun e => by simp [rootFr] at e) (by simp)) (hwk _) ?_
  rintro a σ3 ⟨lab3, E, t3, H3, hokE, hlE, hout, k3⟩
  have kk : Stp (isR 0) σ (fun _ => (0, 1)) σ3 lab3 := (k0.trans k2 (U := isR 0) (fun _ h => h) fun _ => isB_R).trans k3 (fun _ h => h) fun _ h => h
  have hnR : ¬ isR 0 (0, 1) := by
    rintro (h | h)
    · have := h.1; simp at this
    · have := h.1; simp at this
  have hold : ∀ j, j < id → σ3[j]? = σ[j]? := fun j hj => (kk.same j (by omega) hnR).1
  have hend : Ends l (rd0.begin (0, 0, 0) []).2 rootFr E (· = []) := by
    rcases hout with ⟨_, h⟩ | ⟨_, _, D2, F2, m, tk, _, _, _, hcl, hsm, _⟩
    · exact h
    · exfalso
      obtain ⟨s1, s2, _⟩ := hsm
      rcases hcl with ⟨_, h, _⟩ | ⟨_, h, _⟩
      · rw [s2] at h; simp [rootFr] at h
      · rw [s1] at h; simp [rootFr] at h
  obtain ⟨hb, hb0, hbn⟩ := buildR_root hend
  have ho3 := H3.obj
  by_cases he : E.e = 0
  · obtain ⟨q1, q2, q3⟩ := hb0 he
    rw [hb, he]
    simp (maxSteps := 1000000) (implicitDefEqProofs := false) (disch := omega) only [push_cast, ↓reduceIte, Nat.reduceEqDiff, reduceCtorEq, decide_true, decide_false, Bool.not_true, Bool.not_false, Option.isNone_some, Option.isNone_none, List.drop_zero, List.drop_succ_cons, List.getElem?_cons_zero, List.getElem?_cons_succ, List.length_cons, List.length_nil, List.take_succ_cons, List.take_zero, Nat.mul_one, Nat.zero_add, Nat.add_zero, Nat.one_mul, Nat.zero_mul, List.getElem?_map, List.getElem?_drop, List.getElem?_take, List.length_map, Option.map_some, List.set_cons_zero, List.set_cons_succ, and_true, true_and, List.flatMap_cons, List.flatMap_nil, Bool.not_not, ho3, rdC_6, he]
    refine ⟨id, rfl, ⟨.sl l.length (l.flatMap aMk) .none, .v (.int .i64 E.pos), t3.p, t3.n, t3.a, .v (.bool E.over), .v (.int .i64 E.e), ?_⟩, hold⟩
    rw [ho3, q1, q2, q3]
    rfl
  · rw [hb, hbn he]
    simp (maxSteps := 1000000) (implicitDefEqProofs := false) (disch := omega) only [push_cast, ↓reduceIte, Nat.reduceEqDiff, reduceCtorEq, decide_true, decide_false, Bool.not_true, Bool.not_false, Option.isNone_some, Option.isNone_none, List.drop_zero, List.drop_succ_cons, List.getElem?_cons_zero, List.getElem?_cons_succ, List.length_cons, List.length_nil, List.take_succ_cons, List.take_zero, Nat.mul_one, Nat.zero_add, Nat.add_zero, Nat.one_mul, Nat.zero_mul, List.getElem?_map, List.getElem?_drop, List.getElem?_take, List.length_map, Option.map_some, List.set_cons_zero, List.set_cons_succ, and_true, true_and, List.flatMap_cons, List.flatMap_nil, Bool.not_not, ho3, rdC_6, he]
    refine wpa_box ?_
    have hid3 : σ3[id]? = some (.obj 0 (rdC l E t3)) := ho3
    have ho4 : (σ3 ++ [Res.obj 0 [AV.sl 0 [] Tok.nil, AV.v (Value.int IntKind.i64 0), AV.sl 0 [] Tok.nil, AV.sl 0 [] Tok.nil, AV.sl 0 [] Tok.nil, AV.v (Value.bool false), AV.v (Value.int IntKind.i64 0)]])[id]? = some (.obj 0 (rdC l E t3)) := get_app ho3
    have exi : ∀ x, (AV.v (.int .i64 x)).exact = true := fun _ => rfl
    simp (maxSteps := 1000000) (implicitDefEqProofs := false) (disch := omega) only [push_cast, ↓reduceIte, Nat.reduceEqDiff, reduceCtorEq, decide_true, decide_false, Bool.not_true, Bool.not_false, Option.isNone_some, Option.isNone_none, List.drop_zero, List.drop_succ_cons, List.getElem?_cons_zero, List.getElem?_cons_succ, List.length_cons, List.length_nil, List.take_succ_cons, List.take_zero, Nat.mul_one, Nat.zero_add, Nat.add_zero, Nat.one_mul, Nat.zero_mul, List.getElem?_map, List.getElem?_drop, List.getElem?_take, List.length_map, Option.map_some, List.set_cons_zero, List.set_cons_succ, and_true, true_and, List.flatMap_cons, List.flatMap_nil, Bool.not_not]
    refine ⟨aholds_lde (by simp (maxSteps := 1000000) (implicitDefEqProofs := false) (disch := omega) only [push_cast, ↓reduceIte, Nat.reduceEqDiff, reduceCtorEq, decide_true, decide_false, Bool.not_true, Bool.not_false, Option.isNone_some, Option.isNone_none, List.drop_zero, List.drop_succ_cons, List.getElem?_cons_zero, List.getElem?_cons_succ, List.length_cons, List.length_nil, List.take_succ_cons, List.take_zero, Nat.mul_one, Nat.zero_add, Nat.add_zero, Nat.one_mul, Nat.zero_mul, List.getElem?_map, List.getElem?_drop, List.getElem?_take, List.length_map, Option.map_some, List.set_cons_zero, List.set_cons_succ, and_true, true_and, List.flatMap_cons, List.flatMap_nil, Bool.not_not, ho4, rdC_6, exi]), ?_⟩
    refine ⟨σ3.length, rfl, ⟨.sl 0 [] .nil, .v (.int .i64 0), .nil, .nil, .nil, .v (.bool false), .v (.int .i64 0), at_snoc _ _⟩, fun j hj => ?_⟩
    rw [List.getElem?_append_left (by have := kk.le; omega), hold j hj]

theorem eqsAc (c : Ac) : PF.av (.eqs true [.int .i64, .int .i64, .bool]) [.agg (aAc c), .agg (aAc c)] = some (.v (.bool false)) := by
  show ((PF.val (.eqs true [.int .i64, .int .i64, .bool]) [.agg [.int .i64 c.st, .int .i64 c.wd, .bool c.wr].toArray, .agg [.int .i64 c.st, .int .i64 c.wd, .bool c.wr].toArray]).map AV.v) = _
  simp [PF.val, eqCs, eqC]
set_option maxHeartbeats 4000000 in
theorem law30_Same_a {σ : St} (B : Bd) (k : Nat) (hk : DgAt σ k B) (hpn : B.nodes.length = B.preds.length) (hp : ∀ ps ∈ B.preds, ps.length ≤ 1000000) (h1 : B.preds.length ≤ 1000000) (h2 : B.accs.length ≤ 1000000) :
    FnG Try.prog 76 [.agg (dagC B), .ref k 0 0] σ fun a _ => a = aBool true := by
  refine fnG_in K_forebaylaw30_Same mixed rfl ?_
  simp only [S_forebaylaw30_Same]
  obtain ⟨c0, c1, p, n, a, c5, c6, hk⟩ := hk
  have hbx : (σ ++ [Res.obj 0 (dagC B)])[σ.length]? = some (.obj 0 (dagC B)) := at_snoc _ _
  have hk1 := get_app (τ := [Res.obj 0 (dagC B)]) hk
  have hac : (AV.agg (dagC B)).cells = dagC B := rfl
  have d0 := dagC_0 B
  have d1 := dagC_1 B
  have d2 := dagC_2 B
  simp (maxSteps := 1000000) (implicitDefEqProofs := false) (disch := omega) only [push_cast, ↓reduceIte, Nat.reduceEqDiff, reduceCtorEq, decide_true, decide_false, Bool.not_true, Bool.not_false, Option.isNone_some, Option.isNone_none, List.drop_zero, List.drop_succ_cons, List.getElem?_cons_zero, List.getElem?_cons_succ, List.length_cons, List.length_nil, List.take_succ_cons, List.take_zero, Nat.mul_one, Nat.zero_add, Nat.add_zero, Nat.one_mul, Nat.zero_mul, List.getElem?_map, List.getElem?_drop, List.getElem?_take, List.length_map, Option.map_some, List.set_cons_zero, List.set_cons_succ, and_true, true_and, List.flatMap_cons, List.flatMap_nil, Bool.not_not]
  refine wpa_box ?_
  rw [hac]
  generalize σ ++ [Res.obj 0 (dagC B)] = σ1 at hbx hk1 ⊢
  generalize σ.length = id at hbx ⊢
  clear hk
  simp (maxSteps := 1000000) (implicitDefEqProofs := false) (disch := omega) only [push_cast, ↓reduceIte, Nat.reduceEqDiff, reduceCtorEq, decide_true, decide_false, Bool.not_true, Bool.not_false, Option.isNone_some, Option.isNone_none, List.drop_zero, List.drop_succ_cons, List.getElem?_cons_zero, List.getElem?_cons_succ, List.length_cons, List.length_nil, List.take_succ_cons, List.take_zero, Nat.mul_one, Nat.zero_add, Nat.add_zero, Nat.one_mul, Nat.zero_mul, List.getElem?_map, List.getElem?_drop, List.getElem?_take, List.length_map, Option.map_some, List.set_cons_zero, List.set_cons_succ, and_true, true_and, List.flatMap_cons, List.flatMap_nil, Bool.not_not, hbx, hk1, d0, d1, d2, hpn]
  refine wpa_blx (α := Nat) (I := fun i ε σ => (ε 1 = .ref k 0 0 ∧ ε 2 = .ref id 0 0 ∧ ε 5 = .v (.int .i64 i)) ∧ i ≤ B.preds.length ∧ σ = σ1)
    (μ := fun i => B.preds.length - i) (Q := fun ε σ => (ε 1 = .ref k 0 0 ∧ ε 2 = .ref id 0 0) ∧ σ = σ1) (x := 0) ?_ ?_ ?_
  · simp (maxSteps := 1000000) (implicitDefEqProofs := false) (disch := omega) only [push_cast, ↓reduceIte, Nat.reduceEqDiff, reduceCtorEq, decide_true, decide_false, Bool.not_true, Bool.not_false, Option.isNone_some, Option.isNone_none, List.drop_zero, List.drop_succ_cons, List.getElem?_cons_zero, List.getElem?_cons_succ, List.length_cons, List.length_nil, List.take_succ_cons, List.take_zero, Nat.mul_one, Nat.zero_add, Nat.add_zero, Nat.one_mul, Nat.zero_mul, List.getElem?_map, List.getElem?_drop, List.getElem?_take, List.length_map, Option.map_some, List.set_cons_zero, List.set_cons_succ, and_true, true_and, List.flatMap_cons, List.flatMap_nil, Bool.not_not]
    omega
  · rintro i ε σ N E X R ⟨hρ, hn, rfl⟩ hN hE
    simp only [S_forebaylaw30_Same_L1]
    by_cases hlt : i < B.preds.length
    · obtain ⟨ps, hps⟩ := at_lt hlt
      obtain ⟨nd, hnd⟩ := at_lt (show i < B.nodes.length by omega)
      have hpl := hp ps (List.mem_of_getElem? hps)
      have hd := flat_drop aNd_len hnd
      have g0 : ∀ k : List AV, (aNd nd ++ k)[0]? = some (.v (.int .i64 nd.1)) := fun _ => rfl
      have g1 : ∀ k : List AV, (aNd nd ++ k)[1]? = some (.v (.int .i64 nd.2.1)) := fun _ => rfl
      have g2 : ∀ k : List AV, (aNd nd ++ k)[2]? = some (.v (.int .i64 nd.2.2)) := fun _ => rfl
      have hpp : (ps == ps) = true := by simp
      simp (maxSteps := 1000000) (implicitDefEqProofs := false) (disch := omega) only [push_cast, ↓reduceIte, Nat.reduceEqDiff, reduceCtorEq, decide_true, decide_false, Bool.not_true, Bool.not_false, Option.isNone_some, Option.isNone_none, List.drop_zero, List.drop_succ_cons, List.getElem?_cons_zero, List.getElem?_cons_succ, List.length_cons, List.length_nil, List.take_succ_cons, List.take_zero, Nat.mul_one, Nat.zero_add, Nat.add_zero, Nat.one_mul, Nat.zero_mul, List.getElem?_map, List.getElem?_drop, List.getElem?_take, List.length_map, Option.map_some, List.set_cons_zero, List.set_cons_succ, and_true, true_and, List.flatMap_cons, List.flatMap_nil, Bool.not_not, hρ, hbx, hk1, d0, hps]
      refine wpa_call (law05_Ints_a ps ps hpl hpl) ?_
      rintro a rfl
      simp (maxSteps := 1000000) (implicitDefEqProofs := false) (disch := omega) only [push_cast, ↓reduceIte, Nat.reduceEqDiff, reduceCtorEq, decide_true, decide_false, Bool.not_true, Bool.not_false, Option.isNone_some, Option.isNone_none, List.drop_zero, List.drop_succ_cons, List.getElem?_cons_zero, List.getElem?_cons_succ, List.length_cons, List.length_nil, List.take_succ_cons, List.take_zero, Nat.mul_one, Nat.zero_add, Nat.add_zero, Nat.one_mul, Nat.zero_mul, List.getElem?_map, List.getElem?_drop, List.getElem?_take, List.length_map, Option.map_some, List.set_cons_zero, List.set_cons_succ, and_true, true_and, List.flatMap_cons, List.flatMap_nil, Bool.not_not, hpp, aBool, hρ, hbx, hk1, d1, hd, g0, g1, g2]
      refine hN (i + 1) _ _ ?_ (by omega)
      simp (maxSteps := 1000000) (implicitDefEqProofs := false) (disch := omega) only [push_cast, ↓reduceIte, Nat.reduceEqDiff, reduceCtorEq, decide_true, decide_false, Bool.not_true, Bool.not_false, Option.isNone_some, Option.isNone_none, List.drop_zero, List.drop_succ_cons, List.getElem?_cons_zero, List.getElem?_cons_succ, List.length_cons, List.length_nil, List.take_succ_cons, List.take_zero, Nat.mul_one, Nat.zero_add, Nat.add_zero, Nat.one_mul, Nat.zero_mul, List.getElem?_map, List.getElem?_drop, List.getElem?_take, List.length_map, Option.map_some, List.set_cons_zero, List.set_cons_succ, and_true, true_and, List.flatMap_cons, List.flatMap_nil, Bool.not_not, hρ]
      omega
    · simp (maxSteps := 1000000) (implicitDefEqProofs := false) (disch := omega) only [push_cast, ↓reduceIte, Nat.reduceEqDiff, reduceCtorEq, decide_true, decide_false, Bool.not_true, Bool.not_false, Option.isNone_some, Option.isNone_none, List.drop_zero, List.drop_succ_cons, List.getElem?_cons_zero, List.getElem?_cons_succ, List.length_cons, List.length_nil, List.take_succ_cons, List.take_zero, Nat.mul_one, Nat.zero_add, Nat.add_zero, Nat.one_mul, Nat.zero_mul, List.getElem?_map, List.getElem?_drop, List.getElem?_take, List.length_map, Option.map_some, List.set_cons_zero, List.set_cons_succ, and_true, true_and, List.flatMap_cons, List.flatMap_nil, Bool.not_not, hρ, hbx, hk1, d0]
      refine hE _ _ ?_
      simp (maxSteps := 1000000) (implicitDefEqProofs := false) (disch := omega) only [push_cast, ↓reduceIte, Nat.reduceEqDiff, reduceCtorEq, decide_true, decide_false, Bool.not_true, Bool.not_false, Option.isNone_some, Option.isNone_none, List.drop_zero, List.drop_succ_cons, List.getElem?_cons_zero, List.getElem?_cons_succ, List.length_cons, List.length_nil, List.take_succ_cons, List.take_zero, Nat.mul_one, Nat.zero_add, Nat.add_zero, Nat.one_mul, Nat.zero_mul, List.getElem?_map, List.getElem?_drop, List.getElem?_take, List.length_map, Option.map_some, List.set_cons_zero, List.set_cons_succ, and_true, true_and, List.flatMap_cons, List.flatMap_nil, Bool.not_not, hρ]
  · rintro ε σ2 ⟨hρ, rfl⟩
    refine wpa_seqx (fun ε σ => True) ?_ ?_
    · intro N X R hN
      simp (maxSteps := 1000000) (implicitDefEqProofs := false) (disch := omega) only [push_cast, ↓reduceIte, Nat.reduceEqDiff, reduceCtorEq, decide_true, decide_false, Bool.not_true, Bool.not_false, Option.isNone_some, Option.isNone_none, List.drop_zero, List.drop_succ_cons, List.getElem?_cons_zero, List.getElem?_cons_succ, List.length_cons, List.length_nil, List.take_succ_cons, List.take_zero, Nat.mul_one, Nat.zero_add, Nat.add_zero, Nat.one_mul, Nat.zero_mul, List.getElem?_map, List.getElem?_drop, List.getElem?_take, List.length_map, Option.map_some, List.set_cons_zero, List.set_cons_succ, and_true, true_and, List.flatMap_cons, List.flatMap_nil, Bool.not_not]
      refine wpa_blx (α := Nat) (I := fun i ε σ => (ε 1 = .ref k 0 0 ∧ ε 2 = .ref id 0 0 ∧ ε 6 = .v (.int .i64 i)) ∧ i ≤ B.accs.length ∧ σ = σ2)
        (μ := fun i => B.accs.length - i) (Q := fun ε σ => True) (x := 0) ?_ ?_ ?_
      · simp (maxSteps := 1000000) (implicitDefEqProofs := false) (disch := omega) only [push_cast, ↓reduceIte, Nat.reduceEqDiff, reduceCtorEq, decide_true, decide_false, Bool.not_true, Bool.not_false, Option.isNone_some, Option.isNone_none, List.drop_zero, List.drop_succ_cons, List.getElem?_cons_zero, List.getElem?_cons_succ, List.length_cons, List.length_nil, List.take_succ_cons, List.take_zero, Nat.mul_one, Nat.zero_add, Nat.add_zero, Nat.one_mul, Nat.zero_mul, List.getElem?_map, List.getElem?_drop, List.getElem?_take, List.length_map, Option.map_some, List.set_cons_zero, List.set_cons_succ, and_true, true_and, List.flatMap_cons, List.flatMap_nil, Bool.not_not, hρ]
        omega
      · clear hN N X R hρ ε
        rintro i ε σ N E X R ⟨hρ, hn, rfl⟩ hN hE
        simp only [S_forebaylaw30_Same_L2]
        by_cases hlt : i < B.accs.length
        · obtain ⟨c, hc⟩ := at_lt hlt
          have hd := flat_drop aAc_len hc
          have hcl : ∀ k : List AV, cellsA (some 3) (aAc c ++ k) = some (.agg (aAc c)) := fun k => by rw [cellsA_n _ _ (by simp [aAc_len])]; rfl
          have hq := eqsAc c
          simp (maxSteps := 1000000) (implicitDefEqProofs := false) (disch := omega) only [push_cast, ↓reduceIte, Nat.reduceEqDiff, reduceCtorEq, decide_true, decide_false, Bool.not_true, Bool.not_false, Option.isNone_some, Option.isNone_none, List.drop_zero, List.drop_succ_cons, List.getElem?_cons_zero, List.getElem?_cons_succ, List.length_cons, List.length_nil, List.take_succ_cons, List.take_zero, Nat.mul_one, Nat.zero_add, Nat.add_zero, Nat.one_mul, Nat.zero_mul, List.getElem?_map, List.getElem?_drop, List.getElem?_take, List.length_map, Option.map_some, List.set_cons_zero, List.set_cons_succ, and_true, true_and, List.flatMap_cons, List.flatMap_nil, Bool.not_not, hρ, hbx, hk1, d2, hd, hcl, hq]
          refine hN (i + 1) _ _ ?_ (by omega)
          simp (maxSteps := 1000000) (implicitDefEqProofs := false) (disch := omega) only [push_cast, ↓reduceIte, Nat.reduceEqDiff, reduceCtorEq, decide_true, decide_false, Bool.not_true, Bool.not_false, Option.isNone_some, Option.isNone_none, List.drop_zero, List.drop_succ_cons, List.getElem?_cons_zero, List.getElem?_cons_succ, List.length_cons, List.length_nil, List.take_succ_cons, List.take_zero, Nat.mul_one, Nat.zero_add, Nat.add_zero, Nat.one_mul, Nat.zero_mul, List.getElem?_map, List.getElem?_drop, List.getElem?_take, List.length_map, Option.map_some, List.set_cons_zero, List.set_cons_succ, and_true, true_and, List.flatMap_cons, List.flatMap_nil, Bool.not_not, hρ]
          omega
        · simp (maxSteps := 1000000) (implicitDefEqProofs := false) (disch := omega) only [push_cast, ↓reduceIte, Nat.reduceEqDiff, reduceCtorEq, decide_true, decide_false, Bool.not_true, Bool.not_false, Option.isNone_some, Option.isNone_none, List.drop_zero, List.drop_succ_cons, List.getElem?_cons_zero, List.getElem?_cons_succ, List.length_cons, List.length_nil, List.take_succ_cons, List.take_zero, Nat.mul_one, Nat.zero_add, Nat.add_zero, Nat.one_mul, Nat.zero_mul, List.getElem?_map, List.getElem?_drop, List.getElem?_take, List.length_map, Option.map_some, List.set_cons_zero, List.set_cons_succ, and_true, true_and, List.flatMap_cons, List.flatMap_nil, Bool.not_not, hρ, hbx, hk1, d2]
          refine hE _ _ ?_
          trivial
      · rintro ε σ h
        exact hN _ _ h
    · rintro ε σ h
      simp (maxSteps := 1000000) (implicitDefEqProofs := false) (disch := omega) only [push_cast, ↓reduceIte, Nat.reduceEqDiff, reduceCtorEq, decide_true, decide_false, Bool.not_true, Bool.not_false, Option.isNone_some, Option.isNone_none, List.drop_zero, List.drop_succ_cons, List.getElem?_cons_zero, List.getElem?_cons_succ, List.length_cons, List.length_nil, List.take_succ_cons, List.take_zero, Nat.mul_one, Nat.zero_add, Nat.add_zero, Nat.one_mul, Nat.zero_mul, List.getElem?_map, List.getElem?_drop, List.getElem?_take, List.length_map, Option.map_some, List.set_cons_zero, List.set_cons_succ, and_true, true_and, List.flatMap_cons, List.flatMap_nil, Bool.not_not]
      rfl
end Go.Proofs.Ytilofhocodbknaa
