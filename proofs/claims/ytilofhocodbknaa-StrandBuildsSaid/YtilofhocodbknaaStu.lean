/- The reference and the machine, side by side: what one mark comes to. -/
import Derived.Test.YtilofhocodbknaaStt
namespace Go.Proofs.Ytilofhocodbknaa
set_option linter.unusedVariables false
set_option linter.unusedSimpArgs false
open Go Go.Kx Go.Proofs

def bdOf (D : RD) (fs : List Fr) : Bd := ⟨D.preds, D.nodes, D.accs, fs, false⟩
def Rn (l : List Mk) (D : RD) (fs : List Fr) : Int × Bd := runB (bdOf D fs) (l.drop D.pos)
structure DOk (l : List Mk) (D : RD) : Prop where
  pos : D.pos ≤ l.length
  p : D.preds.length ≤ 1000
  q : D.nodes.length = D.preds.length
  a : D.accs.length ≤ D.pos
def RD.nx (D : RD) : RD := { D with pos := D.pos + 1 }
abbrev Cx := List Fr → Prop
/-- The machine goes from the one state to the other. -/
def Goes (l : List Mk) (D : RD) (F : Fr) (D' : RD) (F' : Fr) (C : Cx) : Prop := ∀ K, C K → Rn l D (F :: K) = Rn l D' (F' :: K)
/-- The machine ends as the reference does. -/
def EndsAt (l : List Mk) (D : RD) (fs : List Fr) (E : RD) : Prop := (Rn l D fs).1 = E.e ∧ (E.e = 0 → ∃ gs, (Rn l D fs).2 = bdOf E gs)
def Ends (l : List Mk) (D : RD) (F : Fr) (E : RD) (C : Cx) : Prop := ∀ K, C K → EndsAt l D (F :: K) E
theorem Goes.refl {l : List Mk} {D : RD} {F : Fr} {C : Cx} : Goes l D F D F C := fun _ _ => rfl
theorem Goes.trans {l : List Mk} {D D1 D2 : RD} {F F1 F2 : Fr} {C : Cx} (h : Goes l D F D1 F1 C) (k : Goes l D1 F1 D2 F2 C) : Goes l D F D2 F2 C := fun K hK => (h K hK).trans (k K hK)
theorem Goes.ends {l : List Mk} {D D1 E : RD} {F F1 : Fr} {C : Cx} (h : Goes l D F D1 F1 C) (k : Ends l D1 F1 E C) : Ends l D F E C := fun K hK => by unfold EndsAt; rw [h K hK]; exact k K hK
theorem drop_pos {l : List Mk} {D : RD} {m : Mk} (hm : l[D.pos]? = some m) : l.drop D.pos = m :: l.drop (D.pos + 1) := drop_at hm
theorem next_end {l : List Mk} {D : RD} (h : l[D.pos]? = none) : D.next l = (⟨0, 0, 0⟩, { D with over := true }) := by unfold RD.next; rw [h]
theorem next_bad {l : List Mk} {D : RD} {m : Mk} (h : l[D.pos]? = some m) (hk : m.k < 1 ∨ 12 < m.k) : D.next l = (m, { D with pos := D.pos + 1, e := 5, over := true }) := by unfold RD.next; rw [h]; simp only; rw [if_pos hk]
theorem next_ok {l : List Mk} {D : RD} {m : Mk} (h : l[D.pos]? = some m) (hk : ¬ (m.k < 1 ∨ 12 < m.k)) : D.next l = (m, D.nx) := by unfold RD.next; rw [h]; simp only; rw [if_neg hk]; rfl
theorem ends_end {l : List Mk} {D : RD} {fs : List Fr} (h : l[D.pos]? = none) (he : D.e = 0) : EndsAt l D fs { D with over := true } := by
  have hd : l.drop D.pos = [] := by
    rw [List.getElem?_eq_none_iff] at h
    exact List.drop_eq_nil_of_le h
  unfold EndsAt Rn
  rw [hd]
  exact ⟨he.symm, fun _ => ⟨fs, rfl⟩⟩
theorem ends_bad {l : List Mk} {D : RD} {fs : List Fr} {m : Mk} (h : l[D.pos]? = some m) (hk : m.k < 1 ∨ 12 < m.k) : EndsAt l D fs { D with pos := D.pos + 1, e := 5, over := true } := by
  unfold EndsAt Rn
  rw [drop_pos h]
  simp only [runB]
  rw [if_pos hk]
  exact ⟨rfl, fun e => by simp at e⟩
theorem ends_form {l : List Mk} {D : RD} {F : Fr} {K : List Fr} {m : Mk} (h : l[D.pos]? = some m) (hk : ¬ (m.k < 1 ∨ 12 < m.k)) (hf : fitsB F m = false) : EndsAt l D (F :: K) D.nx.wrong := by
  unfold EndsAt Rn
  rw [drop_pos h]
  simp only [runB]
  rw [if_neg hk]
  simp only [bdOf, hf]
  exact ⟨rfl, fun e => by simp [RD.wrong] at e⟩
theorem rn_step {l : List Mk} {D : RD} {F : Fr} {K : List Fr} {m : Mk} (h : l[D.pos]? = some m) (hk : ¬ (m.k < 1 ∨ 12 < m.k)) (hf : fitsB F m = true) {D' : RD} {fs : List Fr} (hs : stepF (bdOf D (F :: K)) m F K = bdOf D' fs) (hp : D'.pos = D.pos + 1) : Rn l D (F :: K) = Rn l D' fs := by
  unfold Rn
  rw [drop_pos h, hp]
  simp only [runB]
  rw [if_neg hk]
  have e : (bdOf D (F :: K)).fs = F :: K := rfl
  rw [e]
  simp only [hf, if_true, hs]
  rfl
theorem ends_full {l : List Mk} {D : RD} {F : Fr} {K : List Fr} {m : Mk} (h : l[D.pos]? = some m) (hk : ¬ (m.k < 1 ∨ 12 < m.k)) (hf : fitsB F m = true) (hs : (stepF (bdOf D (F :: K)) m F K).full = true) {E : RD} (hE : E.e = 9) : EndsAt l D (F :: K) E := by
  unfold EndsAt Rn
  rw [drop_pos h]
  simp only [runB]
  rw [if_neg hk]
  have e : (bdOf D (F :: K)).fs = F :: K := rfl
  rw [e]
  simp only [hf, if_true, hs]
  exact ⟨hE.symm, fun e => by rw [hE] at e; simp at e⟩
/-- A strand begins, here and there. -/
theorem begin_ok {D : RD} (h : D.preds.length ≠ 1000) (n : Nd) (ps : List Int) (fs : List Fr) : (bdOf D fs).begin n ps = ((D.begin n ps).1, bdOf (D.begin n ps).2 fs) ∧ (D.begin n ps).2.over = D.over ∧ (D.begin n ps).2.e = D.e ∧ (D.begin n ps).2.pos = D.pos := by
  have h' : ¬ (bdOf D fs).preds.length = 1000 := h
  unfold Bd.begin RD.begin
  rw [if_neg h', if_neg h]
  exact ⟨rfl, rfl, rfl, rfl⟩
theorem begin_no {D : RD} (h : D.preds.length = 1000) (n : Nd) (ps : List Int) (fs : List Fr) : ((bdOf D fs).begin n ps).2.full = true ∧ D.begin n ps = (0, { D with e := 9, over := true }) := by
  have h' : (bdOf D fs).preds.length = 1000 := h
  unfold Bd.begin RD.begin
  rw [if_pos h', if_pos h]
  exact ⟨rfl, rfl⟩
theorem DOk.nx {l : List Mk} {D : RD} {m : Mk} (h : DOk l D) (hm : l[D.pos]? = some m) : DOk l D.nx := ⟨by have := lt_at hm; unfold RD.nx; simp only; omega, h.p, h.q, by have := h.a; unfold RD.nx; simp only; omega⟩
theorem DOk.begin {l : List Mk} {D : RD} (h : DOk l D) (n : Nd) (ps : List Int) : DOk l (D.begin n ps).2 := by
  obtain ⟨h1, h2, h3, h4⟩ := h
  unfold RD.begin
  split
  · exact ⟨h1, h2, h3, h4⟩
  · exact ⟨h1, by simp only [List.length_append, List.length_singleton]; omega, by simp only [List.length_append, List.length_singleton]; omega, h4⟩

section
variable {l : List Mk} {D : RD} {F : Fr} {K : List Fr} {m : Mk}
theorem s_access (h : l[D.pos]? = some m) (hk : m.k = 1 ∨ m.k = 2 ∨ m.k = 3) (hF : F.kind ≠ 3) : Rn l D (F :: K) = Rn l { D.nx with accs := D.accs ++ [accOf F m] } (F :: K) := by
  refine rn_step h (by omega) ?_ ?_ rfl
  · unfold fitsB; rcases hk with k | k | k <;> simp [k, hF]
  · unfold stepF; rcases hk with k | k | k <;> simp [k, bdOf, RD.nx]
theorem s_fork (h : l[D.pos]? = some m) (hk : m.k = 4) (hF : F.kind ≠ 3) (hl : D.preds.length ≠ 1000) : Rn l D (F :: K) = Rn l (D.nx.begin (0, 0, 0) [F.now]).2 (taskFr (D.nx.begin (0, 0, 0) [F.now]).1 :: F :: K) := by
  obtain ⟨e1, _, _, e4⟩ := begin_ok (D := D.nx) hl (0, 0, 0) [F.now] (F :: K)
  refine rn_step h (by omega) (by unfold fitsB; simp [hk, hF]) ?_ e4
  unfold stepF
  rw [if_pos hk]
  unfold forkB
  have : (bdOf D (F :: K)).begin (0, 0, 0) [F.now] = (bdOf D.nx (F :: K)).begin (0, 0, 0) [F.now] := rfl
  rw [this, e1]
  rfl
theorem s_fork_full (h : l[D.pos]? = some m) (hk : m.k = 4) (hF : F.kind ≠ 3) (hl : D.preds.length = 1000) : EndsAt l D (F :: K) (D.nx.begin (0, 0, 0) [F.now]).2 := by
  obtain ⟨e1, e2⟩ := begin_no (D := D.nx) hl (0, 0, 0) [F.now] (F :: K)
  refine ends_full h (by omega) (by unfold fitsB; simp [hk, hF]) ?_ (by rw [e2])
  unfold stepF
  rw [if_pos hk]
  exact e1
theorem s_ret {G : Fr} (h : l[D.pos]? = some m) (hk : m.k = 5) (hF : F.child = true) (hl : D.preds.length ≠ 1000) : Rn l D (F :: G :: K) = Rn l (D.nx.begin G.node [G.now]).2 ({ G with left := G.left ++ [F.now], now := (D.nx.begin G.node [G.now]).1 } :: K) := by
  obtain ⟨e1, _, _, e4⟩ := begin_ok (D := D.nx) hl G.node [G.now] ({ G with left := G.left ++ [F.now] } :: K)
  refine rn_step h (by omega) (by unfold fitsB; simp [hk, hF]) ?_ e4
  unfold stepF
  rw [if_neg (by omega), if_pos hk]
  simp only [onUp]
  unfold retB
  have : ({ bdOf D (F :: G :: K) with fs := { G with left := G.left ++ [F.now] } :: K } : Bd).begin G.node [G.now] = (bdOf D.nx ({ G with left := G.left ++ [F.now] } :: K)).begin G.node [G.now] := rfl
  rw [this, e1]
  rfl
theorem s_ret_full {G : Fr} (h : l[D.pos]? = some m) (hk : m.k = 5) (hF : F.child = true) (hl : D.preds.length = 1000) : EndsAt l D (F :: G :: K) (D.nx.begin G.node [G.now]).2 := by
  obtain ⟨e1, e2⟩ := begin_no (D := D.nx) hl G.node [G.now] ({ G with left := G.left ++ [F.now] } :: K)
  refine ends_full h (by omega) (by unfold fitsB; simp [hk, hF]) ?_ (by rw [e2])
  unfold stepF
  rw [if_neg (by omega), if_pos hk]
  exact e1
theorem s_meet (h : l[D.pos]? = some m) (hk : m.k = 6) (hF : F.kind ≠ 3) (hl : D.preds.length ≠ 1000) : Rn l D (F :: K) = Rn l (D.nx.begin F.node (F.now :: F.left)).2 ({ F with now := (D.nx.begin F.node (F.now :: F.left)).1, left := [] } :: K) := by
  obtain ⟨e1, _, _, e4⟩ := begin_ok (D := D.nx) hl F.node (F.now :: F.left) (F :: K)
  refine rn_step h (by omega) (by unfold fitsB; simp [hk, hF]) ?_ e4
  unfold stepF
  rw [if_neg (by omega), if_neg (by omega), if_pos hk]
  unfold meetB
  have : (bdOf D (F :: K)).begin F.node (F.now :: F.left) = (bdOf D.nx (F :: K)).begin F.node (F.now :: F.left) := rfl
  rw [this, e1]
  rfl
theorem s_meet_full (h : l[D.pos]? = some m) (hk : m.k = 6) (hF : F.kind ≠ 3) (hl : D.preds.length = 1000) : EndsAt l D (F :: K) (D.nx.begin F.node (F.now :: F.left)).2 := by
  obtain ⟨e1, e2⟩ := begin_no (D := D.nx) hl F.node (F.now :: F.left) (F :: K)
  refine ends_full h (by omega) (by unfold fitsB; simp [hk, hF]) ?_ (by rw [e2])
  unfold stepF
  rw [if_neg (by omega), if_neg (by omega), if_pos hk]
  exact e1
theorem s_loop (h : l[D.pos]? = some m) (hk : m.k = 7) (hF : F.kind ≠ 3) : Rn l D (F :: K) = Rn l D.nx (loopFr m.a F.now :: F :: K) := by
  refine rn_step h (by omega) (by unfold fitsB; simp [hk, hF]) ?_ rfl
  unfold stepF
  rw [if_neg (by omega), if_neg (by omega), if_neg (by omega), if_pos hk]
  rfl
theorem s_leave {G : Fr} (h : l[D.pos]? = some m) (hk : m.k = 8) (hf : fitsB F m = true) (hl : D.preds.length ≠ 1000) : Rn l D (F :: G :: K) = Rn l (D.nx.begin G.node F.lasts).2 ({ G with now := (D.nx.begin G.node F.lasts).1 } :: K) := by
  obtain ⟨e1, _, _, e4⟩ := begin_ok (D := D.nx) hl G.node F.lasts (G :: K)
  refine rn_step h (by omega) hf ?_ e4
  unfold stepF
  rw [if_neg (by omega), if_neg (by omega), if_neg (by omega), if_neg (by omega), if_neg (by omega), if_neg (by omega), if_neg (by omega), if_pos hk]
  simp only [onUp]
  unfold leaveB
  have : ({ bdOf D (F :: G :: K) with fs := G :: K } : Bd).begin G.node F.lasts = (bdOf D.nx (G :: K)).begin G.node F.lasts := rfl
  rw [this, e1]
  rfl
theorem s_leave_full {G : Fr} (h : l[D.pos]? = some m) (hk : m.k = 8) (hf : fitsB F m = true) (hl : D.preds.length = 1000) : EndsAt l D (F :: G :: K) (D.nx.begin G.node F.lasts).2 := by
  obtain ⟨e1, e2⟩ := begin_no (D := D.nx) hl G.node F.lasts (G :: K)
  refine ends_full h (by omega) hf ?_ (by rw [e2])
  unfold stepF
  rw [if_neg (by omega), if_neg (by omega), if_neg (by omega), if_neg (by omega), if_neg (by omega), if_neg (by omega), if_neg (by omega), if_pos hk]
  exact e1
theorem s_go {G : Fr} (h : l[D.pos]? = some m) (hk : m.k = 11 ∨ m.k = 12) (hF : F.kind = 2) (hs : F.sg < m.a) (hl : D.preds.length ≠ 1000) : Rn l D (F :: G :: K) = Rn l (D.nx.begin (F.lp, F.it, m.a) (goPreds F G m)).2 ({ goFr F m with now := (D.nx.begin (F.lp, F.it, m.a) (goPreds F G m)).1 } :: G :: K) := by
  obtain ⟨e1, _, _, e4⟩ := begin_ok (D := D.nx) hl (F.lp, F.it, m.a) (goPreds F G m) (goFr F m :: G :: K)
  refine rn_step h (by omega) (by unfold fitsB; rcases hk with k | k <;> simp [k, hF, hs]) ?_ e4
  unfold stepF
  rw [if_neg (by omega), if_neg (by omega), if_neg (by omega), if_neg (by omega), if_neg (by omega), if_pos hk]
  simp only [onUp]
  unfold goOnB
  have : ({ bdOf D (F :: G :: K) with fs := goFr F m :: G :: K } : Bd).begin (F.lp, F.it, m.a) (goPreds F G m) = (bdOf D.nx (goFr F m :: G :: K)).begin (F.lp, F.it, m.a) (goPreds F G m) := rfl
  rw [this, e1]
  rfl
theorem s_go_full {G : Fr} (h : l[D.pos]? = some m) (hk : m.k = 11 ∨ m.k = 12) (hF : F.kind = 2) (hs : F.sg < m.a) (hl : D.preds.length = 1000) : EndsAt l D (F :: G :: K) (D.nx.begin (F.lp, F.it, m.a) (goPreds F G m)).2 := by
  obtain ⟨e1, e2⟩ := begin_no (D := D.nx) hl (F.lp, F.it, m.a) (goPreds F G m) (goFr F m :: G :: K)
  refine ends_full h (by omega) (by unfold fitsB; rcases hk with k | k <;> simp [k, hF, hs]) ?_ (by rw [e2])
  unfold stepF
  rw [if_neg (by omega), if_neg (by omega), if_neg (by omega), if_neg (by omega), if_neg (by omega), if_pos hk]
  exact e1
theorem s_iter (h : l[D.pos]? = some m) (hk : m.k = 9) (hF : F.kind = 3) (ha : m.a = F.cnt) (hl : D.preds.length ≠ 1000) : Rn l D (F :: K) = Rn l (D.nx.begin (F.ser, F.cnt, 0) [if 0 < F.cnt then (F.ahead.headD (0, 0)).2 else F.now]).2
    (iterFr F (D.nx.begin (F.ser, F.cnt, 0) [if 0 < F.cnt then (F.ahead.headD (0, 0)).2 else F.now]).1 :: { F with cnt := F.cnt + 1 } :: K) := by
  obtain ⟨e1, _, _, e4⟩ := begin_ok (D := D.nx) hl (F.ser, F.cnt, 0) [if 0 < F.cnt then (F.ahead.headD (0, 0)).2 else F.now] ({ F with cnt := F.cnt + 1 } :: K)
  refine rn_step h (by omega) (by unfold fitsB; simp [hk, hF, ha]) ?_ e4
  unfold stepF
  rw [if_neg (by omega), if_neg (by omega), if_neg (by omega), if_neg (by omega), if_pos hk]
  unfold iterB
  have : ({ bdOf D (F :: K) with fs := { F with cnt := F.cnt + 1 } :: K } : Bd).begin (F.ser, F.cnt, 0) [if 0 < F.cnt then (F.ahead.headD (0, 0)).2 else F.now] = (bdOf D.nx ({ F with cnt := F.cnt + 1 } :: K)).begin (F.ser, F.cnt, 0) [if 0 < F.cnt then (F.ahead.headD (0, 0)).2 else F.now] := rfl
  rw [this, e1]
  rfl
theorem s_iter_full (h : l[D.pos]? = some m) (hk : m.k = 9) (hF : F.kind = 3) (ha : m.a = F.cnt) (hl : D.preds.length = 1000) : EndsAt l D (F :: K) (D.nx.begin (F.ser, F.cnt, 0) [if 0 < F.cnt then (F.ahead.headD (0, 0)).2 else F.now]).2 := by
  obtain ⟨e1, e2⟩ := begin_no (D := D.nx) hl (F.ser, F.cnt, 0) [if 0 < F.cnt then (F.ahead.headD (0, 0)).2 else F.now] ({ F with cnt := F.cnt + 1 } :: K)
  refine ends_full h (by omega) (by unfold fitsB; simp [hk, hF, ha]) ?_ (by rw [e2])
  unfold stepF
  rw [if_neg (by omega), if_neg (by omega), if_neg (by omega), if_neg (by omega), if_pos hk]
  exact e1
theorem s_done {G : Fr} (h : l[D.pos]? = some m) (hk : m.k = 10) (hF : F.kind = 2) (ha : m.a = F.it) : Rn l D (F :: G :: K) = Rn l D.nx ({ G with ahead := F.row ++ [(F.sg, F.now)], lasts := G.lasts ++ [F.now] } :: K) := by
  refine rn_step h (by omega) (by unfold fitsB; simp [hk, hF, ha]) ?_ rfl
  unfold stepF
  rw [if_neg (by omega), if_neg (by omega), if_neg (by omega), if_neg (by omega), if_neg (by omega), if_neg (by omega), if_pos hk]
  rfl
end
end Go.Proofs.Ytilofhocodbknaa
