/- The builder of strands, as a plain machine: what its states are like. -/
import Derived.Test.YtilofhocodbknaaSti
namespace Go.Proofs.Ytilofhocodbknaa
set_option linter.unusedVariables false
set_option linter.unusedSimpArgs false
open Go Go.Kx Go.Proofs

def lk (F G : Fr) : Prop := (F.kind = 2 ∧ F.child = false ∧ G.kind = 3) ∨ (F.kind = 1 ∧ F.child = true ∧ G.kind ≠ 3) ∨ (F.kind = 3 ∧ F.child = false ∧ G.kind ≠ 3)
def WF : List Fr → Prop
  | [] => False
  | [F] => F.kind = 1 ∧ F.child = false
  | F :: G :: fs => lk F G ∧ WF (G :: fs)
theorem WF.top {F F' : Fr} {fs : List Fr} (h : WF (F :: fs)) (h1 : F'.kind = F.kind) (h2 : F'.child = F.child) : WF (F' :: fs) := by
  cases fs with
  | nil => exact ⟨h1.trans h.1, h2.trans h.2⟩
  | cons G fs => exact ⟨by have := h.1; unfold lk at this ⊢; rw [h1, h2]; exact this, h.2⟩
theorem WF.up {F G : Fr} {fs : List Fr} (h : WF (F :: G :: fs)) : WF (G :: fs) := h.2
theorem WF.cons {F G : Fr} {fs : List Fr} (h : WF (G :: fs)) (hl : lk F G) : WF (F :: G :: fs) := ⟨hl, h⟩
def FrN (F : Fr) (n : Nat) : Prop := F.left.length ≤ n ∧ F.row.length ≤ n ∧ F.ahead.length ≤ n ∧ F.lasts.length ≤ n ∧ F.cnt ≤ n
structure FsOk (fs : List Fr) (n : Nat) : Prop where
  len : fs.length ≤ n + 1
  s : ∀ F ∈ fs, FrN F n
  wf : WF fs
  top : ∀ F gs, fs = F :: gs → F.kind = 3 → 0 < F.cnt → F.ahead ≠ []
structure CoreOk (B : Bd) (n : Nat) : Prop where
  p : B.preds.length ≤ 1000
  q : B.nodes.length = B.preds.length
  a : B.accs.length ≤ n
structure InvB (B : Bd) (n : Nat) : Prop where
  c : CoreOk B n
  f : FsOk B.fs n
theorem FrN.mono {F : Fr} {n m : Nat} (h : FrN F n) (hm : n ≤ m) : FrN F m := by unfold FrN at *; omega
theorem InvB.bnd {B : Bd} {n : Nat} (h : InvB B n) (hn : n ≤ 9000) : Bnd B :=
  ⟨h.c.p, h.c.q, by have := h.c.a; omega, by have := h.f.len; omega, fun F hF => by have := h.f.s F hF; unfold FrN at this; omega⟩
theorem CoreOk.begin {B : Bd} {n k : Nat} (h : CoreOk B n) (hk : n ≤ k) (nd : Nd) (ps : List Int) : CoreOk (B.begin nd ps).2 k := by
  obtain ⟨h1, h2, h3⟩ := h
  unfold Bd.begin
  split
  · exact ⟨h1, h2, by simp only; omega⟩
  · exact ⟨by simp only [List.length_append, List.length_singleton]; omega, by simp only [List.length_append, List.length_singleton]; omega, by simp only; omega⟩
theorem FsOk.set {F F' : Fr} {fs : List Fr} {n : Nat} (h : FsOk (F :: fs) n) (h1 : F'.kind = F.kind) (h2 : F'.child = F.child) (hn : FrN F' (n + 1)) (ht : F'.kind = 3 → 0 < F'.cnt → F'.ahead ≠ []) : FsOk (F' :: fs) (n + 1) :=
  ⟨by have := h.len; simp only [List.length_cons] at this ⊢; omega, fun G hG => by
    rcases List.mem_cons.1 hG with rfl | hG
    · exact hn
    · exact (h.s G (by simp [hG])).mono (by omega), h.wf.top h1 h2, fun G gs e => by cases e; exact ht⟩
theorem FsOk.pop {F G G' : Fr} {fs : List Fr} {n : Nat} (h : FsOk (F :: G :: fs) n) (h1 : G'.kind = G.kind) (h2 : G'.child = G.child) (hn : FrN G' (n + 1)) (ht : G'.kind = 3 → 0 < G'.cnt → G'.ahead ≠ []) : FsOk (G' :: fs) (n + 1) :=
  ⟨by have := h.len; simp only [List.length_cons] at this ⊢; omega, fun K hK => by
    rcases List.mem_cons.1 hK with rfl | hK
    · exact hn
    · exact (h.s K (by simp [hK])).mono (by omega), h.wf.up.top h1 h2, fun K gs e => by cases e; exact ht⟩
theorem FsOk.push {F F' N : Fr} {fs : List Fr} {n : Nat} (h : FsOk (F :: fs) n) (h1 : F'.kind = F.kind) (h2 : F'.child = F.child) (hn : FrN F' (n + 1)) (hl : lk N F') (hN : FrN N (n + 1)) (hc : N.cnt = 0) : FsOk (N :: F' :: fs) (n + 1) :=
  ⟨by have := h.len; simp only [List.length_cons] at this ⊢; omega, fun K hK => by
    rcases List.mem_cons.1 hK with rfl | hK
    · exact hN
    · rcases List.mem_cons.1 hK with rfl | hK
      · exact hn
      · exact (h.s K (by simp [hK])).mono (by omega), (h.wf.top h1 h2).cons hl, fun K gs e => by cases e; intro _ hp; omega⟩
theorem fits_up {B : Bd} {n : Nat} {F : Fr} {fs : List Fr} {m : Mk} (h : InvB B n) (hB : B.fs = F :: fs) (hf : fitsB F m = true) (hk : m.k = 5 ∨ m.k = 8 ∨ m.k = 10 ∨ m.k = 11 ∨ m.k = 12) : fs ≠ [] := by
  rintro rfl
  have hw := h.f.wf
  rw [hB] at hw
  obtain ⟨h1, h2⟩ := hw
  unfold fitsB at hf
  rcases hk with k | k | k | k | k <;> simp [k, h1, h2] at hf
theorem inv_step {B : Bd} {n : Nat} {F : Fr} {fs : List Fr} {m : Mk} (h : InvB B n) (hB : B.fs = F :: fs) (hf : fitsB F m = true) : InvB (stepF B m F fs) (n + 1) := by
  have hup := fits_up h hB hf
  obtain ⟨hc, hfs⟩ := h
  rw [hB] at hfs
  have hFN := hfs.s F (by simp)
  have hFN' := hFN
  unfold FrN at hFN'
  unfold fitsB at hf
  unfold stepF
  have core : ∀ fs', CoreOk { B with fs := fs' } n := fun fs' => ⟨hc.p, hc.q, hc.a⟩
  by_cases k4 : m.k = 4
  · rw [if_pos k4]
    simp [k4] at hf
    refine ⟨?_, ?_⟩
    · have := hc.begin (k := n + 1) (by omega) (0, 0, 0) [F.now]
      exact ⟨this.p, this.q, this.a⟩
    · unfold forkB
      simp only [begin_fs, hB]
      exact hfs.push rfl rfl (hFN.mono (by omega)) (.inr (.inl ⟨rfl, rfl, hf⟩)) (by simp [FrN, taskFr]) rfl
  rw [if_neg k4]
  by_cases k5 : m.k = 5
  · rw [if_pos k5]
    simp [k5] at hf
    cases hg : fs with
    | nil => exact absurd hg (hup (.inl k5))
    | cons G gs =>
      subst hg
      have hGN := hfs.s G (by simp)
      have hlk := hfs.wf.1
      have hG3 : G.kind ≠ 3 := by unfold lk at hlk; rw [hf] at hlk; simp at hlk; exact hlk.2
      refine ⟨?_, ?_⟩
      · have := (core ({ G with left := G.left ++ [F.now] } :: gs)).begin (k := n + 1) (by omega) G.node [G.now]
        exact ⟨this.p, this.q, this.a⟩
      · unfold onUp retB
        refine hfs.pop rfl rfl ?_ (fun e => absurd e hG3)
        unfold FrN at hGN ⊢
        simp only [List.length_append, List.length_singleton]
        omega
  rw [if_neg k5]
  by_cases k6 : m.k = 6
  · rw [if_pos k6]
    simp [k6] at hf
    refine ⟨?_, ?_⟩
    · have := hc.begin (k := n + 1) (by omega) F.node (F.now :: F.left)
      exact ⟨this.p, this.q, this.a⟩
    · unfold meetB
      refine hfs.set rfl rfl ?_ (fun e => absurd e hf)
      unfold FrN
      simp only [List.length_nil]
      omega
  rw [if_neg k6]
  by_cases k7 : m.k = 7
  · rw [if_pos k7]
    simp [k7] at hf
    refine ⟨⟨hc.p, hc.q, by have := hc.a; unfold loopB; simp only; omega⟩, ?_⟩
    unfold loopB
    rw [hB]
    exact hfs.push rfl rfl (hFN.mono (by omega)) (.inr (.inr ⟨rfl, rfl, hf⟩)) (by simp [FrN, loopFr]) rfl
  rw [if_neg k7]
  by_cases k9 : m.k = 9
  · rw [if_pos k9]
    simp [k9] at hf
    refine ⟨?_, ?_⟩
    · have := (core ({ F with cnt := F.cnt + 1 } :: fs)).begin (k := n + 1) (by omega) (F.ser, F.cnt, 0) [if 0 < F.cnt then (F.ahead.headD (0, 0)).2 else F.now]
      exact ⟨this.p, this.q, this.a⟩
    · unfold iterB
      refine hfs.push rfl rfl ?_ (.inl ⟨rfl, rfl, hf.1⟩) (by simp [FrN, iterFr]) rfl
      unfold FrN
      simp only
      omega
  rw [if_neg k9]
  by_cases k11 : m.k = 11 ∨ m.k = 12
  · rw [if_pos k11]
    have hk : F.kind = 2 := by rcases k11 with k | k <;> (simp [k] at hf; exact hf.1)
    cases hg : fs with
    | nil => exact absurd hg (hup (by rcases k11 with k | k <;> simp [k]))
    | cons G gs =>
      subst hg
      refine ⟨?_, ?_⟩
      · have := (core (goFr F m :: G :: gs)).begin (k := n + 1) (by omega) (F.lp, F.it, m.a) (goPreds F G m)
        exact ⟨this.p, this.q, this.a⟩
      · unfold onUp goOnB
        refine hfs.set rfl rfl ?_ (fun e => by rw [show F.kind = _ from e] at hk; omega)
        unfold FrN goFr
        simp only [List.length_append, List.length_singleton]
        omega
  rw [if_neg k11]
  have k11a : ¬ m.k = 11 := fun h => k11 (.inl h)
  have k12a : ¬ m.k = 12 := fun h => k11 (.inr h)
  by_cases k10 : m.k = 10
  · rw [if_pos k10]
    simp [k10] at hf
    cases hg : fs with
    | nil => exact absurd hg (hup (by simp [k10]))
    | cons G gs =>
      subst hg
      have hGN := hfs.s G (by simp)
      refine ⟨⟨hc.p, hc.q, by have := hc.a; unfold onUp doneB; simp only; omega⟩, ?_⟩
      unfold onUp doneB
      refine hfs.pop rfl rfl ?_ (fun _ _ => by simp)
      unfold FrN at hGN ⊢
      simp only [List.length_append, List.length_singleton]
      omega
  rw [if_neg k10]
  by_cases k8 : m.k = 8
  · rw [if_pos k8]
    simp [k8] at hf
    cases hg : fs with
    | nil => exact absurd hg (hup (by simp [k8]))
    | cons G gs =>
      subst hg
      have hGN := hfs.s G (by simp)
      have hlk := hfs.wf.1
      have hG3 : G.kind ≠ 3 := by unfold lk at hlk; rw [hf.1.1] at hlk; simp at hlk; exact hlk.2
      refine ⟨?_, ?_⟩
      · have := (core (G :: gs)).begin (k := n + 1) (by omega) G.node F.lasts
        exact ⟨this.p, this.q, this.a⟩
      · unfold onUp leaveB
        refine hfs.pop rfl rfl ?_ (fun e => absurd e hG3)
        exact hGN.mono (by omega)
  rw [if_neg k8]
  simp [k9, k8, k5, k10, k11a, k12a] at hf
  refine ⟨⟨hc.p, hc.q, by have := hc.a; simp only [List.length_append, List.length_singleton]; omega⟩, ?_⟩
  simp only [hB]
  exact hfs.set rfl rfl (hFN.mono (by omega)) (fun e => absurd e hf)
/-- Mark after mark. -/
def runB : Bd → List Mk → Int × Bd
  | B, [] => (0, B)
  | B, m :: l =>
    if m.k < 1 ∨ 12 < m.k then (5, B)
    else match B.fs with
      | F :: fs => if fitsB F m = true then (if (stepF B m F fs).full = true then (9, B) else runB (stepF B m F fs) l) else (4, B)
      | [] => (4, B)
def bd0 : Bd := ⟨[[]], [(0, 0, 0)], [], [⟨1, false, 0, [], 0, 0, 0, [], 0, 0, [], []⟩], false⟩
theorem inv0 : InvB bd0 0 := ⟨⟨by decide, rfl, by decide⟩, ⟨by decide, fun F hF => by simp [bd0] at hF; subst hF; simp [FrN], ⟨rfl, rfl⟩, fun F gs e => by simp [bd0] at e; obtain ⟨rfl, _⟩ := e; simp⟩⟩
end Go.Proofs.Ytilofhocodbknaa
