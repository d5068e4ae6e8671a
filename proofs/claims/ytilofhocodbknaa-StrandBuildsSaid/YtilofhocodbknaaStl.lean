/- The builder of strands, as a plain machine: predecessors lie ahead; as many strands as marks that part them. -/
import Derived.Test.YtilofhocodbknaaStj
namespace Go.Proofs.Ytilofhocodbknaa
set_option linter.unusedVariables false
set_option linter.unusedSimpArgs false
open Go Go.Kx Go.Proofs

def Rg (n : Nat) (x : Int) : Prop := 0 ≤ x ∧ x < n
theorem Rg.mono {n m : Nat} {x : Int} (h : Rg n x) (hm : n ≤ m) : Rg m x := ⟨h.1, by have := h.2; omega⟩
def FrR (n : Nat) (F : Fr) : Prop := Rg n F.now ∧ (∀ x ∈ F.left, Rg n x) ∧ (∀ e ∈ F.row, Rg n e.2) ∧ (∀ e ∈ F.ahead, Rg n e.2) ∧ (∀ x ∈ F.lasts, Rg n x)
theorem FrR.mono {n m : Nat} {F : Fr} (h : FrR n F) (hm : n ≤ m) : FrR m F :=
  ⟨h.1.mono hm, fun x hx => (h.2.1 x hx).mono hm, fun e he => (h.2.2.1 e he).mono hm, fun e he => (h.2.2.2.1 e he).mono hm, fun x hx => (h.2.2.2.2 x hx).mono hm⟩
structure PC (B : Bd) : Prop where
  ne : 0 < B.preds.length
  pr : ∀ (i : Nat) (ps : List Int), B.preds[i]? = some ps → (ps = [] ↔ i = 0) ∧ ∀ p ∈ ps, Rg i p
  ac : ∀ a ∈ B.accs, Rg B.preds.length a.st
structure PI (B : Bd) : Prop where
  c : PC B
  fr : ∀ F ∈ B.fs, FrR B.preds.length F
  tp : ∀ F gs, B.fs = F :: gs → F.kind = 3 → 0 < F.cnt → F.lasts ≠ []
theorem PC.begin {B : Bd} (h : PC B) (nd : Nd) {ps : List Int} (hne : ps ≠ []) (hps : ∀ p ∈ ps, Rg B.preds.length p) :
    PC (B.begin nd ps).2 ∧ Rg (B.begin nd ps).2.preds.length (B.begin nd ps).1 ∧ B.preds.length ≤ (B.begin nd ps).2.preds.length ∧ ((B.begin nd ps).2.full = false → (B.begin nd ps).2.preds.length = B.preds.length + 1) ∧ (B.begin nd ps).2.accs = B.accs := by
  unfold Bd.begin
  split
  · rename_i h1000
    exact ⟨⟨h.ne, h.pr, h.ac⟩, ⟨Int.le_refl 0, by have := h.ne; simp only; omega⟩, Nat.le_refl _, fun e => by simp at e, rfl⟩
  · have hl : (B.preds ++ [ps]).length = B.preds.length + 1 := by simp
    refine ⟨⟨by simp, fun i qs hq => ?_, fun a ha => by simp only [hl]; exact (h.ac a ha).mono (by omega)⟩, ⟨by simp only; omega, by simp only [hl]; omega⟩, by simp only [hl]; omega, fun _ => hl, rfl⟩
    simp only at hq
    by_cases hi : i < B.preds.length
    · rw [List.getElem?_append_left hi] at hq
      exact h.pr i qs hq
    · rw [List.getElem?_append_right (by omega)] at hq
      have hi0 : i - B.preds.length = 0 := by
        rcases Nat.eq_zero_or_pos (i - B.preds.length) with e | e
        · exact e
        · obtain ⟨k, hk⟩ : ∃ k, i - B.preds.length = k + 1 := ⟨i - B.preds.length - 1, by omega⟩
          rw [hk] at hq; simp at hq
      rw [hi0] at hq
      simp at hq
      subst hq
      have : i = B.preds.length := by omega
      subst this
      have := h.ne
      exact ⟨⟨fun e => absurd e hne, fun e => by omega⟩, hps⟩
theorem lastA_R {n : Nat} (hn : 0 < n) {l : List (Int × Int)} (h : ∀ e ∈ l, Rg n e.2) (s : Int) : Rg n (lastA l s) := by
  induction l using snoc_ind with
  | h0 => exact ⟨by simp [lastA], by simp [lastA]; omega⟩
  | hs l e ih =>
    rw [lastA_snoc]
    split
    · exact h e (by simp)
    · exact ih fun x hx => h x (by simp [hx])
/-- Does it part strands? -/
def partM (m : Mk) : Nat := if m.k = 4 ∨ m.k = 5 ∨ m.k = 6 ∨ m.k = 9 ∨ m.k = 11 ∨ m.k = 12 ∨ m.k = 8 then 1 else 0
def wordM (m : Mk) : List Int := if m.k = 1 ∨ m.k = 2 then [m.a] else if m.k = 3 then [-1] else []
theorem PI.of {B' B'' : Bd} {fs : List Fr} (hc : PC B'') (hp : B''.preds = B'.preds) (hf : ∀ F ∈ fs, FrR B''.preds.length F) (ht : ∀ F gs, fs = F :: gs → F.kind = 3 → 0 < F.cnt → F.lasts ≠ []) : PI { B'' with fs := fs } :=
  ⟨⟨hc.ne, hc.pr, hc.ac⟩, hf, ht⟩
theorem pi_step {B : Bd} {n : Nat} {F : Fr} {fs : List Fr} {m : Mk} (hi : InvB B n) (h : PI B) (hB : B.fs = F :: fs) (hf : fitsB F m = true) (hk : 1 ≤ m.k ∧ m.k ≤ 12) (hfu : (stepF B m F fs).full = false) :
    PI (stepF B m F fs) ∧ (stepF B m F fs).preds.length = B.preds.length + partM m ∧ (stepF B m F fs).accs.map Ac.wd = B.accs.map Ac.wd ++ wordM m := by
  have hup := fits_up hi hB hf
  obtain ⟨hc, hfr, htp⟩ := h
  rw [hB] at hfr
  have hF := hfr F (by simp)
  have hFs : ∀ G ∈ fs, FrR B.preds.length G := fun G hG => hfr G (by simp [hG])
  have hw := hi.f.wf
  rw [hB] at hw
  have core : ∀ fs', PC { B with fs := fs' } := fun fs' => ⟨hc.ne, hc.pr, hc.ac⟩
  obtain ⟨hnow, hleft, hrow, hahead, hlasts⟩ := hF
  unfold fitsB at hf
  unfold stepF at hfu ⊢
  by_cases k4 : m.k = 4
  · rw [if_pos k4] at hfu ⊢
    simp [k4] at hf
    obtain ⟨b1, b2, b3, b4, b5⟩ := hc.begin (0, 0, 0) (ps := [F.now]) (by simp) (by simp; exact hnow)
    unfold forkB at hfu ⊢
    generalize hr : B.begin (0, 0, 0) [F.now] = r at *
    have hrf : r.2.fs = F :: fs := by rw [← hr, begin_fs, hB]
    refine ⟨⟨⟨b1.ne, b1.pr, b1.ac⟩, ?_, ?_⟩, by simp only [partM, k4, true_or, if_true]; exact b4 hfu, by simp only [b5]; simp [wordM, k4]⟩
    · simp only [hrf]
      intro G hG
      rcases List.mem_cons.1 hG with rfl | hG
      · exact ⟨b2, by simp [taskFr], by simp [taskFr], by simp [taskFr], by simp [taskFr]⟩
      · exact (hfr G hG).mono b3
    · intro G gs e
      simp only [List.cons.injEq] at e
      obtain ⟨rfl, _⟩ := e
      simp [taskFr]
  rw [if_neg k4] at hfu ⊢
  by_cases k5 : m.k = 5
  · rw [if_pos k5] at hfu ⊢
    simp [k5] at hf
    cases hg : fs with
    | nil => exact absurd hg (hup (.inl k5))
    | cons G gs =>
      subst hg
      have hG := hFs G (by simp)
      have hlk := hw.1
      have hG3 : G.kind ≠ 3 := by unfold lk at hlk; rw [hf] at hlk; simp at hlk; exact hlk.2
      obtain ⟨b1, b2, b3, b4, b5⟩ := (core ({ G with left := G.left ++ [F.now] } :: gs)).begin G.node (ps := [G.now]) (by simp) (by simp; exact hG.1)
      simp only [onUp] at hfu ⊢
      unfold retB at hfu ⊢
      generalize hr : ({ B with fs := { G with left := G.left ++ [F.now] } :: gs } : Bd).begin G.node [G.now] = r at *
      refine ⟨⟨⟨b1.ne, b1.pr, b1.ac⟩, ?_, ?_⟩, by simp only [partM, k5]; simp only [or_true, true_or, if_true]; exact b4 hfu, by simp only [b5]; simp [wordM, k5]⟩
      · intro K hK
        rcases List.mem_cons.1 hK with rfl | hK
        · have hG' := hG.mono b3
          refine ⟨b2, fun x hx => ?_, hG'.2.2.1, hG'.2.2.2.1, hG'.2.2.2.2⟩
          rcases List.mem_append.1 hx with hx | hx
          · exact hG'.2.1 x hx
          · simp at hx; subst hx; exact hnow.mono b3
        · exact (hFs K (by simp [hK])).mono b3
      · intro K ks e
        simp only [List.cons.injEq] at e
        obtain ⟨rfl, _⟩ := e
        exact fun e => absurd e hG3
  rw [if_neg k5] at hfu ⊢
  by_cases k6 : m.k = 6
  · rw [if_pos k6] at hfu ⊢
    simp [k6] at hf
    obtain ⟨b1, b2, b3, b4, b5⟩ := hc.begin F.node (ps := F.now :: F.left) (by simp) (fun p hp => by
      rcases List.mem_cons.1 hp with rfl | hp
      · exact hnow
      · exact hleft p hp)
    unfold meetB at hfu ⊢
    generalize hr : B.begin F.node (F.now :: F.left) = r at *
    refine ⟨⟨⟨b1.ne, b1.pr, b1.ac⟩, ?_, ?_⟩, by simp only [partM, k6]; simp only [or_true, true_or, if_true]; exact b4 hfu, by simp only [b5]; simp [wordM, k6]⟩
    · intro K hK
      rcases List.mem_cons.1 hK with rfl | hK
      · exact ⟨b2, by simp, fun e he => (hrow e he).mono b3, fun e he => (hahead e he).mono b3, fun x hx => (hlasts x hx).mono b3⟩
      · exact (hFs K hK).mono b3
    · intro K ks e
      simp only [List.cons.injEq] at e
      obtain ⟨rfl, _⟩ := e
      exact fun e => absurd e hf
  rw [if_neg k6] at hfu ⊢
  by_cases k7 : m.k = 7
  · rw [if_pos k7] at hfu ⊢
    unfold loopB
    refine ⟨⟨⟨hc.ne, hc.pr, hc.ac⟩, ?_, ?_⟩, by simp [partM, k7], by simp [wordM, k7]⟩
    · simp only [hB]
      intro K hK
      rcases List.mem_cons.1 hK with rfl | hK
      · exact ⟨hnow, by simp [loopFr], by simp [loopFr], by simp [loopFr], by simp [loopFr]⟩
      · exact hfr K hK
    · intro K ks e
      simp only [List.cons.injEq] at e
      obtain ⟨rfl, _⟩ := e
      simp [loopFr]
  rw [if_neg k7] at hfu ⊢
  by_cases k9 : m.k = 9
  · rw [if_pos k9] at hfu ⊢
    have hpred : Rg B.preds.length (if 0 < F.cnt then (F.ahead.headD (0, 0)).2 else F.now) := by
      split
      · cases hah : F.ahead with
        | nil => exact ⟨by simp, by simp; exact hc.ne⟩
        | cons e l => exact hahead e (by rw [hah]; simp)
      · exact hnow
    obtain ⟨b1, b2, b3, b4, b5⟩ := (core ({ F with cnt := F.cnt + 1 } :: fs)).begin (F.ser, F.cnt, 0) (ps := [if 0 < F.cnt then (F.ahead.headD (0, 0)).2 else F.now]) (by simp) (fun p hp => by
      rw [List.mem_singleton] at hp; rw [hp]; exact hpred)
    unfold iterB at hfu ⊢
    generalize hr : ({ B with fs := { F with cnt := F.cnt + 1 } :: fs } : Bd).begin (F.ser, F.cnt, 0) [if 0 < F.cnt then (F.ahead.headD (0, 0)).2 else F.now] = r at *
    refine ⟨⟨⟨b1.ne, b1.pr, b1.ac⟩, ?_, ?_⟩, by simp only [partM, k9]; simp only [or_true, true_or, if_true]; exact b4 hfu, by simp only [b5]; simp [wordM, k9]⟩
    · intro K hK
      rcases List.mem_cons.1 hK with rfl | hK
      · exact ⟨b2, by simp [iterFr], by simp [iterFr], by simp [iterFr], by simp [iterFr]⟩
      · rcases List.mem_cons.1 hK with rfl | hK
        · exact ⟨hnow.mono b3, fun x hx => (hleft x hx).mono b3, fun e he => (hrow e he).mono b3, fun e he => (hahead e he).mono b3, fun x hx => (hlasts x hx).mono b3⟩
        · exact (hFs K hK).mono b3
    · intro K ks e
      simp only [List.cons.injEq] at e
      obtain ⟨rfl, _⟩ := e
      simp [iterFr]
  rw [if_neg k9] at hfu ⊢
  by_cases k11 : m.k = 11 ∨ m.k = 12
  · rw [if_pos k11] at hfu ⊢
    have hk2 : F.kind = 2 := by rcases k11 with k | k <;> (simp [k] at hf; exact hf.1)
    have hpm : partM m = 1 := by rcases k11 with k | k <;> simp [partM, k]
    have hwm : wordM m = [] := by rcases k11 with k | k <;> simp [wordM, k]
    rw [hpm, hwm]
    cases hg : fs with
    | nil => exact absurd hg (hup (by rcases k11 with k | k <;> simp [k]))
    | cons G gs =>
      subst hg
      have hG := hFs G (by simp)
      have hps : ∀ p ∈ goPreds F G m, Rg B.preds.length p := by
        intro p hp
        unfold goPreds at hp
        split at hp
        · simp at hp
          rcases hp with rfl | rfl
          · exact hnow
          · exact lastA_R hc.ne hG.2.2.2.1 _
        · simp at hp; subst hp; exact hnow
      obtain ⟨b1, b2, b3, b4, b5⟩ := (core (goFr F m :: G :: gs)).begin (F.lp, F.it, m.a) (ps := goPreds F G m) (by unfold goPreds; split <;> simp) hps
      simp only [onUp] at hfu ⊢
      unfold goOnB at hfu ⊢
      generalize hr : ({ B with fs := goFr F m :: G :: gs } : Bd).begin (F.lp, F.it, m.a) (goPreds F G m) = r at *
      refine ⟨⟨⟨b1.ne, b1.pr, b1.ac⟩, ?_, ?_⟩, b4 hfu, by simp only [b5]; simp⟩
      · intro K hK
        rcases List.mem_cons.1 hK with rfl | hK
        · refine ⟨b2, fun x hx => (hleft x hx).mono b3, fun e he => ?_, fun e he => (hahead e he).mono b3, fun x hx => (hlasts x hx).mono b3⟩
          simp only [goFr] at he
          rcases List.mem_append.1 he with he | he
          · exact (hrow e he).mono b3
          · simp at he; subst he; exact hnow.mono b3
        · exact (hFs K hK).mono b3
      · intro K ks e
        simp only [List.cons.injEq] at e
        obtain ⟨rfl, _⟩ := e
        intro e
        have : F.kind = 3 := e
        omega
  rw [if_neg k11] at hfu ⊢
  have k11a : ¬ m.k = 11 := fun h => k11 (.inl h)
  have k12a : ¬ m.k = 12 := fun h => k11 (.inr h)
  by_cases k10 : m.k = 10
  · rw [if_pos k10] at hfu ⊢
    cases hg : fs with
    | nil => exact absurd hg (hup (by simp [k10]))
    | cons G gs =>
      subst hg
      have hG := hFs G (by simp)
      simp only [onUp]
      unfold doneB
      refine ⟨⟨⟨hc.ne, hc.pr, hc.ac⟩, ?_, ?_⟩, by simp [partM, k10], by simp [wordM, k10]⟩
      · intro K hK
        rcases List.mem_cons.1 hK with rfl | hK
        · refine ⟨hG.1, hG.2.1, hG.2.2.1, fun e he => ?_, fun x hx => ?_⟩
          · rcases List.mem_append.1 he with he | he
            · exact hrow e he
            · simp at he; subst he; exact hnow
          · rcases List.mem_append.1 hx with hx | hx
            · exact hG.2.2.2.2 x hx
            · simp at hx; subst hx; exact hnow
        · exact hFs K (by simp [hK])
      · intro K ks e
        simp only [List.cons.injEq] at e
        obtain ⟨rfl, _⟩ := e
        intro _ _
        simp
  rw [if_neg k10] at hfu ⊢
  by_cases k8 : m.k = 8
  · rw [if_pos k8] at hfu ⊢
    simp [k8] at hf
    cases hg : fs with
    | nil => exact absurd hg (hup (by simp [k8]))
    | cons G gs =>
      subst hg
      have hG := hFs G (by simp)
      have hlk := hw.1
      have hG3 : G.kind ≠ 3 := by unfold lk at hlk; rw [hf.1.1] at hlk; simp at hlk; exact hlk.2
      obtain ⟨b1, b2, b3, b4, b5⟩ := (core (G :: gs)).begin G.node (ps := F.lasts) (htp F _ hB hf.1.1 hf.2) hlasts
      simp only [onUp] at hfu ⊢
      unfold leaveB at hfu ⊢
      generalize hr : ({ B with fs := G :: gs } : Bd).begin G.node F.lasts = r at *
      refine ⟨⟨⟨b1.ne, b1.pr, b1.ac⟩, ?_, ?_⟩, by simp only [partM, k8]; simp only [or_true, true_or, if_true]; exact b4 hfu, by simp only [b5]; simp [wordM, k8]⟩
      · intro K hK
        rcases List.mem_cons.1 hK with rfl | hK
        · have hG' := hG.mono b3
          exact ⟨b2, hG'.2.1, hG'.2.2.1, hG'.2.2.2.1, hG'.2.2.2.2⟩
        · exact (hFs K (by simp [hK])).mono b3
      · intro K ks e
        simp only [List.cons.injEq] at e
        obtain ⟨rfl, _⟩ := e
        exact fun e => absurd e hG3
  rw [if_neg k8] at hfu ⊢
  have hk3 : m.k = 1 ∨ m.k = 2 ∨ m.k = 3 := by omega
  refine ⟨⟨⟨hc.ne, hc.pr, fun a ha => ?_⟩, by simp only [hB]; exact hfr, fun K ks e => htp K ks e⟩, by rcases hk3 with k | k | k <;> simp [partM, k], ?_⟩
  · rcases List.mem_append.1 ha with ha | ha
    · exact hc.ac a ha
    · simp at ha; subst ha; exact hnow
  · rw [List.map_append]
    congr 1
    rcases hk3 with k | k | k <;> simp [wordM, accOf, k]
theorem pi_run : ∀ (l : List Mk) {B D : Bd} {n : Nat}, InvB B n → PI B → runB B l = (0, D) → PI D ∧ D.nodes.length = D.preds.length ∧ D.preds.length = B.preds.length + (l.map partM).sum ∧ D.accs.map Ac.wd = B.accs.map Ac.wd ++ l.flatMap wordM := by
  intro l
  induction l with
  | nil =>
    intro B D n hi h hr
    simp only [runB, Prod.mk.injEq, true_and] at hr
    subst hr
    exact ⟨h, hi.c.q, by simp, by simp⟩
  | cons m l ih =>
    intro B D n hi h hr
    simp only [runB] at hr
    split at hr
    · simp at hr
    · rename_i hk
      cases hB : B.fs with
      | nil => rw [hB] at hr; simp at hr
      | cons F fs =>
        rw [hB] at hr
        simp only at hr
        split at hr
        · rename_i hf
          split at hr
          · simp at hr
          · rename_i hfu
            have hfu : (stepF B m F fs).full = false := by simpa using hfu
            obtain ⟨h1, h2, h3⟩ := pi_step hi h hB hf (by omega) hfu
            obtain ⟨g1, g2, g3, g4⟩ := ih (inv_step hi hB hf) h1 hr
            exact ⟨g1, g2, by rw [g3, h2, List.map_cons, List.sum_cons]; omega, by rw [g4, h3, List.flatMap_cons, List.append_assoc]⟩
        · simp at hr
theorem pi0 : PI bd0 := ⟨⟨by decide, fun i ps h => by
  cases i with
  | zero => simp [bd0] at h; subst h; simp
  | succ i => simp [bd0] at h, by simp [bd0]⟩, fun F hF => by simp [bd0] at hF; subst hF; exact ⟨⟨by decide, by decide⟩, by simp, by simp, by simp, by simp⟩, fun F gs e => by simp [bd0] at e; obtain ⟨rfl, _⟩ := e; simp⟩

/-! ### How long a strand's predecessors are -/
theorem pl_begin {B : Bd} {k : Nat} (h : ∀ ps ∈ B.preds, ps.length ≤ k) (nd : Nd) {qs : List Int} (hq : qs.length ≤ k) : ∀ ps ∈ (B.begin nd qs).2.preds, ps.length ≤ k := by
  intro ps hps
  unfold Bd.begin at hps
  split at hps
  · exact h ps hps
  · simp only at hps
    rcases List.mem_append.1 hps with hp | hp
    · exact h ps hp
    · simp at hp; subst hp; exact hq
theorem pl_step {B : Bd} {n : Nat} {F : Fr} {fs : List Fr} {m : Mk} (hi : InvB B n) (hB : B.fs = F :: fs) (h : ∀ ps ∈ B.preds, ps.length ≤ n + 1) : ∀ ps ∈ (stepF B m F fs).preds, ps.length ≤ n + 1 + 1 := by
  have hF := hi.f.s F (by rw [hB]; simp)
  unfold FrN at hF
  have h' : ∀ ps ∈ B.preds, ps.length ≤ n + 1 + 1 := fun ps hp => by have := h ps hp; omega
  unfold stepF
  by_cases k4 : m.k = 4
  · rw [if_pos k4]; exact pl_begin h' _ (by simp)
  rw [if_neg k4]
  by_cases k5 : m.k = 5
  · rw [if_pos k5]
    cases fs with
    | nil => exact h'
    | cons G gs => exact pl_begin (B := { B with fs := { G with left := G.left ++ [F.now] } :: gs }) h' _ (by simp)
  rw [if_neg k5]
  by_cases k6 : m.k = 6
  · rw [if_pos k6]; exact pl_begin h' _ (by simp; omega)
  rw [if_neg k6]
  by_cases k7 : m.k = 7
  · rw [if_pos k7]; exact h'
  rw [if_neg k7]
  by_cases k9 : m.k = 9
  · rw [if_pos k9]; exact pl_begin (B := { B with fs := { F with cnt := F.cnt + 1 } :: fs }) h' _ (by simp)
  rw [if_neg k9]
  by_cases k11 : m.k = 11 ∨ m.k = 12
  · rw [if_pos k11]
    cases fs with
    | nil => exact h'
    | cons G gs => exact pl_begin (B := { B with fs := goFr F m :: G :: gs }) h' _ (by unfold goPreds; split <;> simp)
  rw [if_neg k11]
  by_cases k10 : m.k = 10
  · rw [if_pos k10]
    cases fs with
    | nil => exact h'
    | cons G gs => exact h'
  rw [if_neg k10]
  by_cases k8 : m.k = 8
  · rw [if_pos k8]
    cases fs with
    | nil => exact h'
    | cons G gs => exact pl_begin (B := { B with fs := G :: gs }) h' _ (by omega)
  rw [if_neg k8]
  exact h'
theorem pl_run : ∀ (l : List Mk) {B D : Bd} {n : Nat}, InvB B n → (∀ ps ∈ B.preds, ps.length ≤ n + 1) → runB B l = (0, D) → (∀ ps ∈ D.preds, ps.length ≤ n + l.length + 1) ∧ InvB D (n + l.length) := by
  intro l
  induction l with
  | nil =>
    intro B D n hi h hr
    simp only [runB, Prod.mk.injEq, true_and] at hr
    subst hr
    exact ⟨h, hi⟩
  | cons m l ih =>
    intro B D n hi h hr
    simp only [runB] at hr
    split at hr
    · simp at hr
    · cases hB : B.fs with
      | nil => rw [hB] at hr; simp at hr
      | cons F fs =>
        rw [hB] at hr
        simp only at hr
        split at hr
        · rename_i hf
          split at hr
          · simp at hr
          · obtain ⟨g1, g2⟩ := ih (inv_step hi hB hf) (pl_step hi hB h) hr
            have e : n + 1 + l.length = n + (m :: l).length := by simp only [List.length_cons]; omega
            rw [e] at g1 g2
            exact ⟨g1, g2⟩
        · simp at hr
theorem pl0 : ∀ ps ∈ bd0.preds, ps.length ≤ 0 + 1 := by intro ps h; simp [bd0] at h; subst h; simp
end Go.Proofs.Ytilofhocodbknaa
