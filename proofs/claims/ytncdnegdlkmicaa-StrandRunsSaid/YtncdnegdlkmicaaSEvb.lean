/- What a program marks (plain): the strands' builder takes it, or there are too many strands. -/
import Derived.Test.YtncdnegdlkmicaaSEva
import Derived.Test.YtncdnegdlkmicaaSYc
namespace Go.Proofs.Ytncdnegdlkmicaa.Sr
set_option linter.unusedVariables false
set_option linter.unusedSimpArgs false
open Go Go.Kx Go.Proofs
open Go.Proofs.Ytncdnegdlkmicaa.St (Mk Fr Bd stepF fitsB runB bd0 InvB inv0 inv_step forkB retB meetB loopB leaveB onUp iterB goOnB doneB taskFr loopFr iterFr goFr accOf begin_fs)
def toMk (l : List (Int × Int)) : List Mk := l.map fun p => ⟨p.1, p.2, 0⟩
theorem run_snoc (m : Mk) : ∀ (l : List Mk) (B : Bd), runB B (l ++ [m]) = if (runB B l).1 = 0 then runB (runB B l).2 [m] else runB B l := by
 intro l
 induction l with
 | nil => intro B; show runB B [m] = if (0 : Int) = 0 then runB B [m] else _; rw [if_pos rfl]
 | cons x l ih =>
  intro B
  simp only [List.cons_append, runB]
  split
  ·simp
  ·split
   ·split
    ·split
     ·simp
     ·exact ih _
    ·simp
   ·simp
def sk (f : Sf) : Int × Int × Int × Int := (f.kind, f.index, f.stage, f.serial)
def fR (f : Sf) (root : Bool) (F : Fr) : Prop :=
 (f.kind = 1 ∧ F.kind = 1 ∧ F.child = !root) ∨ (f.kind = 2 ∧ F.kind = 2 ∧ F.it = f.index ∧ F.sg = f.stage) ∨ (f.kind = 3 ∧ F.kind = 3 ∧ F.ser = f.serial ∧ f.index = F.cnt)
def stR : List Sf → List Fr → Prop
 | [], [] => True
 | f :: r, F :: R => fR f r.isEmpty F ∧ (f.kind = 2 → ∃ q r', r = q :: r' ∧ q.kind = 3 ∧ 0 < q.index) ∧ stR r R
 | _, _ => False
theorem stR_inv {f : Sf} {r : List Sf} {L : List Fr} (h : stR (f :: r) L) : ∃ F R, L = F :: R ∧ fR f r.isEmpty F ∧ (f.kind = 2 → ∃ q r', r = q :: r' ∧ q.kind = 3 ∧ 0 < q.index) ∧ stR r R := by
 cases L with
 | nil => exact h.elim
 | cons F R => exact ⟨F, R, rfl, h⟩
theorem sk_eq {f g : Sf} (h : sk g = sk f) : g.kind = f.kind ∧ g.index = f.index ∧ g.stage = f.stage ∧ g.serial = f.serial := by
 simp only [sk, Prod.mk.injEq] at h
 exact h
theorem stR_congr : ∀ {l l' : List Sf} {L : List Fr}, l'.map sk = l.map sk → stR l L → stR l' L := by
 intro l
 induction l with
 | nil =>
  intro l' L h H
  cases l' with
  | nil => exact H
  | cons x l' => simp at h
 | cons f r ih =>
  intro l' L h H
  obtain ⟨F, R, rfl, h1, h2, h3⟩ := stR_inv H
  cases l' with
  | nil => simp at h
  | cons g r' =>
   simp only [List.map_cons, List.cons.injEq] at h
   obtain ⟨e1, e2, e3, e4⟩ := sk_eq h.1
   have hlen : r'.length = r.length := by have := congrArg List.length h.2; simpa using this
   have hem : r'.isEmpty = r.isEmpty := by cases r <;> cases r' <;> simp at hlen ⊢
   refine ⟨?_, ?_, ih h.2 h3⟩
   ·rw [hem]
    unfold fR at h1 ⊢
    rw [e1, e2, e3, e4]
    exact h1
   ·intro k
    obtain ⟨q, r1, rfl, a, b⟩ := h2 (by rw [← e1]; exact k)
    cases r' with
    | nil => simp at hlen
    | cons q' r2 =>
     have hq := h.2
     simp only [List.map_cons, List.cons.injEq] at hq
     obtain ⟨f1, f2, _, _⟩ := sk_eq hq.1
     exact ⟨q', r2, rfl, by rw [f1]; exact a, by rw [f2]; exact b⟩
def MB (s : Sv) : Prop := (runB bd0 (toMk s.marks)).1 = 9 ∨ ∃ B, runB bd0 (toMk s.marks) = (0, B) ∧ stR s.l B.fs ∧ ∀ F ∈ B.fs, F.cnt ≤ s.marks.length
theorem MB.same {s s' : Sv} (h : MB s) (hm : s'.marks = s.marks) (hl : s'.l.map sk = s.l.map sk) : MB s' := by
 unfold MB at h ⊢
 rw [hm]
 rcases h with h | ⟨B, h1, h2, h3⟩
 ·exact .inl h
 ·exact .inr ⟨B, h1, stR_congr hl h2, h3⟩
theorem MB.step {s s' : Sv} {k a : Int} (h : MB s) (hm : s'.marks = s.marks ++ [(k, a)]) (hk : 1 ≤ k ∧ k ≤ 12) {f : Sf} {r : List Sf} (hl : s.l = f :: r)
  (H : ∀ (B : Bd) (F : Fr) (R : List Fr), B.fs = F :: R → fR f r.isEmpty F → (f.kind = 2 → ∃ q r', r = q :: r' ∧ q.kind = 3 ∧ 0 < q.index) → stR r R → (∀ G ∈ F :: R, G.cnt ≤ s.marks.length) →
   fitsB F ⟨k, a, 0⟩ = true ∧ stR s'.l (stepF B ⟨k, a, 0⟩ F R).fs ∧ ∀ G ∈ (stepF B ⟨k, a, 0⟩ F R).fs, G.cnt ≤ s.marks.length + 1) : MB s' := by
 have e : toMk s'.marks = toMk s.marks ++ [⟨k, a, 0⟩] := by rw [hm]; simp [toMk]
 unfold MB at h ⊢
 rw [e, run_snoc]
 rcases h with h | ⟨B, h1, h2, h3⟩
 ·rw [if_neg (by rw [h]; decide)]
  exact .inl h
 ·rw [h1, if_pos rfl]
  rw [hl] at h2
  obtain ⟨F, R, hB, a1, a2, a3⟩ := stR_inv h2
  obtain ⟨b1, b2, b3⟩ := H B F R hB a1 a2 a3 (by rw [← hB]; exact h3)
  have hr : runB B [⟨k, a, 0⟩] = if (stepF B ⟨k, a, 0⟩ F R).full = true then (9, B) else (0, stepF B ⟨k, a, 0⟩ F R) := by
   simp only [runB]
   rw [if_neg (by omega), hB]
   simp only
   rw [if_pos b1]
  rw [hr]
  split
  ·exact .inl rfl
  ·exact .inr ⟨_, rfl, b2, by rw [hm, List.length_append]; exact b3⟩
theorem fR_ne3 {f : Sf} {b : Bool} {F : Fr} (h : fR f b F) (hf : f.kind ≠ 3) : F.kind ≠ 3 := by
 rcases h with ⟨_, h, _⟩ | ⟨_, h, _⟩ | ⟨h, _⟩
 ·omega
 ·omega
 ·exact absurd h hf
theorem cnt_mono {n : Nat} {L : List Fr} (h : ∀ G ∈ L, G.cnt ≤ n) : ∀ G ∈ L, G.cnt ≤ n + 1 := fun G hG => Nat.le_succ_of_le (h G hG)
theorem MB.acc {s : Sv} (h : MB s) {f : Sf} {r : List Sf} (hl : s.l = f :: r) (hf : f.kind ≠ 3) {k a : Int} (hk : k = 1 ∨ k = 2 ∨ k = 3) : MB (s.mark k a) := by
 have n4 : ¬ k = 4 := by omega
 have n5 : ¬ k = 5 := by omega
 have n6 : ¬ k = 6 := by omega
 have n7 : ¬ k = 7 := by omega
 have n9 : ¬ k = 9 := by omega
 have n8 : ¬ k = 8 := by omega
 have n10 : ¬ k = 10 := by omega
 have n11 : ¬ (k = 11 ∨ k = 12) := by omega
 refine h.step rfl (by omega) hl fun B F R hB h1 h2 h3 h4 => ?_
 have e : stepF B ⟨k, a, 0⟩ F R = { B with accs := B.accs ++ [accOf F ⟨k, a, 0⟩] } := by
  unfold stepF
  simp only
  rw [if_neg n4, if_neg n5, if_neg n6, if_neg n7, if_neg n9, if_neg n11, if_neg n10, if_neg n8]
 rw [e]
 refine ⟨?_, ?_, ?_⟩
 ·unfold fitsB
  simp only
  rw [if_neg n9, if_neg n8, if_neg n5, if_neg n10, if_neg n11]
  exact decide_eq_true (fR_ne3 h1 hf)
 ·show stR s.l B.fs
  rw [hl, hB]
  exact ⟨h1, h2, h3⟩
 ·show ∀ G ∈ B.fs, _
  rw [hB]
  exact cnt_mono h4
theorem MB.fork {s : Sv} (h : MB s) {f g : Sf} {r : List Sf} (hl : s.l = f :: r) (hf : f.kind ≠ 3) (hg : g.kind = 1) : MB ((s.mark 4 0).push g) := by
 refine h.step (k := 4) (a := 0) rfl (by omega) hl fun B F R hB h1 h2 h3 h4 => ⟨?_, ?_, ?_⟩
 ·exact decide_eq_true (fR_ne3 h1 hf)
 ·show stR (g :: s.l) (taskFr _ :: (B.begin (0, 0, 0) [F.now]).2.fs)
  rw [begin_fs, hB, hl]
  exact ⟨.inl ⟨hg, rfl, rfl⟩, fun c => by omega, h1, h2, h3⟩
 ·show ∀ G ∈ taskFr _ :: (B.begin (0, 0, 0) [F.now]).2.fs, _
  rw [begin_fs, hB]
  intro G hG
  rcases List.mem_cons.1 hG with rfl | hG
  ·exact Nat.zero_le _
  ·exact cnt_mono h4 G hG
theorem MB.ret {s : Sv} (h : MB s) {f q : Sf} {r : List Sf} (hl : s.l = f :: q :: r) (hf : f.kind = 1) : MB ((s.mark 5 0).pop) := by
 refine h.step (k := 5) (a := 0) rfl (by omega) hl fun B F R hB h1 h2 h3 h4 => ?_
 obtain ⟨G, R', rfl, g1, g2, g3⟩ := stR_inv h3
 refine ⟨?_, ?_, ?_⟩
 ·show F.child = true
  rcases h1 with ⟨_, _, h⟩ | ⟨h, _⟩ | ⟨h, _⟩
  ·rw [h]; rfl
  ·omega
  ·omega
 ·show stR s.l.tail (_ :: R')
  rw [hl]
  exact ⟨g1, g2, g3⟩
 ·intro K hK
  have hK : K ∈ _ :: R' := hK
  rcases List.mem_cons.1 hK with rfl | hK
  ·exact Nat.le_succ_of_le (h4 G (by simp))
  ·exact Nat.le_succ_of_le (h4 K (by simp [hK]))
theorem MB.meet6 {s : Sv} (h : MB s) {f : Sf} {r : List Sf} (hl : s.l = f :: r) (hf : f.kind ≠ 3) : MB (s.mark 6 0) := by
 refine h.step (k := 6) (a := 0) rfl (by omega) hl fun B F R hB h1 h2 h3 h4 => ⟨?_, ?_, ?_⟩
 ·exact decide_eq_true (fR_ne3 h1 hf)
 ·show stR s.l ({ F with now := _, left := [] } :: R)
  rw [hl]
  exact ⟨h1, h2, h3⟩
 ·intro K hK
  have hK : K ∈ ({ F with now := (B.begin F.node (F.now :: F.left)).1, left := [] } : Fr) :: R := hK
  rcases List.mem_cons.1 hK with rfl | hK
  ·exact Nat.le_succ_of_le (h4 F (by simp))
  ·exact Nat.le_succ_of_le (h4 K (by simp [hK]))
theorem MB.loop {s : Sv} (h : MB s) {f g : Sf} {r : List Sf} (hl : s.l = f :: r) (hf : f.kind ≠ 3) {n : Int} (hg : g.kind = 3) (hs : g.serial = n) (hi : g.index = 0) : MB ((s.mark 7 n).push g) := by
 refine h.step (k := 7) (a := n) rfl (by omega) hl fun B F R hB h1 h2 h3 h4 => ⟨?_, ?_, ?_⟩
 ·exact decide_eq_true (fR_ne3 h1 hf)
 ·show stR (g :: s.l) (loopFr n F.now :: B.fs)
  rw [hB, hl]
  exact ⟨.inr (.inr ⟨hg, rfl, hs.symm, by rw [hi]; rfl⟩), fun c => by omega, h1, h2, h3⟩
 ·show ∀ G ∈ loopFr n F.now :: B.fs, _
  rw [hB]
  intro G hG
  rcases List.mem_cons.1 hG with rfl | hG
  ·exact Nat.zero_le _
  ·exact cnt_mono h4 G hG
theorem MB.iter {s : Sv} (h : MB s) {f : Sf} {r : List Sf} (hl : s.l = f :: r) (hf : f.kind = 3) (hm : s.marks.length ≤ 1000000000) : MB s.iterate := by
 have hit : s.iterate.l = ⟨2, f.fn, 0, f.regs, false, f.index, 0, 0⟩ :: { f with index := IntKind.i64.wrap (f.index + 1) } :: r := by
  unfold Sv.iterate
  rw [top_l hl]
  show _ :: (s.setTop _).l = _
  rw [setTop_l hl]
 have hmk : s.iterate.marks = s.marks ++ [(9, f.index)] := by
  unfold Sv.iterate
  rw [top_l hl]
  show (s.setTop _).marks ++ _ = _
  have : ∀ g, (s.setTop g).marks = s.marks := fun g => by unfold Sv.setTop; split <;> rfl
  rw [this]
 refine h.step (k := 9) (a := f.index) hmk (by omega) hl fun B F R hB h1 h2 h3 h4 => ?_
 obtain ⟨hF3, hser, hcnt⟩ : F.kind = 3 ∧ F.ser = f.serial ∧ f.index = F.cnt := by
  rcases h1 with ⟨h, _⟩ | ⟨h, _⟩ | ⟨_, a, b, c⟩
  ·omega
  ·omega
  ·exact ⟨a, b, c⟩
 have hc := h4 F (by simp)
 have hw : IntKind.i64.wrap (f.index + 1) = ((F.cnt + 1 : Nat) : Int) := by rw [hcnt, w64_id (by omega) (by omega)]; push_cast <;> rfl
 refine ⟨?_, ?_, ?_⟩
 ·show (decide (F.kind = 3) && decide (f.index = (F.cnt : Int))) = true
  simp [hF3, hcnt]
 ·rw [hit]
  show stR _ (iterFr F _ :: { F with cnt := F.cnt + 1 } :: R)
  refine ⟨.inr (.inl ⟨rfl, rfl, hcnt.symm, rfl⟩), fun _ => ⟨_, _, rfl, hf, ?_⟩, .inr (.inr ⟨hf, hF3, hser, hw⟩), fun c => ?_, h3⟩
  ·show 0 < IntKind.i64.wrap (f.index + 1)
   rw [hw]; omega
  ·have c : f.kind = 2 := c
   omega
 ·intro K hK
  have hK : K ∈ iterFr F _ :: { F with cnt := F.cnt + 1 } :: R := hK
  rcases List.mem_cons.1 hK with rfl | hK
  ·exact Nat.zero_le _
  rcases List.mem_cons.1 hK with rfl | hK
  ·exact Nat.succ_le_succ hc
  ·exact Nat.le_succ_of_le (h4 K (by simp [hK]))
theorem MB.go {s : Sv} (h : MB s) {f : Sf} {r : List Sf} (hl : s.l = f :: r) (hf : f.kind = 2) {k v : Int} (hk : k = 11 ∨ k = 12) (hv : f.stage < v) {g : Sf → Sf} (hg : sk (g f) = (f.kind, f.index, v, f.serial)) : MB ((s.setTop g).mark k v) := by
 have n4 : ¬ k = 4 := by omega
 have n5 : ¬ k = 5 := by omega
 have n6 : ¬ k = 6 := by omega
 have n7 : ¬ k = 7 := by omega
 have n9 : ¬ k = 9 := by omega
 have n8 : ¬ k = 8 := by omega
 have n10 : ¬ k = 10 := by omega
 have hmk : ((s.setTop g).mark k v).marks = s.marks ++ [(k, v)] := by
  show (s.setTop _).marks ++ _ = _
  have : (s.setTop g).marks = s.marks := by unfold Sv.setTop; split <;> rfl
  rw [this]
 simp only [sk, Prod.mk.injEq] at hg
 obtain ⟨e1, e2, e3, e4⟩ := hg
 refine h.step (k := k) (a := v) hmk (by omega) hl fun B F R hB h1 h2 h3 h4 => ?_
 obtain ⟨q, r', rfl, q1, q2⟩ := h2 hf
 obtain ⟨G, R', rfl, g1, g2, g3⟩ := stR_inv h3
 obtain ⟨hF2, hit, hsg⟩ : F.kind = 2 ∧ F.it = f.index ∧ F.sg = f.stage := by
  rcases h1 with ⟨h, _⟩ | ⟨_, a, b, c⟩ | ⟨h, _⟩
  ·omega
  ·exact ⟨a, b, c⟩
  ·omega
 have e : stepF B ⟨k, v, 0⟩ F (G :: R') = goOnB B F G R' ⟨k, v, 0⟩ := by
  unfold stepF
  simp only
  rw [if_neg n4, if_neg n5, if_neg n6, if_neg n7, if_neg n9, if_pos hk]
  rfl
 rw [e]
 refine ⟨?_, ?_, ?_⟩
 ·unfold fitsB
  simp only
  rw [if_neg n9, if_neg n8, if_neg n5, if_neg n10, if_pos hk, hF2, hsg]
  simp [hv]
 ·show stR (s.setTop g).l ({ goFr F ⟨k, v, 0⟩ with now := _ } :: G :: R')
  rw [setTop_l hl]
  exact ⟨.inr (.inl ⟨e1.trans hf, hF2, hit.trans e2.symm, e3.symm⟩), fun _ => ⟨q, r', rfl, q1, q2⟩, g1, g2, g3⟩
 ·intro K hK
  have hK : K ∈ ({ goFr F ⟨k, v, 0⟩ with now := _ } : Fr) :: G :: R' := hK
  rcases List.mem_cons.1 hK with rfl | hK
  ·exact Nat.le_succ_of_le (h4 F (by simp))
  ·exact Nat.le_succ_of_le (h4 K (by simp only [List.mem_cons] at hK ⊢; exact .inr hK))
theorem MB.done {s : Sv} (h : MB s) {f : Sf} {r : List Sf} (hl : s.l = f :: r) (hf : f.kind = 2) : MB ((s.mark 10 f.index).pop) ∧ ((runB bd0 (toMk s.marks)).1 = 9 ∨ ∃ q r', r = q :: r' ∧ q.kind = 3 ∧ 0 < q.index) := by
 refine ⟨?_, ?_⟩
 ·refine h.step (k := 10) (a := f.index) rfl (by omega) hl fun B F R hB h1 h2 h3 h4 => ?_
  obtain ⟨q, r', rfl, q1, q2⟩ := h2 hf
  obtain ⟨G, R', rfl, g1, g2, g3⟩ := stR_inv h3
  obtain ⟨hF2, hit, hsg⟩ : F.kind = 2 ∧ F.it = f.index ∧ F.sg = f.stage := by
   rcases h1 with ⟨h, _⟩ | ⟨_, a, b, c⟩ | ⟨h, _⟩
   ·omega
   ·exact ⟨a, b, c⟩
   ·omega
  refine ⟨?_, ?_, ?_⟩
  ·show (decide (F.kind = 2) && decide (f.index = F.it)) = true
   simp [hF2, hit]
  ·show stR s.l.tail ({ G with ahead := _, lasts := _ } :: R')
   rw [hl]
   exact ⟨g1, g2, g3⟩
  ·intro K hK
   have hK : K ∈ ({ G with ahead := F.row ++ [(F.sg, F.now)], lasts := G.lasts ++ [F.now] } : Fr) :: R' := hK
   rcases List.mem_cons.1 hK with rfl | hK
   ·exact Nat.le_succ_of_le (h4 G (by simp))
   ·exact Nat.le_succ_of_le (h4 K (by simp [hK]))
 ·rcases h with h | ⟨B, h1, h2, _⟩
  ·exact .inl h
  ·rw [hl] at h2
   obtain ⟨F, R, hB, a1, a2, a3⟩ := stR_inv h2
   exact .inr (a2 hf)
theorem MB.leave {s : Sv} (h : MB s) {q p : Sf} {r : List Sf} (hl : s.l = q :: p :: r) (hq : q.kind = 3) (hi : (runB bd0 (toMk s.marks)).1 = 9 ∨ 0 < q.index) : MB ((s.pop).mark 8 q.serial) := by
 by_cases h9 : (runB bd0 (toMk s.marks)).1 = 9
 ·have e : toMk ((s.pop).mark 8 q.serial).marks = toMk s.marks ++ [⟨8, q.serial, 0⟩] := by
   show toMk (s.marks ++ [(8, q.serial)]) = _
   simp [toMk]
  refine .inl ?_
  rw [e, run_snoc, if_neg (by rw [h9]; decide)]
  exact h9
 have hi : 0 < q.index := by rcases hi with h | h; exact absurd h h9; exact h
 refine h.step (k := 8) (a := q.serial) rfl (by omega) hl fun B F R hB h1 h2 h3 h4 => ?_
 obtain ⟨G, R', rfl, g1, g2, g3⟩ := stR_inv h3
 obtain ⟨hF3, hser, hcnt⟩ : F.kind = 3 ∧ F.ser = q.serial ∧ q.index = F.cnt := by
  rcases h1 with ⟨h, _⟩ | ⟨h, _⟩ | ⟨_, a, b, c⟩
  ·omega
  ·omega
  ·exact ⟨a, b, c⟩
 refine ⟨?_, ?_, ?_⟩
 ·show (decide (F.kind = 3) && decide (q.serial = F.ser) && decide (0 < F.cnt)) = true
  have : 0 < F.cnt := by omega
  simp [hF3, hser, this]
 ·show stR s.l.tail (_ :: R')
  rw [hl]
  exact ⟨g1, g2, g3⟩
 ·intro K hK
  have hK : K ∈ ({ G with now := (({ B with fs := G :: R' } : Bd).begin G.node F.lasts).1 } : Fr) :: R' := hK
  rcases List.mem_cons.1 hK with rfl | hK
  ·exact Nat.le_succ_of_le (h4 G (by simp))
  ·exact Nat.le_succ_of_le (h4 K (by simp [hK]))
theorem sk_setTop {s : Sv} {g : Sf → Sf} (hg : ∀ f, sk (g f) = sk f) : (s.setTop g).l.map sk = s.l.map sk := by
 unfold Sv.setTop
 split
 ·rename_i f r e; rw [e]; simp [hg]
 ·rfl
theorem sk_keep (s : Sv) : s.keep.l.map sk = s.l.map sk := by
 unfold Sv.keep
 split
 ·unfold Sv.set2
  split
  ·rename_i f q r e; rw [e]; rfl
  ·rfl
 ·rfl
theorem marks_setTop (s : Sv) (g : Sf → Sf) : (s.setTop g).marks = s.marks := by unfold Sv.setTop; split <;> rfl
theorem marks_keep (s : Sv) : s.keep.marks = s.marks := (Sv.keep_same s).2.1
theorem MB.keep {s : Sv} (h : MB s) : MB s.keep := h.same (marks_keep s) (sk_keep s)
theorem MB.stop {s : Sv} (h : MB s) (a b : Int) : MB (s.stop a b) := h.same rfl rfl
theorem MB.turn {s : Sv} (h : MB s) {g : Sf → Sf} (hg : ∀ f, sk (g f) = sk f) : MB (s.setTop g) := h.same (marks_setTop s g) (sk_setTop hg)
theorem MB.meet {s : Sv} (h : MB s) {f : Sf} {r : List Sf} (hl : s.l = f :: r) (hf : f.kind ≠ 3) (e : Ef) : MB (s.meet e) := by
 unfold Sv.meet
 split
 ·exact (h.turn (g := fun f => { f with dirty := false }) fun _ => rfl).meet6 (setTop_l hl _) hf
 ·exact h
theorem MB.begins {s : Sv} (h : MB s) {f : Sf} {r : List Sf} (hl : s.l = f :: r) (hf : f.kind ≠ 3) (hm : s.marks.length ≤ 1000000) (e : Ef) : MB (s.begins e) := by
 unfold Sv.begins
 split
 ·have h1 : MB ({ s with out := s.out ++ [e.v] } : Sv) := h.same rfl rfl
  exact h1.acc hl hf (.inr (.inr rfl))
 split
 ·exact (h.turn (g := fun f => { f with dirty := true }) fun _ => rfl).fork (setTop_l hl _) hf rfl
 split
 ·have h1 : MB ({ s with serial := IntKind.i64.wrap (s.serial + 1) } : Sv) := h.same rfl rfl
  have h2 := h1.loop (g := ⟨3, e.v, 0, s.top.regs, false, 0, 0, IntKind.i64.wrap (s.serial + 1)⟩) hl hf (n := IntKind.i64.wrap (s.serial + 1)) rfl rfl rfl
  refine h2.iter rfl rfl ?_
  show (s.marks ++ [_]).length ≤ _
  rw [List.length_append, List.length_singleton]
  omega
 ·exact h
theorem MB.goOn {s : Sv} (h : MB s) {f : Sf} {r : List Sf} (hl : s.l = f :: r) (pc : Int) {e : Ef} (he : e.k = 9 ∨ e.k = 10) : MB (s.goOn pc e) := by
 unfold Sv.goOn
 rw [top_l hl]
 split
 ·exact h.stop _ _
 rename_i hk
 split
 ·exact h.stop _ _
 rename_i hg
 have hk : f.kind = 2 := by simpa using hk
 have hg : goE f.stage e.v = 0 := by simpa using hg
 have hv : f.stage < e.v := by
  unfold goE at hg
  split at hg
  ·cases hg
  ·omega
 obtain ⟨f', r', hl'⟩ : ∃ f' r', s.keep.l = f' :: r' := by
  have := sk_keep s
  rw [hl] at this
  cases hh : s.keep.l with
  | nil => rw [hh] at this; simp at this
  | cons x y => exact ⟨x, y, rfl⟩
 have hsk : sk f' = sk f := by
  have := sk_keep s
  rw [hl, hl'] at this
  simp only [List.map_cons, List.cons.injEq] at this
  exact this.1
 obtain ⟨e1, e2, e3, e4⟩ := sk_eq hsk
 refine h.keep.go hl' (e1.trans hk) (k := if e.k = 9 then 11 else 12) (v := e.v) (by split <;> omega) (by rw [e3]; exact hv) ?_
 simp [sk]
theorem keep_f {s : Sv} {f : Sf} {r : List Sf} (hl : s.l = f :: r) : ∃ f' r', s.keep.l = f' :: r' ∧ sk f' = sk f ∧ r'.map sk = r.map sk := by
 have := sk_keep s
 rw [hl] at this
 cases hh : s.keep.l with
 | nil => rw [hh] at this; simp at this
 | cons x y =>
  rw [hh] at this
  simp only [List.map_cons, List.cons.injEq] at this
  exact ⟨x, y, rfl, this⟩
theorem MB.leaveS {s : Sv} (h : MB s) {f q p : Sf} {r : List Sf} (hl : s.l = f :: q :: p :: r) (hq : q.kind = 3) : MB s.leave := by
 unfold Sv.leave
 rw [top_l hl]
 split
 ·exact h.stop _ _
 rename_i hk
 split
 ·exact h.stop _ _
 have hk : f.kind = 2 := by simpa using hk
 obtain ⟨f', r1, hl', hsf, hsr⟩ := keep_f hl
 obtain ⟨q', p', r', rfl, hsq⟩ : ∃ q' p' r', r1 = q' :: p' :: r' ∧ sk q' = sk q := by
  cases r1 with
  | nil => simp at hsr
  | cons q' r2 =>
   cases r2 with
   | nil => simp at hsr
   | cons p' r' =>
    simp only [List.map_cons, List.cons.injEq] at hsr
    exact ⟨q', p', r', rfl, hsr.1⟩
 obtain ⟨e1, e2, e3, e4⟩ := sk_eq hsf
 obtain ⟨q1, q2, q3, q4⟩ := sk_eq hsq
 obtain ⟨h1, h2⟩ := h.keep.done hl' (e1.trans hk)
 have hix : f.index = f'.index := e2.symm
 rw [hix]
 have htop : s.keep.pop.top = q' := by
  unfold Sv.top Sv.pop
  simp only [hl', List.tail_cons, List.headD_cons]
 rw [htop]
 have hl2 : ((s.keep.mark 10 f'.index).pop).l = q' :: p' :: r' := by
  show s.keep.l.tail = _
  rw [hl']
  rfl
 refine MB.turn (h1.leave hl2 (q1.trans hq) ?_) fun _ => rfl
 rcases h2 with h2 | ⟨q2', r2', e, a, b⟩
 ·refine .inl ?_
  show (runB bd0 (toMk (s.keep.marks ++ [(10, f'.index)]))).1 = 9
  have e : toMk (s.keep.marks ++ [(10, f'.index)]) = toMk s.keep.marks ++ [⟨10, f'.index, 0⟩] := by simp [toMk]
  rw [e, run_snoc, if_neg (by rw [h2]; decide)]
  exact h2
 ·cases e
  exact .inr b
theorem MB.back {s : Sv} (h : MB s) {f : Sf} {r : List Sf} (hl : s.l = f :: r) (hr : f.kind = 2 → ∃ q r', r = q :: r' ∧ q.kind = 3) (h1k : f.kind = 1 ∨ f.kind = 2) (hm : s.marks.length ≤ 1000000) : MB s.back := by
 unfold Sv.back
 rw [top_l hl]
 split
 ·rename_i hk
  obtain ⟨f', r1, hl', hsf, hsr⟩ := keep_f hl
  obtain ⟨q, r', rfl, hq⟩ := hr hk
  obtain ⟨q', r2, rfl, hsq⟩ : ∃ q' r2, r1 = q' :: r2 ∧ sk q' = sk q := by
   cases r1 with
   | nil => simp at hsr
   | cons q' r2 =>
    simp only [List.map_cons, List.cons.injEq] at hsr
    exact ⟨q', r2, rfl, hsr.1⟩
  obtain ⟨e1, e2, e3, e4⟩ := sk_eq hsf
  obtain ⟨q1, q2, q3, q4⟩ := sk_eq hsq
  obtain ⟨h1, h2⟩ := h.keep.done hl' (e1.trans hk)
  have hix : f.index = f'.index := e2.symm
  rw [hix]
  have hl2 : ((s.keep.mark 10 f'.index).pop).l = q' :: r2 := by
   show s.keep.l.tail = _
   rw [hl']
   rfl
  refine h1.iter hl2 (q1.trans hq) ?_
  show (s.keep.marks ++ [_]).length ≤ _
  rw [marks_keep, List.length_append, List.length_singleton]
  omega
 rename_i hk
 split
 ·exact h.stop _ _
 rename_i hlen
 cases r with
 | nil => rw [hl] at hlen; exact absurd rfl hlen
 | cons q r' => exact h.ret hl (by rcases h1k with c | c; exact c; exact absurd c hk)
theorem MB.ask {s : Sv} (h : MB s) {f : Sf} {r : List Sf} (hl : s.l = f :: r) (hf : f.kind ≠ 3) (pc : Int) (rs : List Int) (e : Ef) : MB (s.ask pc rs e) := by
 unfold Sv.ask
 split
 ·have h1 : MB ({ s with data := (askD s.data e).2.2 } : Sv) := h.same rfl rfl
  refine MB.turn (h1.acc hl hf ?_) fun _ => rfl
  split
  ·exact .inl rfl
  ·exact .inr (.inl rfl)
 ·exact h.stop _ _
theorem MB.one {fs : List (List Ix)} {d k : Nat} {s : Sv} (hI : Iv fs d k s) (hk : k ≤ 100000) (h : MB s) : MB (oneS fs s) := by
 obtain ⟨f, r, hl⟩ := hI.w.st.ne
 have hst := hI.w.st
 rw [hl] at hst
 have h12 := hst.kind
 have hm := hI.m.marks
 rw [one_eq]
 generalize doS fs s = p
 have hn : MB (nxS s) := h.same rfl rfl
 have hne : f.kind ≠ 3 := by omega
 have h1 := hn.meet (show (nxS s).l = f :: r from hl) hne p.2.2.1
 obtain ⟨hml, _⟩ := meet_f (s := nxS s) (e := p.2.2.1) (show (nxS s).l = f :: r from hl)
 have hmm : ((nxS s).meet p.2.2.1).marks.length ≤ 5 * k + 1 := by
  obtain ⟨m, e1, e2⟩ := (ext_meet (nxS s) p.2.2.1).marks
  rw [e1, List.length_append]
  have : (nxS s).marks = s.marks := rfl
  rw [this]
  omega
 generalize (nxS s).meet p.2.2.1 = t at h1 hml hmm
 unfold Sv.act
 split
 ·exact h1.stop _ _
 split
 ·exact h1.ask hml hne _ _ _
 split
 ·rename_i c; exact h1.goOn hml _ c
 split
 ·by_cases hk2 : f.kind = 2
  ·obtain ⟨q, r', rfl, hq3, hst'⟩ := hst.loop hk2
   obtain ⟨p', r2, rfl⟩ := hst'.ne
   exact h1.leaveS hml hq3
  ·unfold Sv.leave
   rw [top_l hml]
   rw [if_pos hk2]
   exact h1.stop _ _
 split
 ·refine h1.back hml (fun hk2 => ?_) h12 (by omega)
  obtain ⟨q, r', rfl, hq3, _⟩ := hst.loop hk2
  exact ⟨q, r', rfl, hq3⟩
 ·have h2 : MB (t.setTop fun f => { f with pc := p.1, regs := p.2.1 }) := h1.turn fun _ => rfl
  refine h2.begins (setTop_l hml _) hne ?_ _
  rw [marks_setTop]
  omega
theorem MB.lx {fs : List (List Ix)} (hF : Fns fs) {d : Nat} : ∀ (n k : Nat) (s : Sv), Iv fs d k s → k + n ≤ 100000 → MB s → MB (Lx fs n s) := by
 intro n
 induction n with
 | zero =>
  intro k s _ _ h
  rw [Lx]
  split
  ·exact h
  ·exact h.stop _ _
 | succ n ih =>
  intro k s hI hk h
  rw [Lx]
  split
  ·exact h
  ·exact ih (k + 1) _ (hI.one hF (by omega)) (by omega) (h.one hI (by omega))
theorem mb_init (m : Int) (inp : List Int) : MB (initS m inp) :=
 .inr ⟨bd0, rfl, ⟨.inl ⟨rfl, rfl, rfl⟩, fun c => (by cases c), trivial⟩, fun F hF => by simp [bd0] at hF; subst hF; exact Nat.zero_le _⟩
theorem mb_build {s : Sv} (h : MB s) : (St.buildR (toMk s.marks)).1 = 0 ∨ (St.buildR (toMk s.marks)).1 = 9 := by
 unfold St.buildR
 rcases h with h | ⟨B, h, _⟩
 ·rw [if_neg (by rw [h]; decide)]
  exact .inr h
 ·rw [h, if_pos rfl]
  exact .inl rfl
end Go.Proofs.Ytncdnegdlkmicaa.Sr
