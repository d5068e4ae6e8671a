/- Trace: Check. -/
import Derived.Test.YthgmfjkbgacfaaaTrb
namespace Go.Proofs.Ythgmfjkbgacfaaa
set_option linter.unusedVariables false
set_option linter.unusedSimpArgs false
open Go Go.Kx Go.Proofs

structure Qe where
  id : Int
  o : Nat
  p : Lp
def esQ (Q : List Qe) : List (Value × AV) := Q.map fun q => (.int .i64 q.id, .ref q.o 0 0)
def TrAt (Q : List Qe) (σ : Kx.St) (lab : Nat → Role) : Prop := σ[0]? = some (.map (esQ Q)) ∧ lab 0 = (0, 1) ∧ ∀ (j : Nat) (q : Qe), Q[j]? = some q → LpAt σ lab j q.o q.p
def lkQ (Q : List Qe) (id : Int) : Lp := match Q.find? (fun q => decide (q.id = id)) with | some q => q.p | none => lp0
theorem find_split {Q : List Qe} {id : Int} : (∃ (j : Nat) (q : Qe), Q[j]? = some q ∧ q.id = id ∧ ∀ (i : Nat) (r : Qe), i < j → Q[i]? = some r → r.id ≠ id) ∨ (∀ q ∈ Q, q.id ≠ id) := by
  induction Q with
  | nil => exact .inr (by simp)
  | cons q Q ih =>
    by_cases hq : q.id = id
    · exact .inl ⟨0, q, rfl, hq, fun i r hi => by omega⟩
    · rcases ih with ⟨j, r, h1, h2, h3⟩ | h
      · refine .inl ⟨j + 1, r, by simpa using h1, h2, fun i s hi hs => ?_⟩
        cases i with
        | zero => simp at hs; subst hs; exact hq
        | succ i => exact h3 i s (by omega) (by simpa using hs)
      · refine .inr fun r hr => ?_
        rcases List.mem_cons.1 hr with rfl | hr
        · exact hq
        · exact h r hr
theorem getM_hit {z : AV} {id : Int} : ∀ {Q : List Qe} {j : Nat} {q : Qe}, Q[j]? = some q → q.id = id → (∀ (i : Nat) (r : Qe), i < j → Q[i]? = some r → r.id ≠ id) → getM (.int .i64) z (.int .i64 id) (esQ Q) = some (.ref q.o 0 0) ∧ lkQ Q id = q.p := by
  intro Q
  induction Q with
  | nil => intro j q h; simp at h
  | cons r Q ih =>
    intro j q h hid hall
    cases j with
    | zero =>
      simp at h
      subst h
      subst hid
      refine ⟨by simp [esQ, getM, eqC], ?_⟩
      simp [lkQ]
    | succ j =>
      have hr : r.id ≠ id := hall 0 r (by omega) rfl
      obtain ⟨h1, h2⟩ := ih (j := j) (by simpa using h) hid fun i s hi hs => hall (i + 1) s (by omega) (by simpa using hs)
      have hr' : ¬ id = r.id := fun e => hr e.symm
      refine ⟨?_, ?_⟩
      · simp only [esQ, List.map_cons, getM, eqC, if_true] at h1 ⊢
        rw [show (id == r.id) = false by simpa using hr']
        exact h1
      · unfold lkQ at h2 ⊢
        rw [List.find?_cons, decide_eq_false hr]
        exact h2
theorem getM_miss {z : AV} {id : Int} : ∀ {Q : List Qe}, (∀ q ∈ Q, q.id ≠ id) → getM (.int .i64) z (.int .i64 id) (esQ Q) = some z ∧ lkQ Q id = lp0 ∧ ∀ x : AV, putM (.int .i64) (.int .i64 id) x (esQ Q) = some (esQ Q ++ [(.int .i64 id, x)]) := by
  intro Q
  induction Q with
  | nil => intro _; exact ⟨rfl, rfl, fun x => rfl⟩
  | cons r Q ih =>
    intro h
    obtain ⟨h1, h2, h3⟩ := ih fun q hq => h q (List.mem_cons_of_mem _ hq)
    have hr := h r (by simp)
    have hr' : ¬ id = r.id := fun e => hr e.symm
    refine ⟨?_, ?_, fun x => ?_⟩
    · simp only [esQ, List.map_cons, getM, eqC, if_true] at h1 ⊢
      rw [show (id == r.id) = false by simpa using hr']
      exact h1
    · unfold lkQ at h2 ⊢
      rw [List.find?_cons, decide_eq_false hr]
      exact h2
    · have := h3 x
      simp only [esQ, List.map_cons, putM, eqC, if_true] at this ⊢
      rw [show (id == r.id) = false by simpa using hr']
      simp only [this]
      rfl
theorem lkQ_set {Q : List Qe} {j : Nat} {q : Qe} (h : Q[j]? = some q) (hall : ∀ (i : Nat) (r : Qe), i < j → Q[i]? = some r → r.id ≠ q.id) (p : Lp) (id : Int) : lkQ (Q.set j ⟨q.id, q.o, p⟩) id = if id = q.id then p else lkQ Q id := by
  induction Q generalizing j with
  | nil => simp at h
  | cons r Q ih =>
    cases j with
    | zero =>
      simp at h
      subst h
      by_cases hid : id = r.id
      · subst hid; simp [lkQ]
      · have : ¬ r.id = id := fun e => hid e.symm
        simp [lkQ, hid, this]
    | succ j =>
      have hr : r.id ≠ q.id := hall 0 r (by omega) rfl
      have := ih (j := j) (by simpa using h) fun i s hi hs => hall (i + 1) s (by omega) (by simpa using hs)
      simp only [List.set_cons_succ]
      unfold lkQ at this ⊢
      by_cases h2 : r.id = id
      · have h3 : ¬ id = q.id := fun e => hr (h2.trans e)
        rw [List.find?_cons, List.find?_cons, decide_eq_true h2, if_neg h3]
      · rw [List.find?_cons, List.find?_cons, decide_eq_false h2]
        exact this
theorem lkQ_snoc {Q : List Qe} {id0 : Int} (h : ∀ q ∈ Q, q.id ≠ id0) (o : Nat) (p : Lp) (id : Int) : lkQ (Q ++ [⟨id0, o, p⟩]) id = if id = id0 then p else lkQ Q id := by
  induction Q with
  | nil =>
    by_cases hid : id = id0
    · subst hid; simp [lkQ]
    · have : ¬ id0 = id := fun e => hid e.symm
      simp [lkQ, hid, this]
  | cons r Q ih =>
    have hr := h r (by simp)
    have := ih fun q hq => h q (List.mem_cons_of_mem _ hq)
    unfold lkQ at this ⊢
    rw [List.cons_append]
    by_cases h2 : r.id = id
    · have h3 : ¬ id = id0 := fun e => hr (h2.trans e)
      rw [List.find?_cons, List.find?_cons, decide_eq_true h2, if_neg h3]
    · rw [List.find?_cons, List.find?_cons, decide_eq_false h2]
      exact this
def updS (S : Int → Lp) (id : Int) (p : Lp) : Int → Lp := fun i => if i = id then p else S i
/-- The first event that could not happen, and why. -/
def checkF : (Int → Lp) → Nat → List Ev → Int × Int
  | _, _, [] => (0, 0)
  | S, i, e :: es => if e.k < 1 ∨ 6 < e.k then ((i : Int), 5) else if (eventT (S e.lp) e).2 ≠ 0 then ((i : Int), (eventT (S e.lp) e).2) else checkF (updS S e.lp (eventT (S e.lp) e).1) (i + 1) es
def S0 : Int → Lp := fun _ => lp0
theorem eventT_len (p : Lp) (e : Ev) : (eventT p e).1.its.length ≤ p.its.length + 1 := by
  unfold eventT startT endT
  repeat' split
  all_goals simp
theorem TrAt.stp {Q : List Qe} {σ σ' : Kx.St} {lab lab' : Nat → Role} (h : TrAt Q σ lab) (k : Stp (fun _ => False) σ lab σ' lab') : TrAt Q σ' lab' := by
  obtain ⟨h1, h2, h3⟩ := h
  obtain ⟨a1, a2⟩ := k.get h1 id
  exact ⟨a1, a2.trans h2, fun j q hq => (h3 j q hq).stp k fun _ _ => id⟩
theorem TrAt.upd {Q : List Qe} {σ σ' : Kx.St} {lab lab' : Nat → Role} (h : TrAt Q σ lab) {j : Nat} {q : Qe} (hq : Q[j]? = some q) {p : Lp} (hp : LpAt σ' lab' j q.o p) (k : Stp (isJ j) σ lab σ' lab') : TrAt (Q.set j ⟨q.id, q.o, p⟩) σ' lab' := by
  obtain ⟨h1, h2, h3⟩ := h
  obtain ⟨a1, a2⟩ := k.get h1 (by rw [h2]; rintro ⟨h, _⟩; exact absurd h (by decide))
  refine ⟨?_, a2.trans h2, fun i r hr => ?_⟩
  · rw [a1]
    have : esQ (Q.set j ⟨q.id, q.o, p⟩) = esQ Q := by
      unfold esQ
      rw [List.map_set]
      apply List.ext_getElem?
      intro i
      by_cases hij : j = i
      · subst hij
        rw [List.getElem?_set, if_pos rfl, if_pos (by rw [List.length_map]; exact lt_at hq), List.getElem?_map, hq]
        rfl
      · rw [List.getElem?_set_ne hij]
    rw [this]
  · by_cases hij : j = i
    · subst hij
      rw [List.getElem?_set, if_pos rfl, if_pos (lt_at hq)] at hr
      cases hr
      exact hp
    · rw [List.getElem?_set_ne hij] at hr
      exact (h3 i r hr).stp k fun _ _ ⟨_, h⟩ => hij h.symm
end Go.Proofs.Ythgmfjkbgacfaaa
