/- Trace: what could happen follows: rows and begun nodes, event by event. -/
import Derived.Test.YthgmfjkbgacfaaaTrk
namespace Go.Proofs.Ythgmfjkbgacfaaa
set_option linter.unusedVariables false
set_option linter.unusedSimpArgs false
open Go Go.Kx Go.Proofs
open Go.Proofs.Ythgmfjkbgacfaaa.Gr (CC cellP lastLE lastLE_snoc nc)

theorem at_app {α : Type} {R : List α} {y x : α} {i : Nat} (h : (R ++ [y])[i]? = some x) : (i < R.length ∧ R[i]? = some x) ∨ (i = R.length ∧ x = y) := by
  rcases Nat.lt_or_ge i R.length with hi | hi
  · rw [List.getElem?_append_left hi] at h; exact .inl ⟨hi, h⟩
  · have := lt_at h
    simp only [List.length_append, List.length_singleton] at this
    obtain rfl : i = R.length := by omega
    rw [List.getElem?_append_right (Nat.le_refl _), Nat.sub_self] at h
    cases h; exact .inr ⟨rfl, rfl⟩
theorem at_set {α : Type} {R : List α} {y x : α} {i j : Nat} (h : (R.set i y)[j]? = some x) : (j = i ∧ x = y ∧ i < R.length) ∨ (j ≠ i ∧ R[j]? = some x) := by
  by_cases hij : i = j
  · subst hij
    have := lt_at h
    rw [List.length_set] at this
    rw [List.getElem?_set, if_pos rfl, if_pos this] at h
    cases h; exact .inl ⟨rfl, rfl, this⟩
  · rw [List.getElem?_set_ne hij] at h
    exact .inr ⟨fun e => hij e.symm, h⟩
/-- A row, and how its iteration stands. -/
structure RI (r : List CC) (x : It) : Prop where
  first : r[0]? = some ⟨0, false⟩
  last : r[r.length - 1]? = some ⟨x.st, x.wt⟩
  inc : ∀ (i j : Nat) (c d : CC), i < j → r[i]? = some c → r[j]? = some d → c.st < d.st
  bd : ∀ c ∈ r, 0 ≤ c.st ∧ c.st ≤ 1048575
  far : x.fr = true → 1 < r.length ∨ x.fn = true
  fin : x.fn = true → x.bg = true
theorem RI.pos {r : List CC} {x : It} (h : RI r x) : 0 < r.length := lt_at h.first
theorem RI.inj {r : List CC} {x : It} (h : RI r x) {i j : Nat} {c d : CC} (hc : r[i]? = some c) (hd : r[j]? = some d) (he : c.st = d.st) : i = j := by
  rcases Nat.lt_trichotomy i j with hij | hij | hij
  · have := h.inc _ _ _ _ hij hc hd; omega
  · exact hij
  · have := h.inc _ _ _ _ hij hd hc; omega
theorem RI.le {r : List CC} {x : It} (h : RI r x) {i : Nat} {c : CC} (hc : r[i]? = some c) : c.st ≤ x.st := by
  have hlt := lt_at hc
  by_cases hi : i = r.length - 1
  · subst hi
    have := h.last
    rw [hc] at this
    cases this
    exact Int.le_refl _
  · have := h.inc i (r.length - 1) c _ (by omega) hc h.last
    simp only at this
    omega
theorem ri_it0 : RI [⟨0, false⟩] it0 := by
  refine ⟨rfl, rfl, fun i j c d hij hc hd => ?_, fun c hc => ?_, (fun h => nomatch h), (fun h => nomatch h)⟩
  · have h1 := lt_at hd; simp at h1; omega
  · simp at hc; subst hc; simp
theorem RI.add {r : List CC} {x : It} (h : RI r x) {s : Int} {w : Bool} (h1 : x.st < s) (h2 : s ≤ 1048575) (h3 : x.fn = false) : RI (r ++ [⟨s, w⟩]) ⟨s, w, false, true, x.fn⟩ := by
  have hp := h.pos
  refine ⟨?_, ?_, fun i j c d hij hc hd => ?_, fun c hc => ?_, fun _ => .inl (by simp; omega), fun hf => ?_⟩
  · rw [List.getElem?_append_left hp]; exact h.first
  · simp
  · rcases at_app hd with ⟨_, hd⟩ | ⟨rfl, rfl⟩
    · rw [List.getElem?_append_left (by have := lt_at hd; omega)] at hc
      exact h.inc _ _ _ _ hij hc hd
    · rw [List.getElem?_append_left hij] at hc
      have := h.le hc
      simp only; omega
  · rcases List.mem_append.1 hc with hc | hc
    · exact h.bd c hc
    · simp at hc
      subst hc
      have := (h.bd _ (List.mem_of_getElem? h.last)).1
      simp only at this ⊢; omega
  · rw [h3] at hf; cases hf
/-- The last stage of a row at or below another. -/
theorem lastLE_at {r : List CC} {x : It} (h : RI r x) {s : Int} (h0 : 0 ≤ s) : ∃ (k : Nat) (c : CC), r[k]? = some c ∧ c.st = lastLE r s ∧ c.st ≤ s := by
  have key : ∀ t : List CC, (∀ c ∈ t, 0 ≤ c.st) → (∃ c ∈ t, c.st ≤ s) → ∃ (k : Nat) (c : CC), t[k]? = some c ∧ c.st = lastLE t s ∧ c.st ≤ s := by
    intro t
    induction t using snoc_ind with
    | h0 => intro _ h; simp at h
    | hs t d ih =>
      intro hb hex
      rw [lastLE_snoc]
      by_cases hd : d.st ≤ s
      · rw [if_pos hd]
        exact ⟨t.length, d, by simp, rfl, hd⟩
      · rw [if_neg hd]
        obtain ⟨c, hc, hcs⟩ := hex
        rcases List.mem_append.1 hc with hc | hc
        · obtain ⟨k, c', a1, a2, a3⟩ := ih (fun c hc => hb c (by simp [hc])) ⟨c, hc, hcs⟩
          exact ⟨k, c', by rw [List.getElem?_append_left (lt_at a1)]; exact a1, a2, a3⟩
        · simp at hc; subst hc; exact absurd hcs hd
  exact key r (fun c hc => (h.bd c hc).1) ⟨_, List.mem_of_getElem? h.first, h0⟩
/-- A loop, its rows, and what has begun. -/
structure Inv (p : Lp) (s : RS) (B : List (Int × Int)) : Prop where
  len : s.R.length = p.its.length
  num : ∀ i : Int, getI s.A i = if 0 ≤ i ∧ i < s.R.length then i + 1 else 0
  row : ∀ (i : Nat) (r : List CC) (x : It), s.R[i]? = some r → p.its[i]? = some x → RI r x
  left : ∀ i : Nat, 0 < i → i < s.R.length → ((i : Int) - 1, 0) ∈ B
  mem : ∀ q ∈ B, ∃ (i k : Nat) (r : List CC) (c : CC) (x : It), s.R[i]? = some r ∧ r[k]? = some c ∧ p.its[i]? = some x ∧ q = ((i : Int), c.st) ∧ (k + 1 < r.length ∨ x.bg = true)
  beg : ∀ (i k : Nat) (r : List CC) (c : CC) (x : It), s.R[i]? = some r → r[k]? = some c → p.its[i]? = some x → (k + 1 < r.length ∨ x.bg = true) → ((i : Int), c.st) ∈ B
  ord : ∀ (i k : Nat) (r : List CC) (c : CC) (b : Nat), s.R[i]? = some r → r[k]? = some c → B[b]? = some ((i : Int), c.st) → ∀ q ∈ cellP i (s.R.getD (i - 1) []) r k, q ∈ B.take b
  past : ∀ (i k : Nat) (r : List CC) (c : CC) (x : It), 0 < i → s.R[i]? = some r → r[k]? = some c → c.wt = true → ((i : Int), c.st) ∈ B → p.its[i - 1]? = some x → x.fn = true ∨ c.st < x.st
theorem inv0 : Inv lp0 ⟨[], []⟩ [] := by
  refine ⟨rfl, fun i => ?_, fun i r x h => by simp at h, fun i _ h => by simp at h, fun q h => by simp at h, fun i k r c x h => by simp at h, fun i k r c b h => by simp at h, fun i k r c x _ h => by simp at h⟩
  simp only [getI, List.length_nil]
  rw [if_neg (by omega)]
theorem getD_at {α : Type} {R : List α} {i : Nat} {r d : α} (h : R[i]? = some r) : R.getD i d = r := by rw [List.getD_eq_getElem?_getD, h]; rfl
theorem Inv.its {p : Lp} {s : RS} {B : List (Int × Int)} (h : Inv p s B) {i : Nat} {r : List CC} (hr : s.R[i]? = some r) : ∃ x, p.its[i]? = some x := at_lt (by rw [← h.len]; exact lt_at hr)
/-- An iteration starts. -/
theorem Inv.start {p : Lp} {s : RS} {B : List (Int × Int)} (h : Inv p s B) {e : Ev} (hk : e.k = 1) (he : (startT p e).2 = 0) : Inv (startT p e).1 (stepR s e) B := by
  unfold startT at he ⊢
  by_cases h1 : e.it ≠ p.its.length ∨ e.st ≠ 0
  · rw [if_pos h1] at he; simp at he
  rw [if_neg h1] at he ⊢
  by_cases h2 : 0 < p.its.length ∧ (p.its.getD (p.its.length - 1) it0).fr = false
  · rw [if_pos h2] at he; simp at he
  rw [if_neg h2]
  have hit : e.it = p.its.length := by
    by_cases hh : e.it = p.its.length
    · exact hh
    · exact absurd (.inl hh) h1
  have hl := h.len
  have hs : stepR s e = ⟨s.R ++ [[⟨0, false⟩]], putI s.A e.it (s.R.length + 1)⟩ := by unfold stepR; rw [if_pos hk]
  rw [hs]
  have hB : ∀ k : Nat, ∀ st, ((s.R.length : Int), st) ∈ B → False := fun k st hm => by
    obtain ⟨i, k, r, c, x, a1, _, _, a4, _⟩ := h.mem _ hm
    injection a4 with a4 _
    have := lt_at a1
    omega
  refine ⟨by simp; omega, fun i => ?_, fun i r x hr hx => ?_, fun i hi hil => ?_, fun q hq => ?_, fun i k r c x hr hc hx hor => ?_, fun i k r c b hr hc hb => ?_, fun i k r c x hi hr hc hw hm hx => ?_⟩
  · simp only [getI_putI, List.length_append, List.length_singleton]
    rw [h.num]
    by_cases hi : i = e.it
    · rw [if_pos hi, if_pos (by omega)]; omega
    · rw [if_neg hi]
      by_cases hi2 : 0 ≤ i ∧ i < s.R.length
      · rw [if_pos hi2, if_pos (by omega)]
      · rw [if_neg hi2, if_neg (by omega)]
  · simp only at hr hx
    rcases at_app hr with ⟨a, hr⟩ | ⟨a, rfl⟩ <;> rcases at_app hx with ⟨b, hx⟩ | ⟨b, rfl⟩
    · exact h.row i r x hr hx
    · omega
    · omega
    · exact ri_it0
  · simp only [List.length_append, List.length_singleton] at hil
    by_cases hi2 : i < s.R.length
    · exact h.left i hi hi2
    · obtain rfl : i = s.R.length := by omega
      obtain ⟨r, hr⟩ := at_lt (l := s.R) (k := s.R.length - 1) (by omega)
      obtain ⟨x, hx⟩ := h.its hr
      have hri := h.row _ _ _ hr hx
      have hfr : x.fr = true := by
        have hg : p.its.getD (p.its.length - 1) it0 = x := getD_at (by rw [← hl]; exact hx)
        rw [hg] at h2
        cases hf : x.fr
        · exact absurd ⟨by omega, hf⟩ h2
        · rfl
      have := h.beg _ 0 r _ x hr hri.first hx (by
        rcases hri.far hfr with a | a
        · exact .inl (by omega)
        · exact .inr (hri.fin a))
      rwa [show (((s.R.length - 1 : Nat)) : Int) = (s.R.length : Int) - 1 by omega] at this
  · obtain ⟨i, k, r, c, x, a1, a2, a3, a4, a5⟩ := h.mem q hq
    exact ⟨i, k, r, c, x, by simp only; rw [List.getElem?_append_left (lt_at a1)]; exact a1, a2, by simp only; rw [List.getElem?_append_left (lt_at a3)]; exact a3, a4, a5⟩
  · simp only at hr hx
    rcases at_app hr with ⟨a, hr⟩ | ⟨a, rfl⟩ <;> rcases at_app hx with ⟨b, hx⟩ | ⟨b, rfl⟩
    · exact h.beg i k r c x hr hc hx hor
    · omega
    · omega
    · have := lt_at hc
      rcases hor with hor | hor
      · simp at hor
      · cases hor
  · simp only at hr ⊢
    rcases at_app hr with ⟨a, hr⟩ | ⟨rfl, rfl⟩
    · have := h.ord i k r c b hr hc hb
      rwa [List.getD_eq_getElem?_getD, List.getElem?_append_left (by omega), ← List.getD_eq_getElem?_getD]
    · exact (hB k _ (List.mem_of_getElem? hb)).elim
  · simp only at hr hx
    rcases at_app hr with ⟨a, hr⟩ | ⟨rfl, rfl⟩
    · rw [List.getElem?_append_left (by omega)] at hx
      exact h.past i k r c x hi hr hc hw hm hx
    · exact (hB k _ hm).elim
/-- An iteration turns, but not its row. -/
theorem Inv.turn {p : Lp} {s : RS} {B : List (Int × Int)} (h : Inv p s B) {i : Nat} {r : List CC} {x y : It} (hr : s.R[i]? = some r) (hx : p.its[i]? = some x) (hy : RI r y) (h1 : y.st = x.st) (h2 : y.bg = x.bg) (h3 : x.fn = true → y.fn = true) : Inv ⟨p.its.set i y, p.en⟩ s B := by
  have hlt := lt_at hx
  refine ⟨by simp [h.len], h.num, fun j r' x' hr' hx' => ?_, h.left, fun q hq => ?_, fun j k r' c x' hr' hc hx' hor => ?_, h.ord, fun j k r' c x' hj hr' hc hw hm hx' => ?_⟩
  · rcases at_set hx' with ⟨rfl, rfl, _⟩ | ⟨_, hx'⟩
    · rw [hr] at hr'; cases hr'; exact hy
    · exact h.row j r' x' hr' hx'
  · obtain ⟨j, k, r', c, x', a1, a2, a3, a4, a5⟩ := h.mem q hq
    by_cases hij : i = j
    · subst hij
      rw [hx] at a3; cases a3
      exact ⟨i, k, r', c, y, a1, a2, by simp [hlt], a4, by rw [h2]; exact a5⟩
    · exact ⟨j, k, r', c, x', a1, a2, by simp only; rw [List.getElem?_set_ne hij]; exact a3, a4, a5⟩
  · rcases at_set hx' with ⟨rfl, rfl, _⟩ | ⟨_, hx'⟩
    · exact h.beg j k r' c x hr' hc hx (by rw [← h2]; exact hor)
    · exact h.beg j k r' c x' hr' hc hx' hor
  · rcases at_set hx' with ⟨e, rfl, _⟩ | ⟨_, hx'⟩
    · rcases h.past j k r' c x hj hr' hc hw hm (by rw [e]; exact hx) with a | a
      · exact .inl (h3 a)
      · exact .inr (by rw [h1]; exact a)
    · exact h.past j k r' c x' hj hr' hc hw hm hx'
theorem cellP_new {p : Lp} {s : RS} {B : List (Int × Int)} (h : Inv p s B) {i : Nat} {r : List CC} {x : It} (hr : s.R[i]? = some r) (hx : p.its[i]? = some x) {k : Nat} {c : CC} (hc : r[k]? = some c) (hk : k = r.length - 1)
    (hp : c.wt = true → 0 < i → (p.its.getD (i - 1) it0).fn = true ∨ c.st < (p.its.getD (i - 1) it0).st) : ∀ q ∈ cellP i (s.R.getD (i - 1) []) r k, q ∈ B := by
  intro q hq
  have hri := h.row i r x hr hx
  unfold cellP at hq
  rcases List.mem_append.1 hq with hq | hq
  · by_cases h0 : k = 0
    · rw [if_pos h0] at hq; cases hq
    · rw [if_neg h0, List.mem_singleton] at hq
      subst hq
      obtain ⟨d, hd⟩ := at_lt (l := r) (k := k - 1) (by have := hri.pos; omega)
      rw [getD_at hd]
      exact h.beg i (k - 1) r d x hr hd hx (.inl (by have := lt_at hc; omega))
  · by_cases hi : i = 0
    · rw [if_pos hi] at hq; cases hq
    · rw [if_neg hi] at hq
      by_cases h0 : k = 0
      · rw [if_pos h0, List.mem_singleton] at hq
        subst hq
        exact h.left i (by omega) (lt_at hr)
      · rw [if_neg h0, getD_at hc] at hq
        by_cases hw : c.wt = true
        · rw [if_pos hw, List.mem_singleton] at hq
          subst hq
          obtain ⟨q', hq'⟩ := at_lt (l := s.R) (k := i - 1) (by have := lt_at hr; omega)
          obtain ⟨y, hy⟩ := h.its hq'
          have hqi := h.row _ _ _ hq' hy
          rw [getD_at hq']
          obtain ⟨m, d, d1, d2, d3⟩ := lastLE_at hqi (s := c.st) (hri.bd c (List.mem_of_getElem? hc)).1
          have hpp := hp hw (by omega)
          rw [getD_at hy] at hpp
          have := h.beg (i - 1) m q' d y hq' d1 hy (by
            rcases hpp with a | a
            · exact .inr (hqi.fin a)
            · left
              have := lt_at d1
              by_cases hm : m = q'.length - 1
              · subst hm
                have hla := hqi.last
                rw [d1] at hla
                cases hla
                simp only at d3; omega
              · omega)
          rw [d2] at this
          rwa [show (((i - 1 : Nat)) : Int) = (i : Int) - 1 by omega] at this
        · rw [if_neg hw] at hq; cases hq
/-- A node begins. -/
theorem Inv.begin {p : Lp} {s : RS} {B : List (Int × Int)} (h : Inv p s B) {e : Ev} {i : Nat} (hi : e.it = i) {r : List CC} {x : It} (hr : s.R[i]? = some r) (hx : p.its[i]? = some x) (he : (beginT p.its x i e).2 = 0) :
    Inv ⟨p.its.set i (beginT p.its x i e).1, p.en⟩ s (B ++ [(e.it, e.st)]) := by
  have hri := h.row i r x hr hx
  unfold beginT at he ⊢
  by_cases h1 : e.st ≠ x.st ∨ x.bg = true
  · rw [if_pos h1] at he; simp at he
  rw [if_neg h1] at he ⊢
  by_cases h2 : x.wt = true ∧ pastT p.its i e.st = false
  · rw [if_pos h2] at he; simp at he
  rw [if_neg h2]
  have hst : e.st = x.st := by
    by_cases hh : e.st = x.st
    · exact hh
    · exact absurd (.inl hh) h1
  have hlt := lt_at hx
  have hpast : x.wt = true → 0 < i → (p.its.getD (i - 1) it0).fn = true ∨ x.st < (p.its.getD (i - 1) it0).st := by
    intro hw h0
    have hp : pastT p.its i e.st = true := by
      cases hh : pastT p.its i e.st
      · exact absurd ⟨hw, hh⟩ h2
      · rfl
    unfold pastT at hp
    rw [show (i == 0) = false by simp; omega] at hp
    simp only [Bool.false_or, Bool.or_eq_true, decide_eq_true_eq] at hp
    rwa [hst] at hp
  have hnew : ((i : Int), x.st) = (e.it, e.st) := by rw [hi, hst]
  rw [← hnew]
  refine ⟨by simp [h.len], h.num, fun j r' x' hr' hx' => ?_, fun j hj hjl => List.mem_append_left _ (h.left j hj hjl), fun q hq => ?_, fun j k r' c x' hr' hc hx' hor => ?_, fun j k r' c b hr' hc hb => ?_, fun j k r' c x' hj hr' hc hw hm hx' => ?_⟩
  · rcases at_set hx' with ⟨rfl, rfl, _⟩ | ⟨_, hx'⟩
    · rw [hr] at hr'; cases hr'; exact ⟨hri.first, hri.last, hri.inc, hri.bd, hri.far, fun _ => rfl⟩
    · exact h.row j r' x' hr' hx'
  · have hnb : ∀ (j k : Nat) (r' : List CC) (x' : It), p.its[j]? = some x' → (k + 1 < r'.length ∨ x'.bg = true) → ∃ y, (p.its.set i { x with bg := true })[j]? = some y ∧ (k + 1 < r'.length ∨ y.bg = true) := by
      intro j k r' x' a3 a5
      by_cases hij : i = j
      · subst hij
        exact ⟨_, by rw [List.getElem?_set, if_pos rfl, if_pos hlt], .inr rfl⟩
      · exact ⟨x', by rw [List.getElem?_set_ne hij]; exact a3, a5⟩
    rcases List.mem_append.1 hq with hq | hq
    · obtain ⟨j, k, r', c, x', a1, a2, a3, a4, a5⟩ := h.mem q hq
      obtain ⟨y, b1, b2⟩ := hnb j k r' x' a3 a5
      exact ⟨j, k, r', c, y, a1, a2, b1, a4, b2⟩
    · rw [List.mem_singleton] at hq
      exact ⟨i, r.length - 1, r, _, { x with bg := true }, hr, hri.last, by simp only; rw [List.getElem?_set, if_pos rfl, if_pos hlt], hq, .inr rfl⟩
  · rcases at_set hx' with ⟨rfl, rfl, _⟩ | ⟨_, hx'⟩
    · rw [hr] at hr'; cases hr'
      by_cases hk : k = r.length - 1
      · subst hk
        have := hri.last
        rw [hc] at this
        cases this
        exact List.mem_append_right _ (by simp)
      · exact List.mem_append_left _ (h.beg j k r c x hr hc hx (.inl (by have := lt_at hc; omega)))
    · exact List.mem_append_left _ (h.beg j k r' c x' hr' hc hx' hor)
  · rcases at_app hb with ⟨hbl, hb'⟩ | ⟨rfl, hb'⟩
    · intro q hq
      rw [List.take_append_of_le_length (by omega)]
      exact h.ord j k r' c b hr' hc hb' q hq
    · injection hb' with hb1 hb2
      obtain rfl : j = i := by omega
      rw [hr] at hr'; cases hr'
      have hk : k = r.length - 1 := hri.inj hc hri.last hb2
      rw [List.take_append_of_le_length (Nat.le_refl _), List.take_length]
      refine cellP_new h hr hx hc hk fun hw h0 => ?_
      subst hk
      have := hri.last
      rw [hc] at this
      cases this
      exact hpast hw h0
  · have hx'' : ∃ y, p.its[j - 1]? = some y ∧ y.fn = x'.fn ∧ y.st = x'.st := by
      rcases at_set hx' with ⟨hji, rfl, _⟩ | ⟨_, hx'⟩
      · exact ⟨x, by rw [hji]; exact hx, rfl, rfl⟩
      · exact ⟨x', hx', rfl, rfl⟩
    obtain ⟨y, y1, y2, y3⟩ := hx''
    rw [← y2, ← y3]
    rcases List.mem_append.1 hm with hm | hm
    · exact h.past j k r' c y hj hr' hc hw hm y1
    · rw [List.mem_singleton] at hm
      injection hm with hm1 hm2
      obtain rfl : j = i := by omega
      rw [hr] at hr'; cases hr'
      have hk : k = r.length - 1 := hri.inj hc hri.last hm2
      subst hk
      have := hri.last
      rw [hc] at this
      cases this
      have := hpast hw hj
      rwa [getD_at y1] at this
theorem cellP_row {i k : Nat} {q r : List CC} {c d : CC} (hc : r[k]? = some c) : cellP i q (r ++ [d]) k = cellP i q r k := by
  have hlt := lt_at hc
  unfold cellP
  simp only [List.getD_eq_getElem?_getD]
  rw [List.getElem?_append_left (by omega), List.getElem?_append_left (by omega)]
theorem cellP_left {i k : Nat} {q r : List CC} {c d : CC} (hc : r[k]? = some c) (h : c.wt = true → c.st < d.st) : cellP i (q ++ [d]) r k = cellP i q r k := by
  unfold cellP
  rw [getD_at hc, lastLE_snoc]
  by_cases hw : c.wt = true
  · have := h hw
    have hn : ¬ d.st ≤ c.st := by omega
    simp only [hn, if_false]
  · rw [if_neg hw, if_neg hw]
/-- It goes on to a stage. -/
theorem Inv.goOn {p : Lp} {s : RS} {B : List (Int × Int)} (h : Inv p s B) {e : Ev} (hk : e.k = 3 ∨ e.k = 6) {i : Nat} (hi : e.it = i) {r : List CC} {x : It} (hr : s.R[i]? = some r) (hx : p.its[i]? = some x) (hf : x.fn = false) (he : (goOnT x e).2 = 0) :
    Inv ⟨p.its.set i (goOnT x e).1, p.en⟩ (stepR s e) B := by
  have hri := h.row i r x hr hx
  have hil := lt_at hr
  unfold goOnT at he ⊢
  by_cases h1 : x.bg = false ∨ e.st ≤ x.st ∨ 1048575 < e.st
  · rw [if_pos h1] at he; simp at he
  rw [if_neg h1]
  have hbg : x.bg = true := by
    cases hh : x.bg
    · exact absurd (.inl hh) h1
    · rfl
  have hs : stepR s e = ⟨s.R.set i (r ++ [⟨e.st, decide (e.k = 3)⟩]), s.A⟩ := by
    have hn := h.num e.it
    rw [if_pos (by omega)] at hn
    unfold stepR
    rw [if_neg (by omega), if_pos hk, hn, if_pos (by omega), show (e.it + 1 - 1).toNat = i by omega, getD_at hr]
  rw [hs]
  have hnew : ∀ st : Int, x.st < st → ((i : Int), st) ∈ B → False := fun st hst hm => by
    obtain ⟨j, k, r', c, x', a1, a2, a3, a4, a5⟩ := h.mem _ hm
    injection a4 with a4 a4'
    obtain rfl : j = i := by omega
    rw [hr] at a1; cases a1
    have := hri.le a2
    omega
  refine ⟨by simp [h.len], fun j => by simp only [List.length_set]; exact h.num j, fun j r' x' hr' hx' => ?_, fun j hj hjl => h.left j hj (by simpa using hjl), fun q hq => ?_, fun j k r' c x' hr' hc hx' hor => ?_, fun j k r' c b hr' hc hb => ?_, fun j k r' c x' hj hr' hc hw hm hx' => ?_⟩
  · rcases at_set hx' with ⟨rfl, rfl, _⟩ | ⟨n1, hx'⟩ <;> rcases at_set hr' with ⟨n2, rfl, _⟩ | ⟨n2, hr'⟩
    · exact hri.add (by omega) (by omega) hf
    · exact absurd rfl n2
    · exact absurd n2 n1
    · exact h.row j r' x' hr' hx'
  · obtain ⟨j, k, r', c, x', a1, a2, a3, a4, a5⟩ := h.mem q hq
    by_cases hij : i = j
    · subst hij
      rw [hr] at a1; cases a1
      have hkl := lt_at a2
      exact ⟨i, k, r ++ [⟨e.st, decide (e.k = 3)⟩], c, ⟨e.st, decide (e.k = 3), false, true, x.fn⟩, by simp only; rw [List.getElem?_set, if_pos rfl, if_pos hil], by rw [List.getElem?_append_left hkl]; exact a2,
        by simp only; rw [List.getElem?_set, if_pos rfl, if_pos (lt_at hx)], a4, .inl (by simp; omega)⟩
    · exact ⟨j, k, r', c, x', by simp only; rw [List.getElem?_set_ne hij]; exact a1, a2, by simp only; rw [List.getElem?_set_ne hij]; exact a3, a4, a5⟩
  · rcases at_set hx' with ⟨rfl, rfl, _⟩ | ⟨n1, hx'⟩ <;> rcases at_set hr' with ⟨n2, rfl, _⟩ | ⟨n2, hr'⟩
    · rcases hor with hor | hor
      · simp only [List.length_append, List.length_singleton] at hor
        rw [List.getElem?_append_left (by omega)] at hc
        exact h.beg j k r c x hr hc hx (.inr hbg)
      · cases hor
    · exact absurd rfl n2
    · exact absurd n2 n1
    · exact h.beg j k r' c x' hr' hc hx' hor
  · have hold : ∃ r0, s.R[j]? = some r0 ∧ r0[k]? = some c ∧ ∀ q, cellP j q r' k = cellP j q r0 k := by
      rcases at_set hr' with ⟨rfl, rfl, _⟩ | ⟨n2, hr'⟩
      · rcases at_app hc with ⟨_, hc⟩ | ⟨_, rfl⟩
        · exact ⟨r, hr, hc, fun q => cellP_row hc⟩
        · exact (hnew _ (by simp only; omega) (List.mem_of_getElem? hb)).elim
      · exact ⟨r', hr', hc, fun q => rfl⟩
    obtain ⟨r0, b1, b2, b3⟩ := hold
    rw [b3]
    have hleft : cellP j ((s.R.set i (r ++ [⟨e.st, decide (e.k = 3)⟩])).getD (j - 1) []) r0 k = cellP j (s.R.getD (j - 1) []) r0 k := by
      by_cases hj0 : j = 0
      · subst hj0
        simp [cellP]
      · by_cases hij : i = j - 1
        · rw [← hij, getD_at (R := s.R.set i _) (r := r ++ [⟨e.st, decide (e.k = 3)⟩]) (by rw [List.getElem?_set, if_pos rfl, if_pos hil]), getD_at hr]
          refine cellP_left b2 fun hw => ?_
          rcases h.past j k r0 c x (by omega) b1 b2 hw (List.mem_of_getElem? hb) (by rw [← hij]; exact hx) with a | a
          · rw [hf] at a; cases a
          · simp only; omega
        · simp only [List.getD_eq_getElem?_getD]
          rw [List.getElem?_set_ne hij]
    simp only
    rw [hleft]
    exact h.ord j k r0 c b b1 b2 hb
  · have hold : ∃ r0, s.R[j]? = some r0 ∧ r0[k]? = some c := by
      rcases at_set hr' with ⟨rfl, rfl, _⟩ | ⟨n2, hr'⟩
      · rcases at_app hc with ⟨_, hc⟩ | ⟨_, rfl⟩
        · exact ⟨r, hr, hc⟩
        · exact (hnew _ (by simp only; omega) hm).elim
      · exact ⟨r', hr', hc⟩
    obtain ⟨r0, b1, b2⟩ := hold
    rcases at_set hx' with ⟨hji, rfl, _⟩ | ⟨_, hx'⟩
    · rcases h.past j k r0 c x hj b1 b2 hw hm (by rw [hji]; exact hx) with a | a
      · exact .inl a
      · exact .inr (by simp only; omega)
    · exact h.past j k r0 c x' hj b1 b2 hw hm hx'
/-- What an event does. -/
theorem Inv.step {p : Lp} {s : RS} {B : List (Int × Int)} (h : Inv p s B) {e : Ev} (hk1 : ¬ (e.k < 1 ∨ 6 < e.k)) (he : (eventT p e).2 = 0) : Inv (eventT p e).1 (stepR s e) (B ++ if e.k = 2 then [(e.it, e.st)] else []) := by
  unfold eventT at he ⊢
  by_cases h1 : p.en = true
  · rw [if_pos h1] at he; simp at he
  rw [if_neg h1] at he ⊢
  by_cases h2 : e.k = 1
  · rw [if_pos h2] at he ⊢
    rw [if_neg (by omega), List.append_nil]
    exact h.start h2 he
  rw [if_neg h2] at he ⊢
  by_cases h3 : e.k = 5
  · rw [if_pos h3] at he ⊢
    rw [if_neg (by omega), List.append_nil]
    have hs : stepR s e = s := by unfold stepR; rw [if_neg h2, if_neg (by omega)]
    rw [hs]
    have : (endT p e).1.its = p.its := by
      unfold endT
      repeat' split
      all_goals rfl
    obtain ⟨a1, a2, a3, a4, a5, a6, a7, a8⟩ := h
    rw [← this] at a1 a3 a5 a6 a8
    exact ⟨a1, a2, a3, a4, a5, a6, a7, a8⟩
  rw [if_neg h3] at he ⊢
  by_cases h4 : e.it < 0 ∨ (p.its.length : Int) ≤ e.it
  · rw [if_pos h4] at he; simp at he
  rw [if_neg h4] at he ⊢
  obtain ⟨i, hi⟩ : ∃ i : Nat, e.it = i := ⟨e.it.toNat, by omega⟩
  have hit : e.it.toNat = i := by omega
  rw [hit] at he ⊢
  obtain ⟨x, hx⟩ := at_lt (l := p.its) (k := i) (by omega)
  obtain ⟨r, hr⟩ := at_lt (l := s.R) (k := i) (by rw [h.len]; omega)
  rw [getD_at hx] at he ⊢
  simp only at he
  unfold iterT at he ⊢
  by_cases h5 : x.fn = true
  · rw [if_pos h5] at he; simp at he
  rw [if_neg h5] at he ⊢
  by_cases h6 : e.k = 2
  · rw [if_pos h6] at he ⊢
    rw [if_pos h6]
    have hs : stepR s e = s := by unfold stepR; rw [if_neg h2, if_neg (by omega)]
    rw [hs]
    exact h.begin hi hr hx he
  rw [if_neg h6] at he ⊢
  rw [if_neg h6, List.append_nil]
  by_cases h7 : e.k ≠ 4
  · rw [if_pos h7] at he ⊢
    exact h.goOn (by omega) hi hr hx (by simpa using h5) he
  rw [if_neg h7] at he ⊢
  have hs : stepR s e = s := by unfold stepR; rw [if_neg h2, if_neg (by omega)]
  rw [hs]
  unfold finT at he ⊢
  by_cases h8 : x.bg = false ∨ e.st ≠ x.st
  · rw [if_pos h8] at he; simp at he
  rw [if_neg h8]
  have hri := h.row i r x hr hx
  have hbg : x.bg = true := by
    cases hh : x.bg
    · exact absurd (.inl hh) h8
    · rfl
  exact h.turn hr hx ⟨hri.first, hri.last, hri.inc, hri.bd, fun _ => .inr rfl, fun _ => hbg⟩ rfl rfl fun _ => rfl
end Go.Proofs.Ythgmfjkbgacfaaa
