/- GridStrands: the plain law: ways in the grid, and what lies ahead of a strand. -/
import Derived.Test.YthgmfjkbgacfaaaGsa
namespace Go.Proofs.Ythgmfjkbgacfaaa.Gs
set_option linter.unusedVariables false
set_option linter.unusedSimpArgs false
open Go Go.Kx Go.Proofs Go.Proofs.Ythgmfjkbgacfaaa.Gr Go.Proofs.Ythgmfjkbgacfaaa.St
open Go.Proofs.Ythgmfjkbgacfaaa.Rx hiding at_lt snoc_ind take_succ_at drop_at mixed

/-- The cells, in order. -/
def cel (l : List (List CC)) (n : Nat) : List (Nat × Nat) := (List.range n).flatMap fun i => (List.range (rw' l i).length).map fun k => (i, k)
theorem cel_succ (l : List (List CC)) (n : Nat) : cel l (n + 1) = cel l n ++ (List.range (rw' l n).length).map fun k => (n, k) := by simp [cel, List.range_succ]
theorem cel_len (l : List (List CC)) (n : Nat) : (cel l n).length + 1 = bs l n := by
  induction n with
  | zero => simp [cel, bs]
  | succ n ih => rw [cel_succ, List.length_append, List.length_map, List.length_range, bs]; omega
theorem bs_pos (l : List (List CC)) (n : Nat) : 1 ≤ bs l n := by have := cel_len l n; omega
theorem bs_le (l : List (List CC)) {n m : Nat} (h : n ≤ m) : bs l n ≤ bs l m := by
  induction h with
  | refl => exact Nat.le_refl _
  | step _ ih => rw [bs]; omega
theorem cel_at (l : List (List CC)) {i k : Nat} (hk : k < (rw' l i).length) : ∀ {n : Nat}, i < n → (cel l n)[bs l i - 1 + k]? = some (i, k) := by
  intro n
  induction n with
  | zero => intro h; omega
  | succ n ih =>
    intro h
    rw [cel_succ]
    have hl := cel_len l n
    by_cases hi : i = n
    · subst hi
      rw [List.getElem?_append_right (by omega)]
      have e : bs l i - 1 + k - (cel l i).length = k := by omega
      rw [e]
      simp [hk]
    · have := ih (by omega)
      rw [List.getElem?_append_left (lt_at this)]
      exact this
theorem cel_ex (l : List (List CC)) {m : Nat} {c : Nat × Nat} : ∀ {n : Nat}, (cel l n)[m]? = some c → c.1 < n ∧ c.2 < (rw' l c.1).length ∧ m + 1 = bs l c.1 + c.2 := by
  intro n
  induction n with
  | zero => intro h; simp [cel] at h
  | succ n ih =>
    intro h
    rw [cel_succ] at h
    have hl := cel_len l n
    by_cases hm : m < (cel l n).length
    · rw [List.getElem?_append_left hm] at h
      obtain ⟨a, b, d⟩ := ih h
      exact ⟨by omega, b, d⟩
    · rw [List.getElem?_append_right (by omega), List.getElem?_map] at h
      obtain ⟨k, hk, rfl⟩ := Option.map_eq_some_iff.1 h
      have hlt := lt_at hk
      rw [List.length_range] at hlt
      rw [List.getElem?_range hlt] at hk
      simp only [Option.some.injEq] at hk
      refine ⟨by simp only; omega, by simp only; omega, by simp only; omega⟩
def nsC (l : List (List CC)) (c : Nat × Nat) : Int × Int := ((c.1 : Int), st (rw' l c.1) c.2)
def prC (l : List (List CC)) (c : Nat × Nat) : List Int := prK c.1 (bs l c.1) (bs l (c.1 - 1)) (rw' l (c.1 - 1)) (rw' l c.1) c.2
def clC (l : List (List CC)) (c : Nat × Nat) : List (Int × Int) := cellP c.1 (rw' l (c.1 - 1)) (rw' l c.1) c.2
def ixC (l : List (List CC)) (c : Nat × Nat) : Nat := bs l c.1 + c.2
def edC (l : List (List CC)) (c : Nat × Nat) : List Ed := (clC l c).map fun p => (p, nsC l c)
theorem pr_cel (l : List (List CC)) (n : Nat) : prAll l n = (cel l n).map (prC l) := by
  simp only [prAll, cel, prRow, List.map_flatMap, List.map_map]
  rfl
theorem nd_cel (l : List (List CC)) (n : Nat) : ndAll l n = (cel l n).map fun c => (1, nsC l c) := by
  simp only [ndAll, cel, ndRow, List.map_flatMap, List.map_map]
  rfl
theorem ed_cel (l : List (List CC)) : edgeL l = (cel l l.length).flatMap (edC l) := by
  simp only [edgeL, gEd, rowEd, cel, List.flatMap_assoc, List.flatMap_map]
  rfl
structure RowsOk (l : List (List CC)) : Prop where
  r : ∀ n, n < l.length → RowOk (rw' l n)
  p : 0 < l.length
  b : bs l l.length ≤ 900
theorem ns_inj {l : List (List CC)} (h : RowsOk l) {c d : Nat × Nat} (hc : c.1 < l.length) (hc2 : c.2 < (rw' l c.1).length) (hd2 : d.2 < (rw' l d.1).length) (e : nsC l c = nsC l d) : c = d := by
  obtain ⟨i, k⟩ := c
  obtain ⟨i', k'⟩ := d
  simp only [nsC, Prod.mk.injEq] at e hc hc2 hd2
  obtain ⟨e1, e2⟩ := e
  obtain rfl : i = i' := by omega
  obtain ⟨c1, h1⟩ := at_lt hc2
  obtain ⟨c2, h2⟩ := at_lt hd2
  have g1 : st (rw' l i) k = c1.st := by unfold st; rw [List.getD_eq_getElem?_getD, h1]; rfl
  have g2 : st (rw' l i) k' = c2.st := by unfold st; rw [List.getD_eq_getElem?_getD, h2]; rfl
  rw [g1, g2] at e2
  rcases Nat.lt_trichotomy k k' with hlt | rfl | hlt
  · have := (h.r i hc).inc _ _ _ _ hlt h1 h2; omega
  · rfl
  · have := (h.r i hc).inc _ _ _ _ hlt h2 h1; omega
theorem last_both (b : Nat) (s : Int) (hs : 0 ≤ s) (q : List CC) : ∀ k, k ≤ q.length → 0 < k → st q 0 = 0 → ∃ x, x < k ∧ lastLE (q.take k) s = st q x ∧ lastA (stRow q b k) s = ((b + x : Nat) : Int) := by
  intro k
  induction k with
  | zero => intro _ h; omega
  | succ k ih =>
    intro hk _ h0
    obtain ⟨c, hc⟩ := at_lt (l := q) (k := k) (by omega)
    have hst : st q k = c.st := by unfold st; rw [List.getD_eq_getElem?_getD, hc]; rfl
    rw [take_succ_at hc, lastLE_snoc, stRow_succ, lastA_snoc]
    simp only
    rw [hst]
    by_cases hle : c.st ≤ s
    · rw [if_pos hle, if_pos hle]
      exact ⟨k, by omega, hst.symm, rfl⟩
    · rw [if_neg hle, if_neg hle]
      have hk0 : 0 < k := by
        rcases Nat.eq_zero_or_pos k with rfl | h
        · rw [h0] at hst; omega
        · exact h
      obtain ⟨x, h1, h2, h3⟩ := ih (by omega) hk0 h0
      exact ⟨x, by omega, h2, h3⟩
/-- Where a cell's strand comes from. -/
theorem src {l : List (List CC)} (h : RowsOk l) {c : Nat × Nat} (hc : c.1 < l.length) (hk : c.2 < (rw' l c.1).length) :
    ∃ D : List (Nat × Nat), (∀ d ∈ D, d.1 < l.length ∧ d.2 < (rw' l d.1).length ∧ ixC l d < ixC l c) ∧ clC l c = D.map (nsC l) ∧ prC l c = if D = [] then [0] else D.map fun d => (ixC l d : Int) := by
  obtain ⟨i, k⟩ := c
  simp only at hc hk
  have hprev : 0 < i → 0 < (rw' l (i - 1)).length ∧ st (rw' l (i - 1)) 0 = 0 ∧ bs l i = bs l (i - 1) + (rw' l (i - 1)).length := by
    intro hi
    have hr := h.r (i - 1) (by omega)
    refine ⟨hr.pos, ?_, ?_⟩
    · obtain ⟨c0, hc0⟩ := at_lt hr.pos
      unfold st
      rw [List.getD_eq_getElem?_getD, hc0]
      exact (hr.first c0 hc0).1
    · have e : i = (i - 1) + 1 := by omega
      conv => lhs; rw [e]
      rfl
  by_cases hk0 : k = 0
  · subst hk0
    by_cases hi0 : i = 0
    · subst hi0
      exact ⟨[], by simp, by simp [clC, cellP], by simp [prC, prK]⟩
    · have hi : 0 < i := by omega
      obtain ⟨p1, p2, p3⟩ := hprev hi
      refine ⟨[(i - 1, 0)], fun d hd => ?_, ?_, ?_⟩
      · simp only [List.mem_singleton] at hd
        subst hd
        exact ⟨by simp only; omega, p1, by simp only [ixC]; omega⟩
      · simp only [clC, cellP, if_true, hi0, if_false, List.nil_append, List.map_singleton, nsC, p2]
        congr 2
        omega
      · simp [prC, prK, hi0, ixC]
  · obtain ⟨k', rfl⟩ : ∃ k', k = k' + 1 := ⟨k - 1, by omega⟩
    have hr := h.r i hc
    have h1 : ∀ d, d = (i, k') → d.1 < l.length ∧ d.2 < (rw' l d.1).length ∧ ixC l d < ixC l (i, k' + 1) := by
      rintro d rfl
      exact ⟨hc, by simp only; omega, by simp only [ixC]; omega⟩
    by_cases hw : ((rw' l i).getD (k' + 1) nc).wt = true ∧ 0 < i
    · obtain ⟨hw1, hi⟩ := hw
      obtain ⟨p1, p2, p3⟩ := hprev hi
      have hs : 0 ≤ st (rw' l i) (k' + 1) := by
        obtain ⟨c1, hc1⟩ := at_lt hk
        unfold st
        rw [List.getD_eq_getElem?_getD, hc1]
        exact (hr.bd c1 (List.mem_of_getElem? hc1)).1
      obtain ⟨x, x1, x2, x3⟩ := last_both (bs l (i - 1)) _ hs (rw' l (i - 1)) _ (Nat.le_refl _) p1 p2
      rw [List.take_length] at x2
      have hi0 : ¬ i = 0 := by omega
      refine ⟨[(i, k'), (i - 1, x)], fun d hd => ?_, ?_, ?_⟩
      · simp only [List.mem_cons, List.not_mem_nil, or_false] at hd
        rcases hd with rfl | rfl
        · exact h1 _ rfl
        · exact ⟨by simp only; omega, x1, by simp only [ixC]; omega⟩
      · have x2' : lastLE (rw' l (i - 1)) ((rw' l i).getD (k' + 1) nc).st = st (rw' l (i - 1)) x := x2
        simp only [clC, cellP, hk0, if_false, hi0, hw1, if_true, Nat.add_sub_cancel, x2', List.map_cons, List.map_nil, nsC, List.singleton_append]
        have e : ((i - 1 : Nat) : Int) = (i : Int) - 1 := by omega
        rw [e]
        rfl
      · simp only [prC, prK, hk0, if_false, hw1, hi, and_self, if_true, Nat.add_sub_cancel, x3, ixC]
        simp
    · have hcl : (if i = 0 then ([] : List (Int × Int)) else if k' + 1 = 0 then [((i : Int) - 1, 0)] else if ((rw' l i).getD (k' + 1) nc).wt = true then [((i : Int) - 1, lastLE (rw' l (i - 1)) ((rw' l i).getD (k' + 1) nc).st)] else []) = [] := by
        by_cases hi0 : i = 0
        · rw [if_pos hi0]
        · rw [if_neg hi0, if_neg hk0, if_neg]
          intro hw1
          exact hw ⟨hw1, by omega⟩
      refine ⟨[(i, k')], fun d hd => h1 d (by simpa using hd), ?_, ?_⟩
      · simp only [clC, cellP]
        rw [hcl]
        simp only [hk0, if_false, Nat.add_sub_cancel, List.append_nil, List.map_singleton, nsC]
        rfl
      · simp only [prC, prK]
        rw [if_neg hk0, if_neg hw]
        simp [ixC]
/-! ### Ways -/
theorem bfR_none {l : List Ed} {t : Int × Int} (h : ∀ e ∈ l, e.2 ≠ t) (a : Int × Int) : bfR l a t = false := by
  induction l with
  | nil => rfl
  | cons e l ih => simp only [bfR]; rw [if_neg (h e (by simp))]; exact ih fun x hx => h x (by simp [hx])
theorem bfR_other (l : List Ed) (S : List (Int × Int)) (t a y : Int × Int) (hy : y ≠ t) : bfR (l ++ S.map fun p => (p, t)).reverse a y = bfR l.reverse a y := by
  induction S using snoc_ind with
  | h0 => simp
  | hs S p ih =>
    rw [List.map_append, ← List.append_assoc, List.map_singleton, bfR_snoc, if_neg (fun e => hy e.symm)]
    exact ih
theorem bfR_into (l : List Ed) (S : List (Int × Int)) (t a : Int × Int) (hS : ∀ p ∈ S, p ≠ t) (hl : ∀ e ∈ l, e.2 ≠ t) : bfR (l ++ S.map fun p => (p, t)).reverse a t = true ↔ ∃ p ∈ S, p = a ∨ bfR l.reverse a p = true := by
  induction S using snoc_ind with
  | h0 =>
    have := bfR_none (l := l.reverse) (t := t) (fun e he => hl e (by simpa using he)) a
    simp [this]
  | hs S p ih =>
    have hp := hS p (by simp)
    rw [List.map_append, ← List.append_assoc, List.map_singleton, bfR_snoc, if_pos rfl, bfR_other _ _ _ _ _ hp, Bool.or_eq_true, Bool.or_eq_true, decide_eq_true_eq, ih fun x hx => hS x (by simp [hx])]
    constructor
    · rintro ((h | h) | ⟨x, h1, h2⟩)
      · exact ⟨p, by simp, .inl h⟩
      · exact ⟨p, by simp, .inr h⟩
      · exact ⟨x, by simp [h1], h2⟩
    · rintro ⟨x, h1, h2⟩
      rcases List.mem_append.1 h1 with h1 | h1
      · exact .inr ⟨x, h1, h2⟩
      · simp only [List.mem_singleton] at h1
        subst h1
        exact .inl h2
def xsG (l : List (List CC)) : List (List Int) := [] :: (prAll l l.length ++ [lsAll l l.length])
theorem xs_at {l : List (List CC)} {m : Nat} {c : Nat × Nat} (h : (cel l l.length)[m]? = some c) : (xsG l)[m + 1]? = some (prC l c) := by
  unfold xsG
  rw [List.getElem?_cons_succ, pr_cel, List.getElem?_append_left (by rw [List.length_map]; exact lt_at h), List.getElem?_map, h]
  rfl
theorem xs_last (l : List (List CC)) : (xsG l)[bs l l.length]? = some (lsAll l l.length) := by
  have h := cel_len l l.length
  unfold xsG
  rw [← h, List.getElem?_cons_succ, pr_cel, List.getElem?_append_right (by rw [List.length_map]; omega), List.length_map, Nat.sub_self]
  rfl
theorem xs_len (l : List (List CC)) : (xsG l).length = bs l l.length + 1 := by
  have h := cel_len l l.length
  simp only [xsG, List.length_cons, List.length_append, List.length_nil, pr_cel, List.length_map]
  omega
theorem okB_of {xss : List (List Int)} : ∀ {i : Nat}, (∀ (k : Nat) (l : List Int), xss[k]? = some l → ∀ p ∈ l, 0 ≤ p ∧ p < ((i + k : Nat) : Int)) → okB i xss = true := by
  induction xss with
  | nil => intro i _; rfl
  | cons x xss ih =>
    intro i h
    simp only [okB, Bool.and_eq_true]
    refine ⟨?_, ih fun k l hk p hp => ?_⟩
    · unfold okPs
      rw [List.all_eq_true]
      intro p hp
      have := h 0 x rfl p hp
      simp only [Bool.and_eq_true, decide_eq_true_eq]
      omega
    · have := h (k + 1) l hk p hp
      omega
theorem xs_ok {l : List (List CC)} (h : RowsOk l) : okB 0 (xsG l) = true := by
  refine okB_of fun k ps hk p hp => ?_
  have hlen := xs_len l
  have hcl := cel_len l l.length
  have hlt := lt_at hk
  cases k with
  | zero => simp [xsG] at hk; subst hk; cases hp
  | succ m =>
    by_cases hm : m < (cel l l.length).length
    · obtain ⟨c, hc⟩ := at_lt hm
      rw [xs_at hc] at hk
      simp only [Option.some.injEq] at hk
      subst hk
      obtain ⟨h1, h2, h3⟩ := cel_ex l hc
      obtain ⟨D, d1, d2, d3⟩ := src h h1 h2
      rw [d3] at hp
      split at hp
      · simp only [List.mem_singleton] at hp; subst hp; exact ⟨by omega, by omega⟩
      · obtain ⟨d, hd, rfl⟩ := List.mem_map.1 hp
        have := (d1 d hd).2.2
        have e : ixC l c = m + 1 := h3.symm
        omega
    · have e : m + 1 = bs l l.length := by omega
      rw [e, xs_last] at hk
      simp only [Option.some.injEq] at hk
      subst hk
      obtain ⟨i, hi, rfl⟩ := List.mem_map.1 hp
      have hi' := List.mem_range.1 hi
      have h1 := bs_le l (n := i + 1) (m := l.length) (by omega)
      have h2 := bs_pos l (i + 1)
      omega
theorem way_iff {l : List (List CC)} (h : RowsOk l) (x : Nat × Nat) (a : Nat) (hx : (cel l l.length)[a]? = some x) : ∀ m, m ≤ (cel l l.length).length → ∀ (b : Nat) (y : Nat × Nat), (cel l l.length)[b]? = some y → b < m →
    (bfR (((cel l l.length).take m).flatMap (edC l)).reverse (nsC l x) (nsC l y) = true ↔ Anc (xsG l) (a + 1) (b + 1)) := by
  intro m
  induction m with
  | zero => intro _ b y _ hb; omega
  | succ m ih =>
    intro hm b y hy hb
    have ihm := ih (by omega)
    obtain ⟨c, hc⟩ := at_lt (l := cel l l.length) (k := m) (by omega)
    obtain ⟨c1, c2, c3⟩ := cel_ex l hc
    obtain ⟨y1, y2, y3⟩ := cel_ex l hy
    obtain ⟨x1, x2, x3⟩ := cel_ex l hx
    rw [take_succ_at hc, List.flatMap_append, List.flatMap_singleton]
    unfold edC at ihm ⊢
    by_cases hbm : b = m
    · subst hbm
      rw [hc] at hy
      simp only [Option.some.injEq] at hy
      subst hy
      obtain ⟨D, d1, d2, d3⟩ := src h c1 c2
      rw [bfR_into]
      · rw [d2]
        have hxc := xs_at hc
        constructor
        · rintro ⟨p, hp, hor⟩
          obtain ⟨d, hd, rfl⟩ := List.mem_map.1 hp
          obtain ⟨e1, e2, e3⟩ := d1 d hd
          have hDn : ¬ D = [] := fun e => by rw [e] at hd; cases hd
          rw [if_neg hDn] at d3
          have hdx : (ixC l d : Int) ∈ prC l c := by rw [d3]; exact List.mem_map.2 ⟨d, hd, rfl⟩
          have hda := cel_at l e2 e1
          have hbp := bs_pos l d.1
          rcases hor with e | e
          · have := ns_inj h e1 e2 x2 e
            subst this
            have : a + 1 = ixC l d := x3
            rw [this]
            exact .dir hxc hdx
          · have hlt : bs l d.1 - 1 + d.2 < b := by
              have : ixC l c = b + 1 := c3.symm
              unfold ixC at e3 this
              omega
            have := (ihm _ d hda hlt).1 e
            have e4 : bs l d.1 - 1 + d.2 + 1 = ixC l d := by unfold ixC; omega
            rw [e4] at this
            exact .via hxc hdx this
        · intro hA
          have key : ∀ p : Nat, ((p : Nat) : Int) ∈ prC l c → 0 < p → ∃ d ∈ D, p = ixC l d := by
            intro p hp hp0
            rw [d3] at hp
            split at hp
            · simp only [List.mem_singleton] at hp; omega
            · obtain ⟨d, hd, e⟩ := List.mem_map.1 hp
              exact ⟨d, hd, by omega⟩
          cases hA with
          | dir e1 e2 =>
            rw [hxc] at e1
            cases e1
            obtain ⟨d, hd, e⟩ := key (a + 1) (by simpa using e2) (by omega)
            obtain ⟨f1, f2, f3⟩ := d1 d hd
            have hda := cel_at l f2 f1
            have hbp := bs_pos l d.1
            have ea : bs l d.1 - 1 + d.2 = a := by unfold ixC at e; omega
            have ed : d.1 = d.1 := rfl
            rw [show bs l d.1 - 1 + d.2 = a from ea] at hda
            rw [hx] at hda
            simp only [Option.some.injEq] at hda
            exact ⟨nsC l d, List.mem_map.2 ⟨d, hd, rfl⟩, .inl (by rw [hda])⟩
          | @via _ p _ _ e1 e2 e3 =>
            rw [hxc] at e1
            cases e1
            have hp0 : 0 < p := by have := e3.lt (xs_ok h); omega
            obtain ⟨d, hd, e⟩ := key p e2 hp0
            obtain ⟨f1, f2, f3⟩ := d1 d hd
            have hda := cel_at l f2 f1
            have hbp := bs_pos l d.1
            have hlt : bs l d.1 - 1 + d.2 < b := by
              have : ixC l c = b + 1 := c3.symm
              unfold ixC at f3 this
              omega
            have e4 : bs l d.1 - 1 + d.2 + 1 = p := by unfold ixC at e; omega
            refine ⟨nsC l d, List.mem_map.2 ⟨d, hd, rfl⟩, .inr ((ihm _ d hda hlt).2 ?_)⟩
            rw [e4]
            exact e3
      · intro p hp
        rw [d2] at hp
        obtain ⟨d, hd, rfl⟩ := List.mem_map.1 hp
        obtain ⟨e1, e2, e3⟩ := d1 d hd
        intro e
        have := ns_inj h e1 e2 c2 e
        subst this
        omega
      · intro e he
        obtain ⟨d, hd, he⟩ := List.mem_flatMap.1 he
        obtain ⟨p, _, rfl⟩ := List.mem_map.1 he
        obtain ⟨j, hj⟩ := List.mem_iff_getElem?.1 hd
        have hjl := lt_at hj
        rw [List.length_take] at hjl
        rw [List.getElem?_take_of_lt (by omega)] at hj
        obtain ⟨j1, j2, j3⟩ := cel_ex l hj
        intro e
        have := ns_inj h j1 j2 c2 e
        subst this
        omega
    · have hne : nsC l y ≠ nsC l c := by
        intro e
        have := ns_inj h y1 y2 c2 e
        subst this
        omega
      rw [bfR_other _ _ _ _ _ hne]
      exact ihm b y hy (by omega)
theorem anc_ex {l : List (List CC)} (h : RowsOk l) {i : Nat} (hi : i < l.length) : ∀ (d k : Nat), k + d + 1 = (rw' l i).length → Anc (xsG l) (bs l i + k) (bs l l.length) := by
  intro d
  induction d with
  | zero =>
    intro k hk
    refine .dir (xs_last l) (List.mem_map.2 ⟨i, List.mem_range.2 hi, ?_⟩)
    rw [bs]
    congr 1
    omega
  | succ d ih =>
    intro k hk
    refine Anc.trans ?_ (ih (k + 1) (by omega))
    have hc := cel_at l (i := i) (k := k + 1) (by omega) hi
    have hb := bs_pos l i
    have := xs_at hc
    rw [show bs l i - 1 + (k + 1) + 1 = bs l i + (k + 1) by omega] at this
    refine .dir this ?_
    simp only [prC, prK, Nat.add_sub_cancel, show ¬ (k + 1 = 0) by omega, if_false]
    split <;> simp
theorem anc_all {l : List (List CC)} (h : RowsOk l) (j : Nat) (hj : j < bs l l.length) : Anc (xsG l) j (bs l l.length) := by
  have hcl := cel_len l l.length
  have node : ∀ m, m < (cel l l.length).length → Anc (xsG l) (m + 1) (bs l l.length) := by
    intro m hm
    obtain ⟨c, hc⟩ := at_lt hm
    obtain ⟨c1, c2, c3⟩ := cel_ex l hc
    rw [c3]
    exact anc_ex h c1 ((rw' l c.1).length - 1 - c.2) c.2 (by omega)
  cases j with
  | succ m => exact node m (by omega)
  | zero =>
    have hr := h.r 0 h.p
    have hc := cel_at l (i := 0) (k := 0) hr.pos h.p
    have hb : bs l 0 = 1 := rfl
    rw [hb] at hc
    have h1 := xs_at hc
    refine Anc.trans (.dir h1 ?_) (node 0 (lt_at hc))
    simp [prC, prK]
/-! ### As it is asked -/
theorem bef_way {l : List (List CC)} (h : RowsOk l) (h0 : gchk l = 0) {a b : Nat} {x y : Nat × Nat} (hx : (cel l l.length)[a]? = some x) (hy : (cel l l.length)[b]? = some y) :
    befR (some (mkM (xsG l))) ((a : Int) + 1) ((b : Int) + 1) = bfE l (nsC l x) (nsC l y) := by
  have hok := xs_ok h
  have hlen := xs_len l
  have hcl := cel_len l l.length
  have ha := lt_at hx
  have hb := lt_at hy
  obtain ⟨x1, x2, x3⟩ := cel_ex l hx
  obtain ⟨y1, y2, y3⟩ := cel_ex l hy
  have hw := way_iff h x a hx _ (Nat.le_refl _) b y hy hb
  rw [List.take_length, ← ed_cel] at hw
  have hbit := mkM_bit hok (b + 1) (by omega) (a + 1)
  rw [bfE_eq h0]
  rw [Bool.eq_iff_iff]
  have e1 : ((a : Int) + 1) = ((a + 1 : Nat) : Int) := by omega
  have e2 : ((b : Int) + 1) = ((b + 1 : Nat) : Int) := by omega
  have hbr : bitR (some (mkM (xsG l))) ((a : Int) + 1) ((b : Int) + 1) = bitW ((mkM (xsG l)).getD (b + 1) []) (a + 1) := by
    rw [e1, e2]
    rfl
  have hin : ∀ n : Nat, n < bs l l.length + 1 → inR (some (mkM (xsG l))) (n : Int) = true := by
    intro n hn
    unfold inR
    rw [show lenR (some (mkM (xsG l))) = (mkM (xsG l)).length from rfl, mkM_len, hlen]
    simp only [Bool.and_eq_true, decide_eq_true_eq]
    omega
  have hia := hin (a + 1) (by omega)
  have hib := hin (b + 1) (by omega)
  rw [← e1] at hia
  rw [← e2] at hib
  simp only [befR, hia, hib, hbr, Bool.true_and, Bool.and_eq_true, decide_eq_true_eq]
  rw [hbit, hw]
  constructor
  · rintro ⟨hlt, hA⟩
    refine ⟨fun e => ?_, hA⟩
    have := ns_inj h x1 x2 y2 e
    subst this
    omega
  · rintro ⟨_, hA⟩
    have := hA.lt hok
    exact ⟨by omega, hA⟩
theorem countP_lt_range (n d : Nat) {f : Nat → Bool} (hf : ∀ j, f j = true ↔ j < n) : (List.range (n + d)).countP f = n := by
  rw [List.range_add, List.countP_append]
  have h1 : (List.range n).countP f = n := by
    rw [List.countP_eq_length.2 fun j hj => (hf j).2 (List.mem_range.1 hj), List.length_range]
  have h2 : ((List.range d).map (n + ·)).countP f = 0 := by
    rw [List.countP_eq_zero]
    intro j hj
    obtain ⟨k, _, rfl⟩ := List.mem_map.1 hj
    rw [hf]
    omega
  rw [h1, h2, Nat.add_zero]
theorem ahead_all {l : List (List CC)} (h : RowsOk l) : aheadR (some (mkM (xsG l))) (bs l l.length : Int) = bs l l.length := by
  have hok := xs_ok h
  have hlen := xs_len l
  have hin : inR (some (mkM (xsG l))) (bs l l.length : Int) = true := by
    unfold inR
    rw [show lenR (some (mkM (xsG l))) = (mkM (xsG l)).length from rfl, mkM_len, hlen]
    simp only [Bool.and_eq_true, decide_eq_true_eq]
    omega
  unfold aheadR
  rw [if_pos hin]
  have e : ((bs l l.length : Int)).toNat = bs l l.length := by omega
  rw [Option.getD_some, e]
  obtain ⟨ws, hws⟩ := at_lt (l := mkM (xsG l)) (k := bs l l.length) (by rw [mkM_len]; omega)
  have hwl := mkM_at _ _ _ hws
  have hbit := mkM_bit hok (bs l l.length) (by omega)
  have hgd : (mkM (xsG l)).getD (bs l l.length) [] = ws := by rw [List.getD_eq_getElem?_getD, hws]; rfl
  rw [hgd] at hbit ⊢
  rw [popS_cnt, hwl]
  obtain ⟨d, hd⟩ : ∃ d, 64 * (bs l l.length / 64 + 1) = bs l l.length + d := ⟨64 * (bs l l.length / 64 + 1) - bs l l.length, by omega⟩
  rw [hd, countP_lt_range]
  intro j
  rw [hbit]
  exact ⟨fun hA => hA.lt hok, fun hj => anc_all h j hj⟩
theorem chk_xs {l : List (List CC)} (h : RowsOk l) : Rx.chk (xsG l) = 0 := by
  unfold Rx.chk
  have := xs_len l
  have := h.b
  rw [if_neg (by omega), if_pos (xs_ok h)]
end Go.Proofs.Ythgmfjkbgacfaaa.Gs
