/- Race: the first clash; Find; great; dags: plain, and the walks (Rca Rcb Rcc Rcd) -/
import Derived.Test.YtncdnegdlkmicaaYr
import Derived.Test.YtncdnegdlkmicaaYc
import Derived.Test.YtncdnegdlkmicaaCRace
import Derived.Test.YtncdnegdlkmicaaVn
import Derived.Test.YtncdnegdlkmicaaVs
/- Race: the first clash of accesses: plain. -/
namespace Go.Proofs.Ytncdnegdlkmicaa.Rc
set_option linter.unusedVariables false
set_option linter.unusedSimpArgs false
open Go Go.Kx Go.Proofs

/-- The first pair that clashes among so many things; none: none does. -/
def FC (c : Nat → Nat → Bool) (n : Nat) : Option (Nat × Nat) → Prop
  | none => ∀ k, k < n → ∀ i, i < k → c i k = false
  | some p => p.1 < p.2 ∧ p.2 < n ∧ c p.1 p.2 = true ∧ (∀ j, j < p.1 → c j p.2 = false) ∧ ∀ k, k < p.2 → ∀ j, j < k → c j k = false
theorem FC.uniq {c : Nat → Nat → Bool} {n : Nat} : ∀ {r s : Option (Nat × Nat)}, FC c n r → FC c n s → r = s := by
  intro r s hr hs
  cases r with
  | none =>
    cases s with
    | none => rfl
    | some q => have := hr q.2 hs.2.1 q.1 hs.1; rw [hs.2.2.1] at this; cases this
  | some p =>
    cases s with
    | none => have := hs p.2 hr.2.1 p.1 hr.1; rw [hr.2.2.1] at this; cases this
    | some q =>
      obtain ⟨p1, p2⟩ := p
      obtain ⟨q1, q2⟩ := q
      obtain ⟨a1, a2, a3, a4, a5⟩ := hr
      obtain ⟨b1, b2, b3, b4, b5⟩ := hs
      simp only at a1 a2 a3 a4 a5 b1 b2 b3 b4 b5
      have e2 : p2 = q2 := by
        rcases Nat.lt_trichotomy p2 q2 with h | h | h
        · have := b5 p2 h p1 a1; rw [a3] at this; cases this
        · exact h
        · have := a5 q2 h q1 b1; rw [b3] at this; cases this
      subst e2
      have e1 : p1 = q1 := by
        rcases Nat.lt_trichotomy p1 q1 with h | h | h
        · have := b4 p1 h; rw [a3] at this; cases this
        · exact h
        · have := a4 q1 h; rw [b3] at this; cases this
      subst e1
      rfl
theorem least {P : Nat → Bool} : ∀ n : Nat, (∀ i, i < n → P i = false) ∨ ∃ i, i < n ∧ P i = true ∧ ∀ j, j < i → P j = false := by
  intro n
  induction n with
  | zero => exact .inl fun i h => absurd h (by omega)
  | succ n ih =>
    rcases ih with h | ⟨i, h1, h2, h3⟩
    · cases hp : P n with
      | true => exact .inr ⟨n, by omega, hp, h⟩
      | false =>
        refine .inl fun i hi => ?_
        by_cases e : i = n
        · subst e; exact hp
        · exact h i (by omega)
    · exact .inr ⟨i, by omega, h2, h3⟩
theorem FC.ex (c : Nat → Nat → Bool) : ∀ n : Nat, ∃ r, FC c n r := by
  intro n
  induction n with
  | zero => exact ⟨none, fun k h => absurd h (by omega)⟩
  | succ n ih =>
    obtain ⟨r, hr⟩ := ih
    cases r with
    | some p => exact ⟨some p, hr.1, by have := hr.2.1; omega, hr.2.2⟩
    | none =>
      rcases least (P := fun i => c i n) n with h | ⟨i, h1, h2, h3⟩
      · refine ⟨none, fun k hk i hi => ?_⟩
        by_cases e : k = n
        · subst e; exact h i hi
        · exact hr k (by omega) i hi
      · exact ⟨some (i, n), h1, by simp, h2, h3, fun k hk j hj => hr k hk j hj⟩
/-- What clashes under c clashes under d: the first one under c is no earlier. -/
theorem FC.mono {c d : Nat → Nat → Bool} {n : Nat} (h : ∀ i k, i < k → k < n → c i k = true → d i k = true) {r : Option (Nat × Nat)} {p : Nat × Nat} (hc : FC c n (some p)) (hd : FC d n r) : ∃ q, r = some q ∧ q.2 ≤ p.2 := by
  have hp := h p.1 p.2 hc.1 hc.2.1 hc.2.2.1
  cases r with
  | none => have := hd p.2 hc.2.1 p.1 hc.1; rw [hp] at this; cases this
  | some q =>
    refine ⟨q, rfl, ?_⟩
    by_cases e : q.2 ≤ p.2
    · exact e
    · have := hd.2.2.2.2 p.2 (by omega) p.1 hc.1; rw [hp] at this; cases this
/-- Only what comes ahead matters. -/
theorem FC.cut {c : Nat → Nat → Bool} {n m : Nat} {p : Nat × Nat} (h : FC c n (some p)) (hm : p.2 < m) : FC c m (some p) := ⟨h.1, hm, h.2.2⟩
theorem FC.cut0 {c : Nat → Nat → Bool} {n : Nat} {p : Nat × Nat} (h : FC c n (some p)) : FC c p.2 none := fun k hk i hi => h.2.2.2.2 k hk i hi
theorem FC.congr {c d : Nat → Nat → Bool} {n : Nat} (h : ∀ i k, i < k → k < n → c i k = d i k) {r : Option (Nat × Nat)} (hc : FC c n r) : FC d n r := by
  cases r with
  | none => exact fun k hk i hi => by rw [← h i k hi hk]; exact hc k hk i hi
  | some p =>
    obtain ⟨h1, h2, h3, h4, h5⟩ := hc
    exact ⟨h1, h2, by rw [← h _ _ h1 h2]; exact h3, fun j hj => by rw [← h _ _ (by omega) h2]; exact h4 j hj, fun k hk j hj => by rw [← h _ _ hj (by omega)]; exact h5 k hk j hj⟩
end Go.Proofs.Ytncdnegdlkmicaa.Rc
/- Race: Find: words and who accesses them; the walk. -/
namespace Go.Proofs.Ytncdnegdlkmicaa.Rc
set_option linter.unusedVariables false
set_option linter.unusedSimpArgs false
open Go Go.Kx Go.Proofs
open Go.Proofs.Ytncdnegdlkmicaa.Rx hiding at_lt snoc_ind take_succ_at drop_at mixed
open Go.Proofs.Ytncdnegdlkmicaa.St (Ac aAc aAc_len aAc_one aAc_pure aAc_res Nd aNd aNd_pure aNd_res)

theorem mixed : Try.prog.follows .mixedOrders = true := by kernel_rfl
theorem ex_In (n : Int) : (AV.v (.int .i64 n)).exact = true := rfl
theorem aholds_x {d : Nat} {n : Option Nat} {x : Operand} {ε : AEnv} {σ : Kx.St} (h : ldA n (evA ε x) σ = some (ε d) ∧ (ε d).exact = true) : SItem.aholds ⟨some d, none, .ld n x⟩ ε σ := .inl ⟨trivial, ε d, h.1, h.2, fun e h' => by cases h'; rfl⟩
/-! ### Accesses by words -/
def wdAt (l : List Ac) (i : Nat) : Int := (l[i]?.map Ac.wd).getD 0
def wrAt (l : List Ac) (i : Nat) : Bool := (l[i]?.map Ac.wr).getD false
def stAt (l : List Ac) (i : Nat) : Int := (l[i]?.map Ac.st).getD 0
theorem wdAt_at {l : List Ac} {i : Nat} {a : Ac} (h : l[i]? = some a) : wdAt l i = a.wd ∧ wrAt l i = a.wr ∧ stAt l i = a.st := by
  unfold wdAt wrAt stAt; rw [h]; exact ⟨rfl, rfl, rfl⟩
/-- Do two clash? -/
def clash (xss : List (List Int)) (l : List Ac) (i k : Nat) : Bool := decide (wdAt l i = wdAt l k) && (wrAt l i || wrAt l k) && aparR (some (mkM xss)) (stAt l i) (stAt l k)
def idxN (l : List Ac) (k : Nat) (w : Int) : List Nat := (List.range k).filter fun i => decide (wdAt l i = w)
def idx (l : List Ac) (k : Nat) (w : Int) : List AV := (idxN l k w).map fun i => AV.v (.int .i64 (i : Nat))
theorem idx_len (l : List Ac) (k : Nat) (w : Int) : (idx l k w).length = (idxN l k w).length := by simp [idx]
theorem idxN_le (l : List Ac) (k : Nat) (w : Int) : (idxN l k w).length ≤ k := by
  have := List.length_filter_le (fun i => decide (wdAt l i = w)) (List.range k)
  rwa [List.length_range] at this
theorem idxN_succ (l : List Ac) (k : Nat) (w : Int) : idxN l (k + 1) w = if wdAt l k = w then idxN l k w ++ [k] else idxN l k w := by
  unfold idxN
  rw [List.range_succ, List.filter_append]
  by_cases h : wdAt l k = w
  · simp [h]
  · simp [h]
theorem idx_succ (l : List Ac) (k : Nat) (w : Int) : idx l (k + 1) w = if wdAt l k = w then idx l k w ++ [.v (.int .i64 (k : Nat))] else idx l k w := by
  unfold idx
  rw [idxN_succ]
  split <;> simp
theorem filt_at {p : Nat → Bool} : ∀ {k t i : Nat}, ((List.range k).filter p)[t]? = some i → i < k ∧ p i = true ∧ ∀ j, j < i → p j = true → j ∈ ((List.range k).filter p).take t := by
  intro k
  induction k with
  | zero => intro t i h; simp at h
  | succ k ih =>
    intro t i h
    rw [List.range_succ, List.filter_append] at h ⊢
    by_cases ht : t < ((List.range k).filter p).length
    · rw [List.getElem?_append_left ht] at h
      obtain ⟨h1, h2, h3⟩ := ih h
      refine ⟨by omega, h2, fun j hj hp => ?_⟩
      rw [List.take_append_of_le_length (by omega)]
      exact h3 j hj hp
    · rw [List.getElem?_append_right (by omega)] at h
      have hpk : p k = true ∧ i = k ∧ t = ((List.range k).filter p).length := by
        cases hp : p k with
        | false => simp [hp] at h
        | true =>
          simp only [List.filter_cons, hp, if_true, List.filter_nil] at h
          have := (List.getElem?_eq_some_iff.1 h).1
          simp at this
          have h0 : t - ((List.range k).filter p).length = 0 := by omega
          rw [h0] at h
          simp at h
          exact ⟨rfl, h.symm, by omega⟩
      obtain ⟨h1, rfl, h3⟩ := hpk
      refine ⟨by omega, h1, fun j hj hp => ?_⟩
      rw [List.take_append_of_le_length (by omega), h3, List.take_length]
      exact List.mem_filter.2 ⟨List.mem_range.2 hj, hp⟩
/-! ### A map of words -/
def getA (z : AV) : List (Int × AV) → Int → AV
  | [], _ => z
  | p :: A, i => if i = p.1 then p.2 else getA z A i
def putA : List (Int × AV) → Int → AV → List (Int × AV)
  | [], i, x => [(i, x)]
  | p :: A, i, x => if i = p.1 then (i, x) :: A else p :: putA A i x
def esA (A : List (Int × AV)) : List (Value × AV) := A.map fun p => (.int .i64 p.1, p.2)
theorem getM_A (z : AV) (A : List (Int × AV)) (i : Int) : getM (.int .i64) z (.int .i64 i) (esA A) = some (getA z A i) := by
  induction A with
  | nil => rfl
  | cons p A ih =>
    simp only [esA, List.map_cons, getM, eqC, if_true, getA] at ih ⊢
    by_cases h : i = p.1
    · subst h; simp
    · rw [show (i == p.1) = false by simpa using h, if_neg h]
      exact ih
theorem putM_A (A : List (Int × AV)) (i : Int) (x : AV) : putM (.int .i64) (.int .i64 i) x (esA A) = some (esA (putA A i x)) := by
  induction A with
  | nil => rfl
  | cons p A ih =>
    simp only [esA, List.map_cons, putM, eqC, if_true, putA] at ih ⊢
    by_cases h : i = p.1
    · subst h; simp [Instr.sameBits]
    · rw [show (i == p.1) = false by simpa using h, if_neg h]
      simp only [ih]
      rfl
theorem getA_putA (z : AV) (A : List (Int × AV)) (i : Int) (x : AV) (j : Int) : getA z (putA A i x) j = if j = i then x else getA z A j := by
  induction A with
  | nil => simp [putA, getA]
  | cons p A ih =>
    simp only [putA]
    by_cases h : i = p.1
    · rw [if_pos h]
      simp only [getA]
      by_cases hj : j = i
      · rw [if_pos hj, if_pos hj]
      · rw [if_neg hj, if_neg hj, if_neg (fun e => hj (e.trans h.symm))]
    · rw [if_neg h]
      simp only [getA, ih]
      by_cases hj : j = p.1
      · rw [if_pos hj, if_pos hj, if_neg (by rw [hj]; exact fun e => h e.symm)]
      · rw [if_neg hj, if_neg hj]
abbrev nilA : AV := absV (.slice none 0 0)
theorem nilA_eq : nilA = .sl 0 [] .nil := rfl
/-- The map holds, for each word, the accesses of it so far. -/
structure MI (σ : Kx.St) (im : Nat) (l : List Ac) (k : Nat) (T : Int → Option (Nat × Nat)) (A : List (Int × AV)) : Prop where
  mp : σ[im]? = some (.map (esA A))
  no : ∀ w, T w = none → getA nilA A w = nilA ∧ idx l k w = []
  yes : ∀ w t v, T w = some (t, v) → getA nilA A w = .sl (idx l k w).length (idx l k w) (.id t v 1) ∧ σ[t]? = some (.tail v) ∧ t ≠ im
  inj : ∀ w w' t v v', T w = some (t, v) → T w' = some (t, v') → w = w'
theorem MI.app {σ τ : Kx.St} {im : Nat} {l : List Ac} {k : Nat} {T : Int → Option (Nat × Nat)} {A : List (Int × AV)} (h : MI σ im l k T A) : MI (σ ++ τ) im l k T A :=
  ⟨get_app h.mp, h.no, fun w t v e => by obtain ⟨a, b, c⟩ := h.yes w t v e; exact ⟨a, get_app b, c⟩, h.inj⟩
theorem MI.set {σ : Kx.St} {im : Nat} {l : List Ac} {k : Nat} {T : Int → Option (Nat × Nat)} {A : List (Int × AV)} (h : MI σ im l k T A) {j w0 : Nat} {cs : List AV} (hj : σ[j]? = some (.obj w0 cs)) (o : Res) : MI (σ.set j o) im l k T A := by
  refine ⟨get_set_ne (fun e => by subst e; have := h.mp; rw [hj] at this; cases this) h.mp, h.no, fun w t v e => ?_, h.inj⟩
  obtain ⟨a, b, c⟩ := h.yes w t v e
  exact ⟨a, get_set_ne (fun e => by subst e; rw [hj] at b; cases b) b, c⟩
/-- A word's accesses so far: there are some, or none. -/
theorem MI.sl {σ : Kx.St} {im : Nat} {l : List Ac} {k : Nat} {T : Int → Option (Nat × Nat)} {A : List (Int × AV)} (h : MI σ im l k T A) (w : Int) : ∃ t, getA nilA A w = .sl (idx l k w).length (idx l k w) t := by
  cases hT : T w with
  | none => obtain ⟨a, b⟩ := h.no w hT; rw [a, b]; exact ⟨_, rfl⟩
  | some p => exact ⟨_, (h.yes w p.1 p.2 hT).1⟩
theorem MI.first {σ : Kx.St} {im : Nat} {l : List Ac} {k : Nat} {T : Int → Option (Nat × Nat)} {A : List (Int × AV)} (h : MI σ im l k T A) (hT : T (wdAt l k) = none) :
    MI ((σ ++ [Res.tail 1]).set im (Res.map (esA (putA A (wdAt l k) (.sl 1 [.v (.int .i64 (k : Nat))] (.id σ.length 1 1)))))) im l (k + 1) (fun w => if w = wdAt l k then some (σ.length, 1) else T w) (putA A (wdAt l k) (.sl 1 [.v (.int .i64 (k : Nat))] (.id σ.length 1 1))) := by
  have hlt := lt_at h.mp
  have h0 := (h.no _ hT).2
  refine ⟨get_set_eq (get_app h.mp), fun w hw => ?_, fun w t v hw => ?_, fun w w' t v v' hw hw' => ?_⟩
  · by_cases e : w = wdAt l k
    · rw [if_pos e] at hw; cases hw
    · rw [if_neg e] at hw
      obtain ⟨a, b⟩ := h.no w hw
      exact ⟨by rw [getA_putA, if_neg e, a], by rw [idx_succ, if_neg (fun e' => e e'.symm), b]⟩
  · by_cases e : w = wdAt l k
    · rw [if_pos e] at hw
      cases hw
      refine ⟨by rw [getA_putA, if_pos e, idx_succ, if_pos e.symm, e, h0]; rfl, ?_, by omega⟩
      exact get_set_ne (by omega) (at_snoc _ _)
    · rw [if_neg e] at hw
      obtain ⟨a, b, c⟩ := h.yes w t v hw
      exact ⟨by rw [getA_putA, if_neg e, a, idx_succ, if_neg (fun e' => e e'.symm)], get_set_ne (fun e => c e.symm) (get_app b), c⟩
  · by_cases e : w = wdAt l k
    · rw [if_pos e] at hw
      cases hw
      by_cases e' : w' = wdAt l k
      · rw [e, e']
      · rw [if_neg e'] at hw'
        have := lt_at (h.yes w' _ _ hw').2.1
        omega
    · rw [if_neg e] at hw
      by_cases e' : w' = wdAt l k
      · rw [if_pos e'] at hw'
        cases hw'
        have := lt_at (h.yes w _ _ hw).2.1
        omega
      · rw [if_neg e'] at hw'
        exact h.inj w w' t v v' hw hw'
theorem MI.more {σ : Kx.St} {im : Nat} {l : List Ac} {k : Nat} {T : Int → Option (Nat × Nat)} {A : List (Int × AV)} (h : MI σ im l k T A) {t v : Nat} (hT : T (wdAt l k) = some (t, v)) :
    MI ((σ.set t (Res.tail (v + 1))).set im (Res.map (esA (putA A (wdAt l k) (.sl ((idx l k (wdAt l k)).length + 1) (idx l k (wdAt l k) ++ [.v (.int .i64 (k : Nat))]) (.id t (v + 1) 1)))))) im l (k + 1) (fun w => if w = wdAt l k then some (t, v + 1) else T w)
      (putA A (wdAt l k) (.sl ((idx l k (wdAt l k)).length + 1) (idx l k (wdAt l k) ++ [.v (.int .i64 (k : Nat))]) (.id t (v + 1) 1))) := by
  obtain ⟨y1, y2, y3⟩ := h.yes _ t v hT
  refine ⟨get_set_eq (get_set_ne y3 h.mp), fun w hw => ?_, fun w t' v' hw => ?_, fun w w' t' v1 v2 hw hw' => ?_⟩
  · by_cases e : w = wdAt l k
    · rw [if_pos e] at hw; cases hw
    · rw [if_neg e] at hw
      obtain ⟨a, b⟩ := h.no w hw
      exact ⟨by rw [getA_putA, if_neg e, a], by rw [idx_succ, if_neg (fun e' => e e'.symm), b]⟩
  · by_cases e : w = wdAt l k
    · rw [if_pos e] at hw
      cases hw
      refine ⟨by rw [getA_putA, if_pos e, idx_succ, if_pos e.symm, e, List.length_append]; rfl, ?_, y3⟩
      exact get_set_ne (fun e => y3 e.symm) (get_set_eq y2)
    · rw [if_neg e] at hw
      obtain ⟨a, b, c⟩ := h.yes w t' v' hw
      have hne : t ≠ t' := fun e' => by subst e'; exact e (h.inj w _ _ _ _ hw hT)
      exact ⟨by rw [getA_putA, if_neg e, a, idx_succ, if_neg (fun e' => e e'.symm)], get_set_ne (fun e => c e.symm) (get_set_ne hne b), c⟩
  · by_cases e : w = wdAt l k
    · rw [if_pos e] at hw
      cases hw
      by_cases e' : w' = wdAt l k
      · rw [e, e']
      · rw [if_neg e'] at hw'
        exact absurd (h.inj w' _ _ _ _ hw' hT) e'
    · rw [if_neg e] at hw
      by_cases e' : w' = wdAt l k
      · rw [if_pos e'] at hw'
        cases hw'
        exact absurd (h.inj w _ _ _ _ hw hT) e
      · rw [if_neg e'] at hw'
        exact h.inj w w' t' v1 v2 hw hw'
/-! ### What is found -/
def badS (xss : List (List Int)) (l : List Ac) : Prop := ∃ a ∈ l, a.st < 0 ∨ (xss.length : Int) ≤ a.st
structure Fd where
  i : Int
  k : Int
  w : Int
  ok : Bool
  e : Int
def FindR (xss : List (List Int)) (l : List Ac) (r : Fd) : Prop :=
  (chk xss ≠ 0 ∧ r = ⟨0, 0, 0, false, chk xss⟩) ∨ (chk xss = 0 ∧ badS xss l ∧ r = ⟨0, 0, 0, false, 3⟩) ∨
  (chk xss = 0 ∧ ¬ badS xss l ∧ ∃ q, FC (clash xss l) l.length q ∧ r = match q with | none => ⟨0, 0, 0, false, 0⟩ | some p => ⟨p.1, p.2, wdAt l p.2, true, 0⟩)
theorem FindR.uniq {xss : List (List Int)} {l : List Ac} {r s : Fd} (h : FindR xss l r) (k : FindR xss l s) : r = s := by
  rcases h with ⟨a, rfl⟩ | ⟨a, b, rfl⟩ | ⟨a, b, q, c, rfl⟩ <;> rcases k with ⟨a', rfl⟩ | ⟨a', b', rfl⟩ | ⟨a', b', q', c', rfl⟩
  · rfl
  · exact absurd a' a
  · exact absurd a' a
  · exact absurd a a'
  · rfl
  · exact absurd b b'
  · exact absurd a a'
  · exact absurd b' b
  · rw [c.uniq c']
def aFd (r : Fd) : AV := .tup [.agg [.v (.int .i64 r.i), .v (.int .i64 r.k), .v (.int .i64 r.w)], .v (.bool r.ok), .v (.int .i64 r.e)]
theorem fin_fd {xss : List (List Int)} {l : List Ac} (σ : Kx.St) (r : Fd) (h : FindR xss l r) : ∃ is, (AV.res (Go.Kx.freeze is σ) (aFd r)).pure = true ∧ ∃ r', AV.res (Go.Kx.freeze is σ) (aFd r) = aFd r' ∧ FindR xss l r' := ⟨[], rfl, r, rfl, h⟩
def aDg (xss : List (List Int)) (nd : AV) (l : List Ac) : List AV := [aInts2 xss, nd, aSlN aAc l]
end Go.Proofs.Ytncdnegdlkmicaa.Rc
/- Race: Find: the walk. -/
namespace Go.Proofs.Ytncdnegdlkmicaa.Rc
set_option linter.unusedVariables false
set_option linter.unusedSimpArgs false
open Go Go.Kx Go.Proofs
open Go.Proofs.Ytncdnegdlkmicaa.Rx hiding at_lt snoc_ind take_succ_at drop_at mixed
open Go.Proofs.Ytncdnegdlkmicaa.St (Ac aAc aAc_len aAc_one aAc_pure aAc_res Nd aNd aNd_pure aNd_res)

theorem cells3a (c : Ac) (t : List AV) : cellsA (some 3) (aAc c ++ t) = some (.agg (aAc c)) := by rw [cellsA_n _ _ (by simp [aAc])]; rfl
theorem set3a (c : Ac) : setAtA [AV.v (.int .i64 0), AV.v (.int .i64 0), AV.v (.bool false)] 0 (aAc c) = aAc c := rfl
theorem set3n (a b c : AV) : setAtA [AV.v (.int .i64 0), AV.v (.int .i64 0), AV.v (.int .i64 0)] 0 [a, b, c] = [a, b, c] := rfl
theorem fill3n (a b c : Int) : fillA [AV.v (.int .i64 0), AV.v (.int .i64 0), AV.v (.int .i64 0)] [(0, 1), (1, 1), (2, 1)] [.v (.int .i64 a), .v (.int .i64 b), .v (.int .i64 c)] = some [.v (.int .i64 a), .v (.int .i64 b), .v (.int .i64 c)] := rfl
theorem fill3z : fillA [AV.v (.int .i64 0), AV.v (.int .i64 0), AV.v (.int .i64 0)] [] [] = some [AV.v (.int .i64 0), AV.v (.int .i64 0), AV.v (.int .i64 0)] := rfl
theorem cell3 (a b c : AV) : cellsA (some 3) [a, b, c] = some (.agg [a, b, c]) := rfl
set_option maxHeartbeats 16000000 in
theorem race_Find_a (xss : List (List Int)) (nd : AV) (l : List Ac) (hnd : nd.pure = true) (hs : xss.length ≤ 1000000) (hs2 : ∀ x ∈ xss, x.length ≤ 1000000) (hl : l.length ≤ 1000000) :
    FnP Try.prog 24 [.agg (aDg xss nd l)] fun a => ∃ r, a = aFd r ∧ FindR xss l r := by
  refine fnP_in K_race_Find mixed rfl (by simp [AV.pureL, AV.pure, aDg, aInts2_pure, hnd, aSlN_pure aAc_pure]) ?_
  simp only [S_race_Find]
  have hac : (AV.agg (aDg xss nd l)).cells = aDg xss nd l := rfl
  have d0 : (aDg xss nd l)[0]? = some (aInts2 xss) := rfl
  have d2 : (aDg xss nd l)[2]? = some (.sl l.length (l.flatMap aAc) .none) := rfl
  have fin := fun (σ : Kx.St) (r : Fd) (h : FindR xss l r) => fin_fd σ r h
  refine wpa_seqx (fun ε σ => (ε 1 = .ref 0 0 0 ∧ ε 2 = .ref 1 0 0) ∧ σ = [.obj 0 (aDg xss nd l), .obj 0 [AV.v (.int .i64 0), AV.v (.int .i64 0), AV.v (.int .i64 0)]]) ?_ ?_
  · intro N X R hN
    simp (maxSteps:=999999) -implicitDefEqProofs (disch:=omega) only [push_cast,↓reduceIte,Nat.reduceEqDiff,reduceCtorEq,wz]
    refine wpa_box ?_
    simp (maxSteps:=999999) -implicitDefEqProofs (disch:=omega) only [push_cast,↓reduceIte,Nat.reduceEqDiff,reduceCtorEq,wz,hac]
    refine wpa_new ?_
    simp (maxSteps:=999999) -implicitDefEqProofs (disch:=omega) only [push_cast,↓reduceIte,Nat.reduceEqDiff,reduceCtorEq,wz]
    exact hN _ _ ⟨by simp (maxSteps:=999999) -implicitDefEqProofs (disch:=omega) only [push_cast,↓reduceIte,Nat.reduceEqDiff,reduceCtorEq,wz], rfl⟩
  rintro ε σ ⟨hρ, rfl⟩
  by_cases hc : chk xss = 0
  · obtain ⟨hk, hok⟩ := chk_zero hc
    have wM : wfR (some (mkM xss)) := wf_mkM hs
    have hlen : lenR (some (mkM xss)) = xss.length := mkM_len xss
    refine wpa_seqx (fun ε σ => (ε 1 = .ref 0 0 0 ∧ ε 2 = .ref 1 0 0 ∧ ε 5 = aR (some (mkM xss)) ∧ ε 6 = .v (.int .i64 0)) ∧ σ = [.obj 0 (aDg xss nd l), .obj 0 [AV.v (.int .i64 0), AV.v (.int .i64 0), AV.v (.int .i64 0)]]) ?_ ?_
    · intro N X R hN
      simp (maxSteps:=999999) -implicitDefEqProofs (disch:=omega) only [push_cast,↓reduceIte,Nat.reduceEqDiff,reduceCtorEq,wz,hρ,d0]
      refine wpa_call (Rx.reach_New_a xss hs hs2) ?_
      rintro a rfl
      simp (maxSteps:=999999) -implicitDefEqProofs (disch:=omega) only [push_cast,↓reduceIte,Nat.reduceEqDiff,reduceCtorEq,wz,hc,aInt]
      exact hN _ _ ⟨by simp (maxSteps:=999999) -implicitDefEqProofs (disch:=omega) only [push_cast,↓reduceIte,Nat.reduceEqDiff,reduceCtorEq,wz,hρ]; rfl, rfl⟩
    clear hρ ε
    rintro ε σ ⟨hρ, rfl⟩
    generalize hM : mkM xss = M at hρ wM hlen
    refine wpa_seq (fun ε σ => (ε 1 = .ref 0 0 0 ∧ ε 2 = .ref 1 0 0 ∧ ε 5 = aR (some M)) ∧ σ = [.obj 0 (aDg xss nd l), .obj 0 [AV.v (.int .i64 0), AV.v (.int .i64 0), AV.v (.int .i64 0)]]) ?_ ?_
    · intro N hN
      simp (maxSteps:=999999) -implicitDefEqProofs (disch:=omega) only [push_cast,↓reduceIte,Nat.reduceEqDiff,reduceCtorEq,wz,hρ]
      exact hN _ _ ⟨by simp (maxSteps:=999999) -implicitDefEqProofs (disch:=omega) only [push_cast,↓reduceIte,Nat.reduceEqDiff,reduceCtorEq,wz,hρ], rfl⟩
    clear hρ ε
    rintro ε σ ⟨hρ, rfl⟩
    refine wpa_seq (fun ε σ => (ε 1 = .ref 0 0 0 ∧ ε 2 = .ref 1 0 0 ∧ ε 5 = aR (some M)) ∧ σ[0]? = some (.obj 0 (aDg xss nd l)) ∧ σ[1]? = some (.obj 0 [AV.v (.int .i64 0), AV.v (.int .i64 0), AV.v (.int .i64 0)]) ∧ ∀ a ∈ l, ¬ (a.st < 0 ∨ (xss.length : Int) ≤ a.st)) ?_ ?_
    · intro N hN
      simp (maxSteps:=999999) -implicitDefEqProofs (disch:=omega) only [push_cast,↓reduceIte,Nat.reduceEqDiff,reduceCtorEq,wz,hρ,d2]
      refine wpa_bl (α := Nat) (I := fun k ε σ => (ε 1 = .ref 0 0 0 ∧ ε 2 = .ref 1 0 0 ∧ ε 5 = aR (some M) ∧ ε 26 = .sl l.length (l.flatMap aAc) .none ∧ ε 27 = .v (.int .i64 l.length) ∧ ε 28 = .v (.int .i64 k)) ∧ k ≤ l.length ∧
          σ[0]? = some (.obj 0 (aDg xss nd l)) ∧ σ[1]? = some (.obj 0 [AV.v (.int .i64 0), AV.v (.int .i64 0), AV.v (.int .i64 0)]) ∧ ∀ a ∈ l.take k, ¬ (a.st < 0 ∨ (xss.length : Int) ≤ a.st))
        (μ := fun k => l.length - k) (Q := fun ε σ => (ε 1 = .ref 0 0 0 ∧ ε 2 = .ref 1 0 0 ∧ ε 5 = aR (some M)) ∧ σ[0]? = some (.obj 0 (aDg xss nd l)) ∧ σ[1]? = some (.obj 0 [AV.v (.int .i64 0), AV.v (.int .i64 0), AV.v (.int .i64 0)]) ∧ ∀ a ∈ l, ¬ (a.st < 0 ∨ (xss.length : Int) ≤ a.st)) (x := 0) ?_ ?_ ?_
      · simp (maxSteps:=999999) -implicitDefEqProofs (disch:=omega) only [push_cast,↓reduceIte,Nat.reduceEqDiff,reduceCtorEq,wz,hρ]
        exact ⟨by omega, fun a ha => absurd ha (by simp)⟩
      · rintro k ε σ N E ⟨hρ, hk2, h0, h1, hgo⟩ hN hE
        simp only [S_race_Find_L1]
        by_cases hlt : k < l.length
        · obtain ⟨a, ha⟩ := at_lt hlt
          have hd := flat_drop aAc_len ha
          have hσ := lt_at h1
          have h0' := get_app (τ := [Res.obj 0 (aAc a)]) h0
          have h1' := get_app (τ := [Res.obj 0 (aAc a)]) h1
          have hB : (σ ++ [Res.obj 0 (aAc a)])[σ.length]? = some (.obj 0 (aAc a)) := at_snoc _ _
          have g0 : (aAc a)[0]? = some (.v (.int .i64 a.st)) := rfl
          simp (maxSteps:=999999) -implicitDefEqProofs (disch:=omega) only [push_cast,↓reduceIte,Nat.reduceEqDiff,reduceCtorEq,wz,hρ,hd,cells3a]
          refine wpa_new ?_
          simp (maxSteps:=999999) -implicitDefEqProofs (disch:=omega) only [push_cast,↓reduceIte,Nat.reduceEqDiff,reduceCtorEq,wz]
          refine wpa_stn (cs := [AV.v (.int .i64 0), AV.v (.int .i64 0), AV.v (.bool false)]) rfl rfl (at_snoc _ _) (by decide) ?_
          rw [set3a, set_snoc]
          generalize σ ++ [Res.obj 0 (aAc a)] = σ1 at h0' h1' hB
          by_cases c1 : a.st < 0
          · simp (maxSteps:=999999) -implicitDefEqProofs (disch:=omega) only [push_cast,↓reduceIte,Nat.reduceEqDiff,reduceCtorEq,wz,hρ,hB,g0,c1,fill3z]
            refine ⟨aholds_off (by simp (maxSteps:=999999) -implicitDefEqProofs (disch:=omega) only [push_cast,↓reduceIte,Nat.reduceEqDiff,reduceCtorEq,wz]) (by simp (maxSteps:=999999) -implicitDefEqProofs (disch:=omega) only [push_cast,↓reduceIte,Nat.reduceEqDiff,reduceCtorEq,wz]), ?_⟩
            refine wpa_stn (n := 3) (l := [AV.v (.int .i64 0), AV.v (.int .i64 0), AV.v (.int .i64 0)]) rfl rfl h1' (by decide) ?_
            have h1'' := get_set_eq (o := Res.obj 0 [AV.v (.int .i64 0), AV.v (.int .i64 0), AV.v (.int .i64 0)]) h1'
            rw [set3n]
            simp (maxSteps:=999999) -implicitDefEqProofs (disch:=omega) only [push_cast,↓reduceIte,Nat.reduceEqDiff,reduceCtorEq,wz,hρ,h1'',cell3]
            exact fin _ ⟨0, 0, 0, false, 3⟩ (.inr (.inl ⟨hc, ⟨a, List.mem_of_getElem? ha, .inl c1⟩, rfl⟩))
          · simp (maxSteps:=999999) -implicitDefEqProofs (disch:=omega) only [push_cast,↓reduceIte,Nat.reduceEqDiff,reduceCtorEq,wz,hρ,hB,g0,c1]
            refine wpa_call (Rx.Len_a (some M)) ?_
            rintro x rfl
            rw [hlen]
            by_cases c2 : (xss.length : Int) ≤ a.st
            · simp (maxSteps:=999999) -implicitDefEqProofs (disch:=omega) only [push_cast,↓reduceIte,Nat.reduceEqDiff,reduceCtorEq,wz,hρ,aInt,fill3z]
              refine ⟨aholds_ldg (a := .v (.int .i64 a.st)) (by simp (maxSteps:=999999) -implicitDefEqProofs (disch:=omega) only [push_cast,↓reduceIte,Nat.reduceEqDiff,reduceCtorEq,wz,hρ]) (by simp (maxSteps:=999999) -implicitDefEqProofs (disch:=omega) only [push_cast,↓reduceIte,Nat.reduceEqDiff,reduceCtorEq,wz,hB,g0]) rfl (by simp (maxSteps:=999999) -implicitDefEqProofs (disch:=omega) only [push_cast,↓reduceIte,Nat.reduceEqDiff,reduceCtorEq,wz]), ?_⟩
              refine wpa_stn (n := 3) (l := [AV.v (.int .i64 0), AV.v (.int .i64 0), AV.v (.int .i64 0)]) rfl rfl h1' (by decide) ?_
              have h1'' := get_set_eq (o := Res.obj 0 [AV.v (.int .i64 0), AV.v (.int .i64 0), AV.v (.int .i64 0)]) h1'
              rw [set3n]
              simp (maxSteps:=999999) -implicitDefEqProofs (disch:=omega) only [push_cast,↓reduceIte,Nat.reduceEqDiff,reduceCtorEq,wz,hρ,h1'',cell3]
              exact fin _ ⟨0, 0, 0, false, 3⟩ (.inr (.inl ⟨hc, ⟨a, List.mem_of_getElem? ha, .inr c2⟩, rfl⟩))
            · simp (maxSteps:=999999) -implicitDefEqProofs (disch:=omega) only [push_cast,↓reduceIte,Nat.reduceEqDiff,reduceCtorEq,wz,hρ,aInt,fill3z]
              refine ⟨aholds_ldg (a := .v (.int .i64 a.st)) (by simp (maxSteps:=999999) -implicitDefEqProofs (disch:=omega) only [push_cast,↓reduceIte,Nat.reduceEqDiff,reduceCtorEq,wz,hρ]) (by simp (maxSteps:=999999) -implicitDefEqProofs (disch:=omega) only [push_cast,↓reduceIte,Nat.reduceEqDiff,reduceCtorEq,wz,hB,g0]) rfl (by simp (maxSteps:=999999) -implicitDefEqProofs (disch:=omega) only [push_cast,↓reduceIte,Nat.reduceEqDiff,reduceCtorEq,wz]), ?_⟩
              refine hN (k + 1) _ _ ?_ (by omega)
              simp (maxSteps:=999999) -implicitDefEqProofs (disch:=omega) only [push_cast,↓reduceIte,Nat.reduceEqDiff,reduceCtorEq,wz,hρ]
              refine ⟨by omega, h0', h1', fun b hb => ?_⟩
              rw [take_succ_at ha] at hb
              rcases List.mem_append.1 hb with hb | hb
              · exact hgo b hb
              · simp at hb; subst hb; omega
        · simp (maxSteps:=999999) -implicitDefEqProofs (disch:=omega) only [push_cast,↓reduceIte,Nat.reduceEqDiff,reduceCtorEq,wz,hρ]
          refine hE _ _ ?_
          simp (maxSteps:=999999) -implicitDefEqProofs (disch:=omega) only [push_cast,↓reduceIte,Nat.reduceEqDiff,reduceCtorEq,wz,hρ]
          refine ⟨h0, h1, ?_⟩
          rwa [List.take_of_length_le (by omega)] at hgo
      · rintro ε σ h
        exact hN _ _ h
    clear hρ ε
    rintro ε σ ⟨hρ, h0, h1, hgood⟩
    have hnb : ¬ badS xss l := fun ⟨a, ha, hb⟩ => hgood a ha hb
    have hσ2 := lt_at h1
    refine wpa_seqx (fun ε σ' => (ε 1 = .ref 0 0 0 ∧ ε 2 = .ref 1 0 0 ∧ ε 5 = aR (some M) ∧ ε 9 = .mp σ.length) ∧ σ' = σ ++ [.map []]) ?_ ?_
    · intro N X R hN
      simp (maxSteps:=999999) -implicitDefEqProofs (disch:=omega) only [push_cast,↓reduceIte,Nat.reduceEqDiff,reduceCtorEq,wz]
      refine wpa_mkm ?_
      simp (maxSteps:=999999) -implicitDefEqProofs (disch:=omega) only [push_cast,↓reduceIte,Nat.reduceEqDiff,reduceCtorEq,wz]
      exact hN _ _ ⟨by simp (maxSteps:=999999) -implicitDefEqProofs (disch:=omega) only [push_cast,↓reduceIte,Nat.reduceEqDiff,reduceCtorEq,wz,hρ], rfl⟩
    clear hρ ε
    rintro ε σ' ⟨hρ, rfl⟩
    have hMI : MI (σ ++ [Res.map []]) σ.length l 0 (fun _ => none) [] := ⟨at_snoc _ _, fun w _ => ⟨rfl, rfl⟩, fun w t v h => absurd h (by simp), fun w w' t v v' h _ => absurd h (by simp)⟩
    have h0' := get_app (τ := [Res.map []]) h0
    have h1' := get_app (τ := [Res.map []]) h1
    clear h0 h1
    generalize σ ++ [Res.map []] = σ1 at hMI h0' h1'
    generalize σ.length = im at hMI hρ hσ2
    refine wpa_seq (fun ε σ => ε 2 = .ref 1 0 0 ∧ σ[1]? = some (.obj 0 [AV.v (.int .i64 0), AV.v (.int .i64 0), AV.v (.int .i64 0)]) ∧ FC (clash xss l) l.length none) ?_ ?_
    · intro N hN
      simp (maxSteps:=999999) -implicitDefEqProofs (disch:=omega) only [push_cast,↓reduceIte,Nat.reduceEqDiff,reduceCtorEq,wz,hρ,h0',d2]
      refine wpa_bl (α := Nat × (Int → Option (Nat × Nat)) × List (Int × AV)) (I := fun s ε σ => (ε 1 = .ref 0 0 0 ∧ ε 2 = .ref 1 0 0 ∧ ε 5 = aR (some M) ∧ ε 9 = .mp im ∧ ε 46 = .sl l.length (l.flatMap aAc) .none ∧ ε 47 = .v (.int .i64 l.length) ∧ ε 48 = .v (.int .i64 s.1)) ∧ s.1 ≤ l.length ∧
          σ[0]? = some (.obj 0 (aDg xss nd l)) ∧ σ[1]? = some (.obj 0 [AV.v (.int .i64 0), AV.v (.int .i64 0), AV.v (.int .i64 0)]) ∧ MI σ im l s.1 s.2.1 s.2.2 ∧ FC (clash xss l) s.1 none)
        (μ := fun s => l.length - s.1) (Q := fun ε σ => ε 2 = .ref 1 0 0 ∧ σ[1]? = some (.obj 0 [AV.v (.int .i64 0), AV.v (.int .i64 0), AV.v (.int .i64 0)]) ∧ FC (clash xss l) l.length none) (x := (0, fun _ => none, [])) ?_ ?_ ?_
      · simp (maxSteps:=999999) -implicitDefEqProofs (disch:=omega) only [push_cast,↓reduceIte,Nat.reduceEqDiff,reduceCtorEq,wz,hρ]
        exact ⟨by omega, h0', h1', hMI, fun k h => by omega⟩
      · rintro ⟨k, T, A⟩ ε σ N E ⟨hρ, hk2, h0, h1, hI, hfc⟩ hN hE
        simp only at hρ hk2 hI hfc
        simp only [S_race_Find_L2]
        by_cases hlt : k < l.length
        · obtain ⟨b, hb⟩ := at_lt hlt
          obtain ⟨w1, w2, w3⟩ := wdAt_at hb
          have hd := flat_drop aAc_len hb
          have Z3 : [AV.v (.int .i64 0), AV.v (.int .i64 0), AV.v (.bool false)].length = 3 := rfl
          refine wpa_seqx (fun ε σ' => (ε 1 = .ref 0 0 0 ∧ ε 2 = .ref 1 0 0 ∧ ε 5 = aR (some M) ∧ ε 9 = .mp im ∧ ε 46 = .sl l.length (l.flatMap aAc) .none ∧ ε 47 = .v (.int .i64 l.length) ∧ ε 48 = .v (.int .i64 k) ∧ ε 49 = .v (.bool true)) ∧ σ' = σ) ?_ ?_
          · intro N X R hN
            simp (maxSteps:=999999) -implicitDefEqProofs (disch:=omega) only [push_cast,↓reduceIte,Nat.reduceEqDiff,reduceCtorEq,wz,hρ]
            exact hN _ _ ⟨by simp (maxSteps:=999999) -implicitDefEqProofs (disch:=omega) only [push_cast,↓reduceIte,Nat.reduceEqDiff,reduceCtorEq,wz,hρ], rfl⟩
          clear hρ ε
          rintro ε σ' ⟨hρ, e1⟩
          rw [e1]
          clear e1 σ'
          refine wpa_seq (fun ε σ' => (ε 1 = .ref 0 0 0 ∧ ε 2 = .ref 1 0 0 ∧ ε 5 = aR (some M) ∧ ε 9 = .mp im ∧ ε 46 = .sl l.length (l.flatMap aAc) .none ∧ ε 47 = .v (.int .i64 l.length) ∧ ε 48 = .v (.int .i64 k)) ∧ σ' = σ) ?_ ?_
          · intro N hN
            simp (maxSteps:=999999) -implicitDefEqProofs (disch:=omega) only [push_cast,↓reduceIte,Nat.reduceEqDiff,reduceCtorEq,wz,hρ]
            exact hN _ _ ⟨by simp (maxSteps:=999999) -implicitDefEqProofs (disch:=omega) only [push_cast,↓reduceIte,Nat.reduceEqDiff,reduceCtorEq,wz,hρ], rfl⟩
          clear hρ ε
          rintro ε σ' ⟨hρ, e1⟩
          rw [e1]
          clear e1 σ'
          refine wpa_seq (fun ε σ' => (ε 1 = .ref 0 0 0 ∧ ε 2 = .ref 1 0 0 ∧ ε 5 = aR (some M) ∧ ε 9 = .mp im ∧ ε 46 = .sl l.length (l.flatMap aAc) .none ∧ ε 47 = .v (.int .i64 l.length) ∧ ε 48 = .v (.int .i64 k)) ∧
              σ'[0]? = some (.obj 0 (aDg xss nd l)) ∧ σ'[1]? = some (.obj 0 [AV.v (.int .i64 0), AV.v (.int .i64 0), AV.v (.int .i64 0)]) ∧ (∃ T A, MI σ' im l (k + 1) T A) ∧ ∀ i, i < k → clash xss l i k = false) ?_ ?_
          · intro N hN
            refine wpa_blk fun X' _ => ?_
            refine wpa_seqx (fun ε σ' => ∃ jb, (ε 1 = .ref 0 0 0 ∧ ε 2 = .ref 1 0 0 ∧ ε 5 = aR (some M) ∧ ε 9 = .mp im ∧ ε 46 = .sl l.length (l.flatMap aAc) .none ∧ ε 47 = .v (.int .i64 l.length) ∧ ε 48 = .v (.int .i64 k) ∧ ε 10 = .v (.int .i64 k) ∧ ε 11 = .ref jb 0 0) ∧
                σ'[0]? = some (.obj 0 (aDg xss nd l)) ∧ σ'[1]? = some (.obj 0 [AV.v (.int .i64 0), AV.v (.int .i64 0), AV.v (.int .i64 0)]) ∧ σ'[jb]? = some (.obj 0 (aAc b)) ∧ MI σ' im l k T A) ?_ ?_
            · intro N X R hN
              simp (maxSteps:=999999) -implicitDefEqProofs (disch:=omega) only [push_cast,↓reduceIte,Nat.reduceEqDiff,reduceCtorEq,wz,hρ,hd,cells3a]
              refine wpa_new ?_
              simp (maxSteps:=999999) -implicitDefEqProofs (disch:=omega) only [push_cast,↓reduceIte,Nat.reduceEqDiff,reduceCtorEq,wz]
              refine wpa_stn (cs := [AV.v (.int .i64 0), AV.v (.int .i64 0), AV.v (.bool false)]) rfl rfl (at_snoc _ _) (by decide) ?_
              rw [set3a, set_snoc]
              simp (maxSteps:=999999) -implicitDefEqProofs (disch:=omega) only [push_cast,↓reduceIte,Nat.reduceEqDiff,reduceCtorEq,wz]
              exact hN _ _ ⟨σ.length, by simp (maxSteps:=999999) -implicitDefEqProofs (disch:=omega) only [push_cast,↓reduceIte,Nat.reduceEqDiff,reduceCtorEq,wz,hρ], get_app h0, get_app h1, at_snoc _ _, hI.app⟩
            clear hρ ε h0 h1 hI
            rintro ε σ2 ⟨jb, hρ, h0, h1, hB, hI⟩
            have g0 : (aAc b)[0]? = some (.v (.int .i64 b.st)) := rfl
            have g1 : (aAc b)[1]? = some (.v (.int .i64 b.wd)) := rfl
            have g2 : (aAc b)[2]? = some (.v (.bool b.wr)) := rfl
            have hgm := getM_A nilA A b.wd
            refine wpa_seq (fun ε σ' => (ε 1 = .ref 0 0 0 ∧ ε 2 = .ref 1 0 0 ∧ ε 5 = aR (some M) ∧ ε 9 = .mp im ∧ ε 46 = .sl l.length (l.flatMap aAc) .none ∧ ε 47 = .v (.int .i64 l.length) ∧ ε 48 = .v (.int .i64 k) ∧ ε 10 = .v (.int .i64 k) ∧ ε 11 = .ref jb 0 0) ∧
                σ'[0]? = some (.obj 0 (aDg xss nd l)) ∧ σ'[1]? = some (.obj 0 [AV.v (.int .i64 0), AV.v (.int .i64 0), AV.v (.int .i64 0)]) ∧ σ'[jb]? = some (.obj 0 (aAc b)) ∧ MI σ' im l k T A ∧ ∀ i, i < k → clash xss l i k = false) ?_ ?_
            · intro N hN
              obtain ⟨tok, htok⟩ := hI.sl b.wd
              have hnl := idx_len l k b.wd
              have hnk := idxN_le l k b.wd
              simp (maxSteps:=999999) -implicitDefEqProofs (disch:=omega) only [push_cast,↓reduceIte,Nat.reduceEqDiff,reduceCtorEq,wz,hρ,hB,g1]
              refine wpa_mlk hI.mp hgm ?_
              rw [htok]
              simp (maxSteps:=999999) -implicitDefEqProofs (disch:=omega) only [push_cast,↓reduceIte,Nat.reduceEqDiff,reduceCtorEq,wz]
              refine wpa_bl (α := Nat) (I := fun t ε σ => (ε 1 = .ref 0 0 0 ∧ ε 2 = .ref 1 0 0 ∧ ε 5 = aR (some M) ∧ ε 9 = .mp im ∧ ε 46 = .sl l.length (l.flatMap aAc) .none ∧ ε 47 = .v (.int .i64 l.length) ∧ ε 48 = .v (.int .i64 k) ∧ ε 10 = .v (.int .i64 k) ∧ ε 11 = .ref jb 0 0 ∧
                  ε 56 = .sl (idx l k b.wd).length (idx l k b.wd) tok ∧ ε 57 = .v (.int .i64 (idx l k b.wd).length) ∧ ε 58 = .v (.int .i64 t)) ∧ t ≤ (idx l k b.wd).length ∧
                  σ[0]? = some (.obj 0 (aDg xss nd l)) ∧ σ[1]? = some (.obj 0 [AV.v (.int .i64 0), AV.v (.int .i64 0), AV.v (.int .i64 0)]) ∧ σ[jb]? = some (.obj 0 (aAc b)) ∧ MI σ im l k T A ∧ ∀ i ∈ (idxN l k b.wd).take t, clash xss l i k = false)
                (μ := fun t => (idx l k b.wd).length - t) (Q := fun ε σ => (ε 1 = .ref 0 0 0 ∧ ε 2 = .ref 1 0 0 ∧ ε 5 = aR (some M) ∧ ε 9 = .mp im ∧ ε 46 = .sl l.length (l.flatMap aAc) .none ∧ ε 47 = .v (.int .i64 l.length) ∧ ε 48 = .v (.int .i64 k) ∧ ε 10 = .v (.int .i64 k) ∧ ε 11 = .ref jb 0 0) ∧
                  σ[0]? = some (.obj 0 (aDg xss nd l)) ∧ σ[1]? = some (.obj 0 [AV.v (.int .i64 0), AV.v (.int .i64 0), AV.v (.int .i64 0)]) ∧ σ[jb]? = some (.obj 0 (aAc b)) ∧ MI σ im l k T A ∧ ∀ i, i < k → clash xss l i k = false) (x := 0) ?_ ?_ ?_
              · simp (maxSteps:=999999) -implicitDefEqProofs (disch:=omega) only [push_cast,↓reduceIte,Nat.reduceEqDiff,reduceCtorEq,wz,hρ]
                exact ⟨by omega, h0, h1, hB, hI, fun i hi => by simp at hi⟩
              · clear hρ ε h0 h1 hB hI
                rintro t ε σ N E ⟨hρ, ht, h0, h1, hB, hI, hno⟩ hN hE
                simp only [S_race_Find_L3]
                by_cases htl : t < (idx l k b.wd).length
                · obtain ⟨i, hi⟩ := at_lt (l := idxN l k b.wd) (k := t) (by omega)
                  have hxi : (idx l k b.wd)[t]? = some (.v (.int .i64 (i : Nat))) := by unfold idx; rw [List.getElem?_map, hi]; rfl
                  obtain ⟨f1, f2, f3⟩ := filt_at hi
                  obtain ⟨a, ha⟩ := at_lt (l := l) (k := i) (by omega)
                  obtain ⟨v1, v2, v3⟩ := wdAt_at ha
                  have hda := flat_drop aAc_len ha
                  have hwd : wdAt l i = b.wd := by simpa using f2
                  have hcl : clash xss l i k = ((a.wr || b.wr) && aparR (some M) a.st b.st) := by
                    unfold clash
                    rw [hM, v2, v3, w2, w3, hwd, w1]
                    simp
                  have q0 : (aAc a)[0]? = some (.v (.int .i64 a.st)) := rfl
                  have q2 : (aAc a)[2]? = some (.v (.bool a.wr)) := rfl
                  have h0' := get_app (τ := [Res.obj 0 (aAc a)]) h0
                  have h1' := get_app (τ := [Res.obj 0 (aAc a)]) h1
                  have hB' := get_app (τ := [Res.obj 0 (aAc a)]) hB
                  have hA' : (σ ++ [Res.obj 0 (aAc a)])[σ.length]? = some (.obj 0 (aAc a)) := at_snoc _ _
                  have hI' := hI.app (τ := [Res.obj 0 (aAc a)])
                  have hAp := Rx.Apart_a (some M) wM a.st b.st
                  simp (maxSteps:=999999) -implicitDefEqProofs (disch:=omega) only [push_cast,↓reduceIte,Nat.reduceEqDiff,reduceCtorEq,wz,hρ,hxi]
                  simp (maxSteps:=999999) -implicitDefEqProofs (disch:=omega) only [push_cast,↓reduceIte,Nat.reduceEqDiff,reduceCtorEq,wz,h0,d2,hda,cells3a]
                  refine wpa_new ?_
                  simp (maxSteps:=999999) -implicitDefEqProofs (disch:=omega) only [push_cast,↓reduceIte,Nat.reduceEqDiff,reduceCtorEq,wz]
                  refine wpa_stn (cs := [AV.v (.int .i64 0), AV.v (.int .i64 0), AV.v (.bool false)]) rfl rfl (at_snoc _ _) (by decide) ?_
                  rw [set3a, set_snoc]
                  generalize σ ++ [Res.obj 0 (aAc a)] = σ1 at h0' h1' hB' hA' hI'
                  have goOn : clash xss l i k = false → ∀ j ∈ (idxN l k b.wd).take (t + 1), clash xss l j k = false := fun h j hj => by
                    rw [take_succ_at hi] at hj
                    rcases List.mem_append.1 hj with hj | hj
                    · exact hno j hj
                    · simp at hj; subst hj; exact h
                  have none_j : ∀ j, j < i → clash xss l j k = false := by
                    intro j hj
                    cases hcj : clash xss l j k with
                    | false => rfl
                    | true =>
                      have hwj : wdAt l j = b.wd := by
                        unfold clash at hcj
                        simp only [Bool.and_eq_true, decide_eq_true_eq] at hcj
                        rw [hcj.1.1, w1]
                      have := hno j (f3 j hj (by simpa using hwj))
                      rw [hcj] at this
                      cases this
                  have found : clash xss l i k = true → FindR xss l ⟨(i : Nat), (k : Nat), b.wd, true, 0⟩ := fun h => .inr (.inr ⟨hc, hnb, some (i, k), ⟨f1, hlt, h, none_j, hfc⟩, by simp only [w1]⟩)
                  have h1'' := get_set_eq (o := Res.obj 0 [AV.v (.int .i64 i), AV.v (.int .i64 k), AV.v (.int .i64 b.wd)]) h1'
                  have ret : ∀ (σ : Kx.St), clash xss l i k = true → ∃ is, (AV.res (Go.Kx.freeze is σ) (aFd ⟨(i : Nat), (k : Nat), b.wd, true, 0⟩)).pure = true ∧ ∃ r', AV.res (Go.Kx.freeze is σ) (aFd ⟨(i : Nat), (k : Nat), b.wd, true, 0⟩) = aFd r' ∧ FindR xss l r' := fun σ h => fin σ _ (found h)
                  cases hw : (a.wr || b.wr) with
                  | false =>
                    have hwa : a.wr = false := by cases ha' : a.wr with | false => rfl | true => rw [ha'] at hw; simp at hw
                    have hwb : b.wr = false := by cases hb' : b.wr with | false => rfl | true => rw [hb'] at hw; simp at hw
                    rw [hwa] at q2
                    have g2' := g2
                    rw [hwb] at g2'
                    simp (maxSteps:=999999) -implicitDefEqProofs (disch:=omega) only [push_cast,↓reduceIte,Nat.reduceEqDiff,reduceCtorEq,wz,hρ,hA',hB',q2,g2']
                    refine hN (t + 1) _ _ ?_ (by omega)
                    simp (maxSteps:=999999) -implicitDefEqProofs (disch:=omega) only [push_cast,↓reduceIte,Nat.reduceEqDiff,reduceCtorEq,wz,hρ]
                    exact ⟨by omega, h0', h1', hB', hI', goOn (by rw [hcl, hw]; rfl)⟩
                  | true =>
                    cases hap : aparR (some M) a.st b.st with
                    | false =>
                      rw [hap] at hAp
                      cases hwa : a.wr with
                      | true =>
                        rw [hwa] at q2
                        simp (maxSteps:=999999) -implicitDefEqProofs (disch:=omega) only [push_cast,↓reduceIte,Nat.reduceEqDiff,reduceCtorEq,wz,hρ,hA',hB',q2,q0,g0]
                        refine wpa_call hAp ?_
                        rintro x rfl
                        simp (maxSteps:=999999) -implicitDefEqProofs (disch:=omega) only [push_cast,↓reduceIte,Nat.reduceEqDiff,reduceCtorEq,wz,hρ,aBool]
                        refine hN (t + 1) _ _ ?_ (by omega)
                        simp (maxSteps:=999999) -implicitDefEqProofs (disch:=omega) only [push_cast,↓reduceIte,Nat.reduceEqDiff,reduceCtorEq,wz,hρ]
                        exact ⟨by omega, h0', h1', hB', hI', goOn (by rw [hcl, hap]; simp)⟩
                      | false =>
                        have hwb : b.wr = true := by rw [hwa] at hw; simpa using hw
                        rw [hwa] at q2
                        have g2' := g2
                        rw [hwb] at g2'
                        simp (maxSteps:=999999) -implicitDefEqProofs (disch:=omega) only [push_cast,↓reduceIte,Nat.reduceEqDiff,reduceCtorEq,wz,hρ,hA',hB',q2,q0,g0,g2']
                        refine wpa_call hAp ?_
                        rintro x rfl
                        simp (maxSteps:=999999) -implicitDefEqProofs (disch:=omega) only [push_cast,↓reduceIte,Nat.reduceEqDiff,reduceCtorEq,wz,hρ,aBool]
                        refine hN (t + 1) _ _ ?_ (by omega)
                        simp (maxSteps:=999999) -implicitDefEqProofs (disch:=omega) only [push_cast,↓reduceIte,Nat.reduceEqDiff,reduceCtorEq,wz,hρ]
                        exact ⟨by omega, h0', h1', hB', hI', goOn (by rw [hcl, hap]; simp)⟩
                    | true =>
                      rw [hap] at hAp
                      have hct : clash xss l i k = true := by rw [hcl, hw, hap]; rfl
                      cases hwa : a.wr with
                      | true =>
                        rw [hwa] at q2
                        simp (maxSteps:=999999) -implicitDefEqProofs (disch:=omega) only [push_cast,↓reduceIte,Nat.reduceEqDiff,reduceCtorEq,wz,hρ,hA',hB',q2,q0,g0]
                        refine wpa_call hAp ?_
                        rintro x rfl
                        simp (maxSteps:=999999) -implicitDefEqProofs (disch:=omega) only [push_cast,↓reduceIte,Nat.reduceEqDiff,reduceCtorEq,wz,hρ,aBool,hB',g1,fill3n]
                        refine wpa_stn (n := 3) (l := [AV.v (.int .i64 i), AV.v (.int .i64 k), AV.v (.int .i64 b.wd)]) rfl rfl h1' (by decide) ?_
                        rw [set3n]
                        simp (maxSteps:=999999) -implicitDefEqProofs (disch:=omega) only [push_cast,↓reduceIte,Nat.reduceEqDiff,reduceCtorEq,wz,hρ,h1'',cell3]
                        exact ret _ hct
                      | false =>
                        have hwb : b.wr = true := by rw [hwa] at hw; simpa using hw
                        rw [hwa] at q2
                        have g2' := g2
                        rw [hwb] at g2'
                        simp (maxSteps:=999999) -implicitDefEqProofs (disch:=omega) only [push_cast,↓reduceIte,Nat.reduceEqDiff,reduceCtorEq,wz,hρ,hA',hB',q2,q0,g0,g2']
                        refine wpa_call hAp ?_
                        rintro x rfl
                        simp (maxSteps:=999999) -implicitDefEqProofs (disch:=omega) only [push_cast,↓reduceIte,Nat.reduceEqDiff,reduceCtorEq,wz,hρ,aBool,hB',g1,fill3n]
                        refine wpa_stn (n := 3) (l := [AV.v (.int .i64 i), AV.v (.int .i64 k), AV.v (.int .i64 b.wd)]) rfl rfl h1' (by decide) ?_
                        rw [set3n]
                        simp (maxSteps:=999999) -implicitDefEqProofs (disch:=omega) only [push_cast,↓reduceIte,Nat.reduceEqDiff,reduceCtorEq,wz,hρ,h1'',cell3]
                        exact ret _ hct
                · simp (maxSteps:=999999) -implicitDefEqProofs (disch:=omega) only [push_cast,↓reduceIte,Nat.reduceEqDiff,reduceCtorEq,wz,hρ]
                  refine hE _ _ ?_
                  simp (maxSteps:=999999) -implicitDefEqProofs (disch:=omega) only [push_cast,↓reduceIte,Nat.reduceEqDiff,reduceCtorEq,wz,hρ]
                  refine ⟨h0, h1, hB, hI, fun i hi => ?_⟩
                  cases hcl : clash xss l i k with
                  | false => rfl
                  | true =>
                    have hwj : wdAt l i = b.wd := by
                      unfold clash at hcl
                      simp only [Bool.and_eq_true, decide_eq_true_eq] at hcl
                      rw [hcl.1.1, w1]
                    have := hno i (by rw [List.take_of_length_le (by omega)]; exact List.mem_filter.2 ⟨List.mem_range.2 hi, by simpa using hwj⟩)
                    rw [hcl] at this; cases this
              · rintro ε σ h
                exact hN _ _ h
            clear hρ ε h0 h1 hB hI
            rintro ε σ3 ⟨hρ, h0, h1, hB, hI, hcl⟩
            have ew : wdAt l k = b.wd := w1
            have hkc : (AV.v (.int .i64 k)).cells = [.v (.int .i64 k)] := rfl
            simp (maxSteps:=999999) -implicitDefEqProofs (disch:=omega) only [push_cast,↓reduceIte,Nat.reduceEqDiff,reduceCtorEq,wz,hρ,hB,g1]
            refine both2 ?_ ?_
            · cases hT : T b.wd with
              | none =>
                refine wpa_mlk hI.mp hgm ?_
                rw [(hI.no _ hT).1, nilA_eq]
                simp (maxSteps:=999999) -implicitDefEqProofs (disch:=omega) only [push_cast,↓reduceIte,Nat.reduceEqDiff,reduceCtorEq,wz,hρ]
                refine ⟨aholds_x (by simp (maxSteps:=999999) -implicitDefEqProofs (disch:=omega) only [push_cast,↓reduceIte,Nat.reduceEqDiff,reduceCtorEq,wz,hρ,hB,g1,ex_In]), ?_⟩
                refine wpa_bsl (sz := 1) (by intro a ha; simp at ha; subst ha; rfl) (by simp) ?_
                simp (maxSteps:=999999) -implicitDefEqProofs (disch:=omega) only [push_cast,↓reduceIte,Nat.reduceEqDiff,reduceCtorEq,wz,hρ,hkc,List.append_nil]
                refine ⟨aholds_x (by simp (maxSteps:=999999) -implicitDefEqProofs (disch:=omega) only [push_cast,↓reduceIte,Nat.reduceEqDiff,reduceCtorEq,wz,hρ,hB,g1,ex_In]), ?_⟩
                refine wpa_app_nil (m := 1) rfl rfl rfl rfl (by omega) (by omega) ?_
                simp (maxSteps:=999999) -implicitDefEqProofs (disch:=omega) only [push_cast,↓reduceIte,Nat.reduceEqDiff,reduceCtorEq,wz,hρ]
                refine ⟨aholds_x (by simp (maxSteps:=999999) -implicitDefEqProofs (disch:=omega) only [push_cast,↓reduceIte,Nat.reduceEqDiff,reduceCtorEq,wz,hρ,get_app hB,g1,ex_In]), ?_⟩
                refine wpa_mup (get_app hI.mp) (putM_A _ _ _) ?_
                simp (maxSteps:=999999) -implicitDefEqProofs (disch:=omega) only [push_cast,↓reduceIte,Nat.reduceEqDiff,reduceCtorEq,wz]
                have hI2 := hI.first (by rw [ew]; exact hT)
                rw [ew] at hI2
                exact hN _ _ ⟨by simp (maxSteps:=999999) -implicitDefEqProofs (disch:=omega) only [push_cast,↓reduceIte,Nat.reduceEqDiff,reduceCtorEq,wz,hρ], get_set_ne (by omega) (get_app h0), get_set_ne (by omega) (get_app h1), ⟨_, _, hI2⟩, hcl⟩
              | some tv =>
                obtain ⟨t, v⟩ := tv
                obtain ⟨y1, y2, y3⟩ := hI.yes _ t v hT
                have hne : t ≠ jb := fun e => by subst e; rw [y2] at hB; cases hB
                have hnt0 : t ≠ 0 := fun e => by subst e; rw [y2] at h0; cases h0
                have hnt1 : t ≠ 1 := fun e => by subst e; rw [y2] at h1; cases h1
                have hnk := idxN_le l k b.wd
                have hnl := idx_len l k b.wd
                refine wpa_mlk hI.mp hgm ?_
                rw [y1]
                simp (maxSteps:=999999) -implicitDefEqProofs (disch:=omega) only [push_cast,↓reduceIte,Nat.reduceEqDiff,reduceCtorEq,wz,hρ]
                refine ⟨aholds_x (by simp (maxSteps:=999999) -implicitDefEqProofs (disch:=omega) only [push_cast,↓reduceIte,Nat.reduceEqDiff,reduceCtorEq,wz,hρ,hB,g1,ex_In]), ?_⟩
                refine wpa_bsl (sz := 1) (by intro a ha; simp at ha; subst ha; rfl) (by simp) ?_
                simp (maxSteps:=999999) -implicitDefEqProofs (disch:=omega) only [push_cast,↓reduceIte,Nat.reduceEqDiff,reduceCtorEq,wz,hρ,hkc,List.append_nil]
                refine ⟨aholds_x (by simp (maxSteps:=999999) -implicitDefEqProofs (disch:=omega) only [push_cast,↓reduceIte,Nat.reduceEqDiff,reduceCtorEq,wz,hρ,hB,g1,ex_In]), ?_⟩
                refine wpa_app (m := 1) rfl rfl rfl rfl (by simp) (by omega) (by omega) y2 ?_
                simp (maxSteps:=999999) -implicitDefEqProofs (disch:=omega) only [push_cast,↓reduceIte,Nat.reduceEqDiff,reduceCtorEq,wz,hρ]
                refine ⟨aholds_x (by simp (maxSteps:=999999) -implicitDefEqProofs (disch:=omega) only [push_cast,↓reduceIte,Nat.reduceEqDiff,reduceCtorEq,wz,hρ,get_set_ne hne hB,g1,ex_In]), ?_⟩
                refine wpa_mup (get_set_ne y3 hI.mp) (putM_A _ _ _) ?_
                simp (maxSteps:=999999) -implicitDefEqProofs (disch:=omega) only [push_cast,↓reduceIte,Nat.reduceEqDiff,reduceCtorEq,wz]
                have hI2 := hI.more (by rw [ew]; exact hT)
                rw [ew] at hI2
                exact hN _ _ ⟨by simp (maxSteps:=999999) -implicitDefEqProofs (disch:=omega) only [push_cast,↓reduceIte,Nat.reduceEqDiff,reduceCtorEq,wz,hρ], get_set_ne (by omega) (get_set_ne hnt0 h0), get_set_ne (by omega) (get_set_ne hnt1 h1), ⟨_, _, hI2⟩, hcl⟩
            · cases hT : T b.wd with
              | none =>
                refine wpa_bsl (sz := 1) (by intro a ha; simp at ha; subst ha; rfl) (by simp) ?_
                simp (maxSteps:=999999) -implicitDefEqProofs (disch:=omega) only [push_cast,↓reduceIte,Nat.reduceEqDiff,reduceCtorEq,wz,hρ,hkc,List.append_nil]
                refine ⟨aholds_x (by simp (maxSteps:=999999) -implicitDefEqProofs (disch:=omega) only [push_cast,↓reduceIte,Nat.reduceEqDiff,reduceCtorEq,wz,hρ,hB,g1,ex_In]), aholds_x (by simp (maxSteps:=999999) -implicitDefEqProofs (disch:=omega) only [push_cast,↓reduceIte,Nat.reduceEqDiff,reduceCtorEq,wz,hρ,hB,g1,ex_In]), ?_⟩
                refine wpa_mlk hI.mp hgm ?_
                rw [(hI.no _ hT).1, nilA_eq]
                simp (maxSteps:=999999) -implicitDefEqProofs (disch:=omega) only [push_cast,↓reduceIte,Nat.reduceEqDiff,reduceCtorEq,wz,hρ]
                refine ⟨aholds_x (by simp (maxSteps:=999999) -implicitDefEqProofs (disch:=omega) only [push_cast,↓reduceIte,Nat.reduceEqDiff,reduceCtorEq,wz,hρ,hB,g1,ex_In]), ?_⟩
                refine wpa_app_nil (m := 1) rfl rfl rfl rfl (by omega) (by omega) ?_
                simp (maxSteps:=999999) -implicitDefEqProofs (disch:=omega) only [push_cast,↓reduceIte,Nat.reduceEqDiff,reduceCtorEq,wz,hρ]
                refine ⟨aholds_x (by simp (maxSteps:=999999) -implicitDefEqProofs (disch:=omega) only [push_cast,↓reduceIte,Nat.reduceEqDiff,reduceCtorEq,wz,hρ,get_app hB,g1,ex_In]), ?_⟩
                refine wpa_mup (get_app hI.mp) (putM_A _ _ _) ?_
                simp (maxSteps:=999999) -implicitDefEqProofs (disch:=omega) only [push_cast,↓reduceIte,Nat.reduceEqDiff,reduceCtorEq,wz]
                have hI2 := hI.first (by rw [ew]; exact hT)
                rw [ew] at hI2
                exact hN _ _ ⟨by simp (maxSteps:=999999) -implicitDefEqProofs (disch:=omega) only [push_cast,↓reduceIte,Nat.reduceEqDiff,reduceCtorEq,wz,hρ], get_set_ne (by omega) (get_app h0), get_set_ne (by omega) (get_app h1), ⟨_, _, hI2⟩, hcl⟩
              | some tv =>
                obtain ⟨t, v⟩ := tv
                obtain ⟨y1, y2, y3⟩ := hI.yes _ t v hT
                have hne : t ≠ jb := fun e => by subst e; rw [y2] at hB; cases hB
                have hnt0 : t ≠ 0 := fun e => by subst e; rw [y2] at h0; cases h0
                have hnt1 : t ≠ 1 := fun e => by subst e; rw [y2] at h1; cases h1
                have hnk := idxN_le l k b.wd
                have hnl := idx_len l k b.wd
                refine wpa_bsl (sz := 1) (by intro a ha; simp at ha; subst ha; rfl) (by simp) ?_
                simp (maxSteps:=999999) -implicitDefEqProofs (disch:=omega) only [push_cast,↓reduceIte,Nat.reduceEqDiff,reduceCtorEq,wz,hρ,hkc,List.append_nil]
                refine ⟨aholds_x (by simp (maxSteps:=999999) -implicitDefEqProofs (disch:=omega) only [push_cast,↓reduceIte,Nat.reduceEqDiff,reduceCtorEq,wz,hρ,hB,g1,ex_In]), aholds_x (by simp (maxSteps:=999999) -implicitDefEqProofs (disch:=omega) only [push_cast,↓reduceIte,Nat.reduceEqDiff,reduceCtorEq,wz,hρ,hB,g1,ex_In]), ?_⟩
                refine wpa_mlk hI.mp hgm ?_
                rw [y1]
                simp (maxSteps:=999999) -implicitDefEqProofs (disch:=omega) only [push_cast,↓reduceIte,Nat.reduceEqDiff,reduceCtorEq,wz,hρ]
                refine ⟨aholds_x (by simp (maxSteps:=999999) -implicitDefEqProofs (disch:=omega) only [push_cast,↓reduceIte,Nat.reduceEqDiff,reduceCtorEq,wz,hρ,hB,g1,ex_In]), ?_⟩
                refine wpa_app (m := 1) rfl rfl rfl rfl (by simp) (by omega) (by omega) y2 ?_
                simp (maxSteps:=999999) -implicitDefEqProofs (disch:=omega) only [push_cast,↓reduceIte,Nat.reduceEqDiff,reduceCtorEq,wz,hρ]
                refine ⟨aholds_x (by simp (maxSteps:=999999) -implicitDefEqProofs (disch:=omega) only [push_cast,↓reduceIte,Nat.reduceEqDiff,reduceCtorEq,wz,hρ,get_set_ne hne hB,g1,ex_In]), ?_⟩
                refine wpa_mup (get_set_ne y3 hI.mp) (putM_A _ _ _) ?_
                simp (maxSteps:=999999) -implicitDefEqProofs (disch:=omega) only [push_cast,↓reduceIte,Nat.reduceEqDiff,reduceCtorEq,wz]
                have hI2 := hI.more (by rw [ew]; exact hT)
                rw [ew] at hI2
                exact hN _ _ ⟨by simp (maxSteps:=999999) -implicitDefEqProofs (disch:=omega) only [push_cast,↓reduceIte,Nat.reduceEqDiff,reduceCtorEq,wz,hρ], get_set_ne (by omega) (get_set_ne hnt0 h0), get_set_ne (by omega) (get_set_ne hnt1 h1), ⟨_, _, hI2⟩, hcl⟩
          clear hρ ε h0 h1 hI
          rintro ε σ3 ⟨hρ, h0, h1, ⟨T', A', hI⟩, hcl⟩
          simp (maxSteps:=999999) -implicitDefEqProofs (disch:=omega) only [push_cast,↓reduceIte,Nat.reduceEqDiff,reduceCtorEq,wz,hρ]
          refine hN (k + 1, T', A') _ _ ?_ (by simp only; omega)
          simp (maxSteps:=999999) -implicitDefEqProofs (disch:=omega) only [push_cast,↓reduceIte,Nat.reduceEqDiff,reduceCtorEq,wz,hρ]
          refine ⟨by omega, h0, h1, hI, fun k' hk' i hi => ?_⟩
          by_cases e : k' = k
          · subst e; exact hcl i hi
          · exact hfc k' (by omega) i hi
        · simp (maxSteps:=999999) -implicitDefEqProofs (disch:=omega) only [push_cast,↓reduceIte,Nat.reduceEqDiff,reduceCtorEq,wz,hρ]
          refine hE _ _ ?_
          simp (maxSteps:=999999) -implicitDefEqProofs (disch:=omega) only [push_cast,↓reduceIte,Nat.reduceEqDiff,reduceCtorEq,wz,hρ]
          exact ⟨h1, by rwa [show k = l.length by omega] at hfc⟩
      · rintro ε σ h
        exact hN _ _ h
    clear hρ ε
    rintro ε σ ⟨hρ, h1, hfc⟩
    simp (maxSteps:=999999) -implicitDefEqProofs (disch:=omega) only [push_cast,↓reduceIte,Nat.reduceEqDiff,reduceCtorEq,wz,hρ,fill3z]
    refine wpa_stn (n := 3) (l := [AV.v (.int .i64 0), AV.v (.int .i64 0), AV.v (.int .i64 0)]) rfl rfl h1 (by decide) ?_
    have h1'' := get_set_eq (o := Res.obj 0 [AV.v (.int .i64 0), AV.v (.int .i64 0), AV.v (.int .i64 0)]) h1
    rw [set3n]
    simp (maxSteps:=999999) -implicitDefEqProofs (disch:=omega) only [push_cast,↓reduceIte,Nat.reduceEqDiff,reduceCtorEq,wz,hρ,h1'',cell3]
    exact fin _ ⟨0, 0, 0, false, 0⟩ (.inr (.inr ⟨hc, hnb, none, hfc, rfl⟩))
  · refine wpa_seqx (fun ε σ => (ε 2 = .ref 1 0 0 ∧ ε 6 = .v (.int .i64 (chk xss))) ∧ σ = [.obj 0 (aDg xss nd l), .obj 0 [AV.v (.int .i64 0), AV.v (.int .i64 0), AV.v (.int .i64 0)]]) ?_ ?_
    · intro N X R hN
      simp (maxSteps:=999999) -implicitDefEqProofs (disch:=omega) only [push_cast,↓reduceIte,Nat.reduceEqDiff,reduceCtorEq,wz,hρ,d0]
      refine wpa_call (Rx.reach_New_a xss hs hs2) ?_
      rintro a rfl
      simp (maxSteps:=999999) -implicitDefEqProofs (disch:=omega) only [push_cast,↓reduceIte,Nat.reduceEqDiff,reduceCtorEq,wz,hc,aInt]
      exact hN _ _ ⟨by simp (maxSteps:=999999) -implicitDefEqProofs (disch:=omega) only [push_cast,↓reduceIte,Nat.reduceEqDiff,reduceCtorEq,wz,hρ], rfl⟩
    clear hρ ε
    rintro ε σ ⟨hρ, rfl⟩
    simp (maxSteps:=999999) -implicitDefEqProofs (disch:=omega) only [push_cast,↓reduceIte,Nat.reduceEqDiff,reduceCtorEq,wz,hρ,hc,fill3z]
    refine wpa_stn (n := 3) (l := [AV.v (.int .i64 0), AV.v (.int .i64 0), AV.v (.int .i64 0)]) rfl rfl rfl (by decide) ?_
    rw [set3n]
    simp (maxSteps:=999999) -implicitDefEqProofs (disch:=omega) only [push_cast,↓reduceIte,Nat.reduceEqDiff,reduceCtorEq,wz,hρ,cell3]
    exact fin _ ⟨0, 0, 0, false, chk xss⟩ (.inl ⟨hc, rfl⟩)
end Go.Proofs.Ytncdnegdlkmicaa.Rc
/- Race: the document's Find; great; dags of their own: the walks. -/
namespace Go.Proofs.Ytncdnegdlkmicaa.Rc
set_option linter.unusedVariables false
set_option linter.unusedSimpArgs false
open Go Go.Kx Go.Proofs
open Go.Proofs.Ytncdnegdlkmicaa.Rx hiding at_lt snoc_ind take_succ_at drop_at mixed
open Go.Proofs.Ytncdnegdlkmicaa.St (Ac aAc aAc_len aAc_one aAc_pure aAc_res Nd aNd aNd_pure aNd_res)

def aAcs (l : List Ac) : AV := aSlN aAc l
theorem aAcs_pure (l : List Ac) : (aAcs l).pure = true := aSlN_pure aAc_pure l
set_option maxHeartbeats 4000000 in
theorem law32_great_a (xss : List (List Int)) (l : List Ac) (hs : xss.length ≤ 9223372036854775807) (hl : l.length ≤ 9223372036854775807) :
    FnP Try.prog 23 [aInts2 xss, aAcs l] fun a => ∃ b, a = aBool b ∧ (b = false → l.length ≤ 150 ∧ xss.length ≤ 200 ∧ ∀ x ∈ xss, x.length ≤ 60) := by
  refine fnP_in K_forebaylaw32_great mixed rfl (by simp [AV.pureL, aInts2_pure, aAcs_pure]) ?_
  simp only [S_forebaylaw32_great]
  have hX : aInts2 xss = .sl xss.length (xss.map aInts) .none := rfl
  have hA : aAcs l = .sl l.length (l.flatMap aAc) .none := rfl
  by_cases c1 : 150 < l.length
  · simp (maxSteps:=999999) -implicitDefEqProofs (disch:=omega) only [push_cast,↓reduceIte,Nat.reduceEqDiff,reduceCtorEq,wz,hX,hA,c1]
    exact ⟨[], rfl, true, rfl, by simp⟩
  by_cases c2 : 200 < xss.length
  · simp (maxSteps:=999999) -implicitDefEqProofs (disch:=omega) only [push_cast,↓reduceIte,Nat.reduceEqDiff,reduceCtorEq,wz,hX,hA,c1,c2]
    exact ⟨[], rfl, true, rfl, by simp⟩
  simp (maxSteps:=999999) -implicitDefEqProofs (disch:=omega) only [push_cast,↓reduceIte,Nat.reduceEqDiff,reduceCtorEq,wz,hX,hA,c1,c2]
  refine wpa_bl (α := Nat) (I := fun k ε σ => (ε 0 = aInts2 xss ∧ ε 5 = .v (.int .i64 k)) ∧ k ≤ xss.length ∧ ∀ x ∈ xss.take k, x.length ≤ 60)
    (μ := fun k => xss.length - k) (Q := fun ε σ => ∀ x ∈ xss, x.length ≤ 60) (x := 0) ?_ ?_ ?_
  · simp (maxSteps:=999999) -implicitDefEqProofs (disch:=omega) only [push_cast,↓reduceIte,Nat.reduceEqDiff,reduceCtorEq,wz,hX]
    exact ⟨by omega, fun x hx => absurd hx (by simp)⟩
  · rintro k ε σ N E ⟨hρ, hk, hgo⟩ hN hE
    simp only [S_forebaylaw32_great_L1]
    by_cases hlt : k < xss.length
    · obtain ⟨x, hx⟩ := at_lt hlt
      have hxx : aInts x = .sl x.length (x.map aInt) .none := rfl
      by_cases c3 : 60 < x.length
      · simp (maxSteps:=999999) -implicitDefEqProofs (disch:=omega) only [push_cast,↓reduceIte,Nat.reduceEqDiff,reduceCtorEq,wz,hρ,hX,hx,hxx,c3]
        exact ⟨[], rfl, true, rfl, by simp⟩
      · simp (maxSteps:=999999) -implicitDefEqProofs (disch:=omega) only [push_cast,↓reduceIte,Nat.reduceEqDiff,reduceCtorEq,wz,hρ,hX,hx,hxx,c3]
        refine hN (k + 1) _ _ ?_ (by omega)
        simp (maxSteps:=999999) -implicitDefEqProofs (disch:=omega) only [push_cast,↓reduceIte,Nat.reduceEqDiff,reduceCtorEq,wz,hρ,hX]
        refine ⟨by omega, fun y hy => ?_⟩
        rw [take_succ_at hx] at hy
        rcases List.mem_append.1 hy with hy | hy
        · exact hgo y hy
        · simp at hy; subst hy; omega
    · simp (maxSteps:=999999) -implicitDefEqProofs (disch:=omega) only [push_cast,↓reduceIte,Nat.reduceEqDiff,reduceCtorEq,wz,hρ,hX]
      refine hE _ _ ?_
      rwa [List.take_of_length_le (by omega)] at hgo
  · rintro ε σ h
    simp (maxSteps:=999999) -implicitDefEqProofs (disch:=omega) only [push_cast,↓reduceIte,Nat.reduceEqDiff,reduceCtorEq,wz]
    exact ⟨[], rfl, false, rfl, fun _ => ⟨by omega, by omega, h⟩⟩
def S2_forebaylaw32_dag_L1 : SCode :=
  .seq (.seq (.reg (straight [⟨some 11, none, .pur .mov [.tmp 6]⟩, ⟨some 12, none, .pur .mov [.tmp 0]⟩, ⟨some 13, none, .pur (.len false) [.tmp 12]⟩, ⟨some 14, none, .pur (.bin .lss) [.tmp 11, .tmp 13]⟩]) [14])
  (.cond (.tmp 14) (.skip) (.exit 0)))
  (.seq (.block 1 (.reg (.run ⟨some 17, none, .pur (.fla 0) [.tmp 5]⟩ (.run ⟨some 18, none, .ld none (.tmp 17)⟩ (.run ⟨some 20, none, .pur .mov [.tmp 0]⟩ (.run ⟨some 21, none, .pur .mov [.tmp 6]⟩ (.run ⟨some 22, none, .pur (.ixa 1) [.tmp 20, .tmp 21]⟩ (.run ⟨some 23, none, .ld none (.tmp 22)⟩ (.eff ⟨some 19, none, .eff (.bsl 3 1) []⟩ [] (.eff ⟨some 24, none, .eff (.app 3 1 8 [.int .i64 0]) [.tmp 19, .tmp 23]⟩ [⟨some 18, none, .ld none (.tmp 17)⟩] (.eff ⟨some 25, none, .eff (.bsl 25 1) [.tmp 24]⟩ [⟨some 18, none, .ld none (.tmp 17)⟩] (.eff ⟨some 26, none, .eff (.app 25 1 24 [.slice none 0 0]) [.tmp 18, .tmp 25]⟩ [] (.run ⟨some 27, none, .pur (.fla 0) [.tmp 5]⟩ (.eff ⟨none, none, .eff (.st 1) [.tmp 27, .tmp 26]⟩ [] .done)))))))))))) []))
  (.reg (straight [⟨some 15, none, .pur .mov [.tmp 6]⟩, ⟨some 16, none, .pur (.bin .add) [.tmp 15, .const (.int .i64 1)]⟩, ⟨some 6, none, .pur .mov [.tmp 16]⟩]) [6]))
def S2_forebaylaw32_dag : Fun := ⟨29, [4, 1, 6, 0, 14, 5], [.cell 4 (some 3)],
  .seq (.reg (straight [⟨some 4, none, .eff (.new 51 [.slice none 0 0, .slice none 0 0, .slice none 0 0]) []⟩]) [4])
  (.seq (.reg (straight [⟨some 7, none, .eff (.bsl 71 3) []⟩, ⟨some 8, none, .pur .mov [.tmp 1]⟩, ⟨some 9, none, .eff (.app 71 3 24 [.int .i64 0, .int .i64 0, .bool false]) [.tmp 7, .tmp 8]⟩, ⟨some 10, none, .pur (.bld [.slice none 0 0, .slice none 0 0, .slice none 0 0] [(2, 1)]) [.tmp 9]⟩, ⟨some 5, none, .eff (.new 51 [.slice none 0 0, .slice none 0 0, .slice none 0 0]) []⟩, ⟨none, none, .eff (.st 3) [.tmp 5, .tmp 10]⟩]) [5])
  (.seq (.seq (.reg (straight [⟨some 6, none, .pur .mov [.const (.int .i64 0)]⟩]) [6])
  (.block 0 (.loop S2_forebaylaw32_dag_L1)))
  (.seq (.reg (straight [⟨some 28, none, .ld (some 3) (.tmp 5)⟩, ⟨none, none, .eff (.st 3) [.tmp 4, .tmp 28]⟩]) [])
  (.ret))))⟩
theorem K2_forebaylaw32_dag : (compF Try.prog 25).map Fun.slim = some S2_forebaylaw32_dag := by kernel_rfl
def dSt (xss : List (List Int)) (l : List Ac) (k w : Nat) : Kx.St := [.obj 0 [.sl 0 [] .nil, .sl 0 [] .nil, .sl 0 [] .nil], .obj 0 [.sl k ((xss.take k).map aInts) (.id 2 w 1), .sl 0 [] .nil, aAcs l], .tail w]
theorem fill_acs (x : AV) (h : x.cells = [x]) : fillA [AV.sl 0 [] .nil, AV.sl 0 [] .nil, AV.sl 0 [] .nil] [(2, 1)] [x] = some [AV.sl 0 [] .nil, AV.sl 0 [] .nil, x] := by simp [fillA, h, setAtA]
set_option maxHeartbeats 4000000 in
theorem law32_dag_o (xss : List (List Int)) (l : List Ac) (hs : xss.length ≤ 1000000) (hs2 : ∀ x ∈ xss, x.length ≤ 1000000) (hl : l.length ≤ 1000000) :
    FnG Try.prog 25 [aInts2 xss, aAcs l] [] fun a σ => ∃ w, a = .agg [.sl xss.length (xss.map aInts) (.id 2 w 1), .sl 0 [] .nil, aAcs l] := by
  refine fnG_in2 K2_forebaylaw32_dag mixed rfl ?_
  simp only [S2_forebaylaw32_dag]
  have hX : aInts2 xss = .sl xss.length (xss.map aInts) .none := rfl
  have hA : aAcs l = .sl l.length (l.flatMap aAc) .none := rfl
  have h1 : (l.flatMap aAc).all AV.one = true := by rw [List.all_flatMap]; exact List.all_eq_true.2 fun x _ => rfl
  have hfl := flat_len aAc_len l
  refine wpa_seqx (fun ε σ => (ε 0 = aInts2 xss ∧ ε 1 = aAcs l ∧ ε 4 = .ref 0 0 0) ∧ σ = [.obj 0 [.sl 0 [] .nil, .sl 0 [] .nil, .sl 0 [] .nil]]) ?_ ?_
  · intro N X R hN
    simp (maxSteps:=999999) -implicitDefEqProofs (disch:=omega) only [push_cast,↓reduceIte,Nat.reduceEqDiff,reduceCtorEq,wz]
    refine wpa_new ?_
    simp (maxSteps:=999999) -implicitDefEqProofs (disch:=omega) only [push_cast,↓reduceIte,Nat.reduceEqDiff,reduceCtorEq,wz]
    exact hN _ _ ⟨by simp (maxSteps:=999999) -implicitDefEqProofs (disch:=omega) only [push_cast,↓reduceIte,Nat.reduceEqDiff,reduceCtorEq,wz], rfl⟩
  rintro ε σ ⟨hρ, rfl⟩
  refine wpa_seqx (fun ε σ => (ε 0 = aInts2 xss ∧ ε 4 = .ref 0 0 0 ∧ ε 5 = .ref 1 0 0) ∧ σ = [.obj 0 [.sl 0 [] .nil, .sl 0 [] .nil, .sl 0 [] .nil], .obj 0 [.sl 0 [] .nil, .sl 0 [] .nil, aAcs l]]) ?_ ?_
  · intro N X R hN
    simp (maxSteps:=999999) -implicitDefEqProofs (disch:=omega) only [push_cast,↓reduceIte,Nat.reduceEqDiff,reduceCtorEq,wz,hρ]
    refine wpa_bsl (sz := 3) (by simp) (by simp) ?_
    simp (maxSteps:=999999) -implicitDefEqProofs (disch:=omega) only [push_cast,↓reduceIte,Nat.reduceEqDiff,reduceCtorEq,wz,hρ,hA]
    refine wpa_app_full0 (n := 0) (cs := []) (m := l.length) rfl rfl hfl h1 rfl (by omega) (by omega) ?_
    simp (maxSteps:=999999) -implicitDefEqProofs (disch:=omega) only [push_cast,↓reduceIte,Nat.reduceEqDiff,reduceCtorEq,wz,hρ]
    rw [fill_acs _ rfl]
    simp (maxSteps:=999999) -implicitDefEqProofs (disch:=omega) only [push_cast,↓reduceIte,Nat.reduceEqDiff,reduceCtorEq,wz]
    refine wpa_new ?_
    simp (maxSteps:=999999) -implicitDefEqProofs (disch:=omega) only [push_cast,↓reduceIte,Nat.reduceEqDiff,reduceCtorEq,wz]
    refine wpa_stn (cs := [.sl 0 [] .nil, .sl 0 [] .nil, .sl 0 [] .nil]) rfl rfl rfl (by decide) ?_
    simp (maxSteps:=999999) -implicitDefEqProofs (disch:=omega) only [push_cast,↓reduceIte,Nat.reduceEqDiff,reduceCtorEq,wz]
    exact hN _ _ ⟨by simp (maxSteps:=999999) -implicitDefEqProofs (disch:=omega) only [push_cast,↓reduceIte,Nat.reduceEqDiff,reduceCtorEq,wz,hρ], rfl⟩
  clear hρ ε
  rintro ε σ ⟨hρ, rfl⟩
  refine wpa_seqx (fun ε σ => (ε 4 = .ref 0 0 0 ∧ ε 5 = .ref 1 0 0) ∧ ∃ w, σ = dSt xss l xss.length w) ?_ ?_
  · intro N X R hN
    simp (maxSteps:=999999) -implicitDefEqProofs (disch:=omega) only [push_cast,↓reduceIte,Nat.reduceEqDiff,reduceCtorEq,wz,hρ]
    refine wpa_blgx (GU.tokO (i := 1) (j := 0) (w := 0) (cs := [.sl 0 [] .nil, .sl 0 [] .nil, aAcs l]) 1 rfl rfl) (α := Nat) (I := fun k ε σ => (ε 0 = aInts2 xss ∧ ε 4 = .ref 0 0 0 ∧ ε 5 = .ref 1 0 0 ∧ ε 6 = .v (.int .i64 k)) ∧ k ≤ xss.length ∧ ∃ w, σ = dSt xss l k w)
      (μ := fun k => xss.length - k) (Q := fun ε σ => (ε 4 = .ref 0 0 0 ∧ ε 5 = .ref 1 0 0) ∧ ∃ w, σ = dSt xss l xss.length w) (x := 0) ?_ ?_ ?_
    · simp (maxSteps:=999999) -implicitDefEqProofs (disch:=omega) only [push_cast,↓reduceIte,Nat.reduceEqDiff,reduceCtorEq,wz,hρ]
      exact ⟨by omega, 0, rfl⟩
    · rintro k ε σ N E X' R' ⟨hρ, hk, w, rfl⟩ hN hE
      simp only [S2_forebaylaw32_dag_L1]
      by_cases hlt : k < xss.length
      · obtain ⟨x, hx⟩ := at_lt hlt
        have hxl := hs2 x (List.mem_of_getElem? hx)
        have hxx : aInts x = .sl x.length (x.map aInt) .none := rfl
        have o1 : (dSt xss l k w)[1]? = some (.obj 0 [.sl k ((xss.take k).map aInts) (.id 2 w 1), .sl 0 [] .nil, aAcs l]) := rfl
        have o2 : (dSt xss l k w)[2]? = some (.tail w) := rfl
        have hx1 : (x.map aInt).all AV.one = true := by rw [List.all_map]; exact List.all_eq_true.2 fun y _ => rfl
        have hap : ([] : List AV) ++ x.map aInt = x.map aInt := rfl
        simp (maxSteps:=999999) -implicitDefEqProofs (disch:=omega) only [push_cast,↓reduceIte,Nat.reduceEqDiff,reduceCtorEq,wz,hρ,hX,hx,o1]
        refine wpa_bsl (sz := 1) (by simp) (by simp) ?_
        simp (maxSteps:=999999) -implicitDefEqProofs (disch:=omega) only [push_cast,↓reduceIte,Nat.reduceEqDiff,reduceCtorEq,wz,hρ,hxx]
        refine wpa_app_full0 (n := 0) (cs := []) (m := x.length) rfl rfl (by simp) hx1 rfl (by omega) (by omega) ?_
        simp (maxSteps:=999999) -implicitDefEqProofs (disch:=omega) only [push_cast,↓reduceIte,Nat.reduceEqDiff,reduceCtorEq,wz,hρ]
        refine ⟨aholds_x (by simp (maxSteps:=999999) -implicitDefEqProofs (disch:=omega) only [push_cast,↓reduceIte,Nat.reduceEqDiff,reduceCtorEq,wz,hρ,o1]; exact rfl), ?_⟩
        refine wpa_bsl (sz := 1) (by simp [AV.cells]) (by simp) ?_
        simp (maxSteps:=999999) -implicitDefEqProofs (disch:=omega) only [push_cast,↓reduceIte,Nat.reduceEqDiff,reduceCtorEq,wz,hρ]
        refine ⟨aholds_x (by simp (maxSteps:=999999) -implicitDefEqProofs (disch:=omega) only [push_cast,↓reduceIte,Nat.reduceEqDiff,reduceCtorEq,wz,hρ,o1]; exact rfl), ?_⟩
        refine wpa_app (m := 1) rfl rfl rfl rfl (by simp; omega) (by omega) (by omega) o2 ?_
        simp (maxSteps:=999999) -implicitDefEqProofs (disch:=omega) only [push_cast,↓reduceIte,Nat.reduceEqDiff,reduceCtorEq,wz,hρ]
        refine wpa_st1 rfl rfl (get_set_ne (by decide) o1) (by simp) ?_
        simp (maxSteps:=999999) -implicitDefEqProofs (disch:=omega) only [push_cast,↓reduceIte,Nat.reduceEqDiff,reduceCtorEq,wz,hρ]
        refine hN (k + 1) _ _ ?_ (by omega)
        simp (maxSteps:=999999) -implicitDefEqProofs (disch:=omega) only [push_cast,↓reduceIte,Nat.reduceEqDiff,reduceCtorEq,wz,hρ]
        refine ⟨by omega, w + 1, ?_⟩
        unfold dSt
        rw [take_succ_at hx, List.map_append]
        rfl
      · have e : k = xss.length := by omega
        subst e
        simp (maxSteps:=999999) -implicitDefEqProofs (disch:=omega) only [push_cast,↓reduceIte,Nat.reduceEqDiff,reduceCtorEq,wz,hρ,hX]
        refine hE _ _ ?_
        simp (maxSteps:=999999) -implicitDefEqProofs (disch:=omega) only [push_cast,↓reduceIte,Nat.reduceEqDiff,reduceCtorEq,wz,hρ]
        exact ⟨w, rfl⟩
    · rintro ε σ h
      exact hN _ _ h
  clear hρ ε
  rintro ε σ ⟨hρ, w, rfl⟩
  have o0 : (dSt xss l xss.length w)[0]? = some (.obj 0 [.sl 0 [] .nil, .sl 0 [] .nil, .sl 0 [] .nil]) := rfl
  have o1 : (dSt xss l xss.length w)[1]? = some (.obj 0 [.sl xss.length (xss.map aInts) (.id 2 w 1), .sl 0 [] .nil, aAcs l]) := by
    unfold dSt; rw [List.take_length]; rfl
  simp (maxSteps:=999999) -implicitDefEqProofs (disch:=omega) only [push_cast,↓reduceIte,Nat.reduceEqDiff,reduceCtorEq,wz,hρ,o1,cell3]
  refine wpa_stn (n := 3) rfl rfl o0 (by decide) ?_
  have o0' := get_set_eq (o := Res.obj 0 [AV.sl xss.length (xss.map aInts) (.id 2 w 1), .sl 0 [] .nil, aAcs l]) o0
  have hs3 : ∀ a b c : AV, setAtA [AV.sl 0 [] .nil, AV.sl 0 [] .nil, AV.sl 0 [] .nil] 0 [a, b, c] = [a, b, c] := fun _ _ _ => rfl
  rw [hs3]
  simp (maxSteps:=999999) -implicitDefEqProofs (disch:=omega) only [push_cast,↓reduceIte,Nat.reduceEqDiff,reduceCtorEq,wz,hρ,o0',cell3]
  exact ⟨w, rfl⟩
theorem law32_dag_a (xss : List (List Int)) (l : List Ac) (hs : xss.length ≤ 1000000) (hs2 : ∀ x ∈ xss, x.length ≤ 1000000) (hl : l.length ≤ 1000000) :
    FnP Try.prog 25 [aInts2 xss, aAcs l] fun a => a = .agg (aDg xss (.sl 0 [] .none) l) := by
  refine ⟨by simp [AV.pureL, aInts2_pure, aAcs_pure], FnG.fz ((law32_dag_o xss l hs hs2 hl).mono ?_)⟩
  rintro a σ ⟨w, rfl⟩
  have e : AV.res (Go.Kx.freeze [] σ) (.agg [.sl xss.length (xss.map aInts) (.id 2 w 1), .sl 0 [] .nil, aAcs l]) = .agg (aDg xss (.sl 0 [] .none) l) := by
    have e1 := aSl_res (aInts_res (Go.Kx.freeze [] σ)) xss (.id 2 w 1)
    have e2 := aSlN_res (aAc_res (Go.Kx.freeze [] σ)) l .none
    simp only [AV.res, AV.resL] at e1 ⊢
    rw [e1]
    show AV.agg [_, _, AV.res _ (aSlN aAc l)] = _
    rw [show AV.res (Go.Kx.freeze [] σ) (aSlN aAc l) = aSlN aAc l from e2]
    rfl
  exact ⟨[], by rw [e]; simp [AV.pure, AV.pureL, aDg, aInts2_pure, aSlN_pure aAc_pure], e⟩
end Go.Proofs.Ytncdnegdlkmicaa.Rc
