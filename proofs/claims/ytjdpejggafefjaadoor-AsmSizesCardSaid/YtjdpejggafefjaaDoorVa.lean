/- Annotated values, part a: a value with what it reads as; what a heap holds of it. -/
import Derived.Test.YtjdpejggafefjaaDoorKm
namespace Go.Kx
set_option linter.unusedVariables false
set_option linter.unusedSimpArgs false
open Go

/-- Who may append to a slice in place: not known (none), it is nil, it is full, or the holder of a tail. -/
inductive Tok where
  | none | nil | full | id (i ver sz : Nat)
  deriving DecidableEq, Inhabited, Repr

/-- A value with what it reads as: itself; a struct; a tuple; a slice whose cells never turn; a pointer to cells that never turn; a pointer into an object; a slice of an object; a function; an interface value; a map. -/
inductive AV where
  | v (x : Value)
  | agg (xs : List AV)
  | tup (xs : List AV)
  | sl (n : Nat) (cs : List AV) (t : Tok)
  | ep (cs : List AV)
  | ref (i ver off : Nat)
  | ms (i ver off n sz : Nat)
  | fn (f : Fn) (k : Nat) (xs : List AV)
  | ifc (t : TypeId) (x : AV)
  | mp (i : Nat)
  deriving Inhabited

structure Loc where
  b : Nat
  off : Nat
  cap : Nat
  n : Nat
  e : Nat
  lim : Nat
  isnil : Bool

/-- The cells that belong to it: they may be written. -/
def Loc.has (l : Loc) (b o : Nat) : Prop := l.isnil = false ∧ b = l.b ∧ l.e ≤ o ∧ o < l.lim

/-- Ghosts: cells that never turn; where objects and tails lie. -/
structure Gh where
  g : Nat → Nat → Option Value
  T : Nat → Nat → Option Loc

structure Gh.le (base : Nat) (G G' : Gh) : Prop where
  g : ∀ b o u, G.g b o = some u → G'.g b o = some u
  T : ∀ i w l, G.T i w = some l → G'.T i w = some l
  old : ∀ b o, b < base → G'.g b o = G.g b o
theorem Gh.le.refl (n : Nat) (G : Gh) : Gh.le n G G := ⟨fun _ _ _ h => h, fun _ _ _ h => h, fun _ _ _ => rfl⟩
theorem Gh.le.trans {n : Nat} {A B C : Gh} (h : Gh.le n A B) (k : Gh.le n B C) : Gh.le n A C :=
  ⟨fun b o u e => k.g b o u (h.g b o u e), fun i w l e => k.T i w l (h.T i w l e), fun b o hb => (k.old b o hb).trans (h.old b o hb)⟩
theorem Gh.le.weaken {n m : Nat} {A B : Gh} (h : Gh.le n A B) (hm : m ≤ n) : Gh.le m A B := ⟨h.g, h.T, fun b o hb => h.old b o (by omega)⟩

def SlAt (G : Gh) (n : Nat) (vs : List Value) (a : Option Addr) : Prop :=
  (n = 0 ∧ vs = []) ∨ ∃ b off, a = some ⟨b, off, none⟩ ∧ ∀ i u, vs[i]? = some u → G.g b (off + i) = some u
def TokAt (G : Gh) (n len : Nat) (a : Option Addr) (cap : Nat) : Tok → Prop
  | .none => True
  | .nil => n = 0 ∧ a = none ∧ cap = 0
  | .full => n = cap ∧ ∃ b off, a = some ⟨b, off, none⟩
  | .id i ver sz => ∃ l, G.T i ver = some l ∧ l.n = n ∧ l.e = l.off + len ∧ l.cap = cap ∧ l.lim = l.off + cap * sz ∧ (if l.isnil then a = none ∧ n = 0 ∧ cap = 0 else a = some ⟨l.b, l.off, none⟩)

/-- What real value an annotated value stands for. -/
inductive RelV (G : Gh) : AV → Value → Prop
  | v (x : Value) : RelV G (.v x) x
  | agg (xs : List AV) (vs : List Value) : vs.length = xs.length → (∀ (i : Nat) (a : AV) (u : Value), xs[i]? = some a → vs[i]? = some u → RelV G a u) → RelV G (.agg xs) (.agg vs.toArray)
  | tup (xs : List AV) (vs : List Value) : vs.length = xs.length → (∀ (i : Nat) (a : AV) (u : Value), xs[i]? = some a → vs[i]? = some u → RelV G a u) → RelV G (.tup xs) (.tuple vs.toArray)
  | sl (n : Nat) (cs : List AV) (t : Tok) (a : Option Addr) (cap : Nat) (vs : List Value) : vs.length = cs.length → (∀ (i : Nat) (a : AV) (u : Value), cs[i]? = some a → vs[i]? = some u → RelV G a u) →
      n ≤ cap → cap ≤ 9223372036854775807 → SlAt G n vs a → TokAt G n cs.length a cap t → RelV G (.sl n cs t) (.slice a n cap)
  | ep (cs : List AV) (vs : List Value) (b off : Nat) : vs.length = cs.length → (∀ (i : Nat) (a : AV) (u : Value), cs[i]? = some a → vs[i]? = some u → RelV G a u) →
      (∀ i u, vs[i]? = some u → G.g b (off + i) = some u) → RelV G (.ep cs) (.pointer (some ⟨b, off, none⟩))
  | ref (i ver off : Nat) (l : Loc) : G.T i ver = some l → l.isnil = false → RelV G (.ref i ver off) (.pointer (some ⟨l.b, l.off + off, none⟩))
  | ms (i ver off n sz : Nat) (l : Loc) (cap : Nat) : G.T i ver = some l → l.isnil = false → n ≤ cap → cap ≤ 9223372036854775807 → l.off + off + cap * sz = l.lim →
      RelV G (.ms i ver off n sz) (.slice (some ⟨l.b, l.off + off, none⟩) n cap)
  | fn (f : Fn) (k : Nat) (xs : List AV) (vs : List Value) : vs.length = xs.length → (∀ (i : Nat) (a : AV) (u : Value), xs[i]? = some a → vs[i]? = some u → RelV G a u) →
      RelV G (.fn f k xs) (.func f (vs.take k).toArray (vs.drop k).toArray)
  | ifc (t : TypeId) (x : AV) (u : Value) : RelV G x u → RelV G (.ifc t x) (.iface t u)
  | mp (i : Nat) (l : Loc) : G.T i 0 = some l → l.isnil = false → RelV G (.mp i) (.map (some l.b))

def RelL (G : Gh) (xs : List AV) (vs : List Value) : Prop := vs.length = xs.length ∧ ∀ (i : Nat) (a : AV) (u : Value), xs[i]? = some a → vs[i]? = some u → RelV G a u

theorem TokAt.mono {G G' : Gh} (hT : ∀ i w l, G.T i w = some l → G'.T i w = some l) {n len : Nat} {a : Option Addr} {cap : Nat} {t : Tok} (h : TokAt G n len a cap t) : TokAt G' n len a cap t := by
  cases t with
  | id i ver sz => obtain ⟨l, h1, h2⟩ := h; exact ⟨l, hT _ _ _ h1, h2⟩
  | _ => exact h
theorem SlAt.mono {G G' : Gh} (hg : ∀ b o u, G.g b o = some u → G'.g b o = some u) {n : Nat} {vs : List Value} {a : Option Addr} (h : SlAt G n vs a) : SlAt G' n vs a := by
  rcases h with h | ⟨b, off, h1, h2⟩
  · exact .inl h
  · exact .inr ⟨b, off, h1, fun i u hu => hg _ _ _ (h2 i u hu)⟩
theorem RelV.mono' {G G' : Gh} (hg : ∀ b o u, G.g b o = some u → G'.g b o = some u) (hT : ∀ i w l, G.T i w = some l → G'.T i w = some l) {a : AV} {u : Value} (h : RelV G a u) : RelV G' a u := by
  induction h with
  | v x => exact .v x
  | agg xs vs h1 h2 ih => exact .agg xs vs h1 ih
  | tup xs vs h1 h2 ih => exact .tup xs vs h1 ih
  | sl n cs t a cap vs h1 h2 h3 h4 h5 h6 ih => exact .sl n cs t a cap vs h1 ih h3 h4 (h5.mono hg) (h6.mono hT)
  | ep cs vs b off h1 h2 h3 ih => exact .ep cs vs b off h1 ih fun i u hu => hg _ _ _ (h3 i u hu)
  | ref i ver off l h1 h2 => exact .ref i ver off l (hT _ _ _ h1) h2
  | ms i ver off n sz l cap h1 h2 h3 h4 h5 => exact .ms i ver off n sz l cap (hT _ _ _ h1) h2 h3 h4 h5
  | fn f k xs vs h1 h2 ih => exact .fn f k xs vs h1 ih
  | ifc t x u h ih => exact .ifc t x u ih
  | mp i l h1 h2 => exact .mp i l (hT _ _ _ h1) h2
theorem RelV.mono {n : Nat} {G G' : Gh} (h : Gh.le n G G') {a : AV} {u : Value} (H : RelV G a u) : RelV G' a u := H.mono' h.g h.T
theorem RelL.mono {n : Nat} {G G' : Gh} (h : Gh.le n G G') {xs : List AV} {vs : List Value} (H : RelL G xs vs) : RelL G' xs vs := ⟨H.1, fun i a u ha hu => (H.2 i a u ha hu).mono h⟩

theorem RelL.nil (G : Gh) : RelL G [] [] := ⟨rfl, fun i a u h => by simp at h⟩
theorem RelL.cons {G : Gh} {a : AV} {u : Value} {xs : List AV} {vs : List Value} (h : RelV G a u) (H : RelL G xs vs) : RelL G (a :: xs) (u :: vs) := by
  refine ⟨by simp [H.1], fun i b w hb hw => ?_⟩
  cases i with
  | zero => simp at hb hw; subst hb; subst hw; exact h
  | succ i => exact H.2 i b w (by simpa using hb) (by simpa using hw)
theorem RelL.nil_inv {G : Gh} {vs : List Value} (H : RelL G [] vs) : vs = [] := List.eq_nil_of_length_eq_zero (by simpa using H.1)
theorem RelL.cons_inv {G : Gh} {a : AV} {xs : List AV} {vs : List Value} (H : RelL G (a :: xs) vs) : ∃ u us, vs = u :: us ∧ RelV G a u ∧ RelL G xs us := by
  cases vs with
  | nil => have := H.1; simp at this
  | cons u us =>
    refine ⟨u, us, rfl, H.2 0 _ _ rfl rfl, by simpa using H.1, fun i b w hb hw => H.2 (i + 1) b w (by simpa using hb) (by simpa using hw)⟩
theorem RelL.append {G : Gh} {xs ys : List AV} {vs ws : List Value} (H : RelL G xs vs) (K : RelL G ys ws) : RelL G (xs ++ ys) (vs ++ ws) := by
  refine ⟨by simp [H.1, K.1], fun i a u ha hu => ?_⟩
  by_cases hi : i < xs.length
  · rw [List.getElem?_append_left hi] at ha
    rw [List.getElem?_append_left (by rw [H.1]; exact hi)] at hu
    exact H.2 i a u ha hu
  · rw [List.getElem?_append_right (by omega)] at ha
    rw [List.getElem?_append_right (by rw [H.1]; omega), H.1] at hu
    exact K.2 _ a u ha hu
theorem RelL.take {G : Gh} {xs : List AV} {vs : List Value} (H : RelL G xs vs) (k : Nat) : RelL G (xs.take k) (vs.take k) := by
  refine ⟨by simp [H.1], fun i a u ha hu => ?_⟩
  simp only [List.getElem?_take] at ha hu
  split at ha
  · rename_i hk; rw [if_pos hk] at hu; exact H.2 i a u ha hu
  · cases ha
theorem RelL.drop {G : Gh} {xs : List AV} {vs : List Value} (H : RelL G xs vs) (k : Nat) : RelL G (xs.drop k) (vs.drop k) := by
  refine ⟨by simp [H.1], fun i a u ha hu => ?_⟩
  simp only [List.getElem?_drop] at ha hu
  exact H.2 _ a u ha hu
theorem RelL.get {G : Gh} {xs : List AV} {vs : List Value} (H : RelL G xs vs) {i : Nat} {a : AV} (h : xs[i]? = some a) : ∃ u, vs[i]? = some u ∧ RelV G a u := by
  have hlt : i < vs.length := by rw [H.1]; exact (List.getElem?_eq_some_iff.1 h).1
  exact ⟨vs[i], List.getElem?_eq_getElem hlt, H.2 i a _ h (List.getElem?_eq_getElem hlt)⟩
theorem RelL.set {G : Gh} {xs : List AV} {vs : List Value} (H : RelL G xs vs) (k : Nat) {a : AV} {u : Value} (h : RelV G a u) : RelL G (xs.set k a) (vs.set k u) := by
  refine ⟨by simp [H.1], fun i b w hb hw => ?_⟩
  by_cases hk : k = i
  · subst hk
    simp only [List.getElem?_set, if_true] at hb hw
    split at hb
    · rename_i hlt
      rw [if_pos (by rw [H.1]; exact hlt)] at hw
      cases hb; cases hw; exact h
    · cases hb
  · rw [List.getElem?_set_ne hk] at hb hw
    exact H.2 i b w hb hw

/-! ### Shapes -/
/-- The cells of a value. -/
def AV.cells : AV → List AV
  | .agg xs => xs
  | .v x => x.cells.toList.map .v
  | a => [a]
def AV.one : AV → Bool
  | .v x => x.oneCell'
  | .agg _ | .tup _ => false
  | _ => true
theorem RelV.one {G : Gh} {a : AV} {u : Value} (h : RelV G a u) (ha : a.one = true) : u.oneCell' = true := by
  cases h <;> first | exact ha | rfl | (simp [AV.one] at ha)
theorem RelL.lits (G : Gh) (vs : List Value) : RelL G (vs.map .v) vs := by
  refine ⟨by simp, fun i a u ha hu => ?_⟩
  rw [List.getElem?_map, hu] at ha
  cases ha
  exact .v u
theorem RelV.cells {G : Gh} {a : AV} {u : Value} (h : RelV G a u) : RelL G a.cells u.cells.toList := by
  have h1 : ∀ {a : AV} {u : Value}, RelV G a u → RelL G [a] [u] := fun h => .cons h (.nil G)
  cases h with
  | v x => exact RelL.lits G _
  | agg xs vs h1 h2 => exact ⟨by simpa [Value.cells, AV.cells] using h1, by simpa [Value.cells, AV.cells] using h2⟩
  | tup xs vs a b => exact h1 (.tup xs vs a b)
  | sl n cs t a cap vs b c d e f g => exact h1 (.sl n cs t a cap vs b c d e f g)
  | ep cs vs b off c d e => exact h1 (.ep cs vs b off c d e)
  | ref i ver off l b c => exact h1 (.ref i ver off l b c)
  | ms i ver off n sz l cap b c d e f => exact h1 (.ms i ver off n sz l cap b c d e f)
  | fn f k xs vs b c => exact h1 (.fn f k xs vs b c)
  | ifc t x u b => exact h1 (.ifc t x u b)
  | mp i l b c => exact h1 (.mp i l b c)

/-- A real value that comes out of the code, annotated. -/
def abs1 : Value → AV
  | .slice none 0 0 => .sl 0 [] .nil
  | .func f a b => .fn f a.size ((a.toList ++ b.toList).map .v)
  | x => .v x
def absV : Value → AV
  | .agg cs => .agg (cs.toList.map abs1)
  | x => abs1 x
theorem RelV.abs1 (G : Gh) (x : Value) : RelV G (abs1 x) x := by
  unfold Go.Kx.abs1
  split
  · exact .sl 0 [] .nil none 0 [] rfl (fun i a u h => by simp at h) (Nat.le_refl _) (by omega) (.inl ⟨rfl, rfl⟩) ⟨rfl, rfl, rfl⟩
  · rename_i f a b
    have := RelV.fn (G := G) f a.size ((a.toList ++ b.toList).map .v) (a.toList ++ b.toList) (by simp) (RelL.lits G _).2
    have e1 : (a.toList ++ b.toList).take a.size = a.toList := by
      rw [List.take_append_of_le_length (by simp), List.take_of_length_le (by simp)]
    have e2 : (a.toList ++ b.toList).drop a.size = b.toList := by
      rw [List.drop_append_of_le_length (by simp), List.drop_of_length_le (by simp), List.nil_append]
    rw [e1, e2] at this
    simpa using this
  · exact .v x
theorem RelV.absV (G : Gh) (x : Value) : RelV G (absV x) x := by
  unfold Go.Kx.absV
  split
  · rename_i cs
    have := RelV.agg (G := G) (cs.toList.map Go.Kx.abs1) cs.toList (by simp) (fun i a u ha hu => by
      rw [List.getElem?_map, hu] at ha
      cases ha
      exact RelV.abs1 G u)
    simpa using this
  · exact RelV.abs1 G x
theorem RelL.abs1s (G : Gh) (vs : List Value) : RelL G (vs.map Go.Kx.abs1) vs := by
  refine ⟨by simp, fun i a u ha hu => ?_⟩
  rw [List.getElem?_map, hu] at ha
  cases ha
  exact RelV.abs1 G u

/-- Where the real value is one and no other. -/
def AV.exact1 : AV → Bool
  | .v _ | .ref _ _ _ | .mp _ => true
  | .sl _ _ .nil | .sl _ _ (.id _ _ _) => true
  | .ms _ _ _ _ sz => decide (0 < sz)
  | _ => false
def AV.exact : AV → Bool
  | .agg xs => xs.all AV.exact1
  | a => a.exact1
theorem RelV.exact1 {G : Gh} {a : AV} {u w : Value} (h : RelV G a u) (k : RelV G a w) (he : a.exact1 = true) : u = w := by
  cases h with
  | v x => cases k; rfl
  | ref i ver off l h1 h2 => cases k with | ref _ _ _ l' k1 k2 => rw [h1] at k1; cases k1; rfl
  | mp i l h1 h2 => cases k with | mp _ l' k1 k2 => rw [h1] at k1; cases k1; rfl
  | ms i ver off n sz l cap h1 h2 h3 h4 h5 =>
    cases k with
    | ms _ _ _ _ _ l' cap' k1 k2 k3 k4 k5 =>
      rw [h1] at k1; cases k1
      have hs : 0 < sz := of_decide_eq_true he
      have : cap * sz = cap' * sz := by omega
      rw [Nat.eq_of_mul_eq_mul_right hs this]
  | sl n cs t a cap vs h1 h2 h3 h4 h5 h6 =>
    cases k with
    | sl _ _ _ a' cap' vs' k1 k2 k3 k4 k5 k6 =>
      cases t with
      | none => simp [AV.exact1] at he
      | full => simp [AV.exact1] at he
      | nil =>
        obtain ⟨_, rfl, rfl⟩ := h6
        obtain ⟨_, rfl, rfl⟩ := k6
        rfl
      | id i ver sz =>
        obtain ⟨l, e1, e2, e3, e4, e5, e6⟩ := h6
        obtain ⟨l', f1, f2, f3, f4, f5, f6⟩ := k6
        rw [e1] at f1; cases f1
        have hcap : cap = cap' := by omega
        subst hcap
        cases hn : l.isnil with
        | true =>
          rw [hn, if_pos rfl] at e6 f6
          rw [e6.1, f6.1]
        | false =>
          rw [hn, if_neg (by simp)] at e6 f6
          rw [e6, f6]
  | _ => simp [AV.exact1] at he
theorem RelV.exact {G : Gh} {a : AV} {u w : Value} (h : RelV G a u) (k : RelV G a w) (he : a.exact = true) : u = w := by
  cases a with
  | agg xs =>
    cases h with
    | agg _ vs h1 h2 =>
      cases k with
      | agg _ ws k1 k2 =>
        congr 2
        apply List.ext_getElem?
        intro i
        by_cases hi : i < xs.length
        · have e1 := List.getElem?_eq_getElem hi
          have e2 : vs[i]? = some (vs[i]'(by omega)) := List.getElem?_eq_getElem _
          have e3 : ws[i]? = some (ws[i]'(by omega)) := List.getElem?_eq_getElem _
          simp only [AV.exact, List.all_eq_true] at he
          rw [e2, e3, (h2 i _ _ e1 e2).exact1 (k2 i _ _ e1 e3) (he _ (List.getElem_mem hi))]
        · rw [List.getElem?_eq_none (by omega), List.getElem?_eq_none (by omega)]
  | _ => exact h.exact1 k he

end Go.Kx
