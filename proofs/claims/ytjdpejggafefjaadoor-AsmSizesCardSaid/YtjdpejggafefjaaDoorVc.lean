/- Annotated values, part c: pure operations and loads on annotated values. -/
import Derived.Test.YtjdpejggafefjaaDoorVb
namespace Go.Kx
set_option linter.unusedVariables false
set_option linter.unusedSimpArgs false
open Go

def lit1 : AV → Option Value
  | .v x => some x
  | _ => none
def lit1s : List AV → Option (List Value)
  | [] => some []
  | a :: as => match lit1 a, lit1s as with
    | some x, some xs => some (x :: xs)
    | _, _ => none
def lit : AV → Option Value
  | .v x => some x
  | .agg xs => (lit1s xs).map fun l => .agg l.toArray
  | _ => none
def lits : List AV → Option (List Value)
  | [] => some []
  | a :: as => match lit a, lits as with
    | some x, some xs => some (x :: xs)
    | _, _ => none
def subA (l : List AV) (off n : Nat) : List AV := (l.drop off).take n
def setAtA : List AV → Nat → List AV → List AV
  | cs, _, [] => cs
  | cs, off, a :: as => setAtA (cs.set off a) (off + 1) as
def fillA : List AV → List (Nat × Nat) → List AV → Option (List AV)
  | cs, [], [] => some cs
  | cs, (off, sz) :: ps, a :: as => if a.cells.length = sz ∧ off + sz ≤ cs.length then fillA (setAtA cs off a.cells) ps as else none
  | _, _, _ => none

def PF.av : PF → List AV → Option AV
  | .mov, [a] => some a
  | .pick, [.v (.bool c), a, b] => some (if c then a else b)
  | .eqn ng 0, [.ref _ _ _] => some (.v (.bool ng))
  | .eqn ng 0, [.ep _] => some (.v (.bool ng))
  | .eqn ng 1, [.sl n _ t] => match t with
    | .nil => some (.v (.bool (!ng)))
    | .full => some (.v (.bool ng))
    | _ => if n = 0 then none else some (.v (.bool ng))
  | .eqn ng 1, [.ms _ _ _ _ _] => some (.v (.bool ng))
  | .eqn ng 2, [.fn _ _ _] => some (.v (.bool ng))
  | .eqn ng 3, [.mp _] => some (.v (.bool ng))
  | .eqn ng 4, [.ifc _ _] => some (.v (.bool ng))
  | .fld off none, [.agg cs] => cs[off]?
  | .fld off (some n), [.agg cs] => some (.agg (subA cs off n))
  | .bld z ps, as => (fillA (z.map abs1) ps as).map .agg
  | .len false, [.sl n _ _] => some (.v (.int .i64 n))
  | .len false, [.ms _ _ _ n _] => some (.v (.int .i64 n))
  | .ixa sz, [.sl n cs _, .v (.int _ i)] => if 0 ≤ i ∧ i < n then some (.ep (cs.drop (i.toNat * sz))) else none
  | .ixa sz, [.ms id w off n sz', .v (.int _ i)] => if 0 ≤ i ∧ i < n ∧ sz = sz' then some (.ref id w (off + i.toNat * sz)) else none
  | .ixaA n sz, [.ref id w off, .v (.int _ i)] => if 0 ≤ i ∧ i < n then some (.ref id w (off + i.toNat * sz)) else none
  | .ixaA n sz, [.ep cs, .v (.int _ i)] => if 0 ≤ i ∧ i < n then some (.ep (cs.drop (i.toNat * sz))) else none
  | .ixv n sz none, [.agg cs, .v (.int _ i)] => if 0 ≤ i ∧ i < n then cs[i.toNat * sz]? else none
  | .ixv n sz (some m), [.agg cs, .v (.int _ i)] => if 0 ≤ i ∧ i < n then some (.agg (subA cs (i.toNat * sz) m)) else none
  | .fla off, [.ref id w o] => some (.ref id w (o + off))
  | .fla off, [.ep cs] => some (.ep (cs.drop off))
  | .nilc, [.ref id w o] => some (.ref id w o)
  | .nilc, [.ep cs] => some (.ep cs)
  | .slc sz lo hi, .sl n cs _ :: xs => match lit1s xs with
    | some vs => (loHi lo hi n n vs).map fun (l, h) => .sl (h - l) (subA cs (l * sz) ((h - l) * sz)) .none
    | none => none
  | .slc sz lo hi, .ms id w off n sz' :: xs => match lit1s xs with
    | some vs => if sz = sz' then (loHi lo hi n n vs).map fun (l, h) => if l = 0 then .ms id w off h sz else if h = l then .sl 0 [] .none else .ms id w (off + l * sz) (h - l) sz else none
    | none => none
  | .slcA n sz lo hi, .ep cs :: xs => match lit1s xs with
    | some vs => if n ≤ 9223372036854775807 then (loHi lo hi n n vs).map fun (l, h) => .sl (h - l) (subA cs (l * sz) ((h - l) * sz)) .none else none
    | none => none
  | .mkf fn n, xs => some (.fn fn n xs)
  | .mkif t, [a] => some (.ifc t a)
  | .ext i, [.tup xs] => xs[i]?
  | f, as => match lits as with
    | some vs => (PF.val f vs).map .v
    | none => none

theorem lit1_rel {G : Gh} {a : AV} {u x : Value} (h : lit1 a = some x) (H : RelV G a u) : u = x := by
  cases H <;> simp [lit1] at h
  exact h
theorem lit1s_rel {G : Gh} : ∀ {as : List AV} {vs xs : List Value}, lit1s as = some xs → RelL G as vs → vs = xs := by
  intro as
  induction as with
  | nil => intro vs xs h H; simp [lit1s] at h; subst h; exact H.nil_inv
  | cons a as ih =>
    intro vs xs h H
    obtain ⟨u, us, rfl, h1, h2⟩ := H.cons_inv
    simp only [lit1s] at h
    split at h
    · rename_i x ys e1 e2
      simp at h
      subst h
      rw [lit1_rel e1 h1, ih e2 h2]
    · cases h
theorem lit_rel {G : Gh} {a : AV} {u x : Value} (h : lit a = some x) (H : RelV G a u) : u = x := by
  cases H with
  | v y => simp [lit] at h; exact h
  | agg xs vs h1 h2 =>
    simp only [lit, Option.map_eq_some_iff] at h
    obtain ⟨l, hl, rfl⟩ := h
    rw [lit1s_rel hl ⟨h1, h2⟩]
  | _ => simp [lit] at h
theorem lits_rel {G : Gh} : ∀ {as : List AV} {vs xs : List Value}, lits as = some xs → RelL G as vs → vs = xs := by
  intro as
  induction as with
  | nil => intro vs xs h H; simp [lits] at h; subst h; exact H.nil_inv
  | cons a as ih =>
    intro vs xs h H
    obtain ⟨u, us, rfl, h1, h2⟩ := H.cons_inv
    simp only [lits] at h
    split at h
    · rename_i x ys e1 e2
      simp at h
      subst h
      rw [lit_rel e1 h1, ih e2 h2]
    · cases h

theorem RelL.setAt {G : Gh} : ∀ {as : List AV} {vs : List Value}, RelL G as vs → ∀ {cs : List AV} {ws : List Value}, RelL G cs ws → ∀ off, RelL G (setAtA cs off as) (Go.Kx.setAt ws off vs) := by
  intro as
  induction as with
  | nil => intro vs H cs ws K off; rw [H.nil_inv]; exact K
  | cons a as ih =>
    intro vs H cs ws K off
    obtain ⟨u, us, rfl, h1, h2⟩ := H.cons_inv
    exact ih h2 (K.set off h1) (off + 1)
theorem fillA_rel {G : Gh} : ∀ (ps : List (Nat × Nat)) {as : List AV} {vs : List Value} {cs cs' : List AV} {ws : List Value}, fillA cs ps as = some cs' → RelL G as vs → RelL G cs ws →
    ∃ ws', fillL ws ps vs = some ws' ∧ RelL G cs' ws' := by
  intro ps
  induction ps with
  | nil =>
    intro as vs cs cs' ws h H K
    cases as with
    | nil => simp [fillA] at h; subst h; rw [H.nil_inv]; exact ⟨ws, rfl, K⟩
    | cons a as => simp [fillA] at h
  | cons p ps ih =>
    obtain ⟨off, sz⟩ := p
    intro as vs cs cs' ws h H K
    cases as with
    | nil => simp [fillA] at h
    | cons a as =>
      obtain ⟨u, us, rfl, h1, h2⟩ := H.cons_inv
      simp only [fillA] at h
      split at h
      · rename_i hc
        have hcell := h1.cells
        obtain ⟨ws', e, k⟩ := ih h h2 (RelL.setAt hcell K off)
        refine ⟨ws', ?_, k⟩
        simp only [fillL]
        rw [if_pos]
        · exact e
        · have := hcell.1
          simp at this
          exact ⟨by omega, by rw [K.1]; exact hc.2⟩
      · cases h
theorem bound_le {y z : Nat} (hyz : y ≤ z) {b : Value} {n : Nat} (h : bound y b = some n) : bound z b = some n := by
  unfold bound at *
  cases b with
  | int k i =>
    simp only at h ⊢
    split at h
    · rename_i hc; rw [if_pos (by omega)]; exact h
    · cases h
  | _ => simp at h
theorem bound_val {y n : Nat} {b : Value} (h : bound y b = some n) : n ≤ y := by
  unfold bound at h
  cases b with
  | int k i =>
    simp only at h
    split at h
    · simp at h; omega
    · cases h
  | _ => simp at h
theorem loHi_le {lo hi : Bool} {n c l h : Nat} {vs : List Value} (hc : n ≤ c) (H : loHi lo hi n n vs = some (l, h)) : loHi lo hi n c vs = some (l, h) ∧ l ≤ h ∧ h ≤ n := by
  unfold loHi at *
  split at H
  · simp at H; obtain ⟨rfl, rfl⟩ := H; exact ⟨rfl, Nat.zero_le _, Nat.le_refl _⟩
  · simp only [Option.map_eq_some_iff, Prod.mk.injEq] at H
    obtain ⟨x, hx, rfl, rfl⟩ := H
    rw [bound_le hc hx]
    exact ⟨rfl, Nat.zero_le _, bound_val hx⟩
  · simp only [Option.map_eq_some_iff, Prod.mk.injEq] at H
    obtain ⟨x, hx, rfl, rfl⟩ := H
    exact ⟨by rw [hx]; rfl, bound_val hx, Nat.le_refl _⟩
  · simp only [Option.bind_eq_some_iff, Option.map_eq_some_iff, Prod.mk.injEq] at H
    obtain ⟨y, hy, x, hx, rfl, rfl⟩ := H
    rw [bound_le hc hy]
    simp only [Option.bind_some, hx]
    exact ⟨rfl, bound_val hx, bound_val hy⟩
  · cases H

theorem RelV.isNilP {G : Gh} {a : AV} {u : Value} (H : RelV G a u) : (∀ i w o, a = .ref i w o → isNil 0 u = some false) ∧ (∀ cs, a = .ep cs → isNil 0 u = some false) := by
  constructor
  · rintro i w o rfl; cases H; rfl
  · rintro cs rfl; cases H; rfl

theorem av_sound {G : Gh} {f : PF} {as : List AV} {a : AV} {vs : List Value} (h : PF.av f as = some a) (H : RelL G as vs) : ∃ u, PF.val f vs = some u ∧ RelV G a u := by
  have two : ∀ {x y : AV}, RelL G [x, y] vs → ∃ u w, vs = [u, w] ∧ RelV G x u ∧ RelV G y w := by
    intro x y H
    obtain ⟨u, us, rfl, h1, H1⟩ := H.cons_inv
    obtain ⟨w, ws, rfl, h2, H2⟩ := H1.cons_inv
    rw [H2.nil_inv]
    exact ⟨u, w, rfl, h1, h2⟩
  have one : ∀ {x : AV}, RelL G [x] vs → ∃ u, vs = [u] ∧ RelV G x u := by
    intro x H
    obtain ⟨u, us, rfl, h1, H1⟩ := H.cons_inv
    rw [H1.nil_inv]
    exact ⟨u, rfl, h1⟩
  unfold PF.av at h
  split at h
  · -- mov
    obtain ⟨u, rfl, h1⟩ := one H
    cases h; exact ⟨u, rfl, h1⟩
  · obtain ⟨u, us, rfl, h1, H1⟩ := H.cons_inv
    obtain ⟨x, xs, rfl, h2, H2⟩ := H1.cons_inv
    obtain ⟨y, ys, rfl, h3, H3⟩ := H2.cons_inv
    obtain rfl := H3.nil_inv
    cases h1
    cases h
    refine ⟨_, rfl, ?_⟩
    split <;> assumption
  · obtain ⟨u, rfl, h1⟩ := one H
    cases h; cases h1
    exact ⟨_, rfl, by rename_i ng _ _ _ _ _ _; cases ng <;> exact .v _⟩
  · obtain ⟨u, rfl, h1⟩ := one H
    cases h; cases h1
    exact ⟨_, rfl, by rename_i ng _ _ _ _ _ _ _; cases ng <;> exact .v _⟩
  · obtain ⟨u, rfl, h1⟩ := one H
    rename_i ng n cs t
    cases h1 with
    | sl _ _ _ a cap vs h1 h2 h3 h4 h5 h6 =>
      cases t with
      | nil => obtain ⟨rfl, rfl, rfl⟩ := h6; cases h; refine ⟨_, rfl, ?_⟩; cases ng <;> exact .v _
      | full => obtain ⟨_, b, off, rfl⟩ := h6; cases h; refine ⟨_, rfl, ?_⟩; cases ng <;> exact .v _
      | none =>
        simp only at h
        split at h
        · cases h
        · rcases h5 with h5 | ⟨b, off, rfl, _⟩
          · exact absurd h5.1 (by assumption)
          · cases h; refine ⟨_, rfl, ?_⟩; cases ng <;> exact .v _
      | id i w s =>
        simp only at h
        split at h
        · cases h
        · rcases h5 with h5 | ⟨b, off, rfl, _⟩
          · exact absurd h5.1 (by assumption)
          · cases h; refine ⟨_, rfl, ?_⟩; cases ng <;> exact .v _
  · obtain ⟨u, rfl, h1⟩ := one H
    rename_i ng _ _ _ _ _
    cases h; cases h1
    exact ⟨_, rfl, by cases ng <;> exact .v _⟩
  · obtain ⟨u, rfl, h1⟩ := one H
    rename_i ng _ _ _
    cases h; cases h1
    exact ⟨_, rfl, by cases ng <;> exact .v _⟩
  · obtain ⟨u, rfl, h1⟩ := one H
    rename_i ng _
    cases h; cases h1
    exact ⟨_, rfl, by cases ng <;> exact .v _⟩
  · obtain ⟨u, rfl, h1⟩ := one H
    rename_i ng _ _
    cases h; cases h1
    exact ⟨_, rfl, by cases ng <;> exact .v _⟩
  · -- fld none
    obtain ⟨u, rfl, h1⟩ := one H
    cases h1 with
    | agg xs ws k1 k2 =>
      obtain ⟨w, hw, hr⟩ := RelL.get ⟨k1, k2⟩ h
      exact ⟨w, by simpa [PF.val] using hw, hr⟩
  · obtain ⟨u, rfl, h1⟩ := one H
    cases h1 with
    | agg xs ws k1 k2 =>
      cases h
      have := fun o k => (RelL.drop (G := G) ⟨k1, k2⟩ o).take k
      exact ⟨_, rfl, .agg _ _ (this _ _).1 (this _ _).2⟩
  · -- bld
    simp only [Option.map_eq_some_iff] at h
    obtain ⟨cs, hcs, rfl⟩ := h
    obtain ⟨ws, e, k⟩ := fillA_rel _ hcs H (RelL.abs1s G _)
    refine ⟨.agg ws.toArray, ?_, .agg _ _ k.1 k.2⟩
    simp [PF.val, e]
  · obtain ⟨u, rfl, h1⟩ := one H
    cases h1; cases h
    exact ⟨_, rfl, .v _⟩
  · obtain ⟨u, rfl, h1⟩ := one H
    cases h1; cases h
    exact ⟨_, rfl, .v _⟩
  · -- ixa sl
    obtain ⟨u, w, rfl, h1, h2⟩ := two H
    cases h2
    cases h1 with
    | sl _ _ _ a cap vs k1 k2 h3 h4 h5 h6 =>
      split at h
      · rename_i hi
        cases h
        rcases h5 with ⟨h5, _⟩ | ⟨b, off, rfl, h5⟩
        · omega
        · refine ⟨.pointer (some ⟨b, off + _ * _, none⟩), by simp [PF.val, hi, add_none]; rfl, ?_⟩
          have := RelL.drop ⟨k1, k2⟩
          refine .ep _ _ b _ (this _).1 (this _).2 ?_
          intro i u hu
          rw [List.getElem?_drop] at hu
          rw [Nat.add_assoc]
          exact h5 _ _ hu
      · cases h
  · obtain ⟨u, w, rfl, h1, h2⟩ := two H
    cases h2
    cases h1 with
    | ms _ _ _ _ _ l cap k1 k2 k3 k4 k5 =>
      split at h
      · rename_i hi
        obtain ⟨h0, hi, rfl⟩ := hi
        cases h
        refine ⟨_, by simp [PF.val, h0, hi, add_none]; rfl, ?_⟩
        rw [Nat.add_assoc]
        exact .ref _ _ _ l k1 k2
      · cases h
  · obtain ⟨u, w, rfl, h1, h2⟩ := two H
    cases h2
    cases h1 with
    | ref _ _ _ l k1 k2 =>
      split at h
      · rename_i hi
        cases h
        refine ⟨_, by simp [PF.val, hi, add_none]; rfl, ?_⟩
        rw [Nat.add_assoc]
        exact .ref _ _ _ l k1 k2
      · cases h
  · obtain ⟨u, w, rfl, h1, h2⟩ := two H
    cases h2
    cases h1 with
    | ep cs vs b off k1 k2 k3 =>
      split at h
      · rename_i hi
        cases h
        refine ⟨.pointer (some ⟨b, off + _ * _, none⟩), by simp [PF.val, hi, add_none]; rfl, ?_⟩
        have := RelL.drop ⟨k1, k2⟩
        refine .ep _ _ b _ (this _).1 (this _).2 ?_
        intro i u hu
        rw [List.getElem?_drop] at hu
        rw [Nat.add_assoc]
        exact k3 _ _ hu
      · cases h
  · obtain ⟨u, w, rfl, h1, h2⟩ := two H
    cases h2
    cases h1 with
    | agg xs ws k1 k2 =>
      split at h
      · rename_i hi
        obtain ⟨w, hw, hr⟩ := RelL.get ⟨k1, k2⟩ h
        exact ⟨w, by simpa [PF.val, hi] using hw, hr⟩
      · cases h
  · obtain ⟨u, w, rfl, h1, h2⟩ := two H
    cases h2
    cases h1 with
    | agg xs ws k1 k2 =>
      split at h
      · rename_i hi
        cases h
        have := fun o k => (RelL.drop (G := G) ⟨k1, k2⟩ o).take k
        exact ⟨_, by simp [PF.val, hi]; rfl, .agg _ _ (this _ _).1 (this _ _).2⟩
      · cases h
  · obtain ⟨u, rfl, h1⟩ := one H
    cases h1 with
    | ref _ _ _ l k1 k2 =>
      cases h
      refine ⟨_, by simp [PF.val, add_none]; rfl, ?_⟩
      rw [Nat.add_assoc]
      exact .ref _ _ _ l k1 k2
  · obtain ⟨u, rfl, h1⟩ := one H
    cases h1 with
    | ep cs vs b off k1 k2 k3 =>
      cases h
      refine ⟨.pointer (some ⟨b, off + _, none⟩), by simp [PF.val, add_none]; rfl, ?_⟩
      have := RelL.drop ⟨k1, k2⟩
      refine .ep _ _ b _ (this _).1 (this _).2 ?_
      intro i u hu
      rw [List.getElem?_drop] at hu
      rw [Nat.add_assoc]
      exact k3 _ _ hu
  · obtain ⟨u, rfl, h1⟩ := one H
    cases h
    cases h1 with | ref _ _ _ l k1 k2 => exact ⟨_, rfl, .ref _ _ _ l k1 k2⟩
  · obtain ⟨u, rfl, h1⟩ := one H
    cases h
    cases h1 with | ep _ vs b off k1 k2 k3 => exact ⟨_, rfl, .ep _ vs b off k1 k2 k3⟩
  · -- slc sl
    rename_i sz lo hi n cs t xs
    obtain ⟨u, us, rfl, h1, H1⟩ := H.cons_inv
    split at h
    · rename_i vs hvs
      obtain rfl := lit1s_rel hvs H1
      simp only [Option.map_eq_some_iff, Prod.exists] at h
      obtain ⟨l, m, hlm, rfl⟩ := h
      cases h1 with
      | sl _ _ _ a cap ws k1 k2 h3 h4 h5 h6 =>
        obtain ⟨e1, e2, e3⟩ := loHi_le h3 hlm
        refine ⟨.slice (if cap = l then a else a.map (·.add (l * sz))) (m - l) (cap - l), by simp [PF.val, e1], ?_⟩
        have hsub := (RelL.drop (G := G) ⟨k1, k2⟩ (l * sz)).take ((m - l) * sz)
        refine .sl _ _ _ _ _ _ hsub.1 hsub.2 (by omega) (by omega) ?_ trivial
        by_cases hz : m - l = 0
        · exact .inl ⟨hz, by simp [hz]⟩
        · rw [if_neg (by omega)]
          rcases h5 with ⟨h5, _⟩ | ⟨b, off, rfl, h5⟩
          · omega
          · refine .inr ⟨b, off + l * sz, by simp [add_none], ?_⟩
            intro i u hu
            simp only [List.getElem?_take] at hu
            split at hu
            · rw [List.getElem?_drop] at hu
              rw [Nat.add_assoc]
              exact h5 _ _ hu
            · cases hu
    · cases h
  · rename_i sz lo hi id w off n sz' xs
    obtain ⟨u, us, rfl, h1, H1⟩ := H.cons_inv
    split at h
    · rename_i vs hvs
      obtain rfl := lit1s_rel hvs H1
      split at h
      · rename_i hsz
        subst hsz
        simp only [Option.map_eq_some_iff, Prod.exists] at h
        obtain ⟨l, m, hlm, rfl⟩ := h
        cases h1 with
        | ms _ _ _ _ _ loc cap k1 k2 k3 k4 k5 =>
          obtain ⟨e1, e2, e3⟩ := loHi_le k3 hlm
          refine ⟨.slice (if cap = l then some ⟨loc.b, loc.off + off, none⟩ else (some (⟨loc.b, loc.off + off, none⟩ : Addr)).map (·.add (l * sz))) (m - l) (cap - l), by simp [PF.val, e1], ?_⟩
          by_cases hl : l = 0
          · subst hl
            simp only [if_true, Nat.sub_zero, Nat.zero_mul]
            have : (if cap = 0 then some (⟨loc.b, loc.off + off, none⟩ : Addr) else (some (⟨loc.b, loc.off + off, none⟩ : Addr)).map (·.add 0)) = some ⟨loc.b, loc.off + off, none⟩ := by
              split
              · rfl
              · simp [Addr.add]
            rw [this]
            exact .ms _ _ _ _ _ loc cap k1 k2 (by omega) k4 k5
          · rw [if_neg hl]
            by_cases hml : m = l
            · rw [if_pos hml, hml, Nat.sub_self]
              exact .sl 0 [] .none _ _ [] rfl (fun i a u h => by simp at h) (Nat.zero_le _) (by omega) (.inl ⟨rfl, rfl⟩) trivial
            · rw [if_neg hml, if_neg (by omega)]
              simp only [Option.map_some, add_none]
              rw [Nat.add_assoc]
              refine .ms _ _ _ _ _ loc (cap - l) k1 k2 (by omega) (by omega) ?_
              have : cap * sz = l * sz + (cap - l) * sz := by rw [← Nat.add_mul]; congr 1; omega
              omega
      · cases h
    · cases h
  · rename_i n sz lo hi cs xs
    obtain ⟨u, us, rfl, h1, H1⟩ := H.cons_inv
    split at h
    · rename_i vs hvs
      obtain rfl := lit1s_rel hvs H1
      split at h
      · rename_i hn
        simp only [Option.map_eq_some_iff, Prod.exists] at h
        obtain ⟨l, m, hlm, rfl⟩ := h
        cases h1 with
        | ep _ ws b off k1 k2 k3 =>
          obtain ⟨e1, e2, e3⟩ := loHi_le (Nat.le_refl n) hlm
          refine ⟨.slice (some (if n = l then ⟨b, off, none⟩ else (⟨b, off, none⟩ : Addr).add (l * sz))) (m - l) (n - l), by simp [PF.val, e1], ?_⟩
          have hsub := (RelL.drop (G := G) ⟨k1, k2⟩ (l * sz)).take ((m - l) * sz)
          refine .sl _ _ _ _ _ _ hsub.1 hsub.2 (by omega) (by omega) ?_ trivial
          by_cases hz : m - l = 0
          · exact .inl ⟨hz, by simp [hz]⟩
          · rw [if_neg (by omega)]
            refine .inr ⟨b, off + l * sz, by simp [add_none], ?_⟩
            intro i u hu
            simp only [List.getElem?_take] at hu
            split at hu
            · rw [List.getElem?_drop] at hu
              rw [Nat.add_assoc]
              exact k3 _ _ hu
            · cases hu
      · cases h
    · cases h
  · cases h
    exact ⟨_, by simp [PF.val], .fn _ _ _ _ H.1 H.2⟩
  · obtain ⟨u, rfl, h1⟩ := one H
    cases h
    exact ⟨_, rfl, .ifc _ _ _ h1⟩
  · obtain ⟨u, rfl, h1⟩ := one H
    cases h1 with
    | tup xs ws k1 k2 =>
      obtain ⟨w, hw, hr⟩ := RelL.get ⟨k1, k2⟩ h
      exact ⟨w, by simpa [PF.val] using hw, hr⟩
  · split at h
    · rename_i xs hxs
      obtain rfl := lits_rel hxs H
      simp only [Option.map_eq_some_iff] at h
      obtain ⟨x, hx, rfl⟩ := h
      exact ⟨x, hx, .v x⟩
    · cases h

def cellsA : Option Nat → List AV → Option AV
  | none, cs => cs[0]?
  | some k, cs => if k ≤ cs.length then some (.agg (cs.take k)) else none
def ldA (n : Option Nat) (a : AV) (σ : St) : Option AV :=
  match a with
  | .ep cs => cellsA n cs
  | .ref i w off => match σ[i]? with
    | some (.obj w' cs) => if w = w' then cellsA n (cs.drop off) else none
    | some (.frz w' cs) => if w = w' then cellsA n (cs.drop off) else none
    | _ => none
  | _ => none

theorem cellsA_sound {G : Gh} {h : Heap} {n : Option Nat} {cs : List AV} {a : AV} {b off : Nat} (ha : cellsA n cs = some a) (H : ∀ j a, cs[j]? = some a → ∃ u, cellG (hp h) b (off + j) = some u ∧ RelV G a u) :
    ∃ u, ldV n (.pointer (some ⟨b, off, none⟩)) (hp h) = some u ∧ RelV G a u := by
  cases n with
  | none =>
    obtain ⟨u, h1, h2⟩ := H 0 a ha
    exact ⟨u, h1, h2⟩
  | some k =>
    simp only [cellsA] at ha
    split at ha
    · rename_i hk
      cases ha
      obtain ⟨vs, hvs⟩ : ∃ vs : List Value, RelL G (cs.take k) vs ∧ ∀ (j : Nat) (u : Value), vs[j]? = some u → cellG (hp h) b (off + j) = some u := by
        have : ∀ (l : List AV) (o : Nat), (∀ j a, l[j]? = some a → ∃ u, cellG (hp h) b (o + j) = some u ∧ RelV G a u) → ∃ vs : List Value, RelL G l vs ∧ ∀ (j : Nat) (u : Value), vs[j]? = some u → cellG (hp h) b (o + j) = some u := by
          intro l
          induction l with
          | nil => intro o _; exact ⟨[], .nil G, fun j u h => by simp at h⟩
          | cons x l ih =>
            intro o hl
            obtain ⟨u, h1, h2⟩ := hl 0 x rfl
            obtain ⟨vs, h3, h4⟩ := ih (o + 1) (fun j a ha => by
              have := hl (j + 1) a (by simpa using ha)
              rwa [show o + 1 + j = o + (j + 1) by omega])
            refine ⟨u :: vs, .cons h2 h3, fun j w hw => ?_⟩
            cases j with
            | zero => simp at hw; subst hw; exact h1
            | succ j =>
              have := h4 j w (by simpa using hw)
              rwa [show o + 1 + j = o + (j + 1) by omega] at this
        refine this _ off fun j a ha => ?_
        simp only [List.getElem?_take] at ha
        split at ha
        · exact H j a ha
        · cases ha
      obtain ⟨hr, hc⟩ := hvs
      have hlen : vs.length = k := by rw [hr.1]; simp; omega
      have := cellsG_of (g := hp h) (b := b) (l := vs) (off := off) hc
      rw [hlen] at this
      exact ⟨.agg vs.toArray, by simp [ldV, this], .agg _ _ hr.1 hr.2⟩
    · cases ha

theorem ld_sound {base : Heap} {G : Gh} {h : Heap} {σ : St} (H : RelH base G h σ) {n : Option Nat} {a r : AV} {u : Value} (hl : ldA n a σ = some r) (hr : RelV G a u) : ∃ w, ldV n u (hp h) = some w ∧ RelV G r w := by
  unfold ldA at hl
  split at hl
  · cases hr with
    | ep cs vs b off k1 k2 k3 =>
      refine cellsA_sound hl fun j a ha => ?_
      obtain ⟨u, hu, hr⟩ := RelL.get ⟨k1, k2⟩ ha
      exact ⟨u, H.st _ _ _ (k3 _ _ hu), hr⟩
  · cases hr with
    | ref i w off l k1 k2 =>
      split at hl
      · rename_i w' cs hi
        split at hl
        · rename_i hw
          subst hw
          obtain ⟨m, h1, h2, h3, h4, h5⟩ := H.obj _ _ _ hi
          rw [k1] at h1
          cases h1
          refine cellsA_sound hl fun j a ha => ?_
          rw [List.getElem?_drop] at ha
          obtain ⟨u, h6, h7⟩ := h5 _ a ha
          exact ⟨u, by rw [Nat.add_assoc]; exact h6, h7⟩
        · cases hl
      · rename_i w' cs hi
        split at hl
        · rename_i hw
          subst hw
          obtain ⟨m, h1, h2, h3⟩ := H.frz _ _ _ hi
          rw [k1] at h1
          cases h1
          refine cellsA_sound hl fun j a ha => ?_
          rw [List.getElem?_drop] at ha
          obtain ⟨u, h6, h7⟩ := h3 _ a ha
          exact ⟨u, H.st _ _ _ (by rw [Nat.add_assoc]; exact h6), h7⟩
        · cases hl
      · cases hl
  · cases hl

end Go.Kx
