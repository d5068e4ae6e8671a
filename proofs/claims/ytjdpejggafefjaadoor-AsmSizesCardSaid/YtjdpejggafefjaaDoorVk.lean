/- Annotated values, part k: a call whose results are objects of its own, told over no state, in any state. -/
import Derived.Test.YtjdpejggafefjaaDoorVi
namespace Go.Kx
set_option linter.unusedVariables false
set_option linter.unusedSimpArgs false
open Go

def Tok.shift (k : Nat) : Tok → Tok
  | .id i ver sz => .id (i + k) ver sz
  | t => t
mutual
def AV.shift (k : Nat) : AV → AV
  | .v x => .v x
  | .agg xs => .agg (AV.shiftL k xs)
  | .tup xs => .tup (AV.shiftL k xs)
  | .sl n cs t => .sl n (AV.shiftL k cs) (t.shift k)
  | .ep cs => .ep (AV.shiftL k cs)
  | .ref i ver off => .ref (i + k) ver off
  | .ms i ver off n sz => .ms (i + k) ver off n sz
  | .fn f j xs => .fn f j (AV.shiftL k xs)
  | .ifc t x => .ifc t (AV.shift k x)
  | .mp i => .mp (i + k)
def AV.shiftL (k : Nat) : List AV → List AV
  | [] => []
  | x :: xs => AV.shift k x :: AV.shiftL k xs
end
theorem shiftL_map (k : Nat) (xs : List AV) : AV.shiftL k xs = xs.map (AV.shift k) := by
  induction xs with
  | nil => rfl
  | cons x xs ih => simp [AV.shiftL, ih]
theorem shiftL_get {k : Nat} {xs : List AV} {i : Nat} {a : AV} (h : (AV.shiftL k xs)[i]? = some a) : ∃ b, xs[i]? = some b ∧ a = b.shift k := by
  rw [shiftL_map, List.getElem?_map] at h
  cases hx : xs[i]? with
  | none => rw [hx] at h; cases h
  | some b => rw [hx] at h; cases h; exact ⟨b, rfl, rfl⟩
theorem shiftL_len (k : Nat) (xs : List AV) : (AV.shiftL k xs).length = xs.length := by rw [shiftL_map, List.length_map]
def Res.shift (k : Nat) : Res → Res
  | .obj w cs => .obj w (AV.shiftL k cs)
  | .frz w cs => .frz w (AV.shiftL k cs)
  | .map es => .map (es.map fun p => (p.1, AV.shift k p.2))
  | r => r
theorem Res.shift_live (k : Nat) (r : Res) : (r.shift k).live = r.live := by cases r <;> rfl

theorem shift_rel {G : Gh} {k : Nat} {T : Nat → Nat → Option Loc} (hT : ∀ i w l, G.T i w = some l → T (i + k) w = some l) {a : AV} {u : Value} (hr : RelV G a u) : RelV ⟨G.g, T⟩ (a.shift k) u := by
  have arm : ∀ {xs : List AV} {vs : List Value}, (∀ (i : Nat) (a : AV) (u : Value), xs[i]? = some a → vs[i]? = some u → RelV ⟨G.g, T⟩ (a.shift k) u) → ∀ (i : Nat) (a : AV) (u : Value), (AV.shiftL k xs)[i]? = some a → vs[i]? = some u → RelV ⟨G.g, T⟩ a u := by
    intro xs vs h i a u ha hu
    obtain ⟨b, h1, rfl⟩ := shiftL_get ha
    exact h i b u h1 hu
  induction hr with
  | v x => exact .v x
  | agg xs vs h1 h2 ih => exact .agg _ _ (by rw [shiftL_len]; exact h1) (arm ih)
  | tup xs vs h1 h2 ih => exact .tup _ _ (by rw [shiftL_len]; exact h1) (arm ih)
  | sl n cs t a cap vs h1 h2 h3 h4 h5 h6 ih =>
    refine .sl _ _ _ _ _ vs (by rw [shiftL_len]; exact h1) (arm ih) h3 h4 h5 ?_
    rw [shiftL_len]
    cases t with
    | id i ver sz => obtain ⟨l, e1, e2⟩ := h6; exact ⟨l, hT _ _ _ e1, e2⟩
    | _ => exact h6
  | ep cs vs b off h1 h2 h3 ih => exact .ep _ vs _ _ (by rw [shiftL_len]; exact h1) (arm ih) h3
  | ref i ver off l h1 h2 => exact .ref _ _ _ l (hT _ _ _ h1) h2
  | ms i ver off n sz l cap h1 h2 h3 h4 h5 => exact .ms _ _ _ _ _ l cap (hT _ _ _ h1) h2 h3 h4 h5
  | fn f j xs vs h1 h2 ih => exact .fn _ _ _ _ (by rw [shiftL_len]; exact h1) (arm ih)
  | ifc t x u h ih => exact .ifc _ _ _ ih
  | mp i l h1 h2 => exact .mp _ l (hT _ _ _ h1) h2

theorem locOf_app {G : Gh} {T : Nat → Nat → Option Loc} {σ τ : St} (h1 : ∀ i w, i < σ.length → T i w = G.T i w) {i : Nat} (hi : i < σ.length) (g : Nat → Nat → Option Value) : locOf ⟨g, T⟩ (σ ++ τ) i = locOf G σ i := by
  unfold locOf
  rw [List.getElem?_append_left hi]
  cases hs : σ[i]? with
  | none => rfl
  | some r => cases r <;> simp [Res.live, h1 _ _ hi]
theorem locOf_sh {G : Gh} {T : Nat → Nat → Option Loc} {σ τ : St} {k : Nat} (hk : σ.length = k) (h1 : ∀ i w, T (i + k) w = G.T i w) (i : Nat) (g : Nat → Nat → Option Value) : locOf ⟨g, T⟩ (σ ++ τ.map (Res.shift k)) (i + k) = locOf G τ i := by
  unfold locOf
  rw [List.getElem?_append_right (by omega), hk, Nat.add_sub_cancel, List.getElem?_map]
  cases hs : τ[i]? with
  | none => rfl
  | some r => cases r <;> simp [Res.live, Res.shift, h1]

theorem FnG.frame {P : Program} {f : FuncId} {as : List AV} {R : AV → St → Prop} (H : FnG P f as [] R) (hpu : AV.pureL as = true) (σ : St) :
    FnG P f as σ fun a σ' => ∃ a0 τ, R a0 τ ∧ a = a0.shift σ.length ∧ σ' = σ ++ τ.map (Res.shift σ.length) := by
  intro base G h vs hH hL
  have hL0 : RelL ⟨G.g, fun _ _ => none⟩ as vs := ⟨hL.1, fun i a u ha hu => pure_rel (hL.2 i a u ha hu) (pureL_get hpu ha)⟩
  have hH0 : RelH h ⟨G.g, fun _ _ => none⟩ h [] := by
    refine ⟨hH.tab.keep hH.size hH.keep, Nat.le_refl _, fun _ _ => rfl, hH.st, fun i w cs hi => by simp at hi, fun i w cs hi => by simp at hi, fun i l hl => ?_, fun i j l m _ hl => ?_, (fun i w l hl => by simp at hl), ⟨fun i es _ hi => by simp at hi, fun i j es es' l m _ _ _ hi => by simp at hi⟩⟩
    · have := locOf_lt hl; simp at this
    · have := locOf_lt hl; simp at this
  refine (H h _ h vs hH0 hL0).mono ?_
  rintro r h' ⟨G', a, τ, k1, k2, k3, k4⟩
  have hs := k2.size
  have hHs := hH.size
  let T : Nat → Nat → Option Loc := fun i w => if i < σ.length then G.T i w else G'.T (i - σ.length) w
  have t1 : ∀ i w, i < σ.length → T i w = G.T i w := fun i w hi => if_pos hi
  have t2 : ∀ i w, T (i + σ.length) w = G'.T i w := fun i w => by
    have : ¬ (i + σ.length < σ.length) := by omega
    show (if _ then _ else _) = _
    rw [if_neg this, Nat.add_sub_cancel]
  have hle : Gh.le h.size G ⟨G'.g, T⟩ := ⟨k1.g, fun i w l hl => by rw [← hl]; exact t1 i w (hH.bd i w l hl).1, k1.old⟩
  have hcell : ∀ b o, b < h.size → cellG (hp h') b o = cellG (hp h) b o := by
    intro b o hb
    unfold cellG hp
    rw [k2.keep b hb]
  have sh : ∀ {a u}, RelV G' a u → RelV ⟨G'.g, T⟩ (a.shift σ.length) u := fun hr => shift_rel (fun i w l hl => by rw [t2]; exact hl) hr
  have kv_shift : ∀ {en : List MapEntry} {es : List (Value × AV)}, KvRel G' en es → KvRel ⟨G'.g, T⟩ en (es.map fun p => (p.1, AV.shift σ.length p.2)) := by
    intro en
    induction en with
    | nil => intro es h; cases es with
      | nil => trivial
      | cons p es => exact h.elim
    | cons e en ih =>
      intro es h
      cases es with
      | nil => exact h.elim
      | cons p es => exact ⟨h.1, sh h.2.1, ih h.2.2⟩
  have split : ∀ i, i < (σ ++ τ.map (Res.shift σ.length)).length → i < σ.length ∨ ∃ j, i = j + σ.length := by
    intro i _
    by_cases hi : i < σ.length
    · exact .inl hi
    · exact .inr ⟨i - σ.length, by omega⟩
  have getR : ∀ j, (σ ++ τ.map (Res.shift σ.length))[j + σ.length]? = (τ[j]?).map (Res.shift σ.length) := by
    intro j
    rw [List.getElem?_append_right (by omega), Nat.add_sub_cancel, List.getElem?_map]
  refine ⟨⟨G'.g, T⟩, a.shift σ.length, σ ++ τ.map (Res.shift σ.length), hle.weaken hHs, ?_, sh k3, a, τ, k4, rfl, rfl⟩
  refine ⟨hH.tab, by omega, fun b hb => by rw [k2.keep b (by omega)]; exact hH.keep b hb, k2.st, ?_, ?_, ?_, ?_, ?_, ?_⟩
  · intro i w cs hi
    rcases split i (List.getElem?_eq_some_iff.1 hi).1 with hlt | ⟨j, rfl⟩
    · rw [List.getElem?_append_left hlt] at hi
      obtain ⟨l, h1, h2, h3, h4, h5⟩ := hH.obj i w cs hi
      refine ⟨l, (t1 i w hlt).trans h1, h2, h3, h4, fun j a ha => ?_⟩
      obtain ⟨u, h6, h7⟩ := h5 j a ha
      exact ⟨u, by rw [hcell _ _ (cellG_lt h6)]; exact h6, h7.mono hle⟩
    · rw [getR] at hi
      cases hx : τ[j]? with
      | none => rw [hx] at hi; cases hi
      | some r =>
        rw [hx] at hi
        cases r with
        | obj w0 cs0 =>
          cases hi
          obtain ⟨l, h1, h2, h3, h4, h5⟩ := k2.obj j _ _ hx
          refine ⟨l, (t2 j w).trans h1, h2, h3, by rw [shiftL_len]; exact h4, fun m a ha => ?_⟩
          obtain ⟨b, h6, rfl⟩ := shiftL_get ha
          obtain ⟨u, h7, h8⟩ := h5 m b h6
          exact ⟨u, h7, sh h8⟩
        | _ => simp [Res.shift] at hi
  · intro i w cs hi
    rcases split i (List.getElem?_eq_some_iff.1 hi).1 with hlt | ⟨j, rfl⟩
    · rw [List.getElem?_append_left hlt] at hi
      obtain ⟨l, h1, h2, h3⟩ := hH.frz i w cs hi
      refine ⟨l, (t1 i w hlt).trans h1, h2, fun j a ha => ?_⟩
      obtain ⟨u, h6, h7⟩ := h3 j a ha
      exact ⟨u, hle.g _ _ _ h6, h7.mono hle⟩
    · rw [getR] at hi
      cases hx : τ[j]? with
      | none => rw [hx] at hi; cases hi
      | some r =>
        rw [hx] at hi
        cases r with
        | frz w0 cs0 =>
          cases hi
          obtain ⟨l, h1, h2, h3⟩ := k2.frz j _ _ hx
          refine ⟨l, (t2 j w).trans h1, h2, fun m a ha => ?_⟩
          obtain ⟨b, h6, rfl⟩ := shiftL_get ha
          obtain ⟨u, h7, h8⟩ := h3 m b h6
          exact ⟨u, h7, sh h8⟩
        | _ => simp [Res.shift] at hi
  · intro i l hl b o hh
    rcases split i (locOf_lt hl) with hlt | ⟨j, rfl⟩
    · rw [locOf_app t1 hlt] at hl
      obtain ⟨h1, h2, h3⟩ := hH.own i l hl b o hh
      have hb := h2.lt
      refine ⟨h1, ?_, ?_⟩
      · obtain ⟨c, E, fz, e1, e2⟩ := h2
        exact ⟨c, E, fz, by rw [k2.keep b hb]; exact e1, e2⟩
      · show G'.g b o = none
        rw [k1.old b o hb]; exact h3
    · rw [locOf_sh rfl t2] at hl
      obtain ⟨h1, h2, h3⟩ := k2.own j l hl b o hh
      exact ⟨by omega, h2, h3⟩
  · intro i j l m hij hl hm b o hh hn
    rcases split i (locOf_lt hl) with hi | ⟨i', rfl⟩ <;> rcases split j (locOf_lt hm) with hj | ⟨j', rfl⟩
    · rw [locOf_app t1 hi] at hl
      rw [locOf_app t1 hj] at hm
      exact hH.disj i j l m hij hl hm b o hh hn
    · rw [locOf_app t1 hi] at hl
      rw [locOf_sh rfl t2] at hm
      have e1 := (hH.own i l hl b o hh).2.1.lt
      have e2 := (k2.own j' m hm b o hn).1
      omega
    · rw [locOf_sh rfl t2] at hl
      rw [locOf_app t1 hj] at hm
      have e1 := (hH.own j m hm b o hn).2.1.lt
      have e2 := (k2.own i' l hl b o hh).1
      omega
    · rw [locOf_sh rfl t2] at hl hm
      exact k2.disj i' j' l m (by omega) hl hm b o hh hn
  · intro i w l hl
    by_cases hi : i < σ.length
    · have hl' : G.T i w = some l := by rw [← t1 i w hi]; exact hl
      obtain ⟨h1, h2⟩ := hH.bd i w l hl'
      exact ⟨by rw [List.length_append]; omega, fun r w' hr => h2 r w' (by rwa [List.getElem?_append_left hi] at hr)⟩
    · obtain ⟨j, rfl⟩ : ∃ j, i = j + σ.length := ⟨i - σ.length, by omega⟩
      have hl' : G'.T j w = some l := by rw [← t2]; exact hl
      obtain ⟨h1, h2⟩ := k2.bd j w l hl'
      refine ⟨by rw [List.length_append, List.length_map]; omega, fun r w' hr hw => ?_⟩
      rw [getR] at hr
      cases hx : τ[j]? with
      | none => rw [hx] at hr; cases hr
      | some r0 =>
        rw [hx] at hr; cases hr
        rw [Res.shift_live] at hw
        exact h2 _ _ hx hw

  · have hmap : ∀ (i : Nat) (es : Res), es.isMi = true → (σ ++ τ.map (Res.shift σ.length))[i]? = some es →
        (∃ l, i < σ.length ∧ σ[i]? = some es ∧ G.T i 0 = some l ∧ l.isnil = false ∧ base.size ≤ l.b ∧ l.b < h.size ∧ l.off = 0 ∧ ∃ o, h'[l.b]? = some o ∧ MiRel ⟨G'.g, T⟩ es o) ∨
        (∃ j l, i = j + σ.length ∧ (∃ es0, es0.isMi = true ∧ τ[j]? = some es0) ∧ G'.T j 0 = some l ∧ l.isnil = false ∧ h.size ≤ l.b ∧ l.off = 0 ∧ ∃ o, h'[l.b]? = some o ∧ MiRel ⟨G'.g, T⟩ es o) := by
      intro i es hmi hi
      rcases split i (List.getElem?_eq_some_iff.1 hi).1 with hlt | ⟨j, rfl⟩
      · rw [List.getElem?_append_left hlt] at hi
        obtain ⟨l, a1, a2, a3, a0, o, a4, a5⟩ := hH.maps.mp i es hmi hi
        have hlb := (Array.getElem?_eq_some_iff.1 a4).1
        exact .inl ⟨l, hlt, hi, a1, a2, a3, hlb, a0, o, by rw [k2.keep _ hlb]; exact a4, a5.mono hle.g hle.T⟩
      · rw [getR] at hi
        cases hx : τ[j]? with
        | none => rw [hx] at hi; cases hi
        | some r =>
          rw [hx] at hi
          cases r with
          | map es0 =>
            cases hi
            obtain ⟨l, a1, a2, a3, a0, o, a4, a5⟩ := k2.maps.mp j _ rfl hx
            obtain ⟨en, c, rfl, a5⟩ := a5.ofMap
            exact .inr ⟨j, l, rfl, ⟨_, rfl, hx⟩, a1, a2, a3, a0, _, a4, kv_shift a5⟩
          | itr s pos =>
            cases hi
            obtain ⟨l, a1, a2, a3, a0, o, a4, a5⟩ := k2.maps.mp j _ rfl hx
            cases a5.ofItr
            exact .inr ⟨j, l, rfl, ⟨_, rfl, hx⟩, a1, a2, a3, a0, _, a4, ⟨rfl, rfl⟩⟩
          | _ => simp [Res.shift] at hi; rw [← hi] at hmi; cases hmi
    refine ⟨fun i es hm1 hi => ?_, fun i j es es' l m hij hm1 hm2 hi hj (hl : T i 0 = some l) (hm : T j 0 = some m) => ?_⟩
    · rcases hmap i es hm1 hi with ⟨l, a1, a2, a3, a4, a5, a6, a7⟩ | ⟨j, l, rfl, ⟨_, g2, a2⟩, a3, a4, a5, a7⟩
      · exact ⟨l, (t1 i 0 a1).trans a3, a4, a5, a7⟩
      · exact ⟨l, (t2 j 0).trans a3, a4, by omega, a7⟩
    · rcases hmap i es hm1 hi with ⟨l0, a1, a2, a3, a4, a5, a6, a7⟩ | ⟨i', l0, rfl, ⟨_, g1, a2⟩, a3, a4, a5, a7⟩ <;> rcases hmap j es' hm2 hj with ⟨m0, b1, b2, b3, b4, b5, b6, b7⟩ | ⟨j', m0, rfl, ⟨_, g2, b2⟩, b3, b4, b5, b7⟩
      · have e1 := (t1 i 0 a1).trans a3
        have e2 := (t1 j 0 b1).trans b3
        rw [hl] at e1; cases e1
        rw [hm] at e2; cases e2
        exact hH.maps.dj i j es es' l m hij hm1 hm2 a2 b2 a3 b3
      · have e1 := (t1 i 0 a1).trans a3
        have e2 := (t2 j' 0).trans b3
        rw [hl] at e1; cases e1
        rw [hm] at e2; cases e2
        omega
      · have e1 := (t2 i' 0).trans a3
        have e2 := (t1 j 0 b1).trans b3
        rw [hl] at e1; cases e1
        rw [hm] at e2; cases e2
        omega
      · have e1 := (t2 i' 0).trans a3
        have e2 := (t2 j' 0).trans b3
        rw [hl] at e1; cases e1
        rw [hm] at e2; cases e2
        exact k2.maps.dj i' j' _ _ l m (by omega) g1 g2 a2 b2 a3 b3

/-- A call that makes objects, and touches none that was there. -/
theorem wpa_callF {P : Program} {σ : St} {K : AV → St → Prop} {f : FuncId} {as : List AV} {R : AV → St → Prop} (H : FnG P f as [] R) (hpu : AV.pureL as = true)
    (hk : ∀ a τ, R a τ → act (K (a.shift σ.length) (σ ++ τ.map (Res.shift σ.length)))) : act (EF.awp P (.call f) as σ K) :=
  wpa_callG (H.frame hpu σ) fun _ _ ⟨a0, τ, h1, h2, h3⟩ => by rw [h2, h3]; exact hk a0 τ h1
end Go.Kx
