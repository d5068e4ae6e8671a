/- Annotated values, part d: what is frozen reads as what it holds; new blocks, stores, appends. -/
import Derived.Test.YtjdpejggafefjaaDoorVc
namespace Go.Kx
set_option linter.unusedVariables false
set_option linter.unusedSimpArgs false
open Go

mutual
/-- What holds no name of an object that is frozen, and nobody's tail. -/
def AV.res (σ : St) : AV → AV
  | .v x => .v x
  | .agg xs => .agg (AV.resL σ xs)
  | .tup xs => .tup (AV.resL σ xs)
  | .sl n cs _ => .sl n (AV.resL σ cs) .none
  | .ep cs => .ep (AV.resL σ cs)
  | .ref i w off => match σ[i]? with
    | some (.frz w' cs) => if w = w' then .ep (cs.drop off) else .ref i w off
    | _ => .ref i w off
  | .ms i w off n sz => match σ[i]? with
    | some (.frz w' cs) => if w = w' then .sl n (subA cs off (n * sz)) .none else .ms i w off n sz
    | _ => .ms i w off n sz
  | .fn f k xs => .fn f k (AV.resL σ xs)
  | .ifc t x => .ifc t (AV.res σ x)
  | .mp i => .mp i
def AV.resL (σ : St) : List AV → List AV
  | [] => []
  | x :: xs => AV.res σ x :: AV.resL σ xs
end
mutual
def AV.pure : AV → Bool
  | .v _ => true
  | .agg xs => AV.pureL xs
  | .tup xs => AV.pureL xs
  | .sl _ cs t => (match t with | .id _ _ _ => false | _ => true) && AV.pureL cs
  | .ep cs => AV.pureL cs
  | .ref _ _ _ => false
  | .ms _ _ _ _ _ => false
  | .fn _ _ xs => AV.pureL xs
  | .ifc _ x => AV.pure x
  | .mp _ => false
def AV.pureL : List AV → Bool
  | [] => true
  | x :: xs => AV.pure x && AV.pureL xs
end
theorem resL_map (σ : St) (xs : List AV) : AV.resL σ xs = xs.map (AV.res σ) := by
  induction xs with
  | nil => rfl
  | cons x xs ih => simp [AV.resL, ih]
theorem pureL_all (xs : List AV) : AV.pureL xs = xs.all AV.pure := by
  induction xs with
  | nil => rfl
  | cons x xs ih => simp [AV.pureL, ih]
theorem pureL_get {xs : List AV} (h : AV.pureL xs = true) {i : Nat} {a : AV} (ha : xs[i]? = some a) : a.pure = true := by
  rw [pureL_all, List.all_eq_true] at h
  exact h a (List.mem_of_getElem? ha)

theorem RelL.choose {G : Gh} {Q : Nat → Value → Prop} : ∀ {cs : List AV}, (∀ j a, cs[j]? = some a → ∃ u, Q j u ∧ RelV G a u) → ∃ vs, RelL G cs vs ∧ ∀ j u, vs[j]? = some u → Q j u := by
  intro cs
  induction cs generalizing Q with
  | nil => intro _; exact ⟨[], .nil G, fun j u h => by simp at h⟩
  | cons x l ih =>
    intro hl
    obtain ⟨u, h1, h2⟩ := hl 0 x rfl
    obtain ⟨vs, h3, h4⟩ := ih (Q := fun j => Q (j + 1)) (fun j a ha => hl (j + 1) a (by simpa using ha))
    refine ⟨u :: vs, .cons h2 h3, fun j w hw => ?_⟩
    cases j with
    | zero => simp at hw; subst hw; exact h1
    | succ j => exact h4 j w (by simpa using hw)

theorem res_rel {base : Heap} {G : Gh} {h : Heap} {σ : St} (H : RelH base G h σ) {a : AV} {u : Value} (hr : RelV G a u) : RelV G (a.res σ) u := by
  have lst : ∀ {xs : List AV} {vs : List Value}, (∀ (i : Nat) (a : AV) (u : Value), xs[i]? = some a → vs[i]? = some u → RelV G (a.res σ) u) → ∀ (i : Nat) (a : AV) (u : Value), (AV.resL σ xs)[i]? = some a → vs[i]? = some u → RelV G a u := by
    intro xs vs ih i a u ha hu
    rw [resL_map, List.getElem?_map, Option.map_eq_some_iff] at ha
    obtain ⟨b, hb, rfl⟩ := ha
    exact ih i b u hb hu
  induction hr with
  | v x => exact .v x
  | agg xs vs h1 h2 ih => exact .agg _ _ (by rw [resL_map]; simpa using h1) (lst ih)
  | tup xs vs h1 h2 ih => exact .tup _ _ (by rw [resL_map]; simpa using h1) (lst ih)
  | sl n cs t a cap vs h1 h2 h3 h4 h5 h6 ih => exact .sl _ _ _ _ _ vs (by rw [resL_map]; simpa using h1) (lst ih) h3 h4 h5 trivial
  | ep cs vs b off h1 h2 h3 ih => exact .ep _ vs _ _ (by rw [resL_map]; simpa using h1) (lst ih) h3
  | ref i ver off l h1 h2 =>
    simp only [AV.res]
    split
    · rename_i w' cs hi
      split
      · rename_i hw
        subst hw
        obtain ⟨m, k1, k2, k3⟩ := H.frz _ _ _ hi
        rw [h1] at k1
        cases k1
        obtain ⟨vs, e1, e2⟩ := RelL.choose k3
        have := e1.drop off
        refine .ep _ (vs.drop off) _ _ this.1 this.2 ?_
        intro i u hu
        rw [List.getElem?_drop] at hu
        rw [Nat.add_assoc]
        exact e2 _ _ hu
      · exact .ref _ _ _ l h1 h2
    · exact .ref _ _ _ l h1 h2
  | ms i ver off n sz l cap h1 h2 h3 h4 h5 =>
    simp only [AV.res]
    split
    · rename_i w' cs hi
      split
      · rename_i hw
        subst hw
        obtain ⟨m, k1, k2, k3⟩ := H.frz _ _ _ hi
        rw [h1] at k1
        cases k1
        obtain ⟨vs, e1, e2⟩ := RelL.choose k3
        have := (e1.drop off).take (n * sz)
        refine .sl _ _ _ _ _ _ this.1 this.2 h3 h4 (.inr ⟨_, _, rfl, ?_⟩) trivial
        intro i u hu
        simp only [List.getElem?_take] at hu
        split at hu
        · rw [List.getElem?_drop] at hu
          rw [Nat.add_assoc]
          exact e2 _ _ hu
        · cases hu
      · exact .ms _ _ _ _ _ l cap h1 h2 h3 h4 h5
    · exact .ms _ _ _ _ _ l cap h1 h2 h3 h4 h5
  | fn f k xs vs h1 h2 ih => exact .fn _ _ _ _ (by rw [resL_map]; simpa using h1) (lst ih)
  | ifc t x u h ih => exact .ifc _ _ _ ih
  | mp i l h1 h2 => exact .mp _ l h1 h2

/-- What names nothing is read without names. -/
theorem pure_rel {G : Gh} {T : Nat → Nat → Option Loc} {a : AV} {u : Value} (hr : RelV G a u) (hp : a.pure = true) : RelV ⟨G.g, T⟩ a u := by
  induction hr with
  | v x => exact .v x
  | agg xs vs h1 h2 ih => exact .agg _ _ h1 fun i a u ha hu => ih i a u ha hu (pureL_get (by simpa [AV.pure] using hp) ha)
  | tup xs vs h1 h2 ih => exact .tup _ _ h1 fun i a u ha hu => ih i a u ha hu (pureL_get (by simpa [AV.pure] using hp) ha)
  | sl n cs t a cap vs h1 h2 h3 h4 h5 h6 ih =>
    simp only [AV.pure, Bool.and_eq_true] at hp
    refine .sl _ _ _ _ _ vs h1 (fun i a u ha hu => ih i a u ha hu (pureL_get hp.2 ha)) h3 h4 h5 ?_
    cases t with
    | id i w s => simp at hp
    | _ => exact h6
  | ep cs vs b off h1 h2 h3 ih => exact .ep _ vs _ _ h1 (fun i a u ha hu => ih i a u ha hu (pureL_get (by simpa [AV.pure] using hp) ha)) h3
  | ref i ver off l h1 h2 => simp [AV.pure] at hp
  | ms i ver off n sz l cap h1 h2 h3 h4 h5 => simp [AV.pure] at hp
  | fn f k xs vs h1 h2 ih => exact .fn _ _ _ _ h1 fun i a u ha hu => ih i a u ha hu (pureL_get (by simpa [AV.pure] using hp) ha)
  | ifc t x u h ih => exact .ifc _ _ _ (ih (by simpa [AV.pure] using hp))
  | mp i l h1 h2 => simp [AV.pure] at hp

theorem RelH.kill {base : Heap} {G : Gh} {h : Heap} {σ : St} (H : RelH base G h σ) {i w : Nat} {cs : List AV} (hi : σ[i]? = some (.obj w cs)) {cs' : List AV} {l : Loc} (hl : G.T i w = some l)
    (hc : ∀ j a, cs'[j]? = some a → ∃ u, G.g l.b (l.off + j) = some u ∧ RelV G a u) : RelH base G h (σ.set i (.frz w cs')) := by
  have hlt : i < σ.length := (List.getElem?_eq_some_iff.1 hi).1
  have hset : (σ.set i (.frz w cs'))[i]? = some (.frz w cs') := by simp [hlt]
  have hloc : ∀ j l, locOf G (σ.set i (.frz w cs')) j = some l → locOf G σ j = some l := by
    intro j l hj
    by_cases hji : j = i
    · subst hji; unfold locOf at hj; rw [hset] at hj; simp [Res.live] at hj
    · unfold locOf at hj ⊢; rwa [List.getElem?_set_ne (Ne.symm hji)] at hj
  refine ⟨H.tab, H.size, H.keep, H.st, ?_, ?_, fun j m hm => H.own j m (hloc j m hm), fun j k m n hjk hm hn => H.disj j k m n hjk (hloc _ _ hm) (hloc _ _ hn), ?_, H.maps.mono (map_set rfl) (fun _ _ _ h => h) (fun _ _ _ h => h) fun _ _ _ h => h⟩
  · intro j v ds hj
    have hji : j ≠ i := by rintro rfl; rw [hset] at hj; simp at hj
    rw [List.getElem?_set_ne (Ne.symm hji)] at hj
    exact H.obj j v ds hj
  · intro j v ds hj
    by_cases hji : j = i
    · subst hji
      rw [hset] at hj
      simp at hj
      obtain ⟨rfl, rfl⟩ := hj
      obtain ⟨m, h1, h2, _⟩ := H.obj j w cs hi
      rw [hl] at h1
      cases h1
      exact ⟨l, hl, h2, hc⟩
    · rw [List.getElem?_set_ne (Ne.symm hji)] at hj
      exact H.frz j v ds hj
  · intro j v m hm
    obtain ⟨h1, h2⟩ := H.bd j v m hm
    refine ⟨by simpa using h1, fun r w' hr hw' => ?_⟩
    by_cases hji : j = i
    · subst hji
      rw [hset] at hr
      simp at hr
      subst hr
      simp [Res.live] at hw'
    · rw [List.getElem?_set_ne (Ne.symm hji)] at hr
      exact h2 r w' hr hw'

def freeze1 (σ : St) (i : Nat) : St := match σ[i]? with
  | some (.obj w cs) => σ.set i (.frz w (AV.resL σ cs))
  | _ => σ
def freeze (is : List Nat) (σ : St) : St := is.foldl freeze1 σ

theorem RelH.freeze1 {base : Heap} {G : Gh} {h : Heap} {σ : St} (H : RelH base G h σ) (i : Nat) : ∃ G', Gh.le base.size G G' ∧ RelH base G' h (freeze1 σ i) := by
  unfold Go.Kx.freeze1
  split
  · rename_i w cs hi
    obtain ⟨l, h1, h2, h3, h4, h5⟩ := H.obj i w cs hi
    obtain ⟨vs, e1, e2⟩ := RelL.choose h5
    have hlen : vs.length = cs.length := e1.1
    have hli : locOf G σ i = some l := by unfold locOf; rw [hi]; exact h1
    have hhas : ∀ o, l.off ≤ o → o < l.off + vs.length → l.has l.b o := fun o a b => ⟨h2, rfl, by omega, by omega⟩
    by_cases h0 : cs.length = 0
    · refine ⟨G, .refl _ _, H.kill hi h1 fun j a ha => ?_⟩
      have := (List.getElem?_eq_some_iff.1 ha).1
      rw [resL_map, List.length_map] at this
      omega
    · -- the object's cells are published, once nobody holds them
      have hb : base.size ≤ l.b := (H.own i l hli l.b l.off (hhas _ (by omega) (by omega))).1
      have hgn : ∀ j, j < vs.length → G.g l.b (l.off + j) = none := fun j hj => (H.own i l hli _ _ (hhas _ (by omega) (by omega))).2.2
      have hle : Gh.le base.size G (G.pub l.b l.off vs) := Gh.le_pub hb hgn
      have K : RelH base G h (σ.set i .dead) := by
        have hlt : i < σ.length := (List.getElem?_eq_some_iff.1 hi).1
        have hset : (σ.set i .dead)[i]? = some .dead := by simp [hlt]
        have hloc : ∀ j l, locOf G (σ.set i .dead) j = some l → locOf G σ j = some l := by
          intro j l hj
          by_cases hji : j = i
          · subst hji; unfold locOf at hj; rw [hset] at hj; simp [Res.live] at hj
          · unfold locOf at hj ⊢; rwa [List.getElem?_set_ne (Ne.symm hji)] at hj
        refine ⟨H.tab, H.size, H.keep, H.st, ?_, ?_, fun j m hm => H.own j m (hloc j m hm), fun j k m n hjk hm hn => H.disj j k m n hjk (hloc _ _ hm) (hloc _ _ hn), ?_, H.maps.mono (map_set rfl) (fun _ _ _ h => h) (fun _ _ _ h => h) fun _ _ _ h => h⟩
        · intro j v ds hj
          have hji : j ≠ i := by rintro rfl; rw [hset] at hj; simp at hj
          rw [List.getElem?_set_ne (Ne.symm hji)] at hj
          exact H.obj j v ds hj
        · intro j v ds hj
          have hji : j ≠ i := by rintro rfl; rw [hset] at hj; simp at hj
          rw [List.getElem?_set_ne (Ne.symm hji)] at hj
          exact H.frz j v ds hj
        · intro j v m hm
          obtain ⟨h1, h2⟩ := H.bd j v m hm
          refine ⟨by simpa using h1, fun r w' hr hw' => ?_⟩
          by_cases hji : j = i
          · subst hji
            rw [hset] at hr
            simp at hr
            subst hr
            simp [Res.live] at hw'
          · rw [List.getElem?_set_ne (Ne.symm hji)] at hr
            exact h2 r w' hr hw'
      have hdead : ∀ j m, locOf G (σ.set i .dead) j = some m → j ≠ i ∧ locOf G σ j = some m := by
        intro j m hj
        have hlt : i < σ.length := (List.getElem?_eq_some_iff.1 hi).1
        by_cases hji : j = i
        · subst hji; unfold locOf at hj; simp [hlt, Res.live] at hj
        · unfold locOf at hj ⊢; rw [List.getElem?_set_ne (Ne.symm hji)] at hj; exact ⟨hji, hj⟩
      obtain ⟨_, K2⟩ := K.publish l.b l.off vs hb e2 hgn (fun j m hm o h6 h7 hh => by
        obtain ⟨hji, hm⟩ := hdead j m hm
        exact H.disj j i m l hji hm hli _ _ hh (hhas _ h6 h7))
      refine ⟨G.pub l.b l.off vs, hle, ?_⟩
      -- from dead to frozen
      have hlt : i < σ.length := (List.getElem?_eq_some_iff.1 hi).1
      have hset : (σ.set i (.frz w (AV.resL σ cs)))[i]? = some (.frz w (AV.resL σ cs)) := by simp [hlt]
      have hother : ∀ j r, j ≠ i → (σ.set i (.frz w (AV.resL σ cs)))[j]? = some r → (σ.set i .dead)[j]? = some r := by
        intro j r hji hj
        rw [List.getElem?_set_ne (Ne.symm hji)] at hj ⊢
        exact hj
      have hloc : ∀ j m, locOf (G.pub l.b l.off vs) (σ.set i (.frz w (AV.resL σ cs))) j = some m → locOf (G.pub l.b l.off vs) (σ.set i .dead) j = some m := by
        intro j m hj
        by_cases hji : j = i
        · subst hji; unfold locOf at hj; rw [hset] at hj; simp [Res.live] at hj
        · unfold locOf at hj ⊢
          rw [List.getElem?_set_ne (Ne.symm hji)] at hj ⊢
          exact hj
      refine ⟨K2.tab, K2.size, K2.keep, K2.st, ?_, ?_, fun j m hm => K2.own j m (hloc j m hm), fun j k m n hjk hm hn => K2.disj j k m n hjk (hloc _ _ hm) (hloc _ _ hn), ?_, H.maps.mono (map_set rfl) hle.g hle.T fun _ _ _ h => h⟩
      · intro j v ds hj
        have hji : j ≠ i := by rintro rfl; rw [hset] at hj; simp at hj
        exact K2.obj j v ds (hother j _ hji hj)
      · intro j v ds hj
        by_cases hji : j = i
        · subst hji
          rw [hset] at hj
          simp at hj
          obtain ⟨rfl, rfl⟩ := hj
          refine ⟨l, h1, h2, fun k a ha => ?_⟩
          rw [resL_map, List.getElem?_map, Option.map_eq_some_iff] at ha
          obtain ⟨a', ha', rfl⟩ := ha
          obtain ⟨u, hu, hr⟩ := e1.get ha'
          exact ⟨u, Gh.pub_get hu, (res_rel H hr).mono hle⟩
        · exact K2.frz j v ds (hother j _ hji hj)
      · intro j v m hm
        obtain ⟨h1, h2⟩ := K2.bd j v m hm
        refine ⟨by simpa using h1, fun r w' hr hw' => ?_⟩
        by_cases hji : j = i
        · subst hji
          rw [hset] at hr
          simp at hr
          subst hr
          simp [Res.live] at hw'
        · exact h2 r w' (hother j _ hji hr) hw'
  · exact ⟨G, .refl _ _, H⟩
theorem RelH.freeze {base : Heap} {h : Heap} : ∀ (is : List Nat) {G : Gh} {σ : St} (_ : RelH base G h σ), ∃ G', Gh.le base.size G G' ∧ RelH base G' h (Go.Kx.freeze is σ) := by
  intro is
  induction is with
  | nil => intro G σ H; exact ⟨G, .refl _ _, H⟩
  | cons i is ih =>
    intro G σ H
    obtain ⟨G1, h1, H1⟩ := H.freeze1 i
    obtain ⟨G2, h2, H2⟩ := ih H1
    exact ⟨G2, h1.trans h2, H2⟩

/-! ### New blocks -/
theorem RelH.g_new {base : Heap} {G : Gh} {h : Heap} {σ : St} (H : RelH base G h σ) (o : Nat) : G.g h.size o = none := by
  cases hg : G.g h.size o with
  | none => rfl
  | some u => have := cellG_lt (H.st _ _ _ hg); omega
theorem RelH.has_new {base : Heap} {G : Gh} {h : Heap} {σ : St} (H : RelH base G h σ) {i : Nat} {l : Loc} (hl : locOf G σ i = some l) (o : Nat) : ¬ l.has h.size o := by
  intro hh
  have := (H.own i l hl _ _ hh).2.1.lt
  omega

theorem RelH.newObj {base : Heap} {G : Gh} {h : Heap} {σ : St} (H : RelH base G h σ) (vs rest : List Value) (cs : List AV) (E : TypeId) (hr : RelL G cs vs) :
    ∃ G' l, Gh.le base.size G G' ∧ RelH base G' (h.push (.cells (vs ++ rest).toArray E (0, 0))) (σ ++ [.obj 0 cs]) ∧ G'.T σ.length 0 = some l ∧ l.b = h.size ∧ l.off = 0 ∧ l.isnil = false ∧ l.lim = vs.length + rest.length := by
  have hs := H.size
  obtain ⟨h1, h2⟩ := (H.push (.cells (vs ++ rest).toArray E (0, 0))).name (.obj 0 cs) 0 ⟨h.size, 0, 0, 0, 0, vs.length + rest.length, false⟩ rfl
    (fun b o hh => by
      obtain ⟨_, rfl, _, h4⟩ := hh
      exact ⟨hs, Wr_new (by simpa using h4), H.g_new o⟩)
    (fun i m hm b o hh hk => by
      obtain ⟨_, rfl, _, h4⟩ := hh
      exact H.has_new hm o hk)
    (fun v ds hd => by
      simp at hd
      obtain ⟨rfl, rfl⟩ := hd
      refine ⟨rfl, rfl, by simp [hr.1], fun j a ha => ?_⟩
      obtain ⟨u, hu, hv⟩ := hr.get ha
      refine ⟨u, ?_, hv⟩
      show cellG _ h.size (0 + j) = some u
      rw [cellG_push_new, Nat.zero_add, List.getElem?_toArray, List.getElem?_append_left (List.getElem?_eq_some_iff.1 hu).1]
      exact hu)
  exact ⟨_, _, h1, h2, Gh.put_self _ _ _ _, rfl, rfl, rfl, rfl⟩

theorem RelH.newPub {base : Heap} {G : Gh} {h : Heap} {σ : St} (H : RelH base G h σ) (vs rest : List Value) (E : TypeId) :
    Gh.le base.size G (G.pub h.size 0 vs) ∧ RelH base (G.pub h.size 0 vs) (h.push (.cells (vs ++ rest).toArray E (0, 0))) σ ∧ ∀ i u, vs[i]? = some u → (G.pub h.size 0 vs).g h.size (0 + i) = some u := by
  obtain ⟨h1, h2⟩ := (H.push (.cells (vs ++ rest).toArray E (0, 0))).publish h.size 0 vs H.size (fun i u hu => by
      rw [cellG_push_new, Nat.zero_add, List.getElem?_toArray, List.getElem?_append_left (List.getElem?_eq_some_iff.1 hu).1]
      exact hu) (fun i _ => H.g_new _) (fun i l hl o _ _ => H.has_new hl o)
  exact ⟨h1, h2, fun i u hu => Gh.pub_get hu⟩

/-- A tail that holds nothing yet. -/
theorem RelH.newTail {base : Heap} {G : Gh} {h : Heap} {σ : St} (H : RelH base G h σ) (l : Loc) (hl : ∀ b o, ¬ l.has b o) :
    ∃ G', Gh.le base.size G G' ∧ RelH base G' h (σ ++ [.tail 0]) ∧ G'.T σ.length 0 = some l := by
  obtain ⟨h1, h2⟩ := H.name (.tail 0) 0 l rfl (fun b o hh => absurd hh (hl b o)) (fun i m hm b o hh => absurd hh (hl b o)) (fun v ds hd => by cases hd)
  exact ⟨_, h1, h2, Gh.put_self _ _ _ _⟩

/-- A store into an object, whose content is told anew. -/
theorem RelH.storeObj {base : Heap} {G : Gh} {h h' : Heap} {σ : St} (H : RelH base G h σ) {i w : Nat} {cs : List AV} (hi : σ[i]? = some (.obj w cs)) {l : Loc} (hl : G.T i w = some l) {off : Nat} {vs : List Value}
    (hin : l.off + off + vs.length ≤ l.lim) (S : Stored h h' l.b (l.off + off) vs) (hz : vs = [] → h' = h) {cs' : List AV} (hlen : l.off + cs'.length ≤ l.lim)
    (hc : ∀ j a, cs'[j]? = some a → ∃ u, cellG (hp h') l.b (l.off + j) = some u ∧ RelV G a u) : RelH base G h' (σ.set i (.obj w cs')) := by
  by_cases h0 : vs = []
  · have := hz h0
    subst this
    exact H.retell hi hl hlen hc
  have hpos : 0 < vs.length := List.length_pos_iff.2 h0
  obtain ⟨l', e1, e2, e3, e4, e5⟩ := H.obj i w cs hi
  rw [hl] at e1
  cases e1
  have hli : locOf G σ i = some l := by unfold locOf; rw [hi]; exact hl
  have hhas : ∀ o, l.off + off ≤ o → o < l.off + off + vs.length → l.has l.b o := fun o a b => ⟨e2, rfl, by omega, by omega⟩
  have hlt : i < σ.length := (List.getElem?_eq_some_iff.1 hi).1
  have hset : (σ.set i (.obj w cs'))[i]? = some (.obj w cs') := by simp [hlt]
  have hloc : ∀ j, locOf G (σ.set i (.obj w cs')) j = locOf G σ j := by
    intro j
    by_cases hj : j = i
    · subst hj; unfold locOf; rw [hset, hi]; rfl
    · unfold locOf; rw [List.getElem?_set_ne (Ne.symm hj)]
  have hb := (H.own i l hli _ _ (hhas (l.off + off) (by omega) (by omega))).1
  refine ⟨H.tab, by rw [S.size]; exact H.size, ?_, ?_, ?_, ?_, ?_, ?_, ?_, H.maps.mono (map_set rfl) (fun _ _ _ h => h) (fun _ _ _ h => h) S.maps⟩
  · intro c hcb
    rw [S.blk c (by omega)]; exact H.keep c hcb
  · intro c o u hu
    rw [S.old c o]
    · exact H.st c o u hu
    · by_cases hcb : c = l.b
      · by_cases ho : l.off + off ≤ o ∧ o < l.off + off + vs.length
        · have := (H.own i l hli _ _ (hhas o ho.1 ho.2)).2.2
          rw [← hcb, hu] at this
          cases this
        · omega
      · exact .inl hcb
  · intro j v ds hj
    by_cases hji : j = i
    · subst hji
      rw [hset] at hj
      simp at hj
      obtain ⟨rfl, rfl⟩ := hj
      exact ⟨l, hl, e2, e3, hlen, hc⟩
    · rw [List.getElem?_set_ne (Ne.symm hji)] at hj
      obtain ⟨m, h1, h2, h3, h4, h5⟩ := H.obj j v ds hj
      refine ⟨m, h1, h2, h3, h4, fun k a ha => ?_⟩
      obtain ⟨u, h6, h7⟩ := h5 k a ha
      refine ⟨u, ?_, h7⟩
      rw [S.old _ _]
      · exact h6
      · by_cases hcb : m.b = l.b
        · by_cases ho : l.off + off ≤ m.off + k ∧ m.off + k < l.off + off + vs.length
          · have hmj : locOf G σ j = some m := by unfold locOf; rw [hj]; exact h1
            have hkl := (List.getElem?_eq_some_iff.1 ha).1
            exact absurd (hcb ▸ hhas _ ho.1 ho.2) (H.disj j i m l hji hmj hli m.b (m.off + k) ⟨h2, rfl, by omega, by omega⟩)
          · omega
        · exact .inl hcb
  · intro j v ds hj
    have hji : j ≠ i := by rintro rfl; rw [hset] at hj; simp at hj
    rw [List.getElem?_set_ne (Ne.symm hji)] at hj
    exact H.frz j v ds hj
  · intro j m hm c o hh
    rw [hloc] at hm
    obtain ⟨h1, h2, h3⟩ := H.own j m hm c o hh
    exact ⟨h1, S.wr _ _ h2, h3⟩
  · intro j k m n hjk hm hn
    rw [hloc] at hm hn
    exact H.disj j k m n hjk hm hn
  · intro j v m hm
    obtain ⟨h1, h2⟩ := H.bd j v m hm
    refine ⟨by simpa using h1, fun r w' hr hw' => ?_⟩
    by_cases hji : j = i
    · subst hji
      rw [hset] at hr
      simp at hr
      subst hr
      simp [Res.live] at hw'
      subst hw'
      exact h2 _ w hi rfl
    · rw [List.getElem?_set_ne (Ne.symm hji)] at hr
      exact h2 r w' hr hw'

/-- The same object under its next version. -/
theorem RelH.bump {base : Heap} {G : Gh} {h : Heap} {σ : St} (H : RelH base G h σ) {i w : Nat} {cs : List AV} (hi : σ[i]? = some (.obj w cs)) {l : Loc} (hl : G.T i w = some l) :
    ∃ G', Gh.le base.size G G' ∧ RelH base G' h (σ.set i (.obj (w + 1) cs)) ∧ G'.T i (w + 1) = some l := by
  obtain ⟨l', e1, e2, e3, e4, e5⟩ := H.obj i w cs hi
  rw [hl] at e1
  cases e1
  have hli : locOf G σ i = some l := by unfold locOf; rw [hi]; exact hl
  obtain ⟨h1, h2⟩ := H.turn hi rfl (w + 1) l (r' := .obj (w + 1) cs) rfl (by omega) (H.own i l hli) (fun j m hj hm b o hh hk => H.disj i j l m (Ne.symm hj) hli hm b o hh hk)
    (fun v ds hd => by cases hd; exact ⟨e2, e3, e4, e5⟩)
  exact ⟨_, h1, h2, Gh.put_self _ _ _ _⟩

/-- An object whose cells now lie in a new block. -/
theorem RelH.moveObj {base : Heap} {G : Gh} {h : Heap} {σ : St} (H : RelH base G h σ) {i w : Nat} {cs : List AV} (hi : σ[i]? = some (.obj w cs)) (vs rest : List Value) (cs' : List AV) (E : TypeId) (hr : RelL G cs' vs) :
    ∃ G' l, Gh.le base.size G G' ∧ RelH base G' (h.push (.cells (vs ++ rest).toArray E (0, 0))) (σ.set i (.obj (w + 1) cs')) ∧ G'.T i (w + 1) = some l ∧ l.b = h.size ∧ l.off = 0 ∧ l.isnil = false ∧ l.lim = vs.length + rest.length := by
  have hs := H.size
  obtain ⟨h1, h2⟩ := (H.push (.cells (vs ++ rest).toArray E (0, 0))).turn hi rfl (w + 1) ⟨h.size, 0, 0, 0, 0, vs.length + rest.length, false⟩ (r' := .obj (w + 1) cs') rfl (by omega)
    (fun b o hh => by
      obtain ⟨_, rfl, _, h4⟩ := hh
      exact ⟨hs, Wr_new (by simpa using h4), H.g_new o⟩)
    (fun j m _ hm b o hh hk => by
      obtain ⟨_, rfl, _, h4⟩ := hh
      exact H.has_new hm o hk)
    (fun v ds hd => by
      cases hd
      refine ⟨rfl, rfl, by simp [hr.1], fun j a ha => ?_⟩
      obtain ⟨u, hu, hv⟩ := hr.get ha
      refine ⟨u, ?_, hv⟩
      show cellG _ h.size (0 + j) = some u
      rw [cellG_push_new, Nat.zero_add, List.getElem?_toArray, List.getElem?_append_left (List.getElem?_eq_some_iff.1 hu).1]
      exact hu)
  exact ⟨_, _, h1, h2, Gh.put_self _ _ _ _, rfl, rfl, rfl, rfl⟩

/-- A tail that now lies in a new block, behind cells that never turn. -/
theorem RelH.moveTail {base : Heap} {G : Gh} {h : Heap} {σ : St} (H : RelH base G h σ) {i w : Nat} (hi : σ[i]? = some (.tail w)) (vs rest : List Value) (E : TypeId) (n cap : Nat) :
    ∃ G', Gh.le base.size G G' ∧ RelH base G' (h.push (.cells (vs ++ rest).toArray E (0, 0))) (σ.set i (.tail (w + 1))) ∧ (∀ j u, vs[j]? = some u → G'.g h.size (0 + j) = some u) ∧
      G'.T i (w + 1) = some ⟨h.size, 0, cap, n, vs.length, vs.length + rest.length, false⟩ := by
  have hs := H.size
  obtain ⟨h1, H1, hc⟩ := H.newPub vs rest E
  obtain ⟨h2, H2⟩ := H1.turn hi rfl (w + 1) ⟨h.size, 0, cap, n, vs.length, vs.length + rest.length, false⟩ (r' := .tail (w + 1)) rfl (by omega)
    (fun b o hh => by
      obtain ⟨_, rfl, h3, h4⟩ := hh
      refine ⟨hs, Wr_new (by simpa using h4), ?_⟩
      simp only [Gh.pub]
      rw [if_neg (by simp at h3 ⊢; omega)]
      exact H.g_new o)
    (fun j m _ hm b o hh hk => by
      obtain ⟨_, rfl, _, h4⟩ := hh
      exact H.has_new (show locOf G σ j = some m from hm) o hk)
    (fun v ds hd => by cases hd)
  exact ⟨_, h1.trans h2, H2, hc, Gh.put_self _ _ _ _⟩

/-- A tail that gives some of its cells away: they are stored, and never turn again. -/
theorem RelH.growTail {base : Heap} {G : Gh} {h : Heap} {σ : St} (H : RelH base G h σ) {i w : Nat} (hi : σ[i]? = some (.tail w)) {l : Loc} (hl : G.T i w = some l) (hn : l.isnil = false) (vs : List Value) (hv : ∀ v ∈ vs, v.oneCell' = true) (hlim : l.e + vs.length ≤ l.lim) (n : Nat) :
    ∃ h' G', stL h l.b l.e vs = some h' ∧ Gh.le base.size G G' ∧ RelH base G' h' (σ.set i (.tail (w + 1))) ∧ (∀ j u, vs[j]? = some u → G'.g l.b (l.e + j) = some u) ∧
      G'.T i (w + 1) = some ⟨l.b, l.off, l.cap, n, l.e + vs.length, l.lim, false⟩ := by
  have hli : locOf G σ i = some l := by unfold locOf; rw [hi]; exact hl
  have hhas : ∀ o, l.e ≤ o → o < l.e + vs.length → l.has l.b o := fun o a b => ⟨hn, rfl, by omega, by omega⟩
  have hmore : ∀ b o, (⟨l.b, l.off, l.cap, n, l.e + vs.length, l.lim, false⟩ : Loc).has b o → l.has b o := fun b o hh => by
    obtain ⟨_, h2, h3, h4⟩ := hh
    simp only at h2 h3 h4
    exact ⟨hn, h2, by omega, h4⟩
  obtain ⟨h', e, S⟩ := stL_spec vs (h := h) (b := l.b) (off := l.e) (fun j hj => (H.own i l hli _ _ (hhas _ (by omega) (by omega))).2.1) hv
  by_cases h0 : vs = []
  · subst h0
    simp [stL] at e
    subst e
    obtain ⟨h2, H2⟩ := H.turn hi rfl (w + 1) ⟨l.b, l.off, l.cap, n, l.e + 0, l.lim, false⟩ (r' := .tail (w + 1)) rfl (by omega)
      (fun b o hh => H.own i l hli b o (hmore b o hh)) (fun j m hj hm b o hh hk => H.disj i j l m (Ne.symm hj) hli hm b o (hmore b o hh) hk) (fun v ds hd => by cases hd)
    exact ⟨h, _, rfl, h2, H2, fun j u hu => by simp at hu, Gh.put_self _ _ _ _⟩
  have hpos : 0 < vs.length := List.length_pos_iff.2 h0
  have hb := (H.own i l hli _ _ (hhas l.e (by omega) (by omega))).1
  have hg : ∀ j, j < vs.length → G.g l.b (l.e + j) = none := fun j hj => (H.own i l hli _ _ (hhas _ (by omega) (by omega))).2.2
  have H1 := H.store S hb hg (fun j v ds hj m hm k a hk hmb h1 h2 => by
    exfalso
    obtain ⟨m', f1, f2, f3, f4, _⟩ := H.obj j v ds hj
    rw [hm] at f1
    cases f1
    have hji : j ≠ i := by rintro rfl; rw [hi] at hj; cases hj
    have hmj : locOf G σ j = some m := by unfold locOf; rw [hj]; exact hm
    have hkl := (List.getElem?_eq_some_iff.1 hk).1
    exact H.disj j i m l hji hmj hli m.b (m.off + k) ⟨f2, rfl, by omega, by omega⟩ (hmb ▸ hhas _ h1 h2))
  -- now the cells are published, once the tail holds less
  obtain ⟨h2, H2⟩ := H1.turn hi rfl (w + 1) ⟨l.b, l.off, l.cap, n, l.e + vs.length, l.lim, false⟩ (r' := .tail (w + 1)) rfl (by omega)
    (fun b o hh => H1.own i l hli b o (hmore b o hh)) (fun j m hj hm b o hh hk => H1.disj i j l m (Ne.symm hj) hli hm b o (hmore b o hh) hk) (fun v ds hd => by cases hd)
  have hlt : i < σ.length := (List.getElem?_eq_some_iff.1 hi).1
  obtain ⟨h3, H3⟩ := H2.publish l.b l.e vs hb S.new hg (fun j m hm o a b hh => by
    by_cases hji : j = i
    · subst hji
      unfold locOf at hm
      simp [hlt, Res.live, Gh.put] at hm
      subst hm
      obtain ⟨_, _, h5, _⟩ := hh
      simp only at h5
      omega
    · have hm2 : locOf G σ j = some m := by
        unfold locOf at hm ⊢
        rw [List.getElem?_set_ne (Ne.symm hji)] at hm
        rw [← hm]
        congr 1; funext r; congr 1; funext v
        simp only [Gh.put]
        rw [if_neg (fun h => hji h.1)]
      exact H.disj j i m l hji hm2 hli _ _ hh (hhas _ a b))
  exact ⟨h', _, e, h2.trans h3, H3, fun j u hu => Gh.pub_get hu, Gh.put_self _ _ _ _⟩

end Go.Kx
