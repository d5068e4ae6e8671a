/- Annotated values, part j: whatever comes in, by the shape of its type. -/
import Derived.Test.YtjdpejggafefjaaDoorVi
import Derived.ChangeArms
import Derived.OpenShut
namespace Go.Kx
set_option linter.unusedVariables false
set_option linter.unusedSimpArgs false
open Go

/-- Shapes of types. fcons: a field of so many cells, and further ones. -/
inductive Sh where
  | int (k : IntKind)
  | bool
  | str
  | flt (k : FloatKind)
  | sl (n : Nat) (s : Sh)
  | st (fs : Sh)
  | arr (m n : Nat) (s : Sh)
  | fnil
  | fcons (n : Nat) (s fs : Sh)

mutual
def ShOk (P : Program) : Sh → TypeId → Prop
  | .int k, t => P.underlying t = some (.int k)
  | .bool, t => P.underlying t = some .bool
  | .str, t => P.underlying t = some .string
  | .flt k, t => P.underlying t = some (.float k)
  | .sl n s, t => ∃ e, P.underlying t = some (.slice e) ∧ P.cellsOf e = n ∧ 0 < n ∧ ShOk P s e
  | .st fs, t => ∃ l, P.underlying t = some (.struct l) ∧ ShFs P fs 0 l.toList (P.cellsOf t)
  | .arr m n s, t => ∃ e, P.underlying t = some (.array m e) ∧ P.cellsOf e = n ∧ P.cellsOf t = m * n ∧ ShOk P s e
  | _, _ => False
def ShFs (P : Program) : Sh → Nat → List Field → Nat → Prop
  | .fnil, off, [], total => off = total
  | .fcons n s fs, off, f :: l, total => f.offset = off ∧ P.cellsOf f.type = n ∧ ShOk P s f.type ∧ ShFs P fs (off + n) l total
  | _, _, _, _ => False
end

/-- What reads so. -/
def Enc : Sh → List AV → Prop
  | .int k, as => ∃ x, as = [.v (.int k x)] ∧ (Lit.int k x).wf = true
  | .bool, as => ∃ b, as = [.v (.bool b)]
  | .str, as => ∃ s : ByteArray, as = [.v (.string s)] ∧ s.size ≤ 9223372036854775807
  | .flt k, as => ∃ b, as = [.v (.float k b)] ∧ (Lit.float k b).wf = true
  | .sl n s, as => ∃ css : List (List AV), as = [.sl css.length css.flatten .none] ∧ css.length ≤ 9223372036854775807 ∧ ∀ c ∈ css, c.length = n ∧ Enc s c
  | .st fs, as => Enc fs as
  | .arr m n s, as => ∃ css : List (List AV), as = css.flatten ∧ css.length = m ∧ ∀ c ∈ css, c.length = n ∧ Enc s c
  | .fnil, as => as = []
  | .fcons n s fs, as => ∃ x y, as = x ++ y ∧ x.length = n ∧ Enc s x ∧ Enc fs y

theorem RelL.flatten {G : Gh} : ∀ {css : List (List AV)} {vss : List (List Value)}, vss.length = css.length → (∀ (i : Nat) (c : List AV) (u : List Value), css[i]? = some c → vss[i]? = some u → RelL G c u) → RelL G css.flatten vss.flatten := by
  intro css
  induction css with
  | nil =>
    intro vss h _
    have : vss = [] := List.eq_nil_of_length_eq_zero (by simpa using h)
    subst this; exact .nil G
  | cons c css ih =>
    intro vss h hr
    cases vss with
    | nil => simp at h
    | cons v vss =>
      simp only [List.flatten_cons]
      exact (hr 0 c v rfl rfl).append (ih (by simpa using h) (fun i c u hc hu => hr (i + 1) c u (by simpa using hc) (by simpa using hu)))
theorem choose_list {α β : Type} {n : Nat} {Q : Nat → α → β → Prop} (h : ∀ i, i < n → ∃ a b, Q i a b) : ∃ (as : List α) (bs : List β), as.length = n ∧ bs.length = n ∧ ∀ i a b, as[i]? = some a → bs[i]? = some b → Q i a b := by
  induction n with
  | zero => exact ⟨[], [], rfl, rfl, fun i a b h => by simp at h⟩
  | succ n ih =>
    obtain ⟨as, bs, h1, h2, h3⟩ := ih (fun i hi => h i (by omega))
    obtain ⟨a, b, hab⟩ := h n (by omega)
    refine ⟨as ++ [a], bs ++ [b], by simp [h1], by simp [h2], fun i x y hx hy => ?_⟩
    by_cases hi : i < n
    · rw [List.getElem?_append_left (by omega)] at hx hy
      exact h3 i x y hx hy
    · have hin : i = n := by have := (List.getElem?_eq_some_iff.1 hx).1; simp at this; omega
      subst hin
      rw [List.getElem?_append_right (by omega)] at hx hy
      simp [h1, h2] at hx hy
      subst hx; subst hy
      exact hab
theorem flatten_at {α : Type} {n : Nat} : ∀ {vss : List (List α)}, (∀ v ∈ vss, v.length = n) → ∀ {i : Nat} {u : α}, vss.flatten[i]? = some u → ∃ k j v, i = k * n + j ∧ j < n ∧ vss[k]? = some v ∧ v[j]? = some u := by
  intro vss
  induction vss with
  | nil => intro _ i u h; simp at h
  | cons v vss ih =>
    intro hn i u h
    have hv := hn v (by simp)
    simp only [List.flatten_cons] at h
    by_cases hi : i < v.length
    · rw [List.getElem?_append_left hi] at h
      exact ⟨0, i, v, by omega, by omega, rfl, h⟩
    · rw [List.getElem?_append_right (by omega)] at h
      obtain ⟨k, j, w, h1, h2, h3, h4⟩ := ih (fun w hw => hn w (by simp [hw])) h
      refine ⟨k + 1, j, w, ?_, h2, by simpa using h3, h4⟩
      rw [Nat.succ_mul]; omega

theorem ShFs_le {P : Program} : ∀ {s : Sh} {off : Nat} {l : List Field} {total : Nat}, ShFs P s off l total → off ≤ total := by
  intro s
  induction s with
  | fnil => intro off l total h; cases l with | nil => exact Nat.le_of_eq h | cons f l => exact h.elim
  | fcons n s fs _ ih => intro off l total h; cases l with | nil => exact h.elim | cons f l => have := ih h.2.2.2; omega
  | _ => intro off l total h; cases l <;> exact h.elim
theorem chunks {α : Type} {n : Nat} : ∀ {m : Nat} {l : List α}, l.length = m * n → l = ((List.range m).map fun i => (l.drop (i * n)).take n).flatten := by
  intro m
  induction m with
  | zero => intro l h; simp at h; subst h; rfl
  | succ m ih =>
    intro l h
    rw [Nat.succ_mul] at h
    have h1 := ih (l := l.take (m * n)) (by simp; omega)
    rw [List.range_succ, List.map_append, List.flatten_append]
    have h2 : ((List.range m).map fun i => (l.drop (i * n)).take n) = (List.range m).map fun i => ((l.take (m * n)).drop (i * n)).take n := by
      apply List.map_congr_left
      intro i hi
      have hi : i < m := List.mem_range.1 hi
      have hle : (i + 1) * n ≤ m * n := Nat.mul_le_mul_right _ hi
      rw [Nat.succ_mul] at hle
      rw [List.drop_take, List.take_take, Nat.min_eq_left (by omega)]
    rw [h2, ← h1]
    simp only [List.map_cons, List.map_nil, List.flatten_cons, List.flatten_nil, List.append_nil]
    rw [List.take_of_length_le (l := l.drop (m * n)) (by simp; omega), List.take_append_drop]

theorem trod_enc {H : Type} {enc : TypeId × Value → H} {P : Program} {w : World} {base : Nat} {held : Bool} : ∀ (s : Sh),
    (∀ (t : TypeId) (fuel : Nat) (cs : List Value) (x : DataW H × List MemPlace), ShOk P s t → DataW.trod enc P w base (fun _ => true) held fuel t cs = some x → ∃ as, Enc s as ∧ RelL (gAll w.heap) as cs) ∧
    (∀ (off total : Nat) (l : List Field) (fuel : Nat) (cs : List Value), ShFs P s off l total → cs.length = total → (∀ f ∈ l, ∃ x, DataW.trod enc P w base (fun _ => true) held fuel f.type ((cs.drop f.offset).take (P.cellsOf f.type)) = some x) →
      ∃ as, Enc s as ∧ RelL (gAll w.heap) as (cs.drop off)) := by
  intro s
  induction s with
  | int k =>
    refine ⟨fun t fuel cs x hs h => ?_, fun off total l fuel cs hs => by cases l <;> exact hs.elim⟩
    obtain ⟨n, rfl, _, hw⟩ := DataW.trod_int hs h
    exact ⟨_, ⟨n, rfl, hw⟩, .cons (.v _) (.nil _)⟩
  | bool =>
    refine ⟨fun t fuel cs x hs h => ?_, fun off total l fuel cs hs => by cases l <;> exact hs.elim⟩
    obtain ⟨b, rfl, _⟩ := DataW.trod_bool hs h
    exact ⟨_, ⟨b, rfl⟩, .cons (.v _) (.nil _)⟩
  | str =>
    refine ⟨fun t fuel cs x hs h => ?_, fun off total l fuel cs hs => by cases l <;> exact hs.elim⟩
    obtain ⟨s, rfl, _, hsz⟩ := DataW.trod_string hs h
    have hmax : maxLen = 9223372036854775807 := by decide
    exact ⟨_, ⟨s, rfl, by omega⟩, .cons (.v _) (.nil _)⟩
  | flt k =>
    refine ⟨fun t fuel cs x hs h => ?_, fun off total l fuel cs hs => by cases l <;> exact hs.elim⟩
    have hs : P.underlying t = some (.float k) := hs
    cases fuel with
    | zero => simp [DataW.trod] at h
    | succ n =>
      unfold DataW.trod at h
      rw [hs] at h
      split at h <;> simp_all
      obtain ⟨⟨rfl, hw⟩, _⟩ := h
      exact ⟨_, ⟨_, rfl, hw⟩, .cons (.v _) (.nil _)⟩
  | sl n s ih =>
    refine ⟨fun t fuel cs x hs h => ?_, fun off total l fuel cs hs => by cases l <;> exact hs.elim⟩
    obtain ⟨e, ht, hn, h0, hse⟩ := hs
    have hmax : maxLen = 9223372036854775807 := by decide
    rcases DataW.trod_slice ht h with ⟨rfl, _⟩ | ⟨a, len, cap, elems, rest, m, rfl, rfl, rfl, hb, hl, hm, hlen, hel, _, _⟩
    · exact ⟨_, ⟨[], rfl, by simp, by simp⟩, .cons (.sl 0 [] .none none 0 [] rfl (fun i a u h => by simp at h) (Nat.le_refl _) (by omega) (.inl ⟨rfl, rfl⟩) trivial) (.nil _)⟩
    · have each : ∀ i, i < len → ∃ (c : List AV) (v : List Value), (c.length = n ∧ Enc s c ∧ RelL (gAll w.heap) c v) ∧ ∀ j, j < n → w.cell? ((a.add (i * n)).add j) = v[j]? := by
        intro i hi
        have h1 := hel i hi
        rw [hn] at h1
        have h2 : i < elems.length := by omega
        rw [List.getElem?_eq_getElem h2] at h1
        simp only [Option.bind_eq_some_iff] at h1
        obtain ⟨v, hv, hx⟩ := h1
        obtain ⟨_, hvl, hvc⟩ := World.cells?_some hv
        obtain ⟨c, hc, hr⟩ := ih.1 e m v _ hse hx
        exact ⟨c, v, ⟨by rw [← hr.1, hvl], hc, hr⟩, hvc⟩
      obtain ⟨css, vss, e1, e2, e3⟩ := choose_list each
      have hvn : ∀ v ∈ vss, v.length = n := by
        intro v hv
        obtain ⟨i, hi⟩ := List.mem_iff_getElem?.1 hv
        have hlt := (List.getElem?_eq_some_iff.1 hi).1
        have h1 := List.getElem?_eq_getElem (l := css) (i := i) (by omega)
        have := (e3 i _ _ h1 hi).1
        rw [this.2.2.1, this.1]
      refine ⟨_, ⟨css, rfl, by omega, ?_⟩, ?_⟩
      · intro c hc
        obtain ⟨i, hi⟩ := List.mem_iff_getElem?.1 hc
        have hlt := (List.getElem?_eq_some_iff.1 hi).1
        have h1 := List.getElem?_eq_getElem (l := vss) (i := i) (by omega)
        have := (e3 i _ _ hi h1).1
        exact ⟨this.1, this.2.1⟩
      · have hfl := RelL.flatten (G := gAll w.heap) (css := css) (vss := vss) (by omega) (fun i c u hc hu => (e3 i c u hc hu).1.2.2)
        refine .cons ?_ (.nil _)
        rw [e1]
        refine .sl len _ .none (some a) cap vss.flatten hfl.1 hfl.2 hl (by omega) ?_ trivial
        by_cases hz : len = 0
        · left
          refine ⟨hz, ?_⟩
          have : vss = [] := List.eq_nil_of_length_eq_zero (by omega)
          rw [this]; rfl
        · right
          have hspot : a.spot = none := by
            have hv := List.getElem?_eq_getElem (l := vss) (i := 0) (by omega)
            have hc := List.getElem?_eq_getElem (l := css) (i := 0) (by omega)
            have h1 := (e3 0 _ _ hc hv).2 0 h0
            have h2 : vss[0].length = n := hvn _ (List.getElem_mem _)
            rw [List.getElem?_eq_getElem (by omega)] at h1
            have := (cellG_of_cell? h1).1
            simpa [Addr.add] using this
          refine ⟨a.block, a.off, by obtain ⟨b, o, s⟩ := a; simp only at hspot; subst hspot; rfl, ?_⟩
          intro i u hu
          obtain ⟨k, j, v, rfl, hj, hk, hju⟩ := flatten_at hvn hu
          have hkl := (List.getElem?_eq_some_iff.1 hk).1
          have hc := List.getElem?_eq_getElem (l := css) (i := k) (by omega)
          have h1 := (e3 k _ _ hc hk).2 j hj
          rw [hju, add_block a _ hspot, add_block _ _ rfl] at h1
          have := (cellG_of_cell? h1).2
          simp only at this
          show cellG (hp w.heap) a.block (a.off + (k * n + j)) = some u
          rw [← Nat.add_assoc]; exact this
  | st fs ih =>
    refine ⟨fun t fuel cs x hs h => ?_, fun off total l fuel cs hs => by cases l <;> exact hs.elim⟩
    obtain ⟨l, ht, hfs⟩ := hs
    obtain ⟨xs, m, rfl, _, hlen, hxl, hat⟩ := DataW.trod_struct ht h
    obtain ⟨as, h1, h2⟩ := ih.2 0 _ l.toList m cs hfs hlen (fun f hf => by
      obtain ⟨i, hi⟩ := List.mem_iff_getElem?.1 hf
      have hlt := (List.getElem?_eq_some_iff.1 hi).1
      have h1 := hat i f (by simpa using hi)
      rw [List.getElem?_eq_getElem (by simp at hlt; omega)] at h1
      exact ⟨_, h1⟩)
    exact ⟨as, h1, by simpa using h2⟩
  | arr m n s ih =>
    refine ⟨fun t fuel cs x hs h => ?_, fun off total l fuel cs hs => by cases l <;> exact hs.elim⟩
    obtain ⟨e, ht, hn, htot, hse⟩ := hs
    obtain ⟨xs, f, rfl, _, hlen, hxl, hat⟩ := DataW.trod_array ht h
    rw [htot] at hlen
    rw [hn] at hat
    have each : ∀ i, i < m → ∃ (c : List AV) (v : List Value), (c.length = n ∧ Enc s c ∧ RelL (gAll w.heap) c v) ∧ v = (cs.drop (i * n)).take n := by
      intro i hi
      have h1 := hat i hi
      rw [List.getElem?_eq_getElem (by omega)] at h1
      obtain ⟨c, hc, hr⟩ := ih.1 e f _ _ hse h1
      refine ⟨c, _, ⟨?_, hc, hr⟩, rfl⟩
      have hle : (i + 1) * n ≤ m * n := Nat.mul_le_mul_right _ hi
      rw [Nat.succ_mul] at hle
      rw [← hr.1, List.length_take, List.length_drop]
      omega
    obtain ⟨css, vss, e1, e2, e3⟩ := choose_list each
    refine ⟨_, ⟨css, rfl, e1, ?_⟩, ?_⟩
    · intro c hc
      obtain ⟨i, hi⟩ := List.mem_iff_getElem?.1 hc
      have hlt := (List.getElem?_eq_some_iff.1 hi).1
      have h1 := List.getElem?_eq_getElem (l := vss) (i := i) (by omega)
      have := (e3 i _ _ hi h1).1
      exact ⟨this.1, this.2.1⟩
    · have hfl := RelL.flatten (G := gAll w.heap) (css := css) (vss := vss) (by omega) (fun i c u hc hu => (e3 i c u hc hu).1.2.2)
      have hv : vss = (List.range m).map fun i => (cs.drop (i * n)).take n := by
        apply List.ext_getElem?
        intro i
        by_cases hi : i < m
        · have h1 := List.getElem?_eq_getElem (l := vss) (i := i) (by omega)
          have h2 := List.getElem?_eq_getElem (l := css) (i := i) (by omega)
          have := (e3 i _ _ h2 h1).2
          rw [h1, this]
          simp [hi]
        · rw [List.getElem?_eq_none (by omega), List.getElem?_eq_none (by simp; omega)]
      rw [hv, ← chunks hlen] at hfl
      exact hfl
  | fnil =>
    refine ⟨fun t fuel cs x hs h => hs.elim, fun off total l fuel cs hs hlen h => ?_⟩
    cases l with
    | nil =>
      have hs : off = total := hs
      exact ⟨[], rfl, by rw [List.drop_of_length_le (by omega)]; exact .nil _⟩
    | cons f l => exact hs.elim
  | fcons n s fs ihs ihf =>
    refine ⟨fun t fuel cs x hs h => hs.elim, fun off total l fuel cs hs hlen h => ?_⟩
    cases l with
    | nil => exact hs.elim
    | cons f l =>
      obtain ⟨h1, h2, h3, h4⟩ := hs
      obtain ⟨y, hy⟩ := h f (by simp)
      rw [h1, h2] at hy
      obtain ⟨a, ha, hr⟩ := ihs.1 _ _ _ _ h3 hy
      obtain ⟨b, hb, hr2⟩ := ihf.2 _ _ _ fuel cs h4 hlen (fun g hg => h g (by simp [hg]))
      have hle := ShFs_le h4
      have hsum := hr.append hr2
      rw [← List.drop_drop, List.take_append_drop] at hsum
      refine ⟨a ++ b, ⟨a, b, rfl, ?_, ha, hb⟩, hsum⟩
      rw [← hr.1, List.length_take, List.length_drop]
      omega
end Go.Kx
