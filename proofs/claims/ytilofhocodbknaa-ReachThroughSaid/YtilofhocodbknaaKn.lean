/- Own small program logic, part n: calls, allocations, stores and appends as steps of the walk. -/
import Derived.Test.YtilofhocodbknaaKm
namespace Go.Kx
set_option linter.unusedVariables false
set_option linter.unusedSimpArgs false
open Go

theorem wp_call {P : Program} {f : FuncId} {vs : List Value} {h : Heap} {K : Value → Heap → Prop} {R : Value → Heap → Prop} (H : FnC P f vs.toArray h R) (hk : ∀ r h', R r h' → act (K r h')) : act (EF.wp P (.call f) vs h K) :=
  FnC.mono H hk
theorem wp_callv {P : Program} {f : FuncId} {first cap : Array Value} {vs : List Value} {h : Heap} {K : Value → Heap → Prop} {R : Value → Heap → Prop} (hok : fnOk P f = true) (H : FnC P f (first ++ vs.toArray ++ cap) h R) (hk : ∀ r h', R r h' → act (K r h')) :
    act (EF.wp P .callv (.func (.func f) first cap :: vs) h K) := ⟨hok, FnC.mono H hk⟩

/-- One block, whole. -/
def blk (b : Nat) (cs : List Value) (E : TypeId) : HProp := fun g => g b = some (.cells cs.toArray E (0, 0))
theorem blk_up (b : Nat) (cs : List Value) (E : TypeId) : Up (blk b cs E) := fun _ _ hle h => hle _ _ h
theorem cellG_blk {g : PH} {b : Nat} {cs : List Value} {E : TypeId} (h : blk b cs E g) (i : Nat) : cellG g b i = cs[i]? := by
  unfold cellG
  have : g b = some (.cells cs.toArray E (0, 0)) := h
  rw [this]
  simp
theorem Sat.cell {L : List HProp} {h : Heap} (H : Sat L h) (i : Nat) {b : Nat} {cs : List Value} {E : TypeId} (hi : L[i]? = some (blk b cs E)) (j : Nat) : cellG (hp h) b j = cs[j]? := cellG_blk (H.get i hi (blk_up b cs E)) j
theorem Sat.cells {L : List HProp} {h : Heap} (H : Sat L h) (i : Nat) {b : Nat} {cs : List Value} {E : TypeId} (hi : L[i]? = some (blk b cs E)) (off n : Nat) (hn : off + n ≤ cs.length) : cellsG (hp h) b off n = some (subL cs off n) := by
  have : (subL cs off n).length = n := by simp [subL]; omega
  have h2 := cellsG_of (g := hp h) (b := b) (l := subL cs off n) (off := off) (fun j v hv => by
    rw [H.cell i hi]
    simp only [subL, List.getElem?_take] at hv
    split at hv
    · simpa using hv
    · cases hv)
  rwa [this] at h2

/-- A new variable. -/
theorem wp_new {P : Program} {T : TypeId} {z : List Value} {L : List HProp} {h : Heap} {K : Value → Heap → Prop} (H : Sat L h)
    (hk : ∀ b h', Sat (L ++ [blk b z T]) h' → act (K (.pointer (some ⟨b, 0, none⟩)) h')) : act (EF.wp P (.new T z) [] h K) :=
  hk h.size _ (H.push _ _ (fun g hg => hg))
theorem wp_box {P : Program} {T : TypeId} {v : Value} {L : List HProp} {h : Heap} {K : Value → Heap → Prop} (H : Sat L h)
    (hk : ∀ b h', Sat (L ++ [blk b v.cells.toList T]) h' → act (K (.pointer (some ⟨b, 0, none⟩)) h')) : act (EF.wp P (.box T) [v] h K) :=
  hk h.size _ (H.push _ _ (fun g hg => by show g h.size = _; rw [hg]))

theorem st1_blk {L : List HProp} {h : Heap} (H : Sat L h) (i : Nat) {b : Nat} {cs : List Value} {E : TypeId} (hi : L[i]? = some (blk b cs E)) {off : Nat} {v : Value} (ho : off < cs.length) (hv : v.oneCell' = true) :
    ∃ h', st1 h b off v = some h' ∧ Sat (L.set i (blk b (cs.set off v) E)) h' := by
  have hb : h[b]? = some (.cells cs.toArray E (0, 0)) := H.get i hi (blk_up b cs E)
  refine ⟨h.setIfInBounds b (.cells (cs.toArray.setIfInBounds off v) E (0, 0)), ?_, ?_⟩
  · unfold st1
    rw [hb]
    simp [ho, hv]
  · refine H.upd i hi (fun g hg => by have : g b = _ := hg; rw [this]; rfl) (fun g _ => ?_)
    show (if b = b then _ else _) = _
    simp
theorem stL_blk {vs : List Value} : ∀ {L : List HProp} {h : Heap} (_ : Sat L h) (i : Nat) {b : Nat} {cs : List Value} {E : TypeId} (_ : L[i]? = some (blk b cs E)) {off : Nat} (_ : off + vs.length ≤ cs.length) (_ : ∀ v ∈ vs, v.oneCell' = true),
    ∃ h', stL h b off vs = some h' ∧ Sat (L.set i (blk b (setAt cs off vs) E)) h' := by
  induction vs with
  | nil =>
    intro L h H i b cs E hi off _ _
    refine ⟨h, rfl, ?_⟩
    have : L.set i (blk b (setAt cs off []) E) = L := by
      obtain ⟨hlt, he⟩ := List.getElem?_eq_some_iff.1 hi
      simp [setAt, ← he]
    rw [this]; exact H
  | cons v vs ih =>
    intro L h H i b cs E hi off ho hv
    simp only [List.length_cons] at ho
    obtain ⟨h1, e1, H1⟩ := st1_blk H i hi (off := off) (v := v) (by omega) (hv v (by simp))
    have hlt := (List.getElem?_eq_some_iff.1 hi).1
    obtain ⟨h2, e2, H2⟩ := ih H1 i (b := b) (cs := cs.set off v) (E := E) (by simp [hlt]) (off := off + 1) (by simp; omega) (fun u hu => hv u (by simp [hu]))
    refine ⟨h2, by simp [stL, e1, e2], ?_⟩
    simpa [setAt] using H2

/-- A store of one cell into a block that is owned. -/
theorem wp_st1 {P : Program} {L : List HProp} {h : Heap} {K : Value → Heap → Prop} (H : Sat L h) (i : Nat) {b : Nat} {cs : List Value} {E : TypeId} (hi : L[i]? = some (blk b cs E)) {off : Nat} {v : Value} (ho : off < cs.length) (hv : v.oneCell' = true) (hc : v.cells = #[v])
    (hk : ∀ h', Sat (L.set i (blk b (cs.set off v) E)) h' → act (K undef h')) : act (EF.wp P (.st 1) [.pointer (some ⟨b, off, none⟩), v] h K) := by
  obtain ⟨h', e, H'⟩ := st1_blk H i hi ho hv
  exact ⟨by simp [hc], h', by simp [hc, stL, e], hk h' H'⟩
theorem wp_stn {P : Program} {L : List HProp} {h : Heap} {K : Value → Heap → Prop} (H : Sat L h) (i : Nat) {b : Nat} {cs : List Value} {E : TypeId} (hi : L[i]? = some (blk b cs E)) {off n : Nat} {vs : List Value} (hn : vs.length = n) (ho : off + n ≤ cs.length) (hv : ∀ v ∈ vs, v.oneCell' = true)
    (hk : ∀ h', Sat (L.set i (blk b (setAt cs off vs) E)) h' → act (K undef h')) : act (EF.wp P (.st n) [.pointer (some ⟨b, off, none⟩), .agg vs.toArray] h K) := by
  subst hn
  obtain ⟨h', e, H'⟩ := stL_blk H i hi ho hv
  exact ⟨by simp [Value.cells], h', by simpa [Value.cells] using e, hk h' H'⟩

/-- A slice of the call's own: nil, or a block from its head on; its cells are cs. -/
def osl (v : Value) (sz : Nat) (cs : List Value) (E : TypeId) : HProp := fun g =>
  (v = .slice none 0 0 ∧ cs = []) ∨ ∃ b n cap rest, v = .slice (some ⟨b, 0, none⟩) n cap ∧ blk b (cs ++ rest) E g ∧ cs.length = n * sz ∧ (cs ++ rest).length = cap * sz ∧ cap ≤ 9223372036854775807
theorem osl_up (v : Value) (sz : Nat) (cs : List Value) (E : TypeId) : Up (osl v sz cs E) := by
  intro g g' hle h
  rcases h with h | ⟨b, n, cap, rest, h1, h2, h3⟩
  · exact .inl h
  · exact .inr ⟨b, n, cap, rest, h1, hle _ _ h2, h3⟩
theorem osl_reads {v : Value} {sz : Nat} {cs : List Value} {E : TypeId} {g : PH} (hsz : 0 < sz) (h : osl v sz cs E g) : ∃ n, cs.length = n * sz ∧ RSl g v n sz cs := by
  rcases h with ⟨rfl, rfl⟩ | ⟨b, n, cap, rest, rfl, h2, h3, h4, h5⟩
  · exact ⟨0, by simp, by simp, none, 0, rfl, Nat.le_refl _, by omega, .inl rfl⟩
  · refine ⟨n, h3, h3, some ⟨b, 0, none⟩, cap, rfl, ?_, h5, .inr ⟨b, 0, rfl, ?_⟩⟩
    · have : n * sz ≤ cap * sz := by rw [← h3, ← h4]; simp
      exact Nat.le_of_mul_le_mul_right this hsz
    · intro i u hu
      rw [Nat.zero_add, cellG_blk h2, List.getElem?_append_left (List.getElem?_eq_some_iff.1 hu).1]
      exact hu
theorem Sat.osl {L : List HProp} {h : Heap} (H : Sat L h) (i : Nat) {v : Value} {sz : Nat} {cs : List Value} {E : TypeId} (hsz : 0 < sz) (hi : L[i]? = some (osl v sz cs E)) : ∃ n, cs.length = n * sz ∧ RSl (hp h) v n sz cs :=
  osl_reads hsz (H.get i hi (osl_up v sz cs E))

/-- make. -/
theorem wp_mks {P : Program} {E : TypeId} {sz by_ : Nat} {z : List Value} {L : List HProp} {h : Heap} {K : Value → Heap → Prop} (H : Sat L h) {k k' : IntKind} {n : Nat} (hz : z.length = sz) (hn : n * by_ ≤ 281474976710656) (hn2 : n ≤ 9223372036854775807)
    (hk : ∀ v h', Sat (L ++ [osl v sz (rep z n) E]) h' → act (K v h')) : act (EF.wp P (.mks E sz by_ z) [.int k n, .int k' n] h K) := by
  refine ⟨by omega, Int.le_refl _, by omega, ?_, ?_⟩
  · have : ((n * by_ : Nat) : Int) ≤ 281474976710656 := by omega
    rw [Int.natCast_mul] at this
    rwa [Int.mul_comm]
  · refine hk _ _ (H.push _ _ (fun g hg => .inr ⟨h.size, n, n, [], ?_, ?_, ?_, ?_, hn2⟩))
    · simp
    · simpa [blk] using hg
    · exact rep_length hz n
    · simp [rep_length hz n]

/-- append to a slice of the call's own. -/
theorem wp_app {P : Program} {E : TypeId} {sz by_ : Nat} {z : List Value} {L : List HProp} {h : Heap} {K : Value → Heap → Prop} (H : Sat L h) (i : Nat) {v y : Value} {cs news : List Value} {m : Nat} (hsz : 0 < sz) (hz : z.length = sz)
    (hi : L[i]? = some (osl v sz cs E)) (hsrc : srcV (hp h) sz y = some (m, news)) (hm : news.length = m * sz) (hone : ∀ u ∈ news, u.oneCell' = true) (hb : (cs.length + news.length) * by_ ≤ 140737488355328 * sz)
    (hb2 : cs.length + news.length ≤ 9223372036854775807) (hk : ∀ v' h', Sat (L.set i (osl v' sz (cs ++ news) E)) h' → act (K v' h')) : act (EF.wp P (.app E sz by_ z) [v, y] h K) := by
  have hlt := (List.getElem?_eq_some_iff.1 hi).1
  have hset : ∀ C : HProp, (L.set i C)[i]? = some C := by intro C; simp [hlt]
  have hraise : ∀ {C D : HProp} {h' : Heap}, Sat (L.set i C) h' → (∀ g, C g → D g) → Sat (L.set i D) h' := by
    intro C D h' H' hcd
    obtain ⟨w, hw⟩ := H'
    refine ⟨w, fun j F hF => ?_⟩
    by_cases hj : j = i
    · subst hj
      rw [hset] at hF
      simp at hF
      subst hF
      exact hcd _ (hw j C (hset C))
    · rw [List.getElem?_set_ne (Ne.symm hj)] at hF
      exact hw j F (by rw [List.getElem?_set_ne (Ne.symm hj)]; exact hF)
  have hcell := H.get i hi (osl_up v sz cs E)
  rcases hcell with ⟨rfl, rfl⟩ | ⟨b, n, cap, rest, rfl, hblk, hn, hcap, hc63⟩
  · -- nil
    refine ⟨m, news, hsrc, hm, ?_⟩
    by_cases h0 : 0 + m ≤ 0
    · rw [if_pos h0]
      have : m = 0 := by omega
      subst this
      have hnil : news = [] := List.eq_nil_of_length_eq_zero (by simpa using hm)
      subst hnil
      refine hk _ _ ?_
      have : L.set i (osl (.slice none 0 0) sz ([] ++ []) E) = L := by
        obtain ⟨_, he⟩ := List.getElem?_eq_some_iff.1 hi
        simp [← he]
      rw [this]; exact H
    · rw [if_neg h0]
      simp only [List.length_nil, Nat.zero_add] at hb hb2
      have hmn : m ≤ news.length := by rw [hm]; exact Nat.le_mul_of_pos_right m hsz
      refine ⟨by omega, ?_, [], ?_, by simp, ?_⟩
      · rw [hm, Nat.mul_right_comm] at hb
        simpa using Nat.le_of_mul_le_mul_right hb hsz
      · rfl
      · intro c hc1 hc2
        refine hk _ _ ?_
        have H2 := H.push (.cells ([] ++ news ++ rep z (c - (0 + m))).toArray E (0, 0)) (osl (.slice (some ⟨h.size, 0, none⟩) (0 + m) c) sz ([] ++ news) E) (fun g hg => by
          refine .inr ⟨h.size, 0 + m, c, rep z (c - (0 + m)), rfl, hg, by simpa using hm, ?_, by omega⟩
          simp only [List.nil_append, List.length_append, hm, rep_length hz, Nat.zero_add, ← Nat.add_mul]
          congr 1
          omega)
        -- the new piece in the old one's place
        refine SatG.re H2 (fun j => if j = i then L.length else j) ?_ ?_
        · intro j C hC
          by_cases hj : j = i
          · subst hj
            rw [hset] at hC
            simpa using hC
          · rw [List.getElem?_set_ne (Ne.symm hj)] at hC
            have := (List.getElem?_eq_some_iff.1 hC).1
            simp only [hj, if_false]
            rw [List.getElem?_append_left this]; exact hC
        · intro j k hj hkk e
          simp only [List.length_set] at hj hkk
          revert e
          (repeat' split) <;> omega
  · have hncap : n ≤ cap := by
      have : n * sz ≤ cap * sz := by rw [← hn, ← hcap]; simp
      exact Nat.le_of_mul_le_mul_right this hsz
    refine ⟨m, news, hsrc, hm, ?_⟩
    by_cases hfit : n + m ≤ cap
    · rw [if_pos hfit]
      have H1 : Sat (L.set i (blk b (cs ++ rest) E)) h := by
        obtain ⟨w, hw⟩ := H
        have hC := hw i _ hi
        rcases hC with ⟨hv, _⟩ | ⟨b', n', cap', rest', hv, hblk', hn', hcap', _⟩
        · cases hv
        · simp only [Value.slice.injEq, Option.some.injEq, Addr.mk.injEq, and_true] at hv
          obtain ⟨rfl, rfl, rfl⟩ := hv
          have hrr : rest' = rest := by
            have e1 : hp h b = some (.cells (cs ++ rest').toArray E (0, 0)) := own_le w i (hp h) _ _ hblk'
            have e2 : hp h b = some (.cells (cs ++ rest).toArray E (0, 0)) := hblk
            rw [e1] at e2
            simpa using e2
          subst hrr
          refine ⟨w, fun j F hF => ?_⟩
          by_cases hj : j = i
          · subst hj
            rw [hset] at hF
            simp at hF
            subst hF
            exact hblk'
          · rw [List.getElem?_set_ne (Ne.symm hj)] at hF
            exact hw j F hF
      obtain ⟨h', e, H'⟩ := stL_blk (vs := news) H1 i (hset _) (off := n * sz) (by
        rw [hm, hcap, ← Nat.add_mul]; exact Nat.mul_le_mul_right _ hfit) hone
      refine ⟨h', by simpa using e, hk _ _ ?_⟩
      rw [List.set_set] at H'
      refine hraise H' fun g hg => .inr ⟨b, n + m, cap, rest.drop news.length, rfl, ?_, ?_, ?_, hc63⟩
      · have : setAt (cs ++ rest) (n * sz) news = cs ++ news ++ rest.drop news.length := by
          rw [setAt_pre _ _ _ (by rw [hm, hcap, ← Nat.add_mul]; exact Nat.mul_le_mul_right _ hfit), ← hn]
          simp [List.drop_append]
        rw [this] at hg
        exact hg
      · simp [hn, hm, Nat.add_mul]
      · have : news.length ≤ rest.length := by
          have h1 : (n + m) * sz ≤ cap * sz := Nat.mul_le_mul_right _ hfit
          rw [Nat.add_mul, ← hn, ← hm, ← hcap, List.length_append] at h1
          omega
        simp only [List.length_append, List.length_drop] at hcap ⊢
        omega
    · rw [if_neg hfit]
      have hmn : n + m ≤ cs.length + news.length := by
        rw [hn, hm, ← Nat.add_mul]; exact Nat.le_mul_of_pos_right _ hsz
      have hsrc2 : srcV (hp h) sz (.slice (some ⟨b, 0, none⟩) n cap) = some (n, cs) := by
        simp only [srcV]
        have := cellsG_of (g := hp h) (b := b) (l := cs) (off := 0) (fun j v hv => by
          rw [Nat.zero_add, cellG_blk hblk, List.getElem?_append_left (List.getElem?_eq_some_iff.1 hv).1]; exact hv)
        rw [← hn, this]
        rfl
      refine ⟨by omega, ?_, cs, hsrc2, hn, ?_⟩
      · rw [hn, hm, ← Nat.add_mul, Nat.mul_right_comm] at hb
        exact Nat.le_of_mul_le_mul_right hb hsz
      · intro c hc1 hc2
        refine hk _ _ ?_
        have H2 := H.push (.cells (cs ++ news ++ rep z (c - (n + m))).toArray E (0, 0)) (osl (.slice (some ⟨h.size, 0, none⟩) (n + m) c) sz (cs ++ news) E) (fun g hg => by
          refine .inr ⟨h.size, n + m, c, rep z (c - (n + m)), rfl, hg, by simp [hn, hm, Nat.add_mul], ?_, by omega⟩
          simp only [List.length_append, hn, hm, rep_length hz, ← Nat.add_mul]
          congr 1
          omega)
        refine SatG.re H2 (fun j => if j = i then L.length else j) ?_ ?_
        · intro j C hC
          by_cases hj : j = i
          · subst hj
            rw [hset] at hC
            simpa using hC
          · rw [List.getElem?_set_ne (Ne.symm hj)] at hC
            have := (List.getElem?_eq_some_iff.1 hC).1
            simp only [hj, if_false]
            rw [List.getElem?_append_left this]; exact hC
        · intro j k hj hkk e
          simp only [List.length_set] at hj hkk
          revert e
          (repeat' split) <;> omega

end Go.Kx
