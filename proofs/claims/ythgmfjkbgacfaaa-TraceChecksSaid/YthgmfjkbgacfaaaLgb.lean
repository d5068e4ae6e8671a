/- Log: the function that tells the events one behind the other (those$1), told for ranges over it and for calls. -/
import Derived.Test.YthgmfjkbgacfaaaLga
namespace Go.Proofs.Ythgmfjkbgacfaaa
set_option linter.unusedVariables false
set_option linter.unusedSimpArgs false
open Go Go.Kx Go.Proofs

def vEv (e : Ev) : List Value := [.int .i64 e.k, .int .i64 e.lp, .int .i64 e.it, .int .i64 e.st]
/-- The events that are like that, with their places. -/
def tl (p : Ev → Bool) (l : List Ev) : List (Ev × Nat) := l.zipIdx.filter fun x => p x.1
def tlA (p : Ev → Bool) (l : List Ev) : List (List AV) := (tl p l).map fun x => [.v (.int .i64 (x.2 : Int)), .agg (aEv x.1)]
def tlV (p : Ev → Bool) (l : List Ev) (i : Nat) : List Value := match (tl p l)[i]? with | some x => [.int .i64 (x.2 : Int), .agg (vEv x.1).toArray] | none => []
theorem tl_split (p : Ev → Bool) {l : List Ev} {k : Nat} {e : Ev} (h : l[k]? = some e) : tl p l = tl p (l.take k) ++ (if p e then [(e, k)] else []) ++ ((l.drop (k + 1)).zipIdx (k + 1)).filter (fun x => p x.1) := by
  have hlt := lt_at h
  have hd : l = l.take k ++ e :: l.drop (k + 1) := by rw [← drop_at h, List.take_append_drop]
  have hlen : (l.take k).length = k := by rw [List.length_take]; omega
  unfold tl
  conv => lhs; rw [hd]
  rw [List.zipIdx_append, List.filter_append, hlen, Nat.zero_add, List.zipIdx_cons, List.filter_cons, List.append_assoc]
  cases p e <;> simp
theorem tl_take (p : Ev → Bool) {l : List Ev} {k : Nat} {e : Ev} (h : l[k]? = some e) : tl p (l.take (k + 1)) = tl p (l.take k) ++ (if p e then [(e, k)] else []) := by
  have hlt := lt_at h
  have hlen : (l.take k).length = k := by rw [List.length_take]; omega
  unfold tl
  rw [take_succ_at h, List.zipIdx_append, List.filter_append, hlen]
  cases hp : p e <;> simp [hp]
theorem tl_at (p : Ev → Bool) {l : List Ev} {k : Nat} {e : Ev} (h : l[k]? = some e) (hp : p e = true) : (tl p l)[(tl p (l.take k)).length]? = some (e, k) := by
  rw [tl_split p h, hp]
  simp
theorem rv_lit {G : Gh} {x : Value} {u : Value} (h : RelV G (.v x) u) : u = x := by cases h; rfl
theorem rl_evs {G : Gh} : ∀ {l : List Ev} {vs : List Value}, RelL G (l.flatMap aEv) vs → vs = l.flatMap vEv := by
  intro l
  induction l with
  | nil => intro vs h; exact h.nil_inv
  | cons e l ih =>
    intro vs h
    obtain ⟨a, _, rfl, ha, h⟩ := h.cons_inv
    obtain ⟨b, _, rfl, hb, h⟩ := h.cons_inv
    obtain ⟨c, _, rfl, hc, h⟩ := h.cons_inv
    obtain ⟨d, vs, rfl, hd, h⟩ := h.cons_inv
    rw [rv_lit ha, rv_lit hb, rv_lit hc, rv_lit hd, ih h]
    rfl
theorem rl_ev (G : Gh) (e : Ev) : RelL G (aEv e) (vEv e) := .cons (.v _) (.cons (.v _) (.cons (.v _) (.cons (.v _) (.nil G))))
theorem tlV_rel {G : Gh} {p : Ev → Bool} {l : List Ev} {i : Nat} {v : List AV} (h : (tlA p l)[i]? = some v) : RelL G v (tlV p l i) := by
  unfold tlA at h
  rw [List.getElem?_map, Option.map_eq_some_iff] at h
  obtain ⟨x, hx, rfl⟩ := h
  unfold tlV
  rw [hx]
  show RelL G [AV.v (.int .i64 (x.2 : Int)), AV.agg (aEv x.1)] [.int .i64 (x.2 : Int), .agg (vEv x.1).toArray]
  exact .cons (.v _) (.cons (.agg _ _ (rl_ev G x.1).1 (rl_ev G x.1).2) (.nil G))
/-- A contract of a function that touches nothing, where only what is frozen is known. -/
theorem fnp_heap {P : Program} {f : FuncId} {xs : List AV} {Q : AV → Prop} (H : FnP P f xs Q) {G : Gh} {vs : List Value} (hL : RelL G xs vs) {h : Heap} (hz : FzIn G.g h) :
    FnC P f vs.toArray h fun r h' => GrowD h.size h h' ∧ ∃ G' a, RelV G' a r ∧ Q a := by
  have hpu := H.1
  have hL0 : RelL ⟨G.g, fun _ _ => none⟩ xs vs := ⟨hL.1, fun i a u ha hu => pure_rel (hL.2 i a u ha hu) (pureL_get hpu ha)⟩
  have hH0 : RelH h ⟨G.g, fun _ _ => none⟩ h [] := by
    refine ⟨Nat.le_refl _, fun _ _ => rfl, hz, fun i w cs hi => by simp at hi, fun i w cs hi => by simp at hi, fun i l hl => ?_, fun i j l m _ hl => ?_, (fun i w l hl => by simp at hl), ⟨fun i es hi => by simp at hi, fun i j es es' l m _ hi => by simp at hi⟩⟩
    · have := locOf_lt hl; simp at this
    · have := locOf_lt hl; simp at this
  refine (H.2 h _ h vs hH0 hL0).mono ?_
  rintro r h' ⟨G', a, σ', k1, k2, k3, k4, k5⟩
  refine ⟨⟨k2.size, fun b o hb _ => ?_⟩, G', a, k3, k5⟩
  rw [k2.keep b (Array.getElem?_eq_some_iff.1 hb).1]
  exact hb
theorem all_h (b o : Nat) (s : Value) (h : Heap) (hc : cellG (hp h) b o = some s) : FnC Try.prog 46 #[.pointer (some ⟨b, o, none⟩)] h fun r h' => GrowD h.size h h' ∧ r = s := by
  refine fn_in K_log_Log_all mixed (args := [.pointer (some ⟨b, o, none⟩)]) rfl ?_
  simp only [S_log_Log_all]
  simp (maxSteps := 1000000) (implicitDefEqProofs := false) (disch := omega) only [push_cast, ↓reduceIte, Nat.reduceEqDiff, reduceCtorEq, decide_true, decide_false, Bool.not_true, Bool.not_false, Option.isNone_some, Option.isNone_none, Option.isNone_some, hc, Nat.add_zero]
  intro h' hg
  exact ⟨hg, trivial⟩
theorem ep1 {G : Gh} {a : AV} {u : Value} (h : RelV G (.ep [a]) u) : ∃ b o v, u = .pointer (some ⟨b, o, none⟩) ∧ G.g b o = some v ∧ RelV G a v := by
  cases h with
  | ep _ vs b o h1 h2 h3 =>
    obtain ⟨v, _, rfl, hv, _⟩ := (show RelL G [a] vs from ⟨h1, h2⟩).cons_inv
    exact ⟨b, o, v, rfl, h3 0 v rfl, hv⟩
theorem flatV_drop : ∀ {l : List Ev} {k : Nat} {e : Ev}, l[k]? = some e → (l.flatMap vEv).drop (k * 4) = vEv e ++ (l.drop (k + 1)).flatMap vEv := by
  intro l
  induction l with
  | nil => intro k e h; simp at h
  | cons x l ih =>
    intro k e h
    cases k with
    | zero => simp at h; subst h; simp
    | succ k =>
      have := ih (k := k) (by simpa using h)
      have hl : (vEv x).length = 4 := rfl
      rw [List.flatMap_cons, List.drop_append, hl, List.drop_eq_nil_of_le (by rw [hl]; omega), show (k + 1) * 4 - 4 = k * 4 by omega, List.drop_succ_cons, List.nil_append]
      exact this
theorem evs_inv {G : Gh} {l : List Ev} {s : Value} (h : RelV G (aEvs l) s) : ∃ a cap, s = .slice a l.length cap ∧ l.length ≤ 9223372036854775807 ∧
    ∀ (k : Nat) (e : Ev), l[k]? = some e → ∃ b off, a = some ⟨b, off, none⟩ ∧ ∀ j w, (vEv e)[j]? = some w → G.g b (off + k * 4 + j) = some w := by
  cases h with
  | sl _ _ _ a cap vs h1 h2 h3 h4 h5 h6 =>
    refine ⟨a, cap, rfl, by omega, fun k e hk => ?_⟩
    have hvs := rl_evs (show RelL G (l.flatMap aEv) vs from ⟨h1, h2⟩)
    rcases h5 with ⟨h5, _⟩ | ⟨b, off, h5, h6⟩
    · have := lt_at hk; omega
    · refine ⟨b, off, h5, fun j w hw => ?_⟩
      rw [Nat.add_assoc]
      refine h6 _ w ?_
      rw [hvs]
      have hj : j < 4 := by have := lt_at hw; simpa [vEv] using this
      have hd : (l.flatMap vEv).drop (k * 4) = vEv e ++ (l.drop (k + 1)).flatMap vEv := flatV_drop hk
      rw [← List.getElem?_drop, hd, List.getElem?_append_left (by simpa [vEv] using hj)]
      exact hw
theorem fnc_keep {P : Program} {f : FuncId} {args : Array Value} {h : Heap} {R : Value → Heap → Prop} (H : FnC P f args h R) : FnC P f args h fun v h' => R v h' ∧ KeepD h h' :=
  fun w hw => (H w hw).mono fun _ _ ⟨v, e, r, s⟩ => ⟨v, e, ⟨r, hw ▸ s.2.2.2⟩, s⟩
theorem callv_keep {P : Program} {u : Value} {vs : List Value} {h : Heap} {K : Value → Heap → Prop} (H : EF.callv.wp P (u :: vs) h K) : EF.callv.wp P (u :: vs) h fun v h' => K v h' ∧ KeepD h h' := by
  cases u with
  | func fn first cap =>
    cases fn with
    | func f => exact ⟨H.1, fnc_keep H.2⟩
    | yield l =>
      obtain ⟨h1, h2, h3⟩ := H
      refine ⟨h1, h2, fun w hw => ?_⟩
      obtain ⟨fn, tmps, a, b, h4, h5⟩ := h3 w hw
      exact ⟨fn, tmps, a, b, h4, h5.mono fun e w' ⟨v, e1, r, s⟩ => ⟨v, e1, ⟨r, hw ▸ s.2.2.2⟩, s⟩⟩
    | _ => exact H.elim
  | _ => exact H.elim
theorem ld4 {h : Heap} {b o : Nat} {e : Ev} (H : ∀ j w, (vEv e)[j]? = some w → cellG (hp h) b (o + j) = some w) : ldV (some 4) (.pointer (some ⟨b, o, none⟩)) (hp h) = some (.agg (vEv e).toArray) := by
  have := cellsG_of (g := hp h) (b := b) (l := vEv e) (off := o) H
  show (cellsG (hp h) b o 4).map _ = _
  rw [show (4 : Nat) = (vEv e).length from rfl, this]
  rfl
theorem st_new4 {P : Program} {h : Heap} {z : Array Value} {T : TypeId} {e : Ev} {K : Value → Heap → Prop} (hz : z.size = 4) (hk : act (K undef (h.push (.cells (vEv e).toArray T (0, 0))))) :
    act (EF.wp P (.st 4) [.pointer (some ⟨h.size, 0, none⟩), .agg (vEv e).toArray] (h.push (.cells z T (0, 0))) K) := by
  refine ⟨rfl, _, ?_, hk⟩
  obtain ⟨a, b, c, d, rfl⟩ : ∃ a b c d, z = #[a, b, c, d] := by
    obtain ⟨zl⟩ := z
    match zl, hz with
    | [a, b, c, d], _ => exact ⟨a, b, c, d, rfl⟩
  simp [stL, st1, vEv, Value.cells, Value.oneCell']
  apply Array.ext'
  simp
theorem cell_new {h : Heap} {T : TypeId} {e : Ev} : ∀ j w, (vEv e)[j]? = some w → cellG (hp (h.push (.cells (vEv e).toArray T (0, 0)))) h.size (0 + j) = some w := by
  intro j w hw
  unfold cellG hp
  simp only [Array.getElem?_push_size, Nat.zero_add, List.getElem?_toArray]
  exact hw
theorem cell_grow {n : Nat} {h h' : Heap} (g : GrowD n h h') {b o : Nat} {w : Value} (e : cellG (hp h) b o = some w) : cellG (hp h') b o = some w := by
  unfold cellG hp at e ⊢
  split at e
  · rename_i c E fz hb
    rw [g.2 b _ hb (.inl rfl)]
    exact e
  · cases e
theorem wp_callh {P : Program} {f : FuncId} {vs : List Value} {h : Heap} {K : Value → Heap → Prop} {R : Value → Heap → Prop} (H : FnC P f vs.toArray h R) (hk : ∀ r h', R r h' → act (K r h')) : act (EF.wp P (.call f) vs h K) := FnC.mono H hk
theorem wp_newh {P : Program} {T : TypeId} {z : List Value} {h : Heap} {K : Value → Heap → Prop} (hk : act (K (.pointer (some ⟨h.size, 0, none⟩)) (h.push (.cells z.toArray T (0, 0))))) : act (EF.wp P (.new T z) [] h K) := hk
theorem wp_mono' {P : Program} {e : EF} {vs : List Value} {h : Heap} {K R : Value → Heap → Prop} (H : EF.wp P e vs h R) (hk : ∀ r h', R r h' → act (K r h')) : act (EF.wp P e vs h K) := EF.wp_mono hk H
theorem those1_it (l : List Ev) {f : FuncId} {xs : List AV} {p : Ev → Bool} (hok : fnOk Try.prog f = true) (hpx : AV.pureL xs = true) (hf : ∀ e, FnP Try.prog f (.agg (aEv e) :: xs) fun a => a = aBool (p e)) :
    ItP Try.prog 111 [.ep [aLg l], .ep [.fn (.func f) 0 xs]] (tlA p l) := by
  refine ⟨by simp [AV.pureL, AV.pure, aLg_pure, hpx], fun G lb hL => ⟨tlV p l, fun i v h => tlV_rel h, ?_⟩⟩
  obtain ⟨u1, _, rfl, r1, hL⟩ := hL.cons_inv
  obtain ⟨u2, _, rfl, r2, hL⟩ := hL.cons_inv
  obtain rfl := hL.nil_inv
  obtain ⟨b1, o1, p1, rfl, g1, r1⟩ := ep1 r1
  obtain ⟨b3, o3, s, rfl, g3, r3⟩ := ep1 r1
  obtain ⟨a, cap, rfl, hlen, gs⟩ := evs_inv r3
  obtain ⟨b2, o2, v2, rfl, g2, r2⟩ := ep1 r2
  cases r2 with
  | fn _ _ _ ws w1 w2 =>
  have hws : RelL G xs ws := ⟨w1, w2⟩
  have htl : (tlA p l).length = (tl p l).length := by simp [tlA]
  intro u J h0 hJf hJg hJy hJ0
  have hfz : ∀ {i h b o w}, J i h → G.g b o = some w → cellG (hp h) b o = some w := fun hj e => hJf _ _ hj _ _ _ e
  have hargs : #[u] ++ [Value.pointer (some ⟨b1, o1, none⟩), .pointer (some ⟨b2, o2, none⟩)].toArray = [u, .pointer (some ⟨b1, o1, none⟩), .pointer (some ⟨b2, o2, none⟩)].toArray := by simp
  rw [hargs]
  refine fn_in K_log_Log_those_1 mixed rfl ?_
  simp only [S_log_Log_those_1]
  have c1 := hfz hJ0 g1
  have c3 := hfz hJ0 g3
  simp (maxSteps := 1000000) (implicitDefEqProofs := false) (disch := omega) only [push_cast, ↓reduceIte, Nat.reduceEqDiff, reduceCtorEq, decide_true, decide_false, Bool.not_true, Bool.not_false, Option.isNone_some, Option.isNone_none, c1, Nat.add_zero]
  refine wp_callh (all_h b3 o3 _ h0 c3) ?_
  rintro r h1 ⟨hg1, rfl⟩
  simp (maxSteps := 1000000) (implicitDefEqProofs := false) (disch := omega) only [push_cast, ↓reduceIte, Nat.reduceEqDiff, reduceCtorEq, decide_true, decide_false, Bool.not_true, Bool.not_false, Option.isNone_some, Option.isNone_none]
  have hJ1 := hJg _ _ _ hJ0 hg1
  refine wp_bl (α := Nat) (I := fun k ρ h => (ρ 0 = u ∧ ρ 2 = .pointer (some ⟨b2, o2, none⟩) ∧ ρ 7 = .slice a l.length cap ∧ ρ 8 = .int .i64 l.length ∧ ρ 9 = .int .i64 k) ∧ k ≤ l.length ∧ h0.size ≤ h.size ∧ J (tl p (l.take k)).length h)
    (μ := fun k => l.length - k) (Q := fun ρ h => J (tl p l).length h) (x := 0) ?_ ?_ ?_
  · simp (maxSteps := 1000000) (implicitDefEqProofs := false) (disch := omega) only [push_cast, ↓reduceIte, Nat.reduceEqDiff, reduceCtorEq, decide_true, decide_false, Bool.not_true, Bool.not_false, Option.isNone_some, Option.isNone_none]
    exact ⟨by simp, by omega, hg1.1, by simpa [tl] using hJ1⟩
  · rintro k ρ h N E ⟨hρ, hk, hs, hj⟩ hN hE
    simp only [S_log_Log_those_1_L1]
    by_cases hlt : k < l.length
    · obtain ⟨e, he⟩ := at_lt hlt
      obtain ⟨b, off, rfl, ge⟩ := gs k e he
      have hl4 : ldV (some 4) (.pointer (some ⟨b, off + k * 4, none⟩)) (hp h) = some (.agg (vEv e).toArray) := ld4 fun j w hw => hfz hj (ge j w hw)
      simp (maxSteps := 1000000) (implicitDefEqProofs := false) (disch := omega) only [push_cast, ↓reduceIte, Nat.reduceEqDiff, reduceCtorEq, decide_true, decide_false, Bool.not_true, Bool.not_false, Option.isNone_some, Option.isNone_none, hρ, hl4]
      refine wp_newh ?_
      simp (maxSteps := 1000000) (implicitDefEqProofs := false) (disch := omega) only [push_cast, ↓reduceIte, Nat.reduceEqDiff, reduceCtorEq, decide_true, decide_false, Bool.not_true, Bool.not_false, Option.isNone_some, Option.isNone_none, hρ]
      refine st_new4 rfl ?_
      have hg2 : GrowD h.size h (h.push (.cells (vEv e).toArray 28 (0, 0))) := (Grow.push _ _).d
      have hl5 : ldV (some 4) (.pointer (some ⟨h.size, 0, none⟩)) (hp (h.push (.cells (vEv e).toArray 28 (0, 0)))) = some (.agg (vEv e).toArray) := ld4 cell_new
      have hc5 : ∀ j w, (vEv e)[j]? = some w → cellG (hp (h.push (.cells (vEv e).toArray 28 (0, 0)))) h.size (0 + j) = some w := cell_new
      have hs2 : h.size ≤ (h.push (.cells (vEv e).toArray 28 (0, 0))).size := by simp
      generalize h.push (.cells (vEv e).toArray 28 (0, 0)) = h2 at hg2 hl5 hc5 hs2 ⊢
      have hj2 := hJg _ _ _ hj (hg2.weaken hs)
      have c2 := hfz hj2 g2
      simp (maxSteps := 1000000) (implicitDefEqProofs := false) (disch := omega) only [push_cast, ↓reduceIte, Nat.reduceEqDiff, reduceCtorEq, decide_true, decide_false, Bool.not_true, Bool.not_false, Option.isNone_some, Option.isNone_none, hρ, c2, hl5]
      have hLe : RelL G (.agg (aEv e) :: xs) (.agg (vEv e).toArray :: ws) := .cons (.agg _ _ (rl_ev G e).1 (rl_ev G e).2) hws
      have hfc := fnp_heap (hf e) hLe (hJf _ _ hj2)
      have hfa : (Value.agg (vEv e).toArray :: ws).toArray = (List.take 0 ws).toArray ++ [Value.agg (vEv e).toArray].toArray ++ (List.drop 0 ws).toArray := by simp
      rw [hfa] at hfc
      refine wp_mono' (R := fun r h' => GrowD h2.size h2 h' ∧ ∃ G' a, RelV G' a r ∧ a = aBool (p e)) ⟨hok, hfc⟩ ?_
      rintro r h3 ⟨hg3, G', aa, hrv, rfl⟩
      obtain rfl := rv_lit hrv
      have hj3 := hJg _ _ _ hj2 (hg3.weaken (by omega))
      have hl6 : ldV (some 4) (.pointer (some ⟨h.size, 0, none⟩)) (hp h3) = some (.agg (vEv e).toArray) := ld4 fun j w hw => cell_grow hg3 (hc5 j w hw)
      have hs3 := hg3.1
      cases hpe : p e with
      | false =>
        have ht := tl_take p he
        rw [hpe] at ht
        simp (maxSteps := 1000000) (implicitDefEqProofs := false) (disch := omega) only [push_cast, ↓reduceIte, Nat.reduceEqDiff, reduceCtorEq, decide_true, decide_false, Bool.not_true, Bool.not_false, Option.isNone_some, Option.isNone_none, hρ]
        refine hN (k + 1) _ _ ⟨?_, by omega, by omega, ?_⟩ (by omega)
        · simp (maxSteps := 1000000) (implicitDefEqProofs := false) (disch := omega) only [push_cast, ↓reduceIte, Nat.reduceEqDiff, reduceCtorEq, decide_true, decide_false, Bool.not_true, Bool.not_false, Option.isNone_some, Option.isNone_none, hρ, and_self]
        · rw [ht]; simpa using hj3
      | true =>
        have ht := tl_take p he
        have hat := tl_at p he hpe
        rw [hpe] at ht
        have hv : tlV p l (tl p (l.take k)).length = [.int .i64 (k : Int), .agg (vEv e).toArray] := by unfold tlV; rw [hat]
        have hy := callv_keep (hJy _ h3 (by rw [htl]; exact lt_at hat) hj3)
        rw [hv] at hy
        simp (maxSteps := 1000000) (implicitDefEqProofs := false) (disch := omega) only [push_cast, ↓reduceIte, Nat.reduceEqDiff, reduceCtorEq, decide_true, decide_false, Bool.not_true, Bool.not_false, Option.isNone_some, Option.isNone_none, hρ, hl6]
        refine wp_mono' hy ?_
        rintro r h4 ⟨⟨rfl, hj4⟩, hk4⟩
        have hs4 := hk4.1
        simp (maxSteps := 1000000) (implicitDefEqProofs := false) (disch := omega) only [push_cast, ↓reduceIte, Nat.reduceEqDiff, reduceCtorEq, decide_true, decide_false, Bool.not_true, Bool.not_false, Option.isNone_some, Option.isNone_none, hρ]
        refine hN (k + 1) _ _ ⟨?_, by omega, by omega, ?_⟩ (by omega)
        · simp (maxSteps := 1000000) (implicitDefEqProofs := false) (disch := omega) only [push_cast, ↓reduceIte, Nat.reduceEqDiff, reduceCtorEq, decide_true, decide_false, Bool.not_true, Bool.not_false, Option.isNone_some, Option.isNone_none, hρ, and_self]
        · rw [ht, List.length_append]; simpa using hj4
    · simp (maxSteps := 1000000) (implicitDefEqProofs := false) (disch := omega) only [push_cast, ↓reduceIte, Nat.reduceEqDiff, reduceCtorEq, decide_true, decide_false, Bool.not_true, Bool.not_false, Option.isNone_some, Option.isNone_none, hρ]
      obtain rfl : k = l.length := by omega
      rw [List.take_length] at hj
      exact hE _ _ hj
  · intro ρ h hj
    simp (maxSteps := 1000000) (implicitDefEqProofs := false) (disch := omega) only [push_cast, ↓reduceIte, Nat.reduceEqDiff, reduceCtorEq, decide_true, decide_false, Bool.not_true, Bool.not_false, Option.isNone_some, Option.isNone_none]
    intro h' hg
    rw [htl]
    exact hJg _ _ _ hj hg
end Go.Proofs.Ythgmfjkbgacfaaa
