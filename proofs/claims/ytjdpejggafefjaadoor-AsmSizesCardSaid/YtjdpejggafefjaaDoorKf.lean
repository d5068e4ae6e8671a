/- Own small program logic, part f: a compiled operation agrees with the model's: loads, effects, calls. -/
import Derived.Test.YtjdpejggafefjaaDoorKec
namespace Go.Kx
set_option linter.unusedVariables false
set_option linter.unusedSimpArgs false
open Go

theorem cellG_hp (w : World) (b off : Nat) : cellG (hp w.heap) b off = w.cell? ⟨b, off, none⟩ := by
  simp only [cellG, hp, World.cell?]
  cases w.heap[b]? with
  | none => rfl
  | some o => cases o <;> rfl
theorem cellsG_spec {g : Nat → Option Obj} {b : Nat} : ∀ {n off : Nat} {l : List Value}, cellsG g b off n = some l → l.length = n ∧ ∀ j v, l[j]? = some v → cellG g b (off + j) = some v := by
  intro n
  induction n with
  | zero => intro off l h; simp [cellsG] at h; subst h; simp
  | succ n ih =>
    intro off l h
    simp only [cellsG] at h
    split at h
    · cases h
    · rename_i v hv
      simp only [Option.map_eq_some_iff] at h
      obtain ⟨l', hl', rfl⟩ := h
      obtain ⟨h1, h2⟩ := ih hl'
      refine ⟨by simp [h1], ?_⟩
      intro j u hu
      cases j with
      | zero => simp at hu; subst hu; exact hv
      | succ j => simp at hu; have := h2 j u hu; rwa [show off + (j + 1) = off + 1 + j by omega]
theorem add_none (b off n : Nat) : (⟨b, off, none⟩ : Addr).add n = ⟨b, off + n, none⟩ := by
  unfold Addr.add
  split <;> simp_all

theorem loadCells_run {P : Program} {w : World} {b off n : Nat} {l : List Value} (h : cellsG (hp w.heap) b off n = some l) : (loadCells ⟨b, off, none⟩ n).run P w = .ok l.toArray w := by
  obtain ⟨h1, h2⟩ := cellsG_spec h
  rw [← h1]
  exact run_loadCells_list w _ l (fun j v hv => by rw [add_none, ← cellG_hp]; exact h2 j v hv)

theorem ld_run {P : Program} {w : World} {t : TypeId} {n : Option Nat} {x v : Value} (ha : aggOf P t = some n) (h : ldV n x (hp w.heap) = some v) : (Instr.loadAt t x).run P w = .ok v w := by
  obtain ⟨h1, h2, i, hi⟩ := isAgg_run (w := w) ha
  unfold ldV at h
  split at h
  · cases n with
    | none =>
      simp only [cellG_hp] at h
      simp [Instr.loadAt, Instr.sureAddr, loadVar, h1, h]
    | some k =>
      simp only [Option.map_eq_some_iff] at h
      obtain ⟨l, hl, rfl⟩ := h
      simp [Instr.loadAt, Instr.sureAddr, loadVar, h1, run_sizeOf w hi, h2 k rfl, loadCells_run hl]
  · cases h

theorem st1_run {P : Program} {w : World} {b off : Nat} {v : Value} {h' : Heap} (h : st1 w.heap b off v = some h') : (store ⟨b, off, none⟩ v).run P w = .ok () { w with heap := h' } := by
  unfold st1 at h
  split at h
  · rename_i c E fz hb
    split at h
    · rename_i hc
      simp only [Option.some.injEq] at h
      subst h
      have hcell : w.cell? ⟨b, off, none⟩ = some (c[off]'hc.1) := by simp [World.cell?, hb, hc.1]
      have hfz : w.frozen? ⟨b, off, none⟩ = false := by
        have := hc.2.1
        simp only [World.frozen?, hb]
        simpa using this
      rw [run_store P w _ v _ hc.2.2, hcell]
      simp only [hfz, Bool.false_eq_true, if_false, Result.ok.injEq, true_and]
      simp only [World.setCell]
      congr 1
      apply Array.ext'
      apply List.ext_getElem?
      intro i
      simp [Array.getElem?_modify]
      by_cases hi : b = i
      · subst hi
        obtain ⟨hlt, hb2⟩ := Array.getElem?_eq_some_iff.1 hb
        simp [hlt, hb2]
      · simp [hi]
    · cases h
  · cases h
theorem stL_run {P : Program} : ∀ (vs : List Value) (w : World) (b off i : Nat) (h' : Heap), stL w.heap b (off + i) vs = some h' → (storeCells ⟨b, off, none⟩ vs i).run P w = .ok () { w with heap := h' } := by
  intro vs
  induction vs with
  | nil => intro w b off i h' h; simp [stL] at h; subst h; simp [storeCells]
  | cons v vs ih =>
    intro w b off i h' h
    simp only [stL, Option.bind_eq_some_iff] at h
    obtain ⟨h1, e1, e2⟩ := h
    have := ih { w with heap := h1 } b off (i + 1) h' (by simpa [Nat.add_assoc] using e2)
    simp [storeCells, add_none, st1_run e1, this]

theorem rep_get {z : List Value} {k : Nat} (hz : z.length = k) (hk : 0 < k) : ∀ (c i : Nat), i < c * k → (rep z c)[i]? = z[i % k]? := by
  intro c
  induction c with
  | zero => intro i hi; simp at hi
  | succ c ih =>
    intro i hi
    simp only [rep, List.replicate_succ, List.flatten_cons]
    by_cases h : i < k
    · rw [List.getElem?_append_left (by omega), Nat.mod_eq_of_lt h]
    · rw [List.getElem?_append_right (by omega), hz]
      have := ih (i - k) (by rw [Nat.add_mul] at hi; omega)
      simp only [rep] at this
      rw [this]
      congr 1
      have : i = (i - k) + k := by omega
      rw [this, Nat.add_mod_right]
      simp
theorem rep_length {z : List Value} {k : Nat} (hz : z.length = k) (c : Nat) : (rep z c).length = c * k := by
  simp [rep, hz]
theorem rep_arr {z : Array Value} {k : Nat} (hz : z.size = k) (hk : 0 < k) (c n : Nat) (hn : n = c * k) : ((Array.range n).map (fun i => z[i % k]!)) = (rep z.toList c).toArray := by
  subst hn
  apply Array.ext'
  apply List.ext_getElem?
  intro i
  by_cases hi : i < c * k
  · have hm : i % k < z.size := by rw [hz]; exact Nat.mod_lt _ hk
    simp only [Array.toList_map, Array.toList_range, List.getElem?_map]
    rw [rep_get (by simpa using hz) hk c i hi]
    simp [hi, hm]
  · have h1 : (rep z.toList c).length ≤ i := by rw [rep_length (by simpa using hz)]; omega
    rw [List.getElem?_eq_none h1]
    simp
    omega

theorem elem_info {P : Program} {t e : TypeId} {i : TypeInfo} {z : List Value} (h : elemInfo P t = some (e, i, z)) :
    P.underlying t = some (.slice e) ∧ P.info? e = some i ∧ (∃ zv, i.zero = some zv ∧ zv.cells.toList = z ∧ zv.cells.size = i.size) ∧ 0 < i.size ∧ P.cellsOf e = i.size := by
  unfold elemInfo at h
  split at h
  · rename_i e' hu
    split at h
    · rename_i i' hi
      split at h
      · rename_i zv hz
        split at h
        · rename_i hc
          simp only [Option.some.injEq, Prod.mk.injEq] at h
          obtain ⟨rfl, rfl, rfl⟩ := h
          exact ⟨hu, hi, ⟨zv, hz, rfl, hc.1⟩, hc.2, by simp [Program.cellsOf, hi]⟩
        · cases h
      · cases h
    · cases h
  · cases h

theorem mks_run {P : Program} {w : World} {t e : TypeId} {i : TypeInfo} {z : List Value} {k k' : IntKind} {l c : Int} (h : elemInfo P t = some (e, i, z)) (h0 : 0 ≤ l) (h1 : l ≤ c) (h2 : c < 9223372036854775808) (h3 : i.bytes * c ≤ 281474976710656) :
    (Instr.makeSlice t (.int k l) (.int k' c)).run P w = .ok (.slice (some ⟨w.heap.size, 0, none⟩) l.toNat c.toNat) { w with heap := w.heap.push (.cells (rep z c.toNat).toArray e (0, 0)) } := by
  obtain ⟨hu, hi, ⟨zv, hz, rfl, hzs⟩, hp, hc⟩ := elem_info h
  have := run_make (P := P) w t e i zv hu hi hz k k' l c h0 h1 h3 (by omega)
  rw [this]
  simp only [madeCells, hzs]
  rw [rep_arr hzs hp c.toNat _ rfl]
  rfl

theorem ba_all (s : ByteArray) : s.extract 0 s.size = s := by
  exact ByteArray.extract_zero_size
theorem src_run {P : Program} {w : World} {sz m : Nat} {y : Value} {news : List Value} (h : srcV (hp w.heap) sz y = some (m, news)) :
    (Builtin.lenOf y).run P w = .ok m w ∧ ((∃ s, y = .string s) → sz = 1 ∨ True) ∧ (Builtin.firstCells sz m y).run P w = .ok news.toArray w := by
  unfold srcV at h
  split at h
  · rename_i b off n c
    simp only [Option.map_eq_some_iff, Prod.mk.injEq] at h
    obtain ⟨l, hl, rfl, rfl⟩ := h
    exact ⟨by simp [Builtin.lenOf], fun _ => .inr trivial, by simp [Builtin.firstCells, loadCells_run hl]⟩
  · rename_i n c
    simp at h
    obtain ⟨rfl, rfl⟩ := h
    exact ⟨by simp [Builtin.lenOf], fun _ => .inr trivial, by simp [Builtin.firstCells]⟩
  · rename_i a c _ _
    simp at h
    obtain ⟨rfl, rfl⟩ := h
    refine ⟨by simp [Builtin.lenOf], fun _ => .inr trivial, ?_⟩
    cases a <;> simp [Builtin.firstCells, loadCells, loadCellsFrom]
  · rename_i s
    simp at h
    obtain ⟨rfl, rfl⟩ := h
    refine ⟨by simp [Builtin.lenOf], fun _ => .inr trivial, ?_⟩
    simp only [Builtin.firstCells, Sem.run_pure, Result.ok.injEq, and_true, ba_all]
    apply Array.ext'
    simp
  · cases h

theorem stL_size {vs : List Value} : ∀ {h h' : Heap} {b off : Nat}, stL h b off vs = some h' → h'.size = h.size := by
  induction vs with
  | nil => intro h h' b off e; simp [stL] at e; rw [e]
  | cons v vs ih =>
    intro h h' b off e
    simp only [stL, Option.bind_eq_some_iff] at e
    obtain ⟨h1, e1, e2⟩ := e
    rw [ih e2]
    unfold st1 at e1
    split at e1
    · split at e1
      · simp at e1; rw [← e1]; simp
      · cases e1
    · cases e1

theorem same_heap (w : World) {h : Heap} (hk : KeepD w.heap h) : Same w { w with heap := h } := ⟨rfl, rfl, rfl, hk⟩
theorem stL_keep {vs : List Value} : ∀ {h h' : Heap} {b off : Nat}, stL h b off vs = some h' → KeepD h h' := by
  induction vs with
  | nil => intro h h' b off e; simp [stL] at e; rw [e]; exact .refl _
  | cons v vs ih =>
    intro h h' b off e
    simp only [stL, Option.bind_eq_some_iff] at e
    obtain ⟨h1, e1, e2⟩ := e
    refine KeepD.trans ?_ (ih e2)
    unfold st1 at e1
    split at e1
    · split at e1
      · simp at e1; rw [← e1]; exact KeepD.set _ ‹_› rfl
      · cases e1
    · cases e1

/-- append: what it gives, or what it needs. -/
theorem app_run {P : Program} {w : World} {t u : TypeId} {e : TypeId} {i : TypeInfo} {z : List Value} {K : Value → Heap → Prop} {base : Option Addr} {n cap : Nat} {y : Value} {ty : TypeId} (hE : elemInfo P t = some (e, i, z))
    (hu : (∃ e', P.underlying u = some (.slice e')) ∨ P.underlying u = some .string)
    (h : (EF.app e i.size i.bytes z).wp P [.slice base n cap, y] w.heap K) :
    ∃ v w', (Builtin.append_ #[t, u] ty #[.slice base n cap, y]).run P w = .ok v w' ∧ K v w'.heap ∧ Same w w' := by
  obtain ⟨ht, hi, ⟨zv, hz, rfl, hzs⟩, hp0, hc⟩ := elem_info hE
  obtain ⟨m, news, hsrc, hlen, h⟩ := h
  obtain ⟨h1, _, h2⟩ := src_run (P := P) hsrc
  by_cases hfit : n + m ≤ cap
  · rw [if_pos hfit] at h
    cases base with
    | none =>
      refine ⟨_, w, ?_, h, Same.refl w⟩
      rcases hu with ⟨e', hu⟩ | hu <;> simp [Builtin.append_, run_underlying ht, run_underlying hu, run_sizeOf w hi, h1, h2, hfit, hc]
    | some a =>
      obtain ⟨b, off, spot⟩ := a
      cases spot with
      | some _ => exact h.elim
      | none =>
        obtain ⟨h', hs, hk⟩ := h
        have := stL_run (P := P) news w b (off + n * i.size) 0 h' hs
        refine ⟨_, { w with heap := h' }, ?_, hk, same_heap w (stL_keep hs)⟩
        rcases hu with ⟨e', hu⟩ | hu <;> simp [Builtin.append_, run_underlying ht, run_underlying hu, run_sizeOf w hi, h1, h2, hfit, hc, add_none, this]
  · rw [if_neg hfit] at h
    obtain ⟨h63, hby, olds, ho, hol, hk⟩ := h
    have hfs := growslice_fits (need := n + m) (old := cap) (bytes := i.bytes) (by omega) hby
    have hcut := fun tp => (show n + m ≤ (Question.appendCap (n + m) cap e).cut tp ∧ (Question.appendCap (n + m) cap e).cut tp < 9223372036854775808 by
      simp only [Question.cut]
      have := Nat.mod_lt tp (show 0 < 2 ^ 63 - (n + m) by omega)
      omega)
    obtain ⟨_, _, o2⟩ := src_run (P := P) (w := w.drew) ho
    obtain ⟨_, _, y2⟩ := src_run (P := P) (w := w.drew) hsrc
    obtain ⟨c1, c2⟩ := hcut (w.tape w.drawn (.appendCap (n + m) cap e))
    refine ⟨_, w.drew.alloc (.cells (olds ++ news ++ rep zv.cells.toList ((Question.appendCap (n + m) cap e).cut (w.tape w.drawn (.appendCap (n + m) cap e)) - (n + m))).toArray e (0, 0)), ?_, hk _ c1 c2, ⟨rfl, rfl, rfl, .push _ _⟩⟩
    · have n1 : ¬ (IntKind.i64.max < ((n : Int) + (m : Int))) := by simp [IntKind.max, IntKind.bits, IntKind.signed]; omega
      have n2 : ¬ (2 ^ 48 < Builtin.nextslicecap (n + m) cap * i.bytes) := by simpa using hfs
      have hzc : Builtin.zeroCells zv.cells ((Question.appendCap (n + m) cap e).cut (w.tape w.drawn (.appendCap (n + m) cap e)) - (n + m)) = (rep zv.cells.toList ((Question.appendCap (n + m) cap e).cut (w.tape w.drawn (.appendCap (n + m) cap e)) - (n + m))).toArray := by
        simp only [Builtin.zeroCells]
        exact rep_arr rfl (by omega) _ _ rfl
      have n3 : ¬ (9223372036854775807 < ((n : Int) + (m : Int))) := by omega
      have n4 : ¬ (281474976710656 < Builtin.nextslicecap (n + m) cap * i.bytes) := by omega
      have hq : (Question.appendCap (n + m) cap e).forced = false := rfl
      rcases hu with ⟨e', hu⟩ | hu <;>
        simp [Builtin.append_, run_underlying ht, run_underlying hu, run_sizeOf w hi, h1, hfit, hc, typeInfo, zeroValue, hi, hz, n3, n4, hq, o2, y2, hzc, newRow]

theorem callFunc_run {P : Program} {w : World} {f : FuncId} {args : Array Value} (h : fnOk P f = true) : (callFunc f args).run P w = .ok (.enter f args) w := by
  unfold fnOk at h
  split at h
  · rename_i fn hf
    simp only [Bool.and_eq_true, bne_iff_ne, ne_eq] at h
    obtain ⟨h1, h2⟩ := h
    obtain ⟨c, hb⟩ := Option.isSome_iff_exists.1 h2
    simp [callFunc, hf, h1, hb]
  · cases h

theorem flat_cells {sz : Nat} : ∀ (vs : List Value), (∀ v ∈ vs, v.cells.size = sz) → (vs.flatMap (·.cells.toList)).length = vs.length * sz := by
  intro vs
  induction vs with
  | nil => simp
  | cons v vs ih => intro h; simp [h v (by simp), ih (fun u hu => h u (by simp [hu])), Nat.add_mul, Nat.add_comm]

theorem setAt_pre : ∀ (vs l : List Value) (off : Nat), off + vs.length ≤ l.length → setAt l off vs = l.take off ++ vs ++ l.drop (off + vs.length) := by
  intro vs
  induction vs with
  | nil => intro l off h; simp [setAt]
  | cons v vs ih =>
    intro l off h
    simp only [List.length_cons] at h
    simp only [setAt, List.length_cons]
    rw [ih _ _ (by simp; omega)]
    have h1 : off < l.length := by omega
    have e1 : (l.set off v).take (off + 1) = l.take off ++ [v] := by
      rw [List.take_set, List.take_succ_eq_append_getElem h1, List.set_append_right _ _ (by simp; omega)]
      simp [Nat.min_eq_left (by omega : off ≤ l.length)]
    have e2 : (l.set off v).drop (off + 1 + vs.length) = l.drop (off + 1 + vs.length) := by
      rw [List.drop_set_of_lt (by omega)]
    rw [e1, e2]
    simp [show off + (vs.length + 1) = off + 1 + vs.length by omega]

theorem fill_rows {sz : Nat} : ∀ (vs : List Value) (k : Nat) (pre rest : List Value), pre.length = k * sz → rest.length = vs.length * sz → (∀ v ∈ vs, v.cells.size = sz) →
    Instr.fill (fun i => some (i * sz, sz)) (pre ++ rest).toArray ((List.range' k vs.length).zip vs) = some (pre ++ vs.flatMap (·.cells.toList)).toArray := by
  intro vs
  induction vs with
  | nil => intro k pre rest hp hr h; simp at hr; simp [Instr.fill, hr]
  | cons v vs ih =>
    intro k pre rest hp hr h
    simp only [List.length_cons, List.range'_succ, List.zip_cons_cons, Instr.fill]
    have hv := h v (by simp)
    simp only [List.length_cons, Nat.add_mul, Nat.one_mul] at hr
    have h1 : ¬ ((v.cells.size ≠ sz || decide (k * sz + v.cells.size > (pre ++ rest).toArray.size)) = true) := by
      simp [hv, hp, hr]
    rw [if_neg h1]
    have := setAt_eq (k * sz) v.cells.toList 0 (pre ++ rest)
    rw [← Array.foldl_toList, Array.toList_zipIdx, this]
    rw [setAt_pre _ _ _ (by simp [hv, hp, hr])]
    have e1 : (pre ++ rest).take (k * sz + 0) = pre := by simp [← hp]
    have e2 : (pre ++ rest).drop (k * sz + 0 + v.cells.toList.length) = rest.drop sz := by simp [← hp, hv, List.drop_append]
    rw [e1, e2]
    rw [ih (k + 1) (pre ++ v.cells.toList) (rest.drop sz) (by simp [hp, hv, Nat.add_mul]) (by simp [hr]) (fun u hu => h u (by simp [hu]))]
    simp

theorem bsl_run {P : Program} {w : World} {t e : TypeId} {i : TypeInfo} {z : List Value} {vs : List Value} (hE : elemInfo P t = some (e, i, z)) (hsm : vs.length * i.size ≤ 16777216) (hv : ∀ v ∈ vs, v.cells.size = i.size) :
    (Instr.buildSlice t vs.length ((List.range vs.length).zip vs).toArray).run P w = .ok (.slice (some ⟨w.heap.size, 0, none⟩) vs.length vs.length) { w with heap := w.heap.push (.cells (vs.flatMap (·.cells.toList)).toArray e (0, 0)) } := by
  obtain ⟨ht, hi, ⟨zv, hz, rfl, hzs⟩, hp0, hc⟩ := elem_info hE
  have hfill : ∀ (Z : Array Value), Z.size = vs.length * i.size → Instr.fill (fun j => some (j * i.size, i.size)) Z ((List.range vs.length).zip vs) = some (vs.flatMap (·.cells.toList)).toArray := by
    intro Z hZ
    have := fill_rows (sz := i.size) vs 0 [] Z.toList (by simp) (by simpa using hZ) hv
    simpa [List.range_eq_range'] using this
  have n1 : ¬ (2 ^ 24 < vs.length * i.size) := by omega
  have n1' : ¬ (16777216 < vs.length * i.size) := by omega
  by_cases h0 : vs.length * i.size = 0
  · simp [Instr.buildSlice, run_underlying ht, run_sizeOf w hi, hc, h0, newRow, hfill]
  · simp [Instr.buildSlice, run_underlying ht, run_sizeOf w hi, hc, h0, n1', zeroValue, typeInfo, hi, hz, newRow, hfill]

end Go.Kx
