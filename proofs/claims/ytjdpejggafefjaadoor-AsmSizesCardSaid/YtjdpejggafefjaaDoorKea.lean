/- Own small program logic, part e: a compiled pure operation gives what the model's operation gives. -/
import Derived.Test.YtjdpejggafefjaaDoorKd
namespace Go.Kx
set_option linter.unusedVariables false
set_option linter.unusedSimpArgs false
open Go

theorem isAgg_run {P : Program} {w : World} {t : TypeId} {n : Option Nat} (h : aggOf P t = some n) : (isAgg t).run P w = .ok n.isSome w ∧ (∀ k, n = some k → P.cellsOf t = k) ∧ ∃ i, P.info? t = some i := by
  unfold aggOf at h
  split at h
  · rename_i i _ hi hu; cases h; exact ⟨by simp [isAgg, run_underlying hu], (fun k hk => by cases hk; simp [Program.cellsOf, hi]), _, hi⟩
  · rename_i i _ _ hi hu; cases h; exact ⟨by simp [isAgg, run_underlying hu], (fun k hk => by cases hk; simp [Program.cellsOf, hi]), _, hi⟩
  · rename_i i u h1 h2 hi hu
    cases h
    refine ⟨?_, (fun k hk => by cases hk), _, hi⟩
    cases u <;> simp_all [isAgg, run_underlying hu]
  · cases h

theorem part_run {P : Program} {w : World} {t : TypeId} {n : Option Nat} {cs : Array Value} {off : Nat} {v : Value} (h : aggOf P t = some n)
    (hv : PF.val (.fld off n) [.agg cs] = some v) : (part t cs off).run P w = .ok v w := by
  obtain ⟨h1, h2, i, hi⟩ := isAgg_run (w := w) h
  cases n with
  | none =>
    simp [PF.val] at hv
    simp [part, h1, hv]
  | some k =>
    simp [PF.val, subL] at hv
    subst hv
    simp only [part, h1, Sem.run_bind, Result.andThen_ok, Option.isSome_some, if_true, run_sizeOf w hi, h2 k rfl, Sem.run_pure, Result.ok.injEq, and_true]
    congr 1
    apply Array.ext'
    simp [Array.toList_extract, List.extract_eq_take_drop]

theorem bound_run {P : Program} {w : World} {y n : Nat} {v : Value} {c : BoundsCode} (h : bound y v = some n) : (Instr.sliceBound v y c).run P w = .ok n w := by
  unfold bound at h
  split at h
  · split at h
    · cases h
      rename_i hb
      simp [Instr.sliceBound, asIntOf, hb]
    · cases h
  · cases h

theorem loHi_run {P : Program} {w : World} {b : Bool} {n c l h : Nat} {lo hi : Option Value} (H : loHi lo.isSome hi.isSome n c (lo.toList ++ hi.toList) = some (l, h)) :
    (Instr.sliceBounds b n c lo hi none).run P w = .ok (l, h, c) w := by
  cases lo with
  | none =>
    cases hi with
    | none => simp [loHi] at H; obtain ⟨rfl, rfl⟩ := H; simp [Instr.sliceBounds]
    | some v => simp [loHi] at H; obtain ⟨h1, rfl⟩ := H; simp [Instr.sliceBounds, bound_run h1]
  | some u =>
    cases hi with
    | none => simp [loHi] at H; obtain ⟨x, h1, rfl, rfl⟩ := H; simp [Instr.sliceBounds, bound_run h1]
    | some v =>
      simp [loHi, Option.bind_eq_some_iff] at H
      obtain ⟨a, h1, x, h2, rfl, rfl⟩ := H
      simp [Instr.sliceBounds, bound_run h1, bound_run h2]

theorem mm_run {P : Program} {w : World} {mx : Bool} {x y v : Value} (h : mm mx x y = some v) : ((if mx then Builtin.max2 else Builtin.min2) x y).run P w = .ok v w := by
  unfold mm at h
  split at h
  · cases h; cases mx <;> simp [Builtin.max2, Builtin.min2]
  · cases h
theorem mms_run {P : Program} {w : World} {mx : Bool} : ∀ (ys : List Value) (x v : Value), mms mx x ys = some v → (ys.foldlM (if mx then Builtin.max2 else Builtin.min2) x).run P w = .ok v w := by
  intro ys
  induction ys with
  | nil => intro x v h; simp [mms] at h; simp [h]
  | cons y ys ih =>
    intro x v h
    simp only [mms, Option.bind_eq_some_iff] at h
    obtain ⟨z, h1, h2⟩ := h
    simp only [List.foldlM_cons, Sem.run_bind, mm_run h1, Result.andThen_ok]
    exact ih z v h2

theorem setAt_eq (off : Nat) : ∀ (vs : List Value) (k : Nat) (l : List Value),
    ((vs.zipIdx k).foldl (fun (cs : Array Value) (x : Value × Nat) => cs.setIfInBounds (off + x.2) x.1) l.toArray) = (setAt l (off + k) vs).toArray := by
  intro vs
  induction vs with
  | nil => intro k l; simp [setAt]
  | cons v vs ih =>
    intro k l
    simp only [List.zipIdx_cons, List.foldl_cons, List.setIfInBounds_toArray, setAt]
    rw [ih (k + 1) (l.set (off + k) v)]
    rfl

theorem fill_run {place : Nat → Option (Nat × Nat)} : ∀ (is : List Nat) (ps : List (Nat × Nat)) (vs : List Value) (z l : List Value), is.mapM place = some ps → vs.length = is.length → fillL z ps vs = some l →
    Instr.fill place z.toArray (is.zip vs) = some l.toArray := by
  intro is
  induction is with
  | nil =>
    intro ps vs z l hp hv h
    simp at hp
    subst hp
    cases vs <;> simp [fillL] at h hv ⊢
    simp [Instr.fill, h]
  | cons i is ih =>
    intro ps vs z l hp hv h
    rw [List.mapM_cons] at hp
    simp only [bind, Option.bind_eq_some_iff, pure, Option.some.injEq] at hp
    obtain ⟨p, hp1, ps', hp2, rfl⟩ := hp
    obtain ⟨off, sz⟩ := p
    cases vs with
    | nil => simp at hv
    | cons v vs =>
      simp only [fillL] at h
      split at h
      · rename_i hc
        simp only [List.zip_cons_cons, Instr.fill, hp1]
        have h1 : ¬ ((v.cells.size ≠ sz || decide (off + v.cells.size > z.toArray.size)) = true) := by
          simp; omega
        rw [if_neg h1]
        have := setAt_eq off v.cells.toList 0 z
        rw [← Array.foldl_toList, Array.toList_zipIdx, this]
        exact ih ps' vs _ l hp2 (by simpa using hv) h
      · cases h

theorem places_fill {P : Program} {w : World} {t : TypeId} {parts : List (Nat × Value)} {ps : List (Nat × Nat)} {i : TypeInfo} {z : Value} {l : List Value} (hi : P.info? t = some i) (hz : i.zero = some z)
    (hps : places P t (parts.map (·.1)) = some ps) (hl : fillL z.cells.toList ps (parts.map (·.2)) = some l) : (Instr.build t parts.toArray).run P w = .ok (.agg l.toArray) w := by
  have hzz : (zeroValue t).run P w = .ok z w := by simp [zeroValue, typeInfo, hi, hz]
  have hzip : parts = (parts.map (·.1)).zip (parts.map (·.2)) := by
    clear hps hl
    induction parts with
    | nil => rfl
    | cons p ps ih => simp [← ih]
  unfold places at hps
  split at hps
  · rename_i fs hu
    simp only [Option.bind_eq_some_iff] at hps
    obtain ⟨pl, hpl, hps⟩ := hps
    simp only [Instr.build, Sem.run_bind, hzz, Result.andThen_ok, run_underlying hu]
    have hrun : ∀ (fl : List Field) (pl : List (Nat × Nat)), (fl.mapM fun f => (P.info? f.type).map fun i => (f.offset, i.size)) = some pl →
        (fl.mapM fun f => do pure (f.offset, ← sizeOf f.type) : Sem (List (Nat × Nat))).run P w = .ok pl w := by
      intro fl
      induction fl with
      | nil => intro pl h; simp at h; subst h; rfl
      | cons f fl ih =>
        intro pl h
        rw [List.mapM_cons] at h ⊢
        simp only [bind, Option.bind_eq_some_iff, pure, Option.some.injEq, Option.map_eq_some_iff] at h
        obtain ⟨p, ⟨i, hi, rfl⟩, ps', hps', rfl⟩ := h
        have := ih ps' hps'
        have e := run_sizeOf w hi
        have e2 : P.cellsOf f.type = i.size := by simp [Program.cellsOf, hi]
        simp only [Sem.run_bind, e, e2, Result.andThen_ok, Sem.run_pure, this]
    have hpl1 : (fs.mapM fun f => do pure (f.offset, ← sizeOf f.type) : Sem (Array (Nat × Nat))).run P w = .ok pl.toArray w := by
      rw [Array.mapM_eq_mapM_toList]
      simp only [Sem.run_map, hrun _ _ hpl, Result.andThen_ok]
    have := fill_run (place := (pl.toArray[·]?)) (parts.map (·.1)) ps (parts.map (·.2)) z.cells.toList l (by simpa using hps) (by simp) hl
    rw [← hzip] at this
    simp only [Array.toArray_toList] at this
    simp only [hpl1, Result.andThen_ok, this, Sem.run_pure]
  · rename_i n e hu
    obtain ⟨j, hj, rfl⟩ := Option.map_eq_some_iff.1 hps
    simp only [Instr.build, Sem.run_bind, hzz, Result.andThen_ok, run_underlying hu, run_sizeOf w hj]
    have hcj : P.cellsOf e = j.size := by simp [Program.cellsOf, hj]
    have := fill_run (place := fun i => some (i * P.cellsOf e, P.cellsOf e)) (parts.map (·.1)) _ (parts.map (·.2)) z.cells.toList l
      (by
        rw [hcj]
        generalize parts.map (·.1) = is
        induction is with
        | nil => rfl
        | cons i is ih => rw [List.mapM_cons, ih]; rfl) (by simp) hl
    rw [← hzip] at this
    simp only [Array.toArray_toList] at this
    simp [this]
  · cases hps

theorem ba_get (s : ByteArray) (n : Nat) : s[n]? = s.data[n]? := by
  by_cases h : n < s.size
  · rw [getElem?_pos s n h, getElem?_pos s.data n h]; rfl
  · rw [getElem?_neg s n h, getElem?_neg s.data n h]

theorem equal_d : ∃ d, ∀ t x y, Op.equal t x y = Op.equalIn (d + 1) t x y := ⟨9999, fun _ _ _ => rfl⟩

theorem eqN0 {P : Program} {w : World} {t e : TypeId} {d : Nat} {v : Value} {b : Bool} (hu : P.underlying t = some (.pointer e)) (h : isNil 0 v = some b) :
    (Op.equalIn (d + 1) t v (.pointer none)).run P w = .ok b w ∧ (Op.equalIn (d + 1) t (.pointer none) v).run P w = .ok b w := by
  cases v <;> simp [isNil] at h
  rename_i a
  cases a <;> simp at h <;> subst h <;> simp [Op.equalIn, run_underlying hu]
theorem eqN1 {P : Program} {w : World} {t e : TypeId} {d m n : Nat} {v : Value} {b : Bool} (hu : P.underlying t = some (.slice e)) (h : isNil 1 v = some b) :
    (Op.equalIn (d + 1) t v (.slice none m n)).run P w = .ok b w ∧ (Op.equalIn (d + 1) t (.slice none m n) v).run P w = .ok b w := by
  cases v <;> simp [isNil] at h
  rename_i a _ _
  cases a <;> simp at h <;> subst h <;> simp [Op.equalIn, run_underlying hu]
theorem eqN2 {P : Program} {w : World} {t : TypeId} {d : Nat} {v : Value} {b : Bool} {ps rs : Array TypeId} {vr : Bool} (hu : P.underlying t = some (.func ps rs vr)) (h : isNil 2 v = some b) :
    (Op.equalIn (d + 1) t v .nilFunc).run P w = .ok b w ∧ (Op.equalIn (d + 1) t .nilFunc v).run P w = .ok b w := by
  cases v <;> simp [isNil] at h <;> subst h <;> simp [Op.equalIn, run_underlying hu]
theorem eqN3 {P : Program} {w : World} {t e k : TypeId} {d : Nat} {v : Value} {b : Bool} (hu : P.underlying t = some (.map k e)) (h : isNil 3 v = some b) :
    (Op.equalIn (d + 1) t v (.map none)).run P w = .ok b w ∧ (Op.equalIn (d + 1) t (.map none) v).run P w = .ok b w := by
  cases v <;> simp [isNil] at h
  rename_i a
  cases a <;> simp at h <;> subst h <;> simp [Op.equalIn, run_underlying hu]
theorem eqN4 {P : Program} {w : World} {t : TypeId} {d : Nat} {v : Value} {b : Bool} {ms : Array (String × TypeId)} (hu : P.underlying t = some (.interface ms)) (h : isNil 4 v = some b) :
    (Op.equalIn (d + 1) t v .nilIface).run P w = .ok b w ∧ (Op.equalIn (d + 1) t .nilIface v).run P w = .ok b w := by
  cases v <;> simp [isNil] at h <;> subst h <;> simp [Op.equalIn, run_underlying hu]

set_option maxHeartbeats 1000000 in
theorem pur_bin {P : Program} {op : BinOp} {t yt : TypeId} {x y : Operand} {f : PF} {xs : List Operand} (hc : compileOp P (.binOp op t x y yt) = some (.pur f xs)) (ρ : Operand → Value) (hρ : ∀ c, ρ (.const c) = c) {v : Value} (hv : f.val (xs.map ρ) = some v)
    (dst : Option Tmp) (type : TypeId) (pos : String) (after : Array Edge) (guard : Option (Nat × Bool)) (w : World) : (execOp ρ ⟨dst, .binOp op t x y yt, type, pos, after, guard⟩).run P w = .ok (.value v) w := by
  have hbin : ∀ {op : BinOp} {x y : Operand} {v : Value}, PF.val (.bin op) [ρ x, ρ y] = some v → (execOp ρ ⟨dst, .binOp op t x y yt, type, pos, after, guard⟩).run P w = .ok (.value v) w := by
    intro op x y v hv
    simp only [PF.val] at hv
    simp [execOp, eqGuard_run hv, binV_run hv]
  have hnil : ∀ {op : BinOp} {kd : Nat} {x y : Operand} {u : TypeDesc}, (op = .eql ∨ op = .neq) → P.underlying t = some u → nilKind u = some kd → nilConst y = some kd → PF.val (.eqn (op == .neq) kd) [ρ x] = some v → 
      ((execOp ρ ⟨dst, .binOp op t x y yt, type, pos, after, guard⟩).run P w = .ok (.value v) w) ∧
      ((execOp ρ ⟨dst, .binOp op t y x yt, type, pos, after, guard⟩).run P w = .ok (.value v) w) := by
    intro op kd x y u hop hu hn hy hv
    have hys : (nilConst y).isSome := by simp [hy]
    have hyy : (kd = 0 ∧ ρ y = .pointer none ∨ (kd = 1 ∧ ∃ a b, ρ y = .slice none a b) ∨ kd = 2 ∧ ρ y = .nilFunc ∨ kd = 3 ∧ ρ y = .map none ∨ kd = 4 ∧ ρ y = .nilIface) := by
      unfold nilConst at hy
      split at hy <;> simp at hy <;> subst hy <;> simp [hρ]
    have hg1 : (eqGuard op t x y (ρ x) (ρ y)).run P w = .ok () w := eqGuard_other (fun _ _ => .inr hys) (by intro xs ys h1 h2; rcases hyy with ⟨_, h⟩ | ⟨_, _, _, h⟩ | ⟨_, h⟩ | ⟨_, h⟩ | ⟨_, h⟩ <;> simp [h] at h2)
    have hg2 : (eqGuard op t y x (ρ y) (ρ x)).run P w = .ok () w := eqGuard_other (fun _ _ => .inl hys) (by intro xs ys h1 h2; rcases hyy with ⟨_, h⟩ | ⟨_, _, _, h⟩ | ⟨_, h⟩ | ⟨_, h⟩ | ⟨_, h⟩ <;> simp [h] at h1)
    simp only [PF.val, Option.map_eq_some_iff] at hv
    obtain ⟨tt, htt, rfl⟩ := hv
    have hE : (Op.equal t (ρ x) (ρ y)).run P w = .ok tt w ∧ (Op.equal t (ρ y) (ρ x)).run P w = .ok tt w := by
      obtain ⟨d, hd⟩ := equal_d
      rw [hd, hd]
      rcases hyy with ⟨rfl, h⟩ | ⟨rfl, _, _, h⟩ | ⟨rfl, h⟩ | ⟨rfl, h⟩ | ⟨rfl, h⟩ <;> cases u <;> simp [nilKind] at hn <;> rw [h]
      · exact eqN0 hu htt
      · exact eqN1 hu htt
      · exact eqN2 hu htt
      · exact eqN3 hu htt
      · exact eqN4 hu htt
    have hB : ∀ op, (op = .eql ∨ op = .neq) → (binOp op t (ρ x) (ρ y)).run P w = .ok (.bool (if (op == .neq) = true then !tt else tt)) w ∧ (binOp op t (ρ y) (ρ x)).run P w = .ok (.bool (if (op == .neq) = true then !tt else tt)) w := by
      intro op hop
      rcases hop with rfl | rfl <;> rcases hyy with ⟨rfl, h⟩ | ⟨rfl, _, _, h⟩ | ⟨rfl, h⟩ | ⟨rfl, h⟩ | ⟨rfl, h⟩ <;> cases hx : ρ x <;> simp [hx, isNil] at htt <;> simp [h, hx] at hE <;> simp [h, hx, binOp, hE]
    simp only [execOp, Sem.run_bind, hg1, hg2, Result.andThen_ok, (hB op hop).1, (hB op hop).2, Sem.run_pure, and_self]
  have heq : (op = .eql ∨ op = .neq) → (execOp ρ ⟨dst, .binOp op t x y yt, type, pos, after, guard⟩).run P w = .ok (.value v) w := by
    intro hop
    have hc' : (match P.underlying t with
        | some (.int _) | some (.float _) | some (.complex _) | some .string => some (SOp.pur (.bin op) [x, y])
        | some .bool => some (.pur (.eqb (op == .neq)) [x, y])
        | some (.struct _) | some (.array _ _) =>
          if P.eqGuardType P.depth t then none else match flat P 40 t, P.info? t with
            | some l, some i => if i.size = l.length then some (.pur (.eqs (op == .neq) l) [x, y]) else none
            | _, _ => none
        | some u => match nilKind u with
          | some kd => if nilConst y = some kd then some (.pur (.eqn (op == .neq) kd) [x]) else if nilConst x = some kd then some (.pur (.eqn (op == .neq) kd) [y]) else none
          | none => none
        | none => none) = some (.pur f xs) := by rcases hop with rfl | rfl <;> exact hc
    have hbeq : ∀ (a b : Value) (r : Bool), (Op.equal t a b).run P w = .ok r w → (∀ op, binOp op t a b = (match op with | .eql => (do pure (.bool (← Op.equal t a b))) | .neq => (do pure (.bool (!(← Op.equal t a b)))) | _ => binOp op t a b)) →
        (binOp op t a b).run P w = .ok (.bool (if (op == .neq) = true then !r else r)) w := by
      intro a b r h1 h2
      rw [h2]
      rcases hop with rfl | rfl <;> simp [h1]
    have hagg : (if P.eqGuardType P.depth t then none else match flat P 40 t, P.info? t with
              | some l, some i => if i.size = l.length then some (SOp.pur (.eqs (op == .neq) l) [x, y]) else none
              | _, _ => none) = some (.pur f xs) → (isAgg t).run P w = .ok true w → (execOp ρ ⟨dst, .binOp op t x y yt, type, pos, after, guard⟩).run P w = .ok (.value v) w := by
      intro h ha
      split at h
      · cases h
      rename_i hgt
      split at h
      · rename_i l i hl hi
        split at h
        · rename_i hs
          simp only [Option.some.injEq, SOp.pur.injEq] at h
          obtain ⟨rfl, rfl⟩ := h
          simp only [List.map_cons, List.map_nil] at hv
          cases hx : ρ x <;> simp only [hx, PF.val] at hv <;> (try cases hv) <;> cases hy : ρ y <;> simp only [hy] at hv <;> (try cases hv)
          split at hv <;> (try cases hv)
          rename_i X Y hsz
          simp only [Option.map_eq_some_iff] at hv
          obtain ⟨r, hr, rfl⟩ := hv
          have h1 := eqs_run (w := w) hl ha hi hs hsz.1 hsz.2 hr
          have h2 := hbeq (.agg X) (.agg Y) _ h1 (by intro op; cases op <;> rfl)
          have hg : (eqGuard op t x y (.agg X) (.agg Y)).run P w = .ok () w := eqGuard_other (by simp) (by intros; simpa using hgt)
          simp only [execOp, Sem.run_bind, hx, hy, hg, h2, Result.andThen_ok, Sem.run_pure]
        · cases h
      · cases h
    have hnils : ∀ {u : TypeDesc}, (match nilKind u with
            | some kd => if nilConst y = some kd then some (SOp.pur (.eqn (op == .neq) kd) [x]) else if nilConst x = some kd then some (.pur (.eqn (op == .neq) kd) [y]) else none
            | none => none) = some (.pur f xs) → P.underlying t = some u → (execOp ρ ⟨dst, .binOp op t x y yt, type, pos, after, guard⟩).run P w = .ok (.value v) w := by
      intro u h hu
      split at h
      · rename_i kd hk
        split at h
        · simp only [Option.some.injEq, SOp.pur.injEq] at h
          obtain ⟨rfl, rfl⟩ := h
          exact (hnil hop hu hk ‹_› hv).1
        · split at h
          · simp only [Option.some.injEq, SOp.pur.injEq] at h
            obtain ⟨rfl, rfl⟩ := h
            exact (hnil hop hu hk ‹_› hv).2
          · cases h
      · cases h
    cases hu : P.underlying t with
    | none => simp [hu] at hc'
    | some u =>
      rw [hu] at hc'
      cases u with
      | int k => simp at hc'; obtain ⟨rfl, rfl⟩ := hc'; exact hbin hv
      | float k => simp at hc'; obtain ⟨rfl, rfl⟩ := hc'; exact hbin hv
      | complex k => simp at hc'; obtain ⟨rfl, rfl⟩ := hc'; exact hbin hv
      | string => simp at hc'; obtain ⟨rfl, rfl⟩ := hc'; exact hbin hv
      | bool =>
        simp at hc'; obtain ⟨rfl, rfl⟩ := hc'
        simp only [List.map_cons, List.map_nil] at hv
        cases hx : ρ x <;> simp only [hx, PF.val] at hv <;> (try cases hv) <;> cases hy : ρ y <;> simp only [hy] at hv <;> (try cases hv)
        rename_i a b
        have h1 : (Op.equal t (.bool a) (.bool b)).run P w = .ok (a == b) w := by obtain ⟨d, hd⟩ := equal_d; rw [hd]; simp [Op.equalIn, run_underlying hu]
        have h2 := hbeq (.bool a) (.bool b) _ h1 (by intro op; cases op <;> rfl)
        have hg : (eqGuard op t x y (.bool a) (.bool b)).run P w = .ok () w := eqGuard_other (by simp) (by simp)
        have h3 : (if (op == .neq) = true then !(a == b) else a == b) = (if (op == .neq) = true then !(a == b) else a == b) := rfl
        simp only [execOp, Sem.run_bind, hx, hy, hg, h2, Result.andThen_ok, Sem.run_pure]
      | struct fs => exact hagg (by simpa using hc') (by simp [isAgg, run_underlying hu])
      | array n e => exact hagg (by simpa using hc') (by simp [isAgg, run_underlying hu])
      | pointer e => exact hnils (by simpa using hc') hu
      | slice e => exact hnils (by simpa using hc') hu
      | func a b c => exact hnils (by simpa using hc') hu
      | map a b => exact hnils (by simpa using hc') hu
      | interface m => exact hnils (by simpa using hc') hu
      | _ => simp [nilKind] at hc'
  cases op with
  | eql => exact heq (.inl rfl)
  | neq => exact heq (.inr rfl)
  | _ => simp [compileOp] at hc; obtain ⟨rfl, rfl⟩ := hc; exact hbin hv

end Go.Kx
