/- Own small program logic, part g: every compiled operation is sound for the model's weakest precondition. -/
import Derived.Test.YtjdpejggafefjaaDoorKf
import Derived.MapKept
import Derived.Lib.OthersKept
import Derived.Laws.BytesArg
import Derived.Lib.ConvBytes
namespace Go.Kx
set_option linter.unusedVariables false
set_option linter.unusedSimpArgs false
open Go

theorem zip_map_snd {α β γ : Type} (l : List (α × β)) (f : β → γ) : (l.map fun (i, x) => (i, f x)) = (l.map (·.1)).zip ((l.map (·.2)).map f) := by
  induction l with
  | nil => rfl
  | cons p ps ih => simp [ih]

theorem ofFn_run {P : Program} {w : World} {v : Value} {args : Array Value} {f : FuncId} {first cap : Array Value} (hv : v = .func (.func f) first cap) (h : fnOk P f = true) :
    (do let d ← Deferred.ofValue v args; invoke d.target d.args : Sem Next).run P w = .ok (.enter f (first ++ args ++ cap)) w := by
  subst hv
  simp [Deferred.ofValue, invoke, callFunc_run h]

theorem ld_form {P : Program} {op : Op} {n : Option Nat} {x : Operand} (hc : compileOp P op = some (.ld n x)) : ∃ t, op = .load t x ∧ aggOf P t = some n := by
  cases op with
  | load t a =>
    simp only [compileOp, Option.map_eq_some_iff] at hc
    obtain ⟨k, hk, hc⟩ := hc
    simp only [SOp.ld.injEq] at hc
    obtain ⟨rfl, rfl⟩ := hc
    exact ⟨t, rfl, hk⟩
  | slice t x lo hi mx => cases mx <;> simp only [compileOp] at hc <;> (repeat' (split at hc)) <;> simp at hc
  | binOp op t x y yt => cases op <;> simp only [compileOp] at hc <;> (repeat' (split at hc)) <;> simp at hc
  | unOp u t x => cases u <;> simp [compileOp] at hc
  | makeMap t r => cases r <;> simp [compileOp] at hc
  | lookup t x i ok => cases ok <;> simp only [compileOp] at hc <;> (repeat' (split at hc)) <;> simp at hc
  | next x b => cases b <;> simp [compileOp] at hc
  | call c =>
    obtain ⟨callee, args, ats⟩ := c
    cases callee with
    | value x => cases x <;> simp only [compileOp, compCall] at hc <;> (try (split at hc)) <;> simp at hc
    | invoke _ _ => simp [compileOp, compCall] at hc
    | builtin b => simp only [compileOp, compCall] at hc; (repeat' (split at hc)) <;> simp at hc
  | _ => simp only [compileOp] at hc <;> (repeat' (split at hc)) <;> simp at hc

theorem findNow_or {u : TypeDesc} {ck : CK} (hk : ckOf u = some ck) {k : Value} : ∀ {es : List MapEntry} {i : Nat} {q : Option (Nat × MapEntry)}, findV ck k es i = some q →
    Instr.findNow u k es i = some (q.map fun p => (p.1, p.2.val)) ∨ Instr.findNow u k es i = none := by
  intro es
  induction es with
  | nil => intro i q h; simp [findV] at h; subst h; exact .inl rfl
  | cons e es ih =>
    intro i q h
    have key : ∀ b, Instr.sameNow u k e.key = some b → eqC ck k e.key = some b := by
      intro b hb
      cases u <;> simp [ckOf] at hk <;> subst hk <;> (generalize e.key = y at hb ⊢; cases k <;> cases y <;> simp_all [Instr.sameNow, eqC])
    simp only [Instr.findNow]
    cases hs : Instr.sameNow u k e.key with
    | none => exact .inr rfl
    | some b =>
      have := key b hs
      simp only [findV, this] at h
      cases b with
      | true => simp only [Option.some.injEq] at h; subst h; exact .inl rfl
      | false => exact ih h
theorem findAsking_run {P : Program} {w : World} {t : TypeId} {u : TypeDesc} {ck : CK} (hu : P.underlying t = some u) (hk : ckOf u = some ck) {k : Value} : ∀ {es : List MapEntry} {i : Nat} {q : Option (Nat × MapEntry)}, findV ck k es i = some q →
    (Instr.findAsking t k es i).run P w = .ok (q.map fun p => (p.1, p.2.val)) w := by
  intro es
  induction es with
  | nil => intro i q h; simp [findV] at h; subst h; simp [Instr.findAsking]
  | cons e es ih =>
    intro i q h
    obtain ⟨d, hd⟩ := equal_d
    simp only [findV] at h
    cases hb : eqC ck k e.key with
    | none => rw [hb] at h; cases h
    | some b =>
      rw [hb] at h
      have hr := eqC_run (P := P) (w := w) hu hk hb d
      simp only [Instr.findAsking, hd, Sem.run_bind, hr, Result.andThen_ok]
      cases b with
      | true => simp only [Option.some.injEq] at h; subst h; simp
      | false => simpa using ih h
theorem keyCk_spec {P : Program} {t : TypeId} {ck : CK} (h : keyCk P t = some ck) : ∃ u, P.underlying t = some u ∧ ckOf u = some ck ∧ ((∃ k, u = .int k) ∨ (∃ k, u = .complex k) ∨ u = .string) := by
  unfold keyCk at h
  split at h
  · exact ⟨_, ‹_›, h, .inl ⟨_, rfl⟩⟩
  · exact ⟨_, ‹_›, h, .inr (.inl ⟨_, rfl⟩)⟩
  · exact ⟨_, ‹_›, h, .inr (.inr rfl)⟩
  · cases h
theorem findKey_run {P : Program} {w : World} {t : TypeId} {ck : CK} (hc : keyCk P t = some ck) {k : Value} {es : List MapEntry} {q : Option (Nat × MapEntry)} (h : findV ck k es 0 = some q) :
    (Instr.findKey t k es).run P w = .ok (q.map fun p => (p.1, p.2.val)) w := by
  obtain ⟨u, hu, hk, _⟩ := keyCk_spec hc
  simp only [Instr.findKey, Sem.run_bind, run_underlying hu, Result.andThen_ok]
  rcases findNow_or hk h with e | e
  · rw [e]; simp
  · rw [e]; exact findAsking_run hu hk h
theorem checkKey_run {P : Program} {w : World} {t : TypeId} {ck : CK} (hc : keyCk P t = some ck) (em : Bool) (k : Value) : (Instr.checkKey em 10000 t k).run P w = .ok () w := by
  obtain ⟨u, hu, _, h⟩ := keyCk_spec hc
  have key : ∀ n, (Instr.checkKey em (n + 1) t k).run P w = .ok () w := by
    intro n
    rcases h with ⟨j, rfl⟩ | ⟨j, rfl⟩ | rfl <;> simp [Instr.checkKey, run_underlying hu]
  exact key 9999
theorem getObj_run {P : Program} {w : World} {r : Nat} {en : Array MapEntry} {c : Nat} (h : w.heap[r]? = some (.map en c)) : (getObj r).run P w = .ok (.map en c) w := MapKept.run_getObj_map h
theorem setObj_run {P : Program} {w : World} {r : Nat} {en : Array MapEntry} {c : Nat} (o : Obj) (h : w.heap[r]? = some (.map en c)) : (setObj r o).run P w = .ok () { w with heap := w.heap.setIfInBounds r o } := MapKept.run_setObj_map o h
theorem findV_get {ck : CK} {k : Value} : ∀ {es : List MapEntry} {i j : Nat} {e : MapEntry}, findV ck k es i = some (some (j, e)) → i ≤ j ∧ es[j - i]? = some e := by
  intro es
  induction es with
  | nil => intro i j e h; simp [findV] at h
  | cons x es ih =>
    intro i j e h
    simp only [findV] at h
    split at h
    · simp only [Option.some.injEq, Prod.mk.injEq] at h
      obtain ⟨rfl, rfl⟩ := h
      simp
    · obtain ⟨h1, h2⟩ := ih h
      refine ⟨by omega, ?_⟩
      rw [show j - i = (j - (i + 1)) + 1 by omega]
      simpa using h2
    · cases h
theorem keyStays_run {P : Program} {w : World} {a b : Value} (h : Instr.sameBits 10000 a b = true) : (Instr.keyThatStays a b).run P w = .ok b w := by
  simp [Instr.keyThatStays, h]
theorem mup_run {P : Program} {w : World} {t kt et : TypeId} {ck : CK} (ht : P.underlying t = some (.map kt et)) (hc : keyCk P kt = some ck) {m k v : Value} {K : Value → Heap → Prop} (h : (EF.mup ck).wp P [m, k, v] w.heap K) :
    ∃ w', (Instr.mapUpdate t m k v).run P w = .ok () w' ∧ K undef w'.heap ∧ Same w w' := by
  cases m with
  | map o =>
    cases o with
    | none => exact h.elim
    | some r =>
      obtain ⟨en, clock, hr, h⟩ := h
      rcases h with ⟨i, e, hf, hs, hk⟩ | ⟨hf, hk⟩
      · refine ⟨{ w with heap := w.heap.setIfInBounds r (.map (en.modify i fun e => { e with key := k, val := v }) clock) }, ?_, hk, ⟨rfl, rfl, rfl, .set _ hr rfl⟩⟩
        obtain ⟨_, hg⟩ := findV_get hf
        have hg' : en[i]? = some e := by simpa using hg
        simp only [Instr.mapUpdate, Sem.run_bind, run_underlying ht, Result.andThen_ok, getObj_run hr, checkKey_run hc, findKey_run hc hf, Option.map_some, hg', Option.getD_some, keyStays_run hs, setObj_run _ hr]
      · refine ⟨{ w with heap := w.heap.setIfInBounds r (.map (en.push { key := k, val := v, born := clock }) (clock + 1)) }, ?_, hk, ⟨rfl, rfl, rfl, .set _ hr rfl⟩⟩
        simp only [Instr.mapUpdate, Sem.run_bind, run_underlying ht, Result.andThen_ok, getObj_run hr, checkKey_run hc, findKey_run hc hf, Option.map_none, setObj_run _ hr]
  | _ => exact h.elim
theorem mlk_run {P : Program} {w : World} {t kt et : TypeId} {ck : CK} {j : TypeInfo} {z : Value} (ht : P.underlying t = some (.map kt et)) (hc : keyCk P kt = some ck) (hj : P.info? et = some j) (hz : j.zero = some z) {m k : Value} {K : Value → Heap → Prop} (h : (EF.mlk ck z).wp P [m, k] w.heap K) :
    ∃ v, (Instr.lookup t m k false).run P w = .ok v w ∧ K v w.heap := by
  cases m with
  | map o =>
    cases o with
    | none => exact h.elim
    | some r =>
      obtain ⟨en, clock, hr, q, hf, hk⟩ := h
      refine ⟨_, ?_, hk⟩
      cases q with
      | none => simp [Instr.lookup, run_underlying ht, getObj_run hr, checkKey_run hc, findKey_run hc hf, zeroValue, typeInfo, hj, hz, Result.andThen]
      | some p => simp [Instr.lookup, run_underlying ht, getObj_run hr, checkKey_run hc, findKey_run hc hf, Result.andThen]
  | _ => exact h.elim

theorem nxt_run {P : Program} {w : World} {x : Value} {ty : TypeId} {K : Value → Heap → Prop} (h : EF.nxt.wp P [x] w.heap K) : ∃ v w', (Instr.next x true ty).run P w = .ok v w' ∧ K v w'.heap ∧ Same w w' := by
  cases x with
  | pointer o =>
    cases o with
    | none => exact h.elim
    | some a =>
      obtain ⟨b, off, spot⟩ := a
      cases off with
      | succ n => cases spot <;> exact h.elim
      | zero =>
        cases spot with
        | some _ => exact h.elim
        | none =>
          obtain ⟨s, pos, hr, h⟩ := h
          by_cases hp : pos < s.size
          · rw [if_pos hp] at h
            exact ⟨_, _, Lib.run_next_any_at w b s pos ty hr hp, h, ⟨rfl, rfl, rfl, .set _ hr rfl⟩⟩
          · rw [if_neg hp] at h
            exact ⟨_, _, Lib.run_next_end_at w b s pos ty hr hp, h, Same.refl w⟩
  | _ => exact h.elim
theorem b2s_run {P : Program} {w : World} {s t e : TypeId} (hs : P.underlying s = some (.slice e)) (he : P.underlying e = some (.int .u8)) (ht : P.underlying t = some .string) {x : Value} {K : Value → Heap → Prop} (h : EF.b2s.wp P [x] w.heap K) :
    ∃ v, (convert s t x).run P w = .ok v w ∧ K v w.heap := by
  obtain ⟨n, bs, ⟨a, c, rfl⟩, hsrc, hk⟩ := h
  refine ⟨_, ?_, hk⟩
  rw [run_convert_bytes_string w s t e a n c hs he ht]
  obtain ⟨_, _, h2⟩ := src_run (P := P) (w := w) hsrc
  cases a with
  | none =>
    simp only [srcV, Option.some.injEq, Prod.mk.injEq, true_and] at hsrc
    have : bs = [] := by cases bs with | nil => rfl | cons => simp at hsrc
    subst this
    simp [Conv.bytesToString]
    rfl
  | some a =>
    have h3 : (loadCells a n).run P w = .ok ((bs.map fun b => (b.toNat : Int)).map (Value.int .u8)).toArray w := by
      have := h2
      simp only [Builtin.firstCells, Nat.mul_one] at this
      rw [this]
      simp [List.map_map, Function.comp_def]
    rw [run_bytesToString w a n c _ h3, foldl_push_bytes]
    simp [ByteArray.empty, ByteArray.emptyWithCapacity, List.map_map, Function.comp_def]
    rfl
theorem rep_one (v : Value) (n : Nat) : rep [v] n = List.replicate n v := by
  unfold rep
  induction n with
  | zero => rfl
  | succ n ih => rw [List.replicate_succ, List.flatten_cons, ih, List.replicate_succ]; rfl
theorem s2b_heap (w : World) (e : TypeId) (s : ByteArray) (hc : s.size ≤ grownCap w s.size 0 e) :
    (Lib.bytesWorld w e s).heap = w.heap.push (.cells ((s.data.toList.map fun b => Value.int .u8 b.toNat) ++ rep [.int .u8 0] (grownCap w s.size 0 e - s.size)).toArray e (grownCap w s.size 0 e, grownCap w s.size 0 e + 1)) := by
  have e1 : Lib.bytesCells w e s = ((s.data.toList.map fun b => Value.int .u8 b.toNat) ++ rep [.int .u8 0] (grownCap w s.size 0 e - s.size)).toArray := by
    apply Array.toList_inj.1
    simp [Lib.bytesCells, rep_one]
  have e2 : (Lib.bytesCells w e s).size = grownCap w s.size 0 e := by
    have : s.data.size = s.size := rfl
    simp [Lib.bytesCells]
    omega
  apply Array.ext_getElem?
  intro j
  rcases Nat.lt_trichotomy j w.heap.size with h | h | h
  · rw [Lib.bytesWorld_at_old w e s j h, Array.getElem?_push, if_neg (by omega)]
  · subst h
    rw [Lib.bytesWorld_at_new, e2, e1]
    simp
  · rw [Array.getElem?_eq_none (by rw [Lib.bytesWorld_size]; omega), Array.getElem?_eq_none (by simp; omega)]
theorem grown_cut (w : World) (n : Nat) (e : TypeId) (h : n ≤ 9223372036854775807) : n ≤ grownCap w n 0 e ∧ grownCap w n 0 e < 9223372036854775808 := by
  simp only [grownCap, Question.cut]
  have := Nat.mod_lt (w.tape w.drawn (.appendCap n 0 e)) (show 0 < 2 ^ 63 - n by omega)
  omega
theorem s2b_run {P : Program} {w : World} {s t e : TypeId} (hs : P.underlying s = some .string) (ht : P.underlying t = some (.slice e)) (he : P.underlying e = some (.int .u8)) {x : Value} {K : Value → Heap → Prop} (h : (EF.s2b e).wp P [x] w.heap K) :
    ∃ v w', (convert s t x).run P w = .ok v w' ∧ K v w'.heap ∧ Same w w' := by
  cases x with
  | string b =>
    obtain ⟨h1, hk⟩ := h
    obtain ⟨c1, c2⟩ := grown_cut w b.size e h1
    have eh := s2b_heap w e b c1
    refine ⟨_, _, Lib.run_convert_string_bytes w s t e b hs ht he, ?_, rfl, rfl, rfl, ?_⟩
    · rw [eh]; exact hk _ c1 c2
    · rw [eh]; exact .push _ _
  | _ => exact h.elim
theorem cpy_run {P : Program} {w : World} {t u e e' : TypeId} {i : TypeInfo} {x y : Value} {ty : TypeId} {K : Value → Heap → Prop} (ht : P.underlying t = some (.slice e)) (hi : P.info? e = some i)
    (h : (EF.cpy i.size).wp P [x, y] w.heap K) : ∃ v w', (Builtin.copy_ #[t, u] ty #[x, y]).run P w = .ok v w' ∧ K v w'.heap ∧ Same w w' := by
  have hc : P.cellsOf e = i.size := by simp [Program.cellsOf, hi]
  cases x with
  | slice d n cap =>
    cases y with
    | slice a m cap2 =>
      obtain ⟨l, h1, h2⟩ := h
      have hl : (Builtin.firstCells i.size (min m n) (.slice a m cap2)).run P w = .ok l.toArray w := by
        cases a with
        | none => simp only [cpyV] at h1; subst h1; simp [Builtin.firstCells]
        | some a =>
          obtain ⟨b, off, spot⟩ := a
          cases spot with
          | some _ => simp only [cpyV] at h1; obtain ⟨h1, rfl⟩ := h1; simp [Builtin.firstCells, h1, loadCells, loadCellsFrom]
          | none => simp only [cpyV] at h1; simp [Builtin.firstCells, loadCells_run h1]
      cases d with
      | none => exact ⟨_, w, by simp [Builtin.copy_, run_underlying ht, run_sizeOf w hi, hc, Builtin.lenOf, hl, goInt], h2, Same.refl w⟩
      | some d =>
        obtain ⟨b, off, spot⟩ := d
        cases spot with
        | some _ => exact h2.elim
        | none =>
          obtain ⟨h', hst, hk⟩ := h2
          have := stL_run (P := P) l w b off 0 h' hst
          exact ⟨_, { w with heap := h' }, by simp [Builtin.copy_, run_underlying ht, run_sizeOf w hi, hc, Builtin.lenOf, hl, goInt, this], hk, same_heap w (stL_keep hst)⟩
    | _ => exact h.elim
  | _ => exact h.elim

/-- The fence: no bound; in a round of a range over a function, or in none. -/
def FN : Option Nat → Fence
  | none => Fence.wide
  | some l => Fence.wide.inRound l
theorem FN_fn (r : Option Nat) (f : FuncId) : (FN r).fn f := by cases r <;> trivial
theorem FN_depth (r : Option Nat) : (FN r).depth = none := by cases r <;> rfl
theorem FN_round (r : Option Nat) : (FN r).round = r := by cases r <;> rfl
theorem FN_calls {r : Option Nat} {n : Nat} {P : Program} {f : FuncId} {args : Array Value} {w : World} {R : Ending → World → Prop} (h : Calls P f args w R) : CallsIn (FN r) n P f args w R := by
  cases r with
  | none => exact callsIn_wide.2 h
  | some l => exact (callsIn_wide.2 h : CallsIn Fence.wide n P f args w R)
theorem FN_rounds {r : Option Nat} {n m : Nat} {P : Program} {l : Nat} {f : FuncId} {tmps : Array Value} {ca cb : Code} {w : World} {R : Ending → World → Prop} (h : RoundIn Fence.wide m P l f tmps ca cb w R) : RoundIn (FN r) n P l f tmps ca cb w R := by
  have key : RoundIn Fence.wide n P l f tmps ca cb w R := ⟨h.1, fun c cs _ => h.2 c cs (room_wide _)⟩
  cases r with
  | none => exact key
  | some l => exact key
theorem comp_nd {P : Program} {op : Op} {s : SOp} (h : compileOp P op = some s) : ∀ c, op ≠ .defer c := by
  rintro c rfl
  simp [compileOp] at h
section
variable {P : Program} {op : Op} {dst : Option Tmp} {type : TypeId} {pos : String} {after : Array Edge} {guard : Option (Nat × Bool)} {r : Option Nat} {n : Nat} {a : Act} {w w' : World} {next : Act → World → Prop} {Q : Exit → Act → World → Prop}
theorem wpIn_ok (hnd : ∀ c, op ≠ .defer c) {v : Value} (he : (execOp a.eval ⟨dst, op, type, pos, after, guard⟩).run P w = .ok (.value v) w') (hk : next (a.put dst v) w') : Oper.wpIn (FN r) n P ⟨dst, op, type, pos, after, guard⟩ a w next Q :=
  ⟨fun f _ => FN_fn r f, by rw [Oper.semAt_eq _ _ _ hnd, he]; exact hk⟩
theorem wpIn_skp (hnd : ∀ c, op ≠ .defer c) (he : (execOp a.eval ⟨dst, op, type, pos, after, guard⟩).run P w = .ok .skip w') (hk : next (a.put dst undef) w') : Oper.wpIn (FN r) n P ⟨dst, op, type, pos, after, guard⟩ a w next Q :=
  ⟨fun f _ => FN_fn r f, by rw [Oper.semAt_eq _ _ _ hnd, he]; exact hk⟩
theorem wpIn_ent (hnd : ∀ c, op ≠ .defer c) {f : FuncId} {args : Array Value} (he : (execOp a.eval ⟨dst, op, type, pos, after, guard⟩).run P w = .ok (.enter f args) w')
    (hk : Calls P f args w' fun e w'' => match e with | .returned v => next (a.put dst v) w'' | .panicked chain => Q (.panic chain) a w'' | .outgrown => LetsOut Q) : Oper.wpIn (FN r) n P ⟨dst, op, type, pos, after, guard⟩ a w next Q :=
  ⟨fun f _ => FN_fn r f, by rw [Oper.semAt_eq _ _ _ hnd, he]; exact ⟨fun h => (by rw [FN_depth] at h; cases h), FN_calls (hk.mono fun e w'' h => by cases e <;> exact h)⟩⟩
theorem wpIn_rnd (hnd : ∀ c, op ≠ .defer c) {l : Nat} {f : FuncId} {tmps : Array Value} {ca cb : Code} {m : Nat} (hr : (execOp a.eval ⟨dst, op, type, pos, after, guard⟩).run P w = .ok (.round l f tmps ca cb) w')
    (hk : RoundIn Fence.wide m P l f tmps ca cb w' fun e w'' => match e with | .returned v => next (a.put dst v) w'' | .panicked chain => Q (.panic chain) a w'' | .outgrown => LetsOut Q) : Oper.wpIn (FN r) n P ⟨dst, op, type, pos, after, guard⟩ a w next Q :=
  ⟨fun f _ => FN_fn r f, by rw [Oper.semAt_eq _ _ _ hnd, hr]; exact ⟨fun h => (by rw [FN_depth] at h; cases h), FN_rounds (hk.mono fun e w'' h => by cases e <;> exact h)⟩⟩
end

set_option maxHeartbeats 1000000 in
theorem op_sound {P : Program} {op : Op} {s : SOp} (hc : compileOp P op = some s) {dst : Option Tmp} {type : TypeId} {pos : String} {after : Array Edge} {guard : Option (Nat × Bool)}
    {r : Option Nat} {n : Nat} {a : Act} {w : World} {ε : Env} {K : Value → Heap → Prop} {Q : Exit → Act → World → Prop} {next : Act → World → Prop}
    (hev : ∀ x ∈ s.opds, a.eval x = ev ε x) (h : s.wp P ε w.heap K) (hn : ∀ v w', K v w'.heap → Same w w' → next (a.put dst v) w') :
    Oper.wpIn (FN r) n P ⟨dst, op, type, pos, after, guard⟩ a w next Q := by
  have hnd : ∀ c, op ≠ .defer c := comp_nd hc
  have hm : ∀ xs : List Operand, (∀ x ∈ xs, a.eval x = ev ε x) → xs.map (ev ε) = xs.map a.eval := by
    intro xs hx
    exact List.map_congr_left fun x hx' => (hx x hx').symm
  have hval : ∀ v w', (execOp a.eval ⟨dst, op, type, pos, after, guard⟩).run P w = .ok (.value v) w' → K v w'.heap → Same w w' → Oper.wpIn (FN r) n P ⟨dst, op, type, pos, after, guard⟩ a w next Q := by
    intro v w' he hk hs
    exact wpIn_ok hnd he (hn v w' hk hs)
  cases s with
  | pur f xs =>
    obtain ⟨v, hv, hk⟩ := h
    rw [hm xs hev] at hv
    exact hval v w (pur_run hc a.eval (fun _ => rfl) hv dst type pos after guard w) hk (Same.refl w)
  | ld n x =>
    obtain ⟨v, hv, hk⟩ := h
    have hx := hev x (by simp [SOp.opds])
    obtain ⟨t, rfl, ha⟩ := ld_form hc
    refine hval v w ?_ hk (Same.refl w)
    rw [← hx] at hv
    simp [execOp, ld_run ha hv]
  | eff e xs =>
    have hx := hm xs hev
    simp only [SOp.wp, hx] at h
    cases op with
    | alloc T =>
      cases hi : P.info? T with
      | none => simp [compileOp, hi] at hc
      | some i =>
        cases hz : i.zero with
        | none => simp [compileOp, hi, hz] at hc
        | some z =>
          simp [compileOp, hi, hz] at hc
          obtain ⟨rfl, rfl⟩ := hc
          refine hval (.pointer (some ⟨w.heap.size, 0, none⟩)) (w.alloc (.cells z.cells T (0, 0))) ?_ (by have h := h; simp [EF.wp] at h; exact h) ⟨rfl, rfl, rfl, .push _ _⟩
          simp [execOp, Instr.alloc, zeroValue, typeInfo, hi, hz, newVar, newRow]
    | box T x =>
      simp [compileOp] at hc
      obtain ⟨rfl, rfl⟩ := hc
      refine hval (.pointer (some ⟨w.heap.size, 0, none⟩)) (w.alloc (.cells (a.eval x).cells T (0, 0))) ?_ (by have h := h; simp [EF.wp] at h; exact h) ⟨rfl, rfl, rfl, .push _ _⟩
      simp [execOp, Instr.box, newVar, newRow]
    | store t ad x =>
      cases hi : P.info? t with
      | none => simp [compileOp, hi] at hc
      | some i =>
        simp [compileOp, hi] at hc
        obtain ⟨rfl, rfl⟩ := hc
        simp only [List.map_cons, List.map_nil] at h
        cases had : a.eval ad with
        | pointer o =>
          rw [had] at h
          cases o with
          | none => exact h.elim
          | some ap =>
            obtain ⟨b, off, spot⟩ := ap
            cases spot with
            | some _ => exact h.elim
            | none =>
              obtain ⟨hsz, h', hst, hk⟩ := h
              have := stL_run (P := P) (a.eval x).cells.toList w b off 0 h' hst
              have hr : (execOp a.eval ⟨dst, .store t ad x, type, pos, after, guard⟩).run P w = .ok .skip { w with heap := h' } := by
                have hcs : P.cellsOf t = i.size := by simp [Program.cellsOf, hi]
                simp [execOp, Instr.storeAt, had, Instr.sureAddr, storeVar, run_sizeOf w hi, hcs, hsz, this]
              refine wpIn_skp hnd hr ?_
              exact hn undef { w with heap := h' } hk ⟨rfl, rfl, rfl, stL_keep hst⟩
        | _ => rw [had] at h; exact h.elim
    | buildSlice t len parts =>
      simp only [compileOp] at hc
      split at hc
      · rename_i e' i z hE
        split at hc
        · rename_i hp
          simp only [Option.some.injEq, SOp.eff.injEq] at hc
          obtain ⟨rfl, rfl⟩ := hc
          simp only [EF.wp, List.map_map] at h
          obtain ⟨hv, hk⟩ := h
          have hlen : parts.toList.length = len := by have := congrArg List.length hp.1; simpa using this
          have hzip := zip_map_snd parts.toList a.eval
          rw [hp.1] at hzip
          have hl2 : (List.map (a.eval ∘ fun x => x.2) parts.toList).length = len := by simpa using hlen
          have := bsl_run (w := w) (vs := (parts.toList.map (·.2)).map a.eval) hE (by simpa [hlen] using hp.2) (by simpa using hv)
          simp only [List.length_map, hlen, ← hzip] at this
          have e2 : (parts.toList.map fun (i, x) => (i, a.eval x)).toArray = parts.map fun (i, x) => (i, a.eval x) := by apply Array.ext'; simp
          rw [e2] at this
          rw [hl2] at hk
          refine hval _ _ ?_ (by simpa using hk) (same_heap w (.push _ _))
          simp only [execOp, this, Sem.run_bind, Result.andThen_ok, Sem.run_pure, List.map_map]
        · cases hc
      · cases hc
    | makeSlice t l c =>
      simp only [compileOp, Option.map_eq_some_iff] at hc
      obtain ⟨⟨e', i, z⟩, hE, hc⟩ := hc
      simp only [SOp.eff.injEq] at hc
      obtain ⟨rfl, rfl⟩ := hc
      simp only [List.map_cons, List.map_nil] at h
      cases hl : a.eval l <;> simp only [hl] at h <;> (try exact h.elim) <;> cases hcc : a.eval c <;> simp only [hcc] at h <;> (try exact h.elim)
      obtain ⟨h0, h1, h2, h3, hk⟩ := h
      rename_i n1 k2 n2
      refine hval _ { w with heap := w.heap.push (.cells (rep z n2.toNat).toArray e' (0, 0)) } ?_ hk (same_heap w (.push _ _))
      simp only [execOp, hl, hcc, Sem.run_bind, mks_run hE h0 h1 h2 h3, Result.andThen_ok, Sem.run_pure]
    | call c =>
      obtain ⟨callee, args, ats⟩ := c
      have hargs : ∀ l, args.toList = l → args = l.toArray := by intro l h; rw [← h]
      simp only [compileOp] at hc
      cases callee with
      | invoke _ _ => simp [compCall] at hc
      | value f =>
        have hcallv : ∀ (vs : List Value), (EF.callv).wp P (a.eval f :: vs) w.heap K → vs = args.toList.map a.eval → Oper.wpIn (FN r) n P ⟨dst, .call ⟨.value f, args, ats⟩, type, pos, after, guard⟩ a w next Q := by
          intro vs h hvs
          cases hf : a.eval f with
          | func fn first cap =>
            rw [hf] at h
            cases fn with
            | func fi =>
              obtain ⟨hok, hcall⟩ := h
              have hr : (execOp a.eval ⟨dst, .call ⟨.value f, args, ats⟩, type, pos, after, guard⟩).run P w = .ok (.enter fi (first ++ vs.toArray ++ cap)) w := by
                have := ofFn_run (P := P) (w := w) (args := args.map a.eval) hf hok
                have e1 : args.map a.eval = vs.toArray := by rw [hvs]; apply Array.ext'; simp
                rw [e1] at this
                simpa [execOp, resolve, e1] using this
              refine wpIn_ent hnd hr ((hcall w rfl).mono ?_)
              rintro e w' ⟨v, rfl, hk, hs⟩
              exact hn v w' hk hs
            | yield l =>
              obtain ⟨rfl, rfl, hy⟩ := h
              obtain ⟨fn, tmps, ca, cb, hr, hR⟩ := hy w rfl
              have e1 : args.map a.eval = vs.toArray := by rw [hvs]; apply Array.ext'; simp
              refine wpIn_rnd hnd (hr := ?_) (hR.mono ?_)
              · simp [execOp, resolve, hf, Deferred.ofValue, invoke, e1, hr]
              · rintro e w' ⟨v, rfl, hk, hs⟩
                exact hn v w' hk hs
            | _ => exact h.elim
          | _ => rw [hf] at h; exact h.elim
        cases f with
        | func fi =>
          simp only [compCall] at hc
          split at hc
          · rename_i hok
            simp only [Option.some.injEq, SOp.eff.injEq] at hc
            obtain ⟨rfl, rfl⟩ := hc
            refine hcallv _ ?_ rfl
            refine ⟨hok, ?_⟩
            simpa [EF.wp, Act.eval] using h
          · cases hc
        | tmp t => simp only [compCall, Option.some.injEq, SOp.eff.injEq] at hc; obtain ⟨rfl, rfl⟩ := hc; exact hcallv _ h rfl
        | const t => simp only [compCall, Option.some.injEq, SOp.eff.injEq] at hc; obtain ⟨rfl, rfl⟩ := hc; exact hcallv _ h rfl
        | global t => simp only [compCall, Option.some.injEq, SOp.eff.injEq] at hc; obtain ⟨rfl, rfl⟩ := hc; exact hcallv _ h rfl
      | builtin b =>
        simp only [compCall] at hc
        split at hc
        · split at hc <;> simp at hc
        · split at hc <;> simp at hc
        · simp at hc
        · simp at hc
        · rename_i x y t u ha ht
          have e1 := hargs _ ha
          subst e1
          have e2 : ats = [t, u].toArray := by rw [← ht]
          subst e2
          have key : ∀ {e' i z}, elemInfo P t = some (e', i, z) → ((∃ e', P.underlying u = some (.slice e')) ∨ P.underlying u = some .string) → (EF.app e' i.size i.bytes z).wp P [a.eval x, a.eval y] w.heap K →
              Oper.wpIn (FN r) n P ⟨dst, .call ⟨.builtin .append, [x, y].toArray, [t, u].toArray⟩, type, pos, after, guard⟩ a w next Q := by
            intro e' i z hE hu h
            cases hx : a.eval x with
            | slice base n cap =>
              rw [hx] at h
              obtain ⟨v, w', hr, hk, hs⟩ := app_run (ty := type) hE hu h
              refine hval v w' ?_ hk hs
              simp [execOp, resolve, invoke, builtin, hx, hr]
            | _ => rw [hx] at h; exact h.elim
          split at hc
          · simp only [Option.some.injEq, SOp.eff.injEq] at hc
            obtain ⟨rfl, rfl⟩ := hc
            exact key ‹_› (.inl ⟨_, ‹_›⟩) h
          · split at hc
            · simp only [Option.some.injEq, SOp.eff.injEq] at hc
              obtain ⟨rfl, rfl⟩ := hc
              exact key ‹_› (.inr ‹_›) h
            · cases hc
          · cases hc
        · simp at hc
        · simp at hc
        · simp at hc
        · rename_i x y t u ha ht
          have e1 := hargs _ ha
          subst e1
          have e2 : ats = [t, u].toArray := by rw [← ht]
          subst e2
          split at hc
          · rename_i e' e2 ht' hu'
            simp only [Option.map_eq_some_iff, SOp.eff.injEq] at hc
            obtain ⟨i, hi, rfl, rfl⟩ := hc
            simp only [List.map_cons, List.map_nil] at h
            obtain ⟨v, w', hr, hk, hs⟩ := cpy_run (u := u) (ty := type) (e' := e') ht' hi h
            exact hval v w' (by simp [execOp, resolve, invoke, builtin, hr]) hk hs
          · cases hc
        · cases hc
    | slice t x lo hi mx => cases mx <;> simp only [compileOp] at hc <;> (repeat' (split at hc)) <;> simp at hc
    | binOp op t x y yt => cases op <;> simp only [compileOp] at hc <;> (repeat' (split at hc)) <;> simp at hc
    | unOp u t x => cases u <;> simp [compileOp] at hc
    | makeMap t r =>
      cases r with
      | some _ => simp [compileOp] at hc
      | none =>
        simp only [compileOp, Option.some.injEq, SOp.eff.injEq] at hc
        obtain ⟨rfl, rfl⟩ := hc
        refine hval (.map (some w.heap.size)) (w.alloc (.map #[] 0)) ?_ (by have h := h; simp [EF.wp] at h; exact h) ⟨rfl, rfl, rfl, .push _ _⟩
        simp [execOp, Instr.makeMap]
    | mapUpdate t m k x =>
      simp only [compileOp] at hc
      split at hc
      · rename_i kt et ht
        simp only [Option.map_eq_some_iff, SOp.eff.injEq] at hc
        obtain ⟨ck, hck, rfl, rfl⟩ := hc
        obtain ⟨w', hr, hk, hs⟩ := mup_run ht hck h
        have hr2 : (execOp a.eval ⟨dst, .mapUpdate t m k x, type, pos, after, guard⟩).run P w = .ok .skip w' := by simp [execOp, hr]
        exact wpIn_skp hnd hr2 (hn undef w' hk hs)
      · cases hc
    | insert t m k x =>
      simp only [compileOp] at hc
      split at hc
      · rename_i kt et ht
        simp only [Option.map_eq_some_iff, SOp.eff.injEq] at hc
        obtain ⟨ck, hck, rfl, rfl⟩ := hc
        obtain ⟨w', hr, hk, hs⟩ := mup_run ht hck h
        have hr2 : (execOp a.eval ⟨dst, .insert t m k x, type, pos, after, guard⟩).run P w = .ok .skip w' := by simp [execOp, hr]
        exact wpIn_skp hnd hr2 (hn undef w' hk hs)
      · cases hc
    | lookup t x i ok =>
      cases ok with
      | true => simp [compileOp] at hc
      | false =>
        simp only [compileOp] at hc
        split at hc
        · rename_i kt et ht
          split at hc
          · rename_i ck j hck hj
            simp only [Option.map_eq_some_iff, SOp.eff.injEq] at hc
            obtain ⟨z, hz, rfl, rfl⟩ := hc
            obtain ⟨v, hr, hk⟩ := mlk_run ht hck hj hz h
            exact hval v w (by simp [execOp, hr]) hk (Same.refl w)
          · cases hc
        · cases hc
    | range t x =>
      simp only [compileOp] at hc
      split at hc
      · rename_i ht
        simp only [Option.some.injEq, SOp.eff.injEq] at hc
        obtain ⟨rfl, rfl⟩ := hc
        simp only [List.map_cons, List.map_nil] at h
        cases hx2 : a.eval x with
        | string s =>
          rw [hx2] at h
          refine hval (.pointer (some ⟨w.heap.size, 0, none⟩)) (w.alloc (.stringIter s 0)) ?_ (by have h := h; simp [EF.wp] at h; exact h) ⟨rfl, rfl, rfl, .push _ _⟩
          simp [execOp, Instr.range, run_underlying ht, hx2, newObj]
          rfl
        | _ => rw [hx2] at h; exact h.elim
      · cases hc
    | next x b =>
      cases b with
      | false => simp [compileOp] at hc
      | true =>
        simp only [compileOp, Option.some.injEq, SOp.eff.injEq] at hc
        obtain ⟨rfl, rfl⟩ := hc
        simp only [List.map_cons, List.map_nil] at h
        obtain ⟨v, w', hr, hk, hs⟩ := nxt_run (P := P) (ty := type) h
        exact hval v w' (by simp [execOp, hr]) hk hs
    | convert s t x =>
      simp only [compileOp] at hc
      split at hc <;> (try (split at hc)) <;> simp at hc
      · obtain ⟨rfl, rfl⟩ := hc
        rename_i hs ht _ he
        simp only [List.map_cons, List.map_nil] at h
        obtain ⟨v, hr, hk⟩ := b2s_run hs he ht h
        exact hval v w (by simp [execOp, hr]) hk (Same.refl w)
      · obtain ⟨rfl, rfl⟩ := hc
        rename_i hs ht _ he
        simp only [List.map_cons, List.map_nil] at h
        obtain ⟨v, w', hr, hk, hsm⟩ := s2b_run hs ht he h
        exact hval v w' (by simp [execOp, hr]) hk hsm
    | panic x =>
      simp only [compileOp, Option.some.injEq, SOp.eff.injEq] at hc
      obtain ⟨rfl, rfl⟩ := hc
      exact (by have h := h; simp [EF.wp] at h)
    | _ => simp only [compileOp] at hc <;> (repeat' (split at hc)) <;> simp at hc

end Go.Kx
