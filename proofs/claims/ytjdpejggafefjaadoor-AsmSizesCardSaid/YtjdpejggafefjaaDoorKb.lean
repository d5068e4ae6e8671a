/- Own small program logic, part b: operations: loads, effects, calls; compilation of an operation. -/
import Derived.Test.YtjdpejggafefjaaDoorKa
import Derived.RangeFuncFrom
namespace Go.Kx
set_option linter.unusedVariables false
set_option linter.unusedSimpArgs false
open Go

/-- The records of ranges over functions, and the blocks for their deferred calls: they stay. -/
def isLD : Obj → Bool
  | .loop _ => true
  | .deferred _ => true
  | _ => false
def KeepD (h h' : Heap) : Prop := h.size ≤ h'.size ∧ ∀ (b : Nat) (o : Obj), h[b]? = some o → isLD o = true → h'[b]? = some o
theorem KeepD.refl (h : Heap) : KeepD h h := ⟨Nat.le_refl _, fun _ _ e _ => e⟩
theorem KeepD.trans {a b c : Heap} (h : KeepD a b) (k : KeepD b c) : KeepD a c := ⟨Nat.le_trans h.1 k.1, fun i o e l => k.2 i o (h.2 i o e l) l⟩
theorem KeepD.push (h : Heap) (o : Obj) : KeepD h (h.push o) := ⟨by simp, fun b o' e _ => by
  have hlt := (Array.getElem?_eq_some_iff.1 e).1
  rw [Array.getElem?_push_lt hlt]
  exact e ▸ (Array.getElem?_eq_getElem hlt).symm⟩
theorem KeepD.set {h : Heap} {r : Nat} {o : Obj} (o' : Obj) (hr : h[r]? = some o) (ho : isLD o = false) : KeepD h (h.setIfInBounds r o') := ⟨by simp, fun b x e l => by
  by_cases hb : r = b
  · subst hb
    rw [hr] at e
    cases e
    rw [ho] at l
    cases l
  · rw [Array.getElem?_setIfInBounds_ne hb]; exact e⟩
def Same (w w' : World) : Prop := w'.os = w.os ∧ w'.tape = w.tape ∧ w'.output = w.output ∧ KeepD w.heap w'.heap
theorem Same.refl (w : World) : Same w w := ⟨rfl, rfl, rfl, .refl _⟩
theorem Same.trans {a b c : World} (h : Same a b) (k : Same b c) : Same a c := ⟨k.1.trans h.1, k.2.1.trans h.2.1, k.2.2.1.trans h.2.2.1, h.2.2.2.trans k.2.2.2⟩

/-- A call, told by heaps alone. -/
def FnC (P : Program) (f : FuncId) (args : Array Value) (h : Heap) (R : Value → Heap → Prop) : Prop :=
  ∀ w : World, w.heap = h → Calls P f args w fun e w' => ∃ v, e = .returned v ∧ R v w'.heap ∧ Same w w'

theorem FnC.mono {P : Program} {f : FuncId} {args : Array Value} {h : Heap} {R R' : Value → Heap → Prop} (H : FnC P f args h R) (hr : ∀ v h', R v h' → R' v h') : FnC P f args h R' :=
  fun w hw => (H w hw).mono fun _ _ ⟨v, e, r, s⟩ => ⟨v, e, hr _ _ r, s⟩

/-- A call of the function that a range over a function hands over. -/
def YldC (P : Program) (l : Nat) (args : Array Value) (h : Heap) (R : Value → Heap → Prop) : Prop :=
  ∀ w : World, w.heap = h → YieldAt Fence.wide 0 P l args w fun e w' => ∃ v, e = .returned v ∧ R v w'.heap ∧ Same w w'
theorem YldC.mono {P : Program} {l : Nat} {args : Array Value} {h : Heap} {R R' : Value → Heap → Prop} (H : YldC P l args h R) (hr : ∀ v h', R v h' → R' v h') : YldC P l args h R' := fun w hw => by
  obtain ⟨fn, tmps, a, b, h1, h2⟩ := H w hw
  exact ⟨fn, tmps, a, b, h1, h2.mono fun e w' ⟨v, e1, r, s⟩ => ⟨v, e1, hr _ _ r, s⟩⟩

inductive EF where
  | new (T : TypeId) (zero : List Value)
  | box (T : TypeId)
  | st (n : Nat)
  | bsl (E : TypeId) (sz : Nat)
  | mks (E : TypeId) (sz bytes : Nat) (zero : List Value)
  | app (E : TypeId) (sz bytes : Nat) (zero : List Value)
  | call (f : FuncId)
  | callv
  | mkm
  | mup (ck : CK)
  | mlk (ck : CK) (z : Value)
  | sit
  | nxt
  | b2s
  | cpy (sz : Nat)
  | s2b (E : TypeId)
  | die
  deriving Inhabited

inductive SOp where
  | pur (f : PF) (xs : List Operand)
  | ld (n : Option Nat) (x : Operand)
  | eff (e : EF) (xs : List Operand)
  deriving Inhabited

def SOp.opds : SOp → List Operand
  | .pur _ xs => xs
  | .ld _ x => [x]
  | .eff _ xs => xs

def ldV (n : Option Nat) (v : Value) (g : Nat → Option Obj) : Option Value :=
  match v with
  | .pointer (some ⟨b, off, none⟩) => match n with
    | none => cellG g b off
    | some n => (cellsG g b off n).map fun l => .agg l.toArray
  | _ => none

/-- One cell of a heap turned; none where there is no such cell, where it is frozen, or the value is not that of one cell. -/
def st1 (h : Heap) (b off : Nat) (v : Value) : Option Heap :=
  match h[b]? with
  | some (.cells c E fz) => if off < c.size ∧ ¬ (fz.1 ≤ off ∧ off < fz.2) ∧ v.oneCell' = true then some (h.setIfInBounds b (.cells (c.setIfInBounds off v) E fz)) else none
  | _ => none
def stL (h : Heap) (b off : Nat) : List Value → Option Heap
  | [] => some h
  | v :: vs => (st1 h b off v).bind fun h' => stL h' b (off + 1) vs
def rep (z : List Value) (c : Nat) : List Value := (List.replicate c z).flatten

/-- What an appended or copied operand holds: how many elements, and their cells. -/
def srcV (g : Nat → Option Obj) (sz : Nat) : Value → Option (Nat × List Value)
  | .slice (some ⟨b, off, none⟩) n _ => (cellsG g b off (n * sz)).map (n, ·)
  | .slice none n _ => some (n, [])
  | .slice _ 0 _ => some (0, [])
  | .string s => some (s.size, s.data.toList.map fun b => .int .u8 b.toNat)
  | _ => none

def fnOk (P : Program) (f : FuncId) : Bool :=
  match P.funcs[f]? with
  | some fn => fn.name != "runtime.NumGoroutine" && fn.body.isSome
  | none => false

/-- Where a key stands among entries; none where that is not covered. -/
def findV (ck : CK) (k : Value) : List MapEntry → Nat → Option (Option (Nat × MapEntry))
  | [], _ => some none
  | e :: es, i => match eqC ck k e.key with
    | some true => some (some (i, e))
    | some false => findV ck k es (i + 1)
    | none => none
def cpyV (g : Nat → Option Obj) (sz k : Nat) (l : List Value) : Option Addr → Prop
  | some ⟨b, off, none⟩ => cellsG g b off (k * sz) = some l
  | none => l = []
  | _ => k = 0 ∧ l = []
def EF.wp (P : Program) (e : EF) (vs : List Value) (h : Heap) (K : Value → Heap → Prop) : Prop :=
  match e, vs with
  | .new T z, [] => K (.pointer (some ⟨h.size, 0, none⟩)) (h.push (.cells z.toArray T (0, 0)))
  | .box T, [v] => K (.pointer (some ⟨h.size, 0, none⟩)) (h.push (.cells v.cells T (0, 0)))
  | .st n, [.pointer (some ⟨b, off, none⟩), v] => v.cells.size = n ∧ ∃ h', stL h b off v.cells.toList = some h' ∧ K undef h'
  | .bsl E sz, vs => (∀ v ∈ vs, v.cells.size = sz) ∧
      K (.slice (some ⟨h.size, 0, none⟩) vs.length vs.length) (h.push (.cells (vs.flatMap (·.cells.toList)).toArray E (0, 0)))
  | .mks E _ by_ z, [.int _ l, .int _ c] => 0 ≤ l ∧ l ≤ c ∧ c < 9223372036854775808 ∧ by_ * c ≤ 281474976710656 ∧
      K (.slice (some ⟨h.size, 0, none⟩) l.toNat c.toNat) (h.push (.cells (rep z c.toNat).toArray E (0, 0)))
  | .app E sz by_ z, [.slice base n cap, y] => ∃ m news, srcV (hp h) sz y = some (m, news) ∧ news.length = m * sz ∧
      if n + m ≤ cap then
        match base with
        | none => K (.slice none (n + m) cap) h
        | some ⟨b, off, none⟩ => ∃ h', stL h b (off + n * sz) news = some h' ∧ K (.slice base (n + m) cap) h'
        | _ => False
      else n + m ≤ 9223372036854775807 ∧ (n + m) * by_ ≤ 140737488355328 ∧ ∃ olds, srcV (hp h) sz (.slice base n cap) = some (n, olds) ∧ olds.length = n * sz ∧
        ∀ c, n + m ≤ c → c < 9223372036854775808 →
          K (.slice (some ⟨h.size, 0, none⟩) (n + m) c) (h.push (.cells (olds ++ news ++ rep z (c - (n + m))).toArray E (0, 0)))
  | .call f, vs => FnC P f vs.toArray h K
  | .callv, .func (.func f) first cap :: vs => fnOk P f = true ∧ FnC P f (first ++ vs.toArray ++ cap) h K
  | .callv, .func (.yield l) first cap :: vs => first = #[] ∧ cap = #[] ∧ YldC P l vs.toArray h K
  | .mkm, [] => K (.map (some h.size)) (h.push (.map #[] 0))
  | .mup ck, [.map (some r), k, v] => ∃ en clock, h[r]? = some (.map en clock) ∧
      ((∃ i e, findV ck k en.toList 0 = some (some (i, e)) ∧ Instr.sameBits 10000 e.key k = true ∧ K undef (h.setIfInBounds r (.map (en.modify i fun e => { e with key := k, val := v }) clock))) ∨
        (findV ck k en.toList 0 = some none ∧ K undef (h.setIfInBounds r (.map (en.push { key := k, val := v, born := clock }) (clock + 1)))))
  | .mlk ck z, [.map (some r), k] => ∃ en clock, h[r]? = some (.map en clock) ∧ ∃ q, findV ck k en.toList 0 = some q ∧ K (match q with | some (_, e) => e.val | none => z) h
  | .sit, [.string s] => K (.pointer (some ⟨h.size, 0, none⟩)) (h.push (.stringIter s 0))
  | .nxt, [.pointer (some ⟨r, 0, none⟩)] => ∃ s pos, h[r]? = some (.stringIter s pos) ∧
      (if pos < s.size then K (.tuple #[.bool true, .int .i64 pos, .int .i32 (Utf8.decode s pos).1]) (h.setIfInBounds r (.stringIter s (pos + (Utf8.decode s pos).2))) else K (.tuple #[.bool false]) h)
  | .b2s, [x] => ∃ n, ∃ bs : List UInt8, (∃ a c, x = .slice a n c) ∧ srcV (hp h) 1 x = some (n, bs.map fun b => .int .u8 b.toNat) ∧ K (.string ⟨bs.toArray⟩) h
  | .cpy sz, [.slice d n _, .slice a m _] => ∃ l, cpyV (hp h) sz (min m n) l a ∧
      (match d with | some ⟨b, off, none⟩ => ∃ h', stL h b off l = some h' ∧ K (.int .i64 (min m n : Nat)) h' | none => K (.int .i64 (min m n : Nat)) h | _ => False)
  | .s2b E, [.string s] => s.size ≤ 9223372036854775807 ∧ ∀ c, s.size ≤ c → c < 9223372036854775808 →
      K (.slice (some ⟨h.size, 0, none⟩) s.size c) (h.push (.cells ((s.data.toList.map fun b => Value.int .u8 b.toNat) ++ rep [.int .u8 0] (c - s.size)).toArray E (c, c + 1)))
  | _, _ => False

def SOp.wp (P : Program) (s : SOp) (ε : Env) (h : Heap) (K : Value → Heap → Prop) : Prop :=
  match s with
  | .pur f xs => ∃ v, f.val (xs.map (ev ε)) = some v ∧ K v h
  | .ld n x => ∃ v, ldV n (ev ε x) (hp h) = some v ∧ K v h
  | .eff e xs => e.wp P (xs.map (ev ε)) h K

/-! ### Compilation -/
def aggOf (P : Program) (t : TypeId) : Option (Option Nat) :=
  match P.info? t, P.underlying t with
  | some i, some (.struct _) => some (some i.size)
  | some i, some (.array _ _) => some (some i.size)
  | some _, some _ => some none
  | _, _ => none
def nilConst : Operand → Option Nat
  | .const (.pointer none) => some 0
  | .const (.slice none _ _) => some 1
  | .const .nilFunc => some 2
  | .const (.map none) => some 3
  | .const .nilIface => some 4
  | _ => none
def nilKind : TypeDesc → Option Nat
  | .pointer _ => some 0
  | .slice _ => some 1
  | .func _ _ _ => some 2
  | .map _ _ => some 3
  | .interface _ => some 4
  | _ => none
def ckOf : TypeDesc → Option CK
  | .bool => some .bool
  | .int k => some (.int k)
  | .float k => some (.float k)
  | .complex k => some (.complex k)
  | .string => some .string
  | _ => none
def flatFields (fl : TypeId → Option (List CK)) (P : Program) : Nat → List Field → Option (List CK)
  | _, [] => some []
  | off, f :: fs =>
    if f.name == "_" || f.offset != off then none else
    match fl f.type, P.info? f.type with
    | some l, some i => if i.size = l.length then (flatFields fl P (off + l.length) fs).map (l ++ ·) else none
    | _, _ => none
def flat (P : Program) : Nat → TypeId → Option (List CK)
  | 0, _ => none
  | d + 1, t => match P.underlying t with
    | some (.struct fs) => if P.stoodInHeld t then none else flatFields (flat P d) P 0 fs.toList
    | some (.array n e) => match flat P d e, P.info? e with
      | some l, some i => if i.size = l.length then some (List.replicate n l).flatten else none
      | _, _ => none
    | some u => (ckOf u).map ([·])
    | none => none
def elemInfo (P : Program) (t : TypeId) : Option (TypeId × TypeInfo × List Value) :=
  match P.underlying t with
  | some (.slice e) => match P.info? e with
    | some i => match i.zero with
      | some z => if z.cells.size = i.size ∧ 0 < i.size then some (e, i, z.cells.toList) else none
      | none => none
    | none => none
  | _ => none
def places (P : Program) (t : TypeId) (parts : List Nat) : Option (List (Nat × Nat)) :=
  match P.underlying t with
  | some (.struct fs) => (fs.toList.mapM fun f => (P.info? f.type).map fun i => (f.offset, i.size)).bind fun pl => parts.mapM fun i => pl[i]?
  | some (.array _ e) => (P.info? e).map fun j => parts.map fun i => (i * j.size, j.size)
  | _ => none
def compCall (P : Program) (c : Call) : Option SOp :=
  match c.callee with
  | .value (.func f) => if fnOk P f then some (.eff (.call f) c.args.toList) else none
  | .value x => some (.eff .callv (x :: c.args.toList))
  | .invoke _ _ => none
  | .builtin b =>
    match b, c.args.toList, c.argTypes.toList with
    | .len, [x], t :: _ => match P.underlying t with
      | some (.slice _) => some (.pur (.len false) [x])
      | some .string => some (.pur (.len true) [x])
      | _ => none
    | .cap, [x], t :: _ => match P.underlying t with
      | some (.slice _) => some (.pur .cap [x])
      | _ => none
    | .min, x :: xs, _ => some (.pur (.minmax false) (x :: xs))
    | .max, x :: xs, _ => some (.pur (.minmax true) (x :: xs))
    | .append, [x, y], [t, u] => match elemInfo P t, P.underlying u with
      | some (e, i, z), some (.slice _) => some (.eff (.app e i.size i.bytes z) [x, y])
      | some (e, i, z), some .string => if i.size = 1 then some (.eff (.app e i.size i.bytes z) [x, y]) else none
      | _, _ => none
    | .real, [x], _ => some (.pur .re [x])
    | .imag, [x], _ => some (.pur .im [x])
    | .complex, [x, y], _ => some (.pur (.cpx .f64) [x, y])
    | .copy, [x, y], [t, u] => match P.underlying t, P.underlying u with
      | some (.slice e), some (.slice _) => (P.info? e).map fun i => .eff (.cpy i.size) [x, y]
      | _, _ => none
    | _, _, _ => none
/-- A key's type that maps are covered for. -/
def keyCk (P : Program) (t : TypeId) : Option CK :=
  match P.underlying t with
  | some (.int k) => ckOf (.int k)
  | some (.complex k) => ckOf (.complex k)
  | some .string => ckOf .string
  | _ => none
def compileOp (P : Program) (op : Op) : Option SOp :=
  match op with
  | .move x | .assign x => some (.pur .mov [x])
  | .pick c a b => some (.pur .pick [c, a, b])
  | .alloc T => match P.info? T with
    | some i => match i.zero with
      | some z => some (.eff (.new T z.cells.toList) [])
      | none => none
    | none => none
  | .box T x => some (.eff (.box T) [x])
  | .build t parts => match P.info? t, places P t (parts.toList.map (·.1)) with
    | some i, some ps => match i.zero with
      | some z => some (.pur (.bld z.cells.toList ps) (parts.toList.map (·.2)))
      | none => none
    | _, _ => none
  | .buildSlice t len parts => match elemInfo P t with
    | some (e, i, _) => if parts.toList.map (·.1) = List.range len ∧ len * i.size ≤ 16777216 then some (.eff (.bsl e i.size) (parts.toList.map (·.2))) else none
    | none => none
  | .load t a => (aggOf P t).map fun n => .ld n a
  | .store t a x => match P.info? t with
    | some i => some (.eff (.st i.size) [a, x])
    | none => none
  | .nilCheck x => some (.pur .nilc [x])
  | .binOp op t x y _ =>
    match op with
    | .eql | .neq => match P.underlying t with
      | some (.int _) | some (.float _) | some (.complex _) | some .string => some (.pur (.bin op) [x, y])
      | some .bool => some (.pur (.eqb (op == .neq)) [x, y])
      | some (.struct _) | some (.array _ _) =>
        if P.eqGuardType P.depth t then none else match flat P 40 t, P.info? t with
          | some l, some i => if i.size = l.length then some (.pur (.eqs (op == .neq) l) [x, y]) else none
          | _, _ => none
      | some u => match nilKind u with
        | some kd => if nilConst y = some kd then some (.pur (.eqn (op == .neq) kd) [x]) else if nilConst x = some kd then some (.pur (.eqn (op == .neq) kd) [y]) else none
        | none => none
      | none => none
    | _ => some (.pur (.bin op) [x, y])
  | .unOp u _ x => match u with
    | .neg => some (.pur .neg [x])
    | .xor => some (.pur .cpl [x])
    | .not => some (.pur .not [x])
    | .plus => none
  | .convert s t x => match P.underlying s, P.underlying t with
    | some (.int _), some (.int k) => some (.pur (.toInt k) [x])
    | some (.int _), some (.float k) => some (.pur (.intF k) [x])
    | some (.float _), some (.int k) => some (.pur (.fInt k) [x])
    | some .string, some .string => some (.pur .strId [x])
    | some (.slice e), some .string => match P.underlying e with
      | some (.int .u8) => some (.eff .b2s [x])
      | _ => none
    | some .string, some (.slice e) => match P.underlying e with
      | some (.int .u8) => some (.eff (.s2b e) [x])
      | _ => none
    | _, _ => none
  | .makeFunc fn first captured => some (.pur (.mkf fn first.size) (first.toList ++ captured.toList))
  | .makeInterface t x => match P.underlying t with
    | some (.interface _) | none => none
    | some _ => some (.pur (.mkif t) [x])
  | .makeSlice t l c => (elemInfo P t).map fun (e, i, z) => .eff (.mks e i.size i.bytes z) [l, c]
  | .slice t x lo hi none => match P.underlying t with
    | some (.slice e) => match P.info? e with
      | some i => some (.pur (.slc i.size lo.isSome hi.isSome) (x :: (lo.toList ++ hi.toList)))
      | none => none
    | some .string => some (.pur (.sls lo.isSome hi.isSome) (x :: (lo.toList ++ hi.toList)))
    | some (.array n e) => match P.info? e with
      | some i => some (.pur (.slcA n i.size lo.isSome hi.isSome) (x :: (lo.toList ++ hi.toList)))
      | none => none
    | _ => none
  | .fieldAddr s x f => match P.underlying s with
    | some (.struct fs) => match fs[f]? with
      | some fd => match P.info? fd.type with
        | some i => if i.size = 0 then none else some (.pur (.fla fd.offset) [x])
        | none => none
      | none => none
    | _ => none
  | .field t x f => match P.underlying t with
    | some (.struct fs) => match fs[f]? with
      | some fd => (aggOf P fd.type).map fun n => .pur (.fld fd.offset n) [x]
      | none => none
    | _ => none
  | .indexAddr t x i => match P.underlying t with
    | some (.slice e) => (P.info? e).map fun j => .pur (.ixa j.size) [x, i]
    | some (.array n e) => (P.info? e).map fun j => .pur (.ixaA n j.size) [x, i]
    | _ => none
  | .index t x i => match P.underlying t with
    | some (.array n e) => match aggOf P e, P.info? e with
      | some a, some j => some (.pur (.ixv n j.size a) [x, i])
      | _, _ => none
    | some .string => some (.pur .ixs [x, i])
    | _ => none
  | .extract t i => some (.pur (.ext i) [t])
  | .call c => compCall P c
  | .makeMap _ none => some (.eff .mkm [])
  | .mapUpdate t m k x | .insert t m k x => match P.underlying t with
    | some (.map kt _) => (keyCk P kt).map fun ck => .eff (.mup ck) [m, k, x]
    | _ => none
  | .lookup t x i false => match P.underlying t with
    | some (.map kt et) => match keyCk P kt, P.info? et with
      | some ck, some j => j.zero.map fun z => .eff (.mlk ck z) [x, i]
      | _, _ => none
    | _ => none
  | .range t x => match P.underlying t with
    | some .string => some (.eff .sit [x])
    | _ => none
  | .next x true => some (.eff .nxt [x])
  | .panic x => some (.eff .die [x])
  | _ => none

end Go.Kx
