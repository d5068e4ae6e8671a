/- Annotated values, part e: effects, statements, code and functions on annotated values; that they tell the truth. -/
import Derived.Test.YtjdpejggafefjaaDoorVd
namespace Go.Kx
set_option linter.unusedVariables false
set_option linter.unusedSimpArgs false
open Go

abbrev AEnv := Nat → AV
def AEnv.set (ε : AEnv) (d : Nat) (a : AV) : AEnv := fun i => if i = d then a else ε i
def AEnv.put (ε : AEnv) (d : Option Nat) (a : AV) : AEnv := match d with | some d => ε.set d a | none => ε
def evA (ε : AEnv) : Operand → AV
  | .tmp t => ε t
  | .const v => absV v
  | .global g => .v (.pointer (some ⟨g, 0, none⟩))
  | .func f => .fn (.func f) 0 []
def RelE (G : Gh) (ε : AEnv) (ρ : Env) : Prop := ∀ t, RelV G (ε t) (ρ t)
theorem RelE.mono {n : Nat} {G G' : Gh} (h : Gh.le n G G') {ε : AEnv} {ρ : Env} (H : RelE G ε ρ) : RelE G' ε ρ := fun t => (H t).mono h
theorem RelE.put {G : Gh} {ε : AEnv} {ρ : Env} (H : RelE G ε ρ) (d : Option Nat) {a : AV} {u : Value} (h : RelV G a u) : RelE G (ε.put d a) (ρ.put d u) := by
  cases d with
  | none => exact H
  | some d =>
    intro t
    simp only [AEnv.put, AEnv.set, Env.put, Env.set]
    split
    · exact h
    · exact H t
theorem evA_rel {G : Gh} {ε : AEnv} {ρ : Env} (H : RelE G ε ρ) (x : Operand) : RelV G (evA ε x) (ev ρ x) := by
  cases x with
  | tmp t => exact H t
  | const v => exact RelV.absV G v
  | global g => exact .v _
  | func f => exact .fn (.func f) 0 [] [] rfl (fun i a u h => by simp at h)
theorem evAs_rel {G : Gh} {ε : AEnv} {ρ : Env} (H : RelE G ε ρ) (xs : List Operand) : RelL G (xs.map (evA ε)) (xs.map (ev ρ)) := by
  induction xs with
  | nil => exact .nil G
  | cons x xs ih => exact .cons (evA_rel H x) ih

/-- A call, told on annotated values: the state before, what comes back, and the state then. -/
def FnG (P : Program) (f : FuncId) (as : List AV) (σ : St) (R : AV → St → Prop) : Prop :=
  ∀ (base : Heap) (G : Gh) (h : Heap) (vs : List Value), RelH base G h σ → RelL G as vs →
    FnC P f vs.toArray h fun r h' => ∃ G' a σ', Gh.le base.size G G' ∧ RelH base G' h' σ' ∧ RelV G' a r ∧ R a σ'
/-- A call that touches nothing that was there. -/
def FnP (P : Program) (f : FuncId) (as : List AV) (Q : AV → Prop) : Prop := AV.pureL as = true ∧ FnG P f as [] fun a _ => a.pure = true ∧ Q a

theorem FnG.mono {P : Program} {f : FuncId} {as : List AV} {σ : St} {R R' : AV → St → Prop} (H : FnG P f as σ R) (hr : ∀ a σ', R a σ' → R' a σ') : FnG P f as σ R' :=
  fun base G h vs h1 h2 => (H base G h vs h1 h2).mono fun _ _ ⟨G', a, σ', k1, k2, k3, k4⟩ => ⟨G', a, σ', k1, k2, k3, hr _ _ k4⟩

theorem FnP.at {P : Program} {f : FuncId} {as : List AV} {Q : AV → Prop} (H : FnP P f as Q) (σ : St) : FnG P f as σ fun a σ' => σ' = σ ∧ Q a := by
  intro base G h vs hH hL
  have hpu := H.1
  have hL0 : RelL ⟨G.g, fun _ _ => none⟩ as vs := ⟨hL.1, fun i a u ha hu => pure_rel (hL.2 i a u ha hu) (pureL_get hpu ha)⟩
  have hH0 : RelH h ⟨G.g, fun _ _ => none⟩ h [] := by
    refine ⟨hH.tab.keep hH.size hH.keep, Nat.le_refl _, fun _ _ => rfl, hH.st, fun i w cs hi => by simp at hi, fun i w cs hi => by simp at hi, fun i l hl => ?_, fun i j l m _ hl => ?_, (fun i w l hl => by simp at hl), ⟨fun i es _ hi => by simp at hi, fun i j es es' l m _ _ _ hi => by simp at hi⟩⟩
    · have := locOf_lt hl; simp at this
    · have := locOf_lt hl; simp at this
  refine (H.2 h _ h vs hH0 hL0).mono ?_
  rintro r h' ⟨G', a, σ', k1, k2, k3, k4, k5⟩
  have hs := k2.size
  have hle : Gh.le h.size G ⟨G'.g, G.T⟩ := ⟨k1.g, fun _ _ _ h => h, k1.old⟩
  refine ⟨⟨G'.g, G.T⟩, a, σ, hle.weaken hH.size, ?_, pure_rel k3 k4, rfl, k5⟩
  have hcell : ∀ b o, b < h.size → cellG (hp h') b o = cellG (hp h) b o := by
    intro b o hb
    unfold cellG hp
    rw [k2.keep b hb]
  have hHs := hH.size
  refine ⟨hH.tab, by omega, fun b hb => by rw [k2.keep b (by omega)]; exact hH.keep b hb, k2.st, ?_, ?_, ?_, hH.disj, hH.bd, hH.maps.mono (fun _ _ _ h => h) hle.g (fun _ _ _ h => h) fun b en c hb => by rw [k2.keep b (Array.getElem?_eq_some_iff.1 hb).1]; exact hb⟩
  · intro i w cs hi
    obtain ⟨l, h1, h2, h3, h4, h5⟩ := hH.obj i w cs hi
    refine ⟨l, h1, h2, h3, h4, fun j a ha => ?_⟩
    obtain ⟨u, h6, h7⟩ := h5 j a ha
    exact ⟨u, by rw [hcell _ _ (cellG_lt h6)]; exact h6, h7.mono hle⟩
  · intro i w cs hi
    obtain ⟨l, h1, h2, h3⟩ := hH.frz i w cs hi
    refine ⟨l, h1, h2, fun j a ha => ?_⟩
    obtain ⟨u, h6, h7⟩ := h3 j a ha
    exact ⟨u, hle.g _ _ _ h6, h7.mono hle⟩
  · intro i l hl b o hh
    obtain ⟨h1, h2, h3⟩ := hH.own i l hl b o hh
    have hb := h2.lt
    refine ⟨h1, ?_, ?_⟩
    · obtain ⟨c, E, fz, e1, e2⟩ := h2
      exact ⟨c, E, fz, by rw [k2.keep b hb]; exact e1, e2⟩
    · show G'.g b o = none
      rw [k1.old b o hb]; exact h3

theorem FnG.fz {P : Program} {f : FuncId} {as : List AV} {σ : St} {R : AV → St → Prop} (H : FnG P f as σ fun a σ' => ∃ is, R (a.res (freeze is σ')) (freeze is σ')) : FnG P f as σ R := by
  intro base G h vs h1 h2
  refine (H base G h vs h1 h2).mono ?_
  rintro r h' ⟨G', a, σ', k1, k2, k3, is, k4⟩
  obtain ⟨G2, l2, H2⟩ := k2.freeze is
  exact ⟨G2, _, _, k1.trans l2, H2, res_rel H2 (k3.mono l2), k4⟩

/-- Arguments as they are, or with what is frozen read. -/
def weak (σ : St) : List Bool → List AV → List AV
  | f :: fs, a :: as => (if f then a.res σ else a) :: weak σ fs as
  | _, as => as
theorem weak_rel {base : Heap} {G : Gh} {h : Heap} {σ : St} (H : RelH base G h σ) : ∀ (fs : List Bool) {as : List AV} {vs : List Value}, RelL G as vs → RelL G (weak σ fs as) vs := by
  intro fs
  induction fs with
  | nil => intro as vs hL; simpa [weak] using hL
  | cons f fs ih =>
    intro as vs hL
    cases as with
    | nil => simpa [weak] using hL
    | cons a as =>
      obtain ⟨u, us, rfl, h1, h2⟩ := hL.cons_inv
      refine .cons ?_ (ih h2)
      cases f
      · exact h1
      · exact res_rel H h1

def repA (z : List AV) (c : Nat) : List AV := (List.replicate c z).flatten
def srcA (σ : St) (sz : Nat) : AV → Option (Nat × List AV)
  | .sl n cs _ => some (n, cs)
  | .ms i w off n sz' => if sz' = sz then match σ[i]? with
    | some (.obj w' cs) => if w = w' then some (n, subA cs off (n * sz)) else none
    | some (.frz w' cs) => if w = w' then some (n, subA cs off (n * sz)) else none
    | _ => none
    else none
  | .v (.string s) => some (s.size, s.data.toList.map fun b => .v (.int .u8 b.toNat))
  | _ => none

def AppA (σ : St) (sz : Nat) (m : Nat) (news : List AV) (K : AV → St → Prop) : AV → Prop
  | .sl n cs t => cs.length = n * sz ∧ match t with
    | .nil => K (.sl (n + m) (cs ++ news) (.id σ.length 1 sz)) (σ ++ [.tail 1]) ∨ (0 < m ∧ K (.ms σ.length 0 0 m sz) (σ ++ [.obj 0 news])) ∨ K (.sl (n + m) (cs ++ news) .none) σ
    | .full => K (.sl (n + m) (cs ++ news) (.id σ.length 1 sz)) (σ ++ [.tail 1]) ∨ K (.sl (n + m) (cs ++ news) .none) σ
    | .id i w s => s = sz ∧ σ[i]? = some (.tail w) ∧ K (.sl (n + m) (cs ++ news) (.id i (w + 1) sz)) (σ.set i (.tail (w + 1)))
    | .none => False
  | .ms i w off n s => s = sz ∧ off = 0 ∧ ∃ cs, σ[i]? = some (.obj w cs) ∧ n * sz ≤ cs.length ∧ K (.ms i (w + 1) 0 (n + m) sz) (σ.set i (.obj (w + 1) (cs.take (n * sz) ++ news)))
  | _ => False
def AV.num : AV → Nat
  | .sl n _ _ => n
  | .ms _ _ _ n _ => n
  | _ => 0

def AV.isSl : AV → Bool
  | .sl _ _ _ | .ms _ _ _ _ _ => true
  | _ => false
theorem isSl_rel {G : Gh} {y : AV} {v : Value} (h : y.isSl = true) (hr : RelV G y v) : ∃ a n c, v = .slice a n c := by
  cases hr with
  | sl => exact ⟨_, _, _, rfl⟩
  | ms => exact ⟨_, _, _, rfl⟩
  | _ => cases h

/-- What a map has for a key (z: nothing). -/
def getM (ck : CK) (z : AV) (k : Value) : List (Value × AV) → Option AV
  | [] => some z
  | e :: es => match eqC ck k e.1 with
    | some true => some e.2
    | some false => getM ck z k es
    | none => none
/-- A map with another entry. -/
def putM (ck : CK) (k : Value) (x : AV) : List (Value × AV) → Option (List (Value × AV))
  | [] => some [(k, x)]
  | e :: es => match eqC ck k e.1 with
    | some true => if Instr.sameBits 10000 e.1 k = true then some ((k, x) :: es) else none
    | some false => (putM ck k x es).map (e :: ·)
    | none => none
theorem getM_find {G : Gh} {ck : CK} {z : AV} {zv k : Value} {v : AV} (hz : RelV G z zv) : ∀ {en : List MapEntry} {es : List (Value × AV)} {i : Nat}, KvRel G en es → getM ck z k es = some v → ∃ q, findV ck k en i = some q ∧ RelV G v (match q with | some (_, e) => e.val | none => zv) := by
  intro en
  induction en with
  | nil =>
    intro es i hk h
    cases es with
    | nil => simp [getM] at h; subst h; exact ⟨none, rfl, hz⟩
    | cons p es => exact hk.elim
  | cons e en ih =>
    intro es i hk h
    cases es with
    | nil => exact hk.elim
    | cons p es =>
      obtain ⟨e1, h2, h3⟩ := hk
      simp only [getM, ← e1] at h
      simp only [findV]
      cases hb : eqC ck k e.key with
      | none => rw [hb] at h; cases h
      | some b =>
        rw [hb] at h
        cases b with
        | true => simp only [Option.some.injEq] at h; subst h; exact ⟨_, rfl, h2⟩
        | false => exact ih h3 h
theorem putM_find {G : Gh} {ck : CK} {k xv : Value} {x : AV} (hx : RelV G x xv) : ∀ {en : List MapEntry} {es : List (Value × AV)} {i : Nat} {ys : List (Value × AV)}, KvRel G en es → putM ck k x es = some ys →
    (∃ j e, findV ck k en i = some (some (i + j, e)) ∧ Instr.sameBits 10000 e.key k = true ∧ KvRel G (en.modify j fun e => { e with key := k, val := xv }) ys) ∨ (findV ck k en i = some none ∧ ∀ c, KvRel G (en ++ [{ key := k, val := xv, born := c }]) ys) := by
  intro en
  induction en with
  | nil =>
    intro es i ys hk h
    cases es with
    | nil => simp [putM] at h; subst h; exact .inr ⟨rfl, fun c => ⟨rfl, hx, trivial⟩⟩
    | cons p es => exact hk.elim
  | cons e en ih =>
    intro es i ys hk h
    cases es with
    | nil => exact hk.elim
    | cons p es =>
      obtain ⟨e1, h2, h3⟩ := hk
      simp only [putM, ← e1] at h
      simp only [findV]
      cases hb : eqC ck k e.key with
      | none => rw [hb] at h; cases h
      | some b =>
        rw [hb] at h
        cases b with
        | true =>
          simp only at h
          split at h
          · rename_i hs
            simp only [Option.some.injEq] at h
            subst h
            exact .inl ⟨0, e, rfl, hs, ⟨rfl, hx, h3⟩⟩
          · cases h
        | false =>
          simp only [Option.map_eq_some_iff] at h
          obtain ⟨zs, hz, rfl⟩ := h
          rcases ih (i := i + 1) h3 hz with ⟨j, e', h4, h5, h6⟩ | ⟨h4, h5⟩
          · refine .inl ⟨j + 1, e', by rw [show i + (j + 1) = i + 1 + j by omega]; exact h4, h5, ?_⟩
            rw [List.modify_succ_cons]
            exact ⟨e1, h2, h6⟩
          · exact .inr ⟨h4, fun c => ⟨e1, h2, h5 c⟩⟩

def EF.awp0 (P : Program) (e : EF) (as : List AV) (σ : St) (K : AV → St → Prop) : Prop :=
  match e, as with
  | .new _ z, [] => K (.ref σ.length 0 0) (σ ++ [.obj 0 (z.map abs1)])
  | .box _, [a] => K (.ref σ.length 0 0) (σ ++ [.obj 0 a.cells])
  | .st n, [.ref i w off, a] => a.cells.length = n ∧ a.cells.all AV.one = true ∧ ∃ cs, σ[i]? = some (.obj w cs) ∧ off + n ≤ cs.length ∧ K (.v undef) (σ.set i (.obj w (setAtA cs off a.cells)))
  | .bsl _ sz, as => (∀ a ∈ as, a.cells.length = sz) ∧ as.length ≤ 9223372036854775807 ∧
      (K (.sl as.length (as.flatMap AV.cells) .full) σ ∨ K (.ms σ.length 0 0 as.length sz) (σ ++ [.obj 0 (as.flatMap AV.cells)]))
  | .mks _ sz by_ z, [.v (.int _ l), .v (.int _ c)] => z.length = sz ∧ 0 ≤ l ∧ l ≤ c ∧ c < 9223372036854775808 ∧ by_ * c ≤ 281474976710656 ∧
      K (.ms σ.length 0 0 l.toNat sz) (σ ++ [.obj 0 (repA (z.map abs1) c.toNat)])
  | .app _ sz by_ z, [x, y] => z.length = sz ∧ ∃ m news, srcA σ sz y = some (m, news) ∧ news.length = m * sz ∧ news.all AV.one = true ∧ x.num + m ≤ 9223372036854775807 ∧ (x.num + m) * by_ ≤ 140737488355328 ∧ AppA σ sz m news K x
  | .call f, as => FnG P f as σ K
  | .callv, .fn (.func f) k xs :: as => fnOk P f = true ∧ FnG P f (xs.take k ++ as ++ xs.drop k) σ K
  | .mkm, [] => K (.mp σ.length) (σ ++ [.map []])
  | .mup ck, [.mp i, .v k, x] => ∃ es, σ[i]? = some (.map es) ∧ ∃ ys, putM ck k x es = some ys ∧ K (.v undef) (σ.set i (.map ys))
  | .mlk ck z, [.mp i, .v k] => ∃ es, σ[i]? = some (.map es) ∧ ∃ v, getM ck (absV z) k es = some v ∧ K v σ
  | .sit, [.v (.string s)] => K (.ref σ.length 0 0) (σ ++ [.itr s 0])
  | .nxt, [.ref i w off] => w = 0 ∧ off = 0 ∧ ∃ s pos, σ[i]? = some (.itr s pos) ∧
      (if pos < s.size then K (.tup [.v (.bool true), .v (.int .i64 pos), .v (.int .i32 (Utf8.decode s pos).1)]) (σ.set i (.itr s (pos + (Utf8.decode s pos).2))) else K (.tup [.v (.bool false)]) σ)
  | .b2s, [x] => x.isSl = true ∧ ∃ n, ∃ bs : List UInt8, srcA σ 1 x = some (n, bs.map fun b => .v (.int .u8 b.toNat)) ∧ bs.length = n ∧ K (.v (.string ⟨bs.toArray⟩)) σ
  | .cpy sz, [.ms i w off n s, y] => s = sz ∧ y.isSl = true ∧ ∃ m news, srcA σ sz y = some (m, news) ∧ news.length = m * sz ∧ news.all AV.one = true ∧ m ≤ n ∧ ∃ cs, σ[i]? = some (.obj w cs) ∧ off + m * sz ≤ cs.length ∧ K (.v (.int .i64 m)) (σ.set i (.obj w (setAtA cs off news)))
  | .s2b _, [.v (.string s)] => s.size ≤ 9223372036854775807 ∧ K (.sl s.size (s.data.toList.map fun b => AV.v (.int .u8 b.toNat)) (.id σ.length 1 1)) (σ ++ [.tail 1])
  | _, _ => False
/-- Some objects are frozen, and some operands read; and so on. -/
def prepA : List (List Nat × List Bool) → List AV → St → List AV
  | [], as, _ => as
  | (is, fs) :: ss, as, σ => prepA ss (weak (freeze is σ) fs as) (freeze is σ)
def prepS : List (List Nat × List Bool) → St → St
  | [], σ => σ
  | (is, _) :: ss, σ => prepS ss (freeze is σ)
/-- An effect, once some objects were frozen, and some operands read. -/
def EF.awp (P : Program) (e : EF) (as : List AV) (σ : St) (K : AV → St → Prop) : Prop := ∃ ss, e.awp0 P (prepA ss as σ) (prepS ss σ) K
theorem EF.awp_of {P : Program} {e : EF} {as : List AV} {σ : St} {K : AV → St → Prop} (h : e.awp0 P as σ K) : e.awp P as σ K := ⟨[], h⟩
theorem EF.awp_step {P : Program} {e : EF} {as : List AV} {σ : St} {K : AV → St → Prop} (is : List Nat) (fs : List Bool) (h : e.awp P (weak (freeze is σ) fs as) (freeze is σ) K) : e.awp P as σ K := by
  obtain ⟨ss, h⟩ := h
  exact ⟨(is, fs) :: ss, h⟩

theorem repA_rel {G : Gh} {z : List AV} {w : List Value} (h : RelL G z w) (c : Nat) : RelL G (repA z c) (rep w c) := by
  unfold repA rep
  induction c with
  | zero => exact .nil G
  | succ c ih =>
    simp only [List.replicate_succ, List.flatten_cons]
    exact h.append ih
theorem flatCells_rel {G : Gh} : ∀ {as : List AV} {vs : List Value}, RelL G as vs → RelL G (as.flatMap AV.cells) (vs.flatMap (·.cells.toList)) := by
  intro as
  induction as with
  | nil => intro vs H; rw [H.nil_inv]; exact .nil G
  | cons a as ih =>
    intro vs H
    obtain ⟨u, us, rfl, h1, h2⟩ := H.cons_inv
    simp only [List.flatMap_cons]
    exact h1.cells.append (ih h2)
theorem ones_rel {G : Gh} {as : List AV} {vs : List Value} (H : RelL G as vs) (h : as.all AV.one = true) : ∀ v ∈ vs, v.oneCell' = true := by
  intro v hv
  obtain ⟨i, hi⟩ := List.mem_iff_getElem?.1 hv
  have hlt : i < as.length := by rw [← H.1]; exact (List.getElem?_eq_some_iff.1 hi).1
  have ha := List.getElem?_eq_getElem hlt
  rw [List.all_eq_true] at h
  exact (H.2 i _ _ ha hi).one (h _ (List.getElem_mem hlt))

theorem src_sound {base : Heap} {G : Gh} {h : Heap} {σ : St} (H : RelH base G h σ) {sz m : Nat} {y : AV} {news : List AV} {v : Value} (hs : srcA σ sz y = some (m, news)) (hm : news.length = m * sz) (hr : RelV G y v) :
    ∃ ws, srcV (hp h) sz v = some (m, ws) ∧ RelL G news ws := by
  unfold srcA at hs
  split at hs
  · cases hs
    cases hr with
    | sl _ _ _ a cap vs h1 h2 h3 h4 h5 h6 =>
      refine ⟨vs, ?_, h1, h2⟩
      rcases h5 with ⟨rfl, rfl⟩ | ⟨b, off, rfl, h5⟩
      · cases a with
        | none => rfl
        | some a =>
          obtain ⟨b, off, spot⟩ := a
          cases spot with
          | none => simp [srcV, cellsG]
          | some s => rfl
      · simp only [srcV]
        have := cellsG_of (g := hp h) (b := b) (l := vs) (off := off) (fun j u hu => H.st _ _ _ (h5 j u hu))
        rw [h1, hm] at this
        rw [this]
        rfl
  · rename_i i w off n sz'
    split at hs
    · rename_i hsz
      subst hsz
      cases hr with
      | ms _ _ _ _ _ l cap h1 h2 h3 h4 h5 =>
        have key : ∀ (cs : List AV), (∀ j a, cs[j]? = some a → ∃ u, cellG (hp h) l.b (l.off + j) = some u ∧ RelV G a u) → some (n, subA cs off (n * sz')) = some (m, news) → ∃ ws, srcV (hp h) sz' (.slice (some ⟨l.b, l.off + off, none⟩) n cap) = some (m, ws) ∧ RelL G news ws := by
          intro cs hcs e
          obtain ⟨rfl, rfl⟩ : n = m ∧ subA cs off (n * sz') = news := by simpa using e
          obtain ⟨ws, e1, e2⟩ := RelL.choose (Q := fun j u => cellG (hp h) l.b (l.off + off + j) = some u) (cs := subA cs off (n * sz')) (fun j a ha => by
            simp only [subA, List.getElem?_take] at ha
            split at ha
            · rw [List.getElem?_drop] at ha
              obtain ⟨u, hu, hr⟩ := hcs _ a ha
              exact ⟨u, by rw [Nat.add_assoc]; exact hu, hr⟩
            · cases ha)
          refine ⟨ws, ?_, e1⟩
          simp only [srcV]
          have := cellsG_of (g := hp h) (b := l.b) (l := ws) (off := l.off + off) e2
          rw [e1.1, hm] at this
          rw [this]
          rfl
        split at hs
        · rename_i w' cs hi
          split at hs
          · rename_i hw
            subst hw
            obtain ⟨l', k1, k2, k3, k4, k5⟩ := H.obj _ _ _ hi
            rw [h1] at k1
            cases k1
            exact key cs k5 hs
          · cases hs
        · rename_i w' cs hi
          split at hs
          · rename_i hw
            subst hw
            obtain ⟨l', k1, k2, k3⟩ := H.frz _ _ _ hi
            rw [h1] at k1
            cases k1
            exact key cs (fun j a ha => by obtain ⟨u, hu, hr⟩ := k3 j a ha; exact ⟨u, H.st _ _ _ hu, hr⟩) hs
          · cases hs
        · cases hs
    · cases hs
  · cases hs
    cases hr
    refine ⟨_, rfl, by simp, fun i a u ha hu => ?_⟩
    simp only [List.getElem?_map, Option.map_eq_some_iff] at ha hu
    obtain ⟨b, hb, rfl⟩ := ha
    obtain ⟨c, hc, rfl⟩ := hu
    rw [hb] at hc
    cases hc
    exact .v _
  · cases hs

theorem rep_length' (z : List Value) (c : Nat) : (rep z c).length = c * z.length := rep_length rfl c

theorem setAtA_length : ∀ (as cs : List AV) (off : Nat), (setAtA cs off as).length = cs.length := by
  intro as
  induction as with
  | nil => intro cs off; rfl
  | cons a as ih => intro cs off; simp [setAtA, ih]
theorem setAtA_get : ∀ (as cs : List AV) (off : Nat), off + as.length ≤ cs.length → ∀ j, (setAtA cs off as)[j]? = if off ≤ j ∧ j < off + as.length then as[j - off]? else cs[j]? := by
  intro as
  induction as with
  | nil => intro cs off _ j; simp [setAtA]; omega
  | cons a as ih =>
    intro cs off h j
    simp only [List.length_cons] at h
    simp only [setAtA]
    rw [ih _ _ (by simp; omega)]
    by_cases h1 : off + 1 ≤ j ∧ j < off + 1 + as.length
    · rw [if_pos h1, if_pos (by simp; omega)]
      rw [show j - off = (j - (off + 1)) + 1 by omega, List.getElem?_cons_succ]
    · rw [if_neg h1]
      by_cases h2 : j = off
      · subst h2
        rw [if_pos (by simp)]
        have : j < cs.length := by omega
        simp [this]
      · rw [if_neg (by simp only [List.length_cons]; omega), List.getElem?_set_ne (Ne.symm h2)]

theorem app_sound {P : Program} {E : TypeId} {sz by_ : Nat} {z : List Value} {base : Heap} {G : Gh} {h : Heap} {σ : St} (H : RelH base G h σ) {x : AV} {u v : Value} {m : Nat} {news : List AV} {ws : List Value} {K : AV → St → Prop} (hz : z.length = sz)
    (hsrc : srcV (hp h) sz v = some (m, ws)) (hr : RelL G news ws) (hm : news.length = m * sz) (hone : news.all AV.one = true) (hn : x.num + m ≤ 9223372036854775807) (hb : (x.num + m) * by_ ≤ 140737488355328) (hx : RelV G x u) (hA : AppA σ sz m news K x) :
    EF.wp P (.app E sz by_ z) [u, v] h fun r h' => ∃ G' a σ', Gh.le base.size G G' ∧ RelH base G' h' σ' ∧ RelV G' a r ∧ K a σ' := by
  have hws : ws.length = m * sz := by rw [hr.1, hm]
  have hwo := ones_rel hr hone
  -- a tail that holds these cells grows
  have tail : ∀ {base : Heap} {G : Gh} {σ : St} {n : Nat} {cs : List AV} {i w cap : Nat} {a : Option Addr}, RelH base G h σ → RelL G news ws → σ[i]? = some (.tail w) → cs.length = n * sz → n + m ≤ 9223372036854775807 → (n + m) * by_ ≤ 140737488355328 →
      RelV G (.sl n cs (.id i w sz)) (.slice a n cap) → EF.wp P (.app E sz by_ z) [.slice a n cap, v] h fun r h' => ∃ G' c σ', Gh.le base.size G G' ∧ RelH base G' h' σ' ∧ RelV G' c r ∧ c = .sl (n + m) (cs ++ news) (.id i (w + 1) sz) ∧ σ' = σ.set i (.tail (w + 1)) := by
    intro base G σ n cs i w cap a H hr hi hcs hn hb hx
    have hli : ∀ l, G.T i w = some l → locOf G σ i = some l := by intro l hl; unfold locOf; rw [hi]; exact hl
    cases hx with
    | sl _ _ _ _ _ vs h1 h2 h3 h4 h5 h6 =>
      obtain ⟨l, t1, t2, t3, t4, t5, t6⟩ := h6
      refine ⟨m, ws, hsrc, hws, ?_⟩
      by_cases hfit : n + m ≤ cap
      · rw [if_pos hfit]
        by_cases hnil : l.isnil = true
        · rw [if_pos hnil] at t6
          obtain ⟨rfl, rfl, rfl⟩ := t6
          have hm0 : m = 0 := by omega
          subst hm0
          have hw0 : ws = [] := List.eq_nil_of_length_eq_zero (by simpa using hws)
          have hn0 : news = [] := List.eq_nil_of_length_eq_zero (by simpa using hm)
          have hc0 : cs = [] := List.eq_nil_of_length_eq_zero (by simpa using hcs)
          subst hn0; subst hc0
          obtain ⟨k1, k2⟩ := H.turn hi rfl (w + 1) l (r' := .tail (w + 1)) rfl (by omega) (fun b o hh => by rw [Loc.has, hnil] at hh; simp at hh) (fun j q _ _ b o hh => by rw [Loc.has, hnil] at hh; simp at hh) (fun v ds hd => by cases hd)
          have hv0 : vs = [] := List.eq_nil_of_length_eq_zero (by simpa using h1)
          refine ⟨_, _, _, k1, k2, ?_, rfl, rfl⟩
          exact .sl _ _ _ _ _ [] rfl (fun i a u h => by simp at h) (by omega) (by omega) (.inl ⟨rfl, rfl⟩) ⟨l, Gh.put_self _ _ _ _, t2, t3, t4, t5, by rw [if_pos hnil]; exact ⟨rfl, rfl, rfl⟩⟩
        · have hnil' : l.isnil = false := by simpa using hnil
          rw [if_neg hnil] at t6
          subst t6
          simp only
          obtain ⟨h', G', e, k1, k2, k3, k4⟩ := H.growTail hi t1 hnil' ws hwo (by
            have : (n + m) * sz ≤ cap * sz := Nat.mul_le_mul_right _ hfit
            rw [Nat.add_mul] at this
            omega) (n + m)
          have hoff : l.off + n * sz = l.e := by omega
          rw [hoff]
          refine ⟨h', e, G', _, _, k1, k2, ?_, rfl, rfl⟩
          have hrl := (show RelL G cs vs from ⟨h1, h2⟩).mono k1 |>.append (hr.mono k1)
          refine .sl _ _ _ _ _ (vs ++ ws) hrl.1 hrl.2 hfit h4 (.inr ⟨_, _, rfl, ?_⟩) ⟨_, k4, rfl, ?_, t4, t5, ?_⟩
          · intro j y hy
            by_cases hj : j < vs.length
            · rw [List.getElem?_append_left hj] at hy
              rcases h5 with ⟨_, rfl⟩ | ⟨b, off, e1, e2⟩
              · simp at hj
              · cases e1; exact k1.g _ _ _ (e2 j y hy)
            · rw [List.getElem?_append_right (by omega)] at hy
              have := k3 _ y hy
              rwa [show l.e + (j - vs.length) = l.off + j by omega] at this
          · simp only [List.length_append]; rw [hr.1]; omega
          · simp
      · rw [if_neg hfit]
        have holds : srcV (hp h) sz (.slice a n cap) = some (n, vs) := by
          rcases h5 with ⟨rfl, rfl⟩ | ⟨b, off, rfl, h5⟩
          · cases a with
            | none => rfl
            | some a =>
              obtain ⟨b, off, spot⟩ := a
              cases spot with
              | none => simp [srcV, cellsG]
              | some s => rfl
          · simp only [srcV]
            have := cellsG_of (g := hp h) (b := b) (l := vs) (off := off) (fun j u hu => H.st _ _ _ (h5 j u hu))
            rw [h1, hcs] at this
            rw [this]
            rfl
        refine ⟨hn, hb, vs, holds, by rw [h1, hcs], ?_⟩
        intro c hc1 hc2
        obtain ⟨G', k1, k2, k3, k4⟩ := H.moveTail hi (vs ++ ws) (rep z (c - (n + m))) E (n + m) c
        refine ⟨G', _, _, k1, k2, ?_, rfl, rfl⟩
        have hrl := (show RelL G cs vs from ⟨h1, h2⟩).mono k1 |>.append (hr.mono k1)
        refine .sl _ _ _ _ _ (vs ++ ws) hrl.1 hrl.2 hc1 (by omega) (.inr ⟨_, _, rfl, k3⟩) ⟨_, k4, rfl, ?_, rfl, ?_, ?_⟩
        · simp only [List.length_append, Nat.zero_add, h1, hr.1]
        · simp only [List.length_append, Nat.zero_add, h1, hcs, hws, rep_length', hz, ← Nat.add_mul]
          congr 1; omega
        · simp
  -- the new slice's tail is nobody's
  have drop : ∀ {n cap : Nat} {cs : List AV} {t : Tok} {a : Option Addr}, cs.length = n * sz → n + m ≤ 9223372036854775807 → (n + m) * by_ ≤ 140737488355328 → n = cap → (∀ s, a = some s → s.spot = none) → RelV G (.sl n cs t) (.slice a n cap) →
      EF.wp P (.app E sz by_ z) [.slice a n cap, v] h fun r h' => ∃ G' c σ', Gh.le base.size G G' ∧ RelH base G' h' σ' ∧ RelV G' c r ∧ c = .sl (n + m) (cs ++ news) .none ∧ σ' = σ := by
    intro n cap cs t a hcs hn hb hcap hsp hx
    cases hx with
    | sl _ _ _ _ _ vs h1 h2 h3 h4 h5 h6 =>
      refine ⟨m, ws, hsrc, hws, ?_⟩
      by_cases hfit : n + m ≤ cap
      · rw [if_pos hfit]
        have hm0 : m = 0 := by omega
        subst hm0
        have hw0 : ws = [] := List.eq_nil_of_length_eq_zero (by simpa using hws)
        have hn0 : news = [] := List.eq_nil_of_length_eq_zero (by simpa using hm)
        subst hn0; subst hw0
        have hrel : RelV G (.sl (n + 0) (cs ++ []) .none) (.slice a (n + 0) cap) := by
          rw [List.append_nil]
          exact .sl _ _ _ _ _ vs h1 h2 h3 h4 h5 trivial
        rcases h5 with ⟨rfl, rfl⟩ | ⟨b, off, rfl, h5⟩
        · cases a with
          | none => exact ⟨G, _, _, .refl _ _, H, hrel, rfl, rfl⟩
          | some a =>
            obtain ⟨b, off, spot⟩ := a
            cases spot with
            | none => exact ⟨h, rfl, G, _, _, .refl _ _, H, hrel, rfl, rfl⟩
            | some s => exact absurd (hsp _ rfl) (by simp)
        · exact ⟨h, rfl, G, _, _, .refl _ _, H, hrel, rfl, rfl⟩
      · rw [if_neg hfit]
        have holds : srcV (hp h) sz (.slice a n cap) = some (n, vs) := by
          rcases h5 with ⟨rfl, rfl⟩ | ⟨b, off, rfl, h5⟩
          · cases a with
            | none => rfl
            | some a =>
              obtain ⟨b, off, spot⟩ := a
              cases spot with
              | none => simp [srcV, cellsG]
              | some s => rfl
          · simp only [srcV]
            have := cellsG_of (g := hp h) (b := b) (l := vs) (off := off) (fun j u hu => H.st _ _ _ (h5 j u hu))
            rw [h1, hcs] at this
            rw [this]
            rfl
        refine ⟨hn, hb, vs, holds, by rw [h1, hcs], ?_⟩
        intro c hc1 hc2
        obtain ⟨k1, k2, k3⟩ := H.newPub (vs ++ ws) (rep z (c - (n + m))) E
        have hrl := (show RelL G cs vs from ⟨h1, h2⟩).mono k1 |>.append (hr.mono k1)
        exact ⟨_, _, _, k1, k2, .sl (n + m) (cs ++ news) .none _ _ (vs ++ ws) hrl.1 hrl.2 hc1 (by omega) (.inr ⟨_, _, rfl, k3⟩) trivial, rfl, rfl⟩
  unfold AppA at hA
  split at hA
  · rename_i n cs t
    obtain ⟨hcs, hA⟩ := hA
    simp only [AV.num] at hn hb
    split at hA
    · -- nil
      have hx' := hx
      cases hx' with
      | sl _ _ _ a cap vs h1 h2 h3 h4 h5 h6 =>
        obtain ⟨rfl, rfl, rfl⟩ := h6
        rcases hA with hA | ⟨hmp, hA⟩ | hA
        · obtain ⟨G1, k1, k2, k3⟩ := H.newTail ⟨0, 0, 0, 0, cs.length, 0, true⟩ (fun b o hh => by simp [Loc.has] at hh)
          have hc0 : cs = [] := List.eq_nil_of_length_eq_zero (by simpa using hcs)
          subst hc0
          refine EF.wp_mono ?_ (tail (i := σ.length) (w := 0) (cs := []) k2 (hr.mono k1) (by simp) (by simp) hn hb (.sl _ _ _ _ _ [] rfl (fun i a u h => by simp at h) (Nat.le_refl _) (by omega) (.inl ⟨rfl, rfl⟩) ⟨_, k3, rfl, rfl, rfl, by simp, by simp⟩))
          rintro r h' ⟨G', c, σ', g1, g2, g3, rfl, rfl⟩
          exact ⟨G', _, _, k1.trans g1, g2, g3, by simpa using hA⟩
        · refine ⟨m, ws, hsrc, hws, ?_⟩
          rw [if_neg (by omega)]
          refine ⟨hn, hb, [], rfl, by simp, ?_⟩
          intro c hc1 hc2
          obtain ⟨G', l, k1, k2, k3, k4, k5, k6, k7⟩ := H.newObj ws (rep z (c - (0 + m))) news E hr
          refine ⟨G', _, _, k1, by simpa using k2, ?_, hA⟩
          have := RelV.ms (G := G') σ.length 0 0 m sz l c k3 k6 (by omega) (by omega) (by
            rw [k5, k7, hws, rep_length', hz, ← Nat.add_mul]
            simp only [Nat.zero_add]
            congr 1; omega)
          rw [k4, k5] at this
          simpa using this
        · refine EF.wp_mono ?_ (drop hcs hn hb rfl (fun s hs => by cases hs) hx)
          rintro r h' ⟨G', c, σ', g1, g2, g3, rfl, rfl⟩
          exact ⟨G', _, _, g1, g2, g3, hA⟩
    · -- full
      have hx' := hx
      cases hx with
      | sl _ _ _ a cap vs h1 h2 h3 h4 h5 h6 =>
        obtain ⟨rfl, b, off, rfl⟩ := h6
        rcases hA with hA | hA
        rotate_left
        · refine EF.wp_mono ?_ (drop hcs hn hb rfl (fun s hs => by cases hs; rfl) hx')
          rintro r h' ⟨G', c, σ', g1, g2, g3, rfl, rfl⟩
          exact ⟨G', _, _, g1, g2, g3, hA⟩
        obtain ⟨G1, k1, k2, k3⟩ := H.newTail ⟨b, off, n, n, off + cs.length, off + n * sz, false⟩ (fun b o hh => by simp only [Loc.has] at hh; omega)
        refine EF.wp_mono ?_ (tail (i := σ.length) (w := 0) k2 (hr.mono k1) (by simp) hcs hn hb (.sl _ _ _ _ _ vs h1 (fun i a u ha hu => (h2 i a u ha hu).mono k1) h3 h4 (h5.mono k1.g) ⟨_, k3, rfl, rfl, rfl, rfl, by simp⟩))
        rintro r h' ⟨G', c, σ', g1, g2, g3, rfl, rfl⟩
        exact ⟨G', _, _, k1.trans g1, g2, g3, by simpa using hA⟩
    · rename_i i w s
      obtain ⟨rfl, hi, hA⟩ := hA
      have hx' := hx
      cases hx with
      | sl _ _ _ a cap vs h1 h2 h3 h4 h5 h6 =>
        refine EF.wp_mono ?_ (tail H hr hi hcs hn hb hx')
        rintro r h' ⟨G', c, σ', g1, g2, g3, rfl, rfl⟩
        exact ⟨G', _, _, g1, g2, g3, hA⟩
    · exact hA.elim
  · rename_i i w off n s
    obtain ⟨rfl, rfl, cs, hi, hnc, hA⟩ := hA
    simp only [AV.num] at hn hb
    cases hx with
    | ms _ _ _ _ _ l cap h1 h2 h3 h4 h5 =>
      obtain ⟨l', e1, e2, e3, e4, e5⟩ := H.obj _ _ _ hi
      rw [h1] at e1
      cases e1
      refine ⟨m, ws, hsrc, hws, ?_⟩
      obtain ⟨vs, f1, f2⟩ := RelL.choose (Q := fun j u => cellG (hp h) l.b (l.off + j) = some u) (cs := cs.take (n * s)) (fun j a ha => by
        simp only [List.getElem?_take] at ha
        split at ha
        · exact e5 j a ha
        · cases ha)
      have hvl : vs.length = n * s := by rw [f1.1]; simp; omega
      by_cases hfit : n + m ≤ cap
      · rw [if_pos hfit]
        simp only [Nat.add_zero]
        have hli : locOf G σ i = some l := by unfold locOf; rw [hi]; exact h1
        have hroom : (n + m) * s ≤ cap * s := Nat.mul_le_mul_right _ hfit
        rw [Nat.add_mul] at hroom
        obtain ⟨h', e, S⟩ := stL_spec ws (h := h) (b := l.b) (off := l.off + n * s) (fun j hj => (H.own i l hli l.b _ ⟨h2, rfl, by omega, by omega⟩).2.1) hwo
        have hst := H.storeObj (cs' := cs.take (n * s) ++ news) hi h1 (off := n * s) (vs := ws) (by omega) S (fun hz => by subst hz; simp [stL] at e; exact e.symm) (by
            simp only [List.length_append, List.length_take, Nat.min_eq_left hnc, hm]
            omega) (fun j a ha => by
          by_cases hj : j < n * s
          · rw [List.getElem?_append_left (by simp; omega)] at ha
            simp only [List.getElem?_take, hj, if_true] at ha
            obtain ⟨u, hu, hv⟩ := e5 j a ha
            exact ⟨u, by rw [S.old _ _ (by omega)]; exact hu, hv⟩
          · rw [List.getElem?_append_right (by simp; omega)] at ha
            simp only [List.length_take, Nat.min_eq_left hnc] at ha
            obtain ⟨u, hu, hv⟩ := hr.get ha
            refine ⟨u, ?_, hv⟩
            have := S.new _ u hu
            rwa [show l.off + n * s + (j - n * s) = l.off + j by omega] at this)
        have hlt : i < σ.length := (List.getElem?_eq_some_iff.1 hi).1
        obtain ⟨G', k1, k2, k3⟩ := hst.bump (i := i) (w := w) (cs := cs.take (n * s) ++ news) (by simp [hlt]) h1
        refine ⟨h', e, G', _, _, k1, by simpa using k2, ?_, hA⟩
        have := RelV.ms (G := G') i (w + 1) 0 (n + m) s l cap k3 h2 hfit h4 h5
        simpa using this
      · rw [if_neg hfit]
        refine ⟨hn, hb, vs, ?_, hvl, ?_⟩
        · simp only [srcV, Nat.add_zero]
          have := cellsG_of (g := hp h) (b := l.b) (l := vs) (off := l.off) f2
          rw [hvl] at this
          rw [this]
          rfl
        · intro c hc1 hc2
          obtain ⟨G', l', k1, k2, k3, k4, k5, k6, k7⟩ := H.moveObj hi (vs ++ ws) (rep z (c - (n + m))) (cs.take (n * s) ++ news) E (f1.append hr)
          refine ⟨G', _, _, k1, k2, ?_, hA⟩
          have := RelV.ms (G := G') i (w + 1) 0 (n + m) s l' c k3 k6 hc1 (by omega) (by
            rw [k5, k7, List.length_append, hvl, hws, rep_length', hz, ← Nat.add_mul, ← Nat.add_mul]
            simp only [Nat.zero_add]
            congr 1; omega)
          rw [k4, k5] at this
          simpa using this
  · exact hA.elim

theorem srcV_slice {g : Nat → Option Obj} {sz n c m : Nat} {a : Option Addr} {l : List Value} (h : srcV g sz (.slice a n c) = some (m, l)) :
    n = m ∧ cpyV g sz m l a := by
  cases a with
  | none =>
    simp [srcV] at h
    refine ⟨h.1, ?_⟩
    simp only [cpyV]
    first | exact h.2 | exact h.2.symm
  | some a =>
    obtain ⟨b, off, spot⟩ := a
    cases spot with
    | none =>
      simp only [srcV, Option.map_eq_some_iff, Prod.mk.injEq] at h
      obtain ⟨x, h1, rfl, rfl⟩ := h
      exact ⟨rfl, h1⟩
    | some t =>
      cases n with
      | zero => simp [srcV] at h; obtain ⟨rfl, rfl⟩ := h; exact ⟨rfl, rfl, rfl⟩
      | succ k => simp [srcV] at h

/-- Where a block's frozen span lies behind its cells, it is as one with none. -/
theorem RelH.refz {base : Heap} {G : Gh} {h : Heap} {σ : St} {c : Array Value} {E : TypeId} (hs : base.size ≤ h.size) (H : RelH base G (h.push (.cells c E (0, 0))) σ) (k k' : Nat) (hk : c.size ≤ k) : RelH base G (h.push (.cells c E (k, k'))) σ := by
  have hc : ∀ b o, cellG (hp (h.push (.cells c E (k, k')))) b o = cellG (hp (h.push (.cells c E (0, 0)))) b o := by
    intro b o
    unfold cellG hp
    rw [Array.getElem?_push, Array.getElem?_push]
    by_cases hb : b = h.size
    · rw [if_pos hb, if_pos hb]
    · rw [if_neg hb, if_neg hb]
  have hw : ∀ b o, Wr (h.push (.cells c E (0, 0))) b o → Wr (h.push (.cells c E (k, k'))) b o := by
    rintro b o ⟨c', E', fz, h1, h2, h3⟩
    rw [Array.getElem?_push] at h1
    by_cases hb : b = h.size
    · rw [if_pos hb] at h1
      cases h1
      exact ⟨c, E, (k, k'), by rw [Array.getElem?_push, if_pos hb], h2, by simp only; omega⟩
    · rw [if_neg hb] at h1
      exact ⟨c', E', fz, by rw [Array.getElem?_push, if_neg hb]; exact h1, h2, h3⟩
  refine ⟨H.tab, by simp; omega, fun b hb => ?_, fun b o u hu => by rw [hc]; exact H.st b o u hu, fun i w cs hi => ?_, H.frz, fun i l hl b o hh => ?_, H.disj, H.bd, H.maps.mono (fun _ _ _ h => h) (fun _ _ _ h => h) (fun _ _ _ h => h) fun b o ho hb => ?_⟩
  · have := H.keep b hb
    rw [get_push (by omega)] at this ⊢
    exact this
  · obtain ⟨l, h1, h2, h3, h4, h5⟩ := H.obj i w cs hi
    refine ⟨l, h1, h2, h3, h4, fun j a ha => ?_⟩
    obtain ⟨u, h6, h7⟩ := h5 j a ha
    exact ⟨u, by rw [hc]; exact h6, h7⟩
  · obtain ⟨h1, h2, h3⟩ := H.own i l hl b o hh
    exact ⟨h1, hw b o h2, h3⟩
  · rw [Array.getElem?_push] at hb ⊢
    by_cases hbe : b = h.size
    · rw [if_pos hbe] at hb
      cases hb
      cases ho
    · rw [if_neg hbe] at hb ⊢
      exact hb

theorem ef_sound0 {P : Program} {base : Heap} {G : Gh} {h : Heap} {σ : St} (H : RelH base G h σ) {e : EF} {as : List AV} {vs : List Value} {K : AV → St → Prop} (hL : RelL G as vs) (he : e.awp0 P as σ K) :
    e.wp P vs h fun r h' => ∃ G' a σ', Gh.le base.size G G' ∧ RelH base G' h' σ' ∧ RelV G' a r ∧ K a σ' := by
  have one : ∀ {x : AV}, RelL G [x] vs → ∃ u, vs = [u] ∧ RelV G x u := by
    intro x H
    obtain ⟨u, us, rfl, h1, H1⟩ := H.cons_inv
    rw [H1.nil_inv]
    exact ⟨u, rfl, h1⟩
  have two : ∀ {x y : AV}, RelL G [x, y] vs → ∃ u w, vs = [u, w] ∧ RelV G x u ∧ RelV G y w := by
    intro x y H
    obtain ⟨u, us, rfl, h1, H1⟩ := H.cons_inv
    obtain ⟨w, ws, rfl, h2, H2⟩ := H1.cons_inv
    rw [H2.nil_inv]
    exact ⟨u, w, rfl, h1, h2⟩
  unfold EF.awp0 at he
  split at he
  · -- new
    rename_i T z
    rw [hL.nil_inv]
    obtain ⟨G', l, k1, k2, k3, k4, k5, k6, k7⟩ := H.newObj z [] (z.map abs1) T (RelL.abs1s G z)
    refine ⟨G', _, _, k1, by simpa using k2, ?_, he⟩
    have := RelV.ref (G := G') σ.length 0 0 l k3 k6
    rw [k4, k5] at this
    exact this
  · rename_i T a
    obtain ⟨u, rfl, hu⟩ := one hL
    obtain ⟨G', l, k1, k2, k3, k4, k5, k6, k7⟩ := H.newObj u.cells.toList [] a.cells T hu.cells
    refine ⟨G', _, _, k1, by simpa using k2, ?_, he⟩
    have := RelV.ref (G := G') σ.length 0 0 l k3 k6
    rw [k4, k5] at this
    exact this
  · -- store
    rename_i n i w off a
    obtain ⟨u, v, rfl, hu, hv⟩ := two hL
    obtain ⟨h1, h2, cs, hi, hin, hk⟩ := he
    cases hu with
    | ref _ _ _ l e1 e2 =>
      obtain ⟨l', f1, f2, f3, f4, f5⟩ := H.obj _ _ _ hi
      rw [e1] at f1
      cases f1
      have hli : locOf G σ i = some l := by unfold locOf; rw [hi]; exact e1
      have hcl := hv.cells
      have hlen : v.cells.toList.length = n := by rw [hcl.1]; exact h1
      obtain ⟨h', e, S⟩ := stL_spec v.cells.toList (h := h) (b := l.b) (off := l.off + off) (fun j hj => (H.own i l hli l.b _ ⟨e2, rfl, by omega, by omega⟩).2.1) (ones_rel hcl h2)
      refine ⟨by simpa using hlen, h', e, G, _, _, .refl _ _, ?_, .v _, hk⟩
      refine H.storeObj hi e1 (off := off) (vs := v.cells.toList) (by omega) S (fun hz => by rw [hz] at e; simp [stL] at e; exact e.symm) (by rw [setAtA_length]; exact f4) ?_
      intro j b hb
      rw [setAtA_get _ _ _ (by omega)] at hb
      split at hb
      · obtain ⟨x, hx, hr⟩ := hcl.get hb
        refine ⟨x, ?_, hr⟩
        have := S.new _ x hx
        rwa [show l.off + off + (j - off) = l.off + j by omega] at this
      · obtain ⟨x, hx, hr⟩ := f5 j b hb
        refine ⟨x, ?_, hr⟩
        rw [S.old _ _ (by omega)]; exact hx
  · -- literal slice
    rename_i E sz
    obtain ⟨h1, h2, he⟩ := he
    have hfl := flatCells_rel hL
    have hcl : ∀ v ∈ vs, v.cells.size = sz := by
      intro v hv
      obtain ⟨i, hi⟩ := List.mem_iff_getElem?.1 hv
      have hlt : i < as.length := by rw [← hL.1]; exact (List.getElem?_eq_some_iff.1 hi).1
      have := (hL.2 i _ _ (List.getElem?_eq_getElem hlt) hi).cells.1
      rw [h1 _ (List.getElem_mem hlt)] at this
      simpa using this
    have key : (∀ v ∈ vs, v.cells.size = sz) ∧ ∃ G' a σ', Gh.le base.size G G' ∧ RelH base G' (h.push (.cells (vs.flatMap (·.cells.toList)).toArray E (0, 0))) σ' ∧ RelV G' a (.slice (some ⟨h.size, 0, none⟩) vs.length vs.length) ∧ K a σ' := by
      refine ⟨hcl, ?_⟩
      rcases he with he | he
      · obtain ⟨k1, k2, k3⟩ := H.newPub (vs.flatMap (·.cells.toList)) [] E
        refine ⟨_, _, _, k1, by simpa using k2, ?_, he⟩
        have hf2 := hfl.mono k1
        rw [← hL.1]
        exact .sl _ _ _ _ _ _ hf2.1 hf2.2 (Nat.le_refl _) (by rw [hL.1]; exact h2) (.inr ⟨_, _, rfl, k3⟩) ⟨rfl, _, _, rfl⟩
      · obtain ⟨G', l, k1, k2, k3, k4, k5, k6, k7⟩ := H.newObj (vs.flatMap (·.cells.toList)) [] _ E hfl
        refine ⟨G', _, _, k1, by simpa using k2, ?_, he⟩
        have := RelV.ms (G := G') σ.length 0 0 as.length sz l vs.length k3 k6 (by rw [hL.1]; exact Nat.le_refl _) (by rw [hL.1]; exact h2) (by
          rw [k5, k7, flat_cells vs hcl]; simp)
        rw [k4, k5] at this
        rw [← hL.1] at this ⊢
        exact this
    cases vs <;> exact key
  · -- make
    rename_i E sz by_ z k l k' c
    obtain ⟨u, v, rfl, hu, hv⟩ := two hL
    cases hu; cases hv
    obtain ⟨hz, h0, h1, h2, h3, hk⟩ := he
    refine ⟨h0, h1, h2, h3, ?_⟩
    obtain ⟨G', loc, k1, k2, k3, k4, k5, k6, k7⟩ := H.newObj (rep z c.toNat) [] (repA (z.map abs1) c.toNat) E (repA_rel (RelL.abs1s G z) _)
    refine ⟨G', _, _, k1, by simpa using k2, ?_, hk⟩
    have := RelV.ms (G := G') σ.length 0 0 l.toNat sz loc c.toNat k3 k6 (by omega) (by omega) (by rw [k5, k7, rep_length', hz]; simp)
    rw [k4, k5] at this
    exact this
  · -- append
    rename_i E sz by_ z x y
    obtain ⟨u, v, rfl, hu, hv⟩ := two hL
    obtain ⟨hz, m, news, hs, hm, hone, hn, hb, hA⟩ := he
    obtain ⟨ws, hsrc, hr⟩ := src_sound H hs hm hv
    exact app_sound H hz hsrc hr hm hone hn hb hu hA
  · -- call
    rename_i f
    have key : FnC P f vs.toArray h fun r h' => ∃ G' a σ', Gh.le base.size G G' ∧ RelH base G' h' σ' ∧ RelV G' a r ∧ K a σ' := he base G h vs H hL
    cases vs <;> exact key
  · rename_i f k xs as
    obtain ⟨hok, hf⟩ := he
    obtain ⟨u, us, rfl, hu, hus⟩ := hL.cons_inv
    cases hu with
    | fn _ _ _ ys e1 e2 =>
      have hys : RelL G xs ys := ⟨e1, e2⟩
      refine ⟨hok, ?_⟩
      have := hf base G h (ys.take k ++ us ++ ys.drop k) H (((hys.take k).append hus).append (hys.drop k))
      have e : (ys.take k).toArray ++ us.toArray ++ (ys.drop k).toArray = (ys.take k ++ us ++ ys.drop k).toArray := by simp
      rw [e]
      exact this
  · -- a new map
    rw [hL.nil_inv]
    obtain ⟨k1, k2⟩ := H.newMi (x := .map []) (o := .map #[] 0) rfl fun _ => trivial
    exact ⟨_, _, _, k1, k2, .mp _ _ (Gh.put_self _ _ _ _) rfl, he⟩
  · -- an entry
    rename_i ck i k x
    obtain ⟨u1, us1, rfl, hu1, H1⟩ := hL.cons_inv
    obtain ⟨u2, u3, rfl, hu2, hu3⟩ : ∃ u w, us1 = [u, w] ∧ RelV G (.v k) u ∧ RelV G x w := by
      obtain ⟨u, us, rfl, h1, H1⟩ := H1.cons_inv
      obtain ⟨w, ws, rfl, h2, H2⟩ := H1.cons_inv
      rw [H2.nil_inv]
      exact ⟨u, w, rfl, h1, h2⟩
    obtain ⟨es, hi, ys, hp, hk⟩ := he
    cases hu2
    cases hu1 with
    | mp _ l h1 h2 =>
      obtain ⟨l0, m1, _, _, _, ob, m4, m5⟩ := H.maps.mp i _ rfl hi
      rw [h1] at m1; cases m1
      obtain ⟨en, c, rfl, m5⟩ := m5.ofMap
      refine ⟨en, c, m4, ?_⟩
      rcases putM_find hu3 (i := 0) m5 hp with ⟨j, e, f1, f2, f3⟩ | ⟨f1, f2⟩
      · refine .inl ⟨0 + j, e, f1, f2, G, _, _, .refl _ _, H.setMi rfl hi h1 (o' := .map (en.modify (0 + j) fun e => { e with key := k, val := u3 }) c) rfl ?_, .v _, hk⟩
        show KvRel _ _ _
        rw [Nat.zero_add, Array.toList_modify]
        exact f3
      · refine .inr ⟨f1, G, _, _, .refl _ _, H.setMi rfl hi h1 (o' := .map (en.push { key := k, val := u3, born := c }) (c + 1)) rfl ?_, .v _, hk⟩
        show KvRel _ _ _
        rw [Array.toList_push]
        exact f2 c
  · -- what a map has
    rename_i ck z i k
    obtain ⟨u, v, rfl, hu, hv⟩ := two hL
    obtain ⟨es, hi, w, hg, hk⟩ := he
    cases hv
    cases hu with
    | mp _ l h1 h2 =>
      obtain ⟨l0, m1, _, _, _, ob, m4, m5⟩ := H.maps.mp i _ rfl hi
      rw [h1] at m1; cases m1
      obtain ⟨en, c, rfl, m5⟩ := m5.ofMap
      obtain ⟨q, f1, f2⟩ := getM_find (RelV.absV G z) (i := 0) m5 hg
      exact ⟨en, c, m4, q, f1, G, _, σ, .refl _ _, H, f2, hk⟩
  · -- a string to range over
    rename_i s
    obtain ⟨u, rfl, hu⟩ := one hL
    cases hu
    obtain ⟨k1, k2⟩ := H.newMi (x := .itr s 0) (o := .stringIter s 0) rfl fun _ => ⟨rfl, rfl⟩
    exact ⟨_, _, _, k1, k2, .ref _ 0 0 ⟨h.size, 0, 0, 0, 0, 0, false⟩ (Gh.put_self _ _ _ _) rfl, he⟩
  · -- its next rune
    rename_i i w off
    obtain ⟨u, rfl, hu⟩ := one hL
    obtain ⟨rfl, rfl, s, pos, hi, he⟩ := he
    cases hu with
    | ref _ _ _ l h1 h2 =>
      obtain ⟨l0, m1, _, _, m0, ob, m4, m5⟩ := H.maps.mp i _ rfl hi
      rw [h1] at m1; cases m1
      cases m5.ofItr
      rw [m0]
      refine ⟨s, pos, m4, ?_⟩
      have tt : ∀ (as : List AV) (vs : List Value), RelL G as vs → RelV G (.tup as) (.tuple vs.toArray) := fun as vs hl => .tup _ _ hl.1 hl.2
      split at he <;> rename_i hc
      · rw [if_pos hc]
        refine ⟨G, _, _, .refl _ _, H.setMi rfl hi h1 (o' := .stringIter s (pos + (Utf8.decode s pos).2)) (es' := .itr s (pos + (Utf8.decode s pos).2)) rfl ⟨rfl, rfl⟩, ?_, he⟩
        exact tt _ [.bool true, .int .i64 pos, .int .i32 (Utf8.decode s pos).1] (.cons (.v _) (.cons (.v _) (.cons (.v _) (.nil G))))
      · rw [if_neg hc]
        exact ⟨G, _, _, .refl _ _, H, tt _ [.bool false] (.cons (.v _) (.nil G)), he⟩
  · -- bytes as a string
    rename_i x
    obtain ⟨u, rfl, hu⟩ := one hL
    obtain ⟨h1, n, bs, h2, h3, hk⟩ := he
    obtain ⟨a, n', c, rfl⟩ := isSl_rel h1 hu
    obtain ⟨ws, e1, e2⟩ := src_sound H h2 (by simpa using h3) hu
    have hw : ws = bs.map fun b => Value.int .u8 b.toNat := by
      apply List.ext_getElem?
      intro j
      have hlen := e2.1
      by_cases hj : j < bs.length
      · have hj2 : j < ws.length := by rw [hlen]; simpa using hj
        have ha : (bs.map fun b => AV.v (.int .u8 b.toNat))[j]? = some (.v (.int .u8 (bs[j]'hj).toNat)) := by simp [hj]
        have hv := e2.2 j _ _ ha (List.getElem?_eq_getElem hj2)
        rw [List.getElem?_eq_getElem hj2, List.getElem?_map, List.getElem?_eq_getElem hj]
        revert hv
        generalize ws[j] = z
        intro hv
        cases hv
        rfl
      · rw [List.getElem?_eq_none (by rw [hlen]; simpa using hj), List.getElem?_eq_none (by simpa using hj)]
    subst hw
    have hn : n' = n := (srcV_slice e1).1
    subst hn
    exact ⟨n', bs, ⟨a, c, rfl⟩, e1, G, _, σ, .refl _ _, H, .v _, hk⟩
  · -- copied
    rename_i sz i w off n s y
    obtain ⟨u, v, rfl, hu, hv⟩ := two hL
    obtain ⟨rfl, hsl, m, news, h1, h2, h3, hmn, cs, hi, hin, hk⟩ := he
    obtain ⟨ws, e1, e2⟩ := src_sound H h1 h2 hv
    obtain ⟨a, m', c, rfl⟩ := isSl_rel hsl hv
    have hwl : ws.length = m * s := by rw [e2.1]; exact h2
    cases hu with
    | ms _ _ _ _ _ l cap g1 g2 g3 g4 g5 =>
      obtain ⟨l', f1, f2, f3, f4, f5⟩ := H.obj _ _ _ hi
      rw [g1] at f1
      cases f1
      have hli : locOf G σ i = some l := by unfold locOf; rw [hi]; exact g1
      obtain ⟨h', e, S⟩ := stL_spec ws (h := h) (b := l.b) (off := l.off + off) (fun j hj => (H.own i l hli l.b _ ⟨g2, rfl, by omega, by omega⟩).2.1) (ones_rel e2 h3)
      refine ⟨ws, ?_, h', e, ?_⟩
      · obtain ⟨rfl, hs⟩ := srcV_slice e1
        rw [Nat.min_eq_left hmn]
        exact hs
      · have hm : min m' n = m := by rw [(srcV_slice e1).1]; exact Nat.min_eq_left hmn
        rw [hm]
        refine ⟨G, _, _, .refl _ _, ?_, .v _, hk⟩
        refine H.storeObj hi g1 (off := off) (vs := ws) (by omega) S (fun hz => by rw [hz] at e; simp [stL] at e; exact e.symm) (by rw [setAtA_length]; exact f4) ?_
        intro j b hb
        rw [setAtA_get _ _ _ (by omega)] at hb
        split at hb
        · obtain ⟨x, hx, hr⟩ := e2.get hb
          refine ⟨x, ?_, hr⟩
          have := S.new _ x hx
          rwa [show l.off + off + (j - off) = l.off + j by omega] at this
        · obtain ⟨x, hx, hr⟩ := f5 j b hb
          refine ⟨x, ?_, hr⟩
          rw [S.old _ _ (by omega)]; exact hx
  · -- a string as bytes
    rename_i E s
    obtain ⟨u, rfl, hu⟩ := one hL
    cases hu
    obtain ⟨h1, hk⟩ := he
    refine ⟨h1, fun c hc1 hc2 => ?_⟩
    have hsz : s.data.toList.length = s.size := rfl
    obtain ⟨G1, k1, k2, k3⟩ := H.newTail ⟨0, 0, 0, 0, 0, 0, true⟩ (fun b o hh => by simp [Loc.has] at hh)
    obtain ⟨G2, g1, g2, g3, g4⟩ := k2.moveTail (i := σ.length) (w := 0) (by simp) (s.data.toList.map fun b => Value.int .u8 b.toNat) (rep [.int .u8 0] (c - s.size)) E s.size c
    have hcs : ((s.data.toList.map fun b => Value.int .u8 b.toNat) ++ rep [.int .u8 0] (c - s.size)).toArray.size = c := by
      simp [rep_length' _ _]
      omega
    refine ⟨G2, _, _, k1.trans g1, g2.refz H.size c (c + 1) (by omega), ?_, by simpa using hk⟩
    refine .sl _ _ _ _ _ (s.data.toList.map fun b => Value.int .u8 b.toNat) (by simp) (fun i a u ha hu => ?_) hc1 (by omega) (.inr ⟨_, _, rfl, g3⟩) ⟨_, g4, rfl, ?_, rfl, ?_, ?_⟩
    · simp only [List.getElem?_map, Option.map_eq_some_iff] at ha hu
      obtain ⟨b, hb, rfl⟩ := ha
      obtain ⟨d, hd, rfl⟩ := hu
      rw [hb] at hd
      cases hd
      exact .v _
    · simp
    · simp only [rep_length', List.length_map, hsz, List.length_cons, List.length_nil]
      omega
    · simp
  · exact he.elim

theorem ef_sound {P : Program} {base : Heap} {G : Gh} {h : Heap} {σ : St} (H : RelH base G h σ) {e : EF} {as : List AV} {vs : List Value} {K : AV → St → Prop} (hL : RelL G as vs) (he : e.awp P as σ K) :
    e.wp P vs h fun r h' => ∃ G' a σ', Gh.le base.size G G' ∧ RelH base G' h' σ' ∧ RelV G' a r ∧ K a σ' := by
  obtain ⟨ss, he⟩ := he
  induction ss generalizing G σ as with
  | nil => exact ef_sound0 H hL he
  | cons s ss ih =>
    obtain ⟨is, fs⟩ := s
    obtain ⟨G1, k1, H1⟩ := H.freeze is
    refine EF.wp_mono ?_ (ih H1 (weak_rel H1 fs (hL.mono k1)) he)
    rintro r h' ⟨G', a, σ', g1, g2, g3, g4⟩
    exact ⟨G', a, σ', k1.trans g1, g2, g3, g4⟩

end Go.Kx
