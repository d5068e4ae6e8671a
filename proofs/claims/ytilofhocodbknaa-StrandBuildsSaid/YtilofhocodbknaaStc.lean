/- The state of a builder of strands: who holds which object; what stays where something turns. -/
import Derived.Test.YtilofhocodbknaaStb
namespace Go.Proofs.Ytilofhocodbknaa
set_option linter.unusedVariables false
set_option linter.unusedSimpArgs false
open Go Go.Kx Go.Proofs

/-! ### Roles: what an object is there for; objects of other roles are other objects -/
abbrev Role := Nat × Nat
structure Stp (S : Role → Prop) (σ : St) (lab : Nat → Role) (σ' : St) (lab' : Nat → Role) : Prop where
  le : σ.length ≤ σ'.length
  same : ∀ j, j < σ.length → ¬ S (lab j) → σ'[j]? = σ[j]? ∧ lab' j = lab j
theorem Stp.refl {S : Role → Prop} {σ : St} {lab : Nat → Role} : Stp S σ lab σ lab := ⟨Nat.le_refl _, fun _ _ _ => ⟨rfl, rfl⟩⟩
theorem Stp.trans {S T U : Role → Prop} {σ σ1 σ2 : St} {lab lab1 lab2 : Nat → Role} (h : Stp S σ lab σ1 lab1) (k : Stp T σ1 lab1 σ2 lab2) (hS : ∀ r, S r → U r) (hT : ∀ r, T r → U r) : Stp U σ lab σ2 lab2 :=
  ⟨Nat.le_trans h.le k.le, fun j hj hU => by
    obtain ⟨a, b⟩ := h.same j hj fun hs => hU (hS _ hs)
    obtain ⟨c, d⟩ := k.same j (Nat.lt_of_lt_of_le hj h.le) fun ht => hU (hT _ (by rwa [b] at ht))
    exact ⟨c.trans a, d.trans b⟩⟩
theorem Stp.mono {S U : Role → Prop} {σ σ1 : St} {lab lab1 : Nat → Role} (h : Stp S σ lab σ1 lab1) (hS : ∀ r, S r → U r) : Stp U σ lab σ1 lab1 := ⟨h.le, fun j hj hU => h.same j hj fun hs => hU (hS _ hs)⟩
theorem Stp.get {S : Role → Prop} {σ σ' : St} {lab lab' : Nat → Role} (h : Stp S σ lab σ' lab') {i : Nat} {x : Res} (hi : σ[i]? = some x) (hr : ¬ S (lab i)) : σ'[i]? = some x ∧ lab' i = lab i := by
  obtain ⟨a, b⟩ := h.same i (lt_at hi) hr
  exact ⟨a.trans hi, b⟩
theorem stp_set {σ : St} {lab : Nat → Role} {i : Nat} {x : Res} {r : Role} (hr : lab i = r) : Stp (· = r) σ lab (σ.set i x) lab :=
  ⟨by simp, fun j _ hj => ⟨by rw [List.getElem?_set_ne]; rintro rfl; exact hj hr, rfl⟩⟩
def labN (σ : St) (lab : Nat → Role) (r : Role) : Nat → Role := fun j => if j = σ.length then r else lab j
theorem stp_new {S : Role → Prop} {σ : St} {lab : Nat → Role} {x : Res} (r : Role) : Stp S σ lab (σ ++ [x]) (labN σ lab r) :=
  ⟨by simp, fun j hj _ => ⟨List.getElem?_append_left hj, by unfold labN; rw [if_neg (by omega)]⟩⟩
theorem labN_self (σ : St) (lab : Nat → Role) (r : Role) : labN σ lab r σ.length = r := by unfold labN; rw [if_pos rfl]

/-- A slice to which something can be appended: none yet, or one whose tail is held. -/
def TokOk (σ : St) (lab : Nat → Role) (r : Role) (t : Tok) (n sz : Nat) : Prop := (t = .nil ∧ n = 0) ∨ ∃ j w, t = .id j w sz ∧ σ[j]? = some (.tail w) ∧ lab j = r
theorem TokOk.nil {σ : St} {lab : Nat → Role} {r : Role} {sz : Nat} : TokOk σ lab r .nil 0 sz := .inl ⟨rfl, rfl⟩
theorem TokOk.stp {S : Role → Prop} {σ σ' : St} {lab lab' : Nat → Role} {r : Role} {t : Tok} {n sz : Nat} (h : TokOk σ lab r t n sz) (k : Stp S σ lab σ' lab') (hr : ¬ S r) : TokOk σ' lab' r t n sz := by
  rcases h with h | ⟨j, w, h1, h2, h3⟩
  · exact .inl h
  · obtain ⟨a, b⟩ := k.get h2 (by rwa [h3])
    exact .inr ⟨j, w, h1, a, b.trans h3⟩
theorem TokOk.exact {σ : St} {lab : Nat → Role} {r : Role} {t : Tok} {n sz m : Nat} {cs : List AV} (h : TokOk σ lab r t n sz) : (AV.sl m cs t).exact = true := by
  rcases h with ⟨rfl, _⟩ | ⟨j, w, rfl, _⟩ <;> rfl
theorem wpa_app_t {P : Program} {K : AV → St → Prop} {E : TypeId} {sz by_ : Nat} {z : List Value} {n : Nat} {cs : List AV} {t : Tok} {y : AV} {m : Nat} {news : List AV} {σ : St} {lab : Nat → Role} {r : Role} (hz : z.length = sz) (ht : TokOk σ lab r t n sz)
    (hs : srcA σ sz y = some (m, news)) (hm : news.length = m * sz) (h1 : news.all AV.one = true) (hc : cs.length = n * sz) (hn : n + m ≤ 9223372036854775807) (hb : (n + m) * by_ ≤ 140737488355328)
    (hk : ∀ σ1 lab1 t1, Stp (· = r) σ lab σ1 lab1 → TokOk σ1 lab1 r t1 (n + m) sz → act (K (.sl (n + m) (cs ++ news) t1) σ1)) : act (EF.awp P (.app E sz by_ z) [.sl n cs t, y] σ K) := by
  rcases ht with ⟨rfl, rfl⟩ | ⟨j, w, rfl, hj, hl⟩
  · have hcs : cs = [] := List.length_eq_zero_iff.1 (by simpa using hc)
    subst hcs
    refine wpa_app_nil hz hs hm h1 (by omega) (by simpa using hb) ?_
    have := hk (σ ++ [.tail 1]) (labN σ lab r) (.id σ.length 1 sz) (stp_new r) (.inr ⟨σ.length, 1, rfl, at_snoc _ _, labN_self _ _ _⟩)
    simpa using this
  · refine wpa_app hz hs hm h1 hc hn hb hj ?_
    exact hk _ lab _ (stp_set hl) (.inr ⟨j, w + 1, rfl, get_set_eq hj, hl⟩)
theorem wpa_callGw {P : Program} {K : AV → St → Prop} {σ : St} {f : FuncId} {xs ys : List AV} {R : AV → St → Prop} (is : List Nat) (fs : List Bool) (H : FnG P f ys (Go.Kx.freeze is σ) R) (he : weak (Go.Kx.freeze is σ) fs xs = ys) (hk : ∀ a σ', R a σ' → act (K a σ')) : act (EF.awp P (.call f) xs σ K) :=
  wpa_frz is fs (by rw [he]; exact wpa_callG H hk)

/-! ### What is built -/
abbrev Nd := Int × Int × Int
def aNd (n : Nd) : List AV := [.v (.int .i64 n.1), .v (.int .i64 n.2.1), .v (.int .i64 n.2.2)]
theorem aNd_len (n : Nd) : (aNd n).length = 3 := rfl
theorem aNd_one (n : Nd) : (aNd n).all AV.one = true := rfl
def aSt (p : Int × Int) : List AV := [.v (.int .i64 p.1), .v (.int .i64 p.2)]
theorem aSt_len (n : Int × Int) : (aSt n).length = 2 := rfl
theorem aSt_one (n : Int × Int) : (aSt n).all AV.one = true := rfl
structure Ac where
  st : Int
  wd : Int
  wr : Bool
  deriving DecidableEq
def aAc (c : Ac) : List AV := [.v (.int .i64 c.st), .v (.int .i64 c.wd), .v (.bool c.wr)]
theorem aAc_len (n : Ac) : (aAc n).length = 3 := rfl
theorem aAc_one (n : Ac) : (aAc n).all AV.one = true := rfl
structure Mk where
  k : Int
  a : Int
  b : Int
def aMk (m : Mk) : List AV := [.v (.int .i64 m.k), .v (.int .i64 m.a), .v (.int .i64 m.b)]
theorem aMk_len (n : Mk) : (aMk n).length = 3 := rfl
structure Fr where
  kind : Int
  child : Bool
  now : Int
  left : List Int
  lp : Int
  it : Int
  sg : Int
  row : List (Int × Int)
  ser : Int
  cnt : Nat
  ahead : List (Int × Int)
  lasts : List Int
def Fr.node (F : Fr) : Nd := (F.lp, F.it, F.sg)
structure Tk where
  l : Tok
  r : Tok
  a : Tok
  s : Tok
def frC (F : Fr) (t : Tk) : List AV := [.v (.int .i64 F.kind), .v (.bool F.child), .v (.int .i64 F.now), .sl F.left.length (F.left.map aInt) t.l, .v (.int .i64 F.lp), .v (.int .i64 F.it), .v (.int .i64 F.sg), .sl F.row.length (F.row.flatMap aSt) t.r,
  .v (.int .i64 F.ser), .v (.int .i64 F.cnt), .sl F.ahead.length (F.ahead.flatMap aSt) t.a, .sl F.lasts.length (F.lasts.map aInt) t.s]
structure FrAt (σ : St) (lab : Nat → Role) (d i : Nat) (F : Fr) (t : Tk) : Prop where
  obj : σ[i]? = some (.obj 0 (frC F t))
  li : lab i = (6, d)
  l : TokOk σ lab (7, d) t.l F.left.length 1
  r : TokOk σ lab (8, d) t.r F.row.length 2
  a : TokOk σ lab (9, d) t.a F.ahead.length 2
  s : TokOk σ lab (10, d) t.s F.lasts.length 1
theorem FrAt.stp {S : Role → Prop} {σ σ' : St} {lab lab' : Nat → Role} {d i : Nat} {F : Fr} {t : Tk} (h : FrAt σ lab d i F t) (k : Stp S σ lab σ' lab') (hS : ∀ q, 6 ≤ q → ¬ S (q, d)) : FrAt σ' lab' d i F t := by
  obtain ⟨a, b⟩ := k.get h.obj (by rw [h.li]; exact hS 6 (by omega))
  exact ⟨a, b.trans h.li, h.l.stp k (hS 7 (by omega)), h.r.stp k (hS 8 (by omega)), h.a.stp k (hS 9 (by omega)), h.s.stp k (hS 10 (by omega))⟩
/-- The frames that have begun, the one that runs first. -/
def Frs (σ : St) (lab : Nat → Role) : List Nat → List Fr → Prop
  | [], [] => True
  | i :: is, F :: fs => (∃ t, FrAt σ lab is.length i F t) ∧ Frs σ lab is fs
  | _, _ => False
theorem Frs.len {σ : St} {lab : Nat → Role} : ∀ {is : List Nat} {fs : List Fr}, Frs σ lab is fs → is.length = fs.length
  | [], [], _ => rfl
  | i :: is, F :: fs, h => by simp [Frs.len h.2]
  | [], _ :: _, h => h.elim
  | _ :: _, [], h => h.elim
theorem Frs.stp {S : Role → Prop} {σ σ' : St} {lab lab' : Nat → Role} (k : Stp S σ lab σ' lab') : ∀ {is : List Nat} {fs : List Fr}, Frs σ lab is fs → (∀ q d, 6 ≤ q → d < is.length → ¬ S (q, d)) → Frs σ' lab' is fs
  | [], [], _, _ => trivial
  | i :: is, F :: fs, h, hS => ⟨by obtain ⟨t, ht⟩ := h.1; exact ⟨t, ht.stp k fun q hq => hS q _ hq (by simp)⟩, Frs.stp k h.2 fun q d hq hd => hS q d hq (by simp; omega)⟩
  | [], _ :: _, h, _ => h.elim
  | _ :: _, [], h, _ => h.elim
structure Bd where
  preds : List (List Int)
  nodes : List Nd
  accs : List Ac
  fs : List Fr
  full : Bool
structure Tb where
  p : Tok
  n : Tok
  a : Tok
def bdC (B : Bd) (t : Tb) (ms : AV) : List AV := [.sl B.preds.length (B.preds.map aInts) t.p, .sl B.nodes.length (B.nodes.flatMap aNd) t.n, .sl B.accs.length (B.accs.flatMap aAc) t.a, ms, .v (.bool B.full)]
/-- The builder itself. -/
structure BdAt (σ : St) (lab : Nat → Role) (ib : Nat) (B : Bd) (t : Tb) (ms : AV) : Prop where
  obj : σ[ib]? = some (.obj 0 (bdC B t ms))
  li : lab ib = (1, 0)
  p : TokOk σ lab (3, 0) t.p B.preds.length 1
  n : TokOk σ lab (4, 0) t.n B.nodes.length 3
  a : TokOk σ lab (5, 0) t.a B.accs.length 3
/-- The stack of frames. -/
structure LsAt (σ : St) (lab : Nat → Role) (il vl : Nat) (is : List Nat) : Prop where
  obj : ∃ cells, σ[il]? = some (.obj vl cells) ∧ cells.take is.length = (is.map fun i => AV.ref i 0 0).reverse
  li : lab il = (2, 0)
/-- What comes back in the end has a place of its own. -/
def KP (σ : St) (lab : Nat → Role) : Prop := ∃ cs, σ[0]? = some (.obj 0 cs) ∧ cs.length = 3 ∧ lab 0 = (0, 1)
structure BR (σ : St) (lab : Nat → Role) (ib il vl : Nat) (B : Bd) (is : List Nat) : Prop where
  bd : ∃ t, BdAt σ lab ib B t (.ms il vl 0 is.length 1)
  ls : LsAt σ lab il vl is
  fr : Frs σ lab is B.fs
  kp : KP σ lab
theorem KP.stp {S : Role → Prop} {σ σ' : St} {lab lab' : Nat → Role} (h : KP σ lab) (k : Stp S σ lab σ' lab') (hS : ¬ S (0, 1)) : KP σ' lab' := by
  obtain ⟨cs, h1, h2, h3⟩ := h
  obtain ⟨a, b⟩ := k.get h1 (by rwa [h3])
  exact ⟨cs, a, h2, b.trans h3⟩
theorem BdAt.stp {S : Role → Prop} {σ σ' : St} {lab lab' : Nat → Role} {ib : Nat} {B : Bd} {t : Tb} {ms : AV} (h : BdAt σ lab ib B t ms) (k : Stp S σ lab σ' lab') (hS : ∀ q, q ≤ 5 → ¬ S (q, 0)) : BdAt σ' lab' ib B t ms := by
  obtain ⟨a, b⟩ := k.get h.obj (by rw [h.li]; exact hS 1 (by omega))
  exact ⟨a, b.trans h.li, h.p.stp k (hS 3 (by omega)), h.n.stp k (hS 4 (by omega)), h.a.stp k (hS 5 (by omega))⟩
theorem LsAt.stp {S : Role → Prop} {σ σ' : St} {lab lab' : Nat → Role} {il vl : Nat} {is : List Nat} (h : LsAt σ lab il vl is) (k : Stp S σ lab σ' lab') (hS : ¬ S (2, 0)) : LsAt σ' lab' il vl is := by
  obtain ⟨cells, h1, h2⟩ := h.obj
  obtain ⟨a, b⟩ := k.get h1 (by rw [h.li]; exact hS)
  exact ⟨⟨cells, a, h2⟩, b.trans h.li⟩
theorem take_at {cells l : List AV} {n k : Nat} {a : AV} (h : cells.take n = l) (hk : l[k]? = some a) : cells[k]? = some a := by
  rw [← h] at hk
  have := lt_at hk
  rw [List.length_take] at this
  rwa [List.getElem?_take_of_lt (by omega)] at hk
theorem LsAt.top {σ : St} {lab : Nat → Role} {il vl i : Nat} {is : List Nat} (h : LsAt σ lab il vl (i :: is)) : ∃ cells, σ[il]? = some (.obj vl cells) ∧ cells[is.length]? = some (.ref i 0 0) := by
  obtain ⟨cells, h1, h2⟩ := h.obj
  refine ⟨cells, h1, take_at h2 ?_⟩
  simp [List.map_cons, List.reverse_cons]
theorem LsAt.up {σ : St} {lab : Nat → Role} {il vl i j : Nat} {is : List Nat} (h : LsAt σ lab il vl (i :: j :: is)) : ∃ cells, σ[il]? = some (.obj vl cells) ∧ cells[is.length]? = some (.ref j 0 0) := by
  obtain ⟨cells, h1, h2⟩ := h.obj
  refine ⟨cells, h1, take_at h2 ?_⟩
  simp [List.map_cons, List.reverse_cons]
theorem LsAt.pop {σ : St} {lab : Nat → Role} {il vl i : Nat} {is : List Nat} (h : LsAt σ lab il vl (i :: is)) : LsAt σ lab il vl is := by
  obtain ⟨cells, h1, h2⟩ := h.obj
  refine ⟨⟨cells, h1, ?_⟩, h.li⟩
  have h3 : (cells.take (i :: is).length).take is.length = ((i :: is).map fun i => AV.ref i 0 0).reverse.take is.length := by rw [h2]
  rw [List.take_take, List.length_cons, Nat.min_eq_left (by omega)] at h3
  rw [h3]
  simp [List.map_cons, List.reverse_cons]
end Go.Proofs.Ytilofhocodbknaa
