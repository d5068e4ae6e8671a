/- Trace: which object is there for what; the iterations and loops that are looked at. -/
import Derived.Test.YthgmfjkbgacfaaaLge
import Derived.Test.YthgmfjkbgacfaaaCTrace
namespace Go.Proofs.Ythgmfjkbgacfaaa
set_option linter.unusedVariables false
set_option linter.unusedSimpArgs false
open Go Go.Kx Go.Proofs

/-! ### Roles: what an object is there for; objects of other roles are other objects -/
abbrev Role := Nat × Nat
structure Stp (S : Role → Prop) (σ : St) (lab : Nat → Role) (σ' : St) (lab' : Nat → Role) : Prop where
  le : σ.length ≤ σ'.length
  same : ∀ j, j < σ.length → ¬ S (lab j) → σ'[j]? = σ[j]? ∧ lab' j = lab j
theorem Stp.refl {S : Role → Prop} {σ : St} {lab : Nat → Role} : Stp S σ lab σ lab := ⟨Nat.le_refl _, fun _ _ _ => ⟨rfl, rfl⟩⟩
theorem Stp.trans {S T U : Role → Prop} {σ σ1 σ2 : St} {lab lab1 lab2 : Nat → Role} (h : Stp S σ lab σ1 lab1) (k : Stp T σ1 lab1 σ2 lab2) (hS : ∀ r, S r → U r) (hT : ∀ r, T r → U r) : Stp U σ lab σ2 lab2 :=
  ⟨Nat.le_trans h.le k.le, fun j hj hU => by
    obtain ⟨a, b⟩ := h.same j hj fun hs => hU (hS _ hs)
    obtain ⟨c, d⟩ := k.same j (Nat.lt_of_lt_of_le hj h.le) fun ht => hU (hT _ (by rwa [b] at ht))
    exact ⟨c.trans a, d.trans b⟩⟩
theorem Stp.mono {S U : Role → Prop} {σ σ1 : St} {lab lab1 : Nat → Role} (h : Stp S σ lab σ1 lab1) (hS : ∀ r, S r → U r) : Stp U σ lab σ1 lab1 := ⟨h.le, fun j hj hU => h.same j hj fun hs => hU (hS _ hs)⟩
theorem Stp.get {S : Role → Prop} {σ σ' : St} {lab lab' : Nat → Role} (h : Stp S σ lab σ' lab') {i : Nat} {x : Res} (hi : σ[i]? = some x) (hr : ¬ S (lab i)) : σ'[i]? = some x ∧ lab' i = lab i := by
  obtain ⟨a, b⟩ := h.same i (lt_at hi) hr
  exact ⟨a.trans hi, b⟩
theorem stp_set {σ : St} {lab : Nat → Role} {i : Nat} {x : Res} {r : Role} (hr : lab i = r) : Stp (· = r) σ lab (σ.set i x) lab :=
  ⟨by simp, fun j _ hj => ⟨by rw [List.getElem?_set_ne]; rintro rfl; exact hj hr, rfl⟩⟩
def labN (σ : St) (lab : Nat → Role) (r : Role) : Nat → Role := fun j => if j = σ.length then r else lab j
theorem stp_new {S : Role → Prop} {σ : St} {lab : Nat → Role} {x : Res} (r : Role) : Stp S σ lab (σ ++ [x]) (labN σ lab r) :=
  ⟨by simp, fun j hj _ => ⟨List.getElem?_append_left hj, by unfold labN; rw [if_neg (by omega)]⟩⟩
theorem labN_self (σ : St) (lab : Nat → Role) (r : Role) : labN σ lab r σ.length = r := by unfold labN; rw [if_pos rfl]

/-- A slice to which something can be appended: none yet, or one whose tail is held. -/
def TokOk (σ : St) (lab : Nat → Role) (r : Role) (t : Tok) (n sz : Nat) : Prop := (t = .nil ∧ n = 0) ∨ ∃ j w, t = .id j w sz ∧ σ[j]? = some (.tail w) ∧ lab j = r
theorem TokOk.nil {σ : St} {lab : Nat → Role} {r : Role} {sz : Nat} : TokOk σ lab r .nil 0 sz := .inl ⟨rfl, rfl⟩
theorem TokOk.stp {S : Role → Prop} {σ σ' : St} {lab lab' : Nat → Role} {r : Role} {t : Tok} {n sz : Nat} (h : TokOk σ lab r t n sz) (k : Stp S σ lab σ' lab') (hr : ¬ S r) : TokOk σ' lab' r t n sz := by
  rcases h with h | ⟨j, w, h1, h2, h3⟩
  · exact .inl h
  · obtain ⟨a, b⟩ := k.get h2 (by rwa [h3])
    exact .inr ⟨j, w, h1, a, b.trans h3⟩
theorem TokOk.exact {σ : St} {lab : Nat → Role} {r : Role} {t : Tok} {n sz m : Nat} {cs : List AV} (h : TokOk σ lab r t n sz) : (AV.sl m cs t).exact = true := by
  rcases h with ⟨rfl, _⟩ | ⟨j, w, rfl, _⟩ <;> rfl
theorem wpa_app_t {P : Program} {K : AV → St → Prop} {E : TypeId} {sz by_ : Nat} {z : List Value} {n : Nat} {cs : List AV} {t : Tok} {y : AV} {m : Nat} {news : List AV} {σ : St} {lab : Nat → Role} {r : Role} (hz : z.length = sz) (ht : TokOk σ lab r t n sz)
    (hs : srcA σ sz y = some (m, news)) (hm : news.length = m * sz) (h1 : news.all AV.one = true) (hc : cs.length = n * sz) (hn : n + m ≤ 9223372036854775807) (hb : (n + m) * by_ ≤ 140737488355328)
    (hk : ∀ σ1 lab1 t1, Stp (· = r) σ lab σ1 lab1 → TokOk σ1 lab1 r t1 (n + m) sz → act (K (.sl (n + m) (cs ++ news) t1) σ1)) : act (EF.awp P (.app E sz by_ z) [.sl n cs t, y] σ K) := by
  rcases ht with ⟨rfl, rfl⟩ | ⟨j, w, rfl, hj, hl⟩
  · have hcs : cs = [] := List.length_eq_zero_iff.1 (by simpa using hc)
    subst hcs
    refine wpa_app_nil hz hs hm h1 (by omega) (by simpa using hb) ?_
    have := hk (σ ++ [.tail 1]) (labN σ lab r) (.id σ.length 1 sz) (stp_new r) (.inr ⟨σ.length, 1, rfl, at_snoc _ _, labN_self _ _ _⟩)
    simpa using this
  · refine wpa_app hz hs hm h1 hc hn hb hj ?_
    exact hk _ lab _ (stp_set hl) (.inr ⟨j, w + 1, rfl, get_set_eq hj, hl⟩)
theorem wpa_callGw {P : Program} {K : AV → St → Prop} {σ : St} {f : FuncId} {xs ys : List AV} {R : AV → St → Prop} (is : List Nat) (fs : List Bool) (H : FnG P f ys (Go.Kx.freeze is σ) R) (he : weak (Go.Kx.freeze is σ) fs xs = ys) (hk : ∀ a σ', R a σ' → act (K a σ')) : act (EF.awp P (.call f) xs σ K) :=
  wpa_frz is fs (by rw [he]; exact wpa_callG H hk)


structure It where
  st : Int
  wt : Bool
  bg : Bool
  fr : Bool
  fn : Bool
  deriving DecidableEq
def it0 : It := ⟨0, false, false, false, false⟩
def aIt (x : It) : List AV := [.v (.int .i64 x.st), .v (.bool x.wt), .v (.bool x.bg), .v (.bool x.fr), .v (.bool x.fn)]
structure Lp where
  its : List It
  en : Bool
def lp0 : Lp := ⟨[], false⟩
def pastT (its : List It) (n : Nat) (stage : Int) : Bool := n == 0 || (its.getD (n - 1) it0).fn || decide (stage < (its.getD (n - 1) it0).st)
/-- What an event does to a loop, and what is wrong with it. -/
def startT (p : Lp) (e : Ev) : Lp × Int :=
  if e.it ≠ p.its.length ∨ e.st ≠ 0 then (p, 4)
  else if 0 < p.its.length ∧ (p.its.getD (p.its.length - 1) it0).fr = false then (p, 1)
  else (⟨p.its ++ [it0], p.en⟩, 0)
def endT (p : Lp) (e : Ev) : Lp × Int :=
  if e.it ≠ p.its.length ∨ p.its.length = 0 ∨ e.st ≠ 0 then (p, 4)
  else if p.its.all (·.fn) then (⟨p.its, true⟩, 0) else (p, 4)
def beginT (its : List It) (x : It) (n : Nat) (e : Ev) : It × Int :=
  if e.st ≠ x.st ∨ x.bg = true then (x, 4)
  else if x.wt = true ∧ pastT its n e.st = false then (x, 1)
  else ({ x with bg := true }, 0)
def goOnT (x : It) (e : Ev) : It × Int :=
  if x.bg = false ∨ e.st ≤ x.st ∨ 1048575 < e.st then (x, 4)
  else (⟨e.st, decide (e.k = 3), false, true, x.fn⟩, 0)
def finT (x : It) (e : Ev) : It × Int :=
  if x.bg = false ∨ e.st ≠ x.st then (x, 4) else (⟨x.st, x.wt, x.bg, true, true⟩, 0)
def iterT (its : List It) (x : It) (n : Nat) (e : Ev) : It × Int :=
  if x.fn = true then (x, 10) else if e.k = 2 then beginT its x n e else if e.k ≠ 4 then goOnT x e else finT x e
def eventT (p : Lp) (e : Ev) : Lp × Int :=
  if p.en = true then (p, 8) else if e.k = 1 then startT p e else if e.k = 5 then endT p e
  else if e.it < 0 ∨ (p.its.length : Int) ≤ e.it then (p, 7)
  else (⟨p.its.set e.it.toNat (iterT p.its (p.its.getD e.it.toNat it0) e.it.toNat e).1, p.en⟩, (iterT p.its (p.its.getD e.it.toNat it0) e.it.toNat e).2)

/-! ### Loops in the state -/
def cIos (ios : List Nat) : List AV := ios.map fun i => .ref i 0 0
def LpAt (σ : Kx.St) (lab : Nat → Role) (j o : Nat) (p : Lp) : Prop :=
  ∃ (ios : List Nat) (T : Tok), σ[o]? = some (.obj 0 [.sl p.its.length (cIos ios) T, .v (.bool p.en)]) ∧ lab o = (1, j) ∧ TokOk σ lab (2, j) T p.its.length 1 ∧ ios.length = p.its.length ∧
    ∀ (k : Nat) (x : It), p.its[k]? = some x → ∃ i, ios[k]? = some i ∧ σ[i]? = some (.obj 0 (aIt x)) ∧ lab i = (3 + k, j)
theorem LpAt.stp {S : Role → Prop} {σ σ' : Kx.St} {lab lab' : Nat → Role} {j o : Nat} {p : Lp} (h : LpAt σ lab j o p) (k : Stp S σ lab σ' lab') (hS : ∀ q, 0 < q → ¬ S (q, j)) : LpAt σ' lab' j o p := by
  obtain ⟨ios, T, h1, h2, h3, h4, h5⟩ := h
  obtain ⟨a1, a2⟩ := k.get h1 (by rw [h2]; exact hS 1 (by omega))
  refine ⟨ios, T, a1, a2.trans h2, h3.stp k (hS 2 (by omega)), h4, fun q x hx => ?_⟩
  obtain ⟨i, b1, b2, b3⟩ := h5 q x hx
  obtain ⟨c1, c2⟩ := k.get b2 (by rw [b3]; exact hS _ (by omega))
  exact ⟨i, b1, c1, c2.trans b3⟩
/-- What may turn where something happens to the loop j. -/
abbrev isJ (j : Nat) : Role → Prop := fun r => 0 < r.1 ∧ r.2 = j
theorem set_same {σ : Kx.St} {i : Nat} {r : Res} (h : σ[i]? = some r) : σ.set i r = σ := by
  obtain ⟨h1, h2⟩ := List.getElem?_eq_some_iff.1 h
  rw [← h2, List.set_getElem_self]
theorem past_a {σ : Kx.St} {lab : Nat → Role} {j o : Nat} {p : Lp} (h : LpAt σ lab j o p) (hl : p.its.length ≤ 1000000) (n : Nat) (hn : n ≤ p.its.length) (stage : Int) :
    FnG Try.prog 112 [.ref o 0 0, aInt n, aInt stage] σ fun a σ' => a = aBool (pastT p.its n stage) ∧ σ' = σ := by
  obtain ⟨ios, T, h1, h2, h3, h4, h5⟩ := h
  refine fnG_in K_trace_loop_past mixed rfl ?_
  simp only [S_trace_loop_past]
  by_cases hn0 : n = 0
  · subst hn0
    rw [show pastT p.its 0 stage = true from rfl]
    simp (maxSteps := 1000000) (implicitDefEqProofs := false) (disch := omega) only [push_cast, ↓reduceIte, Nat.reduceEqDiff, reduceCtorEq, wz, aInt, aBool]
    exact trivial
  · obtain ⟨x, hx⟩ := at_lt (l := p.its) (k := n - 1) (by omega)
    obtain ⟨i, b1, b2, b3⟩ := h5 _ _ hx
    have hi : (cIos ios)[n - 1]? = some (.ref i 0 0) := by unfold cIos; rw [List.getElem?_map, b1]; rfl
    have hm1 : ((n : Int) - 1).toNat = n - 1 := by omega
    have hg : p.its.getD (n - 1) it0 = x := by rw [List.getD_eq_getElem?_getD, hx]; rfl
    have c0 : (aIt x)[0]? = some (.v (.int .i64 x.st)) := rfl
    have c4 : (aIt x)[4]? = some (.v (.bool x.fn)) := rfl
    cases hfn : x.fn with
    | true =>
      rw [show pastT p.its n stage = true by unfold pastT; rw [hg, hfn]; simp]
      simp (maxSteps := 1000000) (implicitDefEqProofs := false) (disch := omega) only [push_cast, ↓reduceIte, Nat.reduceEqDiff, reduceCtorEq, wz, aInt, aBool, h1, hi, hm1, b2, c0, c4, hfn]
      exact trivial
    | false =>
      rw [show pastT p.its n stage = decide (stage < x.st) by unfold pastT; rw [hg, hfn]; simp [hn0]]
      simp (maxSteps := 1000000) (implicitDefEqProofs := false) (disch := omega) only [push_cast, ↓reduceIte, Nat.reduceEqDiff, reduceCtorEq, wz, aInt, aBool, h1, hi, hm1, b2, c0, c4, hfn]
      exact trivial
/-- An iteration's object turned. -/
theorem LpAt.setIt {σ : Kx.St} {lab : Nat → Role} {j o : Nat} {p : Lp} {ios : List Nat} {T : Tok} (h1 : σ[o]? = some (.obj 0 [.sl p.its.length (cIos ios) T, .v (.bool p.en)])) (h2 : lab o = (1, j)) (h3 : TokOk σ lab (2, j) T p.its.length 1) (h4 : ios.length = p.its.length)
    (h5 : ∀ (k : Nat) (x : It), p.its[k]? = some x → ∃ i, ios[k]? = some i ∧ σ[i]? = some (.obj 0 (aIt x)) ∧ lab i = (3 + k, j)) {k i : Nat} {x y : It} (hx : p.its[k]? = some x) (hi : ios[k]? = some i) :
    LpAt (σ.set i (.obj 0 (aIt y))) lab j o ⟨p.its.set k y, p.en⟩ ∧ Stp (isJ j) σ lab (σ.set i (.obj 0 (aIt y))) lab := by
  obtain ⟨i', b1, b2, b3⟩ := h5 k x hx
  rw [hi] at b1; cases b1
  have hst := stp_set (σ := σ) (x := .obj 0 (aIt y)) b3
  have g1 := hst.get h1 (by rw [h2]; intro e; injection e; omega)
  refine ⟨⟨ios, T, ?_, h2, ?_, by simpa using h4, ?_⟩, hst.mono fun r e => by subst e; exact ⟨by simp only; omega, rfl⟩⟩
  · simp only [List.length_set]; exact g1.1
  · simp only [List.length_set]; exact h3.stp hst (by intro e; injection e; omega)
  · intro q z hz
    by_cases hq : k = q
    · subst hq
      rw [List.getElem?_set, if_pos rfl, if_pos (lt_at hx)] at hz
      cases hz
      exact ⟨i, hi, get_set_eq b2, b3⟩
    · rw [List.getElem?_set_ne hq] at hz
      obtain ⟨i2, d1, d2, d3⟩ := h5 q z hz
      refine ⟨i2, d1, get_set_ne ?_ d2, d3⟩
      rintro rfl
      rw [b3] at d3
      injection d3
      omega
theorem begin_a {σ : Kx.St} {lab : Nat → Role} {j o : Nat} {p : Lp} (h : LpAt σ lab j o p) (hl : p.its.length ≤ 1000000) {n i : Nat} {x : It} (hx : p.its[n]? = some x) (hi : σ[i]? = some (.obj 0 (aIt x))) (e : Ev) (hn : e.it = n) :
    FnG Try.prog 84 [.ref o 0 0, .ref i 0 0, .agg (aEv e)] σ fun a σ' => a = aInt (beginT p.its x n e).2 ∧ ∃ b, σ' = (σ ++ [b]).set i (.obj 0 (aIt (beginT p.its x n e).1)) := by
  refine fnG_in K_trace_loop_begin mixed rfl ?_
  simp only [S_trace_loop_begin]
  have hcl : (AV.agg (aEv e)).cells = aEv e := rfl
  have g2 : (aEv e)[2]? = some (.v (.int .i64 e.it)) := rfl
  have g3 : (aEv e)[3]? = some (.v (.int .i64 e.st)) := rfl
  have c0 : (aIt x)[0]? = some (.v (.int .i64 x.st)) := rfl
  have c1 : (aIt x)[1]? = some (.v (.bool x.wt)) := rfl
  have c2 : (aIt x)[2]? = some (.v (.bool x.bg)) := rfl
  simp (maxSteps := 1000000) (implicitDefEqProofs := false) (disch := omega) only [push_cast, ↓reduceIte, Nat.reduceEqDiff, reduceCtorEq, wz]
  refine wpa_box ?_
  have hi1 : (σ ++ [Res.obj 0 (aEv e)])[i]? = some (.obj 0 (aIt x)) := get_app hi
  have hsame : (σ ++ [Res.obj 0 (aEv e)]).set i (.obj 0 (aIt x)) = σ ++ [Res.obj 0 (aEv e)] := set_same hi1
  by_cases hst : e.st = x.st
  · cases hbg : x.bg with
    | true =>
      rw [hbg] at c2
      rw [show beginT p.its x n e = (x, 4) by unfold beginT; rw [if_pos (.inr hbg)]]
      simp (maxSteps := 1000000) (implicitDefEqProofs := false) (disch := omega) only [push_cast, ↓reduceIte, Nat.reduceEqDiff, reduceCtorEq, wz, hcl, at_snoc, hi1, g3, c0, c2, hst, aInt]
      exact ⟨_, hsame.symm⟩
    | false =>
      rw [hbg] at c2
      cases hwt : x.wt with
      | false =>
        rw [hwt] at c1
        rw [show beginT p.its x n e = ({ x with bg := true }, 0) by unfold beginT; rw [if_neg (by simp [hst, hbg]), if_neg (by simp [hwt])]]
        simp (maxSteps := 1000000) (implicitDefEqProofs := false) (disch := omega) only [push_cast, ↓reduceIte, Nat.reduceEqDiff, reduceCtorEq, wz, hcl, at_snoc, hi1, g3, c0, c1, c2, hst, aInt]
        refine wpa_st1 rfl rfl hi1 (by simp [aIt]) ?_
        simp (maxSteps := 1000000) (implicitDefEqProofs := false) (disch := omega) only [push_cast, ↓reduceIte, Nat.reduceEqDiff, reduceCtorEq, wz]
        exact ⟨.obj 0 (aEv e), rfl⟩
      | true =>
        rw [hwt] at c1
        simp (maxSteps := 1000000) (implicitDefEqProofs := false) (disch := omega) only [push_cast, ↓reduceIte, Nat.reduceEqDiff, reduceCtorEq, wz, hcl, at_snoc, hi1, g2, g3, c0, c1, c2, hst, aInt, hn]
        refine wpa_callG (past_a (h.stp (stp_new (S := fun _ => False) (0, 0)) fun _ _ => id) hl n (Nat.le_of_lt (lt_at hx)) x.st) ?_
        rintro a σ' ⟨rfl, rfl⟩
        cases hpa : pastT p.its n x.st with
        | true =>
          rw [show beginT p.its x n e = ({ x with bg := true }, 0) by unfold beginT; rw [if_neg (by simp [hst, hbg]), if_neg (by simp [hst, hpa])]]
          simp (maxSteps := 1000000) (implicitDefEqProofs := false) (disch := omega) only [push_cast, ↓reduceIte, Nat.reduceEqDiff, reduceCtorEq, wz, aBool]
          refine wpa_st1 rfl rfl hi1 (by simp [aIt]) ?_
          simp (maxSteps := 1000000) (implicitDefEqProofs := false) (disch := omega) only [push_cast, ↓reduceIte, Nat.reduceEqDiff, reduceCtorEq, wz]
          exact ⟨.obj 0 (aEv e), rfl⟩
        | false =>
          rw [show beginT p.its x n e = (x, 1) by unfold beginT; rw [if_neg (by simp [hst, hbg]), if_pos (by simp [hst, hpa, hwt])]]
          simp (maxSteps := 1000000) (implicitDefEqProofs := false) (disch := omega) only [push_cast, ↓reduceIte, Nat.reduceEqDiff, reduceCtorEq, wz, aBool]
          exact ⟨_, hsame.symm⟩
  · rw [show beginT p.its x n e = (x, 4) by unfold beginT; rw [if_pos (.inl hst)]]
    simp (maxSteps := 1000000) (implicitDefEqProofs := false) (disch := omega) only [push_cast, ↓reduceIte, Nat.reduceEqDiff, reduceCtorEq, wz, hcl, at_snoc, hi1, g3, c0, hst, aInt]
    exact ⟨_, hsame.symm⟩
theorem ex_i64 (n : Int) : (AV.v (.int .i64 n)).exact = true := rfl
theorem goOn_a {σ : Kx.St} {i : Nat} {x : It} (hi : σ[i]? = some (.obj 0 (aIt x))) (e : Ev) :
    FnG Try.prog 85 [.ref i 0 0, .agg (aEv e)] σ fun a σ' => a = aInt (goOnT x e).2 ∧ ∃ b, σ' = (σ ++ [b]).set i (.obj 0 (aIt (goOnT x e).1)) := by
  refine fnG_in K_trace_iter_goOn mixed rfl ?_
  simp only [S_trace_iter_goOn]
  have hcl : (AV.agg (aEv e)).cells = aEv e := rfl
  have g0 : (aEv e)[0]? = some (.v (.int .i64 e.k)) := rfl
  have g3 : (aEv e)[3]? = some (.v (.int .i64 e.st)) := rfl
  have c0 : (aIt x)[0]? = some (.v (.int .i64 x.st)) := rfl
  have c2 : (aIt x)[2]? = some (.v (.bool x.bg)) := rfl
  simp (maxSteps := 1000000) (implicitDefEqProofs := false) (disch := omega) only [push_cast, ↓reduceIte, Nat.reduceEqDiff, reduceCtorEq, wz]
  refine wpa_box ?_
  have hi1 : (σ ++ [Res.obj 0 (aEv e)])[i]? = some (.obj 0 (aIt x)) := get_app hi
  have hsame : (σ ++ [Res.obj 0 (aEv e)]).set i (.obj 0 (aIt x)) = σ ++ [Res.obj 0 (aEv e)] := set_same hi1
  cases hbg : x.bg with
  | false =>
    rw [hbg] at c2
    rw [show goOnT x e = (x, 4) by unfold goOnT; rw [if_pos (.inl hbg)]]
    simp (maxSteps := 1000000) (implicitDefEqProofs := false) (disch := omega) only [push_cast, ↓reduceIte, Nat.reduceEqDiff, reduceCtorEq, wz, hcl, at_snoc, hi1, c2, aInt]
    exact ⟨_, hsame.symm⟩
  | true =>
    rw [hbg] at c2
    by_cases h1 : e.st ≤ x.st
    · rw [show goOnT x e = (x, 4) by unfold goOnT; rw [if_pos (.inr (.inl h1))]]
      simp (maxSteps := 1000000) (implicitDefEqProofs := false) (disch := omega) only [push_cast, ↓reduceIte, Nat.reduceEqDiff, reduceCtorEq, wz, hcl, at_snoc, hi1, c0, c2, g3, h1, aInt]
      exact ⟨_, hsame.symm⟩
    · by_cases h2 : 1048575 < e.st
      · rw [show goOnT x e = (x, 4) by unfold goOnT; rw [if_pos (.inr (.inr h2))]]
        simp (maxSteps := 1000000) (implicitDefEqProofs := false) (disch := omega) only [push_cast, ↓reduceIte, Nat.reduceEqDiff, reduceCtorEq, wz, hcl, at_snoc, hi1, c0, c2, g3, h1, h2, aInt]
        exact ⟨_, hsame.symm⟩
      · rw [show goOnT x e = (⟨e.st, decide (e.k = 3), false, true, x.fn⟩, 0) by unfold goOnT; rw [if_neg (by simp [hbg, h1, h2])]]
        simp (maxSteps := 1000000) (implicitDefEqProofs := false) (disch := omega) only [push_cast, ↓reduceIte, Nat.reduceEqDiff, reduceCtorEq, wz, hcl, at_snoc, hi1, c0, c2, g0, g3, h1, h2, aInt]
        have hb : ∀ r, ((σ ++ [Res.obj 0 (aEv e)]).set i r)[σ.length]? = some (.obj 0 (aEv e)) := fun r => get_set_ne (by have := lt_at hi; omega) (at_snoc _ _)
        have hge : ∀ r, ((σ ++ [Res.obj 0 (aEv e)]).set i r)[i]? = some r := fun r => get_set_eq hi1
        refine wpa_st1 rfl rfl hi1 (by simp [aIt]) ?_
        simp (maxSteps := 1000000) (implicitDefEqProofs := false) (disch := omega) only [push_cast, ↓reduceIte, Nat.reduceEqDiff, reduceCtorEq, wz]
        refine ⟨aholds_e (by simp (maxSteps := 1000000) (implicitDefEqProofs := false) (disch := omega) only [push_cast, ↓reduceIte, Nat.reduceEqDiff, reduceCtorEq, wz, hb, g0, ex_i64]), ?_⟩
        refine wpa_st1 rfl rfl (hge _) (by simp [aIt]) ?_
        simp (maxSteps := 1000000) (implicitDefEqProofs := false) (disch := omega) only [push_cast, ↓reduceIte, Nat.reduceEqDiff, reduceCtorEq, wz, List.set_set]
        refine wpa_st1 rfl rfl (hge _) (by simp [aIt]) ?_
        simp (maxSteps := 1000000) (implicitDefEqProofs := false) (disch := omega) only [push_cast, ↓reduceIte, Nat.reduceEqDiff, reduceCtorEq, wz, List.set_set]
        refine wpa_st1 rfl rfl (hge _) (by simp [aIt]) ?_
        simp (maxSteps := 1000000) (implicitDefEqProofs := false) (disch := omega) only [push_cast, ↓reduceIte, Nat.reduceEqDiff, reduceCtorEq, wz, List.set_set]
        exact ⟨.obj 0 (aEv e), rfl⟩
theorem end_a {σ : Kx.St} {lab : Nat → Role} {j o : Nat} {p : Lp} (h : LpAt σ lab j o p) (hl : p.its.length ≤ 1000000) (e : Ev) :
    FnG Try.prog 83 [.ref o 0 0, .agg (aEv e)] σ fun a σ' => a = aInt (endT p e).2 ∧ ∃ lab', LpAt σ' lab' j o (endT p e).1 ∧ Stp (isJ j) σ lab σ' lab' := by
  have hH := h.stp (stp_new (x := .obj 0 (aEv e)) (S := fun _ => False) (0, 0)) fun _ _ => id
  have hS : Stp (isJ j) σ lab (σ ++ [Res.obj 0 (aEv e)]) (labN σ lab (0, 0)) := stp_new _
  obtain ⟨ios, T, h1, h2, h3, h4, h5⟩ := hH
  refine fnG_in K_trace_loop_end mixed rfl ?_
  simp only [S_trace_loop_end]
  have hcl : (AV.agg (aEv e)).cells = aEv e := rfl
  have g2 : (aEv e)[2]? = some (.v (.int .i64 e.it)) := rfl
  have g3 : (aEv e)[3]? = some (.v (.int .i64 e.st)) := rfl
  simp (maxSteps := 1000000) (implicitDefEqProofs := false) (disch := omega) only [push_cast, ↓reduceIte, Nat.reduceEqDiff, reduceCtorEq, wz]
  refine wpa_box ?_
  have hko : LpAt (σ ++ [Res.obj 0 (aEv e)]) (labN σ lab (0, 0)) j o p := ⟨ios, T, h1, h2, h3, h4, h5⟩
  by_cases he1 : e.it = p.its.length
  · by_cases he2 : p.its.length = 0
    · rw [show endT p e = (p, 4) by unfold endT; rw [if_pos (.inr (.inl he2))]]
      simp (maxSteps := 1000000) (implicitDefEqProofs := false) (disch := omega) only [push_cast, ↓reduceIte, Nat.reduceEqDiff, reduceCtorEq, wz, hcl, at_snoc, h1, g2, he1, he2, aInt]
      exact ⟨_, hko, hS⟩
    · by_cases he3 : e.st = 0
      · simp (maxSteps := 1000000) (implicitDefEqProofs := false) (disch := omega) only [push_cast, ↓reduceIte, Nat.reduceEqDiff, reduceCtorEq, wz, hcl, at_snoc, h1, g2, g3, he1, he2, he3, aInt]
        refine wpa_bl (α := Nat) (I := fun k ε σ' => (ε 0 = .ref o 0 0 ∧ ε 31 = .sl p.its.length (cIos ios) T ∧ ε 32 = .v (.int .i64 p.its.length) ∧ ε 33 = .v (.int .i64 k)) ∧ k ≤ p.its.length ∧ σ' = σ ++ [Res.obj 0 (aEv e)] ∧ ∀ (q : Nat) (x : It), q < k → p.its[q]? = some x → x.fn = true)
          (μ := fun k => p.its.length - k) (Q := fun ε σ' => ε 0 = .ref o 0 0 ∧ σ' = σ ++ [Res.obj 0 (aEv e)] ∧ ∀ (q : Nat) (x : It), p.its[q]? = some x → x.fn = true) (x := 0) ?_ ?_ ?_
        · simp (maxSteps := 1000000) (implicitDefEqProofs := false) (disch := omega) only [push_cast, ↓reduceIte, Nat.reduceEqDiff, reduceCtorEq, wz]
          exact ⟨by omega, fun q x hq => by omega⟩
        · rintro k ε σ' N E ⟨hρ, hk, rfl, hf⟩ hN hE
          simp only [S_trace_loop_end_L1]
          by_cases hlt : k < p.its.length
          · obtain ⟨x, hx⟩ := at_lt hlt
            obtain ⟨i, b1, b2, b3⟩ := h5 _ _ hx
            have hi : (cIos ios)[k]? = some (.ref i 0 0) := by unfold cIos; rw [List.getElem?_map, b1]; rfl
            have c4 : (aIt x)[4]? = some (.v (.bool x.fn)) := rfl
            cases hfn : x.fn with
            | false =>
              have hall : p.its.all (·.fn) = false := by
                rw [List.all_eq_false]
                exact ⟨x, List.mem_of_getElem? hx, by simp [hfn]⟩
              rw [show endT p e = (p, 4) by unfold endT; rw [if_neg (by simp [he1, he2, he3]), hall]; rfl]
              simp (maxSteps := 1000000) (implicitDefEqProofs := false) (disch := omega) only [push_cast, ↓reduceIte, Nat.reduceEqDiff, reduceCtorEq, wz, hρ, hi, b2, c4, hfn]
              exact ⟨_, hko, hS⟩
            | true =>
              simp (maxSteps := 1000000) (implicitDefEqProofs := false) (disch := omega) only [push_cast, ↓reduceIte, Nat.reduceEqDiff, reduceCtorEq, wz, hρ, hi, b2, c4, hfn]
              refine hN (k + 1) _ _ ?_ (by omega)
              simp (maxSteps := 1000000) (implicitDefEqProofs := false) (disch := omega) only [push_cast, ↓reduceIte, Nat.reduceEqDiff, reduceCtorEq, wz, hρ]
              refine ⟨by omega, fun q y hq hy => ?_⟩
              rcases Nat.lt_or_ge q k with h | h
              · exact hf q y h hy
              · obtain rfl : q = k := by omega
                rw [hx] at hy
                cases hy
                exact hfn
          · simp (maxSteps := 1000000) (implicitDefEqProofs := false) (disch := omega) only [push_cast, ↓reduceIte, Nat.reduceEqDiff, reduceCtorEq, wz, hρ]
            exact hE _ _ ⟨by simp (maxSteps := 1000000) (implicitDefEqProofs := false) (disch := omega) only [push_cast, ↓reduceIte, Nat.reduceEqDiff, reduceCtorEq, wz, hρ], rfl, fun q x hx => hf q x (by have := lt_at hx; omega) hx⟩
        · rintro ε σ' ⟨hρ, rfl, hf⟩
          have hall : p.its.all (·.fn) = true := by
            rw [List.all_eq_true]
            intro x hx
            obtain ⟨q, hq⟩ := List.mem_iff_getElem?.1 hx
            exact hf q x hq
          rw [show endT p e = (⟨p.its, true⟩, 0) by unfold endT; rw [if_neg (by simp [he1, he2, he3]), hall]; rfl]
          simp (maxSteps := 1000000) (implicitDefEqProofs := false) (disch := omega) only [push_cast, ↓reduceIte, Nat.reduceEqDiff, reduceCtorEq, wz, hρ]
          refine wpa_st1 rfl rfl h1 (by simp) ?_
          simp (maxSteps := 1000000) (implicitDefEqProofs := false) (disch := omega) only [push_cast, ↓reduceIte, Nat.reduceEqDiff, reduceCtorEq, wz]
          have hst := stp_set (σ := σ ++ [Res.obj 0 (aEv e)]) (x := .obj 0 [.sl p.its.length (cIos ios) T, .v (.bool true)]) h2
          refine ⟨labN σ lab (0, 0), ⟨ios, T, get_set_eq h1, h2, h3.stp hst (by intro e; injection e; omega), h4, fun q x hx => ?_⟩, hS.trans hst (fun _ h => h) fun r e => by subst e; exact ⟨by simp, rfl⟩⟩
          obtain ⟨i, b1, b2, b3⟩ := h5 q x hx
          obtain ⟨d1, d2⟩ := hst.get b2 (by rw [b3]; intro e; injection e; omega)
          exact ⟨i, b1, d1, b3⟩
      · rw [show endT p e = (p, 4) by unfold endT; rw [if_pos (.inr (.inr he3))]]
        simp (maxSteps := 1000000) (implicitDefEqProofs := false) (disch := omega) only [push_cast, ↓reduceIte, Nat.reduceEqDiff, reduceCtorEq, wz, hcl, at_snoc, h1, g2, g3, he1, he2, he3, aInt]
        exact ⟨_, hko, hS⟩
  · rw [show endT p e = (p, 4) by unfold endT; rw [if_pos (.inl he1)]]
    simp (maxSteps := 1000000) (implicitDefEqProofs := false) (disch := omega) only [push_cast, ↓reduceIte, Nat.reduceEqDiff, reduceCtorEq, wz, hcl, at_snoc, h1, g2, he1, aInt]
    exact ⟨_, hko, hS⟩
end Go.Proofs.Ythgmfjkbgacfaaa
