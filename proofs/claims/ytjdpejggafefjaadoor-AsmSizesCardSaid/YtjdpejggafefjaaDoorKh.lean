/- Own small program logic, part h: statements (regions): their compilation, and the weakest precondition of what they are compiled to. -/
import Derived.Test.YtjdpejggafefjaaDoorKg
namespace Go.Kx
set_option linter.unusedVariables false
set_option linter.unusedSimpArgs false
open Go

structure SItem where
  dst : Option Nat
  guard : Option (Nat × Bool)
  op : SOp
  deriving Inhabited

/-- Is an operation under a guard done? (What no bool stands in, was itself passed over.) -/
def gsel (v : Value) (want : Bool) : Bool := match v with
  | .bool b => b == want
  | _ => false
def SItem.wp (P : Program) (it : SItem) (ε : Env) (h : Heap) (K : Value → Heap → Prop) : Prop :=
  match it.guard with
  | none => it.op.wp P ε h K
  | some (s, want) => if gsel (ε s) want then it.op.wp P ε h K else K undef h

def SOp.qv (s : SOp) (ε : Env) (h : Heap) : Option Value :=
  match s with
  | .pur f xs => f.val (xs.map (ev ε))
  | .ld n x => ldV n (ev ε x) (hp h)
  | .eff _ _ => none
def SItem.qval (it : SItem) (ε : Env) (h : Heap) : Option Value :=
  match it.guard with
  | none => it.op.qv ε h
  | some (s, want) => if gsel (ε s) want then it.op.qv ε h else some undef
def SItem.holds (it : SItem) (ε : Env) (h : Heap) : Prop := ∃ v, it.qval ε h = some v ∧ ∀ d, it.dst = some d → ε d = v
def SItem.isEff (it : SItem) : Bool := match it.op with | .eff _ _ => true | _ => false
def SItem.isLd (it : SItem) : Bool := match it.op with | .ld _ _ => true | _ => false

/-- A statement's operations, in an order; where Go leaves the order open: a tree of the orders of its effects, each effect with the loads that may still come behind it. -/
inductive RT where
  | done
  | run (it : SItem) (rest : RT)
  | eff (it : SItem) (held : List SItem) (rest : RT)
  | both (a b : RT)
  deriving Inhabited

def goR (P : Program) : RT → Env → Heap → (Env → Heap → Prop) → Prop
  | .done, ε, h, K => K ε h
  | .run it rest, ε, h, K => it.wp P ε h fun v h' => goR P rest (ε.put it.dst v) h' K
  | .eff it held rest, ε, h, K => it.wp P ε h fun v h' => (∀ q ∈ held, q.holds (ε.put it.dst v) h') ∧ goR P rest (ε.put it.dst v) h' K
  | .both a b, ε, h, K => goR P a ε h K ∧ goR P b ε h K

def opdTmp : Operand → List Nat
  | .tmp t => [t]
  | _ => []
def SItem.reads (it : SItem) : List Nat := it.op.opds.flatMap opdTmp ++ (match it.guard with | some (s, _) => [s] | none => [])

def compItem (P : Program) (ops : Array Oper) (o : Oper) : Option SItem :=
  match compileOp P o.op with
  | none => none
  | some s => match o.guard with
    | none => some ⟨o.dst, none, s⟩
    | some (j, want) => match (ops[j]?).bind (·.dst) with
      | some t => some ⟨o.dst, some (t, want), s⟩
      | none => none

def straight : List SItem → RT
  | [] => .done
  | it :: its => .run it (straight its)

/-- In a straight statement: what is read is known, what is written has a place. -/
def chk (N : Nat) : List Nat → List SItem → Bool
  | _, [] => true
  | kn, it :: its => it.reads.all (kn.contains ·) && (match it.dst with | some d => decide (d < N) | none => true) && chk N (it.dst.toList ++ kn) its

/-! ### Soundness of a straight statement -/
def AgreeOn (ds : List Deferred) (kn : List Nat) (N : Nat) (a : Act) (ε : Env) : Prop := a.defers = ds ∧ a.tmps.size = N ∧ ∀ s, kn.contains s = true → a.tmps.getD s undef = ε s

theorem eval_agree {ds : List Deferred} {kn : List Nat} {N : Nat} {a : Act} {ε : Env} (h : AgreeOn ds kn N a ε) {x : Operand} (hx : ∀ t ∈ opdTmp x, kn.contains t = true) : a.eval x = ev ε x := by
  cases x with
  | tmp t => exact h.2.2 t (hx t (by simp [opdTmp]))
  | _ => rfl

theorem getD_set {xs : Array Value} {d s : Nat} {v : Value} (hd : d < xs.size) : (xs.setIfInBounds d v).getD s undef = if s = d then v else xs.getD s undef := by
  by_cases h : s = d
  · subst h; simp [Array.getD, hd]
  · simp only [if_neg h, Array.getD, Array.size_setIfInBounds]
    split
    · rw [Array.getInternal_eq_getElem, Array.getInternal_eq_getElem, Array.getElem_setIfInBounds_ne]
      exact fun e => h e.symm
    · rfl

theorem agree_put {ds : List Deferred} {kn : List Nat} {N : Nat} {a : Act} {ε : Env} (h : AgreeOn ds kn N a ε) (dst : Option Nat) (v : Value) (hd : ∀ d, dst = some d → d < N) :
    AgreeOn ds (dst.toList ++ kn) N (a.put dst v) (ε.put dst v) := by
  cases dst with
  | none => exact h
  | some d =>
    refine ⟨h.1, by simp [Act.put, h.2.1], fun s hs => ?_⟩
    simp only [Act.put, Env.put, Env.set]
    rw [getD_set (by rw [h.2.1]; exact hd d rfl)]
    split
    · rfl
    · rename_i hne
      refine h.2.2 s ?_
      simpa [hne] using hs

theorem guard_wanted {ops : Array Oper} {a : Act} {ε : Env} {j s : Nat} {want : Bool} {o : Oper} (hg : o.guard = some (j, want)) (hj : (ops[j]?).bind (·.dst) = some s) (ha : a.tmps.getD s undef = ε s) :
    Region.wanted o (yielded ops a.tmps) = gsel (ε s) want := by
  by_cases hlt : s < a.tmps.size
  · have e1 : a.tmps.getD s undef = a.tmps[s] := by simp [Array.getD, hlt]
    rw [e1] at ha
    rw [← ha]
    simp only [Region.wanted, hg, yielded, hj, Option.bind_some, Array.getElem?_eq_getElem hlt]
    generalize a.tmps[s] = x
    cases x <;> rfl
  · have e1 : a.tmps.getD s undef = undef := by simp [Array.getD, hlt]
    have e2 : a.tmps[s]? = none := by simp; omega
    rw [e1] at ha
    rw [← ha]
    simp only [Region.wanted, hg, yielded, hj, Option.bind_some, e2]
    rfl

/-- One operation of a region, at whatever place of the order. -/
theorem item_sound {rr : Option Nat} {nn : Nat} {P : Program} {ops : Array Oper} {o : Oper} {it : SItem} (hc : compItem P ops o = some it) {a : Act} {ε : Env} {w : World} {K : Value → Heap → Prop} {Q : Exit → Act → World → Prop} {next : Act → World → Prop}
    (hr : ∀ t ∈ it.reads, a.tmps.getD t undef = ε t) (h : it.wp P ε w.heap K) (hn : ∀ v w', K v w'.heap → Same w w' → next (a.put it.dst v) w') :
    (if Region.wanted o (yielded ops a.tmps) then o.wpIn (FN rr) nn P a w next Q else (∀ f, o.about P w a.eval = some f → (FN rr).fn f) ∧ next (a.put o.dst undef) w) := by
  obtain ⟨dst, op, type, pos, after, guard⟩ := o
  unfold compItem at hc
  split at hc
  · cases hc
  rename_i s hs
  have hev : ∀ x ∈ s.opds, (∀ t ∈ opdTmp x, a.tmps.getD t undef = ε t) → a.eval x = ev ε x := by
    intro x _ hx
    cases x with
    | tmp t => exact hx t (by simp [opdTmp])
    | _ => rfl
  cases guard with
  | none =>
    simp only [Option.some.injEq] at hc
    subst hc
    have hw : Region.wanted ⟨dst, op, type, pos, after, none⟩ (yielded ops a.tmps) = true := rfl
    rw [if_pos hw]
    refine op_sound hs (fun x hx => hev x hx fun t ht => hr t ?_) h hn
    simp only [SItem.reads, List.mem_append, List.mem_flatMap]
    exact .inl ⟨x, hx, ht⟩
  | some g =>
    obtain ⟨j, want⟩ := g
    simp only at hc
    split at hc
    · rename_i t hj
      simp only [Option.some.injEq] at hc
      subst hc
      rw [guard_wanted rfl hj (hr t (by simp [SItem.reads]))]
      have h : if gsel (ε t) want then s.wp P ε w.heap K else K undef w.heap := h
      split at h
      · rename_i hgs
        rw [if_pos hgs]
        refine op_sound hs (fun x hx => hev x hx fun t ht => hr t ?_) h hn
        simp only [SItem.reads, List.mem_append, List.mem_flatMap]
        exact .inl ⟨x, hx, ht⟩
      · rename_i hgs
        rw [if_neg hgs]
        exact ⟨fun f _ => FN_fn rr f, hn undef w h (Same.refl w)⟩
    · cases hc

theorem straight_sound {ds : List Deferred} {rr : Option Nat} {nn : Nat} {P : Program} {ops : Array Oper} {N : Nat} {Q : Exit → Act → World → Prop} {K : Env → Heap → Prop} {w0 : World} : ∀ (l : List Oper) (its : List SItem), l.mapM (compItem P ops) = some its → ∀ (kn : List Nat) (a : Act) (ε : Env) (w : World),
    chk N kn its = true → AgreeOn ds kn N a ε → Same w0 w → goR P (straight its) ε w.heap K →
    (∀ a' ε' w', AgreeOn ds kn N a' ε' → (∀ it ∈ its, ∀ d, it.dst = some d → a'.tmps.getD d undef = ε' d) → Same w0 w' → K ε' w'.heap → Q .normal a' w') → wpListIn (FN rr) nn P ops Q l a w := by
  intro l
  induction l with
  | nil =>
    intro its hl kn a ε w _ hag hs h hQ
    simp at hl
    subst hl
    exact hQ a ε w hag (by simp) hs h
  | cons o l ih =>
    intro its hl kn a ε w hck hag hs h hQ
    rw [List.mapM_cons] at hl
    simp only [bind, Option.bind_eq_some_iff, pure, Option.some.injEq] at hl
    obtain ⟨it, hit, its', hits, rfl⟩ := hl
    simp only [chk, Bool.and_eq_true, List.all_eq_true] at hck
    obtain ⟨⟨hrd, hd⟩, hck⟩ := hck
    unfold wpListIn
    have := item_sound (P := P) (ops := ops) (Q := Q) (next := wpListIn (FN rr) nn P ops Q l) (rr := rr) (nn := nn) hit (a := a) (ε := ε) (w := w) (K := fun v h' => goR P (straight its') (ε.put it.dst v) h' K)
      (fun t ht => hag.2.2 t (hrd t ht)) h (fun v w' hk hsw => ?_)
    · exact this
    · have hd' : ∀ d, it.dst = some d → d < N := by intro d e; simpa [e] using hd
      refine ih its' hits (it.dst.toList ++ kn) (a.put it.dst v) (ε.put it.dst v) w' hck (agree_put hag it.dst v hd') (hs.trans hsw) hk ?_
      intro a' ε' w'' h1 h2 h3 h4
      refine hQ a' ε' w'' ⟨h1.1, h1.2.1, fun s hs => h1.2.2 s (by simp only [List.contains_eq_mem, List.mem_append, decide_eq_true_eq] at hs ⊢; exact .inr hs)⟩ ?_ h3 h4
      intro it2 hm d hd2
      rcases List.mem_cons.1 hm with rfl | hm
      · exact h1.2.2 d (by simp [hd2])
      · exact h2 it2 hm d hd2

end Go.Kx
