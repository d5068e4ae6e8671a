/- Own small program logic, part j: code, and whole functions. -/
import Derived.Test.YtjdpejggafefjaaDoorKi
import Derived.Sort.LoopGhostIn
namespace Go.Kx
set_option linter.unusedVariables false
set_option linter.unusedSimpArgs false
open Go

inductive SCode where
  | skip
  | reg (t : RT) (outs : List Nat)
  | seq (a b : SCode)
  | cond (c : Operand) (a b : SCode)
  | block (id : Nat) (c : SCode)
  | loop (c : SCode)
  | exit (id : Nat)
  | ret
  | rf (g : Operand) (ps : List Nat) (assign body : SCode)
  deriving Inhabited

/-- A heap that has grown; the records of ranges over functions may have turned, but for those below n. -/
def GrowD (n : Nat) (h h' : Heap) : Prop := h.size ≤ h'.size ∧ ∀ (b : Nat) (o : Obj), h[b]? = some o → (isLD o = false ∨ b < n) → h'[b]? = some o
theorem GrowD.refl (n : Nat) (h : Heap) : GrowD n h h := ⟨Nat.le_refl _, fun _ _ e _ => e⟩
theorem GrowD.weaken {n m : Nat} {a b : Heap} (h : GrowD n a b) (hm : m ≤ n) : GrowD m a b := ⟨h.1, fun i o e l => h.2 i o e (l.imp id fun hl => Nat.lt_of_lt_of_le hl hm)⟩
theorem GrowD.trans {n : Nat} {a b c : Heap} (h : GrowD n a b) (k : GrowD n b c) : GrowD n a c := ⟨Nat.le_trans h.1 k.1, fun i o e l => k.2 i o (h.2 i o e l) l⟩
/-- A heap that has grown. -/
def Grow (h h' : Heap) : Prop := h.size ≤ h'.size ∧ ∀ (b : Nat) (o : Obj), h[b]? = some o → h'[b]? = some o
theorem Grow.d {n : Nat} {h h' : Heap} (g : Grow h h') : GrowD n h h' := ⟨g.1, fun b o e _ => g.2 b o e⟩
theorem Grow.push (h : Heap) (o : Obj) : Grow h (h.push o) := ⟨by simp, fun b o' e => by
  have hlt := (Array.getElem?_eq_some_iff.1 e).1
  rw [Array.getElem?_push_lt hlt]
  exact e ▸ (Array.getElem?_eq_getElem hlt).symm⟩
theorem GrowD.put {n : Nat} {w : World} {l : Nat} {o : Obj} (o' : Obj) (hn : n ≤ l) (hl : w.heap[l]? = some o) (ho : isLD o = true) : GrowD n w.heap (w.putObj l o').heap :=
  ⟨by simp, fun b x e hx => by
    by_cases hb : b = l
    · subst hb
      rw [hl] at e
      cases e
      rw [ho] at hx
      rcases hx with hx | hx
      · cases hx
      · omega
    · rw [World.putObj_heap_other hb]; exact e⟩
def FzIn (g : Nat → Nat → Option Value) (h : Heap) : Prop := ∀ b o u, g b o = some u → cellG (hp h) b o = some u
/-- A function that hands over these values, one behind the other; it reads what is frozen, and its own. -/
def IterC (P : Program) (f : FuncId) (lb : Array Value) (n : Nat) (vs : Nat → List Value) (g : Nat → Nat → Option Value) : Prop :=
  ∀ (u : Value) (J : Nat → Heap → Prop) (h : Heap), (∀ i h, J i h → FzIn g h) → (∀ i h1 h2, J i h1 → GrowD h.size h1 h2 → J i h2) →
    (∀ i h, i < n → J i h → EF.callv.wp P (u :: vs i) h fun v h' => v = .bool true ∧ J (i + 1) h') →
    J 0 h → FnC P f (#[u] ++ lb) h fun _ h' => J n h'
def setEnv (ρ : Env) (ps : List Nat) (vs : List Value) : Env := (ps.zip vs).foldl (fun r p => r.set p.1 p.2) ρ

def outEnv (outs : List Nat) (ρ ε : Env) : Env := outs.foldl (fun r d => r.set d (ε d)) ρ

def wpS (P : Program) : SCode → (Env → Heap → Prop) → (Nat → Env → Heap → Prop) → (Env → Heap → Prop) → Env → Heap → Prop
  | .skip, K, _, _, ρ, h => K ρ h
  | .reg t outs, K, _, _, ρ, h => goR P t ρ h fun ε h' => K (outEnv outs ρ ε) h'
  | .seq a b, K, X, R, ρ, h => wpS P a (fun ρ h => wpS P b K X R ρ h) X R ρ h
  | .cond c a b, K, X, R, ρ, h => ∃ t, ev ρ c = .bool t ∧ ((t = true → wpS P a K X R ρ h) ∧ (t = false → wpS P b K X R ρ h))
  | .block id c, K, X, R, ρ, h => wpS P c K (fun j ρ h => if j = id then K ρ h else X j ρ h) R ρ h
  | .loop c, _, X, R, ρ, h => ∃ (α : Type) (I : α → Env → Heap → Prop) (μ : α → Nat) (x : α), I x ρ h ∧ ∀ x ρ h, I x ρ h → wpS P c (fun ρ' h' => ∃ x', I x' ρ' h' ∧ μ x' < μ x) X R ρ h
  | .exit id, _, X, _, ρ, h => X id ρ h
  | .ret, _, _, R, ρ, h => R ρ h
  | .rf g ps assign body, K, _, _, ρ, h => ∃ (gf : FuncId) (lb : Array Value) (n : Nat) (vs : Nat → List Value) (fz : Nat → Nat → Option Value) (J : Nat → Heap → Prop),
      ev ρ g = .func (.func gf) #[] lb ∧ fnOk P gf = true ∧ (∀ i, i < n → (vs i).length = ps.length) ∧ IterC P gf lb n vs fz ∧
      (∀ i h, J i h → FzIn fz h) ∧ (∀ i h1 h2, J i h1 → GrowD h.size h1 h2 → J i h2) ∧ J 0 h ∧
      (∀ i h1, i < n → J i h1 → wpS P assign (fun ρ' h' => ∀ h'', GrowD h.size h' h'' → wpS P body (fun _ h3 => J (i + 1) h3) (fun _ _ _ => False) (fun _ _ => False) ρ' h'') (fun _ _ _ => False) (fun _ _ => False) (setEnv ρ ps (vs i)) h1) ∧
      (∀ h', J n h' → K ρ h')

def compile (P : Program) (N : Nat) (pers : List Nat) : Bool → Code → Option SCode
  | _, .skip => some .skip
  | _, .region _ ops draw =>
    match ops.toList.mapM (compItem P ops) with
    | none => none
    | some its =>
      let outs := its.filterMap fun it => match it.dst with | some d => if pers.contains d then some d else none | none => none
      if draw then
        let D := mkDI its (ops.toList.map depsOf)
        if D.ok pers N then (D.tree (its.length + 1) []).map (.reg · outs) else none
      else if chk N pers its then some (.reg (straight its) outs) else none
  | top, .seq a b => match compile P N pers top a, compile P N pers top b with
    | some x, some y => some (.seq x y)
    | _, _ => none
  | top, .cond c a b => match compile P N pers top a, compile P N pers top b with
    | some x, some y => if (opdTmp c).all (pers.contains ·) then some (.cond c x y) else none
    | _, _ => none
  | top, .block id c => (compile P N pers top c).map (.block id)
  | top, .loop c => (compile P N pers top c).map .loop
  | _, .exit id => some (.exit id)
  | _, .ret => some .ret
  | true, .rangeFunc g ps a b => match compile P N pers false a, compile P N pers false b with
    | some x, some y => if (opdTmp g).all (pers.contains ·) && ps.toList.all (fun p => decide (p < N)) then some (.rf g ps.toList x y) else none
    | _, _ => none
  | _, _ => none

/-- The marks of ranges over functions among an activation's deferred calls. -/
structure DsOk (n0 : Nat) (ds : List Deferred) (h : Heap) (Ds : List Nat) : Prop where
  e : ds = Ds.map fun D => { target := .collected D, args := #[] }
  nd : Ds.Nodup
  at_ : ∀ D ∈ Ds, n0 ≤ D ∧ h[D]? = some (.deferred (some []))
theorem DsOk.nil (n0 : Nat) (h : Heap) : DsOk n0 [] h [] := ⟨rfl, .nil, fun _ hd => by simp at hd⟩
theorem DsOk.keep {n0 : Nat} {ds : List Deferred} {h h' : Heap} {Ds : List Nat} (d : DsOk n0 ds h Ds) (k : KeepD h h') : DsOk n0 ds h' Ds := ⟨d.e, d.nd, fun D hD => ⟨(d.at_ D hD).1, k.2 _ _ (d.at_ D hD).2 rfl⟩⟩

def QS (N : Nat) (pers : List Nat) (n0 : Nat) (w0 : World) (K : Env → Heap → Prop) (X : Nat → Env → Heap → Prop) (R : Env → Heap → Prop) : Exit → Act → World → Prop
  | .normal, a, w => ∃ ds Ds ρ, AgreeOn ds pers N a ρ ∧ DsOk n0 ds w.heap Ds ∧ Same w0 w ∧ K ρ w.heap
  | .exit id, a, w => ∃ ds Ds ρ, AgreeOn ds pers N a ρ ∧ DsOk n0 ds w.heap Ds ∧ Same w0 w ∧ X id ρ w.heap
  | .ret, a, w => ∃ ds Ds ρ, AgreeOn ds pers N a ρ ∧ DsOk n0 ds w.heap Ds ∧ Same w0 w ∧ R ρ w.heap
  | _, _, _ => False

theorem outEnv_get (outs : List Nat) (ρ ε : Env) (s : Nat) : outEnv outs ρ ε s = if s ∈ outs then ε s else ρ s := by
  unfold outEnv
  induction outs generalizing ρ with
  | nil => simp
  | cons d outs ih =>
    simp only [List.foldl_cons, ih, List.mem_cons]
    by_cases h : s ∈ outs
    · simp [h]
    · by_cases hd : s = d
      · subst hd; simp [h, Env.set]
      · simp [h, hd, Env.set]

theorem out_agree {ds : List Deferred} {its : List SItem} {pers : List Nat} {N : Nat} {a : Act} {ρ ε : Env} (hd : a.defers = ds) (hN : a.tmps.size = N)
    (h1 : ∀ it ∈ its, ∀ d, it.dst = some d → a.tmps.getD d undef = ε d) (h2 : ∀ s, pers.contains s = true → (∀ it ∈ its, it.dst ≠ some s) → a.tmps.getD s undef = ρ s) :
    AgreeOn ds pers N a (outEnv (its.filterMap fun it => match it.dst with | some d => if pers.contains d then some d else none | none => none) ρ ε) := by
  refine ⟨hd, hN, fun s hs => ?_⟩
  rw [outEnv_get]
  by_cases h : ∃ it ∈ its, it.dst = some s
  · obtain ⟨it, hit, hds⟩ := h
    rw [if_pos]
    · exact h1 it hit s hds
    · simp only [List.mem_filterMap]
      exact ⟨it, hit, by simp [hds]; simpa using hs⟩
  · rw [if_neg]
    · exact h2 s hs fun it hit e => h ⟨it, hit, e⟩
    · simp only [List.mem_filterMap, not_exists, not_and]
      intro it hit e
      apply h
      refine ⟨it, hit, ?_⟩
      revert e
      cases it.dst with
      | none => simp
      | some d => simp only; split <;> simp

theorem EF.wp_mono {P : Program} {e : EF} {vs : List Value} {h : Heap} {K K' : Value → Heap → Prop} (hk : ∀ v h, K v h → K' v h) (H : e.wp P vs h K) : e.wp P vs h K' := by
  unfold EF.wp at *
  split at H
  · exact hk _ _ H
  · exact hk _ _ H
  · exact ⟨H.1, H.2.choose, H.2.choose_spec.1, hk _ _ H.2.choose_spec.2⟩
  · exact ⟨H.1, hk _ _ H.2⟩
  · exact ⟨H.1, H.2.1, H.2.2.1, H.2.2.2.1, hk _ _ H.2.2.2.2⟩
  · obtain ⟨m, news, h1, h2, H⟩ := H
    refine ⟨m, news, h1, h2, ?_⟩
    split at H
    · rename_i hc
      rw [if_pos hc]
      split at H
      · exact hk _ _ H
      · obtain ⟨h', h3, h4⟩ := H; exact ⟨h', h3, hk _ _ h4⟩
      · exact H
    · rename_i hc
      rw [if_neg hc]
      obtain ⟨h3, h4, olds, h5, h6, H⟩ := H
      exact ⟨h3, h4, olds, h5, h6, fun c h7 h8 => hk _ _ (H c h7 h8)⟩
  · exact FnC.mono H fun v h' => hk v h'
  · exact ⟨H.1, FnC.mono H.2 fun v h' => hk v h'⟩
  · exact ⟨H.1, H.2.1, YldC.mono H.2.2 fun v h' => hk v h'⟩
  · exact hk _ _ H
  · obtain ⟨en, clock, h1, h2⟩ := H
    refine ⟨en, clock, h1, ?_⟩
    rcases h2 with ⟨i, e, h3, h4, h5⟩ | ⟨h3, h4⟩
    · exact .inl ⟨i, e, h3, h4, hk _ _ h5⟩
    · exact .inr ⟨h3, hk _ _ h4⟩
  · obtain ⟨en, clock, h1, q, h2, h3⟩ := H
    exact ⟨en, clock, h1, q, h2, hk _ _ h3⟩
  · exact hk _ _ H
  · obtain ⟨s, pos, h1, h2⟩ := H
    refine ⟨s, pos, h1, ?_⟩
    split at h2 <;> rename_i hc
    · rw [if_pos hc]; exact hk _ _ h2
    · rw [if_neg hc]; exact hk _ _ h2
  · obtain ⟨n, bs, h1, h2, h3⟩ := H
    exact ⟨n, bs, h1, h2, hk _ _ h3⟩
  · obtain ⟨l, h1, h2⟩ := H
    refine ⟨l, h1, ?_⟩
    split at h2
    · obtain ⟨h', h3, h4⟩ := h2; exact ⟨h', h3, hk _ _ h4⟩
    · exact hk _ _ h2
    · exact h2.elim
  · exact ⟨H.1, fun c h1 h2 => hk _ _ (H.2 c h1 h2)⟩
  · exact H.elim

theorem SOp.wp_mono {P : Program} {s : SOp} {ε : Env} {h : Heap} {K K' : Value → Heap → Prop} (hk : ∀ v h, K v h → K' v h) (H : s.wp P ε h K) : s.wp P ε h K' := by
  cases s with
  | pur f xs => obtain ⟨v, h1, h2⟩ := H; exact ⟨v, h1, hk _ _ h2⟩
  | ld n x => obtain ⟨v, h1, h2⟩ := H; exact ⟨v, h1, hk _ _ h2⟩
  | eff e xs => exact EF.wp_mono hk H

theorem SItem.wp_mono {P : Program} {it : SItem} {ε : Env} {h : Heap} {K K' : Value → Heap → Prop} (hk : ∀ v h, K v h → K' v h) (H : it.wp P ε h K) : it.wp P ε h K' := by
  obtain ⟨dst, guard, op⟩ := it
  cases guard with
  | none => exact SOp.wp_mono hk H
  | some g =>
    obtain ⟨s, want⟩ := g
    have H : if gsel (ε s) want then op.wp P ε h K else K undef h := H
    show if gsel (ε s) want then op.wp P ε h K' else K' undef h
    split at H
    · rename_i hc; rw [if_pos hc]; exact SOp.wp_mono hk H
    · rename_i hc; rw [if_neg hc]; exact hk _ _ H

def RT.items : RT → List SItem
  | .done => []
  | .run it t => it :: t.items
  | .eff it _ t => it :: t.items
  | .both a b => a.items ++ b.items

theorem goR_frame {P : Program} {Ds : List Nat} {ρ : Env} : ∀ (t : RT) (ε : Env) (h : Heap) (K : Env → Heap → Prop), (∀ it ∈ t.items, ∀ d, it.dst = some d → d ∈ Ds) → (∀ s, s ∉ Ds → ε s = ρ s) → goR P t ε h K →
    goR P t ε h fun ε' h' => K ε' h' ∧ ∀ s, s ∉ Ds → ε' s = ρ s := by
  intro t
  have hput : ∀ (ε : Env) (dst : Option Nat) (v : Value), (∀ d, dst = some d → d ∈ Ds) → (∀ s, s ∉ Ds → ε s = ρ s) → ∀ s, s ∉ Ds → (ε.put dst v) s = ρ s := by
    intro ε dst v hd hs s hn
    rw [envput, if_neg (fun e => hn (hd s e))]
    exact hs s hn
  induction t with
  | done => intro ε h K _ hs H; exact ⟨H, hs⟩
  | run it t ih =>
    intro ε h K hd hs H
    refine SItem.wp_mono (fun v h' hk => ?_) H
    exact ih _ _ _ (fun u hu => hd u (List.mem_cons_of_mem _ hu)) (hput ε it.dst v (hd it (by simp [RT.items])) hs) hk
  | eff it held t ih =>
    intro ε h K hd hs H
    refine SItem.wp_mono (fun v h' hk => ?_) H
    exact ⟨hk.1, ih _ _ _ (fun u hu => hd u (List.mem_cons_of_mem _ hu)) (hput ε it.dst v (hd it (by simp [RT.items])) hs) hk.2⟩
  | both a b iha ihb =>
    intro ε h K hd hs H
    exact ⟨iha _ _ _ (fun u hu => hd u (List.mem_append.2 (.inl hu))) hs H.1, ihb _ _ _ (fun u hu => hd u (List.mem_append.2 (.inr hu))) hs H.2⟩

theorem straight_items (its : List SItem) : (straight its).items = its := by
  induction its with
  | nil => rfl
  | cons it its ih => simp [straight, RT.items, ih]

theorem orAll_items : ∀ (ts : List RT) (it : SItem), it ∈ (orAll ts).items → ∃ t ∈ ts, it ∈ t.items := by
  intro ts
  induction ts with
  | nil => intro it h; simp [orAll, RT.items] at h
  | cons t ts ih =>
    intro it h
    cases ts with
    | nil => exact ⟨t, by simp, h⟩
    | cons u us =>
      simp only [orAll, RT.items, List.mem_append] at h
      rcases h with h | h
      · exact ⟨t, by simp, h⟩
      · obtain ⟨x, hx, hi⟩ := ih it h
        exact ⟨x, List.mem_cons_of_mem _ hx, hi⟩

theorem mapM_mem' {α β : Type} {f : α → Option β} {l : List α} {m : List β} (h : l.mapM f = some m) {y : β} (hy : y ∈ m) : ∃ x ∈ l, f x = some y := by
  obtain ⟨i, hi⟩ := List.mem_iff_getElem?.1 hy
  obtain ⟨h1, h2⟩ := mapM_get h
  have hlt : i < l.length := by rw [← h1]; exact (List.getElem?_eq_some_iff.1 hi).1
  obtain ⟨z, hz, hf⟩ := h2 i l[i] (by simp [hlt])
  rw [hi] at hz
  cases hz
  exact ⟨_, List.getElem_mem hlt, hf⟩

theorem tree_items {D : DI} : ∀ (f : Nat) (V : List Nat) (t : RT), D.tree f V = some t → ∀ it ∈ t.items, ∃ i, i < D.n ∧ it = D.it i := by
  intro f
  induction f with
  | zero => intro V t h; simp [DI.tree] at h
  | succ f ih =>
    intro V t h it hit
    unfold DI.tree at h
    split at h
    · simp at h; subst h; simp [RT.items] at hit
    · split at h
      · rename_i q hq
        simp only [Option.map_eq_some_iff] at h
        obtain ⟨t', ht', rfl⟩ := h
        simp only [RT.items, List.mem_cons] at hit
        rcases hit with rfl | hit
        · exact ⟨q, List.mem_range.1 (List.mem_of_find?_eq_some hq), rfl⟩
        · exact ih _ _ ht' it hit
      · split at h
        · cases h
        · rename_i cs hcs
          simp only [Option.map_eq_some_iff] at h
          obtain ⟨ts, hts, rfl⟩ := h
          obtain ⟨u, hu, hiu⟩ := orAll_items _ _ hit
          obtain ⟨e, he, hf⟩ := mapM_mem' hts hu
          simp only [Option.map_eq_some_iff] at hf
          obtain ⟨t', ht', rfl⟩ := hf
          simp only [RT.items, List.mem_cons] at hiu
          rcases hiu with rfl | hiu
          · simp only [List.mem_filter, List.mem_range] at he
            exact ⟨e, he.1, rfl⟩
          · exact ih _ _ ht' it hiu

theorem reg_sound {rr : Option Nat} {nn : Nat} {top : Bool} {P : Program} {N : Nat} {pers : List Nat} (hm : P.follows .mixedOrders = true) {id : Nat} {ops : Array Oper} {draw : Bool} {s : SCode} (hc : compile P N pers top (.region id ops draw) = some s)
    {n0 : Nat} {w0 : World} {K : Env → Heap → Prop} {X : Nat → Env → Heap → Prop} {R : Env → Heap → Prop} {ρ : Env} {a : Act} {w : World} {ds : List Deferred} {Ds : List Nat} (h : wpS P s K X R ρ w.heap) (hag : AgreeOn ds pers N a ρ)
    (hds : DsOk n0 ds w.heap Ds) (hs : Same w0 w) : (Code.region id ops draw).wpIn (FN rr) nn P (QS N pers n0 w0 K X R) a w := by
  simp only [compile] at hc
  split at hc
  · cases hc
  rename_i its hits
  split at hc
  · rename_i hdraw
    subst hdraw
    split at hc
    · rename_i hok
      simp only [Option.map_eq_some_iff] at hc
      obtain ⟨t, ht, rfl⟩ := hc
      have ok := DI.ok_spec hits hok
      have hDn : ∀ i, i < (mkDI its (ops.toList.map depsOf)).n → ((mkDI its (ops.toList.map depsOf)).it i) ∈ its := by
        intro i hi
        have hi' : i < its.length := hi
        show its.getD i default ∈ its
        rw [List.getD_eq_getElem?_getD, List.getElem?_eq_getElem hi']
        exact List.getElem_mem hi'
      have hDn' : ∀ it ∈ its, ∃ i, i < (mkDI its (ops.toList.map depsOf)).n ∧ (mkDI its (ops.toList.map depsOf)).it i = it := by
        intro it hit
        obtain ⟨i, hi, rfl⟩ := List.mem_iff_getElem.1 hit
        refine ⟨i, hi, ?_⟩
        show its.getD i default = _
        simp [List.getD_eq_getElem?_getD, hi]
      have hf := goR_frame (Ds := its.filterMap (·.dst)) (ρ := ρ) t ρ w.heap _ (fun it hit d hd => by
        obtain ⟨i, hi, rfl⟩ := tree_items _ _ _ ht it hit
        simp only [List.mem_filterMap]
        exact ⟨_, hDn i hi, hd⟩) (fun _ _ => rfl) h
      refine wpIn_region_any hm ?_
      have hinv : Inv ds P (mkDI its (ops.toList.map depsOf)) pers N [] (Array.replicate ops.size false) a ρ { w with drawn := w.drawn + 1 } := by
        have hrep : ∀ j, (Array.replicate ops.size false).getD j false = false := by
          intro j
          simp [Array.getD]
        refine ⟨by simp [ok.n], by simp, ?_, by simp, by simp, ?_, hag.1, hag.2.1, ?_, by simp⟩
        · intro j hj; rw [hrep] at hj; cases hj
        · intro j hj; rw [hrep] at hj; cases hj
        · intro s _ hs
          rcases hs with hs | ⟨j, hj, _⟩
          · exact hag.2.2 s hs
          · cases hj
      refine tree_sound ok (w0 := w) (K := fun ε h' => K (outEnv (its.filterMap fun it => match it.dst with | some d => if pers.contains d then some d else none | none => none) ρ ε) h' ∧ ∀ s, s ∉ its.filterMap (·.dst) → ε s = ρ s) ?_ _ _ _ ht ops.size _ a ρ _ hinv ?_ ⟨rfl, rfl, rfl, .refl _⟩ hf
      · intro a' ε w' hd hN hg hsw hK
        refine ⟨ds, Ds, _, out_agree hd hN ?_ ?_, hds.keep hsw.2.2.2, hs.trans hsw, hK.1⟩
        · intro it hit d hdd
          obtain ⟨i, hi, rfl⟩ := hDn' it hit
          exact hg d (.inr ⟨i, hi, hdd⟩)
        · intro s hs hno
          rw [hg s (.inl hs)]
          refine hK.2 s ?_
          simp only [List.mem_filterMap, not_exists, not_and]
          exact fun it hit e => hno it hit e
      · unfold unl
        refine Nat.le_trans (List.length_filter_le _ _) ?_
        simp
    · cases hc
  · rename_i hdraw
    have hdraw' : draw = false := by simpa using hdraw
    subst hdraw'
    split at hc
    · rename_i hck
      simp only [Option.some.injEq] at hc
      subst hc
      have hf := goR_frame (Ds := its.filterMap (·.dst)) (ρ := ρ) (straight its) ρ w.heap _ (fun it hit d hd => by
        rw [straight_items] at hit
        simp only [List.mem_filterMap]
        exact ⟨_, hit, hd⟩) (fun _ _ => rfl) h
      refine wpIn_region_list ?_
      refine straight_sound (w0 := w) ops.toList its hits pers a ρ w hck hag (.refl w) hf ?_
      intro a' ε' w' hag' hwr hsw hK
      refine ⟨ds, Ds, _, out_agree hag'.1 hag'.2.1 hwr ?_, hds.keep hsw.2.2.2, hs.trans hsw, hK.1⟩
      intro s hs hno
      rw [hag'.2.2 s hs]
      refine hK.2 s ?_
      simp only [List.mem_filterMap, not_exists, not_and]
      exact fun it hit e => hno it hit e
    · cases hc

theorem g1' {h h' : Heap} (g : Grow h h') : KeepD h h' := ⟨g.1, fun b o e _ => g.2 b o e⟩
theorem agree_fold {pers : List Nat} {N : Nat} : ∀ (ps : List Nat) (vs : List Value) (tmps : Array Value) (ρ : Env), ps.all (fun p => decide (p < N)) = true → AgreeOn [] pers N { tmps := tmps, defers := [] } ρ →
    AgreeOn [] pers N { tmps := (ps.zip vs).foldl (fun t p => t.setIfInBounds p.1 p.2) tmps, defers := [] } (setEnv ρ ps vs) := by
  intro ps
  induction ps with
  | nil => intro vs tmps ρ _ h; exact h
  | cons p ps ih =>
    intro vs tmps ρ hp h
    cases vs with
    | nil => exact h
    | cons v vs =>
      simp only [List.all_cons, Bool.and_eq_true, decide_eq_true_eq] at hp
      refine ih vs (tmps.setIfInBounds p v) (ρ.set p v) hp.2 ⟨rfl, by simpa using h.2.1, fun s hs => ?_⟩
      simp only [Env.set]
      have hN : p < tmps.size := by have := h.2.1; simp only at this; omega
      rw [getD_set hN]
      split
      · rfl
      · exact h.2.2 s hs

theorem code_sound {P : Program} {N : Nat} {pers : List Nat} (hm : P.follows .mixedOrders = true) : ∀ (c : Code) (top : Bool) (rr : Option Nat), (top = true → rr = none) → ∀ (s : SCode), compile P N pers top c = some s → ∀ (nn n0 : Nat) (w0 : World) (K : Env → Heap → Prop) (X : Nat → Env → Heap → Prop) (R : Env → Heap → Prop) (ds : List Deferred) (Ds : List Nat) (ρ : Env) (a : Act) (w : World),
    wpS P s K X R ρ w.heap → AgreeOn ds pers N a ρ → DsOk n0 ds w.heap Ds → n0 ≤ w0.heap.size → Same w0 w → c.wpIn (FN rr) nn P (QS N pers n0 w0 K X R) a w := by
  intro c
  induction c with
  | skip => intro top rr ht s hc nn n0 w0 K X R ds Ds ρ a w h hag hds hn0 hs; cases top <;> simp [compile] at hc <;> subst hc <;> exact wpIn_skip ⟨ds, Ds, ρ, hag, hds, hs, h⟩
  | region id ops draw => intro top rr ht s hc nn n0 w0 K X R ds Ds ρ a w h hag hds hn0 hs; exact reg_sound hm hc h hag hds hs
  | seq x y ihx ihy =>
    intro top rr ht s hc nn n0 w0 K X R ds Ds ρ a w h hag hds hn0 hs
    simp only [compile] at hc
    split at hc
    · rename_i sx sy hx hy
      simp only [Option.some.injEq] at hc
      subst hc
      refine wpIn_seq (wpIn_mono (ihx top rr ht sx hx nn n0 w0 _ X R ds Ds ρ a w h hag hds hn0 hs) ?_)
      intro e a' w' hq
      cases e with
      | normal =>
        obtain ⟨ds', Ds', ρ', h1, h2, h3, h4⟩ := hq
        exact ihy top rr ht sy hy nn n0 w0 K X R ds' Ds' ρ' a' w' h4 h1 h2 hn0 h3
      | _ => exact hq
    · cases hc
  | cond c x y ihx ihy =>
    intro top rr ht s hc nn n0 w0 K X R ds Ds ρ a w h hag hds hn0 hs
    simp only [compile] at hc
    split at hc
    · rename_i sx sy hx hy
      split at hc
      · rename_i hcp
        simp only [Option.some.injEq] at hc
        subst hc
        obtain ⟨t, htt, h1, h2⟩ := h
        simp only [List.all_eq_true] at hcp
        have hev := eval_agree hag (x := c) hcp
        refine wpIn_cond_split (t := t) (by rw [hev, htt]) (fun e => ihx top rr ht sx hx nn n0 w0 K X R ds Ds ρ a w (h1 e) hag hds hn0 hs) (fun e => ihy top rr ht sy hy nn n0 w0 K X R ds Ds ρ a w (h2 e) hag hds hn0 hs)
      · cases hc
    · cases hc
  | block id c ih =>
    intro top rr ht s hc nn n0 w0 K X R ds Ds ρ a w h hag hds hn0 hs
    simp only [compile, Option.map_eq_some_iff] at hc
    obtain ⟨sc, hsc, rfl⟩ := hc
    refine wpIn_block (wpIn_mono (ih top rr ht sc hsc nn n0 w0 K _ R ds Ds ρ a w h hag hds hn0 hs) ?_)
    intro e a' w' hq
    cases e with
    | exit j =>
      obtain ⟨ds', Ds', ρ', h1, h2, h3, h4⟩ := hq
      simp only [Exit.inBlock]
      split
      · rename_i hj; rw [if_pos hj] at h4; exact ⟨ds', Ds', ρ', h1, h2, h3, h4⟩
      · rename_i hj; rw [if_neg hj] at h4; exact ⟨ds', Ds', ρ', h1, h2, h3, h4⟩
    | _ => exact hq
  | loop c ih =>
    intro top rr ht s hc nn n0 w0 K X R ds Ds ρ a w h hag hds hn0 hs
    simp only [compile, Option.map_eq_some_iff] at hc
    obtain ⟨sc, hsc, rfl⟩ := hc
    obtain ⟨α, I, μ, x, hI, hround⟩ := h
    refine wpIn_loop_ghost (fun n a w => ∃ x ds Ds ρ, μ x = n ∧ I x ρ w.heap ∧ AgreeOn ds pers N a ρ ∧ DsOk n0 ds w.heap Ds ∧ Same w0 w) (μ x) ⟨x, ds, Ds, ρ, rfl, hI, hag, hds, hs⟩ ?_
    rintro n a w ⟨x, ds, Ds, ρ, rfl, hI, hag, hds, hs⟩
    refine wpIn_mono (ih top rr ht sc hsc nn n0 w0 _ X R ds Ds ρ a w (hround x ρ w.heap hI) hag hds hn0 hs) ?_
    intro e a' w' hq
    cases e with
    | normal =>
      obtain ⟨ds', Ds', ρ', h1, h2, h3, x', h4, h5⟩ := hq
      exact ⟨μ x', h5, x', ds', Ds', ρ', rfl, h4, h1, h2, h3⟩
    | _ => exact hq
  | exit id => intro top rr ht s hc nn n0 w0 K X R ds Ds ρ a w h hag hds hn0 hs; cases top <;> simp [compile] at hc <;> subst hc <;> exact wpIn_exit ⟨ds, Ds, ρ, hag, hds, hs, h⟩
  | ret => intro top rr ht s hc nn n0 w0 K X R ds Ds ρ a w h hag hds hn0 hs; cases top <;> simp [compile] at hc <;> subst hc <;> exact wpIn_ret ⟨ds, Ds, ρ, hag, hds, hs, h⟩
  | rangeFunc g ps ca cb iha ihb =>
    intro top rr ht s hc nn n0 w0 K X R ds Ds ρ a w h hag hds hn0 hs
    cases top with
    | false => simp [compile] at hc
    | true =>
    obtain rfl := ht rfl
    simp only [compile] at hc
    split at hc
    · rename_i sa sb hsa hsb
      split at hc
      · rename_i hck
        simp only [Option.some.injEq] at hc
        subst hc
        simp only [Bool.and_eq_true] at hck
        obtain ⟨hck1, hck2⟩ := hck
        obtain ⟨gf, lb, n, vs, fz, J, hg, hok, hlen, hit, hfz, hJ, h0, hbody, hdone⟩ := h
        have hev : a.eval g = .func (.func gf) #[] lb := by rw [eval_agree hag (x := g) (by simpa using hck1), hg]
        refine wpIn_rangeFunc fun fn hfn => ?_
        obtain ⟨rec, hrec⟩ : ∃ rec : LoopState → Loop, rec = fun st => { state := st, pending := none, fn, tmps := a.tmps, params := ps, assign := ca, body := cb, defers := w.heap.size } := ⟨_, rfl⟩
        obtain ⟨W1, hW1⟩ : ∃ W1, (w.alloc (.deferred (some []))).alloc (.loop (rec .ready)) = W1 := ⟨_, rfl⟩
        have g1 : Grow w.heap W1.heap := by
          rw [← hW1]
          have e1 := Grow.push w.heap (.deferred (some []))
          have e2 := Grow.push (w.heap.push (.deferred (some []))) (.loop (rec .ready))
          exact ⟨Nat.le_trans e1.1 e2.1, fun b o e => e2.2 b o (e1.2 b o e)⟩
        have sW : Same w W1 := by rw [← hW1]; exact ⟨rfl, rfl, rfl, g1' (hW1 ▸ g1)⟩
        have hL1 : W1.heap[w.heap.size + 1]? = some (.loop (rec .ready)) := by
          rw [← hW1]; have := World.alloc_heap_new (w.alloc (.deferred (some []))) (.loop (rec .ready)); rwa [World.size_alloc] at this
        have hK1 : W1.heap[w.heap.size]? = some (.deferred (some [])) := by
          rw [← hW1]
          exact (Grow.push (w.heap.push (.deferred (some []))) (.loop (rec .ready))).2 _ _ (World.alloc_heap_new w _)
        have hlt1 : w.heap.size + 1 < W1.heap.size := (Array.getElem?_eq_some_iff.1 hL1).1
        refine ⟨w.heap.size + 1, [{ target := .collected w.heap.size, args := #[] }], W1, { target := .fn (.func gf) lb, args := #[.func (.yield (w.heap.size + 1)) #[] #[]] }, W1, gf,
          #[.func (.yield (w.heap.size + 1)) #[] #[]] ++ lb, W1, ?_, ?_, fun f' _ => trivial, ?_, (fun h => by cases h), ?_⟩
        · rw [← hW1, hrec]; exact run_enterLoop_outer _ _ _ _ _
        · simp only [resolve, hev]
          simp [go_sem]
        · simp [invoke, callFunc_run hok]
        · refine FN_calls (r := none) ((hit (.func (.yield (w.heap.size + 1)) #[] #[]) (fun i h => J i h ∧ h[w.heap.size + 1]? = some (.loop (rec .ready)) ∧ h[w.heap.size]? = some (.deferred (some []))) W1.heap (fun i h hj => hfz i h hj.1)
            (fun i h h' hj hg => ⟨hJ i h h' hj.1 (hg.weaken g1.1), hg.2 _ _ hj.2.1 (.inr hlt1), hg.2 _ _ hj.2.2 (.inr (by omega))⟩) ?_ ⟨hJ 0 _ _ h0 g1.d, hL1, hK1⟩ W1 rfl).mono ?_)
          · rintro i h hi ⟨hj, hl, hD⟩
            refine ⟨rfl, rfl, ?_⟩
            rintro w2 rfl
            have hsz : (vs i).toArray.size = (rec .ready).params.size := by rw [hrec]; simpa using hlen i hi
            have hy := run_yield (P := P) (args := (vs i).toArray) hl hsz
            refine ⟨_, _, _, _, hy, ?_⟩
            have e1 : (rec .ready).fn = fn := by rw [hrec]
            have e2 : (rec .ready).assign = ca := by rw [hrec]
            have e3 : (rec .ready).body = cb := by rw [hrec]
            have e4 : ((rec .ready).params.zip (vs i).toArray).foldl (fun tmps (t, a) => tmps.setIfInBounds t a) (rec .ready).tmps = (ps.toList.zip (vs i)).foldl (fun t p => t.setIfInBounds p.1 p.2) a.tmps := by
              rw [hrec, ← Array.foldl_toList]; simp
            rw [e1, e2, e3, e4]
            refine roundIn_of_wpIn trivial ?_
            have hag0 : AgreeOn [] pers N { tmps := a.tmps, defers := [] } ρ := ⟨rfl, hag.2.1, hag.2.2⟩
            refine wpIn_mono (iha false (some (w.heap.size + 1)) (by simp) sa hsa 0 0 w2 _ _ _ [] [] _ _ w2 (hbody i w2.heap hi hj) (agree_fold ps.toList (vs i) a.tmps ρ hck2 hag0) (.nil _ _) (Nat.zero_le _) (Same.refl w2)) ?_
            intro e a1 w3 hq
            cases e with
            | normal =>
              obtain ⟨ds1, Ds1, ρ1, hag1, hds1, hs1, hk1⟩ := hq
              have hl3 : w3.heap[w.heap.size + 1]? = some (.loop (rec .ready)) := hs1.2.2.2.2 _ _ hl rfl
              have hD3 : w3.heap[w.heap.size]? = some (.deferred (some [])) := hs1.2.2.2.2 _ _ hD rfl
              refine ⟨_, run_beginRound hl3 (by rw [hrec]), ?_⟩
              have hlt3 : w.heap.size + 1 < w3.heap.size := (Array.getElem?_eq_some_iff.1 hl3).1
              have hg4 : GrowD w.heap.size w3.heap (w3.putObj (w.heap.size + 1) (.loop { rec .ready with state := .busy })).heap := GrowD.put _ (by omega) hl3 rfl
              have hl4 : (w3.putObj (w.heap.size + 1) (.loop { rec .ready with state := .busy })).heap[w.heap.size + 1]? = some (.loop { rec .ready with state := .busy }) := World.putObj_heap_same hlt3
              have hD4 : (w3.putObj (w.heap.size + 1) (.loop { rec .ready with state := .busy })).heap[w.heap.size]? = some (.deferred (some [])) := (World.putObj_heap_other (by omega)).trans hD3
              have hoth4 : ∀ b, b ≠ w.heap.size + 1 → (w3.putObj (w.heap.size + 1) (.loop { rec .ready with state := .busy })).heap[b]? = w3.heap[b]? := fun b hb => World.putObj_heap_other hb
              have hsz4 : (w3.putObj (w.heap.size + 1) (.loop { rec .ready with state := .busy })).heap.size = w3.heap.size := World.putObj_size
              have hos4 : (w3.putObj (w.heap.size + 1) (.loop { rec .ready with state := .busy })).os = w3.os ∧ (w3.putObj (w.heap.size + 1) (.loop { rec .ready with state := .busy })).tape = w3.tape ∧ (w3.putObj (w.heap.size + 1) (.loop { rec .ready with state := .busy })).output = w3.output := ⟨rfl, rfl, rfl⟩
              generalize w3.putObj (w.heap.size + 1) (.loop { rec .ready with state := .busy }) = w4 at hg4 hl4 hD4 hoth4 hsz4 hos4 ⊢
              refine wpIn_mono (ihb false (some (w.heap.size + 1)) (by simp) sb hsb 0 0 w4 _ _ _ ds1 Ds1 ρ1 a1 w4 (hk1 w4.heap hg4) hag1 ⟨hds1.e, hds1.nd, fun D hD => ⟨Nat.zero_le _, by
                have hx := (hds1.at_ D hD).2
                rw [hoth4 D (by rintro rfl; rw [hl3] at hx; cases hx)]
                exact hx⟩⟩ (Nat.zero_le _) (Same.refl w4)) ?_
              intro e2 a5 w5 hq5
              cases e2 with
              | normal =>
                obtain ⟨ds5, Ds5, ρ5, hag5, hds5, hs5, hk5⟩ := hq5
                have hl5 : w5.heap[w.heap.size + 1]? = some (.loop { rec .ready with state := .busy }) := hs5.2.2.2.2 _ _ hl4 rfl
                have hD5 : w5.heap[w.heap.size]? = some (.deferred (some [])) := hs5.2.2.2.2 _ _ hD4 rfl
                have hlt5 : w.heap.size + 1 < w5.heap.size := (Array.getElem?_eq_some_iff.1 hl5).1
                have hend := run_endRound (P := P) none hl5
                have erec : ({ ({ rec .ready with state := .busy } : Loop) with state := if (none : Option Code).isNone then LoopState.ready else LoopState.done, pending := none } : Loop) = rec .ready := by rw [hrec]; rfl
                rw [erec] at hend
                refine ⟨_, _, hend, _, rfl, ⟨rfl, hJ _ _ _ hk5 (GrowD.put _ (by omega) hl5 rfl), World.putObj_heap_same hlt5, (World.putObj_heap_other (by omega)).trans hD5⟩, ?_⟩
                refine ⟨hs5.1.trans (hos4.1.trans hs1.1), hs5.2.1.trans (hos4.2.1.trans hs1.2.1), hs5.2.2.1.trans (hos4.2.2.trans hs1.2.2.1), ?_, ?_⟩
                · have h1 := hs1.2.2.2.1
                  have h2 := hs5.2.2.2.1
                  simp only [World.putObj_size]
                  omega
                · intro b o hb ho
                  by_cases hbl : b = w.heap.size + 1
                  · subst hbl
                    rw [hl] at hb
                    cases hb
                    exact World.putObj_heap_same hlt5
                  · rw [World.putObj_heap_other hbl]
                    refine hs5.2.2.2.2 b o ?_ ho
                    rw [hoth4 b hbl]
                    exact hs1.2.2.2.2 b o hb ho
              | exit id => obtain ⟨_, _, _, _, _, _, h⟩ := hq5; exact h.elim
              | ret => obtain ⟨_, _, _, _, _, _, h⟩ := hq5; exact h.elim
              | _ => exact hq5.elim
            | exit id => obtain ⟨_, _, _, _, _, _, h⟩ := hq; exact h.elim
            | ret => obtain ⟨_, _, _, _, _, _, h⟩ := hq; exact h.elim
            | _ => exact hq.elim
          · rintro e W2 ⟨v, rfl, ⟨hj, hl, hD⟩, hs2⟩
            have hend := run_endLoop (P := P) hl (by rw [hrec]; simp)
            have hlt : w.heap.size + 1 < W2.heap.size := (Array.getElem?_eq_some_iff.1 hl).1
            have hpen : (rec .ready).pending = none := by rw [hrec]
            generalize ({ rec .ready with state := .exhausted } : Loop) = o3 at hend
            rw [hpen] at hend
            refine ⟨none, _, hend, ?_⟩
            have hs3 : Same w (W2.putObj (w.heap.size + 1) (.loop o3)) := by
              have hs := sW.trans hs2
              refine ⟨hs.1, hs.2.1, hs.2.2.1, by simpa using hs.2.2.2.1, fun b o hb ho => ?_⟩
              have hlt : b < w.heap.size := (Array.getElem?_eq_some_iff.1 hb).1
              rw [World.putObj_heap_other (by omega)]
              exact hs.2.2.2.2 b o hb ho
            refine ⟨{ target := .collected w.heap.size, args := #[] } :: ds, w.heap.size :: Ds, ρ, ⟨by show _ ++ a.defers = _; rw [hag.1]; rfl, hag.2.1, hag.2.2⟩, ⟨?_, ?_, ?_⟩, hs.trans hs3, hdone _ (hJ _ _ _ hj (GrowD.put _ (by omega) hl rfl))⟩
            · rw [hds.e]; rfl
            · refine List.nodup_cons.2 ⟨fun hm => ?_, hds.nd⟩
              have := (Array.getElem?_eq_some_iff.1 (hds.at_ _ hm).2).1
              omega
            · intro D hD'
              rcases List.mem_cons.1 hD' with rfl | hD'
              · refine ⟨Nat.le_trans hn0 hs.2.2.2.1, ?_⟩
                rw [World.putObj_heap_other (by omega)]; exact hD
              · exact ⟨(hds.at_ D hD').1, hs3.2.2.2.2 _ _ (hds.at_ D hD').2 rfl⟩
      · cases hc
    · cases hc
  | _ => intro top rr ht s hc; cases top <;> simp [compile] at hc

/-! ### Functions -/
inductive RV where
  | tmp (t : Nat)
  | cell (a : Nat) (n : Option Nat)
  deriving Inhabited

structure Fun where
  N : Nat
  pers : List Nat
  res : List RV
  code : SCode
  deriving Inhabited

def regExpo : List Nat → List Oper → List Nat
  | _, [] => []
  | wr, o :: os => (o.op.operands.toList.flatMap opdTmp).filter (fun t => !wr.contains t) ++ regExpo (o.dst.toList ++ wr) os
def expo : Code → List Nat
  | .region _ ops _ => regExpo [] ops.toList
  | .seq a b => expo a ++ expo b
  | .cond c a b => opdTmp c ++ expo a ++ expo b
  | .block _ c | .loop c => expo c
  | .rangeFunc g ps a b => opdTmp g ++ ps.toList ++ expo a ++ expo b
  | _ => []
def compRes (P : Program) : ResultVar → Option RV
  | .tmp t => some (.tmp t)
  | .cell a t => (aggOf P t).map (.cell a)
def RV.slot : RV → Nat
  | .tmp t => t
  | .cell a _ => a
def compF (P : Program) (f : FuncId) : Option Fun :=
  match P.funcs[f]? with
  | some fn => match fn.body with
    | some c => match fn.results.toList.mapM (compRes P) with
      | some rs =>
        let pers := (rs.map RV.slot ++ expo c).eraseDups
        (compile P fn.ntmps pers true c).map fun s => ⟨fn.ntmps, pers, rs, s⟩
      | none => none
    | none => none
  | none => none

def initE (args : List Value) : Env := fun i => args.getD i undef
def RV.val (ρ : Env) (h : Heap) : RV → Option Value
  | .tmp t => some (ρ t)
  | .cell a n => ldV n (ρ a) (hp h)
def resV (vs : List Value) : Value := match vs with | [v] => v | vs => .tuple vs.toArray
/-- What is asked where the function comes back. -/
def post (n0 : Nat) (res : List RV) (R : Value → Heap → Prop) (ρ : Env) (h : Heap) : Prop := ∃ vs, res.mapM (RV.val ρ h) = some vs ∧ ∀ h', GrowD n0 h h' → R (resV vs) h'

theorem res_run {P : Program} {w : World} {ρ : Env} {tmps : Array Value} : ∀ (l : List ResultVar) (rs : List RV) (vs : List Value), l.mapM (compRes P) = some rs → rs.mapM (RV.val ρ w.heap) = some vs → (∀ r ∈ rs, tmps.getD r.slot undef = ρ r.slot) →
    (l.mapM (fun | .tmp t => pure (tmps.getD t undef) | .cell a t => do loadVar t (← asAddr (tmps.getD a undef)) : ResultVar → Sem Value)).run P w = .ok vs w := by
  intro l
  induction l with
  | nil => intro rs vs h1 h2 _; simp at h1; subst h1; simp at h2; subst h2; rfl
  | cons r l ih =>
    intro rs vs h1 h2 h3
    rw [List.mapM_cons] at h1
    simp only [bind, Option.bind_eq_some_iff, pure, Option.some.injEq] at h1
    obtain ⟨x, hx, rs', hrs', rfl⟩ := h1
    rw [List.mapM_cons] at h2
    simp only [bind, Option.bind_eq_some_iff, pure, Option.some.injEq] at h2
    obtain ⟨v, hv, vs', hvs', rfl⟩ := h2
    have hih := ih rs' vs' hrs' hvs' (fun r hr => h3 r (List.mem_cons_of_mem _ hr))
    have hsl := h3 x (by simp)
    rw [List.mapM_cons]
    cases r with
    | tmp t =>
      simp [compRes] at hx
      subst hx
      simp [RV.val] at hv
      simp only [RV.slot] at hsl
      simp only [Sem.run_bind, Sem.run_pure, Result.andThen_ok, hih, hsl, hv]
    | cell a t =>
      simp only [compRes, Option.map_eq_some_iff] at hx
      obtain ⟨n, hn, rfl⟩ := hx
      simp only [RV.val] at hv
      simp only [RV.slot] at hsl
      have := ld_run (w := w) hn hv
      obtain ⟨h1, h2, i, hi⟩ := isAgg_run (w := w) hn
      unfold ldV at hv
      split at hv
      · rename_i b off hb
        simp only [hb, Instr.loadAt, Instr.sureAddr, Sem.run_bind, Sem.run_pure, Result.andThen_ok] at this
        have hasA : (asAddr (Value.pointer (some ⟨b, off, none⟩))).run P w = .ok ⟨b, off, none⟩ w := rfl
        simp only [Sem.run_bind, hsl, hb, hasA, Sem.run_pure, Result.andThen_ok, this, hih]
      · cases hv

theorem contains_eraseDups {l : List Nat} {s : Nat} (h : s ∈ l) : l.eraseDups.contains s = true := by
  simpa using h

theorem ldV_grow {n0 : Nat} {n : Option Nat} {v : Value} {h h' : Heap} {u : Value} (e : ldV n v (hp h) = some u) (g : GrowD n0 h h') : ldV n v (hp h') = some u := by
  have hc : ∀ {b off : Nat} {u : Value}, cellG (hp h) b off = some u → cellG (hp h') b off = some u := by
    intro b off u e
    unfold cellG hp at e ⊢
    split at e
    · rename_i c E fz hb
      rw [g.2 b _ hb (.inl rfl)]
      exact e
    · cases e
  have hcs : ∀ {b n off : Nat} {l : List Value}, cellsG (hp h) b off n = some l → cellsG (hp h') b off n = some l := by
    intro b n
    induction n with
    | zero => intro off l e; exact e
    | succ n ih =>
      intro off l e
      simp only [cellsG] at e ⊢
      split at e
      · cases e
      · rename_i v hv
        rw [hc hv]
        simp only [Option.map_eq_some_iff] at e ⊢
        obtain ⟨l', hl', rfl⟩ := e
        exact ⟨l', ih hl', rfl⟩
  unfold ldV at e ⊢
  split at e
  · rename_i b off
    cases n with
    | none => exact hc e
    | some k =>
      simp only [Option.map_eq_some_iff] at e ⊢
      obtain ⟨l, hl, rfl⟩ := e
      exact ⟨l, hcs hl, rfl⟩
  · cases e
theorem rvs_grow {n0 : Nat} {ρ : Env} {h h' : Heap} (g : GrowD n0 h h') : ∀ (rs : List RV) (vs : List Value), rs.mapM (RV.val ρ h) = some vs → rs.mapM (RV.val ρ h') = some vs := by
  intro rs
  induction rs with
  | nil => intro vs e; exact e
  | cons r rs ih =>
    intro vs e
    rw [List.mapM_cons] at e ⊢
    simp only [bind, Option.bind_eq_some_iff, pure, Option.some.injEq] at e ⊢
    obtain ⟨v, hv, vs', hvs', rfl⟩ := e
    refine ⟨v, ?_, vs', ih vs' hvs', rfl⟩
    cases r with
    | tmp t => exact hv
    | cell a n => exact ldV_grow hv g
/-- The marks are come to, one behind the other. -/
theorem leave_marks {P : Program} {n n0 : Nat} {fn : Func} {tmps : Array Value} {R : Ending → World → Prop} : ∀ (Ds : List Nat) (w : World), Ds.Nodup → (∀ D ∈ Ds, n0 ≤ D ∧ w.heap[D]? = some (.deferred (some []))) →
    (∀ w' : World, w'.os = w.os → w'.tape = w.tape → w'.output = w.output → GrowD n0 w.heap w'.heap → (∀ b, b ∉ Ds → w'.heap[b]? = w.heap[b]?) → ∃ v, (results fn tmps).run P w' = .ok v w' ∧ R (.returned v) w') →
    LeavesInM Fence.wide n P fn tmps R (Ds.map fun D => { target := .collected D, args := #[] }) .returning w := by
  intro Ds
  induction Ds with
  | nil => intro w _ _ h; exact h w rfl rfl rfl (.refl _ _) fun _ _ => rfl
  | cons D Ds ih =>
    intro w hnd hat h
    obtain ⟨hn1, hn2⟩ := List.nodup_cons.1 hnd
    obtain ⟨hD0, hD⟩ := hat D (by simp)
    refine ⟨by simp, .inl ⟨D, _, rfl, run_takeDeferred hD, ih _ hn2 (fun D' hD' => ?_) fun w' e1 e2 e3 e4 e5 => ?_⟩⟩
    · have hne : D' ≠ D := by rintro rfl; exact hn1 hD'
      rw [World.putObj_heap_other hne]
      exact hat D' (List.mem_cons_of_mem _ hD')
    · refine h w' e1 e2 e3 ((GrowD.put _ hD0 hD rfl).trans e4) fun b hb => ?_
      rw [e5 b (fun hm => hb (List.mem_cons_of_mem _ hm)), World.putObj_heap_other (show b ≠ D by rintro rfl; exact hb (by simp))]

theorem fn_enter {P : Program} {f : FuncId} {F : Fun} (hk : compF P f = some F) (hm : P.follows .mixedOrders = true) {args : List Value} {h : Heap} {R : Value → Heap → Prop} (ha : args.length ≤ F.N)
    (H : wpS P F.code (post h.size F.res R) (fun _ _ _ => False) (post h.size F.res R) (initE args) h) : FnC P f args.toArray h R := by
  intro w hw
  subst hw
  unfold compF at hk
  split at hk
  · rename_i fn hf
    split at hk
    · rename_i c hb
      split at hk
      · rename_i rs hrs
        simp only [Option.map_eq_some_iff] at hk
        obtain ⟨s, hs, rfl⟩ := hk
        refine (callsIn_wide (n := 0)).1 (callsIn_of_wp_marks hf hb trivial ?_)
        have hag : AgreeOn [] ((rs.map RV.slot ++ expo c).eraseDups) fn.ntmps { tmps := args.toArray ++ Array.replicate (fn.ntmps - args.toArray.size) undef, defers := [] } (initE args) := by
          refine ⟨rfl, by simp at ha ⊢; omega, fun t _ => ?_⟩
          simp only [initE, Array.getD, List.getD_eq_getElem?_getD]
          by_cases h : t < args.length
          · have h2 : t < (args.toArray ++ Array.replicate (fn.ntmps - args.toArray.size) undef).size := by simp; omega
            rw [dif_pos h2, Array.getInternal_eq_getElem, Array.getElem_append_left (by simpa using h)]
            simp [h]
          · rw [List.getElem?_eq_none (by omega)]
            split
            · rename_i h2
              rw [Array.getInternal_eq_getElem, Array.getElem_append_right (by simpa using h)]
              simp
            · rfl
        refine wpIn_mono (code_sound hm c true none (fun _ => rfl) s hs 0 w.heap.size w _ _ _ [] [] _ _ w H hag (.nil _ _) (Nat.le_refl _) (Same.refl w)) ?_
        have hfin : ∀ (a' : Act) (w' : World) (ds : List Deferred) (Ds : List Nat) (ρ : Env), AgreeOn ds ((rs.map RV.slot ++ expo c).eraseDups) fn.ntmps a' ρ → DsOk w.heap.size ds w'.heap Ds → Same w w' → post w.heap.size rs R ρ w'.heap →
            LeavesInM Fence.wide 0 P fn a'.tmps (fun e w' => ∃ v, e = .returned v ∧ R v w'.heap ∧ Same w w') a'.defers .returning w' := by
          intro a' w' ds Ds ρ h1 hds h2 ⟨vs, hvs, hR⟩
          rw [h1.1, hds.e]
          refine leave_marks (n0 := w.heap.size) Ds w' hds.nd (fun D hD => hds.at_ D hD) fun w2 o1 o2 o3 hg hb => ?_
          refine ⟨resV vs, ?_, _, rfl, hR _ hg, ⟨o1.trans h2.1, o2.trans h2.2.1, o3.trans h2.2.2.1, Nat.le_trans h2.2.2.2.1 hg.1, fun b o hbo ho => ?_⟩⟩
          · have := res_run (P := P) (w := w2) (ρ := ρ) (tmps := a'.tmps) fn.results.toList rs vs hrs (rvs_grow hg _ _ hvs) (fun r hr => h1.2.2 _ (contains_eraseDups (by simp only [List.mem_append, List.mem_map]; exact .inl ⟨r, hr, rfl⟩)))
            unfold results
            rw [Array.mapM_eq_mapM_toList]
            simp only [Sem.run_bind, Sem.run_map, Sem.run_pure]
            erw [this]
            simp only [Result.andThen_ok, Result.ok.injEq, and_true]
            cases vs with
            | nil => simp [resV]
            | cons v vs =>
              cases vs with
              | nil => simp [resV]
              | cons u us => simp [resV]
          · have hlt := (Array.getElem?_eq_some_iff.1 hbo).1
            rw [hb b (fun hm => by have := (hds.at_ b hm).1; omega)]
            exact h2.2.2.2.2 b o hbo ho
        intro e a' w' hq
        cases e with
        | normal => obtain ⟨ds, Ds, ρ, h1, h2, h3, h4⟩ := hq; exact hfin a' w' ds Ds ρ h1 h2 h3 h4
        | ret => obtain ⟨ds, Ds, ρ, h1, h2, h3, h4⟩ := hq; exact hfin a' w' ds Ds ρ h1 h2 h3 h4
        | exit id => obtain ⟨_, _, ρ, h1, h2, h3, h4⟩ := hq; exact h4.elim
        | goto l => exact hq.elim
        | panic ch => exact hq.elim
        | outgrown => exact hq.elim
      · cases hk
    · cases hk
  · cases hk

end Go.Kx
