/- Annotated values, part f: statements, code and whole functions. -/
import Derived.Test.YtjdpejggafefjaaDoorVe
namespace Go.Kx
set_option linter.unusedVariables false
set_option linter.unusedSimpArgs false
open Go

def gselA (a : AV) (want : Bool) : Bool := match a with
  | .v (.bool b) => b == want
  | _ => false
theorem gselA_eq {G : Gh} {a : AV} {u : Value} (h : RelV G a u) (want : Bool) : gsel u want = gselA a want := by
  cases h with
  | v => cases u <;> rfl
  | _ => rfl

def SOp.awp (P : Program) (s : SOp) (ε : AEnv) (σ : St) (K : AV → St → Prop) : Prop :=
  match s with
  | .pur f xs => ∃ a, f.av (xs.map (evA ε)) = some a ∧ K a σ
  | .ld n x => ∃ a, ldA n (evA ε x) σ = some a ∧ K a σ
  | .eff e xs => e.awp P (xs.map (evA ε)) σ K
def SItem.awp (P : Program) (it : SItem) (ε : AEnv) (σ : St) (K : AV → St → Prop) : Prop :=
  match it.guard with
  | none => it.op.awp P ε σ K
  | some (s, want) => if gselA (ε s) want then it.op.awp P ε σ K else K (.v undef) σ
/-- A load that may still come, gives what it gave. -/
def SItem.aholds (it : SItem) (ε : AEnv) (σ : St) : Prop :=
  match it.op with
  | .ld n x => ((match it.guard with | none => True | some (s, want) => gselA (ε s) want = true) ∧ ∃ a, ldA n (evA ε x) σ = some a ∧ a.exact = true ∧ ∀ d, it.dst = some d → ε d = a) ∨
      (match it.guard with | none => False | some (s, want) => gselA (ε s) want = false ∧ ∀ d, it.dst = some d → ε d = .v undef)
  | _ => False

def goRA (P : Program) : RT → AEnv → St → (AEnv → St → Prop) → Prop
  | .done, ε, σ, K => K ε σ
  | .run it rest, ε, σ, K => it.awp P ε σ fun a σ' => goRA P rest (ε.put it.dst a) σ' K
  | .eff it held rest, ε, σ, K => it.awp P ε σ fun a σ' => (∀ q ∈ held, q.aholds (ε.put it.dst a) σ') ∧ goRA P rest (ε.put it.dst a) σ' K
  | .both a b, ε, σ, K => goRA P a ε σ K ∧ goRA P b ε σ K

def outA (outs : List Nat) (ρ ε : AEnv) : AEnv := outs.foldl (fun r d => r.set d (ε d)) ρ

/-- What may be told anew without anything being done. -/
def GU (ε : AEnv) (σ : St) (ε' : AEnv) (σ' : St) : Prop :=
  ∀ (base : Heap) (G : Gh) (h : Heap) (ρ : Env), RelH base G h σ → RelE G ε ρ → ∃ G', Gh.le base.size G G' ∧ RelH base G' h σ' ∧ RelE G' ε' ρ
theorem GU.refl (ε : AEnv) (σ : St) : GU ε σ ε σ := fun _ G _ _ h1 h2 => ⟨G, .refl _ _, h1, h2⟩
theorem GU.trans {ε1 ε2 ε3 : AEnv} {σ1 σ2 σ3 : St} (h : GU ε1 σ1 ε2 σ2) (k : GU ε2 σ2 ε3 σ3) : GU ε1 σ1 ε3 σ3 := by
  intro base G h0 ρ h1 h2
  obtain ⟨G1, a1, a2, a3⟩ := h base G h0 ρ h1 h2
  obtain ⟨G2, b1, b2, b3⟩ := k base G1 h0 ρ a2 a3
  exact ⟨G2, a1.trans b1, b2, b3⟩

theorem RelH.growD {base : Heap} {G : Gh} {h h' : Heap} {σ : St} {n : Nat} (H : RelH base G h σ) (hn : base.size ≤ n) (g : GrowD n h h') : RelH base G h' σ := by
  have hc : ∀ {b off : Nat} {u : Value}, cellG (hp h) b off = some u → cellG (hp h') b off = some u := by
    intro b off u e
    unfold cellG hp at e ⊢
    split at e
    · rename_i c E fz hb
      rw [g.2 b _ hb (.inl rfl)]
      exact e
    · cases e
  have hs := H.size
  refine ⟨H.tab, Nat.le_trans hs g.1, fun b hb => ?_, fun b o u hu => hc (H.st b o u hu), ?_, H.frz, ?_, H.disj, H.bd, H.maps.mono (fun _ _ _ h => h) (fun _ _ _ h => h) (fun _ _ _ h => h) fun b o ho hb => g.2 _ _ hb (.inl (by cases o <;> first | rfl | cases ho))⟩
  · rw [← H.keep b hb]
    have hlt : b < h.size := by omega
    rw [Array.getElem?_eq_getElem hlt]
    exact g.2 b _ (Array.getElem?_eq_getElem hlt) (.inr (by omega))
  · intro i w cs hi
    obtain ⟨l, h1, h2, h3, h4, h5⟩ := H.obj i w cs hi
    exact ⟨l, h1, h2, h3, h4, fun j a ha => by obtain ⟨u, h6, h7⟩ := h5 j a ha; exact ⟨u, hc h6, h7⟩⟩
  · intro i l hl b k hk
    obtain ⟨h1, ⟨c, E, fz, h2, h2'⟩, h3⟩ := H.own i l hl b k hk
    exact ⟨h1, ⟨c, E, fz, g.2 _ _ h2 (.inl rfl), h2'⟩, h3⟩

/-- A function that hands over these values, one behind the other, and touches nothing that was there. -/
def ItP (P : Program) (f : FuncId) (xs : List AV) (vsA : List (List AV)) : Prop :=
  AV.pureL xs = true ∧ ∀ (G : Gh) (lb : List Value), RelL G xs lb → ∃ vs : Nat → List Value, (∀ (i : Nat) (v : List AV), vsA[i]? = some v → RelL G v (vs i)) ∧ IterC P f lb.toArray vsA.length vs G.g
def setA (ε : AEnv) (ps : List Nat) (vs : List AV) : AEnv := (ps.zip vs).foldl (fun r p => r.set p.1 p.2) ε
theorem setA_rel {G : Gh} : ∀ (ps : List Nat) {xs : List AV} {vs : List Value} {ε : AEnv} {ρ : Env}, RelE G ε ρ → RelL G xs vs → RelE G (setA ε ps xs) (setEnv ρ ps vs) := by
  intro ps
  induction ps with
  | nil => intro xs vs ε ρ E _; exact E
  | cons p ps ih =>
    intro xs vs ε ρ E L
    cases xs with
    | nil => rw [L.nil_inv]; exact E
    | cons x xs =>
      obtain ⟨u, us, rfl, h1, h2⟩ := L.cons_inv
      exact ih (E.put (some p) h1) h2

def wpA (P : Program) : SCode → (AEnv → St → Prop) → (Nat → AEnv → St → Prop) → (AEnv → St → Prop) → AEnv → St → Prop
  | .skip, K, _, _, ε, σ => K ε σ
  | .reg t outs, K, _, _, ε, σ => goRA P t ε σ fun ε' σ' => K (outA outs ε ε') σ'
  | .seq a b, K, X, R, ε, σ => wpA P a (fun ε σ => wpA P b K X R ε σ) X R ε σ
  | .cond c a b, K, X, R, ε, σ => ∃ t, evA ε c = .v (.bool t) ∧ ((t = true → wpA P a K X R ε σ) ∧ (t = false → wpA P b K X R ε σ))
  | .block id c, K, X, R, ε, σ => wpA P c K (fun j ε σ => if j = id then K ε σ else X j ε σ) R ε σ
  | .loop c, _, X, R, ε, σ => ∃ (α : Type) (I : α → AEnv → St → Prop) (μ : α → Nat) (x : α) (ε' : AEnv) (σ' : St), GU ε σ ε' σ' ∧ I x ε' σ' ∧ ∀ x ε σ, I x ε σ → wpA P c (fun ε' σ' => ∃ x', I x' ε' σ' ∧ μ x' < μ x) X R ε σ
  | .exit id, _, X, _, ε, σ => X id ε σ
  | .ret, _, _, R, ε, σ => R ε σ
  | .rf g ps assign body, K, _, _, ε, σ => ∃ (gf : FuncId) (xs : List AV) (vsA : List (List AV)) (ε' : AEnv) (σ' : St) (I : Nat → St → Prop),
      GU ε σ ε' σ' ∧ evA ε' g = .fn (.func gf) 0 xs ∧ fnOk P gf = true ∧ ItP P gf xs vsA ∧ (∀ (i : Nat) (v : List AV), vsA[i]? = some v → v.length = ps.length) ∧ I 0 σ' ∧
      (∀ (i : Nat) (v : List AV) (σ : St), vsA[i]? = some v → I i σ → wpA P assign (fun ε2 σ2 => wpA P body (fun _ σ3 => I (i + 1) σ3) (fun _ _ _ => False) (fun _ _ => False) ε2 σ2) (fun _ _ _ => False) (fun _ _ => False) (setA ε' ps v) σ) ∧
      (∀ σ, I vsA.length σ → K ε' σ)

/-- From what holds of the annotated, what holds of the real. -/
def Real (base : Heap) (G : Gh) (K : AEnv → St → Prop) : Env → Heap → Prop := fun ρ h => ∃ G' ε σ, Gh.le base.size G G' ∧ RelH base G' h σ ∧ RelE G' ε ρ ∧ K ε σ
theorem Real.le {base : Heap} {G G' : Gh} (h : Gh.le base.size G G') {K : AEnv → St → Prop} {ρ : Env} {h0 : Heap} (H : Real base G' K ρ h0) : Real base G K ρ h0 := by
  obtain ⟨G2, ε, σ, a, b, c, d⟩ := H
  exact ⟨G2, ε, σ, h.trans a, b, c, d⟩

theorem sop_sound {P : Program} {base : Heap} {G : Gh} {h : Heap} {σ : St} {ε : AEnv} {ρ : Env} (H : RelH base G h σ) (E : RelE G ε ρ) {s : SOp} {K : AV → St → Prop} (hs : s.awp P ε σ K) :
    s.wp P ρ h fun r h' => ∃ G' a σ', Gh.le base.size G G' ∧ RelH base G' h' σ' ∧ RelV G' a r ∧ K a σ' := by
  cases s with
  | pur f xs =>
    obtain ⟨a, h1, h2⟩ := hs
    obtain ⟨u, e1, e2⟩ := av_sound h1 (evAs_rel E xs)
    exact ⟨u, e1, G, a, σ, .refl _ _, H, e2, h2⟩
  | ld n x =>
    obtain ⟨a, h1, h2⟩ := hs
    obtain ⟨u, e1, e2⟩ := ld_sound H h1 (evA_rel E x)
    exact ⟨u, e1, G, a, σ, .refl _ _, H, e2, h2⟩
  | eff e xs => exact ef_sound H (evAs_rel E xs) hs
theorem sitem_sound {P : Program} {base : Heap} {G : Gh} {h : Heap} {σ : St} {ε : AEnv} {ρ : Env} (H : RelH base G h σ) (E : RelE G ε ρ) {it : SItem} {K : AV → St → Prop} (hs : it.awp P ε σ K) :
    it.wp P ρ h fun r h' => ∃ G' a σ', Gh.le base.size G G' ∧ RelH base G' h' σ' ∧ RelV G' a r ∧ K a σ' := by
  obtain ⟨dst, guard, op⟩ := it
  cases guard with
  | none => exact sop_sound H E hs
  | some g =>
    obtain ⟨s, want⟩ := g
    have hs : if gselA (ε s) want then op.awp P ε σ K else K (.v undef) σ := hs
    show if gsel (ρ s) want then op.wp P ρ h _ else _
    rw [gselA_eq (E s)]
    split at hs
    · rename_i hc; rw [if_pos hc]; exact sop_sound H E hs
    · rename_i hc; rw [if_neg hc]; exact ⟨G, _, σ, .refl _ _, H, .v _, hs⟩

theorem RelV_lit {G : Gh} {x u : Value} (h : RelV G (.v x) u) : u = x := by cases h; rfl
theorem holds_sound {base : Heap} {G : Gh} {h : Heap} {σ : St} {ε : AEnv} {ρ : Env} (H : RelH base G h σ) (E : RelE G ε ρ) {q : SItem} (hq : q.aholds ε σ) : q.holds ρ h := by
  obtain ⟨dst, guard, op⟩ := q
  cases op with
  | ld n x =>
    rcases hq with hq | hq
    · obtain ⟨hg, a, h1, h2, h3⟩ := hq
      obtain ⟨u, e1, e2⟩ := ld_sound H h1 (evA_rel E x)
      refine ⟨u, ?_, fun d hd => ?_⟩
      · cases guard with
        | none => exact e1
        | some g =>
          obtain ⟨s, want⟩ := g
          simp only [SItem.qval]
          rw [gselA_eq (E s), if_pos hg]
          exact e1
      · have := E d
        rw [h3 d hd] at this
        exact this.exact e2 h2
    · cases guard with
      | none => exact hq.elim
      | some g =>
        obtain ⟨s, want⟩ := g
        obtain ⟨hg, h3⟩ := hq
        refine ⟨undef, ?_, fun d hd => ?_⟩
        · simp only [SItem.qval]
          rw [gselA_eq (E s), if_neg (by rw [hg]; simp)]
        · have := E d
          rw [h3 d hd] at this
          exact RelV_lit this
  | pur f xs => exact hq.elim
  | eff e xs => exact hq.elim

theorem goR_sound {P : Program} {base : Heap} : ∀ (t : RT) {G : Gh} {h : Heap} {σ : St} {ε : AEnv} {ρ : Env} {K : AEnv → St → Prop}, RelH base G h σ → RelE G ε ρ → goRA P t ε σ K → goR P t ρ h (Real base G K) := by
  intro t
  induction t with
  | done => intro G h σ ε ρ K H E hk; exact ⟨G, ε, σ, .refl _ _, H, E, hk⟩
  | run it rest ih =>
    intro G h σ ε ρ K H E hk
    refine SItem.wp_mono ?_ (sitem_sound H E hk)
    rintro r h' ⟨G', a, σ', l, H', hr, hk'⟩
    exact goR_mono_real l (ih H' ((E.mono l).put it.dst hr) hk')
  | eff it held rest ih =>
    intro G h σ ε ρ K H E hk
    refine SItem.wp_mono ?_ (sitem_sound H E hk)
    rintro r h' ⟨G', a, σ', l, H', hr, hheld, hk'⟩
    have E' := (E.mono l).put it.dst hr
    exact ⟨fun q hq => holds_sound H' E' (hheld q hq), goR_mono_real l (ih H' E' hk')⟩
  | both a b iha ihb =>
    intro G h σ ε ρ K H E hk
    exact ⟨iha H E hk.1, ihb H E hk.2⟩
where
  goR_mono {P : Program} : ∀ (t : RT) {ρ : Env} {h : Heap} {K K' : Env → Heap → Prop}, (∀ ρ h, K ρ h → K' ρ h) → goR P t ρ h K → goR P t ρ h K' := by
    intro t
    induction t with
    | done => intro ρ h K K' hk H; exact hk _ _ H
    | run it rest ih => intro ρ h K K' hk H; exact SItem.wp_mono (fun v h' hv => ih hk hv) H
    | eff it held rest ih => intro ρ h K K' hk H; exact SItem.wp_mono (fun v h' hv => ⟨hv.1, ih hk hv.2⟩) H
    | both a b iha ihb => intro ρ h K K' hk H; exact ⟨iha hk H.1, ihb hk H.2⟩
  goR_mono_real {P : Program} {base : Heap} {t : RT} {G G' : Gh} {ρ : Env} {h : Heap} {K : AEnv → St → Prop} (l : Gh.le base.size G G') (H : goR P t ρ h (Real base G' K)) : goR P t ρ h (Real base G K) :=
    goR_mono t (fun _ _ hk => hk.le l) H

theorem outA_rel {G : Gh} (outs : List Nat) {ρ1 ρ2 : Env} {ε1 ε2 : AEnv} (h1 : RelE G ε1 ρ1) (h2 : RelE G ε2 ρ2) : RelE G (outA outs ε1 ε2) (outEnv outs ρ1 ρ2) := by
  unfold outA outEnv
  induction outs generalizing ρ1 ε1 with
  | nil => exact h1
  | cons d outs ih =>
    simp only [List.foldl_cons]
    exact ih (h1.put (some d) (h2 d))

theorem wpS_mono {P : Program} : ∀ (c : SCode) {K K' : Env → Heap → Prop} {X X' : Nat → Env → Heap → Prop} {R R' : Env → Heap → Prop} {ρ : Env} {h : Heap}, (∀ ρ h, K ρ h → K' ρ h) → (∀ j ρ h, X j ρ h → X' j ρ h) → (∀ ρ h, R ρ h → R' ρ h) → wpS P c K X R ρ h → wpS P c K' X' R' ρ h := by
  intro c
  induction c with
  | skip => intro K K' X X' R R' ρ h hk hx hr H; exact hk _ _ H
  | reg t outs => intro K K' X X' R R' ρ h hk hx hr H; exact goR_sound.goR_mono t (fun _ _ => hk _ _) H
  | seq a b iha ihb => intro K K' X X' R R' ρ h hk hx hr H; exact iha (fun _ _ => ihb hk hx hr) hx hr H
  | cond c a b iha ihb =>
    intro K K' X X' R R' ρ h hk hx hr ⟨t, h1, h2, h3⟩
    exact ⟨t, h1, fun e => iha hk hx hr (h2 e), fun e => ihb hk hx hr (h3 e)⟩
  | block id c ih =>
    intro K K' X X' R R' ρ h hk hx hr H
    refine ih hk (fun j ρ h hj => ?_) hr H
    split at hj
    · rename_i hc; rw [if_pos hc]; exact hk _ _ hj
    · rename_i hc; rw [if_neg hc]; exact hx _ _ _ hj
  | loop c ih =>
    intro K K' X X' R R' ρ h hk hx hr ⟨α, I, μ, x, h1, h2⟩
    exact ⟨α, I, μ, x, h1, fun x ρ h hI => ih (fun _ _ h => h) hx hr (h2 x ρ h hI)⟩
  | exit id => intro K K' X X' R R' ρ h hk hx hr H; exact hx _ _ _ H
  | ret => intro K K' X X' R R' ρ h hk hx hr H; exact hr _ _ H
  | rf g ps a b iha ihb =>
    intro K K' X X' R R' ρ h hk hx hr ⟨gf, lb, n, vs, fz, J, h1, h2, h3, h4, h5, h6, h7, h8, h9⟩
    exact ⟨gf, lb, n, vs, fz, J, h1, h2, h3, h4, h5, h6, h7, h8, fun h' hj => hk _ _ (h9 h' hj)⟩

theorem wpA_sound {P : Program} {base : Heap} : ∀ (c : SCode) {G : Gh} {h : Heap} {σ : St} {ε : AEnv} {ρ : Env} {K : AEnv → St → Prop} {X : Nat → AEnv → St → Prop} {R : AEnv → St → Prop},
    RelH base G h σ → RelE G ε ρ → wpA P c K X R ε σ → wpS P c (Real base G K) (fun j => Real base G (X j)) (Real base G R) ρ h := by
  intro c
  induction c with
  | skip => intro G h σ ε ρ K X R H E hk; exact ⟨G, ε, σ, .refl _ _, H, E, hk⟩
  | reg t outs =>
    intro G h σ ε ρ K X R H E hk
    refine goR_sound.goR_mono t ?_ (goR_sound t H E hk)
    rintro ρ' h' ⟨G', ε', σ', l, H', E', hk'⟩
    exact ⟨G', _, σ', l, H', outA_rel outs (E.mono l) E', hk'⟩
  | seq a b iha ihb =>
    intro G h σ ε ρ K X R H E hk
    refine wpS_mono a ?_ (fun _ _ _ h => h) (fun _ _ h => h) (iha H E hk)
    rintro ρ' h' ⟨G', ε', σ', l, H', E', hk'⟩
    exact wpS_mono b (fun _ _ h => h.le l) (fun _ _ _ h => h.le l) (fun _ _ h => h.le l) (ihb H' E' hk')
  | cond c a b iha ihb =>
    intro G h σ ε ρ K X R H E ⟨t, h1, h2, h3⟩
    have hv := evA_rel E c
    rw [h1] at hv
    refine ⟨t, by revert hv; generalize ev ρ c = w; intro hv; cases hv; rfl, fun e => iha H E (h2 e), fun e => ihb H E (h3 e)⟩
  | block id c ih =>
    intro G h σ ε ρ K X R H E hk
    refine wpS_mono c (fun _ _ h => h) (fun j ρ' h' hj => ?_) (fun _ _ h => h) (ih H E hk)
    obtain ⟨G', ε', σ', l, H', E', hk'⟩ := hj
    split at hk'
    · rename_i hc; rw [if_pos hc]; exact ⟨G', ε', σ', l, H', E', hk'⟩
    · rename_i hc; rw [if_neg hc]; exact ⟨G', ε', σ', l, H', E', hk'⟩
  | loop c ih =>
    intro G h σ ε ρ K X R H E ⟨α, I, μ, x, ε', σ', hgu, hI, hround⟩
    obtain ⟨G1, l1, H1, E1⟩ := hgu base G h ρ H E
    refine ⟨α, fun x => Real base G (I x), μ, x, ⟨G1, ε', σ', l1, H1, E1, hI⟩, ?_⟩
    rintro x ρ h ⟨G', ε', σ', l, H', E', hI'⟩
    refine wpS_mono c ?_ (fun _ _ _ h => h.le l) (fun _ _ h => h.le l) (ih H' E' (hround x ε' σ' hI'))
    rintro ρ2 h2 ⟨G2, ε2, σ2, l2, H2, E2, x', k1, k2⟩
    exact ⟨x', ⟨G2, ε2, σ2, l.trans l2, H2, E2, k1⟩, k2⟩
  | exit id => intro G h σ ε ρ K X R H E hk; exact ⟨G, ε, σ, .refl _ _, H, E, hk⟩
  | ret => intro G h σ ε ρ K X R H E hk; exact ⟨G, ε, σ, .refl _ _, H, E, hk⟩
  | rf g ps a b iha ihb =>
    intro G h σ ε ρ K X R H E ⟨gf, xs, vsA, ε', σ', I, hgu, hg, hok, hit, hlen, h0, hround, hdone⟩
    obtain ⟨G1, l1, H1, E1⟩ := hgu base G h ρ H E
    have hv := evA_rel E1 g
    rw [hg] at hv
    obtain ⟨lb, hlb, hL⟩ : ∃ lb : List Value, ev ρ g = .func (.func gf) #[] lb.toArray ∧ RelL G1 xs lb := by
      generalize ev ρ g = w at hv
      cases hv with
      | fn _ _ _ vs h1 h2 => exact ⟨vs, by simp, h1, h2⟩
    obtain ⟨vs, hvs, hic⟩ := hit.2 G1 lb hL
    have hlt : ∀ i, i < vsA.length → ∃ v, vsA[i]? = some v := fun i hi => ⟨_, List.getElem?_eq_getElem hi⟩
    refine ⟨gf, lb.toArray, vsA.length, vs, G1.g, fun i h => ∃ G' σ, Gh.le base.size G1 G' ∧ RelH base G' h σ ∧ I i σ, hlb, hok, ?_, hic, ?_, ?_, ⟨G1, σ', .refl _ _, H1, h0⟩, ?_, ?_⟩
    · intro i hi
      obtain ⟨v, hv⟩ := hlt i hi
      rw [(hvs i v hv).1, hlen i v hv]
    · rintro i h2 ⟨G', σ2, l2, H2, _⟩ b o u hu
      exact H2.st _ _ _ (l2.g _ _ _ hu)
    · rintro i h2 h3 ⟨G', σ2, l2, H2, hI⟩ hgr
      exact ⟨G', σ2, l2, H2.growD H.size hgr, hI⟩
    · rintro i h2 hi ⟨G', σ2, l2, H2, hI⟩
      obtain ⟨v, hv⟩ := hlt i hi
      have hw := hround i v σ2 hv hI
      have E2 := setA_rel (G := G') ps (E1.mono l2) ((hvs i v hv).mono l2)
      refine wpS_mono a ?_ (fun _ _ _ ⟨_, _, _, _, _, _, h⟩ => h.elim) (fun _ _ ⟨_, _, _, _, _, _, h⟩ => h.elim) (iha H2 E2 hw)
      rintro ρ3 h3 ⟨G3, ε3, σ3, l3, H3, E3, hk3⟩ h4 hgr
      refine wpS_mono b ?_ (fun _ _ _ ⟨_, _, _, _, _, _, h⟩ => h.elim) (fun _ _ ⟨_, _, _, _, _, _, h⟩ => h.elim) (ihb (H3.growD H.size hgr) E3 hk3)
      rintro ρ5 h5 ⟨G5, ε5, σ5, l5, H5, E5, hk5⟩
      exact ⟨G5, σ5, (l2.trans l3).trans l5, H5, hk5⟩
    · rintro h2 ⟨G', σ2, l2, H2, hI⟩
      exact ⟨G', ε', σ2, l1.trans l2, H2, E1.mono l2, hdone σ2 hI⟩

/-! ### Functions -/
def initA (as : List AV) : AEnv := fun i => as.getD i (.v undef)
def RV.av (ε : AEnv) (σ : St) : RV → Option AV
  | .tmp t => some (ε t)
  | .cell a n => ldA n (ε a) σ
def resA (as : List AV) : AV := match as with | [a] => a | as => .tup as
def postA (res : List RV) (R : AV → St → Prop) (ε : AEnv) (σ : St) : Prop := ∃ as, res.mapM (RV.av ε σ) = some as ∧ R (resA as) σ

theorem res_sound {base : Heap} {G : Gh} {h : Heap} {σ : St} {ε : AEnv} {ρ : Env} (H : RelH base G h σ) (E : RelE G ε ρ) : ∀ (res : List RV) {as : List AV}, res.mapM (RV.av ε σ) = some as → ∃ vs, res.mapM (RV.val ρ h) = some vs ∧ RelL G as vs := by
  intro res
  induction res with
  | nil => intro as h1; simp at h1; subst h1; exact ⟨[], by simp, .nil G⟩
  | cons r res ih =>
    intro as h1
    rw [List.mapM_cons] at h1
    simp only [bind, Option.bind_eq_some_iff, pure, Option.some.injEq] at h1
    obtain ⟨a, ha, as', has, rfl⟩ := h1
    obtain ⟨vs, h2, h3⟩ := ih has
    obtain ⟨u, hu, hr⟩ : ∃ u, RV.val ρ h r = some u ∧ RelV G a u := by
      cases r with
      | tmp t => simp [RV.av] at ha; subst ha; exact ⟨_, rfl, E t⟩
      | cell t n => exact ld_sound H ha (E t)
    refine ⟨u :: vs, ?_, .cons hr h3⟩
    rw [List.mapM_cons, hu, h2]
    rfl

theorem fnG_enter {P : Program} {f : FuncId} {F : Fun} (hk : compF P f = some F) (hm : P.follows .mixedOrders = true) {as : List AV} {σ : St} {R : AV → St → Prop} (ha : as.length ≤ F.N)
    (H : wpA P F.code (postA F.res R) (fun _ _ _ => False) (postA F.res R) (initA as) σ) : FnG P f as σ R := by
  intro base G h vs hH hL
  refine fn_enter hk hm (by rw [hL.1]; exact ha) ?_
  have hE : RelE G (initA as) (initE vs) := by
    intro t
    unfold initA initE
    simp only [List.getD_eq_getElem?_getD]
    by_cases ht : t < as.length
    · have h1 := List.getElem?_eq_getElem ht
      have h2 : vs[t]? = some (vs[t]'(by rw [hL.1]; exact ht)) := List.getElem?_eq_getElem _
      rw [h1, h2]
      exact hL.2 t _ _ h1 h2
    · rw [List.getElem?_eq_none (by omega), List.getElem?_eq_none (by rw [hL.1]; omega)]
      exact .v _
  have hpost : ∀ ρ h', Real base G (postA F.res R) ρ h' → post h.size F.res (fun r h' => ∃ G' a σ', Gh.le base.size G G' ∧ RelH base G' h' σ' ∧ RelV G' a r ∧ R a σ') ρ h' := by
    rintro ρ h' ⟨G', ε, σ', l, H', E', as', h1, h2⟩
    obtain ⟨vs', h3, h4⟩ := res_sound H' E' F.res h1
    refine ⟨vs', h3, fun h2' hgr => ⟨G', _, σ', l, H'.growD hH.size hgr, ?_, h2⟩⟩
    unfold resA resV
    match as', vs', h4 with
    | [], vs', h4 => rw [h4.nil_inv]; exact .tup [] [] rfl (fun i a u h => by simp at h)
    | [a], vs', h4 =>
      obtain ⟨u, us, rfl, h5, h6⟩ := h4.cons_inv
      rw [h6.nil_inv]; exact h5
    | a :: b :: cs, vs', h4 =>
      obtain ⟨u, us, rfl, h5, h6⟩ := h4.cons_inv
      obtain ⟨w, ws, rfl, h7, h8⟩ := h6.cons_inv
      exact .tup _ _ h4.1 h4.2
  exact wpS_mono _ hpost (fun _ _ _ ⟨_, _, _, _, _, _, h⟩ => h.elim) hpost (wpA_sound F.code hH hE H)

theorem fnP_enter {P : Program} {f : FuncId} {F : Fun} (hk : compF P f = some F) (hm : P.follows .mixedOrders = true) {as : List AV} {Q : AV → Prop} (ha : as.length ≤ F.N) (hp : AV.pureL as = true)
    (H : wpA P F.code (postA F.res fun a σ' => ∃ is, (a.res (freeze is σ')).pure = true ∧ Q (a.res (freeze is σ'))) (fun _ _ _ => False) (postA F.res fun a σ' => ∃ is, (a.res (freeze is σ')).pure = true ∧ Q (a.res (freeze is σ'))) (initA as) []) : FnP P f as Q :=
  ⟨hp, FnG.fz (fnG_enter hk hm ha H)⟩

end Go.Kx
