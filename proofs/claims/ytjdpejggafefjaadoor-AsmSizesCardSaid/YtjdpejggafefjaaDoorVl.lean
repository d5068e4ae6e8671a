/- Annotated values, part l: what follows may be weakened; a piece of code, and then the rest. -/
import Derived.Test.YtjdpejggafefjaaDoorVk
namespace Go.Kx
set_option linter.unusedVariables false
set_option linter.unusedSimpArgs false
open Go

theorem AppA_mono {σ : St} {sz m : Nat} {news : List AV} {K K' : AV → St → Prop} (hk : ∀ a σ, K a σ → K' a σ) {x : AV} (H : AppA σ sz m news K x) : AppA σ sz m news K' x := by
  unfold AppA at *
  split at H
  · refine ⟨H.1, ?_⟩
    have H2 := H.2
    split at H2
    · rcases H2 with h | ⟨h0, h⟩ | h
      · exact .inl (hk _ _ h)
      · exact .inr (.inl ⟨h0, hk _ _ h⟩)
      · exact .inr (.inr (hk _ _ h))
    · rcases H2 with h | h
      · exact .inl (hk _ _ h)
      · exact .inr (hk _ _ h)
    · exact ⟨H2.1, H2.2.1, hk _ _ H2.2.2⟩
    · exact H2
  · obtain ⟨h1, h2, cs, h3, h4, h5⟩ := H
    exact ⟨h1, h2, cs, h3, h4, hk _ _ h5⟩
  · exact H
theorem EF.awp0_mono {P : Program} {e : EF} {as : List AV} {σ : St} {K K' : AV → St → Prop} (hk : ∀ a σ, K a σ → K' a σ) (H : e.awp0 P as σ K) : e.awp0 P as σ K' := by
  unfold EF.awp0 at *
  split at H
  · exact hk _ _ H
  · exact hk _ _ H
  · obtain ⟨h1, h2, cs, h3, h4, h5⟩ := H
    exact ⟨h1, h2, cs, h3, h4, hk _ _ h5⟩
  · obtain ⟨h1, h2, h3⟩ := H
    exact ⟨h1, h2, h3.elim (fun h => .inl (hk _ _ h)) fun h => .inr (hk _ _ h)⟩
  · obtain ⟨h1, h2, h3, h4, h5, h6⟩ := H
    exact ⟨h1, h2, h3, h4, h5, hk _ _ h6⟩
  · obtain ⟨h1, m, news, h2, h3, h4, h5, h6, h7⟩ := H
    exact ⟨h1, m, news, h2, h3, h4, h5, h6, AppA_mono hk h7⟩
  · exact FnG.mono H hk
  · exact ⟨H.1, FnG.mono H.2 hk⟩
  · exact hk _ _ H
  · obtain ⟨es, h1, ys, h2, h3⟩ := H
    exact ⟨es, h1, ys, h2, hk _ _ h3⟩
  · obtain ⟨es, h1, v, h2, h3⟩ := H
    exact ⟨es, h1, v, h2, hk _ _ h3⟩
  · exact hk _ _ H
  · obtain ⟨h1, h2, s, pos, h3, h4⟩ := H
    refine ⟨h1, h2, s, pos, h3, ?_⟩
    split at h4 <;> rename_i hc
    · rw [if_pos hc]; exact hk _ _ h4
    · rw [if_neg hc]; exact hk _ _ h4
  · obtain ⟨h1, n, bs, h2, h3, h4⟩ := H
    exact ⟨h1, n, bs, h2, h3, hk _ _ h4⟩
  · obtain ⟨h1, h2, m, news, h3, h4, h5, h6, cs, h7, h8, h9⟩ := H
    exact ⟨h1, h2, m, news, h3, h4, h5, h6, cs, h7, h8, hk _ _ h9⟩
  · exact ⟨H.1, hk _ _ H.2⟩
  · exact H.elim
theorem EF.awp_mono {P : Program} {e : EF} {as : List AV} {σ : St} {K K' : AV → St → Prop} (hk : ∀ a σ, K a σ → K' a σ) (H : e.awp P as σ K) : e.awp P as σ K' := by
  obtain ⟨ss, H⟩ := H
  exact ⟨ss, EF.awp0_mono hk H⟩
theorem SOp.awp_mono {P : Program} {s : SOp} {ε : AEnv} {σ : St} {K K' : AV → St → Prop} (hk : ∀ a σ, K a σ → K' a σ) (H : s.awp P ε σ K) : s.awp P ε σ K' := by
  cases s with
  | pur f xs => obtain ⟨v, h1, h2⟩ := H; exact ⟨v, h1, hk _ _ h2⟩
  | ld n x => obtain ⟨v, h1, h2⟩ := H; exact ⟨v, h1, hk _ _ h2⟩
  | eff e xs => exact EF.awp_mono hk H
theorem SItem.awp_mono {P : Program} {it : SItem} {ε : AEnv} {σ : St} {K K' : AV → St → Prop} (hk : ∀ a σ, K a σ → K' a σ) (H : it.awp P ε σ K) : it.awp P ε σ K' := by
  obtain ⟨dst, guard, op⟩ := it
  cases guard with
  | none => exact SOp.awp_mono hk H
  | some g =>
    obtain ⟨s, want⟩ := g
    have H : if gselA (ε s) want then op.awp P ε σ K else K (.v undef) σ := H
    show if gselA (ε s) want then op.awp P ε σ K' else K' (.v undef) σ
    split at H
    · rename_i hc; rw [if_pos hc]; exact SOp.awp_mono hk H
    · rename_i hc; rw [if_neg hc]; exact hk _ _ H
theorem goRA_mono {P : Program} : ∀ (t : RT) {K K' : AEnv → St → Prop} {ε : AEnv} {σ : St}, (∀ ε σ, K ε σ → K' ε σ) → goRA P t ε σ K → goRA P t ε σ K' := by
  intro t
  induction t with
  | done => intro K K' ε σ hk H; exact hk _ _ H
  | run it rest ih => intro K K' ε σ hk H; exact SItem.awp_mono (fun a σ' h => ih hk h) H
  | eff it held rest ih => intro K K' ε σ hk H; exact SItem.awp_mono (fun a σ' h => ⟨h.1, ih hk h.2⟩) H
  | both a b iha ihb => intro K K' ε σ hk H; exact ⟨iha hk H.1, ihb hk H.2⟩
theorem wpA_mono {P : Program} : ∀ (c : SCode) {K K' : AEnv → St → Prop} {X X' : Nat → AEnv → St → Prop} {R R' : AEnv → St → Prop} {ε : AEnv} {σ : St}, (∀ ε σ, K ε σ → K' ε σ) → (∀ j ε σ, X j ε σ → X' j ε σ) → (∀ ε σ, R ε σ → R' ε σ) → wpA P c K X R ε σ → wpA P c K' X' R' ε σ := by
  intro c
  induction c with
  | skip => intro K K' X X' R R' ε σ hk hx hr H; exact hk _ _ H
  | reg t outs => intro K K' X X' R R' ε σ hk hx hr H; exact goRA_mono t (fun _ _ => hk _ _) H
  | seq a b iha ihb => intro K K' X X' R R' ε σ hk hx hr H; exact iha (fun _ _ => ihb hk hx hr) hx hr H
  | cond c a b iha ihb =>
    intro K K' X X' R R' ε σ hk hx hr ⟨t, h1, h2, h3⟩
    exact ⟨t, h1, fun e => iha hk hx hr (h2 e), fun e => ihb hk hx hr (h3 e)⟩
  | block id c ih =>
    intro K K' X X' R R' ε σ hk hx hr H
    refine ih hk (fun j ε σ hj => ?_) hr H
    split at hj
    · rename_i hc; rw [if_pos hc]; exact hk _ _ hj
    · rename_i hc; rw [if_neg hc]; exact hx _ _ _ hj
  | loop c ih =>
    intro K K' X X' R R' ε σ hk hx hr ⟨α, I, μ, x, ε', σ', hg, h1, h2⟩
    exact ⟨α, I, μ, x, ε', σ', hg, h1, fun x ε σ hI => ih (fun _ _ h => h) hx hr (h2 x ε σ hI)⟩
  | exit id => intro K K' X X' R R' ε σ hk hx hr H; exact hx _ _ _ H
  | ret => intro K K' X X' R R' ε σ hk hx hr H; exact hr _ _ H
  | rf g ps a b iha ihb =>
    intro K K' X X' R R' ε σ hk hx hr ⟨gf, xs, vsA, ε', σ', I, h1, h2, h3, h4, h5, h6, h7, h8⟩
    exact ⟨gf, xs, vsA, ε', σ', I, h1, h2, h3, h4, h5, h6, h7, fun σ hI => hk _ _ (h8 σ hI)⟩

section
variable {P : Program} {K : AEnv → St → Prop} {X : Nat → AEnv → St → Prop} {R : AEnv → St → Prop} {ε : AEnv} {σ : St}
/-- A piece of code, told by what holds behind it (Q); then the rest. -/
theorem wpa_seq {a b : SCode} (Q : AEnv → St → Prop) (h1 : ∀ N : AEnv → St → Prop, (∀ ε' σ', Q ε' σ' → act (N ε' σ')) → act (wpA P a N X R ε σ)) (h2 : ∀ ε σ, Q ε σ → act (wpA P b K X R ε σ)) : act (wpA P (.seq a b) K X R ε σ) :=
  wpA_mono a (fun ε σ h => h2 ε σ h) (fun _ _ _ h => h) (fun _ _ h => h) (h1 Q fun _ _ h => h)
/-- The same, of code that ends in no return and leaves no loop. -/
theorem wpa_seqx {a b : SCode} (Q : AEnv → St → Prop) (h1 : ∀ (N : AEnv → St → Prop) (X' : Nat → AEnv → St → Prop) (R' : AEnv → St → Prop), (∀ ε' σ', Q ε' σ' → act (N ε' σ')) → act (wpA P a N X' R' ε σ)) (h2 : ∀ ε σ, Q ε σ → act (wpA P b K X R ε σ)) : act (wpA P (.seq a b) K X R ε σ) :=
  wpa_seq Q (fun N hN => h1 N X R hN) h2
/-- A loop whose body leaves it by its own exit only. -/
theorem wpa_blx {id : Nat} {c : SCode} {K0 : AEnv → St → Prop} {α : Type} (I : α → AEnv → St → Prop) (μ : α → Nat) (Q : AEnv → St → Prop) (x : α) (h0 : I x ε σ)
    (hr : ∀ x ε σ (N E : AEnv → St → Prop) (X' : Nat → AEnv → St → Prop) (R' : AEnv → St → Prop), I x ε σ → (∀ x' ε' σ', I x' ε' σ' → μ x' < μ x → act (N ε' σ')) → (∀ ε' σ', Q ε' σ' → act (E ε' σ')) → act (wpA P c N (fun j ε σ => if j = id then E ε σ else X' j ε σ) R' ε σ))
    (hK : ∀ ε σ, Q ε σ → act (K ε σ)) : act (wpA P (.loop c) K0 (fun j ε σ => if j = id then K ε σ else X j ε σ) R ε σ) :=
  wpa_bl I μ Q x h0 (fun x ε σ N E hI h1 h2 => hr x ε σ N E X R hI h1 h2) hK
theorem wpa_blgx {id : Nat} {c : SCode} {K0 : AEnv → St → Prop} {ε0 : AEnv} {σ0 : St} (g : GU ε σ ε0 σ0) {α : Type} (I : α → AEnv → St → Prop) (μ : α → Nat) (Q : AEnv → St → Prop) (x : α) (h0 : I x ε0 σ0)
    (hr : ∀ x ε σ (N E : AEnv → St → Prop) (X' : Nat → AEnv → St → Prop) (R' : AEnv → St → Prop), I x ε σ → (∀ x' ε' σ', I x' ε' σ' → μ x' < μ x → act (N ε' σ')) → (∀ ε' σ', Q ε' σ' → act (E ε' σ')) → act (wpA P c N (fun j ε σ => if j = id then E ε σ else X' j ε σ) R' ε σ))
    (hK : ∀ ε σ, Q ε σ → act (K ε σ)) : act (wpA P (.loop c) K0 (fun j ε σ => if j = id then K ε σ else X j ε σ) R ε σ) :=
  wpa_blg g I μ Q x h0 (fun x ε σ N E hI h1 h2 => hr x ε σ N E X R hI h1 h2) hK
end
/-- A range over a function. -/
theorem wpa_rf {P : Program} {K : AEnv → St → Prop} {X : Nat → AEnv → St → Prop} {R : AEnv → St → Prop} {ε ε' : AEnv} {σ σ' : St} {g : Operand} {ps : List Nat} {a b : SCode} {gf : FuncId} {xs : List AV} {vsA : List (List AV)} (gu : GU ε σ ε' σ') (I : Nat → St → Prop)
    (hg : evA ε' g = .fn (.func gf) 0 xs) (hok : fnOk P gf = true) (hit : ItP P gf xs vsA) (hlen : ∀ (i : Nat) (v : List AV), vsA[i]? = some v → v.length = ps.length) (h0 : I 0 σ')
    (hr : ∀ (i : Nat) (v : List AV) (σ : St) (N : AEnv → St → Prop), vsA[i]? = some v → I i σ → (∀ ε σ, I (i + 1) σ → act (N ε σ)) → act (wpA P a (fun ε2 σ2 => wpA P b N (fun _ _ _ => False) (fun _ _ => False) ε2 σ2) (fun _ _ _ => False) (fun _ _ => False) (setA ε' ps v) σ))
    (hK : ∀ σ, I vsA.length σ → act (K ε' σ)) : act (wpA P (.rf g ps a b) K X R ε σ) :=
  ⟨gf, xs, vsA, ε', σ', I, gu, hg, hok, hit, hlen, h0, fun i v σ hv hI => hr i v σ _ hv hI fun _ _ h => h, hK⟩
/-- The same function, called with an ordinary one. -/
theorem ItP.call {P : Program} {gf : FuncId} {xs : List AV} {vsA : List (List AV)} (hit : ItP P gf xs vsA) {fy : FuncId} {k : Nat} {ys : List AV} (hok : fnOk P fy = true) (I : Nat → St → Prop) {σ : St} (h0 : I 0 σ)
    (hy : ∀ (i : Nat) (v : List AV) (σ : St), vsA[i]? = some v → I i σ → FnG P fy (ys.take k ++ v ++ ys.drop k) σ fun a σ' => a = aBool true ∧ I (i + 1) σ') : FnG P gf (.fn (.func fy) k ys :: xs) σ fun _ σ' => I vsA.length σ' := by
  intro base G h vs H L
  obtain ⟨u, lb, rfl, hu, hL⟩ := L.cons_inv
  obtain ⟨vs, hvs, hic⟩ := hit.2 G lb hL
  have hlt : ∀ i, i < vsA.length → ∃ v, vsA[i]? = some v := fun i hi => ⟨_, List.getElem?_eq_getElem hi⟩
  have := hic u (fun i h => ∃ G' σ, Gh.le base.size G G' ∧ RelH base G' h σ ∧ I i σ) h ?_ ?_ ?_ ⟨G, σ, .refl _ _, H, h0⟩
  · have e : (u :: lb).toArray = #[u] ++ lb.toArray := by simp
    rw [e]
    refine this.mono ?_
    rintro r h' ⟨G', σ', l, H', hI⟩
    exact ⟨G', .v r, σ', l, H', .v r, hI⟩
  · rintro i h2 ⟨G', σ2, l2, H2, _⟩ b o w hw
    exact H2.st _ _ _ (l2.g _ _ _ hw)
  · rintro i h2 h3 ⟨G', σ2, l2, H2, hI⟩ hgr
    exact ⟨G', σ2, l2, H2.growD H.size hgr, hI⟩
  · rintro i h2 hi ⟨G', σ2, l2, H2, hI⟩
    obtain ⟨v, hv⟩ := hlt i hi
    cases hu with
    | fn _ _ _ ws h1 h2' =>
      have hW : RelL G' ys ws := (show RelL G ys ws from ⟨h1, h2'⟩).mono l2
      refine ⟨hok, ?_⟩
      have hall : RelL G' (ys.take k ++ v ++ ys.drop k) (ws.take k ++ vs i ++ ws.drop k) := ((hW.take k).append ((hvs i v hv).mono l2)).append (hW.drop k)
      have := hy i v σ2 hv hI base G' h2 _ H2 hall
      have e : (ws.take k ++ vs i ++ ws.drop k).toArray = (ws.take k).toArray ++ (vs i).toArray ++ (ws.drop k).toArray := by simp
      rw [e] at this
      refine this.mono ?_
      rintro r h' ⟨G3, a, σ3, l3, H3, hr, rfl, hI3⟩
      cases hr
      exact ⟨rfl, G3, σ3, l2.trans l3, H3, hI3⟩
end Go.Kx
