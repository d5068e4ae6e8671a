/- Loads that may come behind an allocation: they give what they gave. -/
import Derived.Test.YtjdpejggafefjaaDoorVm
namespace Go.Kx
set_option linter.unusedVariables false
set_option linter.unusedSimpArgs false
open Go

/-- Of this form are the loads that are followed. -/
def isK : SItem → Bool
  | ⟨some d, none, .ld _ (.tmp t)⟩ => d != t
  | _ => false
def sameLd : SItem → SItem → Bool
  | ⟨some d, none, .ld n (.tmp t)⟩, ⟨some d', none, .ld n' (.tmp t')⟩ => d == d' && n == n' && t == t'
  | _, _ => false
def indep (dst : Option Nat) : SItem → Bool
  | ⟨some d, none, .ld _ (.tmp t)⟩ => dst != some d && dst != some t
  | _ => false
def isAlloc (it : SItem) : Bool := it.guard.isNone && match it.op with | .eff (.new _ _) _ => true | .eff (.bsl _ _) _ => true | _ => false
def RT.slim : RT → List SItem → RT
  | .done, _ => .done
  | .run it rest, kn => .run it (rest.slim (if it.isEff then [] else if isK it then it :: kn.filter (indep it.dst) else kn.filter (indep it.dst)))
  | .eff it held rest, kn =>
    if isAlloc it then .eff it (held.filter fun q => !(kn.filter (indep it.dst)).any (sameLd · q)) (rest.slim (kn.filter (indep it.dst)))
    else .eff it held (rest.slim [])
  | .both a b, kn => .both (a.slim kn) (b.slim kn)
def SCode.slim : SCode → SCode
  | .reg t outs => .reg (t.slim []) outs
  | .seq a b => .seq a.slim b.slim
  | .cond c a b => .cond c a.slim b.slim
  | .block id c => .block id c.slim
  | .loop c => .loop c.slim
  | c => c
def Fun.slim (F : Fun) : Fun := { F with code := F.code.slim }

theorem sameLd_eq {a b : SItem} (h : sameLd a b = true) : a = b := by
  unfold sameLd at h
  split at h
  · simp only [Bool.and_eq_true, beq_iff_eq] at h
    obtain ⟨⟨rfl, rfl⟩, rfl⟩ := h
    rfl
  · cases h
theorem indep_form {dst : Option Nat} {k : SItem} (h : indep dst k = true) : ∃ d n t, k = ⟨some d, none, .ld n (.tmp t)⟩ ∧ dst ≠ some d ∧ dst ≠ some t := by
  unfold indep at h
  split at h
  · simp only [Bool.and_eq_true, bne_iff_ne] at h
    exact ⟨_, _, _, rfl, h.1, h.2⟩
  · cases h
theorem put_ne {ε : Env} {dst : Option Nat} {v : Value} {s : Nat} (h : dst ≠ some s) : (ε.put dst v) s = ε s := by
  cases dst with
  | none => rfl
  | some d =>
    simp only [Env.put, Env.set]
    rw [if_neg]
    rintro rfl
    exact h rfl
theorem holds_put {k : SItem} {dst : Option Nat} {v : Value} {ε : Env} {h : Heap} (hi : indep dst k = true) (hk : k.holds ε h) : k.holds (ε.put dst v) h := by
  obtain ⟨d, n, t, rfl, h1, h2⟩ := indep_form hi
  obtain ⟨u, hu, hd⟩ := hk
  refine ⟨u, ?_, fun d' e => ?_⟩
  · simp only [SItem.qval, SOp.qv, ev] at hu ⊢
    rw [put_ne h2]; exact hu
  · cases e
    rw [put_ne h1]
    exact hd d rfl
theorem cellsG_push {h : Heap} {o : Obj} {b : Nat} : ∀ {n off : Nat} {l : List Value}, cellsG (hp h) b off n = some l → cellsG (hp (h.push o)) b off n = some l := by
  intro n
  induction n with
  | zero => intro off l hl; exact hl
  | succ n ih =>
    intro off l hl
    simp only [cellsG] at hl ⊢
    cases hc : cellG (hp h) b off with
    | none => rw [hc] at hl; cases hl
    | some v =>
      rw [hc] at hl
      rw [cellG_push (cellG_lt hc), hc]
      simp only at hl ⊢
      cases hr : cellsG (hp h) b (off + 1) n with
      | none => rw [hr] at hl; cases hl
      | some r => rw [ih hr]; rw [hr] at hl; exact hl
theorem ldV_push {h : Heap} {o : Obj} {n : Option Nat} {u v : Value} (hv : ldV n u (hp h) = some v) : ldV n u (hp (h.push o)) = some v := by
  unfold ldV at hv ⊢
  split at hv
  · split at hv
    · rw [cellG_push (cellG_lt hv)]; exact hv
    · simp only [Option.map_eq_some_iff] at hv ⊢
      obtain ⟨l, h1, h2⟩ := hv
      exact ⟨l, cellsG_push h1, h2⟩
  · cases hv
theorem holds_push {k : SItem} {ε : Env} {h : Heap} {o : Obj} {dst : Option Nat} (hi : indep dst k = true) (hk : k.holds ε h) : k.holds ε (h.push o) := by
  obtain ⟨d, n, t, rfl, _, _⟩ := indep_form hi
  obtain ⟨u, hu, hd⟩ := hk
  refine ⟨u, ?_, hd⟩
  simp only [SItem.qval, SOp.qv] at hu ⊢
  exact ldV_push hu
theorem sopw_mono {P : Program} {s : SOp} {ε : Env} {h : Heap} {K K' : Value → Heap → Prop} (hk : ∀ v h, K v h → K' v h) (H : s.wp P ε h K) : s.wp P ε h K' := by
  cases s with
  | pur f xs => obtain ⟨v, h1, h2⟩ := H; exact ⟨v, h1, hk _ _ h2⟩
  | ld n x => obtain ⟨v, h1, h2⟩ := H; exact ⟨v, h1, hk _ _ h2⟩
  | eff e xs => exact EF.wp_mono hk H
theorem slim_sound {P : Program} : ∀ (rt : RT) (kn : List SItem) (ε : Env) (h : Heap) (K : Env → Heap → Prop), (∀ q ∈ kn, q.holds ε h) → goR P (rt.slim kn) ε h K → goR P rt ε h K := by
  intro rt
  induction rt with
  | done => intro kn ε h K _ H; exact H
  | both a b iha ihb => intro kn ε h K hk H; exact ⟨iha kn ε h K hk H.1, ihb kn ε h K hk H.2⟩
  | run it rest ih =>
    intro kn ε h K hk H
    simp only [RT.slim, goR] at H ⊢
    have key : ∀ v, (∀ q ∈ kn.filter (indep it.dst), q.holds (ε.put it.dst v) h) := fun v q hq => by
      obtain ⟨h1, h2⟩ := List.mem_filter.1 hq
      exact holds_put h2 (hk q h1)
    have nn : ∀ (e : Env) (h' : Heap), ∀ q ∈ ([] : List SItem), q.holds e h' := fun _ _ q hq => by simp at hq
    obtain ⟨dst, g, op⟩ := it
    cases op with
    | eff e xs =>
      have hE : SItem.isEff ⟨dst, g, .eff e xs⟩ = true := rfl
      rw [hE, if_pos rfl] at H
      unfold SItem.wp at H ⊢
      cases g with
      | none => exact sopw_mono (fun v h' H => ih [] (ε.put dst v) h' K (nn _ _) H) H
      | some g =>
        simp only at H ⊢
        split
        · rename_i hs
          rw [if_pos hs] at H
          exact sopw_mono (fun v h' H => ih [] (ε.put dst v) h' K (nn _ _) H) H
        · rename_i hs
          rw [if_neg hs] at H
          exact ih [] _ _ _ (nn _ _) H
    | pur f xs =>
      have hE : SItem.isEff ⟨dst, g, .pur f xs⟩ = false := rfl
      have hK : isK ⟨dst, g, .pur f xs⟩ = false := by unfold isK; split; simp_all; rfl
      rw [hE, hK] at H
      simp only [Bool.false_eq_true, if_false] at H
      unfold SItem.wp at H ⊢
      cases g with
      | none => obtain ⟨v, h1, h2⟩ := H; exact ⟨v, h1, ih _ _ _ _ (key v) h2⟩
      | some g =>
        simp only at H ⊢
        split
        · rename_i hs
          rw [if_pos hs] at H
          obtain ⟨v, h1, h2⟩ := H
          exact ⟨v, h1, ih _ _ _ _ (key v) h2⟩
        · rename_i hs
          rw [if_neg hs] at H
          exact ih _ _ _ _ (key undef) H
    | ld n x =>
      have hE : SItem.isEff ⟨dst, g, .ld n x⟩ = false := rfl
      rw [hE] at H
      simp only [Bool.false_eq_true, if_false] at H
      unfold SItem.wp at H ⊢
      cases g with
      | some g =>
        have hK : isK ⟨dst, some g, .ld n x⟩ = false := by unfold isK; split; simp_all; rfl
        rw [hK] at H
        simp only [Bool.false_eq_true, if_false] at H ⊢
        split
        · rename_i hs
          rw [if_pos hs] at H
          obtain ⟨v, h1, h2⟩ := H
          exact ⟨v, h1, ih _ _ _ _ (key v) h2⟩
        · rename_i hs
          rw [if_neg hs] at H
          exact ih _ _ _ _ (key undef) H
      | none =>
        obtain ⟨v, h1, h2⟩ := H
        refine ⟨v, h1, ?_⟩
        cases hK : isK ⟨dst, none, .ld n x⟩ with
        | false =>
          rw [hK] at h2
          exact ih _ _ _ _ (key v) h2
        | true =>
          rw [hK] at h2
          refine ih _ _ _ _ (fun q hq => ?_) h2
          rcases List.mem_cons.1 hq with rfl | hq
          · unfold isK at hK
            split at hK
            · rename_i d m t heq
              cases heq
              have hdt : d ≠ t := by simpa using hK
              refine ⟨v, ?_, fun d' e => by cases e; simp [Env.put, Env.set]⟩
              simp only [SItem.qval, SOp.qv, ev] at h1 ⊢
              rw [put_ne (by simpa using hdt)]
              exact h1
            · cases hK
          · exact key v q hq
  | eff it held rest ih =>
    intro kn ε h K hk H
    have nn : ∀ (e : Env) (h' : Heap), ∀ q ∈ ([] : List SItem), q.holds e h' := fun _ _ q hq => by simp at hq
    simp only [RT.slim] at H
    cases ha : isAlloc it with
    | true =>
      rw [ha] at H
      simp only [if_true] at H
      obtain ⟨dst, g, op⟩ := it
      unfold isAlloc at ha
      simp only [Bool.and_eq_true] at ha
      obtain ⟨hg, ho⟩ := ha
      cases g with
      | some g => simp at hg
      | none =>
        have step : ∀ v o, ((∀ q ∈ held.filter fun q => !(kn.filter (indep dst)).any (sameLd · q), q.holds (ε.put dst v) (h.push o)) ∧ goR P (rest.slim (kn.filter (indep dst))) (ε.put dst v) (h.push o) K) →
            ((∀ q ∈ held, q.holds (ε.put dst v) (h.push o)) ∧ goR P rest (ε.put dst v) (h.push o) K) := by
          intro v o ⟨h1, h2⟩
          have hkn : ∀ q ∈ kn.filter (indep dst), q.holds (ε.put dst v) (h.push o) := fun q hq => by
            obtain ⟨a, b⟩ := List.mem_filter.1 hq
            exact holds_push b (holds_put b (hk q a))
          refine ⟨fun q hq => ?_, ih _ _ _ _ hkn h2⟩
          cases hany : (kn.filter (indep dst)).any (sameLd · q) with
          | true =>
            obtain ⟨k, hk1, hk2⟩ := List.any_eq_true.1 hany
            rw [← sameLd_eq hk2]
            exact hkn k hk1
          | false => exact h1 q (List.mem_filter.2 ⟨hq, by rw [hany]; rfl⟩)
        split at ho
        · rename_i T z xs
          simp only [goR, SItem.wp, SOp.wp] at H ⊢
          unfold EF.wp at H ⊢
          cases hxs : xs.map (ev ε) with
          | nil => rw [hxs] at H; exact step _ _ H
          | cons a as => rw [hxs] at H; exact H
        · rename_i E sz xs
          simp only [goR, SItem.wp, SOp.wp] at H ⊢
          unfold EF.wp at H ⊢
          exact ⟨H.1, step _ _ H.2⟩
        · cases ho
    | false =>
      rw [ha] at H
      simp only [Bool.false_eq_true, if_false, goR] at H ⊢
      unfold SItem.wp at H ⊢
      cases hg : it.guard with
      | none =>
        rw [hg] at H
        simp only at H ⊢
        cases hop : it.op with
        | pur f xs => rw [hop] at H; obtain ⟨v, h1, h2, h3⟩ := H; exact ⟨v, h1, h2, ih [] _ _ _ (nn _ _) h3⟩
        | ld n x => rw [hop] at H; obtain ⟨v, h1, h2, h3⟩ := H; exact ⟨v, h1, h2, ih [] _ _ _ (nn _ _) h3⟩
        | eff e xs => rw [hop] at H; exact sopw_mono (K := fun v h' => (∀ q ∈ held, q.holds (ε.put it.dst v) h') ∧ goR P (rest.slim []) (ε.put it.dst v) h' K) (fun v h' H => ⟨H.1, ih [] _ _ _ (nn _ _) H.2⟩) H
      | some g =>
        rw [hg] at H
        simp only at H ⊢
        split
        · rename_i hs
          rw [if_pos hs] at H
          cases hop : it.op with
          | pur f xs => rw [hop] at H; obtain ⟨v, h1, h2, h3⟩ := H; exact ⟨v, h1, h2, ih [] _ _ _ (nn _ _) h3⟩
          | ld n x => rw [hop] at H; obtain ⟨v, h1, h2, h3⟩ := H; exact ⟨v, h1, h2, ih [] _ _ _ (nn _ _) h3⟩
          | eff e xs => rw [hop] at H; exact sopw_mono (K := fun v h' => (∀ q ∈ held, q.holds (ε.put it.dst v) h') ∧ goR P (rest.slim []) (ε.put it.dst v) h' K) (fun v h' H => ⟨H.1, ih [] _ _ _ (nn _ _) H.2⟩) H
        · rename_i hs
          rw [if_neg hs] at H
          exact ⟨H.1, ih [] _ _ _ (nn _ _) H.2⟩
theorem slimS_sound {P : Program} : ∀ (c : SCode) {K : Env → Heap → Prop} {X : Nat → Env → Heap → Prop} {R : Env → Heap → Prop} {ρ : Env} {h : Heap}, wpS P c.slim K X R ρ h → wpS P c K X R ρ h := by
  intro c
  induction c with
  | skip => intro K X R ρ h H; exact H
  | reg t outs => intro K X R ρ h H; exact slim_sound t [] _ _ _ (fun q hq => by simp at hq) H
  | seq a b iha ihb => intro K X R ρ h H; exact wpS_mono a (fun _ _ H => ihb H) (fun _ _ _ h => h) (fun _ _ h => h) (iha H)
  | cond c a b iha ihb => intro K X R ρ h H; obtain ⟨t, h1, h2, h3⟩ := H; exact ⟨t, h1, fun e => iha (h2 e), fun e => ihb (h3 e)⟩
  | block id c ih => intro K X R ρ h H; exact ih H
  | loop c ih => intro K X R ρ h H; obtain ⟨α, I, μ, x, h1, h2⟩ := H; exact ⟨α, I, μ, x, h1, fun x ρ h hI => ih (h2 x ρ h hI)⟩
  | exit id => intro K X R ρ h H; exact H
  | ret => intro K X R ρ h H; exact H
  | rf g ps a b iha ihb => intro K X R ρ h H; exact H
/-- Into a function whose code was made slim. -/
theorem fnG_in2 {P : Program} {f : FuncId} {F : Fun} (hk : (compF P f).map Fun.slim = some F) (hm : P.follows .mixedOrders = true) {as : List AV} {σ : St} {R : AV → St → Prop} (ha : Nat.ble as.length F.N = true)
    (H : act (wpA P F.code (postA F.res R) (fun _ _ _ => False) (postA F.res R) (initA as) σ)) : FnG P f as σ R := by
  obtain ⟨F0, hk0, rfl⟩ := Option.map_eq_some_iff.1 hk
  intro base G h vs hH hL
  refine fn_enter hk0 hm (by rw [hL.1]; exact Nat.le_of_ble_eq_true ha) ?_
  have hE : RelE G (initA as) (initE vs) := by
    intro t
    unfold initA initE
    simp only [List.getD_eq_getElem?_getD]
    by_cases ht : t < as.length
    · have h1 := List.getElem?_eq_getElem ht
      have h2 : vs[t]? = some (vs[t]'(by rw [hL.1]; exact ht)) := List.getElem?_eq_getElem _
      rw [h1, h2]
      exact hL.2 t _ _ h1 h2
    · rw [List.getElem?_eq_none (by omega), List.getElem?_eq_none (by rw [hL.1]; omega)]
      exact .v _
  have hpost : ∀ ρ h', Real base G (postA F0.res R) ρ h' → post h.size F0.res (fun r h' => ∃ G' a σ', Gh.le base.size G G' ∧ RelH base G' h' σ' ∧ RelV G' a r ∧ R a σ') ρ h' := by
    rintro ρ h' ⟨G', ε, σ', l, H', E', as', h1, h2⟩
    obtain ⟨vs', h3, h4⟩ := res_sound H' E' F0.res h1
    refine ⟨vs', h3, fun h2' hgr => ⟨G', _, σ', l, H'.growD hH.size hgr, ?_, h2⟩⟩
    unfold resA resV
    match as', vs', h4 with
    | [], vs', h4 => rw [h4.nil_inv]; exact .tup [] [] rfl (fun i a u h => by simp at h)
    | [a], vs', h4 =>
      obtain ⟨u, us, rfl, h5, h6⟩ := h4.cons_inv
      rw [h6.nil_inv]; exact h5
    | a :: b :: cs, vs', h4 =>
      obtain ⟨u, us, rfl, h5, h6⟩ := h4.cons_inv
      obtain ⟨w, ws, rfl, h7, h8⟩ := h6.cons_inv
      exact .tup _ _ h4.1 h4.2
  exact slimS_sound F0.code (wpS_mono _ hpost (fun _ _ _ ⟨_, _, _, _, _, _, h⟩ => h.elim) hpost (wpA_sound F0.slim.code hH hE H))
end Go.Kx
