/- SpanGreedy: plain laws (a greedy plan is no worse than that), and the walk. -/
import Derived.Test.YtilofhocodbknaaSpn
namespace Go.Proofs.Ytilofhocodbknaa
set_option linter.unusedVariables false
set_option linter.unusedSimpArgs false
open Go Go.Kx Go.Proofs

def unW (D : List Int) (k : Nat) : Int := if D.contains (k : Int) then 0 else 1
/-- How many things that are not done the longest row that ends with one has. -/
def ht (xss : List (List Int)) (D : List Int) (k : Nat) : Int := (rkF (unW D) xss).getD k 0
def htM (xss : List (List Int)) (D : List Int) : Int := maxL (rkF (unW D) xss)
def Closed (xss : List (List Int)) (D : List Int) : Prop := ∀ (k : Nat) (l : List Int), xss[k]? = some l → (k : Int) ∈ D → ∀ p ∈ l, p ∈ D
theorem unW_in {D : List Int} {k : Nat} (h : (k : Int) ∈ D) : unW D k = 0 := by simp [unW, h]
theorem unW_out {D : List Int} {k : Nat} (h : (k : Int) ∉ D) : unW D k = 1 := by simp [unW, h]
theorem unW_bd (D : List Int) (k : Nat) : 0 ≤ unW D k ∧ unW D k ≤ 1 := by unfold unW; split <;> omega
theorem ht_at {xss : List (List Int)} (hok : okB 0 xss = true) (D : List Int) {k : Nat} {l : List Int} (hl : xss[k]? = some l) : ht xss D k = rankP (rkF (unW D) xss) l + unW D k := rkF_at (unW D) hok hl
theorem ht_nn (xss : List (List Int)) (D : List Int) (k : Nat) : 0 ≤ ht xss D k := by
  unfold ht
  rw [List.getD_eq_getElem?_getD]
  cases hx : (rkF (unW D) xss)[k]? with
  | none => simp
  | some r => exact (rkF_bd (B := 1) (by omega) (unW_bd D) xss r (List.mem_of_getElem? hx)).1
theorem htM_ge {xss : List (List Int)} {D : List Int} {k : Nat} (hk : k < xss.length) : ht xss D k ≤ htM xss D := by
  obtain ⟨r, hr⟩ := at_lt (l := rkF (unW D) xss) (k := k) (by rw [rkF_len]; exact hk)
  have e : ht xss D k = r := by simp [ht, List.getD_eq_getElem?_getD, hr]
  rw [e]; exact maxL_ge (List.mem_of_getElem? hr)
theorem htM_nn (xss : List (List Int)) (D : List Int) : 0 ≤ htM xss D := maxL_nn _
theorem htM_le {xss : List (List Int)} {D : List Int} {B : Int} (h0 : 0 ≤ B) (h : ∀ k, k < xss.length → ht xss D k ≤ B) : htM xss D ≤ B := by
  refine maxL_le h0 fun x hx => ?_
  obtain ⟨k, hk⟩ := List.mem_iff_getElem?.1 hx
  have hlt := (List.getElem?_eq_some_iff.1 hk).1
  rw [rkF_len] at hlt
  have := h k hlt
  simpa [ht, List.getD_eq_getElem?_getD, hk] using this
/-- By what is ahead. -/
theorem rankP_le {rs l : List Int} {B : Int} (h0 : 0 ≤ B) (h : ∀ p ∈ l, rs.getD p.toNat 0 ≤ B) : rankP rs l ≤ B := by
  rcases rankP_ex rs l with e | ⟨p, hp, e⟩
  · omega
  · rw [e]; exact h p hp
theorem rankP_nn (rs l : List Int) : 0 ≤ rankP rs l := (foldmax_spec (fun p => rs.getD p.toNat 0) l 0).1
theorem ht_in {xss : List (List Int)} (hok : okB 0 xss = true) {D : List Int} (hD : Closed xss D) : ∀ k, k < xss.length → (k : Int) ∈ D → ht xss D k = 0 := by
  intro k
  induction k using Nat.strongRecOn with
  | ind k ih =>
    intro hk hm
    obtain ⟨l, hl⟩ := at_lt hk
    rw [ht_at hok D hl, unW_in hm]
    have : rankP (rkF (unW D) xss) l ≤ 0 := by
      refine rankP_le (by omega) fun p hp => ?_
      have hpk := okB_at hok hl p hp
      obtain ⟨q, rfl⟩ : ∃ q : Nat, p = q := ⟨p.toNat, by omega⟩
      have := ih q (by omega) (by omega) (hD k l hl hm _ hp)
      rw [Int.toNat_natCast]
      unfold ht at this; omega
    have := rankP_nn (rkF (unW D) xss) l
    omega
theorem ht_out {xss : List (List Int)} (hok : okB 0 xss = true) {D : List Int} {k : Nat} (hk : k < xss.length) (hm : (k : Int) ∉ D) : 1 ≤ ht xss D k := by
  obtain ⟨l, hl⟩ := at_lt hk
  rw [ht_at hok D hl, unW_out hm]
  have := rankP_nn (rkF (unW D) xss) l
  omega

/-! ### A row more -/
theorem ready_at {xss : List (List Int)} {D : List Int} {k : Nat} {l : List Int} (hl : xss[k]? = some l) : readyD xss D k = true ↔ (k : Int) ∉ D ∧ ∀ p ∈ l, p ∈ D := by
  unfold readyD
  have e : xss.getD k [] = l := by simp [List.getD_eq_getElem?_getD, hl]
  rw [e]
  simp
theorem rowD_all {xss : List (List Int)} {D : List Int} {n : Nat} (hf : (rowD xss n D).length < n) {k : Nat} (hk : k < xss.length) (hr : readyD xss D k = true) : (k : Int) ∈ rowD xss n D := by
  unfold rowD rowK at *
  rw [List.length_map, List.length_take] at hf
  rw [List.take_of_length_le (by omega)]
  exact List.mem_map.2 ⟨k, by simp [hk, hr], rfl⟩
theorem closed_row {xss : List (List Int)} {D : List Int} (hD : Closed xss D) (n : Nat) : Closed xss (D ++ rowD xss n D) := by
  intro k l hl hm p hp
  rcases List.mem_append.1 hm with h | h
  · exact List.mem_append.2 (.inl (hD k l hl h p hp))
  · obtain ⟨i, e, hi, hr⟩ := rowD_mem h
    have : k = i := by omega
    subst this
    exact List.mem_append.2 (.inl (((ready_at hl).1 hr).2 p hp))
section
variable {xss : List (List Int)} (hok : okB 0 xss = true) {D : List Int} (hD : Closed xss D) (n : Nat)
include hok
theorem ht_down : ∀ k, k < xss.length → ht xss (D ++ rowD xss n D) k ≤ ht xss D k := by
  intro k
  induction k using Nat.strongRecOn with
  | ind k ih =>
    intro hk
    obtain ⟨l, hl⟩ := at_lt hk
    rw [ht_at hok _ hl, ht_at hok _ hl]
    have h1 : unW (D ++ rowD xss n D) k ≤ unW D k := by
      by_cases hm : (k : Int) ∈ D
      · rw [unW_in hm, unW_in (List.mem_append.2 (.inl hm))]; omega
      · rw [unW_out hm]; exact (unW_bd _ k).2
    have h2 : rankP (rkF (unW (D ++ rowD xss n D)) xss) l ≤ rankP (rkF (unW D) xss) l := by
      refine rankP_le (rankP_nn _ _) fun p hp => ?_
      have hpk := okB_at hok hl p hp
      have := ih p.toNat (by omega) (by omega)
      have h3 := rankP_ge (rs := rkF (unW D) xss) hp
      unfold ht at this; omega
    omega
include hD
theorem ht_up : ∀ k, k < xss.length → ht xss D k ≤ ht xss (D ++ rowD xss n D) k + 1 := by
  intro k
  induction k using Nat.strongRecOn with
  | ind k ih =>
    intro hk
    obtain ⟨l, hl⟩ := at_lt hk
    have hn := ht_nn xss (D ++ rowD xss n D) k
    by_cases hm : (k : Int) ∈ D
    · rw [ht_in hok hD k hk hm]; omega
    · rw [ht_at hok D hl, unW_out hm]
      by_cases hr : (k : Int) ∈ rowD xss n D
      · obtain ⟨i, e, hi, hrd⟩ := rowD_mem hr
        have : k = i := by omega
        subst this
        have : rankP (rkF (unW D) xss) l ≤ 0 := by
          refine rankP_le (by omega) fun p hp => ?_
          have hpk := okB_at hok hl p hp
          obtain ⟨q, rfl⟩ : ∃ q : Nat, p = q := ⟨p.toNat, by omega⟩
          have := ht_in hok hD q (by omega) (((ready_at hl).1 hrd).2 _ hp)
          rw [Int.toNat_natCast]
          unfold ht at this; omega
        omega
      · rw [ht_at hok _ hl, unW_out (by simp [hm, hr])]
        have : rankP (rkF (unW D) xss) l ≤ rankP (rkF (unW (D ++ rowD xss n D)) xss) l + 1 := by
          refine rankP_le (by have := rankP_nn (rkF (unW (D ++ rowD xss n D)) xss) l; omega) fun p hp => ?_
          have hpk := okB_at hok hl p hp
          have := ih p.toNat (by omega) (by omega)
          have h3 := rankP_ge (rs := rkF (unW (D ++ rowD xss n D)) xss) hp
          unfold ht at this; omega
        omega
theorem ht_less (hf : (rowD xss n D).length < n) : ∀ k, k < xss.length → (k : Int) ∉ D → ht xss (D ++ rowD xss n D) k + 1 ≤ ht xss D k := by
  intro k
  induction k using Nat.strongRecOn with
  | ind k ih =>
    intro hk hm
    obtain ⟨l, hl⟩ := at_lt hk
    have h1 := ht_out hok hk hm
    by_cases hr : readyD xss D k = true
    · have := rowD_all hf hk hr
      rw [ht_in hok (closed_row hD n) k hk (List.mem_append.2 (.inr this))]
      omega
    · have hex : ∃ p ∈ l, p ∉ D := by
        apply Classical.byContradiction
        intro h
        exact hr ((ready_at hl).2 ⟨hm, fun p hp => Classical.byContradiction fun hc => h ⟨p, hp, hc⟩⟩)
      obtain ⟨p0, hp0, hc0⟩ := hex
      have hout : (k : Int) ∉ D ++ rowD xss n D := by
        intro h
        rcases List.mem_append.1 h with h | h
        · exact hm h
        · obtain ⟨i, e, _, hrd⟩ := rowD_mem h
          have : k = i := by omega
          subst this
          exact hr hrd
      rw [ht_at hok _ hl, ht_at hok D hl, unW_out hm, unW_out hout]
      have hM : 1 ≤ rankP (rkF (unW D) xss) l := by
        have hpk := okB_at hok hl p0 hp0
        obtain ⟨q, rfl⟩ : ∃ q : Nat, p0 = q := ⟨p0.toNat, by omega⟩
        have h2 := ht_out hok (k := q) (by omega) hc0
        have h3 := rankP_ge (rs := rkF (unW D) xss) hp0
        rw [Int.toNat_natCast] at h3
        unfold ht at h2; omega
      have : rankP (rkF (unW (D ++ rowD xss n D)) xss) l ≤ rankP (rkF (unW D) xss) l - 1 := by
        refine rankP_le (by omega) fun p hp => ?_
        have hpk := okB_at hok hl p hp
        obtain ⟨q, rfl⟩ : ∃ q : Nat, p = q := ⟨p.toNat, by omega⟩
        rw [Int.toNat_natCast]
        by_cases hq : (q : Int) ∈ D
        · have := ht_in hok (closed_row hD n) q (by omega) (List.mem_append.2 (.inl hq))
          unfold ht at this; omega
        · have h2 := ih q (by omega) (by omega) hq
          have h3 := rankP_ge (rs := rkF (unW D) xss) hp
          rw [Int.toNat_natCast] at h3
          unfold ht at h2; omega
      omega
end

theorem nodup_len : ∀ (N : Nat) (D : List Int), D.Nodup → (∀ x ∈ D, 0 ≤ x ∧ x < (N : Int)) → D.length ≤ N := by
  intro N
  induction N with
  | zero =>
    intro D _ h
    cases D with
    | nil => simp
    | cons x D => have := h x (by simp); omega
  | succ N ih =>
    intro D hd h
    by_cases hm : (N : Int) ∈ D
    · have h1 := ih (D.erase (N : Int)) (hd.erase _) fun x hx => by
        have hx2 := (hd.mem_erase_iff).1 hx
        have := h x hx2.2
        have hne := hx2.1
        omega
      rw [List.length_erase_of_mem hm] at h1
      omega
    · have := ih D hd fun x hx => by
        have h1 := h x hx
        have : x ≠ (N : Int) := fun e => hm (e ▸ hx)
        omega
      omega
theorem full_in {N : Nat} {D : List Int} (hd : D.Nodup) (h : inDom N D) (hl : N ≤ D.length) : ∀ k : Nat, k < N → (k : Int) ∈ D := by
  intro k hk
  apply Classical.byContradiction
  intro hm
  have := nodup_len N ((k : Int) :: D) (List.nodup_cons.2 ⟨hm, hd⟩) fun x hx => by
    rcases List.mem_cons.1 hx with rfl | hx
    · omega
    · exact h x hx
  simp at this
  omega
theorem rowD_nodup (xss : List (List Int)) (n : Nat) (D : List Int) : (rowD xss n D).Nodup := by
  unfold rowD rowK
  have h1 : ((List.range xss.length).filter (readyD xss D)).Nodup := List.Pairwise.filter _ List.nodup_range
  have h2 := List.Nodup.sublist (List.take_sublist n _) h1
  exact List.Pairwise.map _ (fun a b hab e => hab (by omega)) h2
theorem rowD_new {xss : List (List Int)} {n : Nat} {D : List Int} {x : Int} (h : x ∈ rowD xss n D) : x ∉ D := by
  obtain ⟨i, rfl, hi, hr⟩ := rowD_mem h
  unfold readyD at hr
  simp only [Bool.and_eq_true, Bool.not_eq_true', List.contains_eq_mem, decide_eq_false_iff_not] at hr
  exact hr.1
theorem app_nodup {xss : List (List Int)} {n : Nat} {D : List Int} (hd : D.Nodup) : (D ++ rowD xss n D).Nodup := by
  rw [List.nodup_append]
  exact ⟨hd, rowD_nodup _ _ _, fun a ha b hb e => rowD_new hb (e ▸ ha)⟩
theorem app_dom {xss : List (List Int)} {n : Nat} {D : List Int} (hd : inDom xss.length D) : inDom xss.length (D ++ rowD xss n D) := by
  intro x hx
  rcases List.mem_append.1 hx with h | h
  · exact hd x h
  · obtain ⟨i, rfl, hi, _⟩ := rowD_mem h; omega

/-- How many rows there are: so many that are full, and so many that are not. -/
def Rows3 (xss : List (List Int)) (n : Nat) (D : List Int) (P : List (List Int)) : Prop :=
  (∃ a b : Nat, P.length = a + b ∧ (a : Int) ≤ htM xss D ∧ b * n + a + D.length ≤ xss.length) ∧ htM xss D ≤ P.length ∧ xss.length ≤ D.length + P.length * n ∧ (D ++ P.flatten).Nodup ∧ inDom xss.length (D ++ P.flatten) ∧ xss.length ≤ (D ++ P.flatten).length
theorem rows_end {xss : List (List Int)} (hok : okB 0 xss = true) {n : Nat} {D : List Int} (hd : D.Nodup) (hi : inDom xss.length D) (hc : Closed xss D) (hl : xss.length ≤ D.length) : Rows3 xss n D [] := by
  have h1 := nodup_len _ _ hd hi
  have h2 : htM xss D ≤ 0 := htM_le (by omega) fun k hk => by rw [ht_in hok hc k hk (full_in hd hi hl k hk)]; omega
  have h3 := htM_nn xss D
  exact ⟨⟨0, 0, rfl, by simpa using h3, by omega⟩, by simpa using h2, by simpa using hl, by simpa using hd, by simpa using hi, by simpa using hl⟩
theorem rows_facts {xss : List (List Int)} (hok : okB 0 xss = true) {n : Nat} (hn : 1 ≤ n) : ∀ (f : Nat) (D : List Int), D.Nodup → inDom xss.length D → Closed xss D → xss.length ≤ f + D.length → Rows3 xss n D (planD xss n f D) := by
  intro f
  induction f with
  | zero => intro D hd hi hc hl; exact rows_end hok hd hi hc (by omega)
  | succ f ih =>
    intro D hd hi hc hl
    by_cases hlt : D.length < xss.length
    · have hpos := rowD_pos hok hn hlt
      have hlen := (rowK_len xss n D xss.length).1
      have hlen' : (rowD xss n D).length ≤ n := hlen
      have e : planD xss n (f + 1) D = rowD xss n D :: planD xss n f (D ++ rowD xss n D) := by simp only [planD]; rw [if_pos hlt]
      have e2 : (D ++ rowD xss n D).length = D.length + (rowD xss n D).length := List.length_append
      obtain ⟨⟨a, b, k1, k2, k3⟩, k4, k5, k6, k7, k8⟩ := ih (D ++ rowD xss n D) (app_nodup hd) (app_dom hi) (closed_row hc n) (by rw [e2]; omega)
      rw [e]
      have hup : htM xss D ≤ htM xss (D ++ rowD xss n D) + 1 := by
        refine htM_le (by have := htM_nn xss (D ++ rowD xss n D); omega) fun k hk => ?_
        have h1 := ht_up hok hc n k hk
        have h2 := htM_ge (D := D ++ rowD xss n D) hk
        omega
      have hdn : htM xss (D ++ rowD xss n D) ≤ htM xss D := by
        refine htM_le (htM_nn _ _) fun k hk => ?_
        have h1 := ht_down hok n (D := D) k hk
        have h2 := htM_ge (D := D) hk
        omega
      have hone : 1 ≤ htM xss D := by
        have : ∃ k : Nat, k < xss.length ∧ (k : Int) ∉ D := by
          apply Classical.byContradiction
          intro h
          have := all_in xss.length D fun i hi => Classical.byContradiction fun hm => h ⟨i, hi, hm⟩
          omega
        obtain ⟨k, hk, hm⟩ := this
        have h1 := ht_out hok hk hm
        have h2 := htM_ge (D := D) hk
        omega
      have hfl : D ++ (rowD xss n D :: planD xss n f (D ++ rowD xss n D)).flatten = (D ++ rowD xss n D) ++ (planD xss n f (D ++ rowD xss n D)).flatten := by simp
      rw [e2] at k3 k5
      refine ⟨?_, by rw [List.length_cons]; omega, by rw [List.length_cons, Nat.succ_mul]; omega, by rw [hfl]; exact k6, by rw [hfl]; exact k7, by rw [hfl]; exact k8⟩
      by_cases hfull : (rowD xss n D).length < n
      · refine ⟨a + 1, b, by rw [List.length_cons]; omega, ?_, by omega⟩
        have : htM xss (D ++ rowD xss n D) + 1 ≤ htM xss D := by
          have h0 : htM xss (D ++ rowD xss n D) ≤ htM xss D - 1 := by
            refine htM_le (by omega) fun k hk => ?_
            by_cases hm : (k : Int) ∈ D
            · rw [ht_in hok (closed_row hc n) k hk (List.mem_append.2 (.inl hm))]; omega
            · have h1 := ht_less hok hc n hfull k hk hm
              have h2 := htM_ge (D := D) hk
              omega
          omega
        omega
      · exact ⟨a, b + 1, by rw [List.length_cons]; omega, by omega, by rw [Nat.succ_mul]; omega⟩
    · have e : planD xss n (f + 1) D = [] := planD_stop hlt
      rw [e]
      exact rows_end hok hd hi hc (by omega)
/-- The bound. -/
theorem graham {a b w N : Nat} {L : Int} (hw : 1 ≤ w) (h1 : (a : Int) ≤ L) (h2 : b * w + a ≤ N) : ((a + b : Nat) : Int) ≤ L + ((N : Int) - L + w - 1) / w := by
  have key : (b : Int) - (L - a) ≤ ((N : Int) - L + w - 1) / w := by
    refine Int.le_ediv_of_mul_le (by omega) ?_
    rw [Int.sub_mul]
    have h3 : (b : Int) * w + a ≤ N := by exact_mod_cast h2
    have h4 : (L - a) * 1 ≤ (L - a) * (w : Int) := Int.mul_le_mul_of_nonneg_left (by omega) (by omega)
    omega
  omega
theorem row_ceil {m w N : Nat} (hw : 1 ≤ w) (h : N ≤ m * w) : ((N : Int) + w - 1) / w ≤ m := by
  have h3 : (N : Int) ≤ m * w := by exact_mod_cast h
  have : ((N : Int) + w - 1) / w < m + 1 := by
    refine Int.ediv_lt_of_lt_mul (by omega) ?_
    rw [Int.add_mul]; omega
  omega

theorem planD_at {xss : List (List Int)} {n : Nat} : ∀ {f : Nat} {D : List Int} {i : Nat} {r : List Int}, (planD xss n f D)[i]? = some r → r = rowD xss n (D ++ ((planD xss n f D).take i).flatten) ∧ (D ++ ((planD xss n f D).take i).flatten).length < xss.length := by
  intro f
  induction f with
  | zero => intro D i r h; simp [planD] at h
  | succ f ih =>
    intro D i r h
    by_cases hlt : D.length < xss.length
    · have e : planD xss n (f + 1) D = rowD xss n D :: planD xss n f (D ++ rowD xss n D) := by simp only [planD]; rw [if_pos hlt]
      rw [e] at h ⊢
      cases i with
      | zero => simp at h; subst h; simp [hlt]
      | succ i =>
        have := ih (D := D ++ rowD xss n D) (i := i) (r := r) (by simpa using h)
        simpa using this
    · rw [planD_stop hlt] at h; simp at h

/-- A loop whose body leaves it by its own exit only. -/
theorem wpa_blx {P : Program} {id : Nat} {c : SCode} {K K0 : AEnv → St → Prop} {X : Nat → AEnv → St → Prop} {R : AEnv → St → Prop} {ε : AEnv} {σ : St} {α : Type} (I : α → AEnv → St → Prop) (μ : α → Nat) (Q : AEnv → St → Prop) (x : α) (h0 : I x ε σ)
    (hr : ∀ x ε σ (N E : AEnv → St → Prop) (X' : Nat → AEnv → St → Prop) (R' : AEnv → St → Prop), I x ε σ → (∀ x' ε' σ', I x' ε' σ' → μ x' < μ x → act (N ε' σ')) → (∀ ε' σ', Q ε' σ' → act (E ε' σ')) → act (wpA P c N (fun j ε σ => if j = id then E ε σ else X' j ε σ) R' ε σ))
    (hK : ∀ ε σ, Q ε σ → act (K ε σ)) : act (wpA P (.loop c) K0 (fun j ε σ => if j = id then K ε σ else X j ε σ) R ε σ) :=
  wpa_bl I μ Q x h0 (fun x ε σ N E hI h1 h2 => hr x ε σ N E X R hI h1 h2) hK

set_option maxHeartbeats 4000000 in
theorem SpanGreedy_a (xss : List (List Int)) (wk : Int) (hwk : 0 ≤ wk ∧ wk < 256) (hs : xss.length ≤ 9223372036854775807) :
    FnP Try.prog 14 [aInts2 xss, .v (.int .u8 wk)] fun a => a = aBool true := by
  refine fnP_in K_forebaylaw41_SpanGreedy mixed rfl (by simp [AV.pureL, AV.pure, aInts2_pure]) ?_
  simp only [S_forebaylaw41_SpanGreedy]
  simp (maxSteps := 1000000) (implicitDefEqProofs := false) (disch := omega) only [push_cast, ↓reduceIte, Nat.reduceEqDiff, reduceCtorEq, decide_true, decide_false, Bool.not_true, Bool.not_false, Option.isNone_some, Option.isNone_none, List.drop_zero, List.drop_succ_cons, List.getElem?_cons_zero, List.getElem?_cons_succ, List.length_cons, List.length_nil, List.take_succ_cons, List.take_zero, Nat.mul_one, Nat.zero_add, Nat.add_zero, Nat.one_mul, Nat.zero_mul, List.getElem?_map, List.getElem?_drop, List.getElem?_take, List.length_map, Option.map_some, List.set_cons_zero, List.set_cons_succ, and_true, true_and, List.flatMap_cons, List.flatMap_nil, Bool.not_not]
  refine wpa_call law41_works_a ?_
  rintro a rfl
  simp (maxSteps := 1000000) (implicitDefEqProofs := false) (disch := omega) only [push_cast, ↓reduceIte, Nat.reduceEqDiff, reduceCtorEq, decide_true, decide_false, Bool.not_true, Bool.not_false, Option.isNone_some, Option.isNone_none, List.drop_zero, List.drop_succ_cons, List.getElem?_cons_zero, List.getElem?_cons_succ, List.length_cons, List.length_nil, List.take_succ_cons, List.take_zero, Nat.mul_one, Nat.zero_add, Nat.add_zero, Nat.one_mul, Nat.zero_mul, List.getElem?_map, List.getElem?_drop, List.getElem?_take, List.length_map, Option.map_some, List.set_cons_zero, List.set_cons_succ, and_true, true_and, List.flatMap_cons, List.flatMap_nil, Bool.not_not, aBool]
  refine wpa_callw [] [false, true] (law41_great_a xss [] (by omega) (by simp)) (by simp [weak, Go.Kx.freeze, AV.res, AV.resL, aAccs, aSlN]) ?_
  rintro a rfl
  cases hg : greatB xss [] with
  | true =>
    simp (maxSteps := 1000000) (implicitDefEqProofs := false) (disch := omega) only [push_cast, ↓reduceIte, Nat.reduceEqDiff, reduceCtorEq, decide_true, decide_false, Bool.not_true, Bool.not_false, Option.isNone_some, Option.isNone_none, List.drop_zero, List.drop_succ_cons, List.getElem?_cons_zero, List.getElem?_cons_succ, List.length_cons, List.length_nil, List.take_succ_cons, List.take_zero, Nat.mul_one, Nat.zero_add, Nat.add_zero, Nat.one_mul, Nat.zero_mul, List.getElem?_map, List.getElem?_drop, List.getElem?_take, List.length_map, Option.map_some, List.set_cons_zero, List.set_cons_succ, and_true, true_and, List.flatMap_cons, List.flatMap_nil, Bool.not_not, aBool]
    exact ⟨[], rfl⟩
  | false =>
    obtain ⟨hg1, hg2, _⟩ := greatB_false hg
    have hs' : xss.length ≤ 1000000 := by omega
    have hs2 : ∀ l ∈ xss, l.length ≤ 1000000 := fun l hl => by have := hg2 l hl; omega
    simp (maxSteps := 1000000) (implicitDefEqProofs := false) (disch := omega) only [push_cast, ↓reduceIte, Nat.reduceEqDiff, reduceCtorEq, decide_true, decide_false, Bool.not_true, Bool.not_false, Option.isNone_some, Option.isNone_none, List.drop_zero, List.drop_succ_cons, List.getElem?_cons_zero, List.getElem?_cons_succ, List.length_cons, List.length_nil, List.take_succ_cons, List.take_zero, Nat.mul_one, Nat.zero_add, Nat.add_zero, Nat.one_mul, Nat.zero_mul, List.getElem?_map, List.getElem?_drop, List.getElem?_take, List.length_map, Option.map_some, List.set_cons_zero, List.set_cons_succ, and_true, true_and, List.flatMap_cons, List.flatMap_nil, Bool.not_not, aBool]
    refine wpa_call (ref31_Check_a xss hs' hs2) ?_
    rintro a rfl
    by_cases hc : chk xss = 0
    · obtain ⟨hk, hok⟩ := chk_zero hc
      simp (maxSteps := 1000000) (implicitDefEqProofs := false) (disch := omega) only [push_cast, ↓reduceIte, Nat.reduceEqDiff, reduceCtorEq, decide_true, decide_false, Bool.not_true, Bool.not_false, Option.isNone_some, Option.isNone_none, List.drop_zero, List.drop_succ_cons, List.getElem?_cons_zero, List.getElem?_cons_succ, List.length_cons, List.length_nil, List.take_succ_cons, List.take_zero, Nat.mul_one, Nat.zero_add, Nat.add_zero, Nat.one_mul, Nat.zero_mul, List.getElem?_map, List.getElem?_drop, List.getElem?_take, List.length_map, Option.map_some, List.set_cons_zero, List.set_cons_succ, and_true, true_and, List.flatMap_cons, List.flatMap_nil, Bool.not_not, aInt, hc]
      obtain ⟨w, hw⟩ : ∃ w : Nat, wk % 64 + 1 = w := ⟨(wk % 64 + 1).toNat, by omega⟩
      have hwb : 1 ≤ w ∧ w ≤ 64 := by omega
      have hwN : wN (w : Int) = w := by unfold wN; omega
      rw [hw]
      refine wpa_call (law41_own_a xss hs' hs2) ?_
      rintro a rfl
      simp (maxSteps := 1000000) (implicitDefEqProofs := false) (disch := omega) only [push_cast, ↓reduceIte, Nat.reduceEqDiff, reduceCtorEq, decide_true, decide_false, Bool.not_true, Bool.not_false, Option.isNone_some, Option.isNone_none, List.drop_zero, List.drop_succ_cons, List.getElem?_cons_zero, List.getElem?_cons_succ, List.length_cons, List.length_nil, List.take_succ_cons, List.take_zero, Nat.mul_one, Nat.zero_add, Nat.add_zero, Nat.one_mul, Nat.zero_mul, List.getElem?_map, List.getElem?_drop, List.getElem?_take, List.length_map, Option.map_some, List.set_cons_zero, List.set_cons_succ, and_true, true_and, List.flatMap_cons, List.flatMap_nil, Bool.not_not]
      refine wpa_call (span_Plan_a xss w hs' hs2) ?_
      rintro a rfl
      simp (maxSteps := 1000000) (implicitDefEqProofs := false) (disch := omega) only [push_cast, ↓reduceIte, Nat.reduceEqDiff, reduceCtorEq, decide_true, decide_false, Bool.not_true, Bool.not_false, Option.isNone_some, Option.isNone_none, List.drop_zero, List.drop_succ_cons, List.getElem?_cons_zero, List.getElem?_cons_succ, List.length_cons, List.length_nil, List.take_succ_cons, List.take_zero, Nat.mul_one, Nat.zero_add, Nat.add_zero, Nat.one_mul, Nat.zero_mul, List.getElem?_map, List.getElem?_drop, List.getElem?_take, List.length_map, Option.map_some, List.set_cons_zero, List.set_cons_succ, and_true, true_and, List.flatMap_cons, List.flatMap_nil, Bool.not_not]
      refine wpa_call (law41_own_a xss hs' hs2) ?_
      rintro a rfl
      have hf : fillA [AV.sl 0 [] Tok.nil, AV.sl 0 [] Tok.nil, AV.sl 0 [] Tok.nil] [(0, 1)] [AV.sl xss.length (xss.map aInts) .none] = some [AV.sl xss.length (xss.map aInts) .none, AV.sl 0 [] Tok.nil, AV.sl 0 [] Tok.nil] := by simp [fillA, AV.cells, setAtA]
      simp (maxSteps := 1000000) (implicitDefEqProofs := false) (disch := omega) only [push_cast, ↓reduceIte, Nat.reduceEqDiff, reduceCtorEq, decide_true, decide_false, Bool.not_true, Bool.not_false, Option.isNone_some, Option.isNone_none, List.drop_zero, List.drop_succ_cons, List.getElem?_cons_zero, List.getElem?_cons_succ, List.length_cons, List.length_nil, List.take_succ_cons, List.take_zero, Nat.mul_one, Nat.zero_add, Nat.add_zero, Nat.one_mul, Nat.zero_mul, List.getElem?_map, List.getElem?_drop, List.getElem?_take, List.length_map, Option.map_some, List.set_cons_zero, List.set_cons_succ, and_true, true_and, List.flatMap_cons, List.flatMap_nil, Bool.not_not, aInts2, aSl, hf]
      refine wpa_callw [] [true] (span_Span_a xss [] hs' hs2 (by simp)) (wkDag _ xss [] .none .nil) ?_
      rintro a rfl
      have hwc : wchk xss [] = 0 := by unfold wchk; rw [if_pos hc]; rfl
      have hL : spanE xss [] = htM xss [] := by
        unfold spanE htM
        rw [if_pos hwc]
        congr 1
        refine rkF_congr fun k hk => ?_
        rw [unW_out (by simp), wF, List.getD_eq_getElem?_getD, wtL_get hk]
        rfl
      have hP : planE xss w = planD xss w xss.length [] := by unfold planE; rw [if_pos hc, hwN]
      obtain ⟨⟨a, b, k1, k2, k3⟩, k4, k5, k6, k7, k8⟩ := rows_facts hok hwb.1 xss.length [] List.nodup_nil (fun x hx => by cases hx) (fun k l _ hm => by cases hm) (by simp)
      have hat := @planD_at xss w xss.length []
      have hPl := planD_len (xss := xss) (n := w) (f := xss.length) (D := [])
      have hPr := planD_row (xss := xss) (n := w) (f := xss.length) (D := [])
      simp only [List.nil_append] at hat k6 k7 k8
      generalize planD xss w xss.length [] = pl at hP k1 k4 k5 k6 k7 k8 hat hPl hPr
      have hLn := htM_nn xss []
      have hLN : htM xss [] ≤ pl.length := k4
      generalize htM xss [] = L at hL k2 k4 hLn hLN
      have g1 := graham (w := w) (N := xss.length) hwb.1 k2 (by simpa using k3)
      rw [← k1] at g1
      have g2 := row_ceil hwb.1 (by simpa using k5)
      have hLx : L ≤ xss.length := by omega
      have g3 : 0 ≤ ((xss.length : Int) + w - 1) / w := Int.ediv_nonneg (by omega) (by omega)
      have g4 : 0 ≤ ((xss.length : Int) - L + w - 1) / w := Int.ediv_nonneg (by omega) (by omega)
      have g5 : ((xss.length : Int) - L + w - 1) / w ≤ (xss.length : Int) - L + w - 1 := Int.ediv_le_self _ (by omega)
      simp (maxSteps := 1000000) (implicitDefEqProofs := false) (disch := omega) only [push_cast, ↓reduceIte, Nat.reduceEqDiff, reduceCtorEq, decide_true, decide_false, Bool.not_true, Bool.not_false, Option.isNone_some, Option.isNone_none, List.drop_zero, List.drop_succ_cons, List.getElem?_cons_zero, List.getElem?_cons_succ, List.length_cons, List.length_nil, List.take_succ_cons, List.take_zero, Nat.mul_one, Nat.zero_add, Nat.add_zero, Nat.one_mul, Nat.zero_mul, List.getElem?_map, List.getElem?_drop, List.getElem?_take, List.length_map, Option.map_some, List.set_cons_zero, List.set_cons_succ, and_true, true_and, List.flatMap_cons, List.flatMap_nil, Bool.not_not, aInt, hc, hwc, hL, hP, aInts2, aSl]
      refine wpa_mks rfl (by omega) (by omega) ?_
      simp (maxSteps := 1000000) (implicitDefEqProofs := false) (disch := omega) only [push_cast, ↓reduceIte, Nat.reduceEqDiff, reduceCtorEq, decide_true, decide_false, Bool.not_true, Bool.not_false, Option.isNone_some, Option.isNone_none, List.drop_zero, List.drop_succ_cons, List.getElem?_cons_zero, List.getElem?_cons_succ, List.length_cons, List.length_nil, List.take_succ_cons, List.take_zero, Nat.mul_one, Nat.zero_add, Nat.add_zero, Nat.one_mul, Nat.zero_mul, List.getElem?_map, List.getElem?_drop, List.getElem?_take, List.length_map, Option.map_some, List.set_cons_zero, List.set_cons_succ, and_true, true_and, List.flatMap_cons, List.flatMap_nil, Bool.not_not, repA_one]
      refine wpa_blx (α := Nat) (I := fun i ε σ => (ε 0 = .sl xss.length (xss.map aInts) .none ∧ ε 5 = .v (.int .i64 w) ∧ ε 6 = .sl pl.length (pl.map aInts) .none ∧ ε 11 = .v (.int .i64 xss.length) ∧ ε 12 = .ms 0 0 0 xss.length 1 ∧ ε 13 = .v (.int .i64 i)) ∧ i ≤ pl.length ∧
          ∃ rs, rsOk xss.length (pl.take i).flatten i rs ∧ σ = [.obj 0 (rs.map aInt)])
        (μ := fun i => pl.length - i) (Q := fun ε σ => (ε 11 = .v (.int .i64 xss.length) ∧ ε 12 = .ms 0 0 0 xss.length 1) ∧ ∃ rs, rsOk xss.length pl.flatten pl.length rs ∧ σ = [.obj 0 (rs.map aInt)]) (x := 0) ?_ ?_ ?_
      · simp (maxSteps := 1000000) (implicitDefEqProofs := false) (disch := omega) only [push_cast, ↓reduceIte, Nat.reduceEqDiff, reduceCtorEq, decide_true, decide_false, Bool.not_true, Bool.not_false, Option.isNone_some, Option.isNone_none, List.drop_zero, List.drop_succ_cons, List.getElem?_cons_zero, List.getElem?_cons_succ, List.length_cons, List.length_nil, List.take_succ_cons, List.take_zero, Nat.mul_one, Nat.zero_add, Nat.add_zero, Nat.one_mul, Nat.zero_mul, List.getElem?_map, List.getElem?_drop, List.getElem?_take, List.length_map, Option.map_some, List.set_cons_zero, List.set_cons_succ, and_true, true_and, List.flatMap_cons, List.flatMap_nil, Bool.not_not]
        refine ⟨by omega, List.replicate xss.length 0, ⟨by simp, fun i hi => ⟨0, by simp [hi], by omega, by simp, by simp⟩⟩, by simp [aInt]⟩
      · rintro i ε σ N E X0 R0 ⟨hρ, hi, rs, hrs, rfl⟩ hN hE
        simp only [S_forebaylaw41_SpanGreedy_L1]
        by_cases hlt : i < pl.length
        · obtain ⟨r, hr⟩ := at_lt hlt
          obtain ⟨hrD, hDl⟩ := hat hr
          have hfl : (pl.take (i + 1)).flatten = (pl.take i).flatten ++ r := by rw [take_succ_at hr]; simp
          have hrp := rowD_pos hok hwb.1 hDl
          have hrw := (rowK_len xss w (pl.take i).flatten xss.length).1
          have hrw' : (rowD xss w (pl.take i).flatten).length ≤ w := hrw
          have hrl := hPr r (List.mem_of_getElem? hr)
          have hnd := rowD_nodup xss w (pl.take i).flatten
          have hmem := @rowD_mem xss w (pl.take i).flatten
          have hnew := @rowD_new xss w (pl.take i).flatten
          rw [← hrD] at hrp hrw' hnd hmem hnew
          generalize (pl.take i).flatten = D at hrs hfl hrD hmem hnew
          simp (maxSteps := 1000000) (implicitDefEqProofs := false) (disch := omega) only [push_cast, ↓reduceIte, Nat.reduceEqDiff, reduceCtorEq, decide_true, decide_false, Bool.not_true, Bool.not_false, Option.isNone_some, Option.isNone_none, List.drop_zero, List.drop_succ_cons, List.getElem?_cons_zero, List.getElem?_cons_succ, List.length_cons, List.length_nil, List.take_succ_cons, List.take_zero, Nat.mul_one, Nat.zero_add, Nat.add_zero, Nat.one_mul, Nat.zero_mul, List.getElem?_map, List.getElem?_drop, List.getElem?_take, List.length_map, Option.map_some, List.set_cons_zero, List.set_cons_succ, and_true, true_and, List.flatMap_cons, List.flatMap_nil, Bool.not_not, hρ, hr, aInts, aSl]
          refine wpa_blx (α := Nat) (I := fun j ε σ => (ε 0 = .sl xss.length (xss.map aInts) .none ∧ ε 5 = .v (.int .i64 w) ∧ ε 6 = .sl pl.length (pl.map aInts) .none ∧ ε 11 = .v (.int .i64 xss.length) ∧ ε 12 = .ms 0 0 0 xss.length 1 ∧ ε 13 = .v (.int .i64 i) ∧ ε 14 = .v (.int .i64 j)) ∧ j ≤ r.length ∧
              ∃ rs, rsOk xss.length (D ++ r.take j) (i + 1) rs ∧ (∀ k : Nat, k < xss.length → (k : Int) ∈ D → ∃ z, rs[k]? = some z ∧ z ≤ i) ∧ σ = [.obj 0 (rs.map aInt)])
            (μ := fun j => r.length - j) (Q := fun ε σ => (ε 0 = .sl xss.length (xss.map aInts) .none ∧ ε 5 = .v (.int .i64 w) ∧ ε 6 = .sl pl.length (pl.map aInts) .none ∧ ε 11 = .v (.int .i64 xss.length) ∧ ε 12 = .ms 0 0 0 xss.length 1 ∧ ε 13 = .v (.int .i64 i)) ∧
              ∃ rs, rsOk xss.length (D ++ r) (i + 1) rs ∧ σ = [.obj 0 (rs.map aInt)]) (x := 0) ?_ ?_ ?_
          · simp (maxSteps := 1000000) (implicitDefEqProofs := false) (disch := omega) only [push_cast, ↓reduceIte, Nat.reduceEqDiff, reduceCtorEq, decide_true, decide_false, Bool.not_true, Bool.not_false, Option.isNone_some, Option.isNone_none, List.drop_zero, List.drop_succ_cons, List.getElem?_cons_zero, List.getElem?_cons_succ, List.length_cons, List.length_nil, List.take_succ_cons, List.take_zero, Nat.mul_one, Nat.zero_add, Nat.add_zero, Nat.one_mul, Nat.zero_mul, List.getElem?_map, List.getElem?_drop, List.getElem?_take, List.length_map, Option.map_some, List.set_cons_zero, List.set_cons_succ, and_true, true_and, List.flatMap_cons, List.flatMap_nil, Bool.not_not, hρ]
            refine ⟨by omega, rs, by simpa using rsOk_mono hrs (by omega), fun k hk _ => ?_, rfl⟩
            obtain ⟨z, h1, h2, h3, h4⟩ := hrs.2 k hk
            exact ⟨z, h1, h3⟩
          · rintro j ε σ N' E' X1 R1 ⟨hρ, hj, rs, hrs, hold, rfl⟩ hN' hE'
            simp only [S_forebaylaw41_SpanGreedy_L2]
            by_cases hjl : j < r.length
            · obtain ⟨x, hx⟩ := at_lt hjl
              have hxm := List.mem_of_getElem? hx
              obtain ⟨q, rfl, hq, hrq⟩ := hmem hxm
              obtain ⟨l, hl⟩ := at_lt hq
              have hll := hs2 l (List.mem_of_getElem? hl)
              have hrdy := (ready_at hl).1 hrq
              obtain ⟨y, hy, hy0, hy1, hyD⟩ := hrs.2 q hq
              have hnot : (q : Int) ∉ D ++ r.take j := by
                intro h
                rcases List.mem_append.1 h with h | h
                · exact hrdy.1 h
                · have h2 := take_succ_at hx
                  have h3 : (r.take (j + 1)).Nodup := List.Nodup.sublist (List.take_sublist _ _) hnd
                  rw [h2, List.nodup_append] at h3
                  exact h3.2.2 _ h _ (by simp) rfl
              have hyz : y = 0 := by
                have : ¬ 0 < y := fun h => hnot (by simpa using hyD.1 h)
                omega
              subst hyz
              simp (maxSteps := 1000000) (implicitDefEqProofs := false) (disch := omega) only [push_cast, ↓reduceIte, Nat.reduceEqDiff, reduceCtorEq, decide_true, decide_false, Bool.not_true, Bool.not_false, Option.isNone_some, Option.isNone_none, List.drop_zero, List.drop_succ_cons, List.getElem?_cons_zero, List.getElem?_cons_succ, List.length_cons, List.length_nil, List.take_succ_cons, List.take_zero, Nat.mul_one, Nat.zero_add, Nat.add_zero, Nat.one_mul, Nat.zero_mul, List.getElem?_map, List.getElem?_drop, List.getElem?_take, List.length_map, Option.map_some, List.set_cons_zero, List.set_cons_succ, and_true, true_and, List.flatMap_cons, List.flatMap_nil, Bool.not_not, hρ, hr, hx, hy, hl, aInts, aSl, aInt]
              refine wpa_blx (α := Nat) (I := fun t ε σ => (ε 0 = .sl xss.length (xss.map aInts) .none ∧ ε 5 = .v (.int .i64 w) ∧ ε 6 = .sl pl.length (pl.map aInts) .none ∧ ε 11 = .v (.int .i64 xss.length) ∧ ε 12 = .ms 0 0 0 xss.length 1 ∧ ε 13 = .v (.int .i64 i) ∧ ε 14 = .v (.int .i64 j) ∧ ε 15 = .v (.int .i64 q) ∧ ε 16 = .v (.int .i64 t)) ∧ t ≤ l.length ∧ σ = [.obj 0 (rs.map aInt)])
                (μ := fun t => l.length - t) (Q := fun ε σ => (ε 0 = .sl xss.length (xss.map aInts) .none ∧ ε 5 = .v (.int .i64 w) ∧ ε 6 = .sl pl.length (pl.map aInts) .none ∧ ε 11 = .v (.int .i64 xss.length) ∧ ε 12 = .ms 0 0 0 xss.length 1 ∧ ε 13 = .v (.int .i64 i) ∧ ε 14 = .v (.int .i64 j) ∧ ε 15 = .v (.int .i64 q)) ∧ σ = [.obj 0 (rs.map aInt)]) (x := 0) ?_ ?_ ?_
              · simp (maxSteps := 1000000) (implicitDefEqProofs := false) (disch := omega) only [push_cast, ↓reduceIte, Nat.reduceEqDiff, reduceCtorEq, decide_true, decide_false, Bool.not_true, Bool.not_false, Option.isNone_some, Option.isNone_none, List.drop_zero, List.drop_succ_cons, List.getElem?_cons_zero, List.getElem?_cons_succ, List.length_cons, List.length_nil, List.take_succ_cons, List.take_zero, Nat.mul_one, Nat.zero_add, Nat.add_zero, Nat.one_mul, Nat.zero_mul, List.getElem?_map, List.getElem?_drop, List.getElem?_take, List.length_map, Option.map_some, List.set_cons_zero, List.set_cons_succ, and_true, true_and, List.flatMap_cons, List.flatMap_nil, Bool.not_not, hρ]
                omega
              · rintro t ε σ N'' E'' X2 R2 ⟨hρ, ht, rfl⟩ hN'' hE''
                simp only [S_forebaylaw41_SpanGreedy_L3]
                by_cases htl : t < l.length
                · obtain ⟨p, hp⟩ := at_lt htl
                  have hpm := List.mem_of_getElem? hp
                  have hpk := okB_at hok hl p hpm
                  have hpD := hrdy.2 p hpm
                  obtain ⟨u, rfl⟩ : ∃ u : Nat, p = u := ⟨p.toNat, by omega⟩
                  obtain ⟨z, hz, hz1⟩ := hold u (by omega) hpD
                  obtain ⟨z', hz', _, _, hzD⟩ := hrs.2 u (by omega)
                  rw [hz] at hz'
                  cases hz'
                  have hz0 : 0 < z := hzD.2 (by simp [hpD])
                  have hne0 : ¬ z = 0 := by omega
                  have hne1 : ¬ z = (i : Int) + 1 := by omega
                  clear hzD hat hPr hmem hnew hfl hrD hold hrs hN hE hN' hE' k5 k6 k7 k8 g1 g2 g3 g4 g5 hs2 hg2 hlt
                  simp (maxSteps := 1000000) (implicitDefEqProofs := false) (disch := omega) only [push_cast, ↓reduceIte, Nat.reduceEqDiff, reduceCtorEq, decide_true, decide_false, Bool.not_true, Bool.not_false, Option.isNone_some, Option.isNone_none, List.drop_zero, List.drop_succ_cons, List.getElem?_cons_zero, List.getElem?_cons_succ, List.length_cons, List.length_nil, List.take_succ_cons, List.take_zero, Nat.mul_one, Nat.zero_add, Nat.add_zero, Nat.one_mul, Nat.zero_mul, List.getElem?_map, List.getElem?_drop, List.getElem?_take, List.length_map, Option.map_some, List.set_cons_zero, List.set_cons_succ, and_true, true_and, List.flatMap_cons, List.flatMap_nil, Bool.not_not, hρ, hl, hp, hz, aInts, aSl, aInt, hne0, hne1]
                  refine hN'' (t + 1) _ _ ?_ (by omega)
                  simp (maxSteps := 1000000) (implicitDefEqProofs := false) (disch := omega) only [push_cast, ↓reduceIte, Nat.reduceEqDiff, reduceCtorEq, decide_true, decide_false, Bool.not_true, Bool.not_false, Option.isNone_some, Option.isNone_none, List.drop_zero, List.drop_succ_cons, List.getElem?_cons_zero, List.getElem?_cons_succ, List.length_cons, List.length_nil, List.take_succ_cons, List.take_zero, Nat.mul_one, Nat.zero_add, Nat.add_zero, Nat.one_mul, Nat.zero_mul, List.getElem?_map, List.getElem?_drop, List.getElem?_take, List.length_map, Option.map_some, List.set_cons_zero, List.set_cons_succ, and_true, true_and, List.flatMap_cons, List.flatMap_nil, Bool.not_not, hρ]
                  omega
                · simp (maxSteps := 1000000) (implicitDefEqProofs := false) (disch := omega) only [push_cast, ↓reduceIte, Nat.reduceEqDiff, reduceCtorEq, decide_true, decide_false, Bool.not_true, Bool.not_false, Option.isNone_some, Option.isNone_none, List.drop_zero, List.drop_succ_cons, List.getElem?_cons_zero, List.getElem?_cons_succ, List.length_cons, List.length_nil, List.take_succ_cons, List.take_zero, Nat.mul_one, Nat.zero_add, Nat.add_zero, Nat.one_mul, Nat.zero_mul, List.getElem?_map, List.getElem?_drop, List.getElem?_take, List.length_map, Option.map_some, List.set_cons_zero, List.set_cons_succ, and_true, true_and, List.flatMap_cons, List.flatMap_nil, Bool.not_not, hρ, hl, aInts, aSl]
                  refine hE'' _ _ ?_
                  simp (maxSteps := 1000000) (implicitDefEqProofs := false) (disch := omega) only [push_cast, ↓reduceIte, Nat.reduceEqDiff, reduceCtorEq, decide_true, decide_false, Bool.not_true, Bool.not_false, Option.isNone_some, Option.isNone_none, List.drop_zero, List.drop_succ_cons, List.getElem?_cons_zero, List.getElem?_cons_succ, List.length_cons, List.length_nil, List.take_succ_cons, List.take_zero, Nat.mul_one, Nat.zero_add, Nat.add_zero, Nat.one_mul, Nat.zero_mul, List.getElem?_map, List.getElem?_drop, List.getElem?_take, List.length_map, Option.map_some, List.set_cons_zero, List.set_cons_succ, and_true, true_and, List.flatMap_cons, List.flatMap_nil, Bool.not_not, hρ]
              · rintro ε σ ⟨hρ, rfl⟩
                simp (maxSteps := 1000000) (implicitDefEqProofs := false) (disch := omega) only [push_cast, ↓reduceIte, Nat.reduceEqDiff, reduceCtorEq, decide_true, decide_false, Bool.not_true, Bool.not_false, Option.isNone_some, Option.isNone_none, List.drop_zero, List.drop_succ_cons, List.getElem?_cons_zero, List.getElem?_cons_succ, List.length_cons, List.length_nil, List.take_succ_cons, List.take_zero, Nat.mul_one, Nat.zero_add, Nat.add_zero, Nat.one_mul, Nat.zero_mul, List.getElem?_map, List.getElem?_drop, List.getElem?_take, List.length_map, Option.map_some, List.set_cons_zero, List.set_cons_succ, and_true, true_and, List.flatMap_cons, List.flatMap_nil, Bool.not_not, hρ]
                refine wpa_st1 (cs := rs.map aInt) rfl rfl rfl (by simp [hrs.1, hq]) ?_
                simp (maxSteps := 1000000) (implicitDefEqProofs := false) (disch := omega) only [push_cast, ↓reduceIte, Nat.reduceEqDiff, reduceCtorEq, decide_true, decide_false, Bool.not_true, Bool.not_false, Option.isNone_some, Option.isNone_none, List.drop_zero, List.drop_succ_cons, List.getElem?_cons_zero, List.getElem?_cons_succ, List.length_cons, List.length_nil, List.take_succ_cons, List.take_zero, Nat.mul_one, Nat.zero_add, Nat.add_zero, Nat.one_mul, Nat.zero_mul, List.getElem?_map, List.getElem?_drop, List.getElem?_take, List.length_map, Option.map_some, List.set_cons_zero, List.set_cons_succ, and_true, true_and, List.flatMap_cons, List.flatMap_nil, Bool.not_not, hρ, setI]
                refine hN' (j + 1) _ _ ?_ (by omega)
                simp (maxSteps := 1000000) (implicitDefEqProofs := false) (disch := omega) only [push_cast, ↓reduceIte, Nat.reduceEqDiff, reduceCtorEq, decide_true, decide_false, Bool.not_true, Bool.not_false, Option.isNone_some, Option.isNone_none, List.drop_zero, List.drop_succ_cons, List.getElem?_cons_zero, List.getElem?_cons_succ, List.length_cons, List.length_nil, List.take_succ_cons, List.take_zero, Nat.mul_one, Nat.zero_add, Nat.add_zero, Nat.one_mul, Nat.zero_mul, List.getElem?_map, List.getElem?_drop, List.getElem?_take, List.length_map, Option.map_some, List.set_cons_zero, List.set_cons_succ, and_true, true_and, List.flatMap_cons, List.flatMap_nil, Bool.not_not, hρ]
                refine ⟨by omega, rs.set q (i + 1), ?_, fun k hk hkD => ?_, rfl⟩
                · rw [take_succ_at hx, ← List.append_assoc]
                  exact rsOk_set hrs hq (by omega)
                · obtain ⟨z, h1, h2⟩ := hold k hk hkD
                  have : q ≠ k := fun e => hrdy.1 (e ▸ hkD)
                  exact ⟨z, by rw [List.getElem?_set_ne this]; exact h1, h2⟩
            · simp (maxSteps := 1000000) (implicitDefEqProofs := false) (disch := omega) only [push_cast, ↓reduceIte, Nat.reduceEqDiff, reduceCtorEq, decide_true, decide_false, Bool.not_true, Bool.not_false, Option.isNone_some, Option.isNone_none, List.drop_zero, List.drop_succ_cons, List.getElem?_cons_zero, List.getElem?_cons_succ, List.length_cons, List.length_nil, List.take_succ_cons, List.take_zero, Nat.mul_one, Nat.zero_add, Nat.add_zero, Nat.one_mul, Nat.zero_mul, List.getElem?_map, List.getElem?_drop, List.getElem?_take, List.length_map, Option.map_some, List.set_cons_zero, List.set_cons_succ, and_true, true_and, List.flatMap_cons, List.flatMap_nil, Bool.not_not, hρ, hr, aInts, aSl]
              refine hE' _ _ ?_
              rw [List.take_of_length_le (by omega)] at hrs
              simp (maxSteps := 1000000) (implicitDefEqProofs := false) (disch := omega) only [push_cast, ↓reduceIte, Nat.reduceEqDiff, reduceCtorEq, decide_true, decide_false, Bool.not_true, Bool.not_false, Option.isNone_some, Option.isNone_none, List.drop_zero, List.drop_succ_cons, List.getElem?_cons_zero, List.getElem?_cons_succ, List.length_cons, List.length_nil, List.take_succ_cons, List.take_zero, Nat.mul_one, Nat.zero_add, Nat.add_zero, Nat.one_mul, Nat.zero_mul, List.getElem?_map, List.getElem?_drop, List.getElem?_take, List.length_map, Option.map_some, List.set_cons_zero, List.set_cons_succ, and_true, true_and, List.flatMap_cons, List.flatMap_nil, Bool.not_not, hρ]
              exact ⟨rs, hrs, rfl⟩
          · rintro ε σ ⟨hρ, rs, hrs, rfl⟩
            simp (maxSteps := 1000000) (implicitDefEqProofs := false) (disch := omega) only [push_cast, ↓reduceIte, Nat.reduceEqDiff, reduceCtorEq, decide_true, decide_false, Bool.not_true, Bool.not_false, Option.isNone_some, Option.isNone_none, List.drop_zero, List.drop_succ_cons, List.getElem?_cons_zero, List.getElem?_cons_succ, List.length_cons, List.length_nil, List.take_succ_cons, List.take_zero, Nat.mul_one, Nat.zero_add, Nat.add_zero, Nat.one_mul, Nat.zero_mul, List.getElem?_map, List.getElem?_drop, List.getElem?_take, List.length_map, Option.map_some, List.set_cons_zero, List.set_cons_succ, and_true, true_and, List.flatMap_cons, List.flatMap_nil, Bool.not_not, hρ]
            refine hN (i + 1) _ _ ?_ (by omega)
            simp (maxSteps := 1000000) (implicitDefEqProofs := false) (disch := omega) only [push_cast, ↓reduceIte, Nat.reduceEqDiff, reduceCtorEq, decide_true, decide_false, Bool.not_true, Bool.not_false, Option.isNone_some, Option.isNone_none, List.drop_zero, List.drop_succ_cons, List.getElem?_cons_zero, List.getElem?_cons_succ, List.length_cons, List.length_nil, List.take_succ_cons, List.take_zero, Nat.mul_one, Nat.zero_add, Nat.add_zero, Nat.one_mul, Nat.zero_mul, List.getElem?_map, List.getElem?_drop, List.getElem?_take, List.length_map, Option.map_some, List.set_cons_zero, List.set_cons_succ, and_true, true_and, List.flatMap_cons, List.flatMap_nil, Bool.not_not, hρ]
            exact ⟨by omega, rs, by rw [hfl]; exact_mod_cast hrs, rfl⟩
        · simp (maxSteps := 1000000) (implicitDefEqProofs := false) (disch := omega) only [push_cast, ↓reduceIte, Nat.reduceEqDiff, reduceCtorEq, decide_true, decide_false, Bool.not_true, Bool.not_false, Option.isNone_some, Option.isNone_none, List.drop_zero, List.drop_succ_cons, List.getElem?_cons_zero, List.getElem?_cons_succ, List.length_cons, List.length_nil, List.take_succ_cons, List.take_zero, Nat.mul_one, Nat.zero_add, Nat.add_zero, Nat.one_mul, Nat.zero_mul, List.getElem?_map, List.getElem?_drop, List.getElem?_take, List.length_map, Option.map_some, List.set_cons_zero, List.set_cons_succ, and_true, true_and, List.flatMap_cons, List.flatMap_nil, Bool.not_not, hρ]
          refine hE _ _ ?_
          have : i = pl.length := by omega
          subst this
          rw [List.take_length] at hrs
          simp (maxSteps := 1000000) (implicitDefEqProofs := false) (disch := omega) only [push_cast, ↓reduceIte, Nat.reduceEqDiff, reduceCtorEq, decide_true, decide_false, Bool.not_true, Bool.not_false, Option.isNone_some, Option.isNone_none, List.drop_zero, List.drop_succ_cons, List.getElem?_cons_zero, List.getElem?_cons_succ, List.length_cons, List.length_nil, List.take_succ_cons, List.take_zero, Nat.mul_one, Nat.zero_add, Nat.add_zero, Nat.one_mul, Nat.zero_mul, List.getElem?_map, List.getElem?_drop, List.getElem?_take, List.length_map, Option.map_some, List.set_cons_zero, List.set_cons_succ, and_true, true_and, List.flatMap_cons, List.flatMap_nil, Bool.not_not, hρ]
          exact ⟨rs, hrs, rfl⟩
      · rintro ε σ ⟨hρ, rs, hrs, rfl⟩
        have hfull := full_in k6 k7 k8
        simp (maxSteps := 1000000) (implicitDefEqProofs := false) (disch := omega) only [push_cast, ↓reduceIte, Nat.reduceEqDiff, reduceCtorEq, decide_true, decide_false, Bool.not_true, Bool.not_false, Option.isNone_some, Option.isNone_none, List.drop_zero, List.drop_succ_cons, List.getElem?_cons_zero, List.getElem?_cons_succ, List.length_cons, List.length_nil, List.take_succ_cons, List.take_zero, Nat.mul_one, Nat.zero_add, Nat.add_zero, Nat.one_mul, Nat.zero_mul, List.getElem?_map, List.getElem?_drop, List.getElem?_take, List.length_map, Option.map_some, List.set_cons_zero, List.set_cons_succ, and_true, true_and, List.flatMap_cons, List.flatMap_nil, Bool.not_not, hρ]
        refine wpa_blx (α := Nat) (I := fun k ε σ => (ε 11 = .v (.int .i64 xss.length) ∧ ε 12 = .ms 0 0 0 xss.length 1 ∧ ε 17 = .v (.int .i64 k) ∧ ε 18 = .v (.int .i64 k)) ∧ k ≤ xss.length ∧ σ = [.obj 0 (rs.map aInt)])
          (μ := fun k => xss.length - k) (Q := fun ε _ => ε 11 = .v (.int .i64 xss.length) ∧ ε 17 = .v (.int .i64 xss.length)) (x := 0) ?_ ?_ ?_
        · simp (maxSteps := 1000000) (implicitDefEqProofs := false) (disch := omega) only [push_cast, ↓reduceIte, Nat.reduceEqDiff, reduceCtorEq, decide_true, decide_false, Bool.not_true, Bool.not_false, Option.isNone_some, Option.isNone_none, List.drop_zero, List.drop_succ_cons, List.getElem?_cons_zero, List.getElem?_cons_succ, List.length_cons, List.length_nil, List.take_succ_cons, List.take_zero, Nat.mul_one, Nat.zero_add, Nat.add_zero, Nat.one_mul, Nat.zero_mul, List.getElem?_map, List.getElem?_drop, List.getElem?_take, List.length_map, Option.map_some, List.set_cons_zero, List.set_cons_succ, and_true, true_and, List.flatMap_cons, List.flatMap_nil, Bool.not_not, hρ]
          omega
        · rintro k ε σ N E X0 R0 ⟨hρ, hk, rfl⟩ hN hE
          simp only [S_forebaylaw41_SpanGreedy_L4]
          by_cases hlt : k < xss.length
          · obtain ⟨z, hz, _, _, hzD⟩ := hrs.2 k hlt
            have hz0 : 0 < z := hzD.2 (by simpa using hfull k hlt)
            simp (maxSteps := 1000000) (implicitDefEqProofs := false) (disch := omega) only [push_cast, ↓reduceIte, Nat.reduceEqDiff, reduceCtorEq, decide_true, decide_false, Bool.not_true, Bool.not_false, Option.isNone_some, Option.isNone_none, List.drop_zero, List.drop_succ_cons, List.getElem?_cons_zero, List.getElem?_cons_succ, List.length_cons, List.length_nil, List.take_succ_cons, List.take_zero, Nat.mul_one, Nat.zero_add, Nat.add_zero, Nat.one_mul, Nat.zero_mul, List.getElem?_map, List.getElem?_drop, List.getElem?_take, List.length_map, Option.map_some, List.set_cons_zero, List.set_cons_succ, and_true, true_and, List.flatMap_cons, List.flatMap_nil, Bool.not_not, hρ, hz, aInt]
            refine hN (k + 1) _ _ ?_ (by omega)
            simp (maxSteps := 1000000) (implicitDefEqProofs := false) (disch := omega) only [push_cast, ↓reduceIte, Nat.reduceEqDiff, reduceCtorEq, decide_true, decide_false, Bool.not_true, Bool.not_false, Option.isNone_some, Option.isNone_none, List.drop_zero, List.drop_succ_cons, List.getElem?_cons_zero, List.getElem?_cons_succ, List.length_cons, List.length_nil, List.take_succ_cons, List.take_zero, Nat.mul_one, Nat.zero_add, Nat.add_zero, Nat.one_mul, Nat.zero_mul, List.getElem?_map, List.getElem?_drop, List.getElem?_take, List.length_map, Option.map_some, List.set_cons_zero, List.set_cons_succ, and_true, true_and, List.flatMap_cons, List.flatMap_nil, Bool.not_not, hρ]
            omega
          · simp (maxSteps := 1000000) (implicitDefEqProofs := false) (disch := omega) only [push_cast, ↓reduceIte, Nat.reduceEqDiff, reduceCtorEq, decide_true, decide_false, Bool.not_true, Bool.not_false, Option.isNone_some, Option.isNone_none, List.drop_zero, List.drop_succ_cons, List.getElem?_cons_zero, List.getElem?_cons_succ, List.length_cons, List.length_nil, List.take_succ_cons, List.take_zero, Nat.mul_one, Nat.zero_add, Nat.add_zero, Nat.one_mul, Nat.zero_mul, List.getElem?_map, List.getElem?_drop, List.getElem?_take, List.length_map, Option.map_some, List.set_cons_zero, List.set_cons_succ, and_true, true_and, List.flatMap_cons, List.flatMap_nil, Bool.not_not, hρ]
            refine hE _ _ ?_
            have : k = xss.length := by omega
            subst this
            simp (maxSteps := 1000000) (implicitDefEqProofs := false) (disch := omega) only [push_cast, ↓reduceIte, Nat.reduceEqDiff, reduceCtorEq, decide_true, decide_false, Bool.not_true, Bool.not_false, Option.isNone_some, Option.isNone_none, List.drop_zero, List.drop_succ_cons, List.getElem?_cons_zero, List.getElem?_cons_succ, List.length_cons, List.length_nil, List.take_succ_cons, List.take_zero, Nat.mul_one, Nat.zero_add, Nat.add_zero, Nat.one_mul, Nat.zero_mul, List.getElem?_map, List.getElem?_drop, List.getElem?_take, List.length_map, Option.map_some, List.set_cons_zero, List.set_cons_succ, and_true, true_and, List.flatMap_cons, List.flatMap_nil, Bool.not_not, hρ]
        · intro ε σ hρ
          simp (maxSteps := 1000000) (implicitDefEqProofs := false) (disch := omega) only [push_cast, ↓reduceIte, Nat.reduceEqDiff, reduceCtorEq, decide_true, decide_false, Bool.not_true, Bool.not_false, Option.isNone_some, Option.isNone_none, List.drop_zero, List.drop_succ_cons, List.getElem?_cons_zero, List.getElem?_cons_succ, List.length_cons, List.length_nil, List.take_succ_cons, List.take_zero, Nat.mul_one, Nat.zero_add, Nat.add_zero, Nat.one_mul, Nat.zero_mul, List.getElem?_map, List.getElem?_drop, List.getElem?_take, List.length_map, Option.map_some, List.set_cons_zero, List.set_cons_succ, and_true, true_and, List.flatMap_cons, List.flatMap_nil, Bool.not_not, hρ]
          exact ⟨[], rfl⟩
    · simp (maxSteps := 1000000) (implicitDefEqProofs := false) (disch := omega) only [push_cast, ↓reduceIte, Nat.reduceEqDiff, reduceCtorEq, decide_true, decide_false, Bool.not_true, Bool.not_false, Option.isNone_some, Option.isNone_none, List.drop_zero, List.drop_succ_cons, List.getElem?_cons_zero, List.getElem?_cons_succ, List.length_cons, List.length_nil, List.take_succ_cons, List.take_zero, Nat.mul_one, Nat.zero_add, Nat.add_zero, Nat.one_mul, Nat.zero_mul, List.getElem?_map, List.getElem?_drop, List.getElem?_take, List.length_map, Option.map_some, List.set_cons_zero, List.set_cons_succ, and_true, true_and, List.flatMap_cons, List.flatMap_nil, Bool.not_not, aInt, hc]
      exact ⟨[], rfl⟩
theorem wf_u8 {x : Int} (h : (Lit.int .u8 x).wf = true) : 0 ≤ x ∧ x < 256 := by
  have h1 : IntKind.u8.min = 0 := by decide
  have h2 : IntKind.u8.max = 255 := by decide
  simp [Lit.wf, h1, h2] at h
  omega
theorem SpanGreedy_b (xss : List (List Int)) (wk : Int) (hs : xss.length ≤ 9223372036854775807) (hwk : 0 ≤ wk ∧ wk < 256) :
    FnP Try.prog 14 [aInts2 xss, .v (.int .u8 wk)] fun a => a = aBool true := SpanGreedy_a xss wk hwk hs
end Go.Proofs.Ytilofhocodbknaa
