/- RaceFewer: more order, fewer clashes: plain. -/
import Derived.Test.YtncdnegdlkmicaaRzb
namespace Go.Proofs.Ytncdnegdlkmicaa.Rc
set_option linter.unusedVariables false
set_option linter.unusedSimpArgs false
open Go Go.Kx Go.Proofs
open Go.Proofs.Ytncdnegdlkmicaa.Rx hiding at_lt snoc_ind take_succ_at drop_at mixed
open Go.Proofs.Ytncdnegdlkmicaa.St (Ac aAc aAc_len aAc_one aAc_pure aAc_res Nd aNd aNd_pure aNd_res)

theorem okPs_of {i : Nat} : ∀ {l : List Int}, (∀ p ∈ l, 0 ≤ p ∧ p < i) → okPs i l = true := by
  intro l h
  unfold okPs
  first
    | (rw [List.all_eq_true]; intro p hp; have := h p hp; simp; omega)
    | (induction l with
       | nil => rfl
       | cons p l ih => have := h p (by simp); simp [okPs]; omega)
theorem okB_of : ∀ {xss : List (List Int)} {i : Nat}, (∀ (k : Nat) (l : List Int), xss[k]? = some l → ∀ p ∈ l, 0 ≤ p ∧ p < ((i + k : Nat) : Int)) → okB i xss = true := by
  intro xss
  induction xss with
  | nil => intro i _; rfl
  | cons l ls ih =>
    intro i h
    show (okPs i l && okB (i + 1) ls) = true
    rw [okPs_of (i := i) (fun p hp => h 0 l rfl p hp), ih fun k l' hl p hp => by have := h (k + 1) l' (by simpa using hl) p hp; omega]
    rfl
/-- At least the order of xss. -/
structure Mo (xss yss : List (List Int)) (n : Nat) : Prop where
  len : yss.length = xss.length
  ok : ∀ (k : Nat) (l : List Int), yss[k]? = some l → ∀ p ∈ l, 0 ≤ p ∧ p < (k : Int)
  sup : ∀ (k : Nat) (l : List Int), xss[k]? = some l → ∃ l', yss[k]? = some l' ∧ ∀ p ∈ l, p ∈ l'
  sz : ∀ y ∈ yss, y.length ≤ n
theorem Mo.refl {xss : List (List Int)} (hok : okB 0 xss = true) {n : Nat} (h : ∀ x ∈ xss, x.length ≤ n) : Mo xss xss n :=
  ⟨rfl, fun k l hl p hp => by have := okB_at hok hl p hp; omega, fun k l hl => ⟨l, hl, fun p hp => hp⟩, h⟩
theorem Mo.weak {xss yss : List (List Int)} {n m : Nat} (h : Mo xss yss n) (hm : n ≤ m) : Mo xss yss m := ⟨h.len, h.ok, h.sup, fun y hy => Nat.le_trans (h.sz y hy) hm⟩
theorem Mo.add {xss yss : List (List Int)} {n : Nat} (h : Mo xss yss n) {t : Nat} {l : List Int} (hl : yss[t]? = some l) {f : Int} (f0 : 0 ≤ f) (f1 : f < t) : Mo xss (yss.set t (l ++ [f])) (n + 1) := by
  refine ⟨by rw [List.length_set]; exact h.len, fun k l' hl' p hp => ?_, fun k l' hl' => ?_, fun y hy => ?_⟩
  · by_cases e : t = k
    · subst e
      rw [List.getElem?_set_self (lt_at hl)] at hl'
      cases hl'
      rcases List.mem_append.1 hp with hp | hp
      · exact h.ok t l hl p hp
      · simp at hp; subst hp; exact ⟨f0, f1⟩
    · rw [List.getElem?_set_ne e] at hl'
      exact h.ok k l' hl' p hp
  · obtain ⟨m, hm, hsub⟩ := h.sup k l' hl'
    by_cases e : t = k
    · subst e
      rw [hl] at hm
      cases hm
      exact ⟨l ++ [f], List.getElem?_set_self (lt_at hl), fun p hp => List.mem_append.2 (.inl (hsub p hp))⟩
    · exact ⟨m, by rw [List.getElem?_set_ne e]; exact hm, hsub⟩
  · rcases List.mem_or_eq_of_mem_set hy with hy | rfl
    · have := h.sz y hy; omega
    · have := h.sz l (List.mem_of_getElem? hl)
      simp; omega
theorem Mo.okB {xss yss : List (List Int)} {n : Nat} (h : Mo xss yss n) : okB 0 yss = true := okB_of fun k l hl p hp => by have := h.ok k l hl p hp; omega
theorem Mo.chk {xss yss : List (List Int)} {n : Nat} (h : Mo xss yss n) (hx : xss.length ≤ 1000) : Rx.chk yss = 0 := by
  unfold Rx.chk
  rw [h.len, if_neg (by omega), h.okB]
  rfl
theorem Mo.anc {xss yss : List (List Int)} {n : Nat} (h : Mo xss yss n) {x y : Nat} (a : Anc xss x y) : Anc yss x y := by
  induction a with
  | dir e1 e2 =>
    obtain ⟨l', h1, h2⟩ := h.sup _ _ e1
    exact .dir h1 (h2 _ e2)
  | via e1 e2 _ ih =>
    obtain ⟨l', h1, h2⟩ := h.sup _ _ e1
    exact .via h1 (h2 _ e2) ih
theorem Mo.bef {xss yss : List (List Int)} {n : Nat} (h : Mo xss yss n) (hok : Rx.okB 0 xss = true) {a b : Int} (hb : befR (some (mkM xss)) a b = true) : befR (some (mkM yss)) a b = true := by
  have h1 : inR (some (mkM xss)) a = true ∧ inR (some (mkM xss)) b = true := by
    unfold befR at hb
    simp only [Bool.and_eq_true] at hb
    exact ⟨hb.1.1.1, hb.1.1.2⟩
  simp only [inR, lenR, mkM_len, Bool.and_eq_true, decide_eq_true_eq] at h1
  have e1 := befR_mark hok a.toNat (by omega) b
  have e2 := befR_mark h.okB a.toNat (by rw [h.len]; omega) b
  rw [show ((a.toNat : Nat) : Int) = a by omega] at e1 e2
  have m1 := aheadE_bit hok (b := b.toNat) (by omega) a.toNat
  have m2 := aheadE_bit h.okB (b := b.toNat) (by rw [h.len]; omega) a.toNat
  rw [show ((b.toNat : Nat) : Int) = b by omega] at m1 m2
  rw [e2]
  rw [e1] at hb
  exact m2.2 (h.anc (m1.1 hb))
theorem Mo.apart {xss yss : List (List Int)} {n : Nat} (h : Mo xss yss n) (hok : Rx.okB 0 xss = true) {a b : Int} (hb : aparR (some (mkM yss)) a b = true) : aparR (some (mkM xss)) a b = true := by
  unfold aparR at hb ⊢
  simp only [Bool.and_eq_true] at hb ⊢
  obtain ⟨⟨⟨⟨h1, h2⟩, h3⟩, h4⟩, h5⟩ := hb
  have i1 : ∀ c : Int, inR (some (mkM xss)) c = inR (some (mkM yss)) c := fun c => by simp [inR, lenR, mkM_len, h.len]
  refine ⟨⟨⟨⟨by rw [i1]; exact h1, by rw [i1]; exact h2⟩, h3⟩, ?_⟩, ?_⟩
  · cases hx : befR (some (mkM xss)) a b with
    | false => rfl
    | true => rw [h.bef hok hx] at h4; cases h4
  · cases hx : befR (some (mkM xss)) b a with
    | false => rfl
    | true => rw [h.bef hok hx] at h5; cases h5
theorem Mo.clash {xss yss : List (List Int)} {n : Nat} (h : Mo xss yss n) (hok : Rx.okB 0 xss = true) (l : List Ac) (i k : Nat) (hc : clash yss l i k = true) : clash xss l i k = true := by
  unfold Rc.clash at hc ⊢
  simp only [Bool.and_eq_true] at hc ⊢
  exact ⟨hc.1, h.apart hok hc.2⟩
/-- With more order: no more is wrong, and what clashes first comes no earlier. -/
theorem more_find {xss yss : List (List Int)} {n : Nat} (h : Mo xss yss n) (hc : Rx.chk xss = 0) {l : List Ac} {r s : Fd} (hr : FindR xss l r) (hre : r.e = 0) (hs : FindR yss l s) :
    s.e = 0 ∧ (s.ok = true → r.ok = true ∧ r.k ≤ s.k) := by
  obtain ⟨hk, hok⟩ := chk_zero hc
  have hcy := h.chk hk
  have hbad : ¬ badS xss l := by
    rcases hr with ⟨a, _⟩ | ⟨_, _, rfl⟩ | ⟨_, b, _⟩
    · exact absurd hc a
    · cases hre
    · exact b
  have hbady : ¬ badS yss l := fun ⟨a, ha, hb⟩ => hbad ⟨a, ha, by rw [h.len] at hb; exact hb⟩
  rcases hr with ⟨a, _⟩ | ⟨_, b, _⟩ | ⟨_, _, p, hp, rfl⟩
  · exact absurd hc a
  · exact absurd b hbad
  rcases hs with ⟨a, _⟩ | ⟨_, b, _⟩ | ⟨_, _, q, hq, rfl⟩
  · exact absurd hcy a
  · exact absurd b hbady
  cases q with
  | none => exact ⟨by cases p <;> rfl, fun e => by cases e⟩
  | some q =>
    refine ⟨rfl, fun _ => ?_⟩
    obtain ⟨p', rfl, hle⟩ := FC.mono (fun i k _ _ hcl => h.clash hok l i k hcl) hq hp
    exact ⟨rfl, by show (p'.2 : Int) ≤ q.2; omega⟩
theorem at_take {l : List Ac} {m i : Nat} (h : i < m) : wdAt (l.take m) i = wdAt l i ∧ wrAt (l.take m) i = wrAt l i ∧ stAt (l.take m) i = stAt l i := by
  unfold wdAt wrAt stAt
  rw [List.getElem?_take, if_pos h]
  exact ⟨rfl, rfl, rfl⟩
theorem clash_take (xss : List (List Int)) (l : List Ac) {m i k : Nat} (h1 : i < m) (h2 : k < m) : clash xss l i k = clash xss (l.take m) i k := by
  unfold clash
  rw [(at_take h1).1, (at_take h1).2.1, (at_take h1).2.2, (at_take h2).1, (at_take h2).2.1, (at_take h2).2.2]
theorem bad_take {xss : List (List Int)} {l : List Ac} (h : ¬ badS xss l) (m : Nat) : ¬ badS xss (l.take m) := fun ⟨a, ha, hb⟩ => h ⟨a, List.mem_of_mem_take ha, hb⟩
/-- What is found is found without what comes behind it; and nothing without it. -/
theorem found_cut {xss : List (List Int)} (hc : Rx.chk xss = 0) {l : List Ac} {r : Fd} (hr : FindR xss l r) (hok : r.ok = true) : ∃ (i k : Nat) (a b : Ac), r = ⟨(i : Int), (k : Int), b.wd, true, 0⟩ ∧ i < k ∧ l[i]? = some a ∧ l[k]? = some b ∧ a.wd = b.wd ∧ (a.wr || b.wr) = true ∧
    FindR xss (l.take (k + 1)) r ∧ ∀ s, FindR xss (l.take k) s → s.ok = false ∧ s.e = 0 := by
  rcases hr with ⟨_, rfl⟩ | ⟨_, _, rfl⟩ | ⟨h1, h2, q, hq, hrq⟩
  · cases hok
  · cases hok
  cases q with
  | none => rw [hrq] at hok; cases hok
  | some p =>
    obtain ⟨i, k⟩ := p
    obtain ⟨b1, b2, b3, b4, b5⟩ := hq
    simp only at b1 b2 b3 b4 b5 hrq
    obtain ⟨a, ha⟩ := at_lt (l := l) (k := i) (by omega)
    obtain ⟨b, hb⟩ := at_lt (l := l) (k := k) b2
    obtain ⟨v1, v2, v3⟩ := wdAt_at ha
    obtain ⟨w1, w2, w3⟩ := wdAt_at hb
    have b3' := b3
    unfold clash at b3'
    rw [v1, v2, w1, w2] at b3'
    simp only [Bool.and_eq_true, decide_eq_true_eq] at b3'
    refine ⟨i, k, a, b, by rw [hrq, w1], b1, ha, hb, b3'.1.1, b3'.1.2, ?_, fun s hs => ?_⟩
    · refine .inr (.inr ⟨h1, bad_take h2 _, some (i, k), ?_, ?_⟩)
      · have hfc : FC (clash xss l) (k + 1) (some (i, k)) := ⟨b1, by simp, b3, b4, b5⟩
        have hlen : (l.take (k + 1)).length = k + 1 := by simp; omega
        rw [hlen]
        exact FC.congr (fun i' k' hi hk' => clash_take xss l (by omega) (by omega)) hfc
      · rw [hrq]
        simp only
        rw [(at_take (l := l) (m := k + 1) (i := k) (by omega)).1]
    · have hlen : (l.take k).length = k := by simp; omega
      have := hs.uniq (s := ⟨0, 0, 0, false, 0⟩) (.inr (.inr ⟨h1, bad_take h2 _, none, by
        rw [hlen]
        exact fun k' hk' i' hi' => by rw [← clash_take xss l (by omega) hk']; exact b5 k' hk' i' hi', rfl⟩))
      rw [this]
      exact ⟨rfl, rfl⟩
end Go.Proofs.Ytncdnegdlkmicaa.Rc
