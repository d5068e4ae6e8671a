/- Tidy: right programs; Program: the walk. -/
import Derived.Test.YthgmfjkbgacfaaaTdj
namespace Go.Proofs.Ythgmfjkbgacfaaa
set_option linter.unusedVariables false
set_option linter.unusedSimpArgs false
open Go Go.Kx Go.Proofs

theorem insE_op {x : Ix} (h : insE x = 0) : 0 ≤ x.op ∧ x.op < 26 := by
  unfold insE at h
  by_cases c : x.op < 0 ∨ 26 ≤ x.op
  · rw [if_pos c] at h; cases h
  · omega
theorem insE_fit {x : Ix} (h : insE x = 0) : (((letX x).zip (opsX x)).all fun p => fitB p.1 p.2) = true ∧ ((opsX x).drop (letX x).length).all (fun n => decide (n = 0)) = true := by
  have hop := insE_op h
  unfold insE at h
  rw [if_neg (by omega)] at h
  split at h
  · rename_i h1
    split at h
    · rename_i h2; exact ⟨h1, h2⟩
    · cases h
  · cases h
theorem let18 {x : Ix} (h : x.op = 18) : letX x = [116] := by unfold letX; rw [h]; rfl
theorem let19 {x : Ix} (h : x.op = 19) : letX x = [114, 116] := by unfold letX; rw [h]; rfl
theorem fit_t (n : Int) : fitB 116 n = decide (0 ≤ n ∧ n ≤ 199) := rfl
theorem ins18 {x : Ix} (h : insE x = 0) (c : x.op = 18) : 0 ≤ x.a ∧ x.a ≤ 199 := by
  have := (insE_fit h).1
  rw [let18 c] at this
  simpa [opsX, fit_t] using this
theorem ins19 {x : Ix} (h : insE x = 0) (c : x.op = 19) : 0 ≤ x.b ∧ x.b ≤ 199 := by
  have := (insE_fit h).1
  rw [let19 c] at this
  simp only [opsX, List.zip_cons_cons, List.all_cons, fit_t, Bool.and_eq_true, decide_eq_true_eq] at this
  exact this.2.1
theorem scan0 {code funcs : Int} : ∀ {l : List Ix}, scanE code funcs l = 0 → ∀ x ∈ l, insE x = 0 ∧ leadB x code funcs = true := by
  intro l
  induction l with
  | nil => intro _ x hx; simp at hx
  | cons y l ih =>
    intro h x hx
    simp only [scanE] at h
    by_cases h1 : insE y ≠ 0
    · rw [if_pos h1] at h; exact absurd h h1
    rw [if_neg h1] at h
    by_cases h2 : leadB y code funcs = false
    · rw [if_pos h2] at h; cases h
    rw [if_neg h2] at h
    rcases List.mem_cons.1 hx with rfl | hx
    · exact ⟨by simpa using h1, by simpa using h2⟩
    · exact ih h x hx
theorem scan_of {code funcs : Int} : ∀ {l : List Ix}, (∀ x ∈ l, insE x = 0 ∧ leadB x code funcs = true) → scanE code funcs l = 0 := by
  intro l
  induction l with
  | nil => intro _; rfl
  | cons y l ih =>
    intro h
    obtain ⟨h1, h2⟩ := h y (by simp)
    simp only [scanE]
    rw [if_neg (by simp [h1]), if_neg (by simp [h2])]
    exact ih fun x hx => h x (by simp [hx])
structure Fo (l : List Ix) (funcs : Int) : Prop where
  rt : Rt l
  le : l.length ≤ 200
  al : ∀ x ∈ l, insE x = 0 ∧ leadB x l.length funcs = true
theorem fnE_ok {l : List Ix} {funcs : Int} (h : fnE l funcs = 0) : Fo l funcs := by
  unfold fnE at h
  by_cases h1 : manyE l.length 200 ≠ 0
  · rw [if_pos h1] at h; exact absurd h h1
  rw [if_neg h1] at h
  by_cases h2 : scanE l.length funcs l ≠ 0
  · rw [if_pos h2] at h; exact absurd h h2
  rw [if_neg h2] at h
  have hm : 0 < l.length ∧ l.length ≤ 200 := by
    simp only [ne_eq, Decidable.not_not] at h1
    unfold manyE at h1
    split at h1
    · cases h1
    · split at h1
      · cases h1
      · omega
  have hal := scan0 (by simpa using h2)
  refine ⟨⟨hm.1, fun i x t hx ht => ?_, fun x hx => ?_⟩, hm.2, hal⟩
  · obtain ⟨a1, a2⟩ := hal x (List.mem_of_getElem? hx)
    unfold leadB at a2
    unfold tgtX at ht
    by_cases c1 : x.op = 18
    · rw [if_pos c1] at a2 ht
      cases ht
      have := ins18 a1 c1
      simp at a2
      omega
    · rw [if_neg c1] at a2 ht
      by_cases c2 : x.op = 19
      · rw [if_pos c2] at a2 ht
        cases ht
        have := ins19 a1 c2
        simp at a2
        omega
      · rw [if_neg c2] at ht; cases ht
  · unfold lastE at h
    rw [hx] at h
    simp only at h
    by_cases he : endsX x = true
    · exact he
    · rw [if_neg he] at h; cases h
theorem fnE_of {l : List Ix} {funcs : Int} (h : Fo l funcs) : fnE l funcs = 0 := by
  have hpos := h.rt.pos
  have hle := h.le
  have h1 : manyE l.length 200 = 0 := by unfold manyE; rw [if_neg (by omega), if_neg (by omega)]
  unfold fnE
  rw [if_neg (by simp [h1]), if_neg (by simp [scan_of h.al])]
  obtain ⟨x, hx⟩ := at_lt (l := l) (k := l.length - 1) (by omega)
  unfold lastE
  rw [hx]
  simp only
  rw [if_pos (h.rt.last x hx)]
theorem fns0 {funcs : Int} : ∀ {fs : List (List Ix)}, fnsE funcs fs = 0 → ∀ l ∈ fs, fnE l funcs = 0 := by
  intro fs
  induction fs with
  | nil => intro _ x hx; simp at hx
  | cons y l ih =>
    intro h x hx
    simp only [fnsE] at h
    by_cases h1 : fnE y funcs ≠ 0
    · rw [if_pos h1] at h; exact absurd h h1
    rw [if_neg h1] at h
    rcases List.mem_cons.1 hx with rfl | hx
    · simpa using h1
    · exact ih h x hx
theorem fns_of {funcs : Int} : ∀ {fs : List (List Ix)}, (∀ l ∈ fs, fnE l funcs = 0) → fnsE funcs fs = 0 := by
  intro fs
  induction fs with
  | nil => intro _; rfl
  | cons y l ih =>
    intro h
    simp only [fnsE]
    rw [if_neg (by simp [h y (by simp)])]
    exact ih fun x hx => h x (by simp [hx])
theorem prg_ok {m : Int} {fs : List (List Ix)} (h : prgE m fs = 0) : (0 ≤ m ∧ m ≤ 256) ∧ manyE fs.length 16 = 0 ∧ ∀ l ∈ fs, Fo l fs.length := by
  unfold prgE at h
  by_cases h0 : m < 0 ∨ 256 < m
  · rw [if_pos h0] at h; cases h
  rw [if_neg h0] at h
  by_cases h1 : manyE fs.length 16 ≠ 0
  · rw [if_pos h1] at h; exact absurd h h1
  rw [if_neg h1] at h
  exact ⟨by omega, by simpa using h1, fun l hl => fnE_ok (fns0 h l hl)⟩
theorem prg_of {m : Int} {fs : List (List Ix)} (h0 : 0 ≤ m ∧ m ≤ 256) (h1 : manyE fs.length 16 = 0) (h : ∀ l ∈ fs, Fo l fs.length) : prgE m fs = 0 := by
  unfold prgE
  rw [if_neg (by omega), if_neg (by simp [h1])]
  exact fns_of fun l hl => fnE_of (h l hl)
/-- An instruction with a target led to another place stays right. -/
theorem ins_map {x : Ix} {f : Nat → Nat} {code' funcs : Int} {code : Int} (h : insE x = 0) (hl : leadB x code funcs = true) (ht : ∀ t, tgtX x = some t → ((f t.toNat : Nat) : Int) < code') (hc : code' ≤ 200) :
    insE (mapX f x) = 0 ∧ leadB (mapX f x) code' funcs = true := by
  have hop := insE_op h
  obtain ⟨hf1, hf2⟩ := insE_fit h
  by_cases c1 : x.op = 18
  · have hh := ht x.a (tgt_jump c1)
    rw [map18 c1]
    refine ⟨?_, by unfold leadB; simp only; rw [if_pos c1]; simpa using hh⟩
    unfold insE
    have hL : letX { x with a := ((f x.a.toNat : Nat) : Int) } = [116] := let18 c1
    rw [let18 c1] at hf2
    rw [if_neg (by simp only; omega), hL, if_pos, if_pos]
    · exact hf2
    · simp only [opsX, List.zip_cons_cons, List.zip_nil_left, List.all_cons, List.all_nil, Bool.and_true, fit_t, decide_eq_true_eq]
      omega
  by_cases c2 : x.op = 19
  · have hh := ht x.b (by unfold tgtX; rw [if_neg c1, if_pos c2])
    rw [map19 c1 c2]
    refine ⟨?_, by unfold leadB; simp only; rw [if_neg c1, if_pos c2]; simpa using hh⟩
    unfold insE
    have hL : letX { x with b := ((f x.b.toNat : Nat) : Int) } = [114, 116] := let19 c2
    rw [let19 c2] at hf1 hf2
    rw [if_neg (by simp only; omega), hL, if_pos, if_pos]
    · exact hf2
    · simp only [opsX, List.zip_cons_cons, List.zip_nil_left, List.all_cons, List.all_nil, Bool.and_true, fit_t, decide_eq_true_eq, Bool.and_eq_true] at hf1 ⊢
      exact ⟨hf1.1, by omega⟩
  rw [map0 c1 c2]
  refine ⟨h, ?_⟩
  unfold leadB at hl ⊢
  rw [if_neg c1, if_neg c2] at hl ⊢
  exact hl
theorem led_fo {l : List Ix} {funcs : Int} (h : Fo l funcs) : Fo (ledL l) funcs := by
  have hle := h.le
  refine ⟨led_rt h.rt, by rw [led_len]; exact hle, fun x hx => ?_⟩
  unfold ledL at hx
  obtain ⟨y, hy, rfl⟩ := List.mem_map.1 hx
  obtain ⟨i, hi⟩ := List.getElem?_of_mem hy
  obtain ⟨a1, a2⟩ := h.al y hy
  rw [led_len]
  refine ins_map a1 a2 (fun t ht => ?_) (by omega)
  have := h.rt.tg i y t hi ht
  have := lead_lt h.rt (t := t.toNat) (by omega)
  omega
theorem rnd_fo {l : List Ix} {funcs : Int} (h : Fo l funcs) : Fo (rnd l) funcs := by
  have hm := led_fo h
  have hle := hm.le
  have hlen : (rnd l).length = cnt (ledL l) (ledL l).length := by simp [rnd, rndM, cnt]
  have hcl := cnt_le (ledL l) (ledL l).length
  refine ⟨rnd_Rt h.rt, by omega, fun x hx => ?_⟩
  unfold rnd rndM at hx
  obtain ⟨y, hy, rfl⟩ := List.mem_map.1 hx
  obtain ⟨k, hk⟩ := List.getElem?_of_mem hy
  obtain ⟨i, h1, h2, h3, h4⟩ := kN_at _ _ _ (Nat.le_refl _) hk
  obtain ⟨a1, a2⟩ := hm.al y (List.mem_of_getElem? h3)
  refine ins_map a1 a2 (fun t ht => ?_) (by omega)
  obtain ⟨j, g1, g2, g3⟩ := stays hm.rt _ _ rfl ((kp_rc hm.rt h2).tgt h3 ht)
  have := cnt_mono (ledL l) g1
  have := cnt_lt g3 g2 g2
  omega
theorem fixN_fo {funcs : Int} : ∀ (n : Nat) {l : List Ix}, Fo l funcs → Fo (fixN n l) funcs := by
  intro n
  induction n with
  | zero => intro l h; exact h
  | succ n ih =>
    intro l h
    simp only [fixN]
    split
    · exact h
    · exact ih (rnd_fo h)
theorem fixR_fo {l : List Ix} {funcs : Int} (h : Fo l funcs) : Fo (fixR l) funcs := fixN_fo _ h
def dropS (fs : List (List Ix)) : Nat := (fs.map fun l => l.length - (fixR l).length).sum
theorem dropS_succ {fs : List (List Ix)} {k : Nat} {l : List Ix} (h : fs[k]? = some l) : dropS (fs.take (k + 1)) = dropS (fs.take k) + (l.length - (fixR l).length) := by
  unfold dropS
  rw [take_succ_at h, List.map_append, List.sum_append]
  simp
theorem dropS_le {fs : List (List Ix)} (h : ∀ l ∈ fs, l.length ≤ 300) : ∀ k, k ≤ fs.length → dropS (fs.take k) ≤ 300 * k := by
  intro k
  induction k with
  | zero => intro _; simp [dropS]
  | succ k ih =>
    intro hk
    obtain ⟨l, hl⟩ := at_lt (l := fs) (k := k) (by omega)
    have := h l (List.mem_of_getElem? hl)
    have := ih (by omega)
    rw [dropS_succ hl]
    omega
end Go.Proofs.Ythgmfjkbgacfaaa
