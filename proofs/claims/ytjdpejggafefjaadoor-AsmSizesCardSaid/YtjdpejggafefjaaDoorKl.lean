/- Own small program logic, part l: memory: what a heap holds, piece by piece. -/
import Derived.Test.YtjdpejggafefjaaDoorKk
namespace Go.Kx
set_option linter.unusedVariables false
set_option linter.unusedSimpArgs false
open Go

abbrev PH := Nat → Option Obj
abbrev HProp := PH → Prop
def PH.le (g g' : PH) : Prop := ∀ b o, g b = some o → g' b = some o
theorem PH.le_refl (g : PH) : PH.le g g := fun _ _ h => h
theorem PH.le_trans {a b c : PH} (h : PH.le a b) (k : PH.le b c) : PH.le a c := fun x o e => k x o (h x o e)
/-- The part of a heap that piece i owns. -/
def own (w : Nat → Nat) (i : Nat) (g : PH) : PH := fun b => if w b = i then g b else none
def SatG (L : List HProp) (g : PH) : Prop := ∃ w : Nat → Nat, ∀ (i : Nat) (C : HProp), L[i]? = some C → C (own w i g)
def Sat (L : List HProp) (h : Heap) : Prop := SatG L (hp h)
theorem own_le (w : Nat → Nat) (i : Nat) (g : PH) : PH.le (own w i g) g := by
  intro b o h
  unfold own at h
  split at h
  · exact h
  · cases h
theorem own_eq {w u : Nat → Nat} {i j : Nat} {g g' : PH} (h : ∀ b, (w b = i ∧ u b = j ∧ g b = g' b) ∨ ((w b ≠ i ∨ g b = none) ∧ (u b ≠ j ∨ g' b = none))) : own w i g = own u j g' := by
  funext b
  unfold own
  rcases h b with ⟨h1, h2, h3⟩ | ⟨h1, h2⟩
  · rw [if_pos h1, if_pos h2, h3]
  · have e1 : (if w b = i then g b else none) = none := by rcases h1 with h1 | h1 <;> simp [h1]
    have e2 : (if u b = j then g' b else none) = none := by rcases h2 with h2 | h2 <;> simp [h2]
    rw [e1, e2]
def Up (C : HProp) : Prop := ∀ g g', PH.le g g' → C g → C g'

/-- All blocks that were there when the heap was h are as they were. -/
def base (h : Heap) : HProp := fun g => ∀ b, b < h.size → g b = h[b]?
theorem base_up (h : Heap) : Up (base h) := by
  intro g g' hle hb b hlt
  have := hb b hlt
  rw [Array.getElem?_eq_getElem hlt] at this ⊢
  exact hle b _ this
theorem base_le {h : Heap} {g : PH} (hb : base h g) : PH.le (hp h) g := by
  intro b o e
  have hlt : b < h.size := by
    unfold hp at e
    exact (Array.getElem?_eq_some_iff.1 e).1
  rw [hb b hlt]; exact e
theorem base_self (h : Heap) : base h (hp h) := fun _ _ => rfl
theorem Sat.start (h : Heap) : Sat [base h] h := by
  refine ⟨fun _ => 0, ?_⟩
  intro i C hC
  cases i with
  | zero =>
    simp at hC
    subst hC
    intro b _
    simp [own, hp]
  | succ i => simp at hC

theorem SatG.get {L : List HProp} {g : PH} (h : SatG L g) (i : Nat) {C : HProp} (hi : L[i]? = some C) (hu : Up C) : C g := by
  obtain ⟨w, hw⟩ := h
  exact hu _ _ (own_le w i g) (hw i C hi)
theorem Sat.get {L : List HProp} {h : Heap} (H : Sat L h) (i : Nat) {C : HProp} (hi : L[i]? = some C) (hu : Up C) : C (hp h) := SatG.get H i hi hu
theorem Sat.base {L : List HProp} {h h0 : Heap} (H : Sat L h) (i : Nat) (hi : L[i]? = some (base h0)) : PH.le (hp h0) (hp h) := base_le (H.get i hi (base_up h0))

/-- Pieces put in another order, some left out: each is one of the old ones, no old one twice. -/
theorem SatG.re {L L' : List HProp} {g : PH} (H : SatG L g) (σ : Nat → Nat) (h1 : ∀ j C, L'[j]? = some C → L[σ j]? = some C) (h2 : ∀ j k, j < L'.length → k < L'.length → σ j = σ k → j = k) : SatG L' g := by
  obtain ⟨w, hw⟩ := H
  classical
  obtain ⟨v, hv⟩ : ∃ v : Nat → Nat, ∀ b, v b = (if hex : ∃ j, j < L'.length ∧ σ j = w b then hex.choose else L'.length) := ⟨_, fun _ => rfl⟩
  refine ⟨v, ?_⟩
  intro j C hC
  have hj : j < L'.length := (List.getElem?_eq_some_iff.1 hC).1
  have := hw (σ j) C (h1 j C hC)
  have e : own v j g = own w (σ j) g := by
    refine own_eq fun b => ?_
    by_cases hb : w b = σ j
    · have hex : ∃ j, j < L'.length ∧ σ j = w b := ⟨j, hj, hb.symm⟩
      have hch := hex.choose_spec
      have : hex.choose = j := h2 _ _ hch.1 hj (by rw [hch.2, hb])
      exact .inl ⟨by rw [hv b, dif_pos hex, this], hb, rfl⟩
    · refine .inr ⟨.inl fun hc => ?_, .inl hb⟩
      rw [hv b] at hc
      split at hc
      · rename_i hex
        have hch := hex.choose_spec
        rw [hc] at hch
        exact hb hch.2.symm
      · omega
  rw [e]
  exact this

theorem Sat.front {L : List HProp} {h : Heap} (H : Sat L h) (i : Nat) {C : HProp} (hi : L[i]? = some C) : Sat (C :: L.eraseIdx i) h := by
  have hlt : i < L.length := (List.getElem?_eq_some_iff.1 hi).1
  refine SatG.re H (fun j => if j = 0 then i else if j - 1 < i then j - 1 else j) ?_ ?_
  · intro j D hD
    cases j with
    | zero => simp at hD; subst hD; simpa using hi
    | succ j =>
      simp only [List.getElem?_cons_succ, List.getElem?_eraseIdx] at hD
      simp only [Nat.add_sub_cancel, Nat.succ_ne_zero, if_false]
      split at hD
      · rename_i hc; simp [hc, hD]
      · rename_i hc; simp [hc, hD]
  · intro j k _ _ e
    revert e
    (repeat' split) <;> omega
theorem Sat.tail {C : HProp} {L : List HProp} {h : Heap} (H : Sat (C :: L) h) : Sat L h :=
  SatG.re H (· + 1) (fun j D hD => by simpa using hD) (fun j k _ _ e => by simpa using e)
theorem Sat.left {L L' : List HProp} {h : Heap} (H : Sat (L ++ L') h) : Sat L h :=
  SatG.re H id (fun j D hD => by
    have hlt := (List.getElem?_eq_some_iff.1 hD).1
    simp only [id]
    rw [List.getElem?_append_left hlt]; exact hD) (fun j k _ _ e => e)

/-- A new block. -/
theorem Sat.push {L : List HProp} {h : Heap} (H : Sat L h) (o : Obj) (C : HProp) (hC : ∀ g : PH, g h.size = some o → C g) : Sat (L ++ [C]) (h.push o) := by
  obtain ⟨w, hw⟩ := H
  obtain ⟨v, hv⟩ : ∃ v : Nat → Nat, ∀ b, v b = (if b = h.size then L.length else if w b < L.length then w b else L.length + 1) := ⟨_, fun _ => rfl⟩
  refine ⟨v, ?_⟩
  intro i D hD
  by_cases hi : i < L.length
  · rw [List.getElem?_append_left hi] at hD
    have e : own v i (hp (h.push o)) = own w i (hp h) := by
      refine own_eq fun b => ?_
      rw [hv b]
      by_cases hb : b = h.size
      · subst hb
        exact .inr ⟨.inl (by rw [if_pos rfl]; omega), .inr (by simp [hp])⟩
      · rw [if_neg hb]
        have hpb : hp (h.push o) b = hp h b := by simp [hp, Array.getElem?_push, hb]
        by_cases hwb : w b = i
        · exact .inl ⟨by rw [if_pos (by omega), hwb], hwb, hpb⟩
        · exact .inr ⟨.inl (by split <;> omega), .inl hwb⟩
    rw [e]
    exact hw i D hD
  · rw [List.getElem?_append_right (by omega)] at hD
    have hi2 : i = L.length := by
      have := (List.getElem?_eq_some_iff.1 hD).1
      simp at this; omega
    subst hi2
    simp at hD
    subst hD
    apply hC
    simp [own, hp, hv]

/-- A block of piece i is replaced. -/
theorem Sat.upd {L : List HProp} {h : Heap} (H : Sat L h) (i : Nat) {C C' : HProp} (hi : L[i]? = some C) {b : Nat} {o' : Obj} (h1 : ∀ g, C g → (g b).isSome) (h2 : ∀ g, C g → C' (fun x => if x = b then some o' else g x)) :
    Sat (L.set i C') (h.setIfInBounds b o') := by
  obtain ⟨w, hw⟩ := H
  have hC := hw i C hi
  have hb := h1 _ hC
  have hwb : w b = i := by
    unfold own at hb
    split at hb
    · assumption
    · cases hb
  have hlt : b < h.size := by
    simp only [own, hwb, if_true, hp] at hb
    by_cases hl : b < h.size
    · exact hl
    · rw [Array.getElem?_eq_none (by omega)] at hb; cases hb
  refine ⟨w, ?_⟩
  intro j D hD
  have hp' : hp (h.setIfInBounds b o') = fun x => if x = b then some o' else hp h x := by
    funext x
    simp only [hp]
    by_cases hx : x = b
    · subst hx; simp [hlt]
    · rw [if_neg hx, Array.getElem?_setIfInBounds_ne (fun e => hx e.symm)]
  by_cases hj : j = i
  · subst hj
    rw [List.getElem?_set_self (List.getElem?_eq_some_iff.1 hi).1] at hD
    simp at hD
    subst hD
    have e : own w j (hp (h.setIfInBounds b o')) = fun x => if x = b then some o' else own w j (hp h) x := by
      funext x
      rw [hp']
      unfold own
      dsimp only
      by_cases hx : x = b
      · subst hx; simp [hwb]
      · simp [hx]
    rw [e]
    exact h2 _ hC
  · rw [List.getElem?_set_ne (Ne.symm hj)] at hD
    have e : own w j (hp (h.setIfInBounds b o')) = own w j (hp h) := by
      funext x
      rw [hp']
      unfold own
      dsimp only
      by_cases hx : x = b
      · subst hx; simp [hwb, Ne.symm hj]
      · simp [hx]
    rw [e]
    exact hw j D hD

/-- A call that leaves all that was there as it was, and hands back pieces of its own. -/
theorem Sat.ext {L Ls : List HProp} {h h' : Heap} (H : Sat L h) (H' : Sat (Go.Kx.base h :: Ls) h') : Sat (L ++ Ls) h' := by
  obtain ⟨w, hw⟩ := H
  obtain ⟨u, hu⟩ := H'
  have hbase := hu 0 _ rfl
  have hold : ∀ b, b < h.size → u b = 0 ∧ hp h' b = hp h b := by
    intro b hb
    have := hbase b hb
    unfold own at this
    split at this
    · exact ⟨‹_›, this⟩
    · rw [Array.getElem?_eq_getElem hb] at this; cases this
  obtain ⟨v, hv⟩ : ∃ v : Nat → Nat, ∀ b, v b = (if u b = 0 then (if b < h.size ∧ w b < L.length then w b else L.length + Ls.length) else L.length + (u b - 1)) := ⟨_, fun _ => rfl⟩
  refine ⟨v, ?_⟩
  intro i D hD
  by_cases hi : i < L.length
  · rw [List.getElem?_append_left hi] at hD
    have e : own v i (hp h') = own w i (hp h) := by
      refine own_eq fun b => ?_
      rw [hv b]
      by_cases hb : b < h.size
      · obtain ⟨e1, e2⟩ := hold b hb
        rw [if_pos e1]
        by_cases hwb : w b = i
        · exact .inl ⟨by rw [if_pos ⟨hb, by omega⟩, hwb], hwb, e2⟩
        · exact .inr ⟨.inl (by split <;> omega), .inl hwb⟩
      · have : hp h b = none := by simp only [hp]; rw [Array.getElem?_eq_none (by omega)]
        refine .inr ⟨.inl ?_, .inr this⟩
        rw [if_neg (c := b < h.size ∧ w b < L.length) (by omega)]
        split <;> omega
    rw [e]
    exact hw i D hD
  · rw [List.getElem?_append_right (by omega)] at hD
    have hlt : i - L.length < Ls.length := (List.getElem?_eq_some_iff.1 hD).1
    have := hu (i - L.length + 1) D (by simpa using hD)
    have e : own v i (hp h') = own u (i - L.length + 1) (hp h') := by
      refine own_eq fun b => ?_
      rw [hv b]
      by_cases hz : u b = 0
      · rw [if_pos hz]
        exact .inr ⟨.inl (by split <;> omega), .inl (by omega)⟩
      · rw [if_neg hz]
        by_cases hq : u b = i - L.length + 1
        · exact .inl ⟨by omega, hq, rfl⟩
        · exact .inr ⟨.inl (by omega), .inl hq⟩
    rw [e]
    exact this

/-! ### Opening pieces -/
theorem Sat.mono1 {C C' : HProp} {L : List HProp} {h : Heap} (H : Sat (C :: L) h) (hc : ∀ g, C g → C' g) : Sat (C' :: L) h := by
  obtain ⟨w, hw⟩ := H
  refine ⟨w, fun i D hD => ?_⟩
  cases i with
  | zero => simp at hD; subst hD; exact hc _ (hw 0 C rfl)
  | succ i => exact hw (i + 1) D (by simpa using hD)
theorem Sat.ex1 {α : Type} {C : α → HProp} {L : List HProp} {h : Heap} (H : Sat ((fun g => ∃ x, C x g) :: L) h) : ∃ x, Sat (C x :: L) h := by
  obtain ⟨w, hw⟩ := H
  obtain ⟨x, hx⟩ := hw 0 _ rfl
  refine ⟨x, w, fun i D hD => ?_⟩
  cases i with
  | zero => simp at hD; subst hD; exact hx
  | succ i => exact hw (i + 1) D (by simpa using hD)
theorem Sat.pure1 {p : Prop} {C : HProp} {L : List HProp} {h : Heap} (H : Sat ((fun g => p ∧ C g) :: L) h) : p ∧ Sat (C :: L) h := by
  obtain ⟨w, hw⟩ := H
  obtain ⟨hp1, _⟩ := hw 0 _ rfl
  exact ⟨hp1, Sat.mono1 ⟨w, hw⟩ fun g hg => hg.2⟩
/-- A piece that is itself pieces. -/
theorem SatG.split1 {Ls L : List HProp} {g : PH} (H : SatG (SatG Ls :: L) g) : SatG (Ls ++ L) g := by
  obtain ⟨w, hw⟩ := H
  obtain ⟨u, hu⟩ := hw 0 _ rfl
  obtain ⟨v, hv⟩ : ∃ v : Nat → Nat, ∀ b, v b = (if w b = 0 then (if u b < Ls.length then u b else Ls.length + L.length) else Ls.length + (w b - 1)) := ⟨_, fun _ => rfl⟩
  refine ⟨v, ?_⟩
  intro i D hD
  by_cases hi : i < Ls.length
  · rw [List.getElem?_append_left hi] at hD
    have e : own v i g = own u i (own w 0 g) := by
      refine own_eq fun b => ?_
      rw [hv b]
      by_cases hz : w b = 0
      · rw [if_pos hz]
        have : own w 0 g b = g b := by simp [own, hz]
        rw [this]
        by_cases hq : u b = i
        · exact .inl ⟨by rw [if_pos (by omega), hq], hq, rfl⟩
        · exact .inr ⟨.inl (by split <;> omega), .inl hq⟩
      · rw [if_neg hz]
        exact .inr ⟨.inl (by omega), .inr (by simp [own, hz])⟩
    rw [e]
    exact hu i D hD
  · rw [List.getElem?_append_right (by omega)] at hD
    have hlt : i - Ls.length < L.length := (List.getElem?_eq_some_iff.1 hD).1
    have := hw (i - Ls.length + 1) D (by simpa using hD)
    have e : own v i g = own w (i - Ls.length + 1) g := by
      refine own_eq fun b => ?_
      rw [hv b]
      by_cases hz : w b = 0
      · rw [if_pos hz]
        exact .inr ⟨.inl (by split <;> omega), .inl (by omega)⟩
      · rw [if_neg hz]
        by_cases hq : w b = i - Ls.length + 1
        · exact .inl ⟨by omega, hq, rfl⟩
        · exact .inr ⟨.inl (by omega), .inl hq⟩
    rw [e]
    exact this
theorem SatG.join1 {Ls L : List HProp} {g : PH} (H : SatG (Ls ++ L) g) : SatG (SatG Ls :: L) g := by
  obtain ⟨w, hw⟩ := H
  obtain ⟨v, hv⟩ : ∃ v : Nat → Nat, ∀ b, v b = (if w b < Ls.length then 0 else w b - Ls.length + 1) := ⟨_, fun _ => rfl⟩
  refine ⟨v, ?_⟩
  intro i D hD
  cases i with
  | zero =>
    simp at hD
    subst hD
    refine ⟨w, fun j E hE => ?_⟩
    have hj : j < Ls.length := (List.getElem?_eq_some_iff.1 hE).1
    have := hw j E (by rw [List.getElem?_append_left hj]; exact hE)
    have e : own w j (own v 0 g) = own w j g := by
      refine own_eq fun b => ?_
      by_cases hq : w b = j
      · exact .inl ⟨hq, hq, by unfold own; rw [if_pos (by rw [hv b, if_pos (by omega)])]⟩
      · exact .inr ⟨.inl hq, .inl hq⟩
    rw [e]; exact this
  | succ i =>
    simp only [List.getElem?_cons_succ] at hD
    have := hw (Ls.length + i) D (by rw [List.getElem?_append_right (by omega)]; simpa using hD)
    have e : own v (i + 1) g = own w (Ls.length + i) g := by
      refine own_eq fun b => ?_
      rw [hv b]
      by_cases hq : w b = Ls.length + i
      · exact .inl ⟨by rw [if_neg (by omega)]; omega, hq, rfl⟩
      · exact .inr ⟨.inl (by split <;> omega), .inl hq⟩
    rw [e]; exact this
theorem SatG_up (L : List HProp) (hL : ∀ C ∈ L, Up C) : Up (SatG L) := by
  intro g g' hle ⟨w, hw⟩
  refine ⟨w, fun i C hC => hL C (List.mem_of_getElem? hC) _ _ ?_ (hw i C hC)⟩
  intro b o h
  unfold own at h ⊢
  split at h
  · rename_i hb; rw [if_pos hb]; exact hle b o h
  · cases h
/-- Two pieces become one. -/
theorem Sat.merge1 {C D E : HProp} {L : List HProp} {h : Heap} (H : Sat (C :: D :: L) h) (hC : Up C) (hD : Up D) (he : ∀ g, C g → D g → E g) : Sat (E :: L) h := by
  obtain ⟨w, hw⟩ := H
  obtain ⟨v, hv⟩ : ∃ v : Nat → Nat, ∀ b, v b = (if w b = 0 then 0 else w b - 1) := ⟨_, fun _ => rfl⟩
  refine ⟨v, ?_⟩
  intro i F hF
  cases i with
  | zero =>
    simp at hF
    subst hF
    have hle : ∀ k, k ≤ 1 → PH.le (own w k (hp h)) (own v 0 (hp h)) := by
      intro k hk b o hb
      unfold own at hb ⊢
      split at hb
      · rename_i h0; rw [if_pos (by rw [hv b]; split <;> omega)]; exact hb
      · cases hb
    exact he _ (hC _ _ (hle 0 (by omega)) (hw 0 C rfl)) (hD _ _ (hle 1 (by omega)) (hw 1 D rfl))
  | succ i =>
    have := hw (i + 2) F (by simpa using hF)
    have e : own v (i + 1) (hp h) = own w (i + 2) (hp h) := by
      refine own_eq fun b => ?_
      rw [hv b]
      by_cases hq : w b = i + 2
      · exact .inl ⟨by rw [if_neg (by omega)]; omega, hq, rfl⟩
      · exact .inr ⟨.inl (by split <;> omega), .inl hq⟩
    rw [e]; exact this

end Go.Kx
