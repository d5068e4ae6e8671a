/- PictureSizes: names for slices that never turn; the walk (Piq, Piu). -/
import Derived.Test.YtjdpejggafefjaaDoorPix
/- Names for slices that never turn: so that their headers may be held across calls. -/
namespace Go.Kx
set_option linter.unusedVariables false
set_option linter.unusedSimpArgs false
open Go

theorem RelH.dead {base : Heap} {G : Gh} {h : Heap} {σ : St} (H : RelH base G h σ) (l : Loc) :
    Gh.le base.size G (G.put σ.length 0 l) ∧ RelH base (G.put σ.length 0 l) h (σ ++ [.dead]) := by
  have hnone : ∀ v, G.T σ.length v = none := by
    intro v
    cases hv : G.T σ.length v with
    | none => rfl
    | some m => have := (H.bd _ _ _ hv).1; omega
  have hle : Gh.le base.size G (G.put σ.length 0 l) := Gh.le_put (hnone 0)
  have hcase : ∀ i m, locOf (G.put σ.length 0 l) (σ ++ [Res.dead]) i = some m → i < σ.length ∧ locOf G σ i = some m := by
    intro i m hm
    have hlt := locOf_lt hm
    simp at hlt
    by_cases hi : i < σ.length
    · refine ⟨hi, ?_⟩
      rw [locOf_append hi] at hm
      unfold locOf at hm ⊢
      simp only [Gh.put] at hm
      rw [← hm]
      congr 1; funext r; congr 1; funext v
      rw [if_neg (by omega)]
    · have : i = σ.length := by omega
      subst this
      unfold locOf at hm
      simp [Res.live] at hm
  have hat : ∀ i r, (σ ++ [Res.dead])[i]? = some r → (i < σ.length ∧ σ[i]? = some r) ∨ r = .dead := by
    intro i r hi
    by_cases hlt : i < σ.length
    · rw [List.getElem?_append_left hlt] at hi
      exact .inl ⟨hlt, hi⟩
    · have h1 := (List.getElem?_eq_some_iff.1 hi).1
      simp at h1
      have : i = σ.length := by omega
      subst this
      simp at hi
      exact .inr hi.symm
  refine ⟨hle, H.tab, H.size, H.keep, H.st, ?_, ?_, ?_, ?_, ?_, H.maps.mono (map_app rfl) hle.g hle.T fun _ _ _ h => h⟩
  · intro i v cs hi
    rcases hat i _ hi with ⟨_, hi⟩ | h
    · obtain ⟨m, h1, h2, h3, h4, h5⟩ := H.obj i v cs hi
      refine ⟨m, hle.T _ _ _ h1, h2, h3, h4, fun j a ha => ?_⟩
      obtain ⟨u, h6, h7⟩ := h5 j a ha
      exact ⟨u, h6, h7.mono hle⟩
    · cases h
  · intro i v cs hi
    rcases hat i _ hi with ⟨_, hi⟩ | h
    · obtain ⟨m, h1, h2, h3⟩ := H.frz i v cs hi
      refine ⟨m, hle.T _ _ _ h1, h2, fun j a ha => ?_⟩
      obtain ⟨u, h6, h7⟩ := h3 j a ha
      exact ⟨u, h6, h7.mono hle⟩
    · cases h
  · intro i m hm
    exact H.own i m (hcase i m hm).2
  · intro i j m m' hij hm hm'
    exact H.disj i j m m' hij (hcase i m hm).2 (hcase j m' hm').2
  · intro i v m hm
    simp only [Gh.put] at hm
    split at hm
    · rename_i hc
      obtain ⟨rfl, rfl⟩ := hc
      refine ⟨by simp, fun r w' hr hw => ?_⟩
      simp at hr
      subst hr
      cases hw
    · obtain ⟨h1, h2⟩ := H.bd i v m hm
      refine ⟨by simp; omega, fun r w' hr hw => ?_⟩
      rcases hat i _ hr with ⟨_, hr⟩ | h
      · exact h2 r w' hr hw
      · subst h; cases hw
/-- The rows of a slice, named from i on. -/
def tokL (sz : Nat) : Nat → List (Nat × List AV) → List AV
  | _, [] => []
  | i, p :: ps => .sl p.1 p.2 (.id i 0 sz) :: tokL sz (i + 1) ps
theorem names_rel (sz : Nat) {base : Heap} {h : Heap} : ∀ (ps : List (Nat × List AV)) {G : Gh} {σ : St} {vs : List Value}, (∀ p ∈ ps, 0 < p.1) → RelH base G h σ → RelL G (ps.map fun p => AV.sl p.1 p.2 .none) vs →
    ∃ G', Gh.le base.size G G' ∧ RelH base G' h (σ ++ List.replicate ps.length .dead) ∧ RelL G' (tokL sz σ.length ps) vs := by
  intro ps
  induction ps with
  | nil =>
    intro G σ vs _ H hL
    exact ⟨G, .refl _ _, by simpa using H, hL⟩
  | cons p ps ih =>
    intro G σ vs hp H hL
    obtain ⟨u, us, rfl, h1, h2⟩ := hL.cons_inv
    obtain ⟨n, cs⟩ := p
    have hn : 0 < n := hp (n, cs) (by simp)
    cases h1 with
    | sl _ _ _ a cap ws k1 k2 k3 k4 k5 k6 =>
      obtain ⟨b, off, rfl, k5'⟩ : ∃ b off, a = some ⟨b, off, none⟩ ∧ True := by
        rcases k5 with ⟨k5, _⟩ | ⟨b, off, k5, _⟩
        · omega
        · exact ⟨b, off, k5, trivial⟩
      obtain ⟨l1, H1⟩ := H.dead ⟨b, off, cap, n, off + cs.length, off + cap * sz, false⟩
      obtain ⟨G2, l2, H2, r2⟩ := ih (fun p hp' => hp p (by simp [hp'])) H1 (h2.mono l1)
      refine ⟨G2, l1.trans l2, ?_, ?_⟩
      · rw [List.length_cons, List.replicate_succ]
        simpa using H2
      · rw [List.length_append] at r2
        refine .cons ?_ r2
        refine RelV.sl n cs _ _ cap ws k1 (fun i a u ha hu => ((k2 i a u ha hu).mono l1).mono l2) k3 k4 (k5.mono fun b o u hu => l2.g _ _ _ (l1.g _ _ _ hu)) ?_
        exact ⟨_, l2.T _ _ _ (Gh.put_self _ _ _ _), rfl, rfl, rfl, rfl, by simp⟩
theorem tokL_len (sz : Nat) : ∀ (ps : List (Nat × List AV)) (i : Nat), (tokL sz i ps).length = ps.length := by
  intro ps
  induction ps with
  | nil => intro i; rfl
  | cons p ps ih => intro i; simp [tokL, ih]
theorem tokL_at (sz : Nat) : ∀ (ps : List (Nat × List AV)) (i k : Nat) (p : Nat × List AV), ps[k]? = some p → (tokL sz i ps)[k]? = some (.sl p.1 p.2 (.id (i + k) 0 sz)) := by
  intro ps
  induction ps with
  | nil => intro i k p h; simp at h
  | cons q ps ih =>
    intro i k p h
    cases k with
    | zero => simp at h; subst h; rfl
    | succ k =>
      have := ih (i + 1) k p (by simpa using h)
      simp only [tokL, List.getElem?_cons_succ]
      rw [this]
      congr 3
      omega
/-- The rows of a slice in a variable get names. -/
theorem GU.names {ε : AEnv} {σ : St} (t sz : Nat) (ps : List (Nat × List AV)) (hp : ∀ p ∈ ps, 0 < p.1) (ht : ε t = .sl ps.length (ps.map fun p => AV.sl p.1 p.2 .none) .none) :
    GU ε σ (ε.set t (.sl ps.length (tokL sz σ.length ps) .none)) (σ ++ List.replicate ps.length .dead) := by
  intro base G h ρ H E
  have e0 := E t
  rw [ht] at e0
  generalize hu : ρ t = u at e0
  cases e0 with
  | sl _ _ _ a cap vs h1 h2 h3 h4 h5 h6 =>
    obtain ⟨G1, k1, k2, k3⟩ := names_rel sz ps hp H (show RelL G _ vs from ⟨h1, h2⟩)
    refine ⟨G1, k1, k2, fun s => ?_⟩
    simp only [AEnv.set]
    split
    · rename_i hs
      subst hs
      rw [hu]
      exact .sl _ _ _ _ _ vs k3.1 k3.2 h3 h4 (h5.mono k1.g) trivial
    · exact (E s).mono k1
end Go.Kx
/- PictureSizes: plain law and walk. -/
namespace Go.Proofs.YtjdpejggafefjaaDoor
set_option linter.unusedVariables false
set_option linter.unusedSimpArgs false
open Go Go.Kx Go.Proofs

theorem sK_cnt {r : List CC} (hr : RowOk r) : ∀ k, k ≤ r.length → (sK r k).countP (fun b => decide (b ≠ 46)) = k ∧ (sK r k).countP (fun b => decide (b = 60)) = (r.take k).countP (fun c => c.wt) := by
  intro k
  induction k with
  | zero => intro _; exact ⟨rfl, rfl⟩
  | succ k ih =>
    intro hk
    obtain ⟨h1, h2⟩ := ih (by omega)
    obtain ⟨c, hc⟩ := at_lt (show k < r.length by omega)
    rw [sK_succ hr hc, take_succ_at hc]
    simp only [List.countP_append, h1, h2]
    have e1 : (List.replicate (c.st.toNat - lenK r k) (46 : UInt8)).countP (fun b => decide (b ≠ 46)) = 0 := by simp [List.countP_replicate]
    have e2 : (List.replicate (c.st.toNat - lenK r k) (46 : UInt8)).countP (fun b => decide (b = 60)) = 0 := by simp [List.countP_replicate]
    rw [e1, e2]
    cases hw : c.wt <;> simp [sgnC, hw]
theorem lineD_cnt {r : List CC} (hr : RowOk r) : (lineD r).countP (fun b => decide (b ≠ 46)) = r.length ∧ (lineD r).countP (fun b => decide (b = 60)) = r.countP (fun c => c.wt) := by
  have := sK_cnt hr r.length (Nat.le_refl _)
  rw [List.take_length] at this
  exact this
theorem lineD_no (r : List CC) : ∀ b ∈ lineD r, b ≠ 10 := by
  intro b hb
  unfold lineD sK at hb
  rw [List.mem_map] at hb
  obtain ⟨a, _, rfl⟩ := hb
  rcases signAt_val r a with h | h | h <;> rw [h] <;> decide
theorem cnt_take {α : Type} {p : α → Bool} {l : List α} {k : Nat} {x : α} (h : l[k]? = some x) : (l.take (k + 1)).countP p = (l.take k).countP p + (if p x = true then 1 else 0) := by
  rw [take_succ_at h, List.countP_append, List.countP_singleton]
def rowP (r : List CC) : Nat × List AV := (r.length, r.flatMap aCC)
set_option maxHeartbeats 16000000 in
theorem PictureSizes_a (l : List (List CC)) (hl : l.length ≤ 9223372036854775807) : FnP Tryd.prog 5 [aRows l] fun a => a = aBool true := by
  refine fnP_in K_forebaylaw38_PictureSizes mixed rfl (by simp [AV.pureL, aRows_pure]) ?_
  simp only [S_forebaylaw38_PictureSizes]
  simp (maxSteps:=999999) -implicitDefEqProofs (disch:=omega) only [push_cast,↓reduceIte,Nat.reduceEqDiff,reduceCtorEq,wz]
  refine wpa_call law38_works_a ?_
  rintro a rfl
  simp (maxSteps:=999999) -implicitDefEqProofs (disch:=omega) only [push_cast,↓reduceIte,Nat.reduceEqDiff,reduceCtorEq,wz,aBool]
  refine wpa_call (law38_great_a l hl) ?_
  rintro a ⟨b, rfl, hb⟩
  cases b with
  | true =>
    simp (maxSteps:=999999) -implicitDefEqProofs (disch:=omega) only [push_cast,↓reduceIte,Nat.reduceEqDiff,reduceCtorEq,wz,aBool]
    exact ⟨[], rfl⟩
  | false =>
    have hG := hb rfl
    obtain ⟨m1, m2⟩ := okG_len hG
    have hown := law38_own_a l m1 m2
    have hl2 : ∀ r ∈ l, r.length ≤ 9223372036854775807 := fun r hr => by have := m2 r hr; omega
    simp (maxSteps:=999999) -implicitDefEqProofs (disch:=omega) only [push_cast,↓reduceIte,Nat.reduceEqDiff,reduceCtorEq,wz,aBool]
    refine wpa_call (ref33_Check_a l hl hl2) ?_
    rintro a rfl
    by_cases hc : gchk l = 0
    · obtain ⟨hlen, hrow⟩ := gchk_ok hc
      have hT : textG l = textP l := by unfold textG; rw [if_pos hc]
      have htl := textG_len hG
      rw [hT] at htl
      obtain ⟨s, e, hch, hsl, hs⟩ : ∃ s e, chartG l = (s, e) ∧ s.length ≤ 100000 ∧ ((e = 0 ∧ partsB 10 true [] s = l.map lineD ∧ ∀ r ∈ l, lastS r ≤ 199) ∨ (e ≠ 0 ∧ s = [])) := by
        unfold chartG
        rw [if_neg (by simp [hc])]
        by_cases hall : (l.all fun r => decide (lastS r ≤ 199)) = true
        · rw [if_pos hall]
          have hal : ∀ r ∈ l, lastS r ≤ 199 := fun r hr => by simpa using List.all_eq_true.1 hall r hr
          have := lines_part_len hlen hrow hal
          refine ⟨_, _, rfl, by omega, .inl ⟨rfl, lines_back _ ?_, hal⟩⟩
          intro w hw
          rw [List.mem_map] at hw
          obtain ⟨r, _, rfl⟩ := hw
          exact lineD_no r
        · rw [if_neg hall]
          exact ⟨_, _, rfl, by simp, .inr ⟨by decide, rfl⟩⟩
      have hL1 := ref05_Lines_a (bA s) (by rw [size_bA]; exact hsl)
      have hL2 := ref05_Lines_a (bA (textP l)) (by rw [size_bA]; exact htl)
      rw [show (bA s).data.toList = s from rfl] at hL1
      rw [show (bA (textP l)).data.toList = textP l from rfl, show partsB 10 true [] (textP l) = l.map lineT from lines_back (l.map lineT) (by intro w hw; rw [List.mem_map] at hw; obtain ⟨r, _, rfl⟩ := hw; exact lineT_no r)] at hL2
      simp (maxSteps:=999999) -implicitDefEqProofs (disch:=omega) only [push_cast,↓reduceIte,Nat.reduceEqDiff,reduceCtorEq,wz,aInt,hc]
      refine wpa_call hown ?_
      rintro a rfl
      simp (maxSteps:=999999) -implicitDefEqProofs (disch:=omega) only [push_cast,↓reduceIte,Nat.reduceEqDiff,reduceCtorEq,wz]
      refine wpa_call (picture_Chart_a l hl hl2) ?_
      rintro a rfl
      rw [hch]
      simp (maxSteps:=999999) -implicitDefEqProofs (disch:=omega) only [push_cast,↓reduceIte,Nat.reduceEqDiff,reduceCtorEq,wz,aInt]
      refine wpa_call hown ?_
      rintro a rfl
      simp (maxSteps:=999999) -implicitDefEqProofs (disch:=omega) only [push_cast,↓reduceIte,Nat.reduceEqDiff,reduceCtorEq,wz]
      refine wpa_call (picture_Text_a l hl hl2) ?_
      rintro a rfl
      rw [hT, hc]
      simp (maxSteps:=999999) -implicitDefEqProofs (disch:=omega) only [push_cast,↓reduceIte,Nat.reduceEqDiff,reduceCtorEq,wz,aInt]
      refine wpa_call hL1 ?_
      rintro a rfl
      simp (maxSteps:=999999) -implicitDefEqProofs (disch:=omega) only [push_cast,↓reduceIte,Nat.reduceEqDiff,reduceCtorEq,wz]
      refine wpa_call hL2 ?_
      rintro a rfl
      simp (maxSteps:=999999) -implicitDefEqProofs (disch:=omega) only [push_cast,↓reduceIte,Nat.reduceEqDiff,reduceCtorEq,wz,aSl]
      have hps : ∀ p ∈ l.map rowP, 0 < p.1 := by
        intro p hp
        rw [List.mem_map] at hp
        obtain ⟨r, hr, rfl⟩ := hp
        exact (hrow r hr).pos
      have hrows : aRows l = .sl l.length ((l.map rowP).map fun p => AV.sl p.1 p.2 .none) .none := by
        simp [aRows, aSl, List.map_map, Function.comp_def, rowP, aRow, aSlN]
      have hTK : ∀ k r, l[k]? = some r → (tokL 2 0 (l.map rowP))[k]? = some (AV.sl r.length (r.flatMap aCC) (.id (0 + k) 0 2)) := fun k r hr => tokL_at 2 _ 0 k (rowP r) (by rw [List.getElem?_map, hr]; rfl)
      have hTKl : (l.map rowP).length = l.length := by simp
      have hTX : ∀ k r, l[k]? = some r → (l.map lineT)[k]? = some (lineT r) := fun k r hr => by rw [List.getElem?_map, hr]; rfl
      have hTXl : (l.map lineT).length = l.length := by simp
      have hLN : e = 0 → ∀ k r, l[k]? = some r → (partsB 10 true [] s)[k]? = some (lineD r) := fun he k r hr => by
        rcases hs with ⟨_, h, _⟩ | ⟨h, _⟩
        · exact (congrArg (fun z : List (List UInt8) => z[k]?) h).trans (by rw [List.getElem?_map, hr]; rfl)
        · exact absurd he h
      have hLNl : e = 0 → (partsB 10 true [] s).length = l.length := fun he => by
        rcases hs with ⟨_, h, _⟩ | ⟨h, _⟩
        · exact (congrArg List.length h).trans (by simp)
        · exact absurd he h
      have hse : e ≠ 0 → s = [] := fun he => by
        rcases hs with ⟨h, _⟩ | ⟨_, h⟩
        · exact absurd h he
        · exact h
      have hd0 : fillA [] [] [] = some ([] : List AV) := rfl
      obtain ⟨TK, hTKe⟩ : ∃ TK, TK = tokL 2 0 (l.map rowP) := ⟨_, rfl⟩
      rw [← hTKe] at hTK
      generalize hTXe : l.map lineT = TX at hTX hTXl
      generalize hLNe : partsB 10 true [] s = LN at hLN hLNl
      refine wpa_blg (GU.names 0 2 (l.map rowP) hps (by simp (maxSteps:=999999) -implicitDefEqProofs (disch:=omega) only [push_cast,↓reduceIte,Nat.reduceEqDiff,reduceCtorEq,wz]; exact hrows)) (α := Nat) (I := fun i ε σ => (ε 0 = .sl l.length TK .none ∧ ε 3 = aB s ∧ ε 4 = .v (.int .i64 e) ∧ ε 7 = .sl LN.length (LN.map aB) .none ∧ ε 8 = .sl l.length (TX.map aB) .none ∧ ε 9 = .v (.int .i64 i)) ∧ i ≤ l.length)
        (μ := fun i => l.length - i) (Q := fun ε σ => ε 0 = .sl l.length TK .none ∧ ε 3 = aB s ∧ ε 4 = .v (.int .i64 e) ∧ ε 7 = .sl LN.length (LN.map aB) .none ∧ ε 8 = .sl l.length (TX.map aB) .none) (x := 0) ?_ ?_ ?_
      · refine ⟨⟨?_, ?_, ?_, ?_, ?_, ?_⟩, by omega⟩
        · simp (maxSteps:=999999) -implicitDefEqProofs (disch:=omega) only [push_cast,↓reduceIte,Nat.reduceEqDiff,reduceCtorEq,wz]; rw [hTKe]
        all_goals first | (simp (maxSteps:=999999) -implicitDefEqProofs (disch:=omega) only [push_cast,↓reduceIte,Nat.reduceEqDiff,reduceCtorEq,wz]; done) | (simp (maxSteps:=999999) -implicitDefEqProofs (disch:=omega) only [push_cast,↓reduceIte,Nat.reduceEqDiff,reduceCtorEq,wz]; rfl)
      · rintro i ε σ N E ⟨hρ, hi⟩ hN hE
        simp only [S_forebaylaw38_PictureSizes_L1]
        by_cases hlt : i < l.length
        · obtain ⟨r, hr⟩ := at_lt hlt
          have hro := hrow r (List.mem_of_getElem? hr)
          have hrl := hro.len
          have hK := hTK i r hr
          have hX := hTX i r hr
          have hll := lineT_len hro
          have hi1 : ¬ ((l.length : Int) ≤ (i : Int)) := by omega
          have hi2 : (i : Int) < (l.length : Int) := by omega
          have hf := ref05_Fields_a (bA (lineT r)) (by rw [size_bA]; omega)
          rw [show (bA (lineT r)).data.toList = lineT r from rfl, rowW_back] at hf
          have hrw := rowW_len r
          simp (maxSteps:=999999) -implicitDefEqProofs (disch:=omega) only [push_cast,↓reduceIte,Nat.reduceEqDiff,reduceCtorEq,wz,hρ,hi1,hi2,hX,hK]
          refine wpa_call hf ?_
          rintro a rfl
          simp (maxSteps:=999999) -implicitDefEqProofs (disch:=omega) only [push_cast,↓reduceIte,Nat.reduceEqDiff,reduceCtorEq,wz,hρ]
          refine ⟨aholds_ldg (a := .sl r.length (r.flatMap aCC) (.id (0 + i) 0 2)) (by simp (maxSteps:=999999) -implicitDefEqProofs (disch:=omega) only [push_cast,↓reduceIte,Nat.reduceEqDiff,reduceCtorEq,wz]) (by simp (maxSteps:=999999) -implicitDefEqProofs (disch:=omega) only [push_cast,↓reduceIte,Nat.reduceEqDiff,reduceCtorEq,wz,hρ,hK]) rfl (by simp (maxSteps:=999999) -implicitDefEqProofs (disch:=omega) only [push_cast,↓reduceIte,Nat.reduceEqDiff,reduceCtorEq,wz]), ?_⟩
          by_cases he : e = 0
          · have hD := hLN he i r hr
            have hLl := hLNl he
            have hi3 : ¬ ((LN.length : Int) ≤ (i : Int)) := by omega
            have hrp := hro.pos
            obtain ⟨c, hcl, hce⟩ := last_at hro
            have hbd := hro.bd c (List.mem_of_getElem? hcl)
            have hlD := lineD_len hro
            have h199 : lastS r ≤ 199 := by
              rcases hs with ⟨_, _, h⟩ | ⟨h, _⟩
              · exact h r (List.mem_of_getElem? hr)
              · exact absurd he h
            have hdq : (r.flatMap aCC).drop (((r.length : Int) - 1).toNat * 2) = aCC c ++ (r.drop (r.length - 1 + 1)).flatMap aCC := by rw [show ((r.length : Int) - 1).toNat = r.length - 1 by omega]; exact flat_drop aCC_len hcl
            have g0 : ∀ (x : CC) (m : List AV), (aCC x ++ m)[0]? = some (.v (.int .i64 x.st)) := fun x m => rfl
            have g1 : ∀ (x : CC) (m : List AV), (aCC x ++ m)[1]? = some (.v (.bool x.wt)) := fun x m => rfl
            obtain ⟨hn1, hn2⟩ := lineD_cnt hro
            generalize hDe : lineD r = D at hD hlD hn1 hn2
            have hsz : ((bA D).size : Int) = c.st + 1 := by rw [size_bA]; omega
            simp (maxSteps:=999999) -implicitDefEqProofs (disch:=omega) only [push_cast,↓reduceIte,Nat.reduceEqDiff,reduceCtorEq,wz,hρ,aSl,hrw,he,hi3,hD,hK,hdq,g0,hsz]
            refine wpa_blx (α := Nat) (I := fun j ε σ => (ε 0 = .sl l.length TK .none ∧ ε 3 = aB s ∧ ε 4 = .v (.int .i64 e) ∧ ε 7 = .sl LN.length (LN.map aB) .none ∧ ε 8 = .sl l.length (TX.map aB) .none ∧ ε 9 = .v (.int .i64 i) ∧ ε 10 = .v (.int .i64 ((D.take j).countP (fun b => decide (b ≠ 46)) : Nat)) ∧ ε 11 = .v (.int .i64 ((D.take j).countP (fun b => decide (b = 60)) : Nat)) ∧ ε 12 = .v (.int .i64 0) ∧ ε 13 = .v (.int .i64 j)) ∧ j ≤ D.length)
              (μ := fun j => D.length - j) (Q := fun ε σ => ε 0 = .sl l.length TK .none ∧ ε 3 = aB s ∧ ε 4 = .v (.int .i64 e) ∧ ε 7 = .sl LN.length (LN.map aB) .none ∧ ε 8 = .sl l.length (TX.map aB) .none ∧ ε 9 = .v (.int .i64 i) ∧ ε 10 = .v (.int .i64 (r.length : Nat)) ∧ ε 11 = .v (.int .i64 (r.countP (fun c => c.wt) : Nat)) ∧ ε 12 = .v (.int .i64 0)) (x := 0) ?_ ?_ ?_
            · exact ⟨by simp (maxSteps:=999999) -implicitDefEqProofs (disch:=omega) only [push_cast,↓reduceIte,Nat.reduceEqDiff,reduceCtorEq,wz,hρ,he]; first | done | exact ⟨rfl, rfl⟩ | simp, by omega⟩
            · clear hρ hN hE ε σ N E
              rintro j ε σ N E X' R' ⟨hρ, hj⟩ hN hE
              simp only [S_forebaylaw38_PictureSizes_L2]
              by_cases hlj : j < D.length
              · obtain ⟨b, hb⟩ := at_lt hlj
                have hix : PF.val .ixs [.string (bA D), .int .i64 j] = some (.int .u8 b.toNat) := pv_str_ix (by omega) (by simpa using hb)
                have t1 := cnt_take (p := fun b => decide (b ≠ 46)) hb
                have t2 := cnt_take (p := fun b => decide (b = 60)) hb
                have b1 := List.countP_le_length (p := fun b => decide (b ≠ 46)) (l := D.take j)
                have b2 := List.countP_le_length (p := fun b => decide (b = 60)) (l := D.take j)
                rw [List.length_take] at b1 b2
                generalize (D.take j).countP (fun b => decide (b ≠ 46)) = n1 at hρ t1 b1
                generalize (D.take j).countP (fun b => decide (b = 60)) = n2 at hρ t2 b2
                have hjs : (j : Int) < ((bA D).size : Int) := by rw [size_bA]; omega
                by_cases h46 : b = 46
                · have h46' : (b.toNat : Int) = 46 := by rw [h46]; rfl
                  have h60' : ¬ (b.toNat : Int) = 60 := by omega
                  have t1' : (D.take (j + 1)).countP (fun b => decide (b ≠ 46)) = n1 := by rw [t1, h46]; rfl
                  have t2' : (D.take (j + 1)).countP (fun b => decide (b = 60)) = n2 := by rw [t2, h46]; rfl
                  simp (maxSteps:=999999) -implicitDefEqProofs (disch:=omega) only [push_cast,↓reduceIte,Nat.reduceEqDiff,reduceCtorEq,wz,hρ,hD,hix,hjs,h46',h60']
                  exact hN (j + 1) _ _ ⟨by rw [t1', t2']; simp (maxSteps:=999999) -implicitDefEqProofs (disch:=omega) only [push_cast,↓reduceIte,Nat.reduceEqDiff,reduceCtorEq,wz,hρ], by omega⟩ (by omega)
                · have h46' : ¬ (b.toNat : Int) = 46 := fun h => h46 (UInt8.toNat_inj.1 (by show b.toNat = 46; omega))
                  have t1' : (D.take (j + 1)).countP (fun b => decide (b ≠ 46)) = n1 + 1 := by rw [t1]; simp [h46]
                  by_cases h60 : b = 60
                  · have h60' : (b.toNat : Int) = 60 := by rw [h60]; rfl
                    have t2' : (D.take (j + 1)).countP (fun b => decide (b = 60)) = n2 + 1 := by rw [t2]; simp [h60]
                    simp (maxSteps:=999999) -implicitDefEqProofs (disch:=omega) only [push_cast,↓reduceIte,Nat.reduceEqDiff,reduceCtorEq,wz,hρ,hD,hix,hjs,h46',h60']
                    exact hN (j + 1) _ _ ⟨by rw [t1', t2']; simp (maxSteps:=999999) -implicitDefEqProofs (disch:=omega) only [push_cast,↓reduceIte,Nat.reduceEqDiff,reduceCtorEq,wz,hρ], by omega⟩ (by omega)
                  · have h60' : ¬ (b.toNat : Int) = 60 := fun h => h60 (UInt8.toNat_inj.1 (by show b.toNat = 60; omega))
                    have t2' : (D.take (j + 1)).countP (fun b => decide (b = 60)) = n2 := by rw [t2]; simp [h60]
                    simp (maxSteps:=999999) -implicitDefEqProofs (disch:=omega) only [push_cast,↓reduceIte,Nat.reduceEqDiff,reduceCtorEq,wz,hρ,hD,hix,hjs,h46',h60']
                    exact hN (j + 1) _ _ ⟨by rw [t1', t2']; simp (maxSteps:=999999) -implicitDefEqProofs (disch:=omega) only [push_cast,↓reduceIte,Nat.reduceEqDiff,reduceCtorEq,wz,hρ], by omega⟩ (by omega)
              · have hle : ¬ (j : Int) < ((bA D).size : Int) := by rw [size_bA]; omega
                simp (maxSteps:=999999) -implicitDefEqProofs (disch:=omega) only [push_cast,↓reduceIte,Nat.reduceEqDiff,reduceCtorEq,wz,hρ,hD,hle]
                obtain rfl : j = D.length := by omega
                rw [List.take_length, hn1, hn2] at hρ
                exact hE _ _ (by simp (maxSteps:=999999) -implicitDefEqProofs (disch:=omega) only [push_cast,↓reduceIte,Nat.reduceEqDiff,reduceCtorEq,wz,hρ])
            · clear hρ
              rintro ε σ hρ
              simp (maxSteps:=999999) -implicitDefEqProofs (disch:=omega) only [push_cast,↓reduceIte,Nat.reduceEqDiff,reduceCtorEq,wz,hρ]
              refine wpa_blx (α := Nat) (I := fun j ε σ => (ε 0 = .sl l.length TK .none ∧ ε 3 = aB s ∧ ε 4 = .v (.int .i64 e) ∧ ε 7 = .sl LN.length (LN.map aB) .none ∧ ε 8 = .sl l.length (TX.map aB) .none ∧ ε 9 = .v (.int .i64 i) ∧ ε 10 = .v (.int .i64 (r.length : Nat)) ∧ ε 11 = .v (.int .i64 (r.countP (fun c => c.wt) : Nat)) ∧ ε 12 = .v (.int .i64 ((r.take j).countP (fun c => c.wt) : Nat)) ∧ ε 14 = .v (.int .i64 j)) ∧ j ≤ r.length)
                (μ := fun j => r.length - j) (Q := fun ε σ => ε 0 = .sl l.length TK .none ∧ ε 3 = aB s ∧ ε 4 = .v (.int .i64 e) ∧ ε 7 = .sl LN.length (LN.map aB) .none ∧ ε 8 = .sl l.length (TX.map aB) .none ∧ ε 9 = .v (.int .i64 i) ∧ ε 10 = .v (.int .i64 (r.length : Nat)) ∧ ε 11 = .v (.int .i64 (r.countP (fun c => c.wt) : Nat)) ∧ ε 12 = .v (.int .i64 (r.countP (fun c => c.wt) : Nat))) (x := 0) ?_ ?_ ?_
              · exact ⟨by simp (maxSteps:=999999) -implicitDefEqProofs (disch:=omega) only [push_cast,↓reduceIte,Nat.reduceEqDiff,reduceCtorEq,wz,hρ]; first | done | exact ⟨rfl, rfl⟩ | simp, by omega⟩
              · clear hρ hN hE ε σ N E
                rintro j ε σ N E X' R' ⟨hρ, hj⟩ hN hE
                simp only [S_forebaylaw38_PictureSizes_L3]
                by_cases hlj : j < r.length
                · obtain ⟨d, hd⟩ := at_lt hlj
                  have hdd := flat_drop aCC_len hd
                  have t1 := cnt_take (p := fun c : CC => c.wt) hd
                  have b1 := List.countP_le_length (p := fun c : CC => c.wt) (l := r.take j)
                  rw [List.length_take] at b1
                  generalize (r.take j).countP (fun c => c.wt) = n1 at hρ t1 b1
                  cases hw : d.wt with
                  | true =>
                    have t1' : (r.take (j + 1)).countP (fun c => c.wt) = n1 + 1 := by rw [t1]; simp [hw]
                    simp (maxSteps:=999999) -implicitDefEqProofs (disch:=omega) only [push_cast,↓reduceIte,Nat.reduceEqDiff,reduceCtorEq,wz,hρ,hK,hdd,g1,hw]
                    exact hN (j + 1) _ _ ⟨by rw [t1']; simp (maxSteps:=999999) -implicitDefEqProofs (disch:=omega) only [push_cast,↓reduceIte,Nat.reduceEqDiff,reduceCtorEq,wz,hρ], by omega⟩ (by omega)
                  | false =>
                    have t1' : (r.take (j + 1)).countP (fun c => c.wt) = n1 := by rw [t1]; simp [hw]
                    simp (maxSteps:=999999) -implicitDefEqProofs (disch:=omega) only [push_cast,↓reduceIte,Nat.reduceEqDiff,reduceCtorEq,wz,hρ,hK,hdd,g1,hw]
                    exact hN (j + 1) _ _ ⟨by rw [t1']; simp (maxSteps:=999999) -implicitDefEqProofs (disch:=omega) only [push_cast,↓reduceIte,Nat.reduceEqDiff,reduceCtorEq,wz,hρ], by omega⟩ (by omega)
                · have hle : ¬ (j : Int) < (r.length : Int) := by omega
                  simp (maxSteps:=999999) -implicitDefEqProofs (disch:=omega) only [push_cast,↓reduceIte,Nat.reduceEqDiff,reduceCtorEq,wz,hρ,hK,hle]
                  obtain rfl : j = r.length := by omega
                  rw [List.take_length] at hρ
                  exact hE _ _ (by simp (maxSteps:=999999) -implicitDefEqProofs (disch:=omega) only [push_cast,↓reduceIte,Nat.reduceEqDiff,reduceCtorEq,wz,hρ])
              · clear hρ
                rintro ε σ hρ
                simp (maxSteps:=999999) -implicitDefEqProofs (disch:=omega) only [push_cast,↓reduceIte,Nat.reduceEqDiff,reduceCtorEq,wz,hρ,hK]
                exact hN (i + 1) _ _ ⟨by simp (maxSteps:=999999) -implicitDefEqProofs (disch:=omega) only [push_cast,↓reduceIte,Nat.reduceEqDiff,reduceCtorEq,wz,hρ], by omega⟩ (by omega)
          · simp (maxSteps:=999999) -implicitDefEqProofs (disch:=omega) only [push_cast,↓reduceIte,Nat.reduceEqDiff,reduceCtorEq,wz,hρ,aSl,hrw,he]
            exact hN (i + 1) _ _ ⟨by simp (maxSteps:=999999) -implicitDefEqProofs (disch:=omega) only [push_cast,↓reduceIte,Nat.reduceEqDiff,reduceCtorEq,wz,hρ], by omega⟩ (by omega)
        · have hle : ¬ (i : Int) < (l.length : Int) := by omega
          simp (maxSteps:=999999) -implicitDefEqProofs (disch:=omega) only [push_cast,↓reduceIte,Nat.reduceEqDiff,reduceCtorEq,wz,hρ,hle]
          exact hE _ _ (by simp (maxSteps:=999999) -implicitDefEqProofs (disch:=omega) only [push_cast,↓reduceIte,Nat.reduceEqDiff,reduceCtorEq,wz,hρ])
      · rintro ε σ hρ
        by_cases he : e = 0
        · have h1 := hLNl he
          have h3 : ((LN.length : Int) = (l.length : Int)) := by omega
          simp (maxSteps:=999999) -implicitDefEqProofs (disch:=omega) only [push_cast,↓reduceIte,Nat.reduceEqDiff,reduceCtorEq,wz,hρ,he,h3]
          exact ⟨[], rfl⟩
        · have h1 := hse he
          have h3 : bA s = ⟨#[]⟩ := by rw [h1]
          simp (maxSteps:=999999) -implicitDefEqProofs (disch:=omega) only [push_cast,↓reduceIte,Nat.reduceEqDiff,reduceCtorEq,wz,hρ,he,h3]
          exact ⟨[], rfl⟩
    · simp (maxSteps:=999999) -implicitDefEqProofs (disch:=omega) only [push_cast,↓reduceIte,Nat.reduceEqDiff,reduceCtorEq,wz,aInt,hc]
      exact ⟨[], rfl⟩
end Go.Proofs.YtjdpejggafefjaaDoor
