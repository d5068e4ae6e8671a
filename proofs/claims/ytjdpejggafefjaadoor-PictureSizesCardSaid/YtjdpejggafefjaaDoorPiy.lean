/- Pictures: checks, Text, Read, of the program and the document (Pia .. Pii). -/
import Derived.Test.YtjdpejggafefjaaDoorWz
import Derived.Test.YtjdpejggafefjaaDoorCPic
import Derived.Shelf.Strings.BuilderK
/- Rows of a pipeline: grid.row, Check, and the document's Check (turned from the texts of the Grid statements). -/
namespace Go.Proofs.YtjdpejggafefjaaDoor
set_option linter.unusedVariables false
set_option linter.unusedSimpArgs false
open Go Go.Kx Go.Proofs

/-- A cell of a row. -/
structure CC where
  st : Int
  wt : Bool
  deriving DecidableEq
def aCC (c : CC) : List AV := [.v (.int .i64 c.st), .v (.bool c.wt)]
theorem aCC_len (c : CC) : (aCC c).length = 2 := rfl
theorem aCC_pure (c : CC) : AV.pureL (aCC c) = true := by simp [aCC, AV.pureL, AV.pure]
theorem aCC_res (σ : St) (c : CC) : AV.resL σ (aCC c) = aCC c := by simp [aCC, AV.resL, AV.res]
def aRow (r : List CC) : AV := aSlN aCC r
def aRows (l : List (List CC)) : AV := aSl aRow l
theorem aRow_pure (r : List CC) : (aRow r).pure = true := aSlN_pure aCC_pure r
theorem aRow_res (σ : St) (r : List CC) : (aRow r).res σ = aRow r := aSlN_res (aCC_res σ) r .none
theorem aRows_pure (l : List (List CC)) : (aRows l).pure = true := aSl_pure aRow_pure l
theorem aRows_res (σ : St) (l : List (List CC)) (t : Tok) : (AV.sl l.length (l.map aRow) t).res σ = aRows l := aSl_res (aRow_res σ) l t

/-- Each stage is later than the one ahead of it. -/
def incB : Int → List CC → Bool
  | _, [] => true
  | s, c :: cs => decide (s < c.st) && decide (c.st ≤ 1048575) && incB c.st cs
def rowT : List CC → Int
  | [] => 7
  | c :: cs => if c.st ≠ 0 ∨ c.wt = true then 4 else if incB c.st cs = true then 0 else 4
def rowE (r : List CC) : Int := if 100 < r.length then 9 else rowT r
def rowsE : List (List CC) → Int
  | [] => 0
  | r :: rs => if rowE r ≠ 0 then rowE r else rowsE rs
def gchk (l : List (List CC)) : Int := if 100 < l.length then 9 else rowsE l
def nc : CC := ⟨0, false⟩


theorem grid_row_a (r : List CC) (hr : r.length ≤ 9223372036854775807) : FnP Tryd.prog 85 [aRow r] fun a => a = aInt (rowE r) := by
  refine fnP_in K_grid_row mixed rfl (by simp [AV.pureL, aRow_pure]) ?_
  simp only [S_grid_row, aRow, aSlN]
  by_cases h1 : 100 < r.length
  · simp (maxSteps:=999999) -implicitDefEqProofs (disch:=omega) only [push_cast,↓reduceIte,Nat.reduceEqDiff,reduceCtorEq,wz,h1]
    exact ⟨[], rfl, by unfold rowE; rw [if_pos h1]; rfl⟩
  have hE : rowE r = rowT r := by unfold rowE; rw [if_neg h1]
  cases r with
  | nil =>
    simp (maxSteps:=999999) -implicitDefEqProofs (disch:=omega) only [push_cast,↓reduceIte,Nat.reduceEqDiff,reduceCtorEq,wz]
    exact ⟨[], rfl, by rw [hE]; rfl⟩
  | cons c cs =>
    simp only [rowT] at hE
    have h0 : ¬ ((c :: cs).length : Int) = 0 := by rw [List.length_cons]; omega
    have h01 : (0 : Int) < ((c :: cs).length : Int) := by rw [List.length_cons]; omega
    have hd0 : ∀ m : List AV, (aCC c ++ m)[0]? = some (.v (.int .i64 c.st)) := fun m => rfl
    have hd1 : ∀ m : List AV, (aCC c ++ m)[1]? = some (.v (.bool c.wt)) := fun m => rfl
    have hz : ((c :: cs).flatMap aCC).drop (Int.toNat 0 * 2) = aCC c ++ cs.flatMap aCC := rfl
    generalize hr' : c :: cs = r at *
    have hr0 : r[0]? = some c := by rw [← hr']; rfl
    have hdr1 : r.drop 1 = cs := by rw [← hr']; rfl
    by_cases h2 : c.st = 0
    · cases h3 : c.wt with
      | true =>
        simp (maxSteps:=999999) -implicitDefEqProofs (disch:=omega) only [push_cast,↓reduceIte,Nat.reduceEqDiff,reduceCtorEq,wz,h1,h0,h01,hz,hd0,hd1,h2,h3]
        exact ⟨[], rfl, by rw [hE, if_pos (.inr h3)]; rfl⟩
      | false =>
        rw [if_neg (by rw [h3]; simp [h2])] at hE
        simp (maxSteps:=999999) -implicitDefEqProofs (disch:=omega) only [push_cast,↓reduceIte,Nat.reduceEqDiff,reduceCtorEq,wz,h1,h0,h01,hz,hd0,hd1,h2,h3]
        refine wpa_bl (α := Nat) (I := fun k ε σ => (ε 0 = .sl r.length (r.flatMap aCC) .none ∧ ε 3 = .v (.int .i64 k)) ∧ 1 ≤ k ∧ k ≤ r.length ∧ ∃ p, r[k - 1]? = some p ∧ incB c.st cs = incB p.st (r.drop k))
          (μ := fun k => r.length - k) (Q := fun _ _ => incB c.st cs = true) (x := 1) ?_ ?_ ?_
        · simp (maxSteps:=999999) -implicitDefEqProofs (disch:=omega) only [push_cast,↓reduceIte,Nat.reduceEqDiff,reduceCtorEq,wz]
          exact ⟨rfl, by omega, by omega, c, hr0, by rw [hdr1]⟩
        · rintro k ε σ N E ⟨hρ, hk1, hk, p, hp, hI⟩ hN hE'
          simp only [S_grid_row_L1]
          by_cases hlt : k < r.length
          · obtain ⟨x, hx⟩ := at_lt hlt
            have hdx := flat_drop aCC_len hx
            have hdp := flat_drop aCC_len hp
            have gx : ∀ (x : CC) (m : List AV), (aCC x ++ m)[0]? = some (.v (.int .i64 x.st)) := fun x m => rfl
            have hdq : (r.flatMap aCC).drop (((k : Int) - 1).toNat * 2) = aCC p ++ (r.drop (k - 1 + 1)).flatMap aCC := by rw [show ((k : Int) - 1).toNat = k - 1 by omega]; exact hdp
            rw [drop_at hx] at hI
            simp only [incB] at hI
            by_cases h5 : x.st ≤ p.st
            · have : incB c.st cs = false := by rw [hI]; simp; intro h; omega
              simp (maxSteps:=999999) -implicitDefEqProofs (disch:=omega) only [push_cast,↓reduceIte,Nat.reduceEqDiff,reduceCtorEq,wz,hρ,hdx,hdq,gx,h5]
              exact ⟨[], rfl, by rw [hE, if_neg (by rw [this]; simp)]; rfl⟩
            · by_cases h6 : 1048575 < x.st
              · have : incB c.st cs = false := by rw [hI]; simp; intro h h'; omega
                simp (maxSteps:=999999) -implicitDefEqProofs (disch:=omega) only [push_cast,↓reduceIte,Nat.reduceEqDiff,reduceCtorEq,wz,hρ,hdx,hdq,gx,h5,h6]
                exact ⟨[], rfl, by rw [hE, if_neg (by rw [this]; simp)]; rfl⟩
              · simp (maxSteps:=999999) -implicitDefEqProofs (disch:=omega) only [push_cast,↓reduceIte,Nat.reduceEqDiff,reduceCtorEq,wz,hρ,hdx,hdq,gx,h5,h6]
                refine hN (k + 1) _ _ ?_ (by omega)
                simp (maxSteps:=999999) -implicitDefEqProofs (disch:=omega) only [push_cast,↓reduceIte,Nat.reduceEqDiff,reduceCtorEq,wz,hρ]
                refine ⟨by omega, by omega, x, by rw [Nat.add_sub_cancel]; exact hx, ?_⟩
                rw [hI]
                have a1 : p.st < x.st := by omega
                have a2 : x.st ≤ 1048575 := by omega
                simp [a1, a2]
          · simp (maxSteps:=999999) -implicitDefEqProofs (disch:=omega) only [push_cast,↓reduceIte,Nat.reduceEqDiff,reduceCtorEq,wz,hρ]
            refine hE' _ _ ?_
            rw [hI, drop_all hlt]; rfl
        · rintro ε σ h
          simp (maxSteps:=999999) -implicitDefEqProofs (disch:=omega) only [push_cast,↓reduceIte,Nat.reduceEqDiff,reduceCtorEq,wz]
          exact ⟨[], rfl, by rw [hE, if_pos h]; rfl⟩
    · simp (maxSteps:=999999) -implicitDefEqProofs (disch:=omega) only [push_cast,↓reduceIte,Nat.reduceEqDiff,reduceCtorEq,wz,h1,h0,h01,hz,hd0,hd1,h2]
      exact ⟨[], rfl, by rw [hE, if_pos (.inl h2)]; rfl⟩
theorem grid_Check_a (l : List (List CC)) (hl : l.length ≤ 9223372036854775807) (hl2 : ∀ r ∈ l, r.length ≤ 9223372036854775807) : FnP Tryd.prog 56 [aRows l] fun a => a = aInt (gchk l) := by
  refine fnP_in K_grid_Check mixed rfl (by simp [AV.pureL, aRows_pure]) ?_
  simp only [S_grid_Check, aRows, aSl]
  by_cases h1 : 100 < l.length
  · simp (maxSteps:=999999) -implicitDefEqProofs (disch:=omega) only [push_cast,↓reduceIte,Nat.reduceEqDiff,reduceCtorEq,wz,h1]
    exact ⟨[], rfl, by unfold gchk; rw [if_pos h1]; rfl⟩
  have hE : gchk l = rowsE l := by unfold gchk; rw [if_neg h1]
  rw [hE]
  simp (maxSteps:=999999) -implicitDefEqProofs (disch:=omega) only [push_cast,↓reduceIte,Nat.reduceEqDiff,reduceCtorEq,wz,h1]
  refine wpa_bl (α := Nat) (I := fun k ε σ => (ε 9 = .sl l.length (l.map aRow) .none ∧ ε 10 = .v (.int .i64 l.length) ∧ ε 11 = .v (.int .i64 k)) ∧ k ≤ l.length ∧ rowsE l = rowsE (l.drop k))
    (μ := fun k => l.length - k) (Q := fun _ _ => rowsE l = 0) (x := 0) ?_ ?_ ?_
  · simp (maxSteps:=999999) -implicitDefEqProofs (disch:=omega) only [push_cast,↓reduceIte,Nat.reduceEqDiff,reduceCtorEq,wz]
    first | omega | exact ⟨by omega, rfl⟩ | exact ⟨rfl, by omega, rfl⟩
  · rintro k ε σ N E ⟨hρ, hk, hI⟩ hN hE'
    simp only [S_grid_Check_L1]
    by_cases hlt : k < l.length
    · obtain ⟨r, hr⟩ := at_lt hlt
      have hrl := hl2 r (List.mem_of_getElem? hr)
      rw [drop_at hr, rowsE] at hI
      simp (maxSteps:=999999) -implicitDefEqProofs (disch:=omega) only [push_cast,↓reduceIte,Nat.reduceEqDiff,reduceCtorEq,wz,hρ,hr]
      refine wpa_call (grid_row_a r hrl) ?_
      rintro a rfl
      by_cases h0 : rowE r = 0
      · rw [if_neg (by rw [h0]; simp)] at hI
        simp (maxSteps:=999999) -implicitDefEqProofs (disch:=omega) only [push_cast,↓reduceIte,Nat.reduceEqDiff,reduceCtorEq,wz,hρ,aInt,h0]
        refine hN (k + 1) _ _ ?_ (by omega)
        simp (maxSteps:=999999) -implicitDefEqProofs (disch:=omega) only [push_cast,↓reduceIte,Nat.reduceEqDiff,reduceCtorEq,wz,hρ]
        exact ⟨by omega, hI⟩
      · rw [if_pos h0] at hI
        simp (maxSteps:=999999) -implicitDefEqProofs (disch:=omega) only [push_cast,↓reduceIte,Nat.reduceEqDiff,reduceCtorEq,wz,hρ,aInt,h0]
        exact ⟨[], rfl, (congrArg aInt hI).symm⟩
    · simp (maxSteps:=999999) -implicitDefEqProofs (disch:=omega) only [push_cast,↓reduceIte,Nat.reduceEqDiff,reduceCtorEq,wz,hρ]
      refine hE' _ _ ?_
      rw [hI, drop_all hlt]; rfl
  · rintro ε σ h
    simp (maxSteps:=999999) -implicitDefEqProofs (disch:=omega) only [push_cast,↓reduceIte,Nat.reduceEqDiff,reduceCtorEq,wz]
    exact ⟨[], rfl, (congrArg aInt h).symm⟩

/-! ### What right rows are like -/
theorem incB_at : ∀ {r : List CC} {s : Int}, incB s r = true → ∀ {k : Nat} {c : CC}, r[k]? = some c → s < c.st ∧ c.st ≤ 1048575 := by
  intro r
  induction r with
  | nil => intro s _ k c h; simp at h
  | cons d r ih =>
    intro s h k c hc
    simp only [incB, Bool.and_eq_true, decide_eq_true_eq] at h
    cases k with
    | zero => simp at hc; subst hc; exact ⟨h.1.1, h.1.2⟩
    | succ k =>
      have := ih h.2 (k := k) (by simpa using hc)
      exact ⟨by omega, this.2⟩
theorem incB_lt : ∀ {r : List CC} {s : Int}, incB s r = true → ∀ {i j : Nat} {c d : CC}, i < j → r[i]? = some c → r[j]? = some d → c.st < d.st := by
  intro r
  induction r with
  | nil => intro s _ i j c d _ h; simp at h
  | cons e r ih =>
    intro s h i j c d hij hc hd
    simp only [incB, Bool.and_eq_true, decide_eq_true_eq] at h
    obtain ⟨j, rfl⟩ : ∃ j', j = j' + 1 := ⟨j - 1, by omega⟩
    cases i with
    | zero =>
      simp at hc; subst hc
      exact (incB_at h.2 (k := j) (by simpa using hd)).1
    | succ i => exact ih h.2 (i := i) (j := j) (by omega) (by simpa using hc) (by simpa using hd)
/-- A right row. -/
structure RowOk (r : List CC) : Prop where
  len : r.length ≤ 100
  pos : 0 < r.length
  first : ∀ c, r[0]? = some c → c.st = 0 ∧ c.wt = false
  inc : ∀ (i j : Nat) (c d : CC), i < j → r[i]? = some c → r[j]? = some d → c.st < d.st
  bd : ∀ c ∈ r, 0 ≤ c.st ∧ c.st ≤ 1048575
theorem rowE_ok {r : List CC} (h : rowE r = 0) : RowOk r := by
  unfold rowE at h
  split at h
  · omega
  · rename_i hlen
    cases r with
    | nil => simp [rowT] at h
    | cons c cs =>
      simp only [rowT] at h
      split at h
      · omega
      · rename_i h1
        split at h
        · rename_i h2
          have hc0 : c.st = 0 := by
            by_cases e : c.st = 0
            · exact e
            · exact absurd (.inl e) h1
          have hcw : c.wt = false := by
            cases e : c.wt with
            | false => rfl
            | true => exact absurd (.inr e) h1
          have hinc : ∀ (i j : Nat) (x y : CC), i < j → (c :: cs)[i]? = some x → (c :: cs)[j]? = some y → x.st < y.st := by
            intro i j x y hij hx hy
            obtain ⟨j, rfl⟩ : ∃ j', j = j' + 1 := ⟨j - 1, by omega⟩
            have hy' : cs[j]? = some y := by simpa using hy
            cases i with
            | zero => simp at hx; subst hx; exact (incB_at h2 hy').1
            | succ i => exact incB_lt h2 (i := i) (j := j) (by omega) (by simpa using hx) hy'
          refine ⟨by omega, by simp, fun x hx => by simp at hx; subst hx; exact ⟨hc0, hcw⟩, hinc, fun x hx => ?_⟩
          rcases List.mem_cons.1 hx with e | hx
          · subst e; omega
          · obtain ⟨k, hk⟩ := List.mem_iff_getElem?.1 hx
            have := incB_at h2 hk
            omega
        · omega
theorem gchk_ok {l : List (List CC)} (h : gchk l = 0) : l.length ≤ 100 ∧ ∀ r ∈ l, RowOk r := by
  unfold gchk at h
  split at h
  · omega
  · rename_i h1
    refine ⟨by omega, ?_⟩
    clear h1
    induction l with
    | nil => intro r hr; cases hr
    | cons x l ih =>
      simp only [rowsE] at h
      split at h
      · rename_i hx; exact absurd h hx
      · rename_i hx
        have hx : rowE x = 0 := by omega
        intro r hr
        rcases List.mem_cons.1 hr with e | hr
        · subst e; exact rowE_ok hx
        · exact ih h r hr


/-- What is wrong with a row from its k-th cell on. -/
def rowK (r : List CC) (k : Nat) : Int := if k = 0 then rowT r else if incB (r.getD (k - 1) nc).st (r.drop k) = true then 0 else 4
theorem rowK_end {r : List CC} {k : Nat} (h : ¬ k < r.length) (hr : 0 < r.length) : rowK r k = 0 := by
  unfold rowK
  rw [if_neg (by omega), drop_all h]
  rfl
theorem getD_of {r : List CC} {k : Nat} {c : CC} (h : r[k]? = some c) : r.getD k nc = c := by rw [List.getD_eq_getElem?_getD, h]; rfl
theorem rowK_one {r : List CC} {c : CC} (h : r[0]? = some c) (h1 : c.st = 0) (h2 : c.wt = false) : rowK r 0 = rowK r 1 := by
  cases r with
  | nil => simp at h
  | cons d r =>
    simp at h; subst h
    unfold rowK
    rw [if_pos rfl, if_neg (by omega), rowT, if_neg (by simp [h1, h2])]
    rfl
theorem rowK_succ {r : List CC} {k : Nat} {p c : CC} (h0 : 0 < k) (hp : r[k - 1]? = some p) (hc : r[k]? = some c) : rowK r k = if c.st ≤ p.st ∨ 1048575 < c.st then 4 else rowK r (k + 1) := by
  unfold rowK
  rw [if_neg (c := k = 0) (by omega), if_neg (c := k + 1 = 0) (by omega), Nat.add_sub_cancel, getD_of hc, getD_of hp, drop_at hc, incB]
  by_cases h1 : p.st < c.st
  · by_cases h2 : c.st ≤ 1048575
    · rw [if_neg (c := c.st ≤ p.st ∨ 1048575 < c.st) (by omega)]
      simp [h1, h2]
    · rw [if_pos (c := c.st ≤ p.st ∨ 1048575 < c.st) (by omega)]
      simp [h2]
  · rw [if_pos (c := c.st ≤ p.st ∨ 1048575 < c.st) (by omega)]
    simp [h1]
theorem rowK_bad {r : List CC} {c : CC} (h : r[0]? = some c) (h1 : c.st ≠ 0 ∨ c.wt = true) : rowK r 0 = 4 := by
  cases r with
  | nil => simp at h
  | cons d r =>
    simp at h; subst h
    unfold rowK
    rw [if_pos rfl, rowT, if_pos h1]
set_option maxHeartbeats 1000000 in
theorem ref33_Check_a (l : List (List CC)) (hl : l.length ≤ 9223372036854775807) (hl2 : ∀ r ∈ l, r.length ≤ 9223372036854775807) : FnP Tryd.prog 25 [aRows l] fun a => a = aInt (gchk l) := by
  refine fnP_in K_forebayref33_Check mixed rfl (by simp [AV.pureL, aRows_pure]) ?_
  simp only [S_forebayref33_Check, aRows, aSl]
  by_cases h1 : 100 < l.length
  · simp (maxSteps:=999999) -implicitDefEqProofs (disch:=omega) only [push_cast,↓reduceIte,Nat.reduceEqDiff,reduceCtorEq,wz,h1]
    exact ⟨[], rfl, by unfold gchk; rw [if_pos h1]; rfl⟩
  have hE : gchk l = rowsE l := by unfold gchk; rw [if_neg h1]
  rw [hE]
  simp (maxSteps:=999999) -implicitDefEqProofs (disch:=omega) only [push_cast,↓reduceIte,Nat.reduceEqDiff,reduceCtorEq,wz,h1]
  refine wpa_bl (α := Nat) (I := fun k ε σ => (ε 0 = .sl l.length (l.map aRow) .none ∧ ε 3 = .v (.int .i64 k)) ∧ k ≤ l.length ∧ rowsE l = rowsE (l.drop k))
    (μ := fun k => l.length - k) (Q := fun _ _ => rowsE l = 0) (x := 0) ?_ ?_ ?_
  · simp (maxSteps:=999999) -implicitDefEqProofs (disch:=omega) only [push_cast,↓reduceIte,Nat.reduceEqDiff,reduceCtorEq,wz]
    first | omega | exact ⟨by omega, rfl⟩ | exact ⟨rfl, by omega, rfl⟩
  · rintro k ε σ N E ⟨hρ, hk, hI⟩ hN hE'
    simp only [S_forebayref33_Check_L1]
    by_cases hlt : k < l.length
    · obtain ⟨r, hr⟩ := at_lt hlt
      have hrl := hl2 r (List.mem_of_getElem? hr)
      rw [drop_at hr, rowsE] at hI
      by_cases h2 : 100 < r.length
      · have hre : rowE r = 9 := by unfold rowE; rw [if_pos h2]
        rw [if_pos (by omega), hre] at hI
        simp (maxSteps:=999999) -implicitDefEqProofs (disch:=omega) only [push_cast,↓reduceIte,Nat.reduceEqDiff,reduceCtorEq,wz,hρ,hr,aRow,aSlN,h2]
        exact ⟨[], rfl, (congrArg aInt hI).symm⟩
      have hre : rowE r = rowT r := by unfold rowE; rw [if_neg h2]
      by_cases h3 : r.length = 0
      · have hrt : rowT r = 7 := by rw [List.length_eq_zero_iff.1 h3]; rfl
        rw [if_pos (by omega), hre, hrt] at hI
        simp (maxSteps:=999999) -implicitDefEqProofs (disch:=omega) only [push_cast,↓reduceIte,Nat.reduceEqDiff,reduceCtorEq,wz,hρ,hr,aRow,aSlN,h2,h3]
        exact ⟨[], rfl, (congrArg aInt hI).symm⟩
      have h3' : ¬ ((r.length : Int) = 0) := by omega
      simp (maxSteps:=999999) -implicitDefEqProofs (disch:=omega) only [push_cast,↓reduceIte,Nat.reduceEqDiff,reduceCtorEq,wz,hρ,hr,aRow,aSlN,h2,h3']
      refine wpa_bl (α := Nat) (I := fun j ε σ => (ε 0 = .sl l.length (l.map aRow) .none ∧ ε 3 = .v (.int .i64 k) ∧ ε 4 = .sl r.length (r.flatMap aCC) .none ∧ ε 5 = .v (.int .i64 j)) ∧ j ≤ r.length ∧ rowT r = rowK r j)
        (μ := fun j => r.length - j) (Q := fun ε σ => (ε 0 = .sl l.length (l.map aRow) .none ∧ ε 3 = .v (.int .i64 k)) ∧ rowT r = 0) (x := 0) ?_ ?_ ?_
      · simp (maxSteps:=999999) -implicitDefEqProofs (disch:=omega) only [push_cast,↓reduceIte,Nat.reduceEqDiff,reduceCtorEq,wz,hρ]
        exact ⟨by omega, rfl⟩
      · clear hρ hN hE' ε
        rintro j ε σ N E ⟨hρ, hj, hJ⟩ hN hE'
        simp only [S_forebayref33_Check_L2]
        by_cases hjl : j < r.length
        · obtain ⟨c, hc⟩ := at_lt hjl
          have hdc := flat_drop aCC_len hc
          have g0 : ∀ (c : CC) (m : List AV), (aCC c ++ m)[0]? = some (.v (.int .i64 c.st)) := fun c m => rfl
          have g1 : ∀ (c : CC) (m : List AV), (aCC c ++ m)[1]? = some (.v (.bool c.wt)) := fun c m => rfl
          have hdone : rowT r ≠ 0 → rowT r = 4 → rowsE l = 4 := by
            intro h h'; rw [hI, if_pos (by rw [hre]; exact h), hre, h']
          by_cases hj0 : j = 0
          · subst hj0
            have hdz : (r.flatMap aCC).drop (Int.toNat 0 * 2) = aCC c ++ (r.drop 1).flatMap aCC := hdc
            by_cases h4 : c.st = 0
            · cases h5 : c.wt with
              | false =>
                rw [rowK_one hc h4 h5] at hJ
                have h6 : ¬ (1048575 < c.st) := by omega
                simp (maxSteps:=999999) -implicitDefEqProofs (disch:=omega) only [push_cast,↓reduceIte,Nat.reduceEqDiff,reduceCtorEq,wz,hρ,hdz,g0,g1,h4,h5]
                refine hN 1 _ _ ?_ (by omega)
                simp (maxSteps:=999999) -implicitDefEqProofs (disch:=omega) only [push_cast,↓reduceIte,Nat.reduceEqDiff,reduceCtorEq,wz,hρ]
                exact ⟨by omega, hJ⟩
              | true =>
                have e : rowT r = 4 := by rw [hJ, rowK_bad hc (.inr h5)]
                simp (maxSteps:=999999) -implicitDefEqProofs (disch:=omega) only [push_cast,↓reduceIte,Nat.reduceEqDiff,reduceCtorEq,wz,hρ,hdz,g0,g1,h4,h5]
                exact ⟨[], rfl, (congrArg aInt (hdone (by omega) e)).symm⟩
            · have e : rowT r = 4 := by rw [hJ, rowK_bad hc (.inl h4)]
              simp (maxSteps:=999999) -implicitDefEqProofs (disch:=omega) only [push_cast,↓reduceIte,Nat.reduceEqDiff,reduceCtorEq,wz,hρ,hdz,g0,g1,h4]
              exact ⟨[], rfl, (congrArg aInt (hdone (by omega) e)).symm⟩
          · obtain ⟨p, hp⟩ := at_lt (l := r) (k := j - 1) (by omega)
            have hdp := flat_drop aCC_len hp
            have hdq : (r.flatMap aCC).drop (((j : Int) - 1).toNat * 2) = aCC p ++ (r.drop (j - 1 + 1)).flatMap aCC := by rw [show ((j : Int) - 1).toNat = j - 1 by omega]; exact hdp
            have hj1 : (0 : Int) < j := by omega
            have hj2 : ¬ ((j : Int) = 0) := by omega
            rw [rowK_succ (by omega) hp hc] at hJ
            by_cases h6 : c.st ≤ p.st
            · rw [if_pos (.inl h6)] at hJ
              simp (maxSteps:=999999) -implicitDefEqProofs (disch:=omega) only [push_cast,↓reduceIte,Nat.reduceEqDiff,reduceCtorEq,wz,hρ,hdc,hdq,g0,g1,hj1,hj2,h6]
              exact ⟨[], rfl, (congrArg aInt (hdone (by omega) hJ)).symm⟩
            · by_cases h7 : 1048575 < c.st
              · rw [if_pos (.inr h7)] at hJ
                simp (maxSteps:=999999) -implicitDefEqProofs (disch:=omega) only [push_cast,↓reduceIte,Nat.reduceEqDiff,reduceCtorEq,wz,hρ,hdc,hdq,g0,g1,hj1,hj2,h6,h7]
                exact ⟨[], rfl, (congrArg aInt (hdone (by omega) hJ)).symm⟩
              · rw [if_neg (by omega)] at hJ
                simp (maxSteps:=999999) -implicitDefEqProofs (disch:=omega) only [push_cast,↓reduceIte,Nat.reduceEqDiff,reduceCtorEq,wz,hρ,hdc,hdq,g0,g1,hj1,hj2,h6,h7]
                refine hN (j + 1) _ _ ?_ (by omega)
                simp (maxSteps:=999999) -implicitDefEqProofs (disch:=omega) only [push_cast,↓reduceIte,Nat.reduceEqDiff,reduceCtorEq,wz,hρ]
                exact ⟨by omega, hJ⟩
        · simp (maxSteps:=999999) -implicitDefEqProofs (disch:=omega) only [push_cast,↓reduceIte,Nat.reduceEqDiff,reduceCtorEq,wz,hρ]
          refine hE' _ _ ?_
          simp (maxSteps:=999999) -implicitDefEqProofs (disch:=omega) only [push_cast,↓reduceIte,Nat.reduceEqDiff,reduceCtorEq,wz,hρ]
          rw [hJ, rowK_end hjl (by omega)]
      · clear hρ ε
        rintro ε σ ⟨hρ, h⟩
        rw [if_neg (by rw [hre, h]; simp)] at hI
        simp (maxSteps:=999999) -implicitDefEqProofs (disch:=omega) only [push_cast,↓reduceIte,Nat.reduceEqDiff,reduceCtorEq,wz,hρ]
        refine hN (k + 1) _ _ ?_ (by omega)
        simp (maxSteps:=999999) -implicitDefEqProofs (disch:=omega) only [push_cast,↓reduceIte,Nat.reduceEqDiff,reduceCtorEq,wz,hρ]
        exact ⟨by omega, hI⟩
    · simp (maxSteps:=999999) -implicitDefEqProofs (disch:=omega) only [push_cast,↓reduceIte,Nat.reduceEqDiff,reduceCtorEq,wz,hρ]
      refine hE' _ _ ?_
      rw [hI, drop_all hlt]; rfl
  · rintro ε σ h
    simp (maxSteps:=999999) -implicitDefEqProofs (disch:=omega) only [push_cast,↓reduceIte,Nat.reduceEqDiff,reduceCtorEq,wz]
    exact ⟨[], rfl, (congrArg aInt h).symm⟩
end Go.Proofs.YtjdpejggafefjaaDoor
/- strings.Builder, at the level of heaps; a piece of a walk on annotated values inside a walk on heaps. -/
namespace Go.Proofs.YtjdpejggafefjaaDoor
set_option linter.unusedVariables false
set_option linter.unusedSimpArgs false
open Go Go.Kx Go.Proofs Go.RowKit

/-- A heap that stands on another. -/
def Up (h h' : Heap) : Prop := h.size ≤ h'.size ∧ ∀ k, k < h.size → h'[k]? = h[k]?
theorem Up.refl (h : Heap) : Up h h := ⟨Nat.le_refl _, fun _ _ => rfl⟩
theorem Up.trans {a b c : Heap} (h : Up a b) (k : Up b c) : Up a c := ⟨Nat.le_trans h.1 k.1, fun i hi => (k.2 i (Nat.lt_of_lt_of_le hi h.1)).trans (h.2 i hi)⟩
theorem Up.push (h : Heap) (o : Obj) : Up h (h.push o) := ⟨by simp, fun k hk => get_push hk⟩
theorem Up.tab {h h' : Heap} (u : Up h h') (H : TabOk h) : TabOk h' := H.keep u.1 u.2
theorem Up.fz {g : Nat → Nat → Option Value} {h h' : Heap} (u : Up h h') (H : FzIn g h) : FzIn g h' := by
  intro b o x hx
  have := H b o x hx
  have hb := cellG_lt this
  unfold cellG hp at this ⊢
  rw [u.2 b hb]; exact this
theorem relh_self {G : Gh} {h : Heap} (ht : TabOk h) (hz : FzIn G.g h) : RelH h ⟨G.g, fun _ _ => none⟩ h [] := by
  refine ⟨ht, Nat.le_refl _, fun _ _ => rfl, hz, fun i w cs hi => by simp at hi, fun i w cs hi => by simp at hi, fun i l hl => ?_, fun i j l m _ hl => ?_, (fun i w l hl => by simp at hl), ⟨fun i es _ hi => by simp at hi, fun i j es es' l m _ _ _ hi => by simp at hi⟩⟩
  · have := locOf_lt hl; simp at this
  · have := locOf_lt hl; simp at this
theorem relh_up {base : Heap} {G : Gh} {h h' : Heap} (H : RelH base G h []) (u : Up h h') : RelH base G h' [] := by
  refine ⟨H.tab, Nat.le_trans H.size u.1, fun b hb => (u.2 b (Nat.lt_of_lt_of_le hb H.size)).trans (H.keep b hb), u.fz H.st, fun i w cs hi => by simp at hi, fun i w cs hi => by simp at hi, fun i l hl => ?_, fun i j l m _ hl => ?_, H.bd, ⟨fun i es _ hi => by simp at hi, fun i j es es' l m _ _ _ hi => by simp at hi⟩⟩
  · have := locOf_lt hl; simp at this
  · have := locOf_lt hl; simp at this
theorem rel_self {G : Gh} {xs : List AV} {vs : List Value} (hp : AV.pureL xs = true) (hL : RelL G xs vs) : RelL ⟨G.g, fun _ _ => none⟩ xs vs := ⟨hL.1, fun i a u ha hu => pure_rel (hL.2 i a u ha hu) (pureL_get hp ha)⟩
/-- A contract of a function that touches nothing, where only what is frozen is known. -/
theorem fnp_up {P : Program} {f : FuncId} {xs : List AV} {Q : AV → Prop} (H : FnP P f xs Q) {G : Gh} {vs : List Value} (hL : RelL G xs vs) {h : Heap} (ht : TabOk h) (hz : FzIn G.g h) :
    FnC P f vs.toArray h fun r h' => Up h h' ∧ ∃ G' a, RelV G' a r ∧ Q a := by
  refine (H.2 h _ h vs (relh_self ht hz) (rel_self H.1 hL)).mono ?_
  rintro r h' ⟨G', a, σ', k1, k2, k3, k4, k5⟩
  exact ⟨⟨k2.size, k2.keep⟩, G', a, k3, k5⟩
theorem rv_lit {G : Gh} {x : Value} {u : Value} (h : RelV G (.v x) u) : u = x := by cases h; rfl
theorem wp_callh {P : Program} {f : FuncId} {vs : List Value} {h : Heap} {K : Value → Heap → Prop} {R : Value → Heap → Prop} (H : FnC P f vs.toArray h R) (hk : ∀ r h', R r h' → act (K r h')) : act (EF.wp P (.call f) vs h K) := FnC.mono H hk
theorem wp_newh {P : Program} {T : TypeId} {z : List Value} {h : Heap} {K : Value → Heap → Prop} (hk : act (K (.pointer (some ⟨h.size, 0, none⟩)) (h.push (.cells z.toArray T (0, 0))))) : act (EF.wp P (.new T z) [] h K) := hk
theorem wp_env {P : Program} {c : SCode} {K : Env → Heap → Prop} {X : Nat → Env → Heap → Prop} {R : Env → Heap → Prop} {ρ : Env} {h : Heap} (F : Env → Prop) (hF : F ρ) (H : ∀ ρ, F ρ → act (wpS P c K X R ρ h)) : act (wpS P c K X R ρ h) := H ρ hF
/-- A loop of a walk on heaps, walked on annotated values. -/
theorem bridge {P : Program} {base : Heap} {c : SCode} {id : Nat} {G : Gh} {h : Heap} {σ : Kx.St} {ε : AEnv} {ρ : Env} {Q : AEnv → Kx.St → Prop} {K0 K' : Env → Heap → Prop} {X' : Nat → Env → Heap → Prop} {R' : Env → Heap → Prop}
    (H : RelH base G h σ) (E : RelE G ε ρ) (hw : act (wpA P (.loop c) (fun _ _ => False) (fun j ε σ => if j = id then Q ε σ else (fun _ _ _ => False : Nat → AEnv → Kx.St → Prop) j ε σ) (fun _ _ => False) ε σ))
    (hk : ∀ G' ε' σ' ρ' h', Gh.le base.size G G' → RelH base G' h' σ' → RelE G' ε' ρ' → Q ε' σ' → act (K' ρ' h')) : act (wpS P (.loop c) K0 (fun j ρ h => if j = id then K' ρ h else X' j ρ h) R' ρ h) := by
  refine wpS_mono (.loop c) (fun ρ h ⟨G', ε, σ, l, H', E', k⟩ => k.elim) (fun j ρ h ⟨G', ε, σ, l, H', E', k⟩ => ?_) (fun _ _ ⟨_, _, _, _, _, _, h⟩ => h.elim) (wpA_sound (.loop c) H E hw)
  split at k
  · rename_i hj; rw [if_pos hj]; exact hk _ _ _ _ _ l H' E' k
  · exact k.elim
theorem sl_inv {G : Gh} {α : Type} {f : α → AV} {l : List α} {s : Value} (h : RelV G (aSl f l) s) : ∃ a cap, s = .slice a l.length cap ∧ ∀ (k : Nat) (x : α), l[k]? = some x → ∃ b off u, a = some ⟨b, off, none⟩ ∧ G.g b (off + k) = some u ∧ RelV G (f x) u := by
  cases h with
  | sl _ _ _ a cap vs h1 h2 h3 h4 h5 h6 =>
    refine ⟨a, cap, rfl, fun k x hx => ?_⟩
    rcases h5 with ⟨h5, _⟩ | ⟨b, off, rfl, h5⟩
    · have := lt_at hx; omega
    · have hm : (l.map f)[k]? = some (f x) := by rw [List.getElem?_map, hx]; rfl
      obtain ⟨u, hu, hr⟩ := RelL.get ⟨h1, h2⟩ hm
      exact ⟨b, off, u, rfl, h5 k u hu, hr⟩
theorem sl_val {G : Gh} {n : Nat} {cs : List AV} {t : Tok} {s : Value} (h : RelV G (.sl n cs t) s) : ∃ a cap, s = .slice a n cap := by
  cases h with
  | sl _ _ _ a cap vs h1 h2 h3 h4 h5 h6 => exact ⟨a, cap, rfl⟩

/-- Block b holds a builder with these bytes; all that is its own lies from B on. -/
def BldH (B b : Nat) (l : List UInt8) (h : Heap) : Prop := ∀ w : World, w.heap = h → Lib.IsBuilderF 74 5 B b (Lib.byteCells l) w
theorem BldH.of {B b : Nat} {l : List UInt8} {w : World} (H : Lib.IsBuilderF 74 5 B b (Lib.byteCells l) w) : BldH B b l w.heap := by
  intro w' hw
  unfold Lib.IsBuilderF Lib.BuilderAtF World.ownsRowF at H ⊢
  rw [hw]
  exact H
theorem BldH.cells {B b : Nat} {l : List UInt8} {h : Heap} (H : BldH B b l h) (w : World) (hw : w.heap = h) : ∃ c E fz, h[b]? = some (.cells c E fz) := by
  subst hw
  rcases H w rfl with ⟨_, v, hb, _⟩ | ⟨_, v, hb, _⟩ <;> exact ⟨_, _, _, hb⟩
theorem BldH.up {B b : Nat} {l : List UInt8} {h h' : Heap} (H : BldH B b l h) (u : Up h h') : BldH B b l h' := by
  intro w hw
  have hW : ∀ v, Lib.BuilderAtF 74 5 B b v (Lib.byteCells l) { w with heap := h } → Lib.BuilderAtF 74 5 B b v (Lib.byteCells l) w := by
    intro v hv
    have hlt := hv.lt
    obtain ⟨hB, v', hb, hown, hne⟩ := hv
    exact ⟨hB, v', by rw [hw]; exact (u.2 b hlt).trans hb, hown.kept (row := none) ⟨rfl, rfl, rfl, by rw [hw]; exact u.1, fun k hk _ => by rw [hw]; exact u.2 k hk⟩ (Classical.em _), hne⟩
  exact (H { w with heap := h } rfl).imp (hW _) (hW _)
theorem bld_new (h : Heap) : BldH h.size h.size [] (h.push (.cells #[.pointer none, .slice none 0 0] 74 (0, 0))) := by
  intro w hw
  refine .inl ⟨Nat.le_refl _, .slice none 0 0, by rw [hw]; simp, ⟨rfl, .inl ⟨rfl, rfl⟩⟩, ?_⟩
  intro e
  cases e
theorem wr_h {B b : Nat} {l : List UInt8} {s : ByteArray} {h : Heap} (H : BldH B b l h) (hl : l.length + s.size ≤ 140737488355328) (hB : B ≤ h.size) :
    FnC Tryd.prog 58 [.pointer (some ⟨b, 0, none⟩), .string s].toArray h fun _ h' => BldH B b (l ++ s.data.toList) h' ∧ h.size ≤ h'.size ∧ ∀ k, k < B → h'[k]? = h[k]? := by
  intro w hw
  subst hw
  refine (Any.Builder_WriteString_k (ρ := Tryd.laysJoin_ren) { Tryd.laysJoin with } Tryd.extraJoin B b _ s w (H w rfl) (by rw [Lib.byteCells_length]; exact hl) hB).mono ?_
  rintro e w' ⟨rfl, hA, hb, ho⟩
  refine ⟨_, rfl, ⟨?_, hb.size, hb.block⟩, hb.os, hb.tape, hb.output, hb.size, ?_⟩
  · refine BldH.of ?_
    rw [Lib.byteCells_append]
    exact .inr hA
  · intro k o hk hld
    refine ho k o hk ?_ ?_
    · rintro e
      cases e
      obtain ⟨c, E, fz, hc⟩ := H.cells w rfl
      rw [hk] at hc
      cases hc
      cases hld
    · rintro c fz rfl
      cases hld
theorem str_h {B b : Nat} {l : List UInt8} {h : Heap} (H : BldH B b l h) (hB : B ≤ h.size) :
    FnC Tryd.prog 59 [.pointer (some ⟨b, 0, none⟩)].toArray h fun r h' => r = .string (bA l) ∧ h.size ≤ h'.size ∧ ∀ k, k < B → h'[k]? = h[k]? := by
  intro w hw
  subst hw
  refine (Any.Builder_String_any_k (ρ := Tryd.laysJoin_ren) { Tryd.laysJoin with } Tryd.extraJoin B b l w (H w rfl) hB).mono ?_
  rintro e w' ⟨rfl, hA, hb, ho⟩
  refine ⟨_, rfl, ⟨rfl, hb.size, hb.block⟩, hb.os, hb.tape, hb.output, hb.size, ?_⟩
  intro k o hk hld
  refine ho k o hk ?_ ?_
  · rintro e
    cases e
    obtain ⟨c, E, fz, hc⟩ := H.cells w rfl
    rw [hk] at hc
    cases hc
    cases hld
  · rintro c fz rfl
    cases hld
end Go.Proofs.YtjdpejggafefjaaDoor
/- picture.sign, picture.Text. -/
namespace Go.Proofs.YtjdpejggafefjaaDoor
set_option linter.unusedVariables false
set_option linter.unusedSimpArgs false
open Go Go.Kx Go.Proofs

def sgB (wt first : Bool) : List UInt8 := if wt = true then [62] else if first = true then [] else [45]
def cellT (c : CC) (k : Nat) : List UInt8 := sgB c.wt (decide (k = 0)) ++ Lib.itoa c.st
def rowW (r : List CC) : List (List UInt8) := r.zipIdx.map fun p => cellT p.1 p.2
theorem rowW_len (r : List CC) : (rowW r).length = r.length := by simp [rowW]
theorem rowW_take {r : List CC} {k : Nat} {c : CC} (h : r[k]? = some c) : rowW (r.take (k + 1)) = rowW (r.take k) ++ [cellT c k] := by
  have hlt := lt_at h
  have hlen : (r.take k).length = k := by rw [List.length_take]; omega
  unfold rowW
  rw [take_succ_at h, List.zipIdx_append, List.map_append, hlen, Nat.zero_add]
  rfl
theorem rowW_mem {r : List CC} {w : List UInt8} (h : w ∈ rowW r) : ∃ k c, r[k]? = some c ∧ w = cellT c k := by
  unfold rowW at h
  rw [List.mem_map] at h
  obtain ⟨⟨c, k⟩, hp, rfl⟩ := h
  exact ⟨k, c, by simpa using List.mem_zipIdx_iff_getElem?.1 hp, rfl⟩
def lineT (r : List CC) : List UInt8 := joinR [32] (rowW r) true
def textP (l : List (List CC)) : List UInt8 := linesT (l.map lineT)
def textG (l : List (List CC)) : List UInt8 := if gchk l = 0 then textP l else []
theorem sg_len (a b : Bool) : (sgB a b).length ≤ 1 := by unfold sgB; split <;> (try split) <;> simp
theorem cellT_len {c : CC} (h : 0 ≤ c.st ∧ c.st ≤ 1048575) (k : Nat) : (cellT c k).length ≤ 22 := by
  have h1 := Lib.itoa_length_le c.st (by omega) (by omega)
  have h2 := sg_len c.wt (decide (k = 0))
  unfold cellT
  rw [List.length_append]
  omega
theorem lineT_len {r : List CC} (h : RowOk r) : (lineT r).length ≤ r.length * 23 := by
  have := joinR_len (sep := [32]) (m := 22) (xs := rowW r) (f := true) (by
    intro x hx
    obtain ⟨k, c, hc, rfl⟩ := rowW_mem hx
    exact cellT_len (h.bd c (List.mem_of_getElem? hc)) k)
  rw [rowW_len] at this
  exact this
theorem linesT_snoc2 (ws : List (List UInt8)) (w : List UInt8) : linesT (ws ++ [w]) = linesT ws ++ w ++ [10] := by simp [linesT]
theorem textP_take {l : List (List CC)} {k : Nat} {r : List CC} (h : l[k]? = some r) : textP (l.take (k + 1)) = textP (l.take k) ++ lineT r ++ [10] := by
  unfold textP
  rw [take_succ_at h, List.map_append]
  exact linesT_snoc2 _ _
theorem textP_len {l : List (List CC)} (h : ∀ r ∈ l, RowOk r) : (textP l).length ≤ l.length * 2301 := by
  induction l with
  | nil => simp [textP, linesT]
  | cons r l ih =>
    have h1 := ih fun x hx => h x (by simp [hx])
    have h2 := lineT_len (h r (by simp))
    have h3 := (h r (by simp)).len
    have e : textP (r :: l) = lineT r ++ [10] ++ textP l := by simp [textP, linesT]
    rw [e]
    simp only [List.length_append, List.length_cons, List.length_nil]
    omega
theorem picture_sign_a (c : CC) (b : Bool) : FnP Tryd.prog 57 [.agg (aCC c), aBool b] fun a => a = aB (sgB c.wt b) := by
  refine fnP_in K_picture_sign mixed rfl (by simp [AV.pureL, AV.pure, aCC_pure, aBool]) ?_
  simp only [S_picture_sign]
  have hac : (AV.agg (aCC c)).cells = aCC c := rfl
  simp (maxSteps:=999999) -implicitDefEqProofs (disch:=omega) only [push_cast,↓reduceIte,Nat.reduceEqDiff,reduceCtorEq,wz]
  refine wpa_box ?_
  have p1 : (aCC c)[1]? = some (.v (.bool c.wt)) := rfl
  simp (maxSteps:=999999) -implicitDefEqProofs (disch:=omega) only [push_cast,↓reduceIte,Nat.reduceEqDiff,reduceCtorEq,wz,hac,p1]
  cases h1 : c.wt with
  | true =>
    simp (maxSteps:=999999) -implicitDefEqProofs (disch:=omega) only [push_cast,↓reduceIte,Nat.reduceEqDiff,reduceCtorEq,wz,h1,hac,p1]
    exact ⟨[], rfl, rfl⟩
  | false =>
    cases b with
    | true =>
      simp (maxSteps:=999999) -implicitDefEqProofs (disch:=omega) only [push_cast,↓reduceIte,Nat.reduceEqDiff,reduceCtorEq,wz,h1,hac,p1,aBool]
      exact ⟨[], rfl, rfl⟩
    | false =>
      simp (maxSteps:=999999) -implicitDefEqProofs (disch:=omega) only [push_cast,↓reduceIte,Nat.reduceEqDiff,reduceCtorEq,wz,h1,hac,p1,aBool]
      exact ⟨[], rfl, rfl⟩
theorem aholds_ldu {d : Nat} {n : Option Nat} {x : Operand} {ε : AEnv} {σ : St} {a : AV} (h : ldA n (evA ε x) σ = some a) (he : a.exact = true) (hd : ε d = a) : SItem.aholds ⟨some d, none, .ld n x⟩ ε σ :=
  .inl ⟨trivial, a, h, he, fun e he' => by cases he'; exact hd⟩
theorem snoc_get (σ : Kx.St) (r : Res) : (σ ++ [r])[σ.length]? = some r := by simp
/-- The words of a row: the inner loop of Text, over a fresh state. -/
theorem text_row (r : List CC) (hr : RowOk r) (p5 p16 p17 p18 : Value) (ε : AEnv) (hρ : ε 22 = aRow r ∧ ε 23 = .v (.int .i64 r.length) ∧ ε 24 = .v (.int .i64 0) ∧ ε 8 = .sl 0 [] .nil ∧ ε 5 = .v p5 ∧ ε 16 = .v p16 ∧ ε 17 = .v p17 ∧ ε 18 = .v p18) {K0 : AEnv → Kx.St → Prop} {X : Nat → AEnv → Kx.St → Prop} {R : AEnv → Kx.St → Prop} :
    act (wpA Tryd.prog (.loop S_picture_Text_L2) K0 (fun j ε σ => if j = 2 then ((∃ t, ε 8 = .sl r.length ((rowW r).map aB) t) ∧ ε 5 = .v p5 ∧ ε 16 = .v p16 ∧ ε 17 = .v p17 ∧ ε 18 = .v p18) else X j ε σ) R ε []) := by
  refine wpa_blg (GU.tok 8 1 hρ.2.2.2.1) (α := Nat) (I := fun k ε σ => (ε 22 = .sl r.length (r.flatMap aCC) .none ∧ ε 23 = .v (.int .i64 r.length) ∧ ε 24 = .v (.int .i64 k) ∧ ε 5 = .v p5 ∧ ε 16 = .v p16 ∧ ε 17 = .v p17 ∧ ε 18 = .v p18) ∧ k ≤ r.length ∧ ∃ w, ε 8 = .sl k ((rowW (r.take k)).map aB) (.id 0 w 1) ∧ σ[0]? = some (.tail w) ∧ 0 < σ.length)
    (μ := fun k => r.length - k) (Q := fun ε σ => (∃ t, ε 8 = .sl r.length ((rowW r).map aB) t) ∧ ε 5 = .v p5 ∧ ε 16 = .v p16 ∧ ε 17 = .v p17 ∧ ε 18 = .v p18) (x := 0) ?_ ?_ ?_
  · exact ⟨by simp (maxSteps:=999999) -implicitDefEqProofs (disch:=omega) only [push_cast,↓reduceIte,Nat.reduceEqDiff,reduceCtorEq,wz,hρ,aRow,aSlN], by omega, 0, by simp (maxSteps:=999999) -implicitDefEqProofs (disch:=omega) only [push_cast,↓reduceIte,Nat.reduceEqDiff,reduceCtorEq,wz,hρ,rowW]; rfl, rfl, by simp⟩
  · rintro k ε σ N E ⟨hρ, hk, w, h8, hσ, hσl⟩ hN hE
    simp only [S_picture_Text_L2]
    by_cases hlt : k < r.length
    · obtain ⟨c, hc⟩ := at_lt hlt
      have hd := flat_drop aCC_len hc
      have hbd := hr.bd c (List.mem_of_getElem? hc)
      have hcl := cellT_len hbd k
      have hrl := hr.len
      have hi21 := Lib.itoa_length_le c.st (by omega) (by omega)
      have hc2 : cellsA (some 2) (aCC c ++ (r.drop (k + 1)).flatMap aCC) = some (.agg (aCC c)) := rfl
      simp (maxSteps:=999999) -implicitDefEqProofs (disch:=omega) only [push_cast,↓reduceIte,Nat.reduceEqDiff,reduceCtorEq,wz,hρ,hd,hc2]
      refine wpa_new ?_
      simp (maxSteps:=999999) -implicitDefEqProofs (disch:=omega) only [push_cast,↓reduceIte,Nat.reduceEqDiff,reduceCtorEq,wz,hρ]
      refine wpa_stn (cs := aCC nc) (l := aCC c) (off := 0) rfl rfl (snoc_get _ _) (by decide) ?_
      have hS : (σ ++ [Res.obj 0 [AV.v (.int .i64 0), AV.v (.bool false)]]).set σ.length (Res.obj 0 (setAtA (aCC nc) 0 (aCC c))) = σ ++ [Res.obj 0 (aCC c)] := by simp [setAtA, aCC]
      rw [hS]
      have hx2 := snoc_get σ (Res.obj 0 (aCC c))
      have h02 : (σ ++ [Res.obj 0 (aCC c)])[0]? = some (.tail w) := get_app hσ
      have hl2 : 0 < (σ ++ [Res.obj 0 (aCC c)]).length := by simp
      generalize σ ++ [Res.obj 0 (aCC c)] = S2 at hx2 h02 hl2 ⊢
      generalize σ.length = ix at hx2 ⊢
      have hsg : FnP Tryd.prog 57 [.agg (aCC c), aBool (decide ((k : Int) = 0))] fun a => a = aB (sgB c.wt (decide (k = 0))) := by
        have := picture_sign_a c (decide ((k : Int) = 0))
        rw [show (decide ((k : Int) = 0)) = decide (k = 0) by simp] at this ⊢
        exact this
      have hc3 : cellsA (some 2) (aCC c) = some (.agg (aCC c)) := rfl
      have hc0 : (aCC c)[0]? = some (.v (.int .i64 c.st)) := rfl
      simp (maxSteps:=999999) -implicitDefEqProofs (disch:=omega) only [push_cast,↓reduceIte,Nat.reduceEqDiff,reduceCtorEq,wz,hρ,h8,hx2,hc3,hc0]
      refine wpa_call hsg ?_
      rintro a rfl
      simp (maxSteps:=999999) -implicitDefEqProofs (disch:=omega) only [push_cast,↓reduceIte,Nat.reduceEqDiff,reduceCtorEq,wz,hρ,h8,hx2,hc0]
      refine ⟨aholds_ldu (a := .v (.int .i64 c.st)) (by simp (maxSteps:=999999) -implicitDefEqProofs (disch:=omega) only [push_cast,↓reduceIte,Nat.reduceEqDiff,reduceCtorEq,wz,hx2,hc0]) rfl (by simp (maxSteps:=999999) -implicitDefEqProofs (disch:=omega) only [push_cast,↓reduceIte,Nat.reduceEqDiff,reduceCtorEq,wz]), ?_⟩
      refine wpa_call (Of_a c.st (by omega) (by omega)) ?_
      rintro a rfl
      have hadd : PF.val (.bin .add) [.string (bA (sgB c.wt (decide (k = 0)))), .string (bA (Lib.itoa c.st))] = some (.string (bA (cellT c k))) := by
        rw [pv_str_add _ _ (by rw [str_size, str_size]; have := sg_len c.wt (decide (k = 0)); simp only [bA]; omega)]
        rfl
      simp (maxSteps:=999999) -implicitDefEqProofs (disch:=omega) only [push_cast,↓reduceIte,Nat.reduceEqDiff,reduceCtorEq,wz,hρ,h8,hadd]
      refine wpa_bsl (sz := 1) (by intro a ha; simp at ha; rcases ha with rfl; rfl) (by simp) ?_
      simp (maxSteps:=999999) -implicitDefEqProofs (disch:=omega) only [push_cast,↓reduceIte,Nat.reduceEqDiff,reduceCtorEq,wz,hρ,h8]
      refine wpa_app rfl rfl rfl rfl (by simp [rowW_len]; omega) (by omega) (by omega) h02 ?_
      simp (maxSteps:=999999) -implicitDefEqProofs (disch:=omega) only [push_cast,↓reduceIte,Nat.reduceEqDiff,reduceCtorEq,wz,hρ]
      refine hN (k + 1) _ _ ⟨by simp (maxSteps:=999999) -implicitDefEqProofs (disch:=omega) only [push_cast,↓reduceIte,Nat.reduceEqDiff,reduceCtorEq,wz,hρ], by omega, w + 1, ?_, by rw [List.getElem?_set_self (by omega)], by rw [List.length_set]; exact hl2⟩ (by omega)
      rw [rowW_take hc, List.map_append]
      simp (maxSteps:=999999) -implicitDefEqProofs (disch:=omega) only [push_cast,↓reduceIte,Nat.reduceEqDiff,reduceCtorEq,wz]
      rfl
    · have hle : ¬ (k : Int) < r.length := by omega
      simp (maxSteps:=999999) -implicitDefEqProofs (disch:=omega) only [push_cast,↓reduceIte,Nat.reduceEqDiff,reduceCtorEq,wz,hρ,hle]
      obtain rfl : k = r.length := by omega
      rw [List.take_length] at h8
      exact hE _ _ ⟨⟨.id 0 w 1, by simp (maxSteps:=999999) -implicitDefEqProofs (disch:=omega) only [push_cast,↓reduceIte,Nat.reduceEqDiff,reduceCtorEq,wz,h8]⟩, by simp (maxSteps:=999999) -implicitDefEqProofs (disch:=omega) only [push_cast,↓reduceIte,Nat.reduceEqDiff,reduceCtorEq,wz,hρ]⟩
  · rintro ε σ h
    exact h
end Go.Proofs.YtjdpejggafefjaaDoor
/- picture.Text. -/
namespace Go.Proofs.YtjdpejggafefjaaDoor
set_option linter.unusedVariables false
set_option linter.unusedSimpArgs false
open Go Go.Kx Go.Proofs

set_option maxHeartbeats 4000000 in
theorem picture_Text_a (l : List (List CC)) (hl : l.length ≤ 9223372036854775807) (hl2 : ∀ r ∈ l, r.length ≤ 9223372036854775807) : FnP Tryd.prog 17 [aRows l] fun a => a = .tup [aB (textG l), aInt (gchk l)] := by
  refine ⟨by simp [AV.pureL, aRows_pure], fun base G h vs hH hL => ?_⟩
  obtain ⟨s, us, rfl, k1, k2⟩ := hL.cons_inv
  obtain rfl := k2.nil_inv
  have ht : TabOk h := hH.tab.keep hH.size hH.keep
  have hz : FzIn G.g h := hH.st
  refine fn_in K_picture_Text mixed (args := [s]) rfl ?_
  simp only [S_picture_Text]
  simp (maxSteps := 1000000) (implicitDefEqProofs := false) (disch := omega) only [push_cast, ↓reduceIte, Nat.reduceEqDiff, reduceCtorEq, decide_true, decide_false, Bool.not_true, Bool.not_false, Option.isNone_some, Option.isNone_none]
  refine wp_callh (fnp_up (grid_Check_a l hl hl2) (.cons k1 (.nil _)) ht hz) ?_
  rintro r h1 ⟨u1, G1, a, k3, rfl⟩
  obtain rfl := rv_lit k3
  have H1 := relh_up hH u1
  by_cases hc : gchk l = 0
  · obtain ⟨hlen, hrow⟩ := gchk_ok hc
    simp (maxSteps := 1000000) (implicitDefEqProofs := false) (disch := omega) only [push_cast, ↓reduceIte, Nat.reduceEqDiff, reduceCtorEq, decide_true, decide_false, Bool.not_true, Bool.not_false, Option.isNone_some, Option.isNone_none, hc]
    refine wp_newh ?_
    obtain ⟨a, cap, rfl, gs⟩ := sl_inv (f := aRow) k1
    simp (maxSteps := 1000000) (implicitDefEqProofs := false) (disch := omega) only [push_cast, ↓reduceIte, Nat.reduceEqDiff, reduceCtorEq, decide_true, decide_false, Bool.not_true, Bool.not_false, Option.isNone_some, Option.isNone_none]
    generalize hN0 : h1.push (Obj.cells [Value.pointer none, Value.slice none 0 0].toArray 74 (0, 0)) = h2
    have hb2 : BldH h1.size h1.size [] h2 := by rw [← hN0]; exact bld_new h1
    have u2 : Up h1 h2 := by rw [← hN0]; exact Up.push _ _
    generalize hB : h1.size = B at hb2 ⊢
    refine wp_bl (α := Nat) (I := fun k ρ h => (ρ 5 = .pointer (some ⟨B, 0, none⟩) ∧ ρ 16 = .slice a l.length cap ∧ ρ 17 = .int .i64 l.length ∧ ρ 18 = .int .i64 k) ∧ k ≤ l.length ∧ Up h1 h ∧ BldH B B (textP (l.take k)) h)
      (μ := fun k => l.length - k) (Q := fun ρ h => ρ 5 = .pointer (some ⟨B, 0, none⟩) ∧ Up h1 h ∧ BldH B B (textP l) h) (x := 0) ?_ ?_ ?_
    · refine ⟨by simp (maxSteps := 1000000) (implicitDefEqProofs := false) (disch := omega) only [push_cast, ↓reduceIte, Nat.reduceEqDiff, reduceCtorEq, decide_true, decide_false, Bool.not_true, Bool.not_false, Option.isNone_some, Option.isNone_none]; simp, by omega, u2, hb2⟩
    · rintro k ρ h3 N E ⟨hρ, hk, u3, hb3⟩ hN hE
      simp only [S_picture_Text_L1]
      by_cases hlt : k < l.length
      · obtain ⟨r, hr⟩ := at_lt hlt
        obtain ⟨b, off, u, rfl, hg, hru⟩ := gs k r hr
        have hro := hrow r (List.mem_of_getElem? hr)
        have z3 : FzIn G.g h3 := (u1.trans u3).fz hz
        have t3 : TabOk h3 := (u1.trans u3).tab ht
        obtain ⟨a', cap', rfl⟩ := sl_val hru
        have hcell : cellG (hp h3) b (off + k * 1) = some (.slice a' r.length cap') := by rw [Nat.mul_one]; exact z3 _ _ _ hg
        simp (maxSteps := 1000000) (implicitDefEqProofs := false) (disch := omega) only [push_cast, ↓reduceIte, Nat.reduceEqDiff, reduceCtorEq, decide_true, decide_false, Bool.not_true, Bool.not_false, Option.isNone_some, Option.isNone_none, hρ, hcell]
        refine wp_env (fun ρ => ρ 22 = .slice a' r.length cap' ∧ ρ 23 = .int .i64 r.length ∧ ρ 24 = .int .i64 0 ∧ ρ 8 = .slice none 0 0 ∧ ρ 5 = .pointer (some ⟨B, 0, none⟩) ∧ ρ 16 = .slice (some ⟨b, off, none⟩) l.length cap ∧ ρ 17 = .int .i64 l.length ∧ ρ 18 = .int .i64 k) ?_ ?_
        · show _ ∧ _
          simp (maxSteps := 1000000) (implicitDefEqProofs := false) (disch := omega) only [push_cast, ↓reduceIte, Nat.reduceEqDiff, reduceCtorEq, decide_true, decide_false, Bool.not_true, Bool.not_false, Option.isNone_some, Option.isNone_none, hρ]
          simp
        clear hρ ρ
        rintro ρ ⟨e22, e23, e24, e8, e5, e16, e17, e18⟩
        have hE : RelE ⟨G.g, fun _ _ => none⟩ (fun t => if t = 22 then aRow r else if t = 8 then .sl 0 [] .nil else .v (ρ t)) ρ := by
          intro t
          show RelV _ (if t = 22 then aRow r else if t = 8 then .sl 0 [] .nil else .v (ρ t)) (ρ t)
          split
          · rename_i h; subst h; rw [e22]; exact pure_rel hru (aRow_pure r)
          · split
            · rename_i h; subst h; rw [e8]; exact .sl 0 [] .nil none 0 [] rfl (by simp) (by omega) (by omega) (.inl ⟨rfl, rfl⟩) ⟨rfl, rfl, rfl⟩
            · exact .v _
        refine bridge (relh_self t3 z3) hE (text_row r hro (ρ 5) (ρ 16) (ρ 17) (ρ 18) _ (by simp [e23, e24])) ?_
        rintro G' ε' σ' ρ' h4 hle H4 E4 ⟨⟨t, q8⟩, q5, q16, q17, q18⟩
        have f5 := E4 5
        have f16 := E4 16
        have f17 := E4 17
        have f18 := E4 18
        have f8 := res_rel H4 (E4 8)
        rw [q5] at f5; rw [q16] at f16; rw [q17] at f17; rw [q18] at f18; rw [q8] at f8
        have f5 := (rv_lit f5).trans e5
        have f16 := (rv_lit f16).trans e16
        have f17 := (rv_lit f17).trans e17
        have f18 := (rv_lit f18).trans e18
        have hP : AV.res σ' (.sl r.length ((rowW r).map aB) t) = aSl aB (rowW r) := by
          have := aSl_res (σ := σ') (f := aB) (fun _ => rfl) (rowW r) t
          rw [rowW_len] at this
          exact this
        rw [hP] at f8
        have u4 : Up h3 h4 := ⟨H4.size, H4.keep⟩
        have hll := lineT_len hro
        have hrl := hro.len
        have htl : (textP (l.take k)).length ≤ 100 * 2301 := by
          have := textP_len (l := l.take k) fun r hr => hrow r (List.mem_of_mem_take hr)
          rw [List.length_take] at this
          have h5 : min k l.length ≤ 100 := by omega
          exact Nat.le_trans this (Nat.mul_le_mul_right _ h5)
        have hJ : FnP Tryd.prog 49 [aSl aB (rowW r)] fun a => a = aB (lineT r) := by
          have h := Join_a (rowW r) (by rw [rowW_len]; omega) (by rw [join_joinR]; unfold lineT at hll; omega)
          rw [join_joinR] at h
          exact h
        have hadd : PF.val (.bin .add) [.string (bA (lineT r)), .string ⟨#[10]⟩] = some (.string (bA (lineT r ++ [10]))) := by
          rw [pv_str_add _ _ (by rw [str_size, str_size]; simp; omega)]
          congr 2
          first | done | (apply str_ext; simp [bA])
        simp (maxSteps := 1000000) (implicitDefEqProofs := false) (disch := omega) only [push_cast, ↓reduceIte, Nat.reduceEqDiff, reduceCtorEq, decide_true, decide_false, Bool.not_true, Bool.not_false, Option.isNone_some, Option.isNone_none]
        refine wp_callh (fnp_up hJ (.cons f8 (.nil _)) (u4.tab t3) H4.st) ?_
        rintro x h5 ⟨u5, G5, aa, hrx, rfl⟩
        obtain rfl := rv_lit hrx
        simp (maxSteps := 1000000) (implicitDefEqProofs := false) (disch := omega) only [push_cast, ↓reduceIte, Nat.reduceEqDiff, reduceCtorEq, decide_true, decide_false, Bool.not_true, Bool.not_false, Option.isNone_some, Option.isNone_none, hadd, f5]
        have u35 := u4.trans u5
        refine wp_callh (wr_h (hb3.up u35) (by rw [str_size]; simp [bA]; omega) (by rw [← hB]; exact Nat.le_trans u3.1 u35.1)) ?_
        rintro x h6 ⟨hb6, s6, k6⟩
        simp (maxSteps := 1000000) (implicitDefEqProofs := false) (disch := omega) only [push_cast, ↓reduceIte, Nat.reduceEqDiff, reduceCtorEq, decide_true, decide_false, Bool.not_true, Bool.not_false, Option.isNone_some, Option.isNone_none, f5, f16, f17, f18]
        have u6 : Up h1 h6 := ⟨Nat.le_trans u3.1 (Nat.le_trans u35.1 s6), fun j hj => (k6 j (by rw [← hB]; exact hj)).trans ((u3.trans u35).2 j hj)⟩
        refine hN (k + 1) _ _ ⟨?_, by omega, u6, ?_⟩ (by omega)
        · simp (maxSteps := 1000000) (implicitDefEqProofs := false) (disch := omega) only [push_cast, ↓reduceIte, Nat.reduceEqDiff, reduceCtorEq, decide_true, decide_false, Bool.not_true, Bool.not_false, Option.isNone_some, Option.isNone_none, f5, f16, f17, f18]
          simp
        · rw [textP_take hr]
          simpa [bA, List.append_assoc] using hb6
      · have hle : ¬ (k : Int) < l.length := by omega
        simp (maxSteps := 1000000) (implicitDefEqProofs := false) (disch := omega) only [push_cast, ↓reduceIte, Nat.reduceEqDiff, reduceCtorEq, decide_true, decide_false, Bool.not_true, Bool.not_false, Option.isNone_some, Option.isNone_none, hρ, hle]
        obtain rfl : k = l.length := by omega
        rw [List.take_length] at hb3
        exact hE _ _ ⟨by simp (maxSteps := 1000000) (implicitDefEqProofs := false) (disch := omega) only [push_cast, ↓reduceIte, Nat.reduceEqDiff, reduceCtorEq, decide_true, decide_false, Bool.not_true, Bool.not_false, Option.isNone_some, Option.isNone_none, hρ], u3, hb3⟩
    · rintro ρ h3 ⟨hρ, u3, hb3⟩
      simp (maxSteps := 1000000) (implicitDefEqProofs := false) (disch := omega) only [push_cast, ↓reduceIte, Nat.reduceEqDiff, reduceCtorEq, decide_true, decide_false, Bool.not_true, Bool.not_false, Option.isNone_some, Option.isNone_none, hρ]
      refine wp_callh (str_h hb3 (by rw [← hB]; exact u3.1)) ?_
      rintro r h4 ⟨rfl, s4, k4⟩
      have u4 : Up h1 h4 := ⟨Nat.le_trans u3.1 s4, fun k hk => (k4 k (by rw [← hB]; exact hk)).trans (u3.2 k hk)⟩
      simp (maxSteps := 1000000) (implicitDefEqProofs := false) (disch := omega) only [push_cast, ↓reduceIte, Nat.reduceEqDiff, reduceCtorEq, decide_true, decide_false, Bool.not_true, Bool.not_false, Option.isNone_some, Option.isNone_none]
      intro h' hg
      refine ⟨G, .tup [aB (textG l), aInt (gchk l)], [], .refl _ _, (relh_up H1 u4).growD hH.size hg, ?_, ?_⟩
      · rw [hc, show textG l = textP l by unfold textG; rw [if_pos hc]]
        have hL : RelL G [aB (textP l), aInt 0] [.string (bA (textP l)), .int .i64 0] := .cons (.v _) (.cons (.v _) (.nil G))
        exact RelV.tup _ _ hL.1 hL.2
      · exact ⟨rfl, by rw [hc]⟩
  · simp (maxSteps := 1000000) (implicitDefEqProofs := false) (disch := omega) only [push_cast, ↓reduceIte, Nat.reduceEqDiff, reduceCtorEq, decide_true, decide_false, Bool.not_true, Bool.not_false, Option.isNone_some, Option.isNone_none, hc]
    intro h' hg
    refine ⟨G, .tup [aB (textG l), aInt (gchk l)], [], .refl _ _, H1.growD hH.size hg, ?_, ?_⟩
    · rw [show textG l = [] by unfold textG; rw [if_neg hc]]
      have hL : RelL G [aB [], aInt (gchk l)] [.string (bA []), .int .i64 (gchk l)] := .cons (.v _) (.cons (.v _) (.nil G))
      exact RelV.tup _ _ hL.1 hL.2
    · exact ⟨rfl, rfl⟩
end Go.Proofs.YtjdpejggafefjaaDoor
/- The document's Text. -/
namespace Go.Proofs.YtjdpejggafefjaaDoor
set_option linter.unusedVariables false
set_option linter.unusedSimpArgs false
open Go Go.Kx Go.Proofs

theorem pb (a b : List UInt8) (h : a.length ≤ 100000000) (h' : b.length ≤ 100000000) : PF.val (.bin .add) [.string (bA a), .string (bA b)] = some (.string (bA (a ++ b))) := by
  rw [pv_str_add _ _ (by rw [str_size, str_size]; simp only [bA]; omega)]
  congr 2
  first | done | (apply str_ext; simp [bA])
theorem pa (a : List UInt8) (c : UInt8) (h : a.length ≤ 100000000) : PF.val (.bin .add) [.string (bA a), .string ⟨#[c]⟩] = some (.string (bA (a ++ [c]))) := pb a [c] h (by simp)
theorem row_snoc {r : List CC} {k : Nat} {c : CC} (h : r[k]? = some c) : joinR [32] (rowW (r.take (k + 1))) true = joinR [32] (rowW (r.take k)) true ++ (if k = 0 then [] else [32]) ++ cellT c k := by
  have hlt := lt_at h
  rw [rowW_take h, joinR_snoc]
  congr 2
  have : rowW (r.take k) = [] ↔ k = 0 := by
    rw [← List.length_eq_zero_iff, rowW_len, List.length_take]
    omega
  simp [this]
theorem row_len {r : List CC} (h : RowOk r) (k : Nat) : (joinR [32] (rowW (r.take k)) true).length ≤ 2300 := by
  have := joinR_len (sep := [32]) (m := 22) (xs := rowW (r.take k)) (f := true) (by
    intro x hx
    obtain ⟨j, c, hc, rfl⟩ := rowW_mem hx
    exact cellT_len (h.bd c (List.mem_of_mem_take (List.mem_of_getElem? hc))) j)
  rw [rowW_len, List.length_take] at this
  have h5 : min k r.length ≤ 100 := by have := h.len; omega
  exact Nat.le_trans this (Nat.le_trans (Nat.mul_le_mul_right _ h5) (by simp))
theorem text_len' {l : List (List CC)} (hlen : l.length ≤ 100) (hrow : ∀ r ∈ l, RowOk r) (k : Nat) : (textP (l.take k)).length ≤ 230100 := by
  have := textP_len (l := l.take k) fun r hr => hrow r (List.mem_of_mem_take hr)
  rw [List.length_take] at this
  have h5 : min k l.length ≤ 100 := by omega
  exact Nat.le_trans this (Nat.mul_le_mul_right _ h5)
set_option maxHeartbeats 8000000 in
theorem ref38_Text_a (l : List (List CC)) (hl : l.length ≤ 9223372036854775807) (hl2 : ∀ r ∈ l, r.length ≤ 9223372036854775807) : FnP Tryd.prog 19 [aRows l] fun a => a = .tup [aB (textG l), aInt (gchk l)] := by
  refine fnP_in K_forebayref38_Text mixed rfl (by simp [AV.pureL, aRows_pure]) ?_
  simp only [S_forebayref38_Text]
  simp (maxSteps:=999999) -implicitDefEqProofs (disch:=omega) only [push_cast,↓reduceIte,Nat.reduceEqDiff,reduceCtorEq,wz]
  refine wpa_call (ref33_Check_a l hl hl2) ?_
  rintro a rfl
  by_cases hc : gchk l = 0
  · obtain ⟨hlen, hrow⟩ := gchk_ok hc
    simp (maxSteps:=999999) -implicitDefEqProofs (disch:=omega) only [push_cast,↓reduceIte,Nat.reduceEqDiff,reduceCtorEq,wz,hc,aInt,aRows,aSl]
    refine wpa_bl (α := Nat) (I := fun i ε σ => (ε 0 = .sl l.length (l.map aRow) .none ∧ ε 5 = aB (textP (l.take i)) ∧ ε 6 = .v (.int .i64 i)) ∧ i ≤ l.length)
      (μ := fun i => l.length - i) (Q := fun ε σ => ε 5 = aB (textP l)) (x := 0) ?_ ?_ ?_
    · exact ⟨by simp (maxSteps:=999999) -implicitDefEqProofs (disch:=omega) only [push_cast,↓reduceIte,Nat.reduceEqDiff,reduceCtorEq,wz]; rfl, by omega⟩
    · rintro i ε σ N E ⟨hρ, hi⟩ hN hE
      simp only [S_forebayref38_Text_L1]
      have htl := text_len' hlen hrow i
      by_cases hlt : i < l.length
      · obtain ⟨r, hr⟩ := at_lt hlt
        have hro := hrow r (List.mem_of_getElem? hr)
        have hrl := hro.len
        have htk := textP_take hr
        generalize textP (l.take i) = T at hρ htl htk
        simp (maxSteps:=999999) -implicitDefEqProofs (disch:=omega) only [push_cast,↓reduceIte,Nat.reduceEqDiff,reduceCtorEq,wz,hρ,hr]
        refine wpa_blx (α := Nat) (I := fun k ε σ => (ε 0 = .sl l.length (l.map aRow) .none ∧ ε 5 = aB (T ++ joinR [32] (rowW (r.take k)) true) ∧ ε 6 = .v (.int .i64 i) ∧ ε 7 = .v (.int .i64 k)) ∧ k ≤ r.length)
          (μ := fun k => r.length - k) (Q := fun ε σ => ε 0 = .sl l.length (l.map aRow) .none ∧ ε 5 = aB (T ++ lineT r) ∧ ε 6 = .v (.int .i64 i)) (x := 0) ?_ ?_ ?_
        · refine ⟨by simp (maxSteps:=999999) -implicitDefEqProofs (disch:=omega) only [push_cast,↓reduceIte,Nat.reduceEqDiff,reduceCtorEq,wz,hρ]; simp [joinR, rowW], by omega⟩
        · clear hρ hN hE ε σ N E
          rintro k ε σ N E X' R' ⟨hρ, hk⟩ hN hE
          simp only [S_forebayref38_Text_L2]
          by_cases hlk : k < r.length
          · obtain ⟨c, hcc⟩ := at_lt hlk
            have hd := flat_drop aCC_len hcc
            have hbd := hro.bd c (List.mem_of_getElem? hcc)
            have hi21 := Lib.itoa_length_le c.st (by omega) (by omega)
            have hsn := row_snoc hcc
            have hrl := row_len hro k
            have hc2 : cellsA (some 2) (aCC c ++ (r.drop (k + 1)).flatMap aCC) = some (.agg (aCC c)) := rfl
            have hsl : (T ++ joinR [32] (rowW (r.take k)) true).length ≤ 300000 := by rw [List.length_append]; omega
            have hsn2 : T ++ joinR [32] (rowW (r.take (k + 1))) true = T ++ joinR [32] (rowW (r.take k)) true ++ ((if k = 0 then [] else [32]) ++ cellT c k) := by rw [hsn]; simp [List.append_assoc]
            generalize T ++ joinR [32] (rowW (r.take k)) true = s0 at hρ hsl hsn2
            simp (maxSteps:=999999) -implicitDefEqProofs (disch:=omega) only [push_cast,↓reduceIte,Nat.reduceEqDiff,reduceCtorEq,wz,hρ,hr,aRow,aSlN,hd,hc2]
            refine wpa_new ?_
            simp (maxSteps:=999999) -implicitDefEqProofs (disch:=omega) only [push_cast,↓reduceIte,Nat.reduceEqDiff,reduceCtorEq,wz,hρ]
            refine wpa_stn (cs := aCC nc) (l := aCC c) (off := 0) rfl rfl (snoc_get _ _) (by decide) ?_
            have hS : (σ ++ [Res.obj 0 [AV.v (.int .i64 0), AV.v (.bool false)]]).set σ.length (Res.obj 0 (setAtA (aCC nc) 0 (aCC c))) = σ ++ [Res.obj 0 (aCC c)] := by simp [setAtA, aCC]
            rw [hS]
            have hx2 := snoc_get σ (Res.obj 0 (aCC c))
            generalize σ ++ [Res.obj 0 (aCC c)] = S2 at hx2 ⊢
            generalize σ.length = ix at hx2 ⊢
            have hc0 : (aCC c)[0]? = some (.v (.int .i64 c.st)) := rfl
            have hc1 : (aCC c)[1]? = some (.v (.bool c.wt)) := rfl
            have hof := ref05_Of_a c.st (by omega) (by omega)
            by_cases hk0 : k = 0
            · have hk0' : ¬ (0 : Int) < (k : Int) := by omega
              rw [if_pos hk0] at hsn2
              cases hw : c.wt with
              | true =>
                have h1 := pa s0 62 (by omega)
                have h2 := pb (s0 ++ [62]) (Lib.itoa c.st) (by rw [List.length_append]; simp; omega) (by omega)
                have h3 : T ++ joinR [32] (rowW (r.take (k + 1))) true = s0 ++ [62] ++ Lib.itoa c.st := by rw [hsn2]; simp [cellT, sgB, hw]
                simp (maxSteps:=999999) -implicitDefEqProofs (disch:=omega) only [push_cast,↓reduceIte,Nat.reduceEqDiff,reduceCtorEq,wz,hρ,hx2,hc0,hc1,hw,hk0',h1]
                refine wpa_call hof ?_
                rintro a rfl
                simp (maxSteps:=999999) -implicitDefEqProofs (disch:=omega) only [push_cast,↓reduceIte,Nat.reduceEqDiff,reduceCtorEq,wz,hρ,h2]
                exact hN (k + 1) _ _ ⟨by simp (maxSteps:=999999) -implicitDefEqProofs (disch:=omega) only [push_cast,↓reduceIte,Nat.reduceEqDiff,reduceCtorEq,wz,hρ,h3], by omega⟩ (by omega)
              | false =>
                have h2 := pb s0 (Lib.itoa c.st) (by omega) (by omega)
                have h3 : T ++ joinR [32] (rowW (r.take (k + 1))) true = s0 ++ Lib.itoa c.st := by rw [hsn2]; simp [cellT, sgB, hw, hk0]
                simp (maxSteps:=999999) -implicitDefEqProofs (disch:=omega) only [push_cast,↓reduceIte,Nat.reduceEqDiff,reduceCtorEq,wz,hρ,hx2,hc0,hc1,hw,hk0']
                refine wpa_call hof ?_
                rintro a rfl
                simp (maxSteps:=999999) -implicitDefEqProofs (disch:=omega) only [push_cast,↓reduceIte,Nat.reduceEqDiff,reduceCtorEq,wz,hρ,h2]
                exact hN (k + 1) _ _ ⟨by simp (maxSteps:=999999) -implicitDefEqProofs (disch:=omega) only [push_cast,↓reduceIte,Nat.reduceEqDiff,reduceCtorEq,wz,hρ,h3], by omega⟩ (by omega)
            · have hk0' : (0 : Int) < (k : Int) := by omega
              rw [if_neg hk0] at hsn2
              have h0 := pa s0 32 (by omega)
              cases hw : c.wt with
              | true =>
                have h1 := pa (s0 ++ [32]) 62 (by rw [List.length_append]; simp; omega)
                have h2 := pb (s0 ++ [32] ++ [62]) (Lib.itoa c.st) (by rw [List.length_append, List.length_append]; simp; omega) (by omega)
                have h3 : T ++ joinR [32] (rowW (r.take (k + 1))) true = s0 ++ [32] ++ [62] ++ Lib.itoa c.st := by rw [hsn2]; simp [cellT, sgB, hw]
                simp (maxSteps:=999999) -implicitDefEqProofs (disch:=omega) only [push_cast,↓reduceIte,Nat.reduceEqDiff,reduceCtorEq,wz,hρ,hx2,hc0,hc1,hw,hk0',h0,h1]
                refine wpa_call hof ?_
                rintro a rfl
                simp (maxSteps:=999999) -implicitDefEqProofs (disch:=omega) only [push_cast,↓reduceIte,Nat.reduceEqDiff,reduceCtorEq,wz,hρ,h2]
                exact hN (k + 1) _ _ ⟨by simp (maxSteps:=999999) -implicitDefEqProofs (disch:=omega) only [push_cast,↓reduceIte,Nat.reduceEqDiff,reduceCtorEq,wz,hρ,h3], by omega⟩ (by omega)
              | false =>
                have h1 := pa (s0 ++ [32]) 45 (by rw [List.length_append]; simp; omega)
                have h2 := pb (s0 ++ [32] ++ [45]) (Lib.itoa c.st) (by rw [List.length_append, List.length_append]; simp; omega) (by omega)
                have h3 : T ++ joinR [32] (rowW (r.take (k + 1))) true = s0 ++ [32] ++ [45] ++ Lib.itoa c.st := by rw [hsn2]; simp [cellT, sgB, hw, hk0]
                simp (maxSteps:=999999) -implicitDefEqProofs (disch:=omega) only [push_cast,↓reduceIte,Nat.reduceEqDiff,reduceCtorEq,wz,hρ,hx2,hc0,hc1,hw,hk0',h0,h1]
                refine wpa_call hof ?_
                rintro a rfl
                simp (maxSteps:=999999) -implicitDefEqProofs (disch:=omega) only [push_cast,↓reduceIte,Nat.reduceEqDiff,reduceCtorEq,wz,hρ,h2]
                exact hN (k + 1) _ _ ⟨by simp (maxSteps:=999999) -implicitDefEqProofs (disch:=omega) only [push_cast,↓reduceIte,Nat.reduceEqDiff,reduceCtorEq,wz,hρ,h3], by omega⟩ (by omega)
          · have hle : ¬ (k : Int) < r.length := by omega
            simp (maxSteps:=999999) -implicitDefEqProofs (disch:=omega) only [push_cast,↓reduceIte,Nat.reduceEqDiff,reduceCtorEq,wz,hρ,hr,aRow,aSlN,hle]
            obtain rfl : k = r.length := by omega
            rw [List.take_length] at hρ
            exact hE _ _ (by simp (maxSteps:=999999) -implicitDefEqProofs (disch:=omega) only [push_cast,↓reduceIte,Nat.reduceEqDiff,reduceCtorEq,wz,hρ]; rfl)
        · clear hρ
          rintro ε σ hρ
          have hll := lineT_len hro
          have h1 := pa (T ++ lineT r) 10 (by rw [List.length_append]; omega)
          simp (maxSteps:=999999) -implicitDefEqProofs (disch:=omega) only [push_cast,↓reduceIte,Nat.reduceEqDiff,reduceCtorEq,wz,hρ,h1]
          refine hN (i + 1) _ _ ⟨by simp (maxSteps:=999999) -implicitDefEqProofs (disch:=omega) only [push_cast,↓reduceIte,Nat.reduceEqDiff,reduceCtorEq,wz,hρ,htk], by omega⟩ (by omega)
      · have hle : ¬ (i : Int) < l.length := by omega
        simp (maxSteps:=999999) -implicitDefEqProofs (disch:=omega) only [push_cast,↓reduceIte,Nat.reduceEqDiff,reduceCtorEq,wz,hρ,hle]
        obtain rfl : i = l.length := by omega
        rw [List.take_length] at hρ
        exact hE _ _ (by simp (maxSteps:=999999) -implicitDefEqProofs (disch:=omega) only [push_cast,↓reduceIte,Nat.reduceEqDiff,reduceCtorEq,wz,hρ])
    · rintro ε σ hρ
      simp (maxSteps:=999999) -implicitDefEqProofs (disch:=omega) only [push_cast,↓reduceIte,Nat.reduceEqDiff,reduceCtorEq,wz,hρ]
      exact ⟨[], rfl, by rw [show textG l = textP l by unfold textG; rw [if_pos hc]]; rfl⟩
  · simp (maxSteps:=999999) -implicitDefEqProofs (disch:=omega) only [push_cast,↓reduceIte,Nat.reduceEqDiff,reduceCtorEq,wz,hc,aInt]
    exact ⟨[], rfl, by rw [show textG l = [] by unfold textG; rw [if_neg hc]]; rfl⟩
end Go.Proofs.YtjdpejggafefjaaDoor
/- picture.cell. -/
namespace Go.Proofs.YtjdpejggafefjaaDoor
set_option linter.unusedVariables false
set_option linter.unusedSimpArgs false
open Go Go.Kx Go.Proofs

def pcell (w : List UInt8) (first : Bool) : CC × Bool :=
  if w.head? = some 62 then (⟨(numF w.tail).1, true⟩, (numF w.tail).2)
  else if w.head? = some 45 then (⟨(numF w.tail).1, false⟩, (numF w.tail).2)
  else if first = true then (⟨(numF w).1, false⟩, (numF w).2)
  else (⟨0, false⟩, false)
def okWs (ws : List (List UInt8)) : Bool := ws.zipIdx.all fun p => (pcell p.1 (decide (p.2 = 0))).2
def rowV (ws : List (List UInt8)) : List CC := ws.zipIdx.map fun p => (pcell p.1 (decide (p.2 = 0))).1
theorem rowV_len (ws : List (List UInt8)) : (rowV ws).length = ws.length := by simp [rowV]
theorem rowV_take {ws : List (List UInt8)} {k : Nat} {w : List UInt8} (h : ws[k]? = some w) : rowV (ws.take (k + 1)) = rowV (ws.take k) ++ [(pcell w (decide (k = 0))).1] := by
  have hlt := lt_at h
  have hlen : (ws.take k).length = k := by rw [List.length_take]; omega
  unfold rowV
  rw [take_succ_at h, List.zipIdx_append, List.map_append, hlen, Nat.zero_add]
  rfl
theorem okWs_take {ws : List (List UInt8)} {k : Nat} {w : List UInt8} (h : ws[k]? = some w) : okWs (ws.take (k + 1)) = (okWs (ws.take k) && (pcell w (decide (k = 0))).2) := by
  have hlt := lt_at h
  have hlen : (ws.take k).length = k := by rw [List.length_take]; omega
  unfold okWs
  rw [take_succ_at h, List.zipIdx_append, List.all_append, hlen, Nat.zero_add]
  simp
theorem okWs_bad {ws : List (List UInt8)} {k : Nat} {w : List UInt8} (h : ws[k]? = some w) (hb : (pcell w (decide (k = 0))).2 = false) : okWs ws = false := by
  unfold okWs
  rw [List.all_eq_false]
  exact ⟨(w, k), by rw [List.mem_zipIdx_iff_getElem?]; simpa using h, by simp [hb]⟩
def wordsL (t : List UInt8) : List (List (List UInt8)) := (partsB 10 true [] t).map (partsB 32 false [])
def preadF (t : List UInt8) : List (List CC) × Int :=
  if (wordsL t).all okWs = true then (if gchk ((wordsL t).map rowV) = 0 then ((wordsL t).map rowV, 0) else ([], gchk ((wordsL t).map rowV))) else ([], 4)
abbrev aRdP (p : List (List CC) × Int) : AV := .tup [aRows p.1, aInt p.2]
theorem sl1 {b : UInt8} {w : List UInt8} (h : w.length ≤ 1000000) : PF.val (.sls true false) [.string (bA (b :: w)), .int .i64 1] = some (.string (bA w)) := by
  have h1 := bound_in (bA (b :: w)).size .i64 1 (by omega) (by rw [size_bA]; simp only [List.length_cons]; omega)
  have h2 : (bA (b :: w)).extract 1 (bA (b :: w)).size = bA w := by rw [extract_bA, size_bA]; simp
  simp [PF.val, loHi, h1, h2]
set_option maxHeartbeats 4000000 in
theorem picture_cell_a (w : List UInt8) (b : Bool) (hw : w.length ≤ 100000) : FnP Tryd.prog 61 [aB w, aBool b] fun a => a = .tup [.agg (aCC (pcell w b).1), aBool (pcell w b).2] := by
  refine fnP_in K_picture_cell mixed rfl rfl ?_
  simp only [S_picture_cell]
  simp (maxSteps:=999999) -implicitDefEqProofs (disch:=omega) only [push_cast,↓reduceIte,Nat.reduceEqDiff,reduceCtorEq,wz]
  refine wpa_new ?_
  simp (maxSteps:=999999) -implicitDefEqProofs (disch:=omega) only [push_cast,↓reduceIte,Nat.reduceEqDiff,reduceCtorEq,wz]
  have hz : [AV.v (.int .i64 0), AV.v (.bool false)] = aCC nc := rfl
  have hp1 := HasPrefix_a w 62 (by omega)
  have hp2 := HasPrefix_a w 45 (by omega)
  have hst : ∀ c : CC, setAtA (aCC nc) 0 (aCC c) = aCC c := fun c => by simp [setAtA, aCC]
  have hcl : ∀ c : CC, cellsA (some 2) (aCC c) = some (.agg (aCC c)) := fun c => rfl
  refine wpa_call hp1 ?_
  rintro a rfl
  by_cases h1 : w.head? = some 62
  · obtain ⟨w', rfl⟩ : ∃ w', w = 62 :: w' := by cases w with | nil => simp at h1 | cons x w => simp at h1; exact ⟨w, by rw [h1]⟩
    have hs := sl1 (b := 62) (w := w') (by simp at hw; omega)
    have hpc : pcell (62 :: w') b = (⟨(numF w').1, true⟩, (numF w').2) := by unfold pcell; rw [if_pos h1]; rfl
    have hbl : fillA [AV.v (.int .i64 0), AV.v (.bool false)] [(0, 1), (1, 1)] [.v (.int .i64 (numF w').1), .v (.bool true)] = some [.v (.int .i64 (numF w').1), .v (.bool true)] := by simp [fillA, AV.cells, setAtA, Value.cells]
    simp (maxSteps:=999999) -implicitDefEqProofs (disch:=omega) only [push_cast,↓reduceIte,Nat.reduceEqDiff,reduceCtorEq,wz,aBool,h1,hs]
    refine wpa_call (Num_a w' (by simp at hw; omega)) ?_
    rintro a rfl
    simp (maxSteps:=999999) -implicitDefEqProofs (disch:=omega) only [push_cast,↓reduceIte,Nat.reduceEqDiff,reduceCtorEq,wz,hbl]
    refine wpa_stn (cs := aCC nc) (l := aCC ⟨(numF w').1, true⟩) (off := 0) rfl rfl rfl (by decide) ?_
    rw [hst]
    simp (maxSteps:=999999) -implicitDefEqProofs (disch:=omega) only [push_cast,↓reduceIte,Nat.reduceEqDiff,reduceCtorEq,wz,hcl]
    rw [hpc]
    exact fin_res [] (by simp [AV.res, AV.resL, aCC_res, aBool]) (by simp [AV.pure, AV.pureL, aCC_pure, aBool])
  · simp (maxSteps:=999999) -implicitDefEqProofs (disch:=omega) only [push_cast,↓reduceIte,Nat.reduceEqDiff,reduceCtorEq,wz,aBool,h1]
    refine wpa_call hp2 ?_
    rintro a rfl
    by_cases h2 : w.head? = some 45
    · obtain ⟨w', rfl⟩ : ∃ w', w = 45 :: w' := by cases w with | nil => simp at h2 | cons x w => simp at h2; exact ⟨w, by rw [h2]⟩
      have hs := sl1 (b := 45) (w := w') (by simp at hw; omega)
      have hpc : pcell (45 :: w') b = (⟨(numF w').1, false⟩, (numF w').2) := by unfold pcell; rw [if_neg h1, if_pos h2]; rfl
      have hbl : fillA [AV.v (.int .i64 0), AV.v (.bool false)] [(0, 1), (1, 1)] [.v (.int .i64 (numF w').1), .v (.bool false)] = some [.v (.int .i64 (numF w').1), .v (.bool false)] := by simp [fillA, AV.cells, setAtA, Value.cells]
      simp (maxSteps:=999999) -implicitDefEqProofs (disch:=omega) only [push_cast,↓reduceIte,Nat.reduceEqDiff,reduceCtorEq,wz,aBool,h1,h2,hs]
      refine wpa_call (Num_a w' (by simp at hw; omega)) ?_
      rintro a rfl
      simp (maxSteps:=999999) -implicitDefEqProofs (disch:=omega) only [push_cast,↓reduceIte,Nat.reduceEqDiff,reduceCtorEq,wz,hbl]
      refine wpa_stn (cs := aCC nc) (l := aCC ⟨(numF w').1, false⟩) (off := 0) rfl rfl rfl (by decide) ?_
      rw [hst]
      simp (maxSteps:=999999) -implicitDefEqProofs (disch:=omega) only [push_cast,↓reduceIte,Nat.reduceEqDiff,reduceCtorEq,wz,hcl]
      rw [hpc]
      exact fin_res [] (by simp [AV.res, AV.resL, aCC_res, aBool]) (by simp [AV.pure, AV.pureL, aCC_pure, aBool])
    · cases b with
      | true =>
        have hpc : pcell w true = (⟨(numF w).1, false⟩, (numF w).2) := by unfold pcell; rw [if_neg h1, if_neg h2]; rfl
        have hbl : fillA [AV.v (.int .i64 0), AV.v (.bool false)] [(0, 1), (1, 1)] [.v (.int .i64 (numF w).1), .v (.bool false)] = some [.v (.int .i64 (numF w).1), .v (.bool false)] := by simp [fillA, AV.cells, setAtA, Value.cells]
        simp (maxSteps:=999999) -implicitDefEqProofs (disch:=omega) only [push_cast,↓reduceIte,Nat.reduceEqDiff,reduceCtorEq,wz,aBool,h1,h2]
        refine wpa_call (Num_a w (by omega)) ?_
        rintro a rfl
        simp (maxSteps:=999999) -implicitDefEqProofs (disch:=omega) only [push_cast,↓reduceIte,Nat.reduceEqDiff,reduceCtorEq,wz,hbl]
        refine wpa_stn (cs := aCC nc) (l := aCC ⟨(numF w).1, false⟩) (off := 0) rfl rfl rfl (by decide) ?_
        rw [hst]
        simp (maxSteps:=999999) -implicitDefEqProofs (disch:=omega) only [push_cast,↓reduceIte,Nat.reduceEqDiff,reduceCtorEq,wz,hcl]
        rw [hpc]
        exact fin_res [] (by simp [AV.res, AV.resL, aCC_res, aBool]) (by simp [AV.pure, AV.pureL, aCC_pure, aBool])
      | false =>
        have hpc : pcell w false = (nc, false) := by unfold pcell; rw [if_neg h1, if_neg h2]; rfl
        have hbl : fillA [AV.v (.int .i64 0), AV.v (.bool false)] [] [] = some (aCC nc) := rfl
        simp (maxSteps:=999999) -implicitDefEqProofs (disch:=omega) only [push_cast,↓reduceIte,Nat.reduceEqDiff,reduceCtorEq,wz,aBool,h1,h2,hbl]
        refine wpa_stn (cs := aCC nc) (l := aCC nc) (off := 0) rfl rfl rfl (by decide) ?_
        rw [hst]
        simp (maxSteps:=999999) -implicitDefEqProofs (disch:=omega) only [push_cast,↓reduceIte,Nat.reduceEqDiff,reduceCtorEq,wz,hcl]
        rw [hpc]
        exact fin_res [] (by simp [AV.res, AV.resL, aCC_res, aBool]) (by simp [AV.pure, AV.pureL, aCC_pure, aBool])
end Go.Proofs.YtjdpejggafefjaaDoor
/- picture.Read. -/
namespace Go.Proofs.YtjdpejggafefjaaDoor
set_option linter.unusedVariables false
set_option linter.unusedSimpArgs false
open Go Go.Kx Go.Proofs

theorem row_res {σ : Kx.St} (r : List CC) (t : Tok) : (AV.sl r.length (r.flatMap aCC) t).res σ = aRow r := aSlN_res (aCC_res σ) r t
theorem rowV_n {ws : List (List UInt8)} {k : Nat} (h : k ≤ ws.length) : (rowV (ws.take k)).length = k := by rw [rowV_len, List.length_take]; omega
theorem aRdP_pure (p : List (List CC) × Int) : (aRdP p).pure = true := by simp [AV.pure, AV.pureL, aRows_pure, aInt]
theorem nil_rows (σ : Kx.St) : (AV.sl 0 [] .nil).res σ = aRows [] := rfl
theorem words_len {t : List UInt8} (ht : t.length ≤ 100000) : (wordsL t).length ≤ t.length + 1 ∧ ∀ ws ∈ wordsL t, ws.length ≤ t.length + 1 ∧ ∀ w ∈ ws, w.length ≤ t.length := by
  have h1 := partsB_len (sign := 10) (em := true) t []
  simp only [if_true, List.length_nil, Nat.add_zero] at h1
  unfold wordsL
  refine ⟨by rw [List.length_map]; omega, fun ws hws => ?_⟩
  rw [List.mem_map] at hws
  obtain ⟨l, hl, rfl⟩ := hws
  have h2 := h1.2 l hl
  have h3 := partsB_len (sign := 32) (em := false) l []
  simp only [if_true, List.length_nil, Nat.add_zero] at h3
  exact ⟨by omega, fun w hw => by have := h3.2 w hw; omega⟩
set_option maxHeartbeats 16000000 in
theorem picture_Read_a (t : List UInt8) (ht : t.length ≤ 100000) : FnP Tryd.prog 22 [aB t] fun a => a = aRdP (preadF t) := by
  refine fnP_in K_picture_Read mixed rfl rfl ?_
  simp only [S_picture_Read]
  have h20 : ¬ (200000 : Int) < ((bA t).size : Int) := by rw [size_bA]; omega
  have hln := Lines_a (bA t) (by rw [size_bA]; exact ht)
  have hll : (partsB 10 true [] t).length ≤ t.length + 1 ∧ ∀ x ∈ partsB 10 true [] t, x.length ≤ t.length := by
    have h1 := partsB_len (sign := 10) (em := true) t []
    simp only [if_true, List.length_nil, Nat.add_zero] at h1
    exact ⟨by omega, h1.2⟩
  have hP : preadF t = if (wordsL t).all okWs = true then (if gchk ((wordsL t).map rowV) = 0 then ((wordsL t).map rowV, 0) else ([], gchk ((wordsL t).map rowV))) else ([], 4) := rfl
  have hwl := words_len ht
  have hwm : wordsL t = (partsB 10 true [] t).map (partsB 32 false []) := rfl
  rw [show (bA t).data.toList = t from rfl] at hln
  generalize partsB 10 true [] t = L at hln hll hwm
  simp (maxSteps:=999999) -implicitDefEqProofs (disch:=omega) only [push_cast,↓reduceIte,Nat.reduceEqDiff,reduceCtorEq,wz,h20]
  refine wpa_call hln ?_
  rintro a rfl
  simp (maxSteps:=999999) -implicitDefEqProofs (disch:=omega) only [push_cast,↓reduceIte,Nat.reduceEqDiff,reduceCtorEq,wz,aSl]
  have hLW : ∀ k l, L[k]? = some l → (wordsL t)[k]? = some (partsB 32 false [] l) := fun k l h => by rw [hwm, List.getElem?_map, h]; rfl
  have hLn : L.length = (wordsL t).length := by rw [hwm, List.length_map]
  generalize wordsL t = W at hP hwl hLW hLn
  refine wpa_blg (GU.tok 4 1 rfl) (α := Nat) (I := fun i ε σ => (ε 17 = .sl L.length (L.map aB) .none ∧ ε 18 = .v (.int .i64 L.length) ∧ ε 19 = .v (.int .i64 i)) ∧ i ≤ L.length ∧ (W.take i).all okWs = true ∧
      ∃ w, ε 4 = .sl i (((W.take i).map rowV).map aRow) (.id 0 w 1) ∧ σ[0]? = some (.tail w) ∧ 0 < σ.length)
    (μ := fun i => L.length - i) (Q := fun ε σ => W.all okWs = true ∧ ∃ w, ε 4 = .sl W.length ((W.map rowV).map aRow) (.id 0 w 1)) (x := 0) ?_ ?_ ?_
  · exact ⟨by simp (maxSteps:=999999) -implicitDefEqProofs (disch:=omega) only [push_cast,↓reduceIte,Nat.reduceEqDiff,reduceCtorEq,wz], by omega, rfl, 0, by simp (maxSteps:=999999) -implicitDefEqProofs (disch:=omega) only [push_cast,↓reduceIte,Nat.reduceEqDiff,reduceCtorEq,wz]; rfl, rfl, by simp⟩
  · rintro i ε σ N E ⟨hρ, hi, hok, w, h4, hσ, hσl⟩ hN hE
    simp only [S_picture_Read_L1]
    by_cases hlt : i < L.length
    · obtain ⟨l, hl⟩ := at_lt hlt
      have hW := hLW i l hl
      have hlm := hll.2 l (List.mem_of_getElem? hl)
      have hfa := Fields_a (bA l) (by rw [size_bA]; omega)
      rw [show (bA l).data.toList = l from rfl] at hfa
      generalize partsB 32 false [] l = ws at hW hfa
      obtain ⟨hws, hwsm⟩ := hwl.2 ws (List.mem_of_getElem? hW)
      simp (maxSteps:=999999) -implicitDefEqProofs (disch:=omega) only [push_cast,↓reduceIte,Nat.reduceEqDiff,reduceCtorEq,wz,hρ,hl]
      refine wpa_call hfa ?_
      rintro a rfl
      simp (maxSteps:=999999) -implicitDefEqProofs (disch:=omega) only [push_cast,↓reduceIte,Nat.reduceEqDiff,reduceCtorEq,wz,hρ,aSl]
      refine wpa_blg (GU.tok 7 2 rfl) (α := Nat) (I := fun k ε σ => (ε 17 = .sl L.length (L.map aB) .none ∧ ε 18 = .v (.int .i64 L.length) ∧ ε 19 = .v (.int .i64 i) ∧ ε 4 = .sl i (((W.take i).map rowV).map aRow) (.id 0 w 1) ∧ ε 24 = .sl ws.length (ws.map aB) .none ∧ ε 25 = .v (.int .i64 ws.length) ∧ ε 26 = .v (.int .i64 k)) ∧ k ≤ ws.length ∧ okWs (ws.take k) = true ∧ σ[0]? = some (.tail w) ∧ 0 < σ.length ∧
          ∃ j v, ε 7 = .sl k ((rowV (ws.take k)).flatMap aCC) (.id j v 2) ∧ σ[j]? = some (.tail v) ∧ 0 < j ∧ j < σ.length)
        (μ := fun k => ws.length - k) (Q := fun ε σ => (ε 17 = .sl L.length (L.map aB) .none ∧ ε 18 = .v (.int .i64 L.length) ∧ ε 19 = .v (.int .i64 i) ∧ ε 4 = .sl i (((W.take i).map rowV).map aRow) (.id 0 w 1)) ∧ okWs ws = true ∧ σ[0]? = some (.tail w) ∧ 0 < σ.length ∧ ∃ tk, ε 7 = .sl ws.length ((rowV ws).flatMap aCC) tk) (x := 0) ?_ ?_ ?_
      · refine ⟨by simp (maxSteps:=999999) -implicitDefEqProofs (disch:=omega) only [push_cast,↓reduceIte,Nat.reduceEqDiff,reduceCtorEq,wz,hρ,h4], by omega, rfl, get_app hσ, by simp, σ.length, 0, by simp (maxSteps:=999999) -implicitDefEqProofs (disch:=omega) only [push_cast,↓reduceIte,Nat.reduceEqDiff,reduceCtorEq,wz]; rfl, snoc_get _ _, hσl, by simp⟩
      · clear hρ h4 hσ hσl ε σ
        rintro k ε σ N' E' ⟨hρ, hk, hok', hσ, hσl, j, v, h7, hj, hj0, hjl⟩ hN' hE'
        simp only [S_picture_Read_L2]
        by_cases hlk : k < ws.length
        · obtain ⟨w', hw'⟩ := at_lt hlk
          have hwl' := hwsm w' (List.mem_of_getElem? hw')
          have hpc : FnP Tryd.prog 61 [aB w', aBool (decide ((k : Int) = 0))] fun a => a = .tup [.agg (aCC (pcell w' (decide (k = 0))).1), aBool (pcell w' (decide (k = 0))).2] := by
            have := picture_cell_a w' (decide ((k : Int) = 0)) (by omega)
            rw [show (decide ((k : Int) = 0)) = decide (k = 0) by simp] at this ⊢
            exact this
          have hbad := okWs_bad hw'
          have hgood := okWs_take hw'
          have hrow := rowV_take hw'
          generalize pcell w' (decide (k = 0)) = pc at hpc hbad hgood hrow
          obtain ⟨c, b⟩ := pc
          dsimp only at hpc hbad hgood hrow
          have hcl : cellsA (some 2) (aCC c) = some (.agg (aCC c)) := rfl
          simp (maxSteps:=999999) -implicitDefEqProofs (disch:=omega) only [push_cast,↓reduceIte,Nat.reduceEqDiff,reduceCtorEq,wz,hρ,hw']
          refine wpa_call hpc ?_
          rintro a rfl
          simp (maxSteps:=999999) -implicitDefEqProofs (disch:=omega) only [push_cast,↓reduceIte,Nat.reduceEqDiff,reduceCtorEq,wz,hρ]
          refine wpa_new ?_
          simp (maxSteps:=999999) -implicitDefEqProofs (disch:=omega) only [push_cast,↓reduceIte,Nat.reduceEqDiff,reduceCtorEq,wz,hρ]
          refine wpa_stn (cs := aCC nc) (l := aCC c) (off := 0) rfl rfl (snoc_get _ _) (by decide) ?_
          have hS : (σ ++ [Res.obj 0 [AV.v (.int .i64 0), AV.v (.bool false)]]).set σ.length (Res.obj 0 (setAtA (aCC nc) 0 (aCC c))) = σ ++ [Res.obj 0 (aCC c)] := by simp [setAtA, aCC]
          rw [hS]
          have hx2 := snoc_get σ (Res.obj 0 (aCC c))
          have hσ2 := get_app (τ := [Res.obj 0 (aCC c)]) hσ
          have hj2 := get_app (τ := [Res.obj 0 (aCC c)]) hj
          have hl2 : (σ ++ [Res.obj 0 (aCC c)]).length = σ.length + 1 := by simp
          generalize σ ++ [Res.obj 0 (aCC c)] = S2 at hx2 hσ2 hj2 hl2 ⊢
          generalize σ.length = ix at hx2 hl2 hjl hσl ⊢
          cases b with
          | false =>
            have hall : W.all okWs = false := by
              rw [List.all_eq_false]
              exact ⟨ws, List.mem_of_getElem? hW, by rw [hbad rfl]; simp⟩
            simp (maxSteps:=999999) -implicitDefEqProofs (disch:=omega) only [push_cast,↓reduceIte,Nat.reduceEqDiff,reduceCtorEq,wz,aBool]
            refine fin_res [] ?_ (aRdP_pure _)
            rw [hP, hall]
            rfl
          | true =>
            rw [hok', Bool.true_and] at hgood
            simp (maxSteps:=999999) -implicitDefEqProofs (disch:=omega) only [push_cast,↓reduceIte,Nat.reduceEqDiff,reduceCtorEq,wz,hρ,aBool,h7,hx2,hcl]
            refine wpa_bsl (sz := 2) (by intro a ha; simp at ha; rcases ha with rfl; rfl) (by simp) ?_
            simp (maxSteps:=999999) -implicitDefEqProofs (disch:=omega) only [push_cast,↓reduceIte,Nat.reduceEqDiff,reduceCtorEq,wz,hρ]
            refine wpa_app (news := aCC c) rfl rfl (by simp [aCC]) rfl (by rw [flat_len aCC_len, rowV_n (by omega)]) (by omega) (by omega) hj2 ?_
            simp (maxSteps:=999999) -implicitDefEqProofs (disch:=omega) only [push_cast,↓reduceIte,Nat.reduceEqDiff,reduceCtorEq,wz,hρ]
            refine hN' (k + 1) _ _ ⟨by simp (maxSteps:=999999) -implicitDefEqProofs (disch:=omega) only [push_cast,↓reduceIte,Nat.reduceEqDiff,reduceCtorEq,wz,hρ], by omega, hgood, by rw [List.getElem?_set_ne (by omega)]; exact hσ2, by rw [List.length_set]; omega, j, v + 1, ?_, by rw [List.getElem?_set_self (by omega)], hj0, by rw [List.length_set]; omega⟩ (by omega)
            rw [hrow, List.flatMap_append]
            simp (maxSteps:=999999) -implicitDefEqProofs (disch:=omega) only [push_cast,↓reduceIte,Nat.reduceEqDiff,reduceCtorEq,wz]
            simp
        · have hle : ¬ (k : Int) < ws.length := by omega
          simp (maxSteps:=999999) -implicitDefEqProofs (disch:=omega) only [push_cast,↓reduceIte,Nat.reduceEqDiff,reduceCtorEq,wz,hρ,hle]
          obtain rfl : k = ws.length := by omega
          rw [List.take_length] at hok' h7
          exact hE' _ _ ⟨by simp (maxSteps:=999999) -implicitDefEqProofs (disch:=omega) only [push_cast,↓reduceIte,Nat.reduceEqDiff,reduceCtorEq,wz,hρ], hok', hσ, hσl, .id j v 2, by simp (maxSteps:=999999) -implicitDefEqProofs (disch:=omega) only [push_cast,↓reduceIte,Nat.reduceEqDiff,reduceCtorEq,wz,h7]⟩
      · clear hρ h4 hσ hσl ε σ
        rintro ε σ ⟨hρ, hok', hσ, hσl, tk, h7⟩
        simp (maxSteps:=999999) -implicitDefEqProofs (disch:=omega) only [push_cast,↓reduceIte,Nat.reduceEqDiff,reduceCtorEq,wz,hρ,h7]
        refine wpa_frz [] [true] ?_
        show act (EF.awp _ _ [(AV.sl ws.length ((rowV ws).flatMap aCC) tk).res σ] σ _)
        have hr := row_res (σ := σ) (rowV ws) tk
        rw [rowV_len] at hr
        rw [hr]
        refine wpa_bsl (sz := 1) (by intro a ha; simp at ha; rcases ha with rfl; rfl) (by simp) ?_
        simp (maxSteps:=999999) -implicitDefEqProofs (disch:=omega) only [push_cast,↓reduceIte,Nat.reduceEqDiff,reduceCtorEq,wz,hρ]
        refine wpa_app (news := [aRow (rowV ws)]) rfl rfl rfl rfl (by simp; omega) (by omega) (by omega) hσ ?_
        simp (maxSteps:=999999) -implicitDefEqProofs (disch:=omega) only [push_cast,↓reduceIte,Nat.reduceEqDiff,reduceCtorEq,wz,hρ]
        have htk := take_succ_at hW
        refine hN (i + 1) _ _ ⟨by simp (maxSteps:=999999) -implicitDefEqProofs (disch:=omega) only [push_cast,↓reduceIte,Nat.reduceEqDiff,reduceCtorEq,wz,hρ], by omega, by rw [htk, List.all_append, hok]; simp [hok'], w + 1, ?_, by rw [List.getElem?_set_self hσl], by rw [List.length_set]; exact hσl⟩ (by omega)
        rw [htk, List.map_append, List.map_append]
        simp (maxSteps:=999999) -implicitDefEqProofs (disch:=omega) only [push_cast,↓reduceIte,Nat.reduceEqDiff,reduceCtorEq,wz]
        rfl
    · have hle : ¬ (i : Int) < L.length := by omega
      simp (maxSteps:=999999) -implicitDefEqProofs (disch:=omega) only [push_cast,↓reduceIte,Nat.reduceEqDiff,reduceCtorEq,wz,hρ,hle]
      obtain rfl : i = W.length := by omega
      rw [List.take_length] at hok h4
      exact hE _ _ ⟨hok, w, by simp (maxSteps:=999999) -implicitDefEqProofs (disch:=omega) only [push_cast,↓reduceIte,Nat.reduceEqDiff,reduceCtorEq,wz,h4]⟩
  · rintro ε σ ⟨hok, w, h4⟩
    have hr : (AV.sl W.length ((W.map rowV).map aRow) (.id 0 w 1)).res σ = aRows (W.map rowV) := by
      have := aRows_res σ (W.map rowV) (.id 0 w 1)
      rw [List.length_map] at this
      exact this
    have hck := grid_Check_a (W.map rowV) (by rw [List.length_map]; omega) (by intro r hr; rw [List.mem_map] at hr; obtain ⟨x, hx, rfl⟩ := hr; rw [rowV_len]; have := (hwl.2 x hx).1; omega)
    simp (maxSteps:=999999) -implicitDefEqProofs (disch:=omega) only [push_cast,↓reduceIte,Nat.reduceEqDiff,reduceCtorEq,wz,h4]
    refine wpa_callw [] [true] hck (by show [AV.res σ _] = _; rw [hr]) ?_
    rintro a rfl
    rw [hok] at hP
    by_cases hg : gchk (W.map rowV) = 0
    · simp (maxSteps:=999999) -implicitDefEqProofs (disch:=omega) only [push_cast,↓reduceIte,Nat.reduceEqDiff,reduceCtorEq,wz,h4,aInt,hg]
      refine fin_res [] ?_ (aRdP_pure _)
      rw [hP, if_pos rfl, if_pos hg]
      show AV.tup [AV.res _ _, _] = _
      rw [show ∀ τ, AV.res τ (AV.sl W.length ((W.map rowV).map aRow) (.id 0 w 1)) = aRows (W.map rowV) from fun τ => by
        have := aRows_res τ (W.map rowV) (.id 0 w 1)
        rw [List.length_map] at this
        exact this]
      rfl
    · simp (maxSteps:=999999) -implicitDefEqProofs (disch:=omega) only [push_cast,↓reduceIte,Nat.reduceEqDiff,reduceCtorEq,wz,h4,aInt,hg]
      refine fin_res [] ?_ (aRdP_pure _)
      rw [hP, if_pos rfl, if_neg hg]
      rfl
end Go.Proofs.YtjdpejggafefjaaDoor
/- The document's Read of pictures (printed by tools/mkpii.py). -/
namespace Go.Proofs.YtjdpejggafefjaaDoor
set_option linter.unusedVariables false
set_option linter.unusedSimpArgs false
open Go Go.Kx Go.Proofs

theorem partsB_ne : ∀ (bs cur : List UInt8), ∀ x ∈ partsB 32 false cur bs, x ≠ [] := by
  intro bs
  induction bs with
  | nil =>
    intro cur x hx
    simp only [partsB] at hx
    split at hx
    · simp at hx
    · simp at hx; rintro rfl; simp_all
  | cons b bs ih =>
    intro cur x hx
    simp only [partsB] at hx
    split at hx
    · split at hx
      · rename_i hc
        rcases List.mem_cons.1 hx with h | h
        · rw [h]; simpa using hc
        · exact ih _ _ h
      · exact ih _ _ hx
    · exact ih _ _ hx
theorem wordsL_ne {t : List UInt8} : ∀ ws ∈ wordsL t, ∀ w ∈ ws, w ≠ [] := by
  intro ws hws
  unfold wordsL at hws
  rw [List.mem_map] at hws
  obtain ⟨l, _, rfl⟩ := hws
  exact partsB_ne l []
set_option maxHeartbeats 16000000 in
theorem ref38_Read_a (t : List UInt8) (ht : t.length ≤ 100000) : FnP Tryd.prog 24 [aB t] fun a => a = aRdP (preadF t) := by
  refine fnP_in K_forebayref38_Read mixed rfl rfl ?_
  simp only [S_forebayref38_Read]
  have h20 : ¬ (200000 : Int) < ((bA t).size : Int) := by rw [size_bA]; omega
  have hln := ref05_Lines_a (bA t) (by rw [size_bA]; exact ht)
  have hll : (partsB 10 true [] t).length ≤ t.length + 1 ∧ ∀ x ∈ partsB 10 true [] t, x.length ≤ t.length := by
    have h1 := partsB_len (sign := 10) (em := true) t []
    simp only [if_true, List.length_nil, Nat.add_zero] at h1
    exact ⟨by omega, h1.2⟩
  have hP : preadF t = if (wordsL t).all okWs = true then (if gchk ((wordsL t).map rowV) = 0 then ((wordsL t).map rowV, 0) else ([], gchk ((wordsL t).map rowV))) else ([], 4) := rfl
  have hwl := words_len ht
  have hwne := wordsL_ne (t := t)
  have hwm : wordsL t = (partsB 10 true [] t).map (partsB 32 false []) := rfl
  rw [show (bA t).data.toList = t from rfl] at hln
  generalize partsB 10 true [] t = L at hln hll hwm
  simp (maxSteps:=999999) -implicitDefEqProofs (disch:=omega) only [push_cast,↓reduceIte,Nat.reduceEqDiff,reduceCtorEq,wz,h20]
  refine wpa_call hln ?_
  rintro a rfl
  simp (maxSteps:=999999) -implicitDefEqProofs (disch:=omega) only [push_cast,↓reduceIte,Nat.reduceEqDiff,reduceCtorEq,wz,aSl]
  have hLW : ∀ k l, L[k]? = some l → (wordsL t)[k]? = some (partsB 32 false [] l) := fun k l h => by rw [hwm, List.getElem?_map, h]; rfl
  have hLn : L.length = (wordsL t).length := by rw [hwm, List.length_map]
  generalize wordsL t = W at hP hwl hwne hLW hLn
  refine wpa_blg (GU.tok 5 1 rfl) (α := Nat) (I := fun i ε σ => (ε 4 = .sl L.length (L.map aB) .none ∧ ε 6 = .v (.int .i64 i)) ∧ i ≤ L.length ∧ (W.take i).all okWs = true ∧
      ∃ w, ε 5 = .sl i (((W.take i).map rowV).map aRow) (.id 0 w 1) ∧ σ[0]? = some (.tail w) ∧ 0 < σ.length)
    (μ := fun i => L.length - i) (Q := fun ε σ => W.all okWs = true ∧ ∃ w, ε 5 = .sl W.length ((W.map rowV).map aRow) (.id 0 w 1)) (x := 0) ?_ ?_ ?_
  · exact ⟨by simp (maxSteps:=999999) -implicitDefEqProofs (disch:=omega) only [push_cast,↓reduceIte,Nat.reduceEqDiff,reduceCtorEq,wz], by omega, rfl, 0, by simp (maxSteps:=999999) -implicitDefEqProofs (disch:=omega) only [push_cast,↓reduceIte,Nat.reduceEqDiff,reduceCtorEq,wz]; rfl, rfl, by simp⟩
  · rintro i ε σ N E ⟨hρ, hi, hok, w, h4, hσ, hσl⟩ hN hE
    simp only [S_forebayref38_Read_L1]
    by_cases hlt : i < L.length
    · obtain ⟨l, hl⟩ := at_lt hlt
      have hW := hLW i l hl
      have hlm := hll.2 l (List.mem_of_getElem? hl)
      have hfa := ref05_Fields_a (bA l) (by rw [size_bA]; omega)
      rw [show (bA l).data.toList = l from rfl] at hfa
      generalize partsB 32 false [] l = ws at hW hfa
      obtain ⟨hws, hwsm⟩ := hwl.2 ws (List.mem_of_getElem? hW)
      have hwsn := hwne ws (List.mem_of_getElem? hW)
      simp (maxSteps:=999999) -implicitDefEqProofs (disch:=omega) only [push_cast,↓reduceIte,Nat.reduceEqDiff,reduceCtorEq,wz,hρ,hl]
      refine wpa_call hfa ?_
      rintro a rfl
      simp (maxSteps:=999999) -implicitDefEqProofs (disch:=omega) only [push_cast,↓reduceIte,Nat.reduceEqDiff,reduceCtorEq,wz,hρ,aSl]
      refine wpa_blg (GU.tok 8 2 rfl) (α := Nat) (I := fun k ε σ => (ε 4 = .sl L.length (L.map aB) .none ∧ ε 6 = .v (.int .i64 i) ∧ ε 5 = .sl i (((W.take i).map rowV).map aRow) (.id 0 w 1) ∧ ε 7 = .sl ws.length (ws.map aB) .none ∧ ε 9 = .v (.int .i64 k)) ∧ k ≤ ws.length ∧ okWs (ws.take k) = true ∧ σ[0]? = some (.tail w) ∧ 0 < σ.length ∧
          ∃ j v, ε 8 = .sl k ((rowV (ws.take k)).flatMap aCC) (.id j v 2) ∧ σ[j]? = some (.tail v) ∧ 0 < j ∧ j < σ.length)
        (μ := fun k => ws.length - k) (Q := fun ε σ => (ε 4 = .sl L.length (L.map aB) .none ∧ ε 6 = .v (.int .i64 i) ∧ ε 5 = .sl i (((W.take i).map rowV).map aRow) (.id 0 w 1)) ∧ okWs ws = true ∧ σ[0]? = some (.tail w) ∧ 0 < σ.length ∧ ∃ tk, ε 8 = .sl ws.length ((rowV ws).flatMap aCC) tk) (x := 0) ?_ ?_ ?_
      · refine ⟨by simp (maxSteps:=999999) -implicitDefEqProofs (disch:=omega) only [push_cast,↓reduceIte,Nat.reduceEqDiff,reduceCtorEq,wz,hρ,h4], by omega, rfl, get_app hσ, by simp, σ.length, 0, by simp (maxSteps:=999999) -implicitDefEqProofs (disch:=omega) only [push_cast,↓reduceIte,Nat.reduceEqDiff,reduceCtorEq,wz]; rfl, snoc_get _ _, hσl, by simp⟩
      · clear hρ h4 hσ hσl ε σ
        rintro k ε σ N' E' ⟨hρ, hk, hok', hσ, hσl, j, v, h8, hj, hj0, hjl⟩ hN' hE'
        simp only [S_forebayref38_Read_L2]
        by_cases hlk : k < ws.length
        · obtain ⟨wd, hw'⟩ := at_lt hlk
          have hwl' := hwsm wd (List.mem_of_getElem? hw')
          have hwn' := hwsn wd (List.mem_of_getElem? hw')
          have hbad := okWs_bad hw'
          have hgood := okWs_take hw'
          have hrow := rowV_take hw'
          have hbl : fillA [AV.v (.int .i64 0), AV.v (.bool false)] [] [] = some (aCC nc) := rfl
          simp (maxSteps:=999999) -implicitDefEqProofs (disch:=omega) only [push_cast,↓reduceIte,Nat.reduceEqDiff,reduceCtorEq,wz,hρ,hw',hbl]
          refine wpa_new ?_
          simp (maxSteps:=999999) -implicitDefEqProofs (disch:=omega) only [push_cast,↓reduceIte,Nat.reduceEqDiff,reduceCtorEq,wz,hρ]
          refine wpa_stn (cs := aCC nc) (l := aCC nc) (off := 0) rfl rfl (snoc_get _ _) (by decide) ?_
          have hS : (σ ++ [Res.obj 0 [AV.v (.int .i64 0), AV.v (.bool false)]]).set σ.length (Res.obj 0 (setAtA (aCC nc) 0 (aCC nc))) = σ ++ [Res.obj 0 (aCC nc)] := by simp [setAtA, aCC]
          rw [hS]
          have hx3 : (σ ++ [Res.obj 0 (aCC nc)])[σ.length]? = some (.obj 0 [AV.v (.int .i64 0), AV.v (.bool false)]) := snoc_get σ (Res.obj 0 (aCC nc))
          have hσ3 := get_app (τ := [Res.obj 0 (aCC nc)]) hσ
          have hj3 := get_app (τ := [Res.obj 0 (aCC nc)]) hj
          have hl3 : (σ ++ [Res.obj 0 (aCC nc)]).length = σ.length + 1 := by simp
          generalize σ ++ [Res.obj 0 (aCC nc)] = S3 at hx3 hσ3 hj3 hl3 ⊢
          generalize σ.length = ix at hx3 hl3 hjl hσl ⊢
          obtain ⟨b, wt, rfl⟩ : ∃ b wt, wd = b :: wt := by cases wd with | nil => exact absurd rfl hwn' | cons b wt => exact ⟨b, wt, rfl⟩
          have hwl2 : wt.length ≤ t.length := by simp only [List.length_cons] at hwl'; omega
          generalize hwd : b :: wt = wd at hρ hw' hbad hgood hrow hwl' hwn' ⊢
          have hix : PF.val .ixs [.string (bA wd), .int .i64 0] = some (.int .u8 b.toNat) := pv_str_ix (b := b) (i := 0) (by decide) (by rw [← hwd]; simp)
          have hsl : PF.val (.sls true false) [.string (bA wd), .int .i64 1] = some (.string (bA wt)) := by rw [← hwd]; exact sl1 (by omega)
          have hnt := ref05_Num_a wt (by omega)
          by_cases hb1 : b = 62
          · have hb1' : (b.toNat : Int) = 62 := by rw [hb1]; rfl
            simp (maxSteps:=999999) -implicitDefEqProofs (disch:=omega) only [push_cast,↓reduceIte,Nat.reduceEqDiff,reduceCtorEq,wz,hρ,hix,hsl,hb1',hx3]
            refine wpa_st1 rfl rfl hx3 (by simp) ?_
            have hxn : (S3.set ix (Res.obj 0 ([AV.v (.int .i64 0), AV.v (.bool false)].set 1 (.v (.bool true)))))[ix]? = some (.obj 0 [AV.v (.int .i64 0), AV.v (.bool true)]) := by rw [List.getElem?_set_self (by omega)]; rfl
            have hσn : (S3.set ix (Res.obj 0 ([AV.v (.int .i64 0), AV.v (.bool false)].set 1 (.v (.bool true)))))[0]? = some (.tail w) := by rw [List.getElem?_set_ne (by omega)]; exact hσ3
            have hjn : (S3.set ix (Res.obj 0 ([AV.v (.int .i64 0), AV.v (.bool false)].set 1 (.v (.bool true)))))[j]? = some (.tail v) := by rw [List.getElem?_set_ne (by omega)]; exact hj3
            have hln : (S3.set ix (Res.obj 0 ([AV.v (.int .i64 0), AV.v (.bool false)].set 1 (.v (.bool true))))).length = ix + 1 := by rw [List.length_set]; exact hl3
            clear hx3 hσ3 hj3 hl3
            generalize S3.set ix (Res.obj 0 ([AV.v (.int .i64 0), AV.v (.bool false)].set 1 (.v (.bool true)))) = S3 at hxn hσn hjn hln ⊢
            have hx3 := hxn
            have hσ3 := hσn
            have hj3 := hjn
            have hl3 := hln
            simp (maxSteps:=999999) -implicitDefEqProofs (disch:=omega) only [push_cast,↓reduceIte,Nat.reduceEqDiff,reduceCtorEq,wz,hρ,hsl]
            refine wpa_call hnt ?_
            rintro a rfl
            cases hok2 : (numF wt).2 with
            | false =>
              simp (maxSteps:=999999) -implicitDefEqProofs (disch:=omega) only [push_cast,↓reduceIte,Nat.reduceEqDiff,reduceCtorEq,wz,hρ,hok2]
              have hpc : (pcell wd (decide (k = 0))).2 = false := by rw [← hwd, hb1]; unfold pcell; simp [hok2]
              have hall : W.all okWs = false := by
                rw [List.all_eq_false]
                exact ⟨ws, List.mem_of_getElem? hW, by rw [hbad hpc]; simp⟩
              refine fin_res [] ?_ (aRdP_pure _)
              rw [hP, hall]
              rfl
            | true =>
              simp (maxSteps:=999999) -implicitDefEqProofs (disch:=omega) only [push_cast,↓reduceIte,Nat.reduceEqDiff,reduceCtorEq,wz,hρ,hok2]
              have hpc : pcell wd (decide (k = 0)) = (⟨(numF wt).1, true⟩, true) := by rw [← hwd, hb1]; unfold pcell; simp [hok2]
              rw [hpc] at hbad hgood hrow
              dsimp only at hbad hgood hrow
              rw [hok', Bool.true_and] at hgood
              have hcl : cellsA (some 2) (aCC ⟨(numF wt).1, true⟩) = some (.agg (aCC ⟨(numF wt).1, true⟩)) := rfl
              refine wpa_st1 rfl rfl hx3 (by simp) ?_
              have hx4 : (S3.set ix (Res.obj 0 ([AV.v (.int .i64 0), AV.v (.bool true)].set 0 (.v (.int .i64 (numF wt).1)))))[ix]? = some (.obj 0 (aCC ⟨(numF wt).1, true⟩)) := by rw [List.getElem?_set_self (by omega)]; rfl
              have hσ4 : (S3.set ix (Res.obj 0 ([AV.v (.int .i64 0), AV.v (.bool true)].set 0 (.v (.int .i64 (numF wt).1)))))[0]? = some (.tail w) := by rw [List.getElem?_set_ne (by omega)]; exact hσ3
              have hj4 : (S3.set ix (Res.obj 0 ([AV.v (.int .i64 0), AV.v (.bool true)].set 0 (.v (.int .i64 (numF wt).1)))))[j]? = some (.tail v) := by rw [List.getElem?_set_ne (by omega)]; exact hj3
              have hl4 : (S3.set ix (Res.obj 0 ([AV.v (.int .i64 0), AV.v (.bool true)].set 0 (.v (.int .i64 (numF wt).1))))).length = ix + 1 := by rw [List.length_set]; exact hl3
              generalize S3.set ix (Res.obj 0 ([AV.v (.int .i64 0), AV.v (.bool true)].set 0 (.v (.int .i64 (numF wt).1)))) = S4 at hx4 hσ4 hj4 hl4 ⊢
              simp (maxSteps:=999999) -implicitDefEqProofs (disch:=omega) only [push_cast,↓reduceIte,Nat.reduceEqDiff,reduceCtorEq,wz,hρ,h8,hx4,hcl]
              refine wpa_bsl (sz := 2) (by intro a ha; simp at ha; rcases ha with rfl; rfl) (by simp) ?_
              simp (maxSteps:=999999) -implicitDefEqProofs (disch:=omega) only [push_cast,↓reduceIte,Nat.reduceEqDiff,reduceCtorEq,wz,hρ]
              refine wpa_app (news := aCC ⟨(numF wt).1, true⟩) rfl rfl (by simp [aCC]) rfl (by rw [flat_len aCC_len, rowV_n (by omega)]) (by omega) (by omega) hj4 ?_
              simp (maxSteps:=999999) -implicitDefEqProofs (disch:=omega) only [push_cast,↓reduceIte,Nat.reduceEqDiff,reduceCtorEq,wz,hρ]
              refine hN' (k + 1) _ _ ⟨by simp (maxSteps:=999999) -implicitDefEqProofs (disch:=omega) only [push_cast,↓reduceIte,Nat.reduceEqDiff,reduceCtorEq,wz,hρ], by omega, hgood, by rw [List.getElem?_set_ne (by omega)]; exact hσ4, by rw [List.length_set]; omega, j, v + 1, ?_, by rw [List.getElem?_set_self (by omega)], hj0, by rw [List.length_set]; omega⟩ (by omega)
              rw [hrow, List.flatMap_append]
              simp (maxSteps:=999999) -implicitDefEqProofs (disch:=omega) only [push_cast,↓reduceIte,Nat.reduceEqDiff,reduceCtorEq,wz]
              simp
          · have hb1' : ¬ (b.toNat : Int) = 62 := fun h => hb1 (UInt8.toNat_inj.1 (by show b.toNat = 62; omega))
            by_cases hb2 : b = 45
            · have hb2' : (b.toNat : Int) = 45 := by rw [hb2]; rfl
              simp (maxSteps:=999999) -implicitDefEqProofs (disch:=omega) only [push_cast,↓reduceIte,Nat.reduceEqDiff,reduceCtorEq,wz,hρ,hix,hsl,hb1',hb2',hx3]
              refine wpa_st1 rfl rfl hx3 (by simp) ?_
              have hxn : (S3.set ix (Res.obj 0 ([AV.v (.int .i64 0), AV.v (.bool false)].set 1 (.v (.bool false)))))[ix]? = some (.obj 0 [AV.v (.int .i64 0), AV.v (.bool false)]) := by rw [List.getElem?_set_self (by omega)]; rfl
              have hσn : (S3.set ix (Res.obj 0 ([AV.v (.int .i64 0), AV.v (.bool false)].set 1 (.v (.bool false)))))[0]? = some (.tail w) := by rw [List.getElem?_set_ne (by omega)]; exact hσ3
              have hjn : (S3.set ix (Res.obj 0 ([AV.v (.int .i64 0), AV.v (.bool false)].set 1 (.v (.bool false)))))[j]? = some (.tail v) := by rw [List.getElem?_set_ne (by omega)]; exact hj3
              have hln : (S3.set ix (Res.obj 0 ([AV.v (.int .i64 0), AV.v (.bool false)].set 1 (.v (.bool false))))).length = ix + 1 := by rw [List.length_set]; exact hl3
              clear hx3 hσ3 hj3 hl3
              generalize S3.set ix (Res.obj 0 ([AV.v (.int .i64 0), AV.v (.bool false)].set 1 (.v (.bool false)))) = S3 at hxn hσn hjn hln ⊢
              have hx3 := hxn
              have hσ3 := hσn
              have hj3 := hjn
              have hl3 := hln
              simp (maxSteps:=999999) -implicitDefEqProofs (disch:=omega) only [push_cast,↓reduceIte,Nat.reduceEqDiff,reduceCtorEq,wz,hρ,hsl]
              refine wpa_call hnt ?_
              rintro a rfl
              cases hok2 : (numF wt).2 with
              | false =>
                simp (maxSteps:=999999) -implicitDefEqProofs (disch:=omega) only [push_cast,↓reduceIte,Nat.reduceEqDiff,reduceCtorEq,wz,hρ,hok2]
                have hpc : (pcell wd (decide (k = 0))).2 = false := by rw [← hwd, hb2]; unfold pcell; simp [hok2]
                have hall : W.all okWs = false := by
                  rw [List.all_eq_false]
                  exact ⟨ws, List.mem_of_getElem? hW, by rw [hbad hpc]; simp⟩
                refine fin_res [] ?_ (aRdP_pure _)
                rw [hP, hall]
                rfl
              | true =>
                simp (maxSteps:=999999) -implicitDefEqProofs (disch:=omega) only [push_cast,↓reduceIte,Nat.reduceEqDiff,reduceCtorEq,wz,hρ,hok2]
                have hpc : pcell wd (decide (k = 0)) = (⟨(numF wt).1, false⟩, true) := by rw [← hwd, hb2]; unfold pcell; simp [hok2]
                rw [hpc] at hbad hgood hrow
                dsimp only at hbad hgood hrow
                rw [hok', Bool.true_and] at hgood
                have hcl : cellsA (some 2) (aCC ⟨(numF wt).1, false⟩) = some (.agg (aCC ⟨(numF wt).1, false⟩)) := rfl
                refine wpa_st1 rfl rfl hx3 (by simp) ?_
                have hx4 : (S3.set ix (Res.obj 0 ([AV.v (.int .i64 0), AV.v (.bool false)].set 0 (.v (.int .i64 (numF wt).1)))))[ix]? = some (.obj 0 (aCC ⟨(numF wt).1, false⟩)) := by rw [List.getElem?_set_self (by omega)]; rfl
                have hσ4 : (S3.set ix (Res.obj 0 ([AV.v (.int .i64 0), AV.v (.bool false)].set 0 (.v (.int .i64 (numF wt).1)))))[0]? = some (.tail w) := by rw [List.getElem?_set_ne (by omega)]; exact hσ3
                have hj4 : (S3.set ix (Res.obj 0 ([AV.v (.int .i64 0), AV.v (.bool false)].set 0 (.v (.int .i64 (numF wt).1)))))[j]? = some (.tail v) := by rw [List.getElem?_set_ne (by omega)]; exact hj3
                have hl4 : (S3.set ix (Res.obj 0 ([AV.v (.int .i64 0), AV.v (.bool false)].set 0 (.v (.int .i64 (numF wt).1))))).length = ix + 1 := by rw [List.length_set]; exact hl3
                generalize S3.set ix (Res.obj 0 ([AV.v (.int .i64 0), AV.v (.bool false)].set 0 (.v (.int .i64 (numF wt).1)))) = S4 at hx4 hσ4 hj4 hl4 ⊢
                simp (maxSteps:=999999) -implicitDefEqProofs (disch:=omega) only [push_cast,↓reduceIte,Nat.reduceEqDiff,reduceCtorEq,wz,hρ,h8,hx4,hcl]
                refine wpa_bsl (sz := 2) (by intro a ha; simp at ha; rcases ha with rfl; rfl) (by simp) ?_
                simp (maxSteps:=999999) -implicitDefEqProofs (disch:=omega) only [push_cast,↓reduceIte,Nat.reduceEqDiff,reduceCtorEq,wz,hρ]
                refine wpa_app (news := aCC ⟨(numF wt).1, false⟩) rfl rfl (by simp [aCC]) rfl (by rw [flat_len aCC_len, rowV_n (by omega)]) (by omega) (by omega) hj4 ?_
                simp (maxSteps:=999999) -implicitDefEqProofs (disch:=omega) only [push_cast,↓reduceIte,Nat.reduceEqDiff,reduceCtorEq,wz,hρ]
                refine hN' (k + 1) _ _ ⟨by simp (maxSteps:=999999) -implicitDefEqProofs (disch:=omega) only [push_cast,↓reduceIte,Nat.reduceEqDiff,reduceCtorEq,wz,hρ], by omega, hgood, by rw [List.getElem?_set_ne (by omega)]; exact hσ4, by rw [List.length_set]; omega, j, v + 1, ?_, by rw [List.getElem?_set_self (by omega)], hj0, by rw [List.length_set]; omega⟩ (by omega)
                rw [hrow, List.flatMap_append]
                simp (maxSteps:=999999) -implicitDefEqProofs (disch:=omega) only [push_cast,↓reduceIte,Nat.reduceEqDiff,reduceCtorEq,wz]
                simp
            · have hb2' : ¬ (b.toNat : Int) = 45 := fun h => hb2 (UInt8.toNat_inj.1 (by show b.toNat = 45; omega))
              simp (maxSteps:=999999) -implicitDefEqProofs (disch:=omega) only [push_cast,↓reduceIte,Nat.reduceEqDiff,reduceCtorEq,wz,hρ,hix,hb1',hb2',hx3]
              refine wpa_call (ref05_Num_a wd (by omega)) ?_
              rintro a rfl
              cases hok2 : (numF wd).2 with
              | false =>
                simp (maxSteps:=999999) -implicitDefEqProofs (disch:=omega) only [push_cast,↓reduceIte,Nat.reduceEqDiff,reduceCtorEq,wz,hρ,hok2]
                have hpc : (pcell wd (decide (k = 0))).2 = false := by rw [← hwd] at hok2 ⊢; unfold pcell; simp [hb1, hb2]; split <;> first | exact hok2 | rfl
                have hall : W.all okWs = false := by
                  rw [List.all_eq_false]
                  exact ⟨ws, List.mem_of_getElem? hW, by rw [hbad hpc]; simp⟩
                refine fin_res [] ?_ (aRdP_pure _)
                rw [hP, hall]
                rfl
              | true =>
                by_cases hk0 : k = 0
                · have hk0' : ¬ (0 : Int) < (k : Int) := by omega
                  simp (maxSteps:=999999) -implicitDefEqProofs (disch:=omega) only [push_cast,↓reduceIte,Nat.reduceEqDiff,reduceCtorEq,wz,hρ,hok2,hk0']
                  have hpc : pcell wd (decide (k = 0)) = (⟨(numF wd).1, false⟩, true) := by rw [← hwd] at hok2 ⊢; unfold pcell; simp [hb1, hb2, hk0, hok2]
                  rw [hpc] at hbad hgood hrow
                  dsimp only at hbad hgood hrow
                  rw [hok', Bool.true_and] at hgood
                  have hcl : cellsA (some 2) (aCC ⟨(numF wd).1, false⟩) = some (.agg (aCC ⟨(numF wd).1, false⟩)) := rfl
                  refine wpa_st1 rfl rfl hx3 (by simp) ?_
                  have hx4 : (S3.set ix (Res.obj 0 ([AV.v (.int .i64 0), AV.v (.bool false)].set 0 (.v (.int .i64 (numF wd).1)))))[ix]? = some (.obj 0 (aCC ⟨(numF wd).1, false⟩)) := by rw [List.getElem?_set_self (by omega)]; rfl
                  have hσ4 : (S3.set ix (Res.obj 0 ([AV.v (.int .i64 0), AV.v (.bool false)].set 0 (.v (.int .i64 (numF wd).1)))))[0]? = some (.tail w) := by rw [List.getElem?_set_ne (by omega)]; exact hσ3
                  have hj4 : (S3.set ix (Res.obj 0 ([AV.v (.int .i64 0), AV.v (.bool false)].set 0 (.v (.int .i64 (numF wd).1)))))[j]? = some (.tail v) := by rw [List.getElem?_set_ne (by omega)]; exact hj3
                  have hl4 : (S3.set ix (Res.obj 0 ([AV.v (.int .i64 0), AV.v (.bool false)].set 0 (.v (.int .i64 (numF wd).1))))).length = ix + 1 := by rw [List.length_set]; exact hl3
                  generalize S3.set ix (Res.obj 0 ([AV.v (.int .i64 0), AV.v (.bool false)].set 0 (.v (.int .i64 (numF wd).1)))) = S4 at hx4 hσ4 hj4 hl4 ⊢
                  simp (maxSteps:=999999) -implicitDefEqProofs (disch:=omega) only [push_cast,↓reduceIte,Nat.reduceEqDiff,reduceCtorEq,wz,hρ,h8,hx4,hcl]
                  refine wpa_bsl (sz := 2) (by intro a ha; simp at ha; rcases ha with rfl; rfl) (by simp) ?_
                  simp (maxSteps:=999999) -implicitDefEqProofs (disch:=omega) only [push_cast,↓reduceIte,Nat.reduceEqDiff,reduceCtorEq,wz,hρ]
                  refine wpa_app (news := aCC ⟨(numF wd).1, false⟩) rfl rfl (by simp [aCC]) rfl (by rw [flat_len aCC_len, rowV_n (by omega)]) (by omega) (by omega) hj4 ?_
                  simp (maxSteps:=999999) -implicitDefEqProofs (disch:=omega) only [push_cast,↓reduceIte,Nat.reduceEqDiff,reduceCtorEq,wz,hρ]
                  refine hN' (k + 1) _ _ ⟨by simp (maxSteps:=999999) -implicitDefEqProofs (disch:=omega) only [push_cast,↓reduceIte,Nat.reduceEqDiff,reduceCtorEq,wz,hρ], by omega, hgood, by rw [List.getElem?_set_ne (by omega)]; exact hσ4, by rw [List.length_set]; omega, j, v + 1, ?_, by rw [List.getElem?_set_self (by omega)], hj0, by rw [List.length_set]; omega⟩ (by omega)
                  rw [hrow, List.flatMap_append]
                  simp (maxSteps:=999999) -implicitDefEqProofs (disch:=omega) only [push_cast,↓reduceIte,Nat.reduceEqDiff,reduceCtorEq,wz]
                  simp
                · have hk0' : (0 : Int) < (k : Int) := by omega
                  simp (maxSteps:=999999) -implicitDefEqProofs (disch:=omega) only [push_cast,↓reduceIte,Nat.reduceEqDiff,reduceCtorEq,wz,hρ,hok2,hk0']
                  have hpc : (pcell wd (decide (k = 0))).2 = false := by rw [← hwd] at hok2 ⊢; unfold pcell; simp [hb1, hb2, hk0]
                  have hall : W.all okWs = false := by
                    rw [List.all_eq_false]
                    exact ⟨ws, List.mem_of_getElem? hW, by rw [hbad hpc]; simp⟩
                  refine fin_res [] ?_ (aRdP_pure _)
                  rw [hP, hall]
                  rfl
        · have hle : ¬ (k : Int) < ws.length := by omega
          simp (maxSteps:=999999) -implicitDefEqProofs (disch:=omega) only [push_cast,↓reduceIte,Nat.reduceEqDiff,reduceCtorEq,wz,hρ,hle]
          obtain rfl : k = ws.length := by omega
          rw [List.take_length] at hok' h8
          exact hE' _ _ ⟨by simp (maxSteps:=999999) -implicitDefEqProofs (disch:=omega) only [push_cast,↓reduceIte,Nat.reduceEqDiff,reduceCtorEq,wz,hρ], hok', hσ, hσl, .id j v 2, by simp (maxSteps:=999999) -implicitDefEqProofs (disch:=omega) only [push_cast,↓reduceIte,Nat.reduceEqDiff,reduceCtorEq,wz,h8]⟩
      · clear hρ h4 hσ hσl ε σ
        rintro ε σ ⟨hρ, hok', hσ, hσl, tk, h8⟩
        simp (maxSteps:=999999) -implicitDefEqProofs (disch:=omega) only [push_cast,↓reduceIte,Nat.reduceEqDiff,reduceCtorEq,wz,hρ,h8]
        refine wpa_frz [] [true] ?_
        show act (EF.awp _ _ [(AV.sl ws.length ((rowV ws).flatMap aCC) tk).res σ] σ _)
        have hr := row_res (σ := σ) (rowV ws) tk
        rw [rowV_len] at hr
        rw [hr]
        refine wpa_bsl (sz := 1) (by intro a ha; simp at ha; rcases ha with rfl; rfl) (by simp) ?_
        simp (maxSteps:=999999) -implicitDefEqProofs (disch:=omega) only [push_cast,↓reduceIte,Nat.reduceEqDiff,reduceCtorEq,wz,hρ]
        refine wpa_app (news := [aRow (rowV ws)]) rfl rfl rfl rfl (by simp; omega) (by omega) (by omega) hσ ?_
        simp (maxSteps:=999999) -implicitDefEqProofs (disch:=omega) only [push_cast,↓reduceIte,Nat.reduceEqDiff,reduceCtorEq,wz,hρ]
        have htk := take_succ_at hW
        refine hN (i + 1) _ _ ⟨by simp (maxSteps:=999999) -implicitDefEqProofs (disch:=omega) only [push_cast,↓reduceIte,Nat.reduceEqDiff,reduceCtorEq,wz,hρ], by omega, by rw [htk, List.all_append, hok]; simp [hok'], w + 1, ?_, by rw [List.getElem?_set_self hσl], by rw [List.length_set]; exact hσl⟩ (by omega)
        rw [htk, List.map_append, List.map_append]
        simp (maxSteps:=999999) -implicitDefEqProofs (disch:=omega) only [push_cast,↓reduceIte,Nat.reduceEqDiff,reduceCtorEq,wz]
        rfl
    · have hle : ¬ (i : Int) < L.length := by omega
      simp (maxSteps:=999999) -implicitDefEqProofs (disch:=omega) only [push_cast,↓reduceIte,Nat.reduceEqDiff,reduceCtorEq,wz,hρ,hle]
      obtain rfl : i = W.length := by omega
      rw [List.take_length] at hok h4
      exact hE _ _ ⟨hok, w, by simp (maxSteps:=999999) -implicitDefEqProofs (disch:=omega) only [push_cast,↓reduceIte,Nat.reduceEqDiff,reduceCtorEq,wz,h4]⟩
  · rintro ε σ ⟨hok, w, h4⟩
    have hr : (AV.sl W.length ((W.map rowV).map aRow) (.id 0 w 1)).res σ = aRows (W.map rowV) := by
      have := aRows_res σ (W.map rowV) (.id 0 w 1)
      rw [List.length_map] at this
      exact this
    have hck := ref33_Check_a (W.map rowV) (by rw [List.length_map]; omega) (by intro r hr; rw [List.mem_map] at hr; obtain ⟨x, hx, rfl⟩ := hr; rw [rowV_len]; have := (hwl.2 x hx).1; omega)
    simp (maxSteps:=999999) -implicitDefEqProofs (disch:=omega) only [push_cast,↓reduceIte,Nat.reduceEqDiff,reduceCtorEq,wz,h4]
    refine wpa_callw [] [true] hck (by show [AV.res σ _] = _; rw [hr]) ?_
    rintro a rfl
    rw [hok] at hP
    by_cases hg : gchk (W.map rowV) = 0
    · simp (maxSteps:=999999) -implicitDefEqProofs (disch:=omega) only [push_cast,↓reduceIte,Nat.reduceEqDiff,reduceCtorEq,wz,h4,aInt,hg]
      refine fin_res [] ?_ (aRdP_pure _)
      rw [hP, if_pos rfl, if_pos hg]
      show AV.tup [AV.res _ _, _] = _
      rw [show ∀ τ, AV.res τ (AV.sl W.length ((W.map rowV).map aRow) (.id 0 w 1)) = aRows (W.map rowV) from fun τ => by
        have := aRows_res τ (W.map rowV) (.id 0 w 1)
        rw [List.length_map] at this
        exact this]
      rfl
    · simp (maxSteps:=999999) -implicitDefEqProofs (disch:=omega) only [push_cast,↓reduceIte,Nat.reduceEqDiff,reduceCtorEq,wz,h4,aInt,hg]
      refine fin_res [] ?_ (aRdP_pure _)
      rw [hP, if_pos rfl, if_neg hg]
      rfl
end Go.Proofs.YtjdpejggafefjaaDoor
