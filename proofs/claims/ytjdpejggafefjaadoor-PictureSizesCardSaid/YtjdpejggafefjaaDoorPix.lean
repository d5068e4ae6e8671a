/- Pictures: charts, the plain law, the statements' walks, shapes (Pij .. Pio). -/
import Derived.Test.YtjdpejggafefjaaDoorPiy
import Derived.Test.YtjdpejggafefjaaDoorPir
/- Rows as pictures: the plain law; strings.Repeat; picture.drawn. -/
namespace Go.Proofs.YtjdpejggafefjaaDoor
set_option linter.unusedVariables false
set_option linter.unusedSimpArgs false
open Go Go.Kx Go.Proofs Go.RowKit

theorem Tryd.extraRepeat : Builder.Extra Tryd.prog Tryd.laysRepeat_ren := {
  sizeBuilder := by kernel_rfl
  liesBuilder := by kernel_rfl
  t5 := Tryd.underlying5
  a5 := Tryd.isAgg5
  z5 := Tryd.sizeOf5
  v5 := Tryd.zeroValue5
  infoByte := by kernel_rfl
  cellsByte := by kernel_rfl
  sizeByte := by kernel_rfl
  neB5 := by decide }
theorem repeat_one (n : Nat) : Lib.repeatL [46] n = List.replicate n 46 := by
  induction n with
  | zero => rfl
  | succ n ih => rw [Lib.repeatL, ih, List.replicate_succ]; rfl
theorem repeat_a (n : Nat) (hn : n ≤ 100000) : FnP Tryd.prog 87 [aB [46], .v (.int .i64 n)] fun a => a = aB (List.replicate n 46) := by
  refine fnp_below rfl fun base G h vs hH hL w hw => ?_
  obtain ⟨u, us, rfl, k1, k2⟩ := hL.cons_inv
  obtain ⟨u2, us2, rfl, k3, k4⟩ := k2.cons_inv
  obtain rfl := k4.nil_inv
  cases k1
  cases k3
  refine (Any.strings_Repeat Tryd.laysRepeat Tryd.extraRepeat (bA [46]) n w (by omega) (by rw [size_bA]; simp; omega)).mono ?_
  rintro e w' ⟨rfl, hb⟩
  exact ⟨by rw [show (bA [46]).data.toList = [46] from rfl, repeat_one], hb⟩

def sgnC (wt : Bool) : UInt8 := if wt = true then 60 else 111
def signAt (r : List CC) (a : Int) : UInt8 := r.foldl (fun t c => if c.st = a then sgnC c.wt else t) 46
theorem fold_miss {a : Int} : ∀ {r : List CC} {t : UInt8}, (∀ c ∈ r, c.st ≠ a) → r.foldl (fun t c => if c.st = a then sgnC c.wt else t) t = t := by
  intro r
  induction r with
  | nil => intro t _; rfl
  | cons c r ih =>
    intro t h
    rw [List.foldl_cons, if_neg (h c (by simp))]
    exact ih fun x hx => h x (by simp [hx])
theorem signAt_take {r : List CC} {a : Int} {k : Nat} {c : CC} (h : r[k]? = some c) : signAt (r.take (k + 1)) a = if c.st = a then sgnC c.wt else signAt (r.take k) a := by
  unfold signAt
  rw [take_succ_at h, List.foldl_append]
  rfl
theorem signAt_hit {r : List CC} (hr : RowOk r) {k : Nat} {c : CC} (h : r[k]? = some c) : signAt r c.st = sgnC c.wt := by
  have hd : r = r.take (k + 1) ++ r.drop (k + 1) := (List.take_append_drop _ _).symm
  have h1 := signAt_take (a := c.st) h
  rw [if_pos rfl] at h1
  rw [hd]
  unfold signAt at h1 ⊢
  rw [List.foldl_append, h1]
  refine fold_miss fun d hd => ?_
  obtain ⟨j, hj⟩ := List.mem_iff_getElem?.1 hd
  rw [List.getElem?_drop] at hj
  have := hr.inc k (k + 1 + j) c d (by omega) h hj
  omega
def lenK (r : List CC) (k : Nat) : Nat := if k = 0 then 0 else (r.getD (k - 1) nc).st.toNat + 1
def sK (r : List CC) (k : Nat) : List UInt8 := (List.range (lenK r k)).map fun (a : Nat) => signAt r a
theorem sK_len (r : List CC) (k : Nat) : (sK r k).length = lenK r k := by simp [sK]
theorem lenK_succ {r : List CC} {k : Nat} {c : CC} (h : r[k]? = some c) : lenK r (k + 1) = c.st.toNat + 1 := by
  unfold lenK
  rw [if_neg (by omega), Nat.add_sub_cancel, getD_of h]
theorem lenK_le {r : List CC} (hr : RowOk r) {k : Nat} {c : CC} (h : r[k]? = some c) : lenK r k ≤ c.st.toNat := by
  unfold lenK
  split
  · omega
  · rename_i hk
    obtain ⟨d, hd⟩ : ∃ d, r[k - 1]? = some d := at_lt (by have := lt_at h; omega)
    rw [getD_of hd]
    have h1 := hr.inc (k - 1) k d c (by omega) hd h
    have h2 := hr.bd d (List.mem_of_getElem? hd)
    omega
theorem sK_succ {r : List CC} (hr : RowOk r) {k : Nat} {c : CC} (h : r[k]? = some c) : sK r (k + 1) = sK r k ++ List.replicate (c.st.toNat - lenK r k) 46 ++ [sgnC c.wt] := by
  have hle := lenK_le hr h
  have hc := hr.bd c (List.mem_of_getElem? h)
  unfold sK
  rw [lenK_succ h, List.range_succ, List.map_append]
  have e1 : (List.range c.st.toNat).map (fun (a : Nat) => signAt r a) = (List.range (lenK r k)).map (fun (a : Nat) => signAt r a) ++ List.replicate (c.st.toNat - lenK r k) 46 := by
    conv => lhs; rw [show c.st.toNat = lenK r k + (c.st.toNat - lenK r k) by omega, List.range_add, List.map_append]
    congr 1
    rw [List.map_map, List.eq_replicate_iff]
    refine ⟨by simp, fun b hb => ?_⟩
    rw [List.mem_map] at hb
    obtain ⟨x, hx, rfl⟩ := hb
    rw [List.mem_range] at hx
    refine fold_miss fun d hd => ?_
    obtain ⟨j, hj⟩ := List.mem_iff_getElem?.1 hd
    have hdb := hr.bd d hd
    show d.st ≠ ((lenK r k + x : Nat) : Int)
    rcases Nat.lt_trichotomy j k with hjk | hjk | hjk
    · have h3 := lenK_le hr hj
      have h4 := lenK_succ hj
      have h5 : lenK r (j + 1) ≤ lenK r k := by
        by_cases e : j + 1 = k
        · rw [e]; exact Nat.le_refl _
        · have hk0 : k ≠ 0 := by omega
          obtain ⟨p, hp⟩ : ∃ p, r[k - 1]? = some p := at_lt (by have := lt_at h; omega)
          have h6 := hr.inc j (k - 1) d p (by omega) hj hp
          have h7 : lenK r k = p.st.toNat + 1 := by
            have := lenK_succ hp
            rwa [show k - 1 + 1 = k by omega] at this
          omega
      omega
    · subst hjk
      rw [h] at hj
      cases hj
      omega
    · have := hr.inc k j c d hjk h hj
      omega
  rw [e1]
  have e2 : signAt r ((c.st.toNat : Nat) : Int) = sgnC c.wt := by
    rw [show ((c.st.toNat : Nat) : Int) = c.st by omega]
    exact signAt_hit hr h
  rw [List.map_singleton, e2]
def lastS (r : List CC) : Int := (r.getD (r.length - 1) nc).st
def lineD (r : List CC) : List UInt8 := sK r r.length
theorem last_at {r : List CC} (hr : RowOk r) : ∃ c, r[r.length - 1]? = some c ∧ lastS r = c.st := by
  obtain ⟨c, hc⟩ : ∃ c, r[r.length - 1]? = some c := at_lt (by have := hr.pos; omega)
  exact ⟨c, hc, by unfold lastS; rw [getD_of hc]⟩
theorem le_last {r : List CC} (hr : RowOk r) {k : Nat} {c : CC} (h : r[k]? = some c) : c.st ≤ lastS r := by
  obtain ⟨d, hd, e⟩ := last_at hr
  rw [e]
  have := lt_at h
  by_cases hk : k = r.length - 1
  · subst hk
    rw [h] at hd
    cases hd
    exact Int.le_refl _
  · have := hr.inc k (r.length - 1) c d (by omega) h hd
    omega
theorem lineD_len {r : List CC} (hr : RowOk r) : (lineD r).length = (lastS r).toNat + 1 := by
  obtain ⟨c, hc, e⟩ := last_at hr
  have := lenK_succ hc
  rw [show r.length - 1 + 1 = r.length by have := hr.pos; omega] at this
  unfold lineD
  rw [sK_len, this, e]
def chartG (l : List (List CC)) : List UInt8 × Int :=
  if gchk l ≠ 0 then ([], gchk l) else if (l.all fun r => decide (lastS r ≤ 199)) = true then (linesT (l.map lineD), 0) else ([], 3)
abbrev aCh (p : List UInt8 × Int) : AV := .tup [aB p.1, aInt p.2]
set_option maxHeartbeats 4000000 in
theorem picture_drawn_a (r : List CC) (hr : RowOk r) : FnP Tryd.prog 60 [aRow r] fun a => a = if lastS r ≤ 199 then .tup [aB (lineD r), aBool true] else .tup [aB [], aBool false] := by
  refine fnP_in K_picture_drawn mixed rfl (by simp [AV.pureL, aRow_pure]) ?_
  simp only [S_picture_drawn, aRow, aSlN]
  have hlen := hr.len
  simp (maxSteps:=999999) -implicitDefEqProofs (disch:=omega) only [push_cast,↓reduceIte,Nat.reduceEqDiff,reduceCtorEq,wz]
  refine wpa_bl (α := Nat) (I := fun k ε σ => (ε 7 = .sl r.length (r.flatMap aCC) .none ∧ ε 8 = .v (.int .i64 r.length) ∧ ε 9 = .v (.int .i64 k) ∧ ε 4 = aB (sK r k)) ∧ k ≤ r.length ∧ (∀ j c, j < k → r[j]? = some c → c.st ≤ 199))
    (μ := fun k => r.length - k) (Q := fun ε σ => ε 4 = aB (lineD r) ∧ lastS r ≤ 199) (x := 0) ?_ ?_ ?_
  · exact ⟨by simp (maxSteps:=999999) -implicitDefEqProofs (disch:=omega) only [push_cast,↓reduceIte,Nat.reduceEqDiff,reduceCtorEq,wz]; rfl, by omega, fun j c h => by omega⟩
  · rintro k ε σ N E ⟨hρ, hk, hal⟩ hN hE
    simp only [S_picture_drawn_L1]
    by_cases hlt : k < r.length
    · obtain ⟨c, hc⟩ := at_lt hlt
      have hd := flat_drop aCC_len hc
      have hbd := hr.bd c (List.mem_of_getElem? hc)
      have hc2 : cellsA (some 2) (aCC c ++ (r.drop (k + 1)).flatMap aCC) = some (.agg (aCC c)) := rfl
      simp (maxSteps:=999999) -implicitDefEqProofs (disch:=omega) only [push_cast,↓reduceIte,Nat.reduceEqDiff,reduceCtorEq,wz,hρ,hd,hc2]
      refine wpa_new ?_
      simp (maxSteps:=999999) -implicitDefEqProofs (disch:=omega) only [push_cast,↓reduceIte,Nat.reduceEqDiff,reduceCtorEq,wz,hρ]
      refine wpa_stn (cs := aCC nc) (l := aCC c) (off := 0) rfl rfl (snoc_get _ _) (by decide) ?_
      have hS : (σ ++ [Res.obj 0 [AV.v (.int .i64 0), AV.v (.bool false)]]).set σ.length (Res.obj 0 (setAtA (aCC nc) 0 (aCC c))) = σ ++ [Res.obj 0 (aCC c)] := by simp [setAtA, aCC]
      rw [hS]
      have hx2 := snoc_get σ (Res.obj 0 (aCC c))
      generalize σ ++ [Res.obj 0 (aCC c)] = S2 at hx2 ⊢
      generalize σ.length = ix at hx2 ⊢
      have hc0 : (aCC c)[0]? = some (.v (.int .i64 c.st)) := rfl
      have hc1 : (aCC c)[1]? = some (.v (.bool c.wt)) := rfl
      by_cases h199 : 199 < c.st
      · have := le_last hr hc
        simp (maxSteps:=999999) -implicitDefEqProofs (disch:=omega) only [push_cast,↓reduceIte,Nat.reduceEqDiff,reduceCtorEq,wz,hρ,hx2,hc0,h199]
        exact ⟨[], rfl, by rw [if_neg (by omega)]; rfl⟩
      · have hsl := sK_len r k
        have hlk := lenK_le hr hc
        have hsub : PF.val (.bin .sub) [.int .i64 c.st, .int .i64 ((bA (sK r k)).size : Int)] = some (.int .i64 ((c.st.toNat - lenK r k : Nat) : Int)) := by
          rw [v_sub, wrap_in _ (by rw [size_bA]; omega) (by rw [size_bA]; omega), size_bA, hsl]
          congr 2
          omega
        have hsu := sK_succ hr hc
        have hadd := pb (sK r k) (List.replicate (c.st.toNat - lenK r k) 46) (by omega) (by simp; omega)
        have hadd2 := fun x => pa (sK r k ++ List.replicate (c.st.toNat - lenK r k) 46) x (by simp; omega)
        have hrep := repeat_a (c.st.toNat - lenK r k) (by omega)
        have hal2 : ∀ j d, j < k + 1 → r[j]? = some d → d.st ≤ 199 := fun j d hj hjd => by
          by_cases e : j = k
          · rw [e, hc] at hjd; cases hjd; omega
          · exact hal j d (by omega) hjd
        generalize c.st.toNat - lenK r k = n at hsub hsu hadd hadd2 hrep
        simp (maxSteps:=999999) -implicitDefEqProofs (disch:=omega) only [push_cast,↓reduceIte,Nat.reduceEqDiff,reduceCtorEq,wz,hρ,hx2,hc0,h199,hsub]
        refine wpa_call hrep ?_
        rintro a rfl
        cases hw : c.wt with
        | true =>
          rw [hw] at hsu hc1
          have h60 := hadd2 60
          simp (maxSteps:=999999) -implicitDefEqProofs (disch:=omega) only [push_cast,↓reduceIte,Nat.reduceEqDiff,reduceCtorEq,wz,hρ,hx2,hc1,hadd,h60]
          refine hN (k + 1) _ _ ⟨by simp (maxSteps:=999999) -implicitDefEqProofs (disch:=omega) only [push_cast,↓reduceIte,Nat.reduceEqDiff,reduceCtorEq,wz,hρ,hsu]; rfl, by omega, hal2⟩ (by omega)
        | false =>
          rw [hw] at hsu hc1
          have h111 := hadd2 111
          simp (maxSteps:=999999) -implicitDefEqProofs (disch:=omega) only [push_cast,↓reduceIte,Nat.reduceEqDiff,reduceCtorEq,wz,hρ,hx2,hc1,hadd,h111]
          refine hN (k + 1) _ _ ⟨by simp (maxSteps:=999999) -implicitDefEqProofs (disch:=omega) only [push_cast,↓reduceIte,Nat.reduceEqDiff,reduceCtorEq,wz,hρ,hsu]; rfl, by omega, hal2⟩ (by omega)
    · have hle : ¬ (k : Int) < r.length := by omega
      simp (maxSteps:=999999) -implicitDefEqProofs (disch:=omega) only [push_cast,↓reduceIte,Nat.reduceEqDiff,reduceCtorEq,wz,hρ,hle]
      obtain rfl : k = r.length := by omega
      obtain ⟨d, hd, e⟩ := last_at hr
      exact hE _ _ ⟨by simp (maxSteps:=999999) -implicitDefEqProofs (disch:=omega) only [push_cast,↓reduceIte,Nat.reduceEqDiff,reduceCtorEq,wz,hρ]; rfl, by rw [e]; exact hal _ d (by have := hr.pos; omega) hd⟩
  · rintro ε σ ⟨h4, h⟩
    simp (maxSteps:=999999) -implicitDefEqProofs (disch:=omega) only [push_cast,↓reduceIte,Nat.reduceEqDiff,reduceCtorEq,wz,h4]
    exact ⟨[], rfl, by rw [if_pos h]; rfl⟩
end Go.Proofs.YtjdpejggafefjaaDoor
/- picture.Chart, and the document's. -/
namespace Go.Proofs.YtjdpejggafefjaaDoor
set_option linter.unusedVariables false
set_option linter.unusedSimpArgs false
open Go Go.Kx Go.Proofs

theorem lines_part_len {l : List (List CC)} (hlen : l.length ≤ 100) (hrow : ∀ r ∈ l, RowOk r) (h : ∀ r ∈ l, lastS r ≤ 199) : (linesT (l.map lineD)).length ≤ l.length * 201 := by
  clear hlen
  induction l with
  | nil => simp [linesT]
  | cons r l ih =>
    have h1 := ih (fun x hx => hrow x (by simp [hx])) (fun x hx => h x (by simp [hx]))
    have h2 := lineD_len (hrow r (by simp))
    have h3 := h r (by simp)
    have e : linesT ((r :: l).map lineD) = lineD r ++ [10] ++ linesT (l.map lineD) := by simp [linesT]
    rw [e]
    simp only [List.length_append, List.length_cons, List.length_nil]
    omega
theorem lines_snoc {l : List (List CC)} {k : Nat} {r : List CC} (h : l[k]? = some r) : linesT ((l.take (k + 1)).map lineD) = linesT ((l.take k).map lineD) ++ (lineD r ++ [10]) := by
  rw [take_succ_at h, List.map_append, List.map_singleton, linesT_snoc2, List.append_assoc]
theorem aCh_pure (p : List UInt8 × Int) : (aCh p).pure = true := rfl
set_option maxHeartbeats 8000000 in
theorem picture_Chart_a (l : List (List CC)) (hl : l.length ≤ 9223372036854775807) (hl2 : ∀ r ∈ l, r.length ≤ 9223372036854775807) : FnP Tryd.prog 20 [aRows l] fun a => a = aCh (chartG l) := by
  refine fnP_in K_picture_Chart mixed rfl (by simp [AV.pureL, aRows_pure]) ?_
  simp only [S_picture_Chart]
  simp (maxSteps:=999999) -implicitDefEqProofs (disch:=omega) only [push_cast,↓reduceIte,Nat.reduceEqDiff,reduceCtorEq,wz]
  refine wpa_call (grid_Check_a l hl hl2) ?_
  rintro a rfl
  have hG : chartG l = if gchk l ≠ 0 then ([], gchk l) else if (l.all fun r => decide (lastS r ≤ 199)) = true then (linesT (l.map lineD), 0) else ([], 3) := rfl
  by_cases hc : gchk l = 0
  · obtain ⟨hlen, hrow⟩ := gchk_ok hc
    rw [if_neg (by simp [hc])] at hG
    simp (maxSteps:=999999) -implicitDefEqProofs (disch:=omega) only [push_cast,↓reduceIte,Nat.reduceEqDiff,reduceCtorEq,wz,hc,aInt,aRows,aSl]
    refine wpa_bl (α := Nat) (I := fun k ε σ => (ε 15 = .sl l.length (l.map aRow) .none ∧ ε 16 = .v (.int .i64 l.length) ∧ ε 17 = .v (.int .i64 k) ∧ ε 5 = aB (linesT ((l.take k).map lineD))) ∧ k ≤ l.length ∧ (∀ r ∈ l.take k, lastS r ≤ 199))
      (μ := fun k => l.length - k) (Q := fun ε σ => ε 5 = aB (linesT (l.map lineD)) ∧ ∀ r ∈ l, lastS r ≤ 199) (x := 0) ?_ ?_ ?_
    · exact ⟨by simp (maxSteps:=999999) -implicitDefEqProofs (disch:=omega) only [push_cast,↓reduceIte,Nat.reduceEqDiff,reduceCtorEq,wz]; rfl, by omega, by simp⟩
    · rintro k ε σ N E ⟨hρ, hk, hal⟩ hN hE
      simp only [S_picture_Chart_L1]
      by_cases hlt : k < l.length
      · obtain ⟨r, hr⟩ := at_lt hlt
        have hro := hrow r (List.mem_of_getElem? hr)
        have hlp := lines_part_len (l := l.take k) (by rw [List.length_take]; omega) (fun x hx => hrow x (List.mem_of_mem_take hx)) hal
        rw [List.length_take] at hlp
        have hmin : min k l.length ≤ 100 := by omega
        have hlp2 := Nat.le_trans hlp (Nat.mul_le_mul_right 201 hmin)
        have hsn := lines_snoc hr
        simp (maxSteps:=999999) -implicitDefEqProofs (disch:=omega) only [push_cast,↓reduceIte,Nat.reduceEqDiff,reduceCtorEq,wz,hρ,hr]
        refine wpa_call (picture_drawn_a r hro) ?_
        rintro a rfl
        by_cases h199 : lastS r ≤ 199
        · rw [if_pos h199]
          have hll := lineD_len hro
          have h1 := pa (lineD r) 10 (by omega)
          have h2 := pb (linesT ((l.take k).map lineD)) (lineD r ++ [10]) (by omega) (by simp; omega)
          generalize linesT ((l.take k).map lineD) = T at hρ hsn h2
          simp (maxSteps:=999999) -implicitDefEqProofs (disch:=omega) only [push_cast,↓reduceIte,Nat.reduceEqDiff,reduceCtorEq,wz,hρ,aBool,h1,h2]
          refine hN (k + 1) _ _ ⟨by simp (maxSteps:=999999) -implicitDefEqProofs (disch:=omega) only [push_cast,↓reduceIte,Nat.reduceEqDiff,reduceCtorEq,wz,hρ,hsn], by omega, ?_⟩ (by omega)
          rw [take_succ_at hr]
          intro x hx
          rcases List.mem_append.1 hx with hx | hx
          · exact hal x hx
          · simp at hx; subst hx; exact h199
        · rw [if_neg h199]
          have hall : (l.all fun r => decide (lastS r ≤ 199)) = false := by
            rw [List.all_eq_false]
            exact ⟨r, List.mem_of_getElem? hr, by simp [h199]⟩
          simp (maxSteps:=999999) -implicitDefEqProofs (disch:=omega) only [push_cast,↓reduceIte,Nat.reduceEqDiff,reduceCtorEq,wz,hρ,aBool]
          exact fin_res [] (by rw [hG, hall]; rfl) (aCh_pure _)
      · have hle : ¬ (k : Int) < l.length := by omega
        simp (maxSteps:=999999) -implicitDefEqProofs (disch:=omega) only [push_cast,↓reduceIte,Nat.reduceEqDiff,reduceCtorEq,wz,hρ,hle]
        obtain rfl : k = l.length := by omega
        rw [List.take_length] at hal hρ
        exact hE _ _ ⟨by simp (maxSteps:=999999) -implicitDefEqProofs (disch:=omega) only [push_cast,↓reduceIte,Nat.reduceEqDiff,reduceCtorEq,wz,hρ], hal⟩
    · rintro ε σ ⟨h5, hal⟩
      simp (maxSteps:=999999) -implicitDefEqProofs (disch:=omega) only [push_cast,↓reduceIte,Nat.reduceEqDiff,reduceCtorEq,wz,h5]
      exact fin_res [] (by rw [hG, if_pos (by rw [List.all_eq_true]; intro x hx; simp [hal x hx])]; rfl) (aCh_pure _)
  · rw [if_pos hc] at hG
    simp (maxSteps:=999999) -implicitDefEqProofs (disch:=omega) only [push_cast,↓reduceIte,Nat.reduceEqDiff,reduceCtorEq,wz,hc,aInt]
    exact fin_res [] (by rw [hG]; rfl) (aCh_pure _)

theorem range_snoc (r : List CC) (n : Nat) : (List.range (n + 1)).map (fun (a : Nat) => signAt r a) = (List.range n).map (fun (a : Nat) => signAt r a) ++ [signAt r n] := by
  rw [List.range_succ, List.map_append]; rfl
theorem signAt_val (r : List CC) (a : Int) : signAt r a = 46 ∨ signAt r a = 60 ∨ signAt r a = 111 := by
  unfold signAt
  suffices h : ∀ t : UInt8, (t = 46 ∨ t = 60 ∨ t = 111) → (r.foldl (fun t c => if c.st = a then sgnC c.wt else t) t = 46 ∨ r.foldl (fun t c => if c.st = a then sgnC c.wt else t) t = 60 ∨ r.foldl (fun t c => if c.st = a then sgnC c.wt else t) t = 111) from h 46 (.inl rfl)
  induction r with
  | nil => intro t h; exact h
  | cons c r ih =>
    intro t h
    rw [List.foldl_cons]
    refine ih _ ?_
    split
    · unfold sgnC; split
      · exact .inr (.inl rfl)
      · exact .inr (.inr rfl)
    · exact h
set_option maxHeartbeats 16000000 in
theorem ref38_Chart_a (l : List (List CC)) (hl : l.length ≤ 9223372036854775807) (hl2 : ∀ r ∈ l, r.length ≤ 9223372036854775807) : FnP Tryd.prog 21 [aRows l] fun a => a = aCh (chartG l) := by
  refine fnP_in K_forebayref38_Chart mixed rfl (by simp [AV.pureL, aRows_pure]) ?_
  simp only [S_forebayref38_Chart]
  simp (maxSteps:=999999) -implicitDefEqProofs (disch:=omega) only [push_cast,↓reduceIte,Nat.reduceEqDiff,reduceCtorEq,wz]
  refine wpa_call (ref33_Check_a l hl hl2) ?_
  rintro a rfl
  have hG : chartG l = if gchk l ≠ 0 then ([], gchk l) else if (l.all fun r => decide (lastS r ≤ 199)) = true then (linesT (l.map lineD), 0) else ([], 3) := rfl
  by_cases hc : gchk l = 0
  · obtain ⟨hlen, hrow⟩ := gchk_ok hc
    rw [if_neg (by simp [hc])] at hG
    simp (maxSteps:=999999) -implicitDefEqProofs (disch:=omega) only [push_cast,↓reduceIte,Nat.reduceEqDiff,reduceCtorEq,wz,hc,aInt,aRows,aSl]
    refine wpa_bl (α := Nat) (I := fun k ε σ => (ε 0 = .sl l.length (l.map aRow) .none ∧ ε 6 = .v (.int .i64 k) ∧ ε 5 = aB (linesT ((l.take k).map lineD))) ∧ k ≤ l.length ∧ (∀ r ∈ l.take k, lastS r ≤ 199))
      (μ := fun k => l.length - k) (Q := fun ε σ => ε 5 = aB (linesT (l.map lineD)) ∧ ∀ r ∈ l, lastS r ≤ 199) (x := 0) ?_ ?_ ?_
    · exact ⟨by simp (maxSteps:=999999) -implicitDefEqProofs (disch:=omega) only [push_cast,↓reduceIte,Nat.reduceEqDiff,reduceCtorEq,wz]; rfl, by omega, by simp⟩
    · rintro k ε σ N E ⟨hρ, hk, hal⟩ hN hE
      simp only [S_forebayref38_Chart_L1]
      by_cases hlt : k < l.length
      · obtain ⟨r, hr⟩ := at_lt hlt
        have hro := hrow r (List.mem_of_getElem? hr)
        have hrl := hro.len
        have hrp := hro.pos
        have hlp := lines_part_len (l := l.take k) (by rw [List.length_take]; omega) (fun x hx => hrow x (List.mem_of_mem_take hx)) hal
        rw [List.length_take] at hlp
        have hmin : min k l.length ≤ 100 := by omega
        have hlp2 := Nat.le_trans hlp (Nat.mul_le_mul_right 201 hmin)
        have hsn := lines_snoc hr
        obtain ⟨c, hcl, hce⟩ := last_at hro
        have hbd := hro.bd c (List.mem_of_getElem? hcl)
        have hd := flat_drop aCC_len hcl
        have hdq : (r.flatMap aCC).drop (((r.length : Int) - 1).toNat * 2) = aCC c ++ (r.drop (r.length - 1 + 1)).flatMap aCC := by rw [show ((r.length : Int) - 1).toNat = r.length - 1 by omega]; exact hd
        have g0 : ∀ (x : CC) (m : List AV), (aCC x ++ m)[0]? = some (.v (.int .i64 x.st)) := fun x m => rfl
        have g1 : ∀ (x : CC) (m : List AV), (aCC x ++ m)[1]? = some (.v (.bool x.wt)) := fun x m => rfl
        by_cases h199 : 199 < c.st
        · have hall : (l.all fun r => decide (lastS r ≤ 199)) = false := by
            rw [List.all_eq_false]
            exact ⟨r, List.mem_of_getElem? hr, by simp; omega⟩
          simp (maxSteps:=999999) -implicitDefEqProofs (disch:=omega) only [push_cast,↓reduceIte,Nat.reduceEqDiff,reduceCtorEq,wz,hρ,hr,aRow,aSlN,hdq,g0,h199]
          exact fin_res [] (by rw [hG, hall]; rfl) (aCh_pure _)
        · have hll := lineD_len hro
          rw [hce] at hll
          generalize linesT ((l.take k).map lineD) = T at hρ hsn hlp hlp2
          simp (maxSteps:=999999) -implicitDefEqProofs (disch:=omega) only [push_cast,↓reduceIte,Nat.reduceEqDiff,reduceCtorEq,wz,hρ,hr,aRow,aSlN,hdq,g0,h199]
          refine wpa_blx (α := Nat) (I := fun a ε σ => (ε 0 = .sl l.length (l.map aRow) .none ∧ ε 6 = .v (.int .i64 k) ∧ ε 7 = .v (.int .i64 c.st) ∧ ε 8 = .v (.int .i64 a) ∧ ε 5 = aB (T ++ (List.range a).map fun (a : Nat) => signAt r a)) ∧ a ≤ c.st.toNat + 1)
            (μ := fun a => c.st.toNat + 1 - a) (Q := fun ε σ => ε 0 = .sl l.length (l.map aRow) .none ∧ ε 6 = .v (.int .i64 k) ∧ ε 5 = aB (T ++ lineD r)) (x := 0) ?_ ?_ ?_
          · exact ⟨by simp (maxSteps:=999999) -implicitDefEqProofs (disch:=omega) only [push_cast,↓reduceIte,Nat.reduceEqDiff,reduceCtorEq,wz,hρ]; simp, by omega⟩
          · clear hρ hN hE ε σ N E
            rintro a ε σ N E X' R' ⟨hρ, ha⟩ hN hE
            simp only [S_forebayref38_Chart_L2]
            by_cases hla : a ≤ c.st.toNat
            · have hla' : (a : Int) ≤ c.st := by omega
              have hsn3 := range_snoc r a
              have hTl : (T ++ (List.range a).map fun (a : Nat) => signAt r a).length ≤ 30000 := by simp; omega
              have hsn4 : T ++ (List.range (a + 1)).map (fun (a : Nat) => signAt r a) = (T ++ (List.range a).map fun (a : Nat) => signAt r a) ++ [signAt r a] := by rw [hsn3, List.append_assoc]
              generalize (T ++ (List.range a).map fun (a : Nat) => signAt r a) = T2 at hρ hTl hsn4
              simp (maxSteps:=999999) -implicitDefEqProofs (disch:=omega) only [push_cast,↓reduceIte,Nat.reduceEqDiff,reduceCtorEq,wz,hρ,hla']
              refine wpa_blx (α := Nat) (I := fun j ε σ => (ε 0 = .sl l.length (l.map aRow) .none ∧ ε 6 = .v (.int .i64 k) ∧ ε 7 = .v (.int .i64 c.st) ∧ ε 8 = .v (.int .i64 a) ∧ ε 5 = aB T2 ∧ ε 10 = .v (.int .i64 j) ∧ ε 9 = aB [signAt (r.take j) a]) ∧ j ≤ r.length)
                (μ := fun j => r.length - j) (Q := fun ε σ => ε 0 = .sl l.length (l.map aRow) .none ∧ ε 6 = .v (.int .i64 k) ∧ ε 7 = .v (.int .i64 c.st) ∧ ε 8 = .v (.int .i64 a) ∧ ε 5 = aB T2 ∧ ε 9 = aB [signAt r a]) (x := 0) ?_ ?_ ?_
              · exact ⟨by simp (maxSteps:=999999) -implicitDefEqProofs (disch:=omega) only [push_cast,↓reduceIte,Nat.reduceEqDiff,reduceCtorEq,wz,hρ]; rfl, by omega⟩
              · clear hρ hN hE ε σ N E X' R'
                rintro j ε σ N E X' R' ⟨hρ, hj⟩ hN hE
                simp only [S_forebayref38_Chart_L3]
                by_cases hlj : j < r.length
                · obtain ⟨d, hd2⟩ := at_lt hlj
                  have hdd := flat_drop aCC_len hd2
                  have hst := signAt_take (a := a) hd2
                  by_cases he : d.st = (a : Int)
                  · rw [if_pos he] at hst
                    cases hw : d.wt with
                    | true =>
                      rw [hw] at hst
                      simp (maxSteps:=999999) -implicitDefEqProofs (disch:=omega) only [push_cast,↓reduceIte,Nat.reduceEqDiff,reduceCtorEq,wz,hρ,hr,aRow,aSlN,hdd,g0,g1,he,hw]
                      exact hN (j + 1) _ _ ⟨by simp (maxSteps:=999999) -implicitDefEqProofs (disch:=omega) only [push_cast,↓reduceIte,Nat.reduceEqDiff,reduceCtorEq,wz,hρ,hst]; rfl, by omega⟩ (by omega)
                    | false =>
                      rw [hw] at hst
                      simp (maxSteps:=999999) -implicitDefEqProofs (disch:=omega) only [push_cast,↓reduceIte,Nat.reduceEqDiff,reduceCtorEq,wz,hρ,hr,aRow,aSlN,hdd,g0,g1,he,hw]
                      exact hN (j + 1) _ _ ⟨by simp (maxSteps:=999999) -implicitDefEqProofs (disch:=omega) only [push_cast,↓reduceIte,Nat.reduceEqDiff,reduceCtorEq,wz,hρ,hst]; rfl, by omega⟩ (by omega)
                  · rw [if_neg he] at hst
                    simp (maxSteps:=999999) -implicitDefEqProofs (disch:=omega) only [push_cast,↓reduceIte,Nat.reduceEqDiff,reduceCtorEq,wz,hρ,hr,aRow,aSlN,hdd,g0,g1,he]
                    exact hN (j + 1) _ _ ⟨by simp (maxSteps:=999999) -implicitDefEqProofs (disch:=omega) only [push_cast,↓reduceIte,Nat.reduceEqDiff,reduceCtorEq,wz,hρ,hst], by omega⟩ (by omega)
                · have hle : ¬ (j : Int) < r.length := by omega
                  simp (maxSteps:=999999) -implicitDefEqProofs (disch:=omega) only [push_cast,↓reduceIte,Nat.reduceEqDiff,reduceCtorEq,wz,hρ,hr,aRow,aSlN,hle]
                  obtain rfl : j = r.length := by omega
                  rw [List.take_length] at hρ
                  exact hE _ _ (by simp (maxSteps:=999999) -implicitDefEqProofs (disch:=omega) only [push_cast,↓reduceIte,Nat.reduceEqDiff,reduceCtorEq,wz,hρ])
              · clear hρ
                rintro ε σ hρ
                have h1 := pa T2 (signAt r a) (by omega)
                simp (maxSteps:=999999) -implicitDefEqProofs (disch:=omega) only [push_cast,↓reduceIte,Nat.reduceEqDiff,reduceCtorEq,wz,hρ,h1]
                exact hN (a + 1) _ _ ⟨by simp (maxSteps:=999999) -implicitDefEqProofs (disch:=omega) only [push_cast,↓reduceIte,Nat.reduceEqDiff,reduceCtorEq,wz,hρ,hsn4], by omega⟩ (by omega)
            · have hla' : ¬ (a : Int) ≤ c.st := by omega
              simp (maxSteps:=999999) -implicitDefEqProofs (disch:=omega) only [push_cast,↓reduceIte,Nat.reduceEqDiff,reduceCtorEq,wz,hρ,hla']
              refine hE _ _ ?_
              have e : (List.range a).map (fun (a : Nat) => signAt r a) = lineD r := by
                unfold lineD sK
                have h5 := sK_len r r.length
                unfold lineD at hll
                rw [h5] at hll
                rw [hll, show a = c.st.toNat + 1 by omega]
              rw [e] at hρ
              simp (maxSteps:=999999) -implicitDefEqProofs (disch:=omega) only [push_cast,↓reduceIte,Nat.reduceEqDiff,reduceCtorEq,wz,hρ]
          · clear hρ
            rintro ε σ hρ
            have h1 := pa (T ++ lineD r) 10 (by rw [List.length_append]; omega)
            rw [List.append_assoc] at h1
            simp (maxSteps:=999999) -implicitDefEqProofs (disch:=omega) only [push_cast,↓reduceIte,Nat.reduceEqDiff,reduceCtorEq,wz,hρ,h1]
            refine hN (k + 1) _ _ ⟨by simp (maxSteps:=999999) -implicitDefEqProofs (disch:=omega) only [push_cast,↓reduceIte,Nat.reduceEqDiff,reduceCtorEq,wz,hρ,hsn], by omega, ?_⟩ (by omega)
            rw [take_succ_at hr]
            intro x hx
            rcases List.mem_append.1 hx with hx | hx
            · exact hal x hx
            · simp at hx; subst hx; omega
      · have hle : ¬ (k : Int) < l.length := by omega
        simp (maxSteps:=999999) -implicitDefEqProofs (disch:=omega) only [push_cast,↓reduceIte,Nat.reduceEqDiff,reduceCtorEq,wz,hρ,hle]
        obtain rfl : k = l.length := by omega
        rw [List.take_length] at hal hρ
        exact hE _ _ ⟨by simp (maxSteps:=999999) -implicitDefEqProofs (disch:=omega) only [push_cast,↓reduceIte,Nat.reduceEqDiff,reduceCtorEq,wz,hρ], hal⟩
    · rintro ε σ ⟨h5, hal⟩
      simp (maxSteps:=999999) -implicitDefEqProofs (disch:=omega) only [push_cast,↓reduceIte,Nat.reduceEqDiff,reduceCtorEq,wz,h5]
      exact fin_res [] (by rw [hG, if_pos (by rw [List.all_eq_true]; intro x hx; simp [hal x hx])]; rfl) (aCh_pure _)
  · rw [if_pos hc] at hG
    simp (maxSteps:=999999) -implicitDefEqProofs (disch:=omega) only [push_cast,↓reduceIte,Nat.reduceEqDiff,reduceCtorEq,wz,hc,aInt]
    exact fin_res [] (by rw [hG]; rfl) (aCh_pure _)
end Go.Proofs.YtjdpejggafefjaaDoor
/- The statements on pictures: Same, great, own, works. -/
namespace Go.Proofs.YtjdpejggafefjaaDoor
set_option linter.unusedVariables false
set_option linter.unusedSimpArgs false
open Go Go.Kx Go.Proofs

theorem eqsCC (c : CC) : PF.av (.eqs true [.int .i64, .bool]) [.agg (aCC c), .agg (aCC c)] = some (.v (.bool false)) := by
  show ((PF.val (.eqs true [.int .i64, .bool]) [.agg [.int .i64 c.st, .bool c.wt].toArray, .agg [.int .i64 c.st, .bool c.wt].toArray]).map AV.v) = _
  simp [PF.val, eqCs, eqC]
set_option maxHeartbeats 4000000 in
theorem ref38_Same_a (l : List (List CC)) (hl : l.length ≤ 9223372036854775807) (hl2 : ∀ r ∈ l, r.length ≤ 9223372036854775807) : FnP Tryd.prog 23 [aRows l, aRows l] fun a => a = aBool true := by
  refine fnP_in K_forebayref38_Same mixed rfl (by simp [AV.pureL, aRows_pure]) ?_
  simp only [S_forebayref38_Same, aRows, aSl]
  simp (maxSteps:=999999) -implicitDefEqProofs (disch:=omega) only [push_cast,↓reduceIte,Nat.reduceEqDiff,reduceCtorEq,wz]
  refine wpa_bl (α := Nat) (I := fun k ε σ => (ε 0 = .sl l.length (l.map aRow) .none ∧ ε 1 = .sl l.length (l.map aRow) .none ∧ ε 5 = .v (.int .i64 k)) ∧ k ≤ l.length)
    (μ := fun k => l.length - k) (Q := fun ε σ => True) (x := 0) ?_ ?_ ?_
  · exact ⟨by simp (maxSteps:=999999) -implicitDefEqProofs (disch:=omega) only [push_cast,↓reduceIte,Nat.reduceEqDiff,reduceCtorEq,wz], by omega⟩
  · rintro k ε σ N E ⟨hρ, hk⟩ hN hE
    simp only [S_forebayref38_Same_L1]
    by_cases hlt : k < l.length
    · obtain ⟨r, hr⟩ := at_lt hlt
      have hrl := hl2 r (List.mem_of_getElem? hr)
      simp (maxSteps:=999999) -implicitDefEqProofs (disch:=omega) only [push_cast,↓reduceIte,Nat.reduceEqDiff,reduceCtorEq,wz,hρ,hr,aRow,aSlN]
      refine wpa_bl (α := Nat) (I := fun j ε σ => (ε 0 = .sl l.length (l.map aRow) .none ∧ ε 1 = .sl l.length (l.map aRow) .none ∧ ε 5 = .v (.int .i64 k) ∧ ε 6 = .v (.int .i64 j)) ∧ j ≤ r.length)
        (μ := fun j => r.length - j) (Q := fun ε σ => ε 0 = .sl l.length (l.map aRow) .none ∧ ε 1 = .sl l.length (l.map aRow) .none ∧ ε 5 = .v (.int .i64 k)) (x := 0) ?_ ?_ ?_
      · exact ⟨by simp (maxSteps:=999999) -implicitDefEqProofs (disch:=omega) only [push_cast,↓reduceIte,Nat.reduceEqDiff,reduceCtorEq,wz,hρ], by omega⟩
      · rintro j ε σ N' E' ⟨hρ', hj⟩ hN' hE'
        simp only [S_forebayref38_Same_L2]
        by_cases hlj : j < r.length
        · obtain ⟨c, hc⟩ := at_lt hlj
          have hd := flat_drop aCC_len hc
          have hc2 : cellsA (some 2) (aCC c ++ (r.drop (j + 1)).flatMap aCC) = some (.agg (aCC c)) := rfl
          have hq := eqsCC c
          simp (maxSteps:=999999) -implicitDefEqProofs (disch:=omega) only [push_cast,↓reduceIte,Nat.reduceEqDiff,reduceCtorEq,wz,hρ',hr,aRow,aSlN,hd,hc2,hq]
          exact hN' (j + 1) _ _ ⟨by simp (maxSteps:=999999) -implicitDefEqProofs (disch:=omega) only [push_cast,↓reduceIte,Nat.reduceEqDiff,reduceCtorEq,wz,hρ'], by omega⟩ (by omega)
        · have hle : ¬ (j : Int) < r.length := by omega
          simp (maxSteps:=999999) -implicitDefEqProofs (disch:=omega) only [push_cast,↓reduceIte,Nat.reduceEqDiff,reduceCtorEq,wz,hρ',hr,aRow,aSlN,hle]
          exact hE' _ _ (by simp (maxSteps:=999999) -implicitDefEqProofs (disch:=omega) only [push_cast,↓reduceIte,Nat.reduceEqDiff,reduceCtorEq,wz,hρ'])
      · clear hρ
        rintro ε σ hρ
        simp (maxSteps:=999999) -implicitDefEqProofs (disch:=omega) only [push_cast,↓reduceIte,Nat.reduceEqDiff,reduceCtorEq,wz,hρ]
        exact hN (k + 1) _ _ ⟨by simp (maxSteps:=999999) -implicitDefEqProofs (disch:=omega) only [push_cast,↓reduceIte,Nat.reduceEqDiff,reduceCtorEq,wz,hρ], by omega⟩ (by omega)
    · have hle : ¬ (k : Int) < l.length := by omega
      simp (maxSteps:=999999) -implicitDefEqProofs (disch:=omega) only [push_cast,↓reduceIte,Nat.reduceEqDiff,reduceCtorEq,wz,hρ,hle]
      exact hE _ _ trivial
  · rintro ε σ _
    simp (maxSteps:=999999) -implicitDefEqProofs (disch:=omega) only [push_cast,↓reduceIte,Nat.reduceEqDiff,reduceCtorEq,wz]
    exact ⟨[], rfl, rfl⟩
/-- What is not great. -/
def okG (l : List (List CC)) : Prop := l.length ≤ 103 ∧ (∀ r ∈ l, r.length ≤ 102) ∧ (l.map List.length).sum ≤ 400
theorem law38_great_a (l : List (List CC)) (hl : l.length ≤ 9223372036854775807) : FnP Tryd.prog 16 [aRows l] fun a => ∃ b, a = aBool b ∧ (b = false → okG l) := by
  refine fnP_in K_forebaylaw38_great mixed rfl (by simp [AV.pureL, aRows_pure]) ?_
  simp only [S_forebaylaw38_great, aRows, aSl]
  simp (maxSteps:=999999) -implicitDefEqProofs (disch:=omega) only [push_cast,↓reduceIte,Nat.reduceEqDiff,reduceCtorEq,wz]
  refine wpa_bl (α := Nat) (I := fun k ε σ => (ε 0 = .sl l.length (l.map aRow) .none ∧ ε 3 = .v (.int .i64 (((l.take k).map List.length).sum : Nat)) ∧ ε 4 = .v (.int .i64 k)) ∧ k ≤ l.length ∧ k ≤ 103 ∧ (∀ r ∈ l.take k, r.length ≤ 102) ∧ ((l.take k).map List.length).sum ≤ 400)
    (μ := fun k => l.length - k) (Q := fun _ _ => okG l) (x := 0) ?_ ?_ ?_
  · simp (maxSteps:=999999) -implicitDefEqProofs (disch:=omega) only [push_cast,↓reduceIte,Nat.reduceEqDiff,reduceCtorEq,wz]
    exact ⟨rfl, by omega, by omega, by simp, by simp⟩
  · rintro k ε σ N E ⟨hρ, hk, hk2, hal, hsum⟩ hN hE
    simp only [S_forebaylaw38_great_L1]
    by_cases hlt : k < l.length
    · obtain ⟨r, hr⟩ := at_lt hlt
      have hs : ((l.take (k + 1)).map List.length).sum = ((l.take k).map List.length).sum + r.length := by rw [take_succ_at hr]; simp
      generalize ((l.take k).map List.length).sum = s at hρ hsum hs
      by_cases h1 : 102 < k
      · simp (maxSteps:=999999) -implicitDefEqProofs (disch:=omega) only [push_cast,↓reduceIte,Nat.reduceEqDiff,reduceCtorEq,wz,hρ,hr,aRow,aSlN]
        exact ⟨[], rfl, true, rfl, fun h => by cases h⟩
      · by_cases h2 : 102 < r.length
        · simp (maxSteps:=999999) -implicitDefEqProofs (disch:=omega) only [push_cast,↓reduceIte,Nat.reduceEqDiff,reduceCtorEq,wz,hρ,hr,aRow,aSlN]
          exact ⟨[], rfl, true, rfl, fun h => by cases h⟩
        · by_cases h3 : 400 < s + r.length
          · have h3' : (400 : Int) < (s : Int) + r.length := by omega
            simp (maxSteps:=999999) -implicitDefEqProofs (disch:=omega) only [push_cast,↓reduceIte,Nat.reduceEqDiff,reduceCtorEq,wz,hρ,hr,aRow,aSlN,h3']
            exact ⟨[], rfl, true, rfl, fun h => by cases h⟩
          · simp (maxSteps:=999999) -implicitDefEqProofs (disch:=omega) only [push_cast,↓reduceIte,Nat.reduceEqDiff,reduceCtorEq,wz,hρ,hr,aRow,aSlN]
            refine hN (k + 1) _ _ ?_ (by omega)
            rw [hs]
            simp (maxSteps:=999999) -implicitDefEqProofs (disch:=omega) only [push_cast,↓reduceIte,Nat.reduceEqDiff,reduceCtorEq,wz,hρ]
            refine ⟨by omega, by omega, ?_, by omega⟩
            rw [take_succ_at hr]
            intro y hy
            rcases List.mem_append.1 hy with hy | hy
            · exact hal y hy
            · simp at hy; subst hy; omega
    · simp (maxSteps:=999999) -implicitDefEqProofs (disch:=omega) only [push_cast,↓reduceIte,Nat.reduceEqDiff,reduceCtorEq,wz,hρ]
      refine hE _ _ ?_
      rw [List.take_of_length_le (by omega)] at hal hsum
      exact ⟨by omega, hal, hsum⟩
  · rintro ε σ h
    simp (maxSteps:=999999) -implicitDefEqProofs (disch:=omega) only [push_cast,↓reduceIte,Nat.reduceEqDiff,reduceCtorEq,wz]
    exact ⟨[], rfl, false, rfl, fun _ => h⟩
theorem law38_own_a (l : List (List CC)) (hl : l.length ≤ 1000) (hl2 : ∀ r ∈ l, r.length ≤ 1000) : FnP Tryd.prog 18 [aRows l] fun a => a = aRows l := by
  refine fnP_in K_forebaylaw38_own mixed rfl (by simp [AV.pureL, aRows_pure]) ?_
  simp only [S_forebaylaw38_own, aRows, aSl]
  simp (maxSteps:=999999) -implicitDefEqProofs (disch:=omega) only [push_cast,↓reduceIte,Nat.reduceEqDiff,reduceCtorEq,wz]
  refine wpa_blg (GU.tok 3 1 rfl) (α := Nat) (I := fun k ε σ => (ε 0 = .sl l.length (l.map aRow) .none ∧ ε 4 = .v (.int .i64 k)) ∧ k ≤ l.length ∧
      ∃ w, ε 3 = .sl k ((l.take k).map aRow) (.id 0 w 1) ∧ σ = [.tail w])
    (μ := fun k => l.length - k) (Q := fun ε σ => ∃ w, ε 3 = .sl l.length (l.map aRow) (.id 0 w 1)) (x := 0) ?_ ?_ ?_
  · simp (maxSteps:=999999) -implicitDefEqProofs (disch:=omega) only [push_cast,↓reduceIte,Nat.reduceEqDiff,reduceCtorEq,wz]
    exact ⟨by omega, 0, rfl, rfl⟩
  · rintro k ε σ N E ⟨hρ, hk, w, h3, rfl⟩ hN hE
    simp only [S_forebaylaw38_own_L1]
    by_cases hlt : k < l.length
    · obtain ⟨r, hr⟩ := at_lt hlt
      have hrl := hl2 r (List.mem_of_getElem? hr)
      simp (maxSteps:=999999) -implicitDefEqProofs (disch:=omega) only [push_cast,↓reduceIte,Nat.reduceEqDiff,reduceCtorEq,wz,hρ,h3,hr]
      refine wpa_bsl (by simp) (by simp) ?_
      simp (maxSteps:=999999) -implicitDefEqProofs (disch:=omega) only [push_cast,↓reduceIte,Nat.reduceEqDiff,reduceCtorEq,wz,hρ,h3,hr,aRow,aSlN]
      refine wpa_app_full0 rfl rfl (flat_len aCC_len r) (by rw [List.all_flatMap]; simp only [show ∀ c, (aCC c).all AV.one = true from fun c => rfl]; simp) (by simp) (by simp; omega) (by simp; omega) ?_
      simp (maxSteps:=999999) -implicitDefEqProofs (disch:=omega) only [push_cast,↓reduceIte,Nat.reduceEqDiff,reduceCtorEq,wz,hρ,h3]
      refine wpa_bsl (by simp [AV.cells]) (by simp) ?_
      simp (maxSteps:=999999) -implicitDefEqProofs (disch:=omega) only [push_cast,↓reduceIte,Nat.reduceEqDiff,reduceCtorEq,wz,hρ,h3]
      refine wpa_app rfl rfl rfl rfl (by simp; omega) (by omega) (by omega) rfl ?_
      simp (maxSteps:=999999) -implicitDefEqProofs (disch:=omega) only [push_cast,↓reduceIte,Nat.reduceEqDiff,reduceCtorEq,wz,hρ,h3]
      refine hN (k + 1) _ _ ?_ (by omega)
      simp (maxSteps:=999999) -implicitDefEqProofs (disch:=omega) only [push_cast,↓reduceIte,Nat.reduceEqDiff,reduceCtorEq,wz,hρ]
      refine ⟨by omega, w + 1, ?_, rfl⟩
      rw [take_succ_at hr, List.map_append]
      simp [aRow, aSlN]
    · simp (maxSteps:=999999) -implicitDefEqProofs (disch:=omega) only [push_cast,↓reduceIte,Nat.reduceEqDiff,reduceCtorEq,wz,hρ]
      refine hE _ _ ⟨w, ?_⟩
      simp (maxSteps:=999999) -implicitDefEqProofs (disch:=omega) only [push_cast,↓reduceIte,Nat.reduceEqDiff,reduceCtorEq,wz,h3]
      have : k = l.length := by omega
      subst this
      rw [List.take_length]
  · rintro ε σ ⟨w, h3⟩
    simp (maxSteps:=999999) -implicitDefEqProofs (disch:=omega) only [push_cast,↓reduceIte,Nat.reduceEqDiff,reduceCtorEq,wz,h3]
    refine fin_res [] ?_ (aRows_pure l)
    exact aRows_res _ l _

def wR : List (List CC) := [[⟨0, false⟩, ⟨2, true⟩, ⟨5, false⟩]]
theorem wR_text : textG wR = [48, 32, 62, 50, 32, 45, 53, 10] := by decide +kernel
theorem wR_chart : chartG wR = ([111, 46, 60, 46, 46, 111, 10], 0) := by decide +kernel
theorem wR_read : preadF [48, 32, 62, 50, 32, 45, 53, 10] = (wR, 0) := by decide +kernel
theorem wR_chk : gchk wR = 0 := by decide +kernel
def wF : AV := .sl 1 [.sl 3 [.v (.int .i64 0), .v (.bool false), .v (.int .i64 2), .v (.bool true), .v (.int .i64 5), .v (.bool false)] .none] .full
set_option maxHeartbeats 4000000 in
theorem law38_works_a : FnP Tryd.prog 15 [] fun a => a = aBool true := by
  refine fnP_in K_forebaylaw38_works mixed rfl rfl ?_
  simp only [S_forebaylaw38_works]
  have hR : aRows wR = .sl 1 [.sl 3 [.v (.int .i64 0), .v (.bool false), .v (.int .i64 2), .v (.bool true), .v (.int .i64 5), .v (.bool false)] .none] .none := rfl
  have h1 : FnP Tryd.prog 17 [aRows wR] fun a => a = .tup [.v (.string ⟨#[48, 32, 62, 50, 32, 45, 53, 10]⟩), .v (.int .i64 0)] := by
    have h := picture_Text_a wR (by decide) (by decide)
    rw [wR_text, wR_chk] at h
    exact h
  have h2 : FnP Tryd.prog 20 [aRows wR] fun a => a = .tup [.v (.string ⟨#[111, 46, 60, 46, 46, 111, 10]⟩), .v (.int .i64 0)] := by
    have h := picture_Chart_a wR (by decide) (by decide)
    rw [wR_chart] at h
    exact h
  have h3 : FnP Tryd.prog 22 [.v (.string ⟨#[48, 32, 62, 50, 32, 45, 53, 10]⟩)] fun a => a = .tup [aRows wR, .v (.int .i64 0)] := by
    have h := picture_Read_a [48, 32, 62, 50, 32, 45, 53, 10] (by decide)
    rw [wR_read] at h
    exact h
  have h4 := ref38_Same_a wR (by decide) (by decide)
  have hb0 : fillA [AV.v (.int .i64 0), AV.v (.bool false)] [] [] = some [AV.v (.int .i64 0), AV.v (.bool false)] := rfl
  have hb1 : fillA [AV.v (.int .i64 0), AV.v (.bool false)] [(0, 1), (1, 1)] [AV.v (.int .i64 2), AV.v (.bool true)] = some [AV.v (.int .i64 2), AV.v (.bool true)] := rfl
  have hb2 : fillA [AV.v (.int .i64 0), AV.v (.bool false)] [(0, 1)] [AV.v (.int .i64 5)] = some [AV.v (.int .i64 5), AV.v (.bool false)] := rfl
  refine wpa_seqx (fun ε σ => True ∧ σ = []) (fun N X' R' hN => by simp (maxSteps:=999999) -implicitDefEqProofs (disch:=omega) only [push_cast,↓reduceIte,Nat.reduceEqDiff,reduceCtorEq,wz]; exact hN _ _ ⟨trivial, rfl⟩) ?_
  rintro ε σ ⟨-, rfl⟩
  refine wpa_seqx (fun ε σ => (ε 1 = wF) ∧ σ = []) ?_ ?_
  · intro N X R hN
    simp (maxSteps:=999999) -implicitDefEqProofs (disch:=omega) only [push_cast,↓reduceIte,Nat.reduceEqDiff,reduceCtorEq,wz,hb0,hb1,hb2]
    refine wpa_bsl (sz := 2) (by intro a ha; simp at ha; rcases ha with rfl | rfl | rfl <;> rfl) (by simp) ?_
    simp (maxSteps:=999999) -implicitDefEqProofs (disch:=omega) only [push_cast,↓reduceIte,Nat.reduceEqDiff,reduceCtorEq,wz]
    refine wpa_frz [] [true] ?_
    show act (EF.awp _ _ [.sl 3 [.v (.int .i64 0), .v (.bool false), .v (.int .i64 2), .v (.bool true), .v (.int .i64 5), .v (.bool false)] .none] [] _)
    refine wpa_bsl (sz := 1) (by intro a ha; simp at ha; rcases ha with rfl; rfl) (by simp) ?_
    simp (maxSteps:=999999) -implicitDefEqProofs (disch:=omega) only [push_cast,↓reduceIte,Nat.reduceEqDiff,reduceCtorEq,wz]
    exact hN _ _ ⟨by simp (maxSteps:=999999) -implicitDefEqProofs (disch:=omega) only [push_cast,↓reduceIte,Nat.reduceEqDiff,reduceCtorEq,wz]; rfl, rfl⟩
  clear ε
  rintro ε σ ⟨hρ, rfl⟩
  refine wpa_seqx (fun ε σ => (ε 1 = wF ∧ ε 2 = .v (.string ⟨#[48, 32, 62, 50, 32, 45, 53, 10]⟩) ∧ ε 3 = .v (.int .i64 0)) ∧ σ = []) ?_ ?_
  · intro N X R hN
    simp (maxSteps:=999999) -implicitDefEqProofs (disch:=omega) only [push_cast,↓reduceIte,Nat.reduceEqDiff,reduceCtorEq,wz,hρ]
    refine wpa_callw [] [true] h1 rfl ?_
    rintro a rfl
    simp (maxSteps:=999999) -implicitDefEqProofs (disch:=omega) only [push_cast,↓reduceIte,Nat.reduceEqDiff,reduceCtorEq,wz,hρ]
    exact hN _ _ ⟨by simp (maxSteps:=999999) -implicitDefEqProofs (disch:=omega) only [push_cast,↓reduceIte,Nat.reduceEqDiff,reduceCtorEq,wz,hρ], rfl⟩
  clear hρ ε
  rintro ε σ ⟨hρ, rfl⟩
  refine wpa_seqx (fun ε σ => (ε 1 = wF ∧ ε 2 = .v (.string ⟨#[48, 32, 62, 50, 32, 45, 53, 10]⟩) ∧ ε 3 = .v (.int .i64 0) ∧ ε 4 = .v (.string ⟨#[111, 46, 60, 46, 46, 111, 10]⟩) ∧ ε 5 = .v (.int .i64 0)) ∧ σ = []) ?_ ?_
  · intro N X R hN
    simp (maxSteps:=999999) -implicitDefEqProofs (disch:=omega) only [push_cast,↓reduceIte,Nat.reduceEqDiff,reduceCtorEq,wz,hρ]
    refine wpa_callw [] [true] h2 rfl ?_
    rintro a rfl
    simp (maxSteps:=999999) -implicitDefEqProofs (disch:=omega) only [push_cast,↓reduceIte,Nat.reduceEqDiff,reduceCtorEq,wz,hρ]
    exact hN _ _ ⟨by simp (maxSteps:=999999) -implicitDefEqProofs (disch:=omega) only [push_cast,↓reduceIte,Nat.reduceEqDiff,reduceCtorEq,wz,hρ], rfl⟩
  clear hρ ε
  rintro ε σ ⟨hρ, rfl⟩
  refine wpa_seqx (fun ε σ => (ε 1 = wF ∧ ε 2 = .v (.string ⟨#[48, 32, 62, 50, 32, 45, 53, 10]⟩) ∧ ε 3 = .v (.int .i64 0) ∧ ε 4 = .v (.string ⟨#[111, 46, 60, 46, 46, 111, 10]⟩) ∧ ε 5 = .v (.int .i64 0) ∧ ε 6 = aRows wR ∧ ε 7 = .v (.int .i64 0)) ∧ σ = []) ?_ ?_
  · intro N X R hN
    simp (maxSteps:=999999) -implicitDefEqProofs (disch:=omega) only [push_cast,↓reduceIte,Nat.reduceEqDiff,reduceCtorEq,wz,hρ]
    refine wpa_call h3 ?_
    rintro a rfl
    simp (maxSteps:=999999) -implicitDefEqProofs (disch:=omega) only [push_cast,↓reduceIte,Nat.reduceEqDiff,reduceCtorEq,wz,hρ]
    exact hN _ _ ⟨by simp (maxSteps:=999999) -implicitDefEqProofs (disch:=omega) only [push_cast,↓reduceIte,Nat.reduceEqDiff,reduceCtorEq,wz,hρ], rfl⟩
  clear hρ ε
  rintro ε σ ⟨hρ, rfl⟩
  simp (maxSteps:=999999) -implicitDefEqProofs (disch:=omega) only [push_cast,↓reduceIte,Nat.reduceEqDiff,reduceCtorEq,wz,hρ]
  refine wpa_callw [] [true, true] h4 rfl ?_
  rintro a rfl
  simp (maxSteps:=999999) -implicitDefEqProofs (disch:=omega) only [push_cast,↓reduceIte,Nat.reduceEqDiff,reduceCtorEq,wz,hρ,aBool]
  exact ⟨[], rfl⟩
end Go.Proofs.YtjdpejggafefjaaDoor
/- Pictures: what is written is read as it was (plain); PictureTexts, PictureReads. -/
namespace Go.Proofs.YtjdpejggafefjaaDoor
set_option linter.unusedVariables false
set_option linter.unusedSimpArgs false
open Go Go.Kx Go.Proofs

theorem cell_back {r : List CC} (hr : RowOk r) {k : Nat} {c : CC} (h : r[k]? = some c) : pcell (cellT c k) (decide (k = 0)) = (c, true) := by
  have hb := hr.bd c (List.mem_of_getElem? h)
  have hn := numF_itoa c.st (by omega) (by omega)
  obtain ⟨st, wt⟩ := c
  dsimp only at hb hn
  cases wt with
  | true => simp [pcell, cellT, sgB, hn]
  | false =>
    by_cases hk : k = 0
    · subst hk
      obtain ⟨h0, _⟩ := hr.first _ h
      dsimp only at h0
      subst h0
      have e : Lib.itoa 0 = [48] := by decide +kernel
      rw [e] at hn
      simp [pcell, cellT, sgB, e, hn]
    · simp [pcell, cellT, sgB, hk, hn]
theorem cellT_no {c : CC} {k : Nat} {x : UInt8} (h1 : x ≠ 62) (h2 : x ≠ 45) (hd : digB x = false) : ∀ b ∈ cellT c k, b ≠ x := by
  intro b hb
  unfold cellT at hb
  rcases List.mem_append.1 hb with hb | hb
  · unfold sgB at hb
    split at hb
    · simp at hb; subst hb; exact fun e => h1 e.symm
    · split at hb
      · simp at hb
      · simp at hb; subst hb; exact fun e => h2 e.symm
  · exact itoa_no h2 hd b hb
theorem cellT_ne (c : CC) (k : Nat) : cellT c k ≠ [] := by
  unfold cellT
  intro h
  exact itoa_ne c.st (List.append_eq_nil_iff.1 h).2
theorem rowW_back (r : List CC) : partsB 32 false [] (lineT r) = rowW r :=
  fields_back (rowW r) fun w hw => by
    obtain ⟨k, c, _, rfl⟩ := rowW_mem hw
    exact ⟨cellT_ne c k, cellT_no (by decide) (by decide) (by decide)⟩
theorem joinR_no {sep : List UInt8} {x : UInt8} (hs : ∀ b ∈ sep, b ≠ x) : ∀ {xs : List (List UInt8)} {f : Bool}, (∀ w ∈ xs, ∀ b ∈ w, b ≠ x) → ∀ b ∈ joinR sep xs f, b ≠ x := by
  intro xs
  induction xs with
  | nil => intro f _ b hb; simp [joinR] at hb
  | cons y xs ih =>
    intro f h b hb
    simp only [joinR, List.mem_append] at hb
    rcases hb with (hb | hb) | hb
    · cases f
      · exact hs b (by simpa using hb)
      · simp at hb
    · exact h y (by simp) b hb
    · exact ih (fun w hw => h w (by simp [hw])) b hb
theorem lineT_no (r : List CC) : ∀ b ∈ lineT r, b ≠ 10 :=
  joinR_no (by decide) fun w hw => by
    obtain ⟨k, c, _, rfl⟩ := rowW_mem hw
    exact cellT_no (by decide) (by decide) (by decide)
theorem wordsL_back (l : List (List CC)) : wordsL (textP l) = l.map rowW := by
  unfold wordsL textP
  rw [lines_back (l.map lineT) (by intro w hw; rw [List.mem_map] at hw; obtain ⟨r, _, rfl⟩ := hw; exact lineT_no r), List.map_map]
  exact List.map_congr_left fun r _ => rowW_back r
theorem row_get {r : List CC} {k : Nat} {c : CC} (h : r[k]? = some c) : (rowW r)[k]? = some (cellT c k) := by
  unfold rowW
  rw [List.getElem?_map, List.getElem?_zipIdx, h]
  simp
theorem okWs_back {r : List CC} (hr : RowOk r) : okWs (rowW r) = true := by
  unfold okWs
  rw [List.all_eq_true]
  rintro ⟨w, k⟩ hp
  rw [List.mem_zipIdx_iff_getElem?] at hp
  have hk : k < r.length := by have := lt_at hp; rwa [rowW_len] at this
  obtain ⟨c, hc⟩ := at_lt hk
  have := row_get hc
  rw [hp] at this
  cases this
  show (pcell (cellT c k) (decide (k = 0))).2 = true
  rw [cell_back hr hc]
theorem rowV_back {r : List CC} (hr : RowOk r) : rowV (rowW r) = r := by
  apply List.ext_getElem?
  intro k
  by_cases hk : k < r.length
  · obtain ⟨c, hc⟩ := at_lt hk
    unfold rowV
    rw [List.getElem?_map, List.getElem?_zipIdx, row_get hc, hc]
    simp [cell_back hr hc]
  · rw [List.getElem?_eq_none (by rw [rowV_len, rowW_len]; omega), List.getElem?_eq_none (by omega)]
theorem read_back {l : List (List CC)} (h : gchk l = 0) : preadF (textP l) = (l, 0) := by
  obtain ⟨_, hrow⟩ := gchk_ok h
  have e : (wordsL (textP l)).map rowV = l := by
    rw [wordsL_back, List.map_map]
    conv => rhs; rw [← List.map_id l]
    exact List.map_congr_left fun r hr => rowV_back (hrow r hr)
  unfold preadF
  rw [e, h, if_pos rfl, if_pos]
  rw [wordsL_back, List.all_map, List.all_eq_true]
  intro r hr
  exact okWs_back (hrow r hr)
theorem text_sum {l : List (List CC)} (hrow : ∀ r ∈ l, RowOk r) : (textP l).length ≤ (l.map List.length).sum * 24 := by
  induction l with
  | nil => simp [textP, linesT]
  | cons r l ih =>
    have h1 := ih fun x hx => hrow x (by simp [hx])
    have h2 := lineT_len (hrow r (by simp))
    have h3 := (hrow r (by simp)).pos
    have e : textP (r :: l) = lineT r ++ [10] ++ textP l := by simp [textP, linesT]
    rw [e, List.map_cons, List.sum_cons]
    simp only [List.length_append, List.length_cons, List.length_nil]
    omega
theorem parts_sum : ∀ (bs cur : List UInt8), ((partsB 10 true cur bs).map List.length).sum ≤ bs.length + cur.length := by
  intro bs
  induction bs with
  | nil => intro cur; simp only [partsB]; split <;> simp
  | cons b bs ih =>
    intro cur
    simp only [partsB]
    split
    · have := ih []
      simp only [true_or, if_true, List.map_cons, List.sum_cons, List.length_cons, List.length_nil] at this ⊢
      omega
    · have := ih (cur ++ [b])
      simp only [List.length_append, List.length_cons, List.length_nil] at this ⊢
      omega
theorem words_sum (t : List UInt8) : (((wordsL t).map rowV).map List.length).sum ≤ t.length := by
  refine Nat.le_trans ?_ (parts_sum t [])
  unfold wordsL
  generalize partsB 10 true [] t = L
  induction L with
  | nil => simp
  | cons l L ih =>
    simp only [List.map_cons, List.sum_cons]
    have h := (partsB_len (sign := 32) (em := false) l []).1
    rw [rowV_len]
    simp only [if_true, Nat.add_zero] at h
    omega
theorem pread_ok {t : List UInt8} (h : (preadF t).2 = 0) : gchk (preadF t).1 = 0 ∧ ((preadF t).1.map List.length).sum ≤ t.length := by
  unfold preadF at h ⊢
  split
  · rename_i h1
    rw [if_pos h1] at h
    split
    · rename_i h2
      exact ⟨h2, words_sum t⟩
    · rename_i h2
      rw [if_neg h2] at h
      exact absurd h h2
  · rename_i h1
    rw [if_neg h1] at h
    cases h
theorem pread_nil {t : List UInt8} (h : (preadF t).2 ≠ 0) : (preadF t).1 = [] := by
  unfold preadF at h ⊢
  split
  · rename_i h1
    rw [if_pos h1] at h
    split
    · rename_i h2
      rw [if_pos h2] at h
      exact absurd rfl h
    · rfl
  · rfl
theorem okG_len {l : List (List CC)} (h : okG l) : l.length ≤ 1000 ∧ (∀ r ∈ l, r.length ≤ 1000) := ⟨by have := h.1; omega, fun r hr => by have := h.2.1 r hr; omega⟩
theorem textG_len {l : List (List CC)} (h : okG l) : (textG l).length ≤ 100000 := by
  unfold textG
  split
  · rename_i hc
    obtain ⟨_, hrow⟩ := gchk_ok hc
    have := text_sum hrow
    have := h.2.2
    omega
  · simp
end Go.Proofs.YtjdpejggafefjaaDoor
/- PictureTexts, PictureReads: the walks. -/
namespace Go.Proofs.YtjdpejggafefjaaDoor
set_option linter.unusedVariables false
set_option linter.unusedSimpArgs false
open Go Go.Kx Go.Proofs

set_option maxHeartbeats 8000000 in
theorem PictureTexts_a (l : List (List CC)) (hl : l.length ≤ 9223372036854775807) : FnP Tryd.prog 3 [aRows l] fun a => a = aBool true := by
  refine fnP_in K_forebaylaw38_PictureTexts mixed rfl (by simp [AV.pureL, aRows_pure]) ?_
  simp only [S_forebaylaw38_PictureTexts]
  simp (maxSteps:=999999) -implicitDefEqProofs (disch:=omega) only [push_cast,↓reduceIte,Nat.reduceEqDiff,reduceCtorEq,wz]
  refine wpa_call law38_works_a ?_
  rintro a rfl
  simp (maxSteps:=999999) -implicitDefEqProofs (disch:=omega) only [push_cast,↓reduceIte,Nat.reduceEqDiff,reduceCtorEq,wz,aBool]
  refine wpa_call (law38_great_a l hl) ?_
  rintro a ⟨b, rfl, hb⟩
  cases b with
  | true =>
    simp (maxSteps:=999999) -implicitDefEqProofs (disch:=omega) only [push_cast,↓reduceIte,Nat.reduceEqDiff,reduceCtorEq,wz,aBool]
    exact ⟨[], rfl⟩
  | false =>
    have hG := hb rfl
    obtain ⟨m1, m2⟩ := okG_len hG
    have hown := law38_own_a l m1 m2
    have hl2 : ∀ r ∈ l, r.length ≤ 9223372036854775807 := fun r hr => by have := m2 r hr; omega
    have htl := textG_len hG
    have hre := picture_Read_a (textG l) htl
    simp (maxSteps:=999999) -implicitDefEqProofs (disch:=omega) only [push_cast,↓reduceIte,Nat.reduceEqDiff,reduceCtorEq,wz,aBool]
    refine wpa_call hown ?_
    rintro a rfl
    simp (maxSteps:=999999) -implicitDefEqProofs (disch:=omega) only [push_cast,↓reduceIte,Nat.reduceEqDiff,reduceCtorEq,wz]
    refine wpa_call (picture_Text_a l hl hl2) ?_
    rintro a rfl
    simp (maxSteps:=999999) -implicitDefEqProofs (disch:=omega) only [push_cast,↓reduceIte,Nat.reduceEqDiff,reduceCtorEq,wz]
    refine wpa_call (ref38_Text_a l hl hl2) ?_
    rintro a rfl
    simp (maxSteps:=999999) -implicitDefEqProofs (disch:=omega) only [push_cast,↓reduceIte,Nat.reduceEqDiff,reduceCtorEq,wz]
    refine wpa_call hown ?_
    rintro a rfl
    simp (maxSteps:=999999) -implicitDefEqProofs (disch:=omega) only [push_cast,↓reduceIte,Nat.reduceEqDiff,reduceCtorEq,wz]
    refine wpa_call (picture_Chart_a l hl hl2) ?_
    rintro a rfl
    simp (maxSteps:=999999) -implicitDefEqProofs (disch:=omega) only [push_cast,↓reduceIte,Nat.reduceEqDiff,reduceCtorEq,wz]
    refine wpa_call (ref38_Chart_a l hl hl2) ?_
    rintro a rfl
    simp (maxSteps:=999999) -implicitDefEqProofs (disch:=omega) only [push_cast,↓reduceIte,Nat.reduceEqDiff,reduceCtorEq,wz]
    refine wpa_call hre ?_
    rintro a rfl
    by_cases hc : gchk l = 0
    · have hT : textG l = textP l := by unfold textG; rw [if_pos hc]
      rw [hT, read_back hc]
      simp (maxSteps:=999999) -implicitDefEqProofs (disch:=omega) only [push_cast,↓reduceIte,Nat.reduceEqDiff,reduceCtorEq,wz,aInt,hc]
      refine wpa_call (ref38_Same_a l hl hl2) ?_
      rintro a rfl
      simp (maxSteps:=999999) -implicitDefEqProofs (disch:=omega) only [push_cast,↓reduceIte,Nat.reduceEqDiff,reduceCtorEq,wz,aBool,hc]
      exact ⟨[], rfl⟩
    · simp (maxSteps:=999999) -implicitDefEqProofs (disch:=omega) only [push_cast,↓reduceIte,Nat.reduceEqDiff,reduceCtorEq,wz,aInt,hc]
      exact ⟨[], rfl⟩
set_option maxHeartbeats 8000000 in
theorem PictureReads_a (s : ByteArray) : FnP Tryd.prog 4 [aS s] fun a => a = aBool true := by
  refine fnP_in K_forebaylaw38_PictureReads mixed rfl rfl ?_
  simp only [S_forebaylaw38_PictureReads]
  obtain ⟨t, rfl⟩ : ∃ t : List UInt8, s = bA t := ⟨s.data.toList, by cases s; rfl⟩
  simp (maxSteps:=999999) -implicitDefEqProofs (disch:=omega) only [push_cast,↓reduceIte,Nat.reduceEqDiff,reduceCtorEq,wz]
  refine wpa_call law38_works_a ?_
  rintro a rfl
  simp (maxSteps:=999999) -implicitDefEqProofs (disch:=omega) only [push_cast,↓reduceIte,Nat.reduceEqDiff,reduceCtorEq,wz,aBool]
  by_cases h3 : 3000 < t.length
  · have h3' : (3000 : Int) < ((bA t).size : Int) := by rw [size_bA]; omega
    simp (maxSteps:=999999) -implicitDefEqProofs (disch:=omega) only [push_cast,↓reduceIte,Nat.reduceEqDiff,reduceCtorEq,wz,h3']
    exact ⟨[], rfl⟩
  · have h3' : ¬ (3000 : Int) < ((bA t).size : Int) := by rw [size_bA]; omega
    simp (maxSteps:=999999) -implicitDefEqProofs (disch:=omega) only [push_cast,↓reduceIte,Nat.reduceEqDiff,reduceCtorEq,wz,h3']
    refine wpa_call (picture_Read_a t (by omega)) ?_
    rintro a rfl
    simp (maxSteps:=999999) -implicitDefEqProofs (disch:=omega) only [push_cast,↓reduceIte,Nat.reduceEqDiff,reduceCtorEq,wz]
    refine wpa_call (ref38_Read_a t (by omega)) ?_
    rintro a rfl
    have hsum : (preadF t).2 = 0 → gchk (preadF t).1 = 0 ∧ ((preadF t).1.map List.length).sum ≤ t.length := pread_ok
    have hnil : (preadF t).2 ≠ 0 → (preadF t).1 = [] := pread_nil
    generalize preadF t = p at hsum hnil
    obtain ⟨l, e⟩ := p
    dsimp only at hsum hnil
    by_cases he : e = 0
    · obtain ⟨hc, hs⟩ := hsum he
      obtain ⟨hlen, hrow⟩ := gchk_ok hc
      have hl : l.length ≤ 9223372036854775807 := by omega
      have hl2 : ∀ r ∈ l, r.length ≤ 9223372036854775807 := fun r hr => by have := (hrow r hr).len; omega
      have hT : textG l = textP l := by unfold textG; rw [if_pos hc]
      have htl := text_sum hrow
      subst he
      simp (maxSteps:=999999) -implicitDefEqProofs (disch:=omega) only [push_cast,↓reduceIte,Nat.reduceEqDiff,reduceCtorEq,wz,aInt]
      refine wpa_call (ref38_Same_a l hl hl2) ?_
      rintro a rfl
      simp (maxSteps:=999999) -implicitDefEqProofs (disch:=omega) only [push_cast,↓reduceIte,Nat.reduceEqDiff,reduceCtorEq,wz,aBool]
      refine wpa_call (picture_Text_a l hl hl2) ?_
      rintro a rfl
      have hre := picture_Read_a (textP l) (by omega)
      rw [read_back hc] at hre
      rw [hT, hc]
      simp (maxSteps:=999999) -implicitDefEqProofs (disch:=omega) only [push_cast,↓reduceIte,Nat.reduceEqDiff,reduceCtorEq,wz]
      refine wpa_call hre ?_
      rintro a rfl
      simp (maxSteps:=999999) -implicitDefEqProofs (disch:=omega) only [push_cast,↓reduceIte,Nat.reduceEqDiff,reduceCtorEq,wz,aInt]
      refine wpa_call (ref38_Same_a l hl hl2) ?_
      rintro a rfl
      simp (maxSteps:=999999) -implicitDefEqProofs (disch:=omega) only [push_cast,↓reduceIte,Nat.reduceEqDiff,reduceCtorEq,wz,aBool]
      exact ⟨[], rfl⟩
    · have hn := hnil he
      subst hn
      have hT : textG [] = [] := by decide +kernel
      have hc : gchk [] = 0 := by decide +kernel
      simp (maxSteps:=999999) -implicitDefEqProofs (disch:=omega) only [push_cast,↓reduceIte,Nat.reduceEqDiff,reduceCtorEq,wz,aInt]
      refine wpa_call (ref38_Same_a [] (by simp) (by simp)) ?_
      rintro a rfl
      simp (maxSteps:=999999) -implicitDefEqProofs (disch:=omega) only [push_cast,↓reduceIte,Nat.reduceEqDiff,reduceCtorEq,wz,aBool]
      refine wpa_call (picture_Text_a [] (by simp) (by simp)) ?_
      rintro a rfl
      have hre := picture_Read_a [] (by simp)
      rw [hT, hc]
      simp (maxSteps:=999999) -implicitDefEqProofs (disch:=omega) only [push_cast,↓reduceIte,Nat.reduceEqDiff,reduceCtorEq,wz]
      refine wpa_call hre ?_
      rintro a rfl
      simp (maxSteps:=999999) -implicitDefEqProofs (disch:=omega) only [push_cast,↓reduceIte,Nat.reduceEqDiff,reduceCtorEq,wz,aInt,he]
      exact ⟨[], rfl⟩
end Go.Proofs.YtjdpejggafefjaaDoor
/- Shapes of what comes in: rows of cells. -/
namespace Go.Proofs.YtjdpejggafefjaaDoor
set_option linter.unusedVariables false
set_option linter.unusedSimpArgs false
open Go Go.Kx Go.Proofs

def shCell : Sh := .st (.fcons 1 shN (.fcons 1 .bool .fnil))
theorem shCell_read {c : List AV} (h : Enc shCell c) : ∃ x : CC, c = aCC x := by
  simp only [shCell, Enc] at h
  obtain ⟨x, y, rfl, _, hx, x3, y3, rfl, _, ⟨b, rfl⟩, rfl⟩ := h
  obtain ⟨n, rfl, _⟩ := shN_read hx
  exact ⟨⟨n, b⟩, rfl⟩
def shRow : Sh := .sl 2 shCell
def shRows : Sh := .sl 1 shRow
theorem shRows_read {cs : List AV} (h : Enc shRows cs) : ∃ l : List (List CC), cs = [aRows l] ∧ l.length ≤ 9223372036854775807 :=
  enc_sl1 (f := aRow) (fun _ hc => by obtain ⟨l, h, _⟩ := enc_sl (f := aCC) (fun _ hc => shCell_read hc) hc; exact ⟨l, h⟩) h
theorem shRow_ok : ShOk Tryd.prog shRow 36 := ⟨38, Tryd.underlying36, by kernel_rfl, by omega, _, Tryd.underlying38, rfl, by kernel_rfl, Tryd.underlying3, rfl, by kernel_rfl, Tryd.underlying4, (by show 0 + 1 + 1 = Tryd.prog.cellsOf 38; kernel_rfl)⟩
theorem shRows_ok : ShOk Tryd.prog shRows 22 := ⟨36, Tryd.underlying22, by kernel_rfl, by omega, shRow_ok⟩
end Go.Proofs.YtjdpejggafefjaaDoor
