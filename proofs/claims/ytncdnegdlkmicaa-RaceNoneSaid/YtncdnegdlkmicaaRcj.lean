/- RaceNone: the walk. -/
import Derived.Test.YtncdnegdlkmicaaRzb
import Derived.Test.YtncdnegdlkmicaaCRn
namespace Go.Proofs.Ytncdnegdlkmicaa.Rc
set_option linter.unusedVariables false
set_option linter.unusedSimpArgs false
open Go Go.Kx Go.Proofs
open Go.Proofs.Ytncdnegdlkmicaa.Rx hiding at_lt snoc_ind take_succ_at drop_at mixed
open Go.Proofs.Ytncdnegdlkmicaa.St (Ac aAc aAc_len aAc_one aAc_pure aAc_res Nd aNd aNd_pure aNd_res)

/-- Where nothing clashes nothing is found. -/
theorem find_none {xss : List (List Int)} {l : List Ac} {r : Fd} (hr : FindR xss l r) (hc : chk xss = 0) (hb : ¬ badS xss l) (h : ∀ i k, i < k → k < l.length → clash xss l i k = false) : r.ok = false ∧ r.e = 0 := by
  have := hr.uniq (s := ⟨0, 0, 0, false, 0⟩) (.inr (.inr ⟨hc, hb, none, fun k hk i hi => h i k hi hk, rfl⟩))
  rw [this]
  exact ⟨rfl, rfl⟩
/-! ### One behind the other -/
def rowI (i : Nat) : List Int := if i = 0 then [] else [(i : Int) - 1]
def rowL (n : Nat) : List (List Int) := (List.range n).map rowI
def rowA (i : Nat) : AV := if i = 0 then .sl 0 [] .nil else .sl 1 [.v (.int .i64 ((i : Int) - 1))] .full
def rowC (n : Nat) : List AV := (List.range n).map rowA
theorem rowL_len (n : Nat) : (rowL n).length = n := by simp [rowL]
theorem rowC_len (n : Nat) : (rowC n).length = n := by simp [rowC]
theorem rowC_succ (n : Nat) : rowC (n + 1) = rowC n ++ [rowA n] := by simp [rowC, List.range_succ]
theorem rowC_res (σ : Kx.St) (n : Nat) : AV.resL σ (rowC n) = (rowL n).map aInts := by
  rw [resL_map]
  unfold rowC rowL
  rw [List.map_map, List.map_map]
  refine List.map_congr_left fun i _ => ?_
  show AV.res σ (rowA i) = aInts (rowI i)
  unfold rowA rowI
  by_cases h : i = 0
  · rw [if_pos h, if_pos h]; rfl
  · rw [if_neg h, if_neg h]; rfl
theorem rowL_at {n i : Nat} (h : i < n) : (rowL n)[i]? = some (rowI i) := by
  unfold rowL
  rw [List.getElem?_map, List.getElem?_range h]
  rfl
theorem row_ok {n : Nat} (h : n ≤ 1000) : chk (rowL n) = 0 := by
  unfold Rx.chk
  rw [rowL_len, if_neg (by omega)]
  have : ∀ (k i : Nat), okB i ((List.range' i k).map rowI) = true := by
    intro k
    induction k with
    | zero => intro i; rfl
    | succ k ih =>
      intro i
      rw [List.range'_succ, List.map_cons]
      show (okPs i (rowI i) && okB (i + 1) _) = true
      rw [ih (i + 1), Bool.and_true]
      unfold rowI
      by_cases h : i = 0
      · rw [if_pos h]; rfl
      · rw [if_neg h]
        simp [okPs]
        omega
  have h2 := this n 0
  rw [← List.range_eq_range'] at h2
  rw [show rowL n = (List.range n).map rowI from rfl, h2]
  rfl
theorem row_anc {n : Nat} : ∀ (y x : Nat), x < y → y < n → Anc (rowL n) x y := by
  intro y
  induction y with
  | zero => intro x h; omega
  | succ y ih =>
    intro x hx hy
    have hr : (rowL n)[y + 1]? = some [((y + 1 : Nat) : Int) - 1] := by rw [rowL_at hy]; unfold rowI; rw [if_neg (by omega)]
    by_cases e : x = y
    · subst e
      exact .dir hr (by simp)
    · exact .via (p := y) hr (by simp) (ih x (by omega) (by omega))
theorem row_apart {n : Nat} (hn : n ≤ 1000) {a b : Int} (a0 : 0 ≤ a) (a1 : a < n) (b0 : 0 ≤ b) (b1 : b < n) : aparR (some (mkM (rowL n))) a b = false := by
  obtain ⟨hk, hok⟩ := chk_zero (row_ok hn)
  have bf : ∀ (x y : Int), 0 ≤ x → x < y → y < n → befR (some (mkM (rowL n))) x y = true := fun x y h0 h1 h2 => by
    have := befR_mark hok x.toNat (by rw [rowL_len]; omega) y
    rw [show ((x.toNat : Nat) : Int) = x by omega] at this
    rw [this]
    have h3 := aheadE_bit hok (b := y.toNat) (by rw [rowL_len]; omega) x.toNat
    rw [show ((y.toNat : Nat) : Int) = y by omega] at h3
    exact h3.2 (row_anc y.toNat x.toNat (by omega) (by omega))
  unfold aparR
  by_cases e : a = b
  · simp [e]
  · by_cases h : a < b
    · rw [bf a b a0 h b1]; simp
    · rw [bf b a b0 (by omega) a1]; simp
/-! ### The accesses -/
def sN (n : Nat) (x : Int) : Int := IntKind.u64.wrap x % (n : Int)
theorem u64_nn (x : Int) : 0 ≤ IntKind.u64.wrap x := by
  unfold IntKind.wrap
  simp only [IntKind.signed, Bool.false_and]
  exact Int.emod_nonneg _ (by decide)
theorem u64_id {x : Int} (h0 : 0 ≤ x) (h1 : x < 18446744073709551616) : IntKind.u64.wrap x = x := by
  unfold IntKind.wrap
  simp only [IntKind.signed, Bool.false_and]
  exact Int.emod_eq_of_lt h0 h1
theorem sN_in {n : Nat} (h : 0 < n) (x : Int) : 0 ≤ sN n x ∧ sN n x < n := ⟨Int.emod_nonneg _ (by omega), Int.emod_lt_of_pos _ (by omega)⟩
def allA (n : Nat) (a : Ac) : Ac := ⟨sN n a.st, a.wd, a.wr⟩
def rdA (n : Nat) (a : Ac) : Ac := ⟨sN n a.st, a.wd, false⟩
def owA (n : Nat) (a : Ac) : Ac := ⟨sN n a.st, sN n a.st, true⟩
theorem good {n : Nat} (hn : 0 < n) {xss : List (List Int)} (hx : xss.length = n) (l : List Ac) (f : Ac → Ac) (hf : ∀ a, (f a).st = sN n a.st) : ¬ badS xss (l.map f) := by
  rintro ⟨a, ha, hb⟩
  obtain ⟨b, _, rfl⟩ := List.mem_map.1 ha
  rw [hf, hx] at hb
  have := sN_in hn b.st
  omega
theorem fill2 (a b : Int) : fillA [AV.v (.int .i64 0), AV.v (.int .i64 0), AV.v (.bool false)] [(0, 1), (1, 1)] [.v (.int .i64 a), .v (.int .i64 b)] = some (aAc ⟨a, b, false⟩) := rfl
theorem fill3 (a b : Int) (c : Bool) : fillA [AV.v (.int .i64 0), AV.v (.int .i64 0), AV.v (.bool false)] [(0, 1), (1, 1), (2, 1)] [.v (.int .i64 a), .v (.int .i64 b), .v (.bool c)] = some (aAc ⟨a, b, c⟩) := rfl
theorem acc_cells (c : Ac) : (AV.agg (aAc c)).cells = aAc c := rfl
theorem flat_snoc (l : List Ac) (c : Ac) : l.flatMap aAc ++ aAc c = (l ++ [c]).flatMap aAc := by simp
theorem weak_acs (σ : Kx.St) (n : Nat) (l : List Ac) (t u : Tok) {m : Nat} (hm : m = l.length) : weak σ [true, true] [.sl n (rowC n) t, .sl m (l.flatMap aAc) u] = [aInts2 (rowL n), aAcs l] := by
  subst hm
  have e1 := rowC_res σ n
  have e2 := aSlN_res (aAc_res σ) l u
  show [AV.sl n (AV.resL σ (rowC n)) .none, AV.res σ (.sl l.length (l.flatMap aAc) u)] = _
  rw [e1, e2]
  show [AV.sl n _ .none, _] = [AV.sl (rowL n).length _ .none, _]
  rw [rowL_len]
  rfl
theorem weak_acs2 (σ : Kx.St) (xss : List (List Int)) (l : List Ac) (u : Tok) {m : Nat} (hm : m = l.length) : weak σ [false, true] [aInts2 xss, .sl m (l.flatMap aAc) u] = [aInts2 xss, aAcs l] := by
  subst hm
  have e2 := aSlN_res (aAc_res σ) l u
  show [aInts2 xss, AV.res σ (.sl l.length (l.flatMap aAc) u)] = _
  rw [e2]
  rfl
theorem map_at {l : List Ac} {f : Ac → Ac} {i : Nat} (h : i < (l.map f).length) : ∃ x, (l.map f)[i]? = some (f x) := by
  obtain ⟨x, hx⟩ := at_lt (l := l) (k := i) (by simpa using h)
  exact ⟨x, by rw [List.getElem?_map, hx]; rfl⟩
theorem none_all {n : Nat} (hn : 0 < n) (h : n ≤ 1000) (l : List Ac) (i k : Nat) (hi : i < k) (hk : k < (l.map (allA n)).length) : clash (rowL n) (l.map (allA n)) i k = false := by
  obtain ⟨x, hx⟩ := map_at (f := allA n) (l := l) (i := i) (by omega)
  obtain ⟨y, hy⟩ := map_at (f := allA n) (l := l) (i := k) hk
  have ha := row_apart h (sN_in hn x.st).1 (sN_in hn x.st).2 (sN_in hn y.st).1 (sN_in hn y.st).2
  unfold clash
  rw [(wdAt_at hx).2.2, (wdAt_at hy).2.2]
  show (_ && _ && aparR (some (mkM (rowL n))) (sN n x.st) (sN n y.st)) = false
  rw [ha]
  simp
theorem none_rd {n : Nat} (xss : List (List Int)) (l : List Ac) (i k : Nat) (hi : i < k) (hk : k < (l.map (rdA n)).length) : clash xss (l.map (rdA n)) i k = false := by
  obtain ⟨x, hx⟩ := map_at (f := rdA n) (l := l) (i := i) (by omega)
  obtain ⟨y, hy⟩ := map_at (f := rdA n) (l := l) (i := k) hk
  unfold clash
  rw [(wdAt_at hx).2.1, (wdAt_at hy).2.1]
  simp [rdA]
theorem none_ow {n : Nat} (xss : List (List Int)) (l : List Ac) (i k : Nat) (hi : i < k) (hk : k < (l.map (owA n)).length) : clash xss (l.map (owA n)) i k = false := by
  obtain ⟨x, hx⟩ := map_at (f := owA n) (l := l) (i := i) (by omega)
  obtain ⟨y, hy⟩ := map_at (f := owA n) (l := l) (i := k) hk
  unfold clash
  rw [(wdAt_at hx).1, (wdAt_at hy).1, (wdAt_at hx).2.2, (wdAt_at hy).2.2]
  by_cases e : sN n x.st = sN n y.st
  · unfold aparR owA; simp [e]
  · have : (owA n x).wd ≠ (owA n y).wd := e
    simp [this]
set_option maxHeartbeats 16000000 in
theorem RaceNone_a (xss : List (List Int)) (l : List Ac) (hs : xss.length ≤ 9223372036854775807) (hl : l.length ≤ 9223372036854775807) :
    FnP Try.prog 7 [aInts2 xss, aAcs l] fun a => a = aBool true := by
  refine fnP_in K_forebaylaw32_RaceNone mixed rfl (by simp [AV.pureL, aInts2_pure, aAcs_pure]) ?_
  simp only [S_forebaylaw32_RaceNone]
  have hX : aInts2 xss = .sl xss.length (xss.map aInts) .none := rfl
  have hA : aAcs l = .sl l.length (l.flatMap aAc) .none := rfl
  refine wpa_seqx (fun ε σ => (ε 0 = aInts2 xss ∧ ε 1 = aAcs l) ∧ σ = []) ?_ ?_
  · intro N X R hN
    simp (maxSteps:=999999) -implicitDefEqProofs (disch:=omega) only [push_cast,↓reduceIte,Nat.reduceEqDiff,reduceCtorEq,wz]
    exact hN _ _ (by simp (maxSteps:=999999) -implicitDefEqProofs (disch:=omega) only [push_cast,↓reduceIte,Nat.reduceEqDiff,reduceCtorEq,wz])
  rintro ε σ ⟨hρ, rfl⟩
  refine wpa_seq (fun ε σ => (ε 0 = aInts2 xss ∧ ε 1 = aAcs l) ∧ σ = []) ?_ ?_
  · intro N hN
    simp (maxSteps:=999999) -implicitDefEqProofs (disch:=omega) only [push_cast,↓reduceIte,Nat.reduceEqDiff,reduceCtorEq,wz]
    refine wpa_call law32_Works_a ?_
    rintro a rfl
    simp (maxSteps:=999999) -implicitDefEqProofs (disch:=omega) only [push_cast,↓reduceIte,Nat.reduceEqDiff,reduceCtorEq,wz,aBool]
    exact hN _ _ (by simp (maxSteps:=999999) -implicitDefEqProofs (disch:=omega) only [push_cast,↓reduceIte,Nat.reduceEqDiff,reduceCtorEq,wz,hρ])
  clear hρ ε
  rintro ε σ ⟨hρ, rfl⟩
  refine wpa_seq (fun ε σ => (ε 0 = aInts2 xss ∧ ε 1 = aAcs l) ∧ σ = [] ∧ l.length ≤ 150 ∧ xss.length ≤ 200 ∧ (∀ x ∈ xss, x.length ≤ 60) ∧ chk xss = 0 ∧ 0 < xss.length) ?_ ?_
  · intro N hN
    simp (maxSteps:=999999) -implicitDefEqProofs (disch:=omega) only [push_cast,↓reduceIte,Nat.reduceEqDiff,reduceCtorEq,wz,hρ]
    refine wpa_call (law32_great_a xss l hs hl) ?_
    rintro a ⟨b, rfl, hb⟩
    cases b with
    | true =>
      simp (maxSteps:=999999) -implicitDefEqProofs (disch:=omega) only [push_cast,↓reduceIte,Nat.reduceEqDiff,reduceCtorEq,wz,aBool]
      first | exact ⟨[], rfl, rfl⟩ | exact ⟨[], rfl⟩
    | false =>
      obtain ⟨b1, b2, b3⟩ := hb rfl
      have hCk := ref31_Check_a xss (by omega) fun x hx => by have := b3 x hx; omega
      simp (maxSteps:=999999) -implicitDefEqProofs (disch:=omega) only [push_cast,↓reduceIte,Nat.reduceEqDiff,reduceCtorEq,wz,hρ,aBool]
      refine wpa_call hCk ?_
      rintro a rfl
      by_cases hc : chk xss = 0
      · by_cases h0 : xss.length = 0
        · simp (maxSteps:=999999) -implicitDefEqProofs (disch:=omega) only [push_cast,↓reduceIte,Nat.reduceEqDiff,reduceCtorEq,wz,hρ,aInt,hc,hX,h0]
          first | exact ⟨[], rfl, rfl⟩ | exact ⟨[], rfl⟩
        · simp (maxSteps:=999999) -implicitDefEqProofs (disch:=omega) only [push_cast,↓reduceIte,Nat.reduceEqDiff,reduceCtorEq,wz,hρ,aInt,hc,hX,h0]
          exact hN _ _ ⟨by simp (maxSteps:=999999) -implicitDefEqProofs (disch:=omega) only [push_cast,↓reduceIte,Nat.reduceEqDiff,reduceCtorEq,wz,hρ,hX], rfl, b1, b2, b3, hc, by omega⟩
      · simp (maxSteps:=999999) -implicitDefEqProofs (disch:=omega) only [push_cast,↓reduceIte,Nat.reduceEqDiff,reduceCtorEq,wz,hρ,aInt,hc]
        first | exact ⟨[], rfl, rfl⟩ | exact ⟨[], rfl⟩
  clear hρ ε hs hl
  rintro ε σ ⟨hρ, rfl, hl, hs, hs2, hc, hn0⟩
  have hs2' : ∀ x ∈ xss, x.length ≤ 1000000 := fun x hx => by have := hs2 x hx; omega
  refine wpa_seqx (fun ε σ => (ε 0 = aInts2 xss ∧ ε 1 = aAcs l ∧ ε 5 = .sl 0 [] .nil) ∧ σ = []) ?_ ?_
  · intro N X R hN
    simp (maxSteps:=999999) -implicitDefEqProofs (disch:=omega) only [push_cast,↓reduceIte,Nat.reduceEqDiff,reduceCtorEq,wz]
    exact hN _ _ ⟨by simp (maxSteps:=999999) -implicitDefEqProofs (disch:=omega) only [push_cast,↓reduceIte,Nat.reduceEqDiff,reduceCtorEq,wz,hρ], rfl⟩
  clear hρ ε
  rintro ε σ ⟨hρ, rfl⟩
  refine wpa_seqx (fun ε σ => (ε 0 = aInts2 xss ∧ ε 1 = aAcs l ∧ ε 5 = .sl 0 [] .nil ∧ ε 6 = .sl 0 [] .nil ∧ ε 7 = .sl 0 [] .nil ∧ ε 8 = .sl 0 [] .nil) ∧ σ = []) ?_ ?_
  · intro N X R hN
    simp (maxSteps:=999999) -implicitDefEqProofs (disch:=omega) only [push_cast,↓reduceIte,Nat.reduceEqDiff,reduceCtorEq,wz]
    exact hN _ _ ⟨by simp (maxSteps:=999999) -implicitDefEqProofs (disch:=omega) only [push_cast,↓reduceIte,Nat.reduceEqDiff,reduceCtorEq,wz,hρ], rfl⟩
  clear hρ ε
  rintro ε σ ⟨hρ, rfl⟩
  refine wpa_seqx (fun ε σ => ∃ w, (ε 0 = aInts2 xss ∧ ε 1 = aAcs l ∧ ε 5 = .sl xss.length (rowC xss.length) (.id 0 w 1) ∧ ε 6 = .sl 0 [] .nil ∧ ε 7 = .sl 0 [] .nil ∧ ε 8 = .sl 0 [] .nil) ∧ σ = [.tail w]) ?_ ?_
  · intro N X R hN
    simp (maxSteps:=999999) -implicitDefEqProofs (disch:=omega) only [push_cast,↓reduceIte,Nat.reduceEqDiff,reduceCtorEq,wz,hρ]
    refine wpa_blgx (GU.tok 5 1 (by simp (maxSteps:=999999) -implicitDefEqProofs (disch:=omega) only [push_cast,↓reduceIte,Nat.reduceEqDiff,reduceCtorEq,wz,hρ])) (α := Nat) (I := fun k ε σ => ∃ w, (ε 0 = aInts2 xss ∧ ε 1 = aAcs l ∧ ε 5 = .sl k (rowC k) (.id 0 w 1) ∧ ε 6 = .sl 0 [] .nil ∧ ε 7 = .sl 0 [] .nil ∧ ε 8 = .sl 0 [] .nil ∧ ε 9 = .v (.int .i64 k)) ∧ k ≤ xss.length ∧ σ = [.tail w])
      (μ := fun k => xss.length - k) (Q := fun ε σ => ∃ w, (ε 0 = aInts2 xss ∧ ε 1 = aAcs l ∧ ε 5 = .sl xss.length (rowC xss.length) (.id 0 w 1) ∧ ε 6 = .sl 0 [] .nil ∧ ε 7 = .sl 0 [] .nil ∧ ε 8 = .sl 0 [] .nil) ∧ σ = [.tail w]) (x := 0) ?_ ?_ ?_
    · refine ⟨0, ?_⟩
      simp (maxSteps:=999999) -implicitDefEqProofs (disch:=omega) only [push_cast,↓reduceIte,Nat.reduceEqDiff,reduceCtorEq,wz,hρ]
      first | omega | exact ⟨⟨rfl, rfl⟩, by omega, rfl⟩ | exact ⟨rfl, by omega⟩
    · clear hρ ε
      rintro k ε σ N E X' R' ⟨w, hρ, hk, rfl⟩ hN hE
      simp only [S_forebaylaw32_RaceNone_L1]
      by_cases hlt : k < xss.length
      · have hck := rowC_len k
        by_cases hk0 : k = 0
        · have hra : rowA k = .sl 0 [] .nil := if_pos hk0
          have hkc : (k : Int) = 0 := by omega
          simp (maxSteps:=999999) -implicitDefEqProofs (disch:=omega) only [push_cast,↓reduceIte,Nat.reduceEqDiff,reduceCtorEq,wz,hρ,hX,hkc]
          refine wpa_bsl (sz := 1) (by intro a ha; simp at ha; subst ha; rfl) (by simp) ?_
          simp (maxSteps:=999999) -implicitDefEqProofs (disch:=omega) only [push_cast,↓reduceIte,Nat.reduceEqDiff,reduceCtorEq,wz,hρ,AV.cells]
          refine wpa_app (m := 1) rfl rfl rfl rfl (by rw [hck]; omega) (by omega) (by omega) rfl ?_
          simp (maxSteps:=999999) -implicitDefEqProofs (disch:=omega) only [push_cast,↓reduceIte,Nat.reduceEqDiff,reduceCtorEq,wz,hρ]
          refine hN (k + 1) _ _ ⟨w + 1, ?_⟩ (by omega)
          rw [rowC_succ, hra]
          simp (maxSteps:=999999) -implicitDefEqProofs (disch:=omega) only [push_cast,↓reduceIte,Nat.reduceEqDiff,reduceCtorEq,wz,hρ,hX]
          first | exact (show k + 1 ≤ xss.length by omega) | exact ⟨by omega, rfl⟩ | exact ⟨rfl, by omega, rfl⟩
        · have hra : rowA k = .sl 1 [.v (.int .i64 ((k : Int) - 1))] .full := if_neg hk0
          simp (maxSteps:=999999) -implicitDefEqProofs (disch:=omega) only [push_cast,↓reduceIte,Nat.reduceEqDiff,reduceCtorEq,wz,hρ,hX,hk0]
          refine wpa_bsl (sz := 1) (by intro a ha; simp at ha; subst ha; rfl) (by simp) ?_
          simp (maxSteps:=999999) -implicitDefEqProofs (disch:=omega) only [push_cast,↓reduceIte,Nat.reduceEqDiff,reduceCtorEq,wz,hρ,AV.cells]
          refine wpa_bsl (sz := 1) (by intro a ha; simp at ha; subst ha; rfl) (by simp) ?_
          simp (maxSteps:=999999) -implicitDefEqProofs (disch:=omega) only [push_cast,↓reduceIte,Nat.reduceEqDiff,reduceCtorEq,wz,hρ,AV.cells]
          refine wpa_app (m := 1) rfl rfl rfl rfl (by rw [hck]; omega) (by omega) (by omega) rfl ?_
          simp (maxSteps:=999999) -implicitDefEqProofs (disch:=omega) only [push_cast,↓reduceIte,Nat.reduceEqDiff,reduceCtorEq,wz,hρ]
          refine hN (k + 1) _ _ ⟨w + 1, ?_⟩ (by omega)
          rw [rowC_succ, hra]
          simp (maxSteps:=999999) -implicitDefEqProofs (disch:=omega) only [push_cast,↓reduceIte,Nat.reduceEqDiff,reduceCtorEq,wz,hρ,hX]
          first | exact (show k + 1 ≤ xss.length by omega) | exact ⟨rfl, by omega⟩ | exact ⟨by omega, rfl⟩ | exact ⟨rfl, by omega, rfl⟩
      · have e : k = xss.length := by omega
        subst e
        simp (maxSteps:=999999) -implicitDefEqProofs (disch:=omega) only [push_cast,↓reduceIte,Nat.reduceEqDiff,reduceCtorEq,wz,hρ,hX]
        exact hE _ _ ⟨w, by simp (maxSteps:=999999) -implicitDefEqProofs (disch:=omega) only [push_cast,↓reduceIte,Nat.reduceEqDiff,reduceCtorEq,wz,hρ,hX], rfl⟩
    · rintro ε σ h
      exact hN _ _ h
  clear hρ ε
  rintro ε σ ⟨w5, hρ, rfl⟩
  have hun : IntKind.u64.wrap (xss.length : Int) = xss.length := u64_id (by omega) (by omega)
  have TS : ∀ a b c : Nat, ([.tail w5, .tail a, .tail b, .tail c] : Kx.St)[1]? = some (.tail a) := fun _ _ _ => rfl
  refine wpa_seqx (fun ε σ => ∃ a b c, (ε 0 = aInts2 xss ∧ ε 5 = .sl xss.length (rowC xss.length) (.id 0 w5 1) ∧ ε 6 = .sl l.length ((l.map (allA xss.length)).flatMap aAc) (.id 1 a 3) ∧ ε 7 = .sl l.length ((l.map (rdA xss.length)).flatMap aAc) (.id 2 b 3) ∧ ε 8 = .sl l.length ((l.map (owA xss.length)).flatMap aAc) (.id 3 c 3)) ∧ σ = [.tail w5, .tail a, .tail b, .tail c]) ?_ ?_
  · intro N X R hN
    simp (maxSteps:=999999) -implicitDefEqProofs (disch:=omega) only [push_cast,↓reduceIte,Nat.reduceEqDiff,reduceCtorEq,wz,hρ]
    refine wpa_blgx (GU.trans (GU.trans (GU.tok 6 3 (by simp (maxSteps:=999999) -implicitDefEqProofs (disch:=omega) only [push_cast,↓reduceIte,Nat.reduceEqDiff,reduceCtorEq,wz,hρ])) (GU.tok 7 3 (by simp (maxSteps:=999999) -implicitDefEqProofs (disch:=omega) only [push_cast,↓reduceIte,Nat.reduceEqDiff,reduceCtorEq,wz,hρ]))) (GU.tok 8 3 (by simp (maxSteps:=999999) -implicitDefEqProofs (disch:=omega) only [push_cast,↓reduceIte,Nat.reduceEqDiff,reduceCtorEq,wz,hρ]))) (α := Nat)
      (I := fun k ε σ => ∃ a b c, (ε 0 = aInts2 xss ∧ ε 1 = aAcs l ∧ ε 5 = .sl xss.length (rowC xss.length) (.id 0 w5 1) ∧ ε 6 = .sl k (((l.take k).map (allA xss.length)).flatMap aAc) (.id 1 a 3) ∧ ε 7 = .sl k (((l.take k).map (rdA xss.length)).flatMap aAc) (.id 2 b 3) ∧ ε 8 = .sl k (((l.take k).map (owA xss.length)).flatMap aAc) (.id 3 c 3) ∧ ε 10 = .v (.int .i64 k)) ∧ k ≤ l.length ∧ σ = [.tail w5, .tail a, .tail b, .tail c])
      (μ := fun k => l.length - k) (Q := fun ε σ => ∃ a b c, (ε 0 = aInts2 xss ∧ ε 5 = .sl xss.length (rowC xss.length) (.id 0 w5 1) ∧ ε 6 = .sl l.length ((l.map (allA xss.length)).flatMap aAc) (.id 1 a 3) ∧ ε 7 = .sl l.length ((l.map (rdA xss.length)).flatMap aAc) (.id 2 b 3) ∧ ε 8 = .sl l.length ((l.map (owA xss.length)).flatMap aAc) (.id 3 c 3)) ∧ σ = [.tail w5, .tail a, .tail b, .tail c]) (x := 0) ?_ ?_ ?_
    · refine ⟨0, 0, 0, ?_⟩
      simp (maxSteps:=999999) -implicitDefEqProofs (disch:=omega) only [push_cast,↓reduceIte,Nat.reduceEqDiff,reduceCtorEq,wz,hρ]
      exact ⟨⟨rfl, rfl, rfl⟩, by omega⟩
    · clear hρ ε
      rintro k ε σ N E X' R' ⟨a, b, c, hρ, hk, rfl⟩ hN hE
      simp only [S_forebaylaw32_RaceNone_L2]
      by_cases hlt : k < l.length
      · obtain ⟨x, hx⟩ := at_lt hlt
        have hd := flat_drop aAc_len hx
        have g0 : ∀ t : List AV, (aAc x ++ t)[0]? = some (.v (.int .i64 x.st)) := fun _ => rfl
        have g1 : ∀ t : List AV, (aAc x ++ t)[1]? = some (.v (.int .i64 x.wd)) := fun _ => rfl
        have g2 : ∀ t : List AV, (aAc x ++ t)[2]? = some (.v (.bool x.wr)) := fun _ => rfl
        have hnn := u64_nn x.st
        have hsn := sN_in hn0 x.st
        have hsd : IntKind.i64.wrap (IntKind.u64.wrap x.st % (xss.length : Int)) = sN xss.length x.st := by
          show IntKind.i64.wrap (sN xss.length x.st) = _
          exact w64_id hsn.1 (by omega)
        have l6 : (((l.take k).map (allA xss.length)).flatMap aAc).length = k * 3 := by rw [flat_len aAc_len]; simp; omega
        have l7 : (((l.take k).map (rdA xss.length)).flatMap aAc).length = k * 3 := by rw [flat_len aAc_len]; simp; omega
        have l8 : (((l.take k).map (owA xss.length)).flatMap aAc).length = k * 3 := by rw [flat_len aAc_len]; simp; omega
        have e6 : ((l.take (k + 1)).map (allA xss.length)).flatMap aAc = ((l.take k).map (allA xss.length)).flatMap aAc ++ aAc ⟨sN xss.length x.st, x.wd, x.wr⟩ := by rw [take_succ_at hx, List.map_append, List.flatMap_append]; rfl
        have e7 : ((l.take (k + 1)).map (rdA xss.length)).flatMap aAc = ((l.take k).map (rdA xss.length)).flatMap aAc ++ aAc ⟨sN xss.length x.st, x.wd, false⟩ := by rw [take_succ_at hx, List.map_append, List.flatMap_append]; rfl
        have e8 : ((l.take (k + 1)).map (owA xss.length)).flatMap aAc = ((l.take k).map (owA xss.length)).flatMap aAc ++ aAc ⟨sN xss.length x.st, sN xss.length x.st, true⟩ := by rw [take_succ_at hx, List.map_append, List.flatMap_append]; rfl
        simp (maxSteps:=999999) -implicitDefEqProofs (disch:=omega) only [push_cast,↓reduceIte,Nat.reduceEqDiff,reduceCtorEq,wz,hρ,hX,hA,hd,g0,g1,g2,hun,hsd,fill2,fill3]
        refine wpa_bsl (sz := 3) (by intro a ha; simp at ha; subst ha; rfl) (by simp) ?_
        simp (maxSteps:=999999) -implicitDefEqProofs (disch:=omega) only [push_cast,↓reduceIte,Nat.reduceEqDiff,reduceCtorEq,wz,hρ,acc_cells,List.append_nil]
        refine wpa_app (m := 1) rfl rfl rfl rfl l6 (by omega) (by omega) rfl ?_
        simp (maxSteps:=999999) -implicitDefEqProofs (disch:=omega) only [push_cast,↓reduceIte,Nat.reduceEqDiff,reduceCtorEq,wz,hρ,hA,hd,g1,fill2]
        refine wpa_bsl (sz := 3) (by intro a ha; simp at ha; subst ha; rfl) (by simp) ?_
        simp (maxSteps:=999999) -implicitDefEqProofs (disch:=omega) only [push_cast,↓reduceIte,Nat.reduceEqDiff,reduceCtorEq,wz,hρ,acc_cells,List.append_nil]
        refine wpa_app (m := 1) rfl rfl rfl rfl l7 (by omega) (by omega) rfl ?_
        simp (maxSteps:=999999) -implicitDefEqProofs (disch:=omega) only [push_cast,↓reduceIte,Nat.reduceEqDiff,reduceCtorEq,wz,hρ,fill3]
        refine wpa_bsl (sz := 3) (by intro a ha; simp at ha; subst ha; rfl) (by simp) ?_
        simp (maxSteps:=999999) -implicitDefEqProofs (disch:=omega) only [push_cast,↓reduceIte,Nat.reduceEqDiff,reduceCtorEq,wz,hρ,acc_cells,List.append_nil]
        refine wpa_app (m := 1) rfl rfl rfl rfl l8 (by omega) (by omega) rfl ?_
        simp (maxSteps:=999999) -implicitDefEqProofs (disch:=omega) only [push_cast,↓reduceIte,Nat.reduceEqDiff,reduceCtorEq,wz,hρ]
        refine hN (k + 1) _ _ ⟨a + 1, b + 1, c + 1, ?_⟩ (by omega)
        rw [e6, e7, e8]
        simp (maxSteps:=999999) -implicitDefEqProofs (disch:=omega) only [push_cast,↓reduceIte,Nat.reduceEqDiff,reduceCtorEq,wz,hρ,hA]
        first | exact (show k + 1 ≤ l.length by omega) | exact ⟨by omega, rfl⟩ | exact ⟨rfl, by omega, rfl⟩
      · have e : k = l.length := by omega
        subst e
        simp (maxSteps:=999999) -implicitDefEqProofs (disch:=omega) only [push_cast,↓reduceIte,Nat.reduceEqDiff,reduceCtorEq,wz,hρ,hX,hA]
        refine hE _ _ ⟨a, b, c, ?_, rfl⟩
        rw [List.take_length] at hρ
        simp (maxSteps:=999999) -implicitDefEqProofs (disch:=omega) only [push_cast,↓reduceIte,Nat.reduceEqDiff,reduceCtorEq,wz,hρ,hX,hA]
    · rintro ε σ h
      exact hN _ _ h
  clear hρ ε
  rintro ε σ ⟨a, b, c, hρ, rfl⟩
  have hrl : ∀ x ∈ rowL xss.length, x.length ≤ 1000000 := fun x hx => by
    unfold rowL at hx
    obtain ⟨i, _, rfl⟩ := List.mem_map.1 hx
    unfold rowI
    split <;> simp
  have hrn := rowL_len xss.length
  have m1 : (l.map (allA xss.length)).length = l.length := by simp
  have m2 : (l.map (rdA xss.length)).length = l.length := by simp
  have m3 : (l.map (owA xss.length)).length = l.length := by simp
  have D1 := law32_dag_a (rowL xss.length) (l.map (allA xss.length)) (by omega) hrl (by omega)
  have F1 := race_Find_a (rowL xss.length) (.sl 0 [] .none) (l.map (allA xss.length)) rfl (by omega) hrl (by omega)
  have D2 := law32_dag_a xss (l.map (rdA xss.length)) (by omega) hs2' (by omega)
  have F2 := race_Find_a xss (.sl 0 [] .none) (l.map (rdA xss.length)) rfl (by omega) hs2' (by omega)
  have D3 := law32_dag_a xss (l.map (owA xss.length)) (by omega) hs2' (by omega)
  have F3 := race_Find_a xss (.sl 0 [] .none) (l.map (owA xss.length)) rfl (by omega) hs2' (by omega)
  have N1 := fun r (h : FindR (rowL xss.length) (l.map (allA xss.length)) r) => find_none h (row_ok (by omega)) (good hn0 hrn l _ fun _ => rfl) (none_all hn0 (by omega) l)
  have N2 := fun r (h : FindR xss (l.map (rdA xss.length)) r) => find_none h hc (good hn0 rfl l _ fun _ => rfl) (none_rd xss l)
  have N3 := fun r (h : FindR xss (l.map (owA xss.length)) r) => find_none h hc (good hn0 rfl l _ fun _ => rfl) (none_ow xss l)
  have W1 := weak_acs [.tail w5, .tail a, .tail b, .tail c] xss.length (l.map (allA xss.length)) (.id 0 w5 1) (.id 1 a 3) m1.symm
  refine wpa_seqx (fun ε σ => (ε 0 = aInts2 xss ∧ ε 7 = .sl l.length ((l.map (rdA xss.length)).flatMap aAc) (.id 2 b 3) ∧ ε 8 = .sl l.length ((l.map (owA xss.length)).flatMap aAc) (.id 3 c 3) ∧ ε 13 = .v (.bool false) ∧ ε 14 = .v (.int .i64 0))) ?_ ?_
  · intro N X R hN
    simp (maxSteps:=999999) -implicitDefEqProofs (disch:=omega) only [push_cast,↓reduceIte,Nat.reduceEqDiff,reduceCtorEq,wz,hρ]
    refine wpa_callw [] [true, true] D1 (by rw [fzn]; exact W1) ?_
    rintro a rfl
    rw [fzn]
    simp (maxSteps:=999999) -implicitDefEqProofs (disch:=omega) only [push_cast,↓reduceIte,Nat.reduceEqDiff,reduceCtorEq,wz]
    refine wpa_call F1 ?_
    rintro a ⟨r, rfl, hr⟩
    obtain ⟨o1, o2⟩ := N1 r hr
    simp (maxSteps:=999999) -implicitDefEqProofs (disch:=omega) only [push_cast,↓reduceIte,Nat.reduceEqDiff,reduceCtorEq,wz,aFd,o1,o2]
    refine wpa_new ?_
    simp (maxSteps:=999999) -implicitDefEqProofs (disch:=omega) only [push_cast,↓reduceIte,Nat.reduceEqDiff,reduceCtorEq,wz]
    refine wpa_stn (n := 3) (cs := [AV.v (.int .i64 0), AV.v (.int .i64 0), AV.v (.int .i64 0)]) rfl rfl rfl (by decide) ?_
    simp (maxSteps:=999999) -implicitDefEqProofs (disch:=omega) only [push_cast,↓reduceIte,Nat.reduceEqDiff,reduceCtorEq,wz]
    exact hN _ _ (by simp (maxSteps:=999999) -implicitDefEqProofs (disch:=omega) only [push_cast,↓reduceIte,Nat.reduceEqDiff,reduceCtorEq,wz,hρ])
  clear hρ ε D1 F1 N1 W1
  rintro ε σ hρ
  refine wpa_seqx (fun ε σ => (ε 0 = aInts2 xss ∧ ε 8 = .sl l.length ((l.map (owA xss.length)).flatMap aAc) (.id 3 c 3) ∧ ε 13 = .v (.bool false) ∧ ε 14 = .v (.int .i64 0) ∧ ε 16 = .v (.bool false) ∧ ε 17 = .v (.int .i64 0))) ?_ ?_
  · intro N X R hN
    simp (maxSteps:=999999) -implicitDefEqProofs (disch:=omega) only [push_cast,↓reduceIte,Nat.reduceEqDiff,reduceCtorEq,wz,hρ]
    refine wpa_callw [] [false, true] D2 (by rw [fzn]; exact weak_acs2 σ xss (l.map (rdA xss.length)) _ m2.symm) ?_
    rintro a rfl
    rw [fzn]
    simp (maxSteps:=999999) -implicitDefEqProofs (disch:=omega) only [push_cast,↓reduceIte,Nat.reduceEqDiff,reduceCtorEq,wz]
    refine wpa_call F2 ?_
    rintro a ⟨r, rfl, hr⟩
    obtain ⟨o1, o2⟩ := N2 r hr
    simp (maxSteps:=999999) -implicitDefEqProofs (disch:=omega) only [push_cast,↓reduceIte,Nat.reduceEqDiff,reduceCtorEq,wz,aFd,o1,o2]
    refine wpa_new ?_
    simp (maxSteps:=999999) -implicitDefEqProofs (disch:=omega) only [push_cast,↓reduceIte,Nat.reduceEqDiff,reduceCtorEq,wz]
    refine wpa_stn (n := 3) (cs := [AV.v (.int .i64 0), AV.v (.int .i64 0), AV.v (.int .i64 0)]) rfl rfl (at_snoc _ _) (by decide) ?_
    simp (maxSteps:=999999) -implicitDefEqProofs (disch:=omega) only [push_cast,↓reduceIte,Nat.reduceEqDiff,reduceCtorEq,wz]
    exact hN _ _ (by simp (maxSteps:=999999) -implicitDefEqProofs (disch:=omega) only [push_cast,↓reduceIte,Nat.reduceEqDiff,reduceCtorEq,wz,hρ])
  clear hρ ε D2 F2 N2
  rintro ε σ hρ
  refine wpa_seqx (fun ε σ => (ε 13 = .v (.bool false) ∧ ε 14 = .v (.int .i64 0) ∧ ε 16 = .v (.bool false) ∧ ε 17 = .v (.int .i64 0) ∧ ε 19 = .v (.bool false) ∧ ε 20 = .v (.int .i64 0))) ?_ ?_
  · intro N X R hN
    simp (maxSteps:=999999) -implicitDefEqProofs (disch:=omega) only [push_cast,↓reduceIte,Nat.reduceEqDiff,reduceCtorEq,wz,hρ]
    refine wpa_callw [] [false, true] D3 (by rw [fzn]; exact weak_acs2 σ xss (l.map (owA xss.length)) _ m3.symm) ?_
    rintro a rfl
    rw [fzn]
    simp (maxSteps:=999999) -implicitDefEqProofs (disch:=omega) only [push_cast,↓reduceIte,Nat.reduceEqDiff,reduceCtorEq,wz]
    refine wpa_call F3 ?_
    rintro a ⟨r, rfl, hr⟩
    obtain ⟨o1, o2⟩ := N3 r hr
    simp (maxSteps:=999999) -implicitDefEqProofs (disch:=omega) only [push_cast,↓reduceIte,Nat.reduceEqDiff,reduceCtorEq,wz,aFd,o1,o2]
    refine wpa_new ?_
    simp (maxSteps:=999999) -implicitDefEqProofs (disch:=omega) only [push_cast,↓reduceIte,Nat.reduceEqDiff,reduceCtorEq,wz]
    refine wpa_stn (n := 3) (cs := [AV.v (.int .i64 0), AV.v (.int .i64 0), AV.v (.int .i64 0)]) rfl rfl (at_snoc _ _) (by decide) ?_
    simp (maxSteps:=999999) -implicitDefEqProofs (disch:=omega) only [push_cast,↓reduceIte,Nat.reduceEqDiff,reduceCtorEq,wz]
    exact hN _ _ (by simp (maxSteps:=999999) -implicitDefEqProofs (disch:=omega) only [push_cast,↓reduceIte,Nat.reduceEqDiff,reduceCtorEq,wz,hρ])
  clear hρ ε D3 F3 N3
  rintro ε σ hρ
  simp (maxSteps:=999999) -implicitDefEqProofs (disch:=omega) only [push_cast,↓reduceIte,Nat.reduceEqDiff,reduceCtorEq,wz,hρ]
  first | exact ⟨[], rfl, rfl⟩ | exact ⟨[], rfl⟩
end Go.Proofs.Ytncdnegdlkmicaa.Rc
