/- Contracts: reach.New. -/
import Derived.Test.YtilofhocodbknaaRa
namespace Go.Proofs.Ytilofhocodbknaa
set_option linter.unusedVariables false
set_option linter.unusedSimpArgs false
open Go Go.Kx Go.Proofs

inductive Anc (xss : List (List Int)) : Nat → Nat → Prop
  | dir {i j : Nat} {l : List Int} : xss[i]? = some l → (j : Int) ∈ l → Anc xss j i
  | via {i p j : Nat} {l : List Int} : xss[i]? = some l → (p : Int) ∈ l → Anc xss j p → Anc xss j i

theorem Anc.lt {xss : List (List Int)} (hok : okP xss) {i j : Nat} (h : Anc xss j i) : j < i := by
  induction h with
  | dir h1 h2 => have := hok _ _ h1 _ h2; omega
  | via h1 h2 _ ih => have := hok _ _ h1 _ h2; omega

def bitW (ws : List Nat) (j : Nat) : Bool := (ws.getD (j / 64) 0).testBit (j % 64)
theorem bitM_eq (M : List (List Nat)) (j i : Nat) : bitM M j i = bitW (M.getD i []) j := rfl
theorem bitW_zero (n j : Nat) : bitW (List.replicate n 0) j = false := by
  unfold bitW
  by_cases h : j / 64 < n
  · simp [List.getD_eq_getElem?_getD, h]
  · rw [List.getD_eq_getElem?_getD, List.getElem?_eq_none (by simpa using h)]; simp
theorem bitW_set (ws : List Nat) (q x j : Nat) (hq : q < ws.length) : bitW (ws.set q (orN ws[q] x)) j = (bitW ws j || (decide (j / 64 = q) && x.testBit (j % 64))) := by
  unfold bitW
  simp only [List.getD_eq_getElem?_getD, List.getElem?_set]
  by_cases h : q = j / 64
  · subst h; simp [hq, orN]
  · have : ¬ j / 64 = q := fun e => h e.symm
    simp [h, this]
theorem pow2_bit (s k : Nat) : (pow2 s).testBit k = decide (s = k) := by
  unfold pow2
  rw [Nat.testBit_two_pow]

def NewOk (xss : List (List Int)) (M : List (List Nat)) (k : Nat) : Prop := M.length = k ∧ wfM M ∧ ∀ i, i < k → ∀ j, bitM M j i = true ↔ Anc xss j i

theorem orN_lt {m n : Nat} (h1 : m < 18446744073709551616) (h2 : n < 18446744073709551616) : orN m n < 18446744073709551616 := Nat.or_lt_two_pow (n := 64) h1 h2
theorem pow2_lt {s : Nat} (h : s < 64) : pow2 s < 18446744073709551616 := by
  unfold pow2
  have : (2 : Nat) ^ s < 2 ^ 64 := Nat.pow_lt_pow_right (by omega) h
  simpa using this

theorem NewOk.step {xss : List (List Int)} {M : List (List Nat)} {k : Nat} {l ws} (h : NewOk xss M k) (hl : xss[k]? = some l) (hok : okP xss) (hlen : ws.length = k / 64 + 1)
    (hb : ∀ j, bitW ws j = true ↔ ∃ p : Nat, (p : Int) ∈ l ∧ (j = p ∨ bitM M j p = true)) : NewOk xss (M ++ [ws]) (k + 1) := by
  obtain ⟨h1, h2, h3⟩ := h
  refine ⟨by simp [h1], ?_, ?_⟩
  · intro i us hi
    by_cases hik : i < M.length
    · rw [List.getElem?_append_left hik] at hi; exact h2 i us hi
    · rw [List.getElem?_append_right (by omega)] at hi
      have : i - M.length = 0 := by have := (List.getElem?_eq_some_iff.1 hi).1; simp at this; omega
      rw [this] at hi
      simp at hi
      subst hi
      rw [hlen]; have : i = k := by omega
      rw [this]
  · intro i hi j
    rw [bitM_eq]
    by_cases hik : i < k
    · have : (M ++ [ws]).getD i [] = M.getD i [] := by
        simp only [List.getD_eq_getElem?_getD]
        rw [List.getElem?_append_left (by omega)]
      rw [this, ← bitM_eq]
      exact h3 i hik j
    · have : i = k := by omega
      subst this
      have : (M ++ [ws]).getD i [] = ws := by
        simp only [List.getD_eq_getElem?_getD]
        rw [List.getElem?_append_right (by omega)]
        simp [h1]
      rw [this, hb]
      constructor
      · rintro ⟨p, hp, rfl | hp2⟩
        · exact .dir hl hp
        · have := hok _ _ hl _ hp
          exact .via hl hp ((h3 p (by omega) j).1 hp2)
      · intro ha
        cases ha with
        | dir e1 e2 => rw [hl] at e1; cases e1; exact ⟨j, e2, .inl rfl⟩
        | @via _ p _ _ e1 e2 e3 =>
          rw [hl] at e1; cases e1
          have := hok _ _ hl _ e2
          exact ⟨p, e2, .inr ((h3 p (by omega) j).2 e3)⟩

def NewR (xss : List (List Int)) (h : Heap) (x : Value) (h' : Heap) : Prop :=
  (chk xss = 0 ∧ ∃ a M, x = .tuple #[.pointer (some a), .int .i64 0] ∧ NewOk xss M xss.length ∧ Sat [base h, fun g => ReachR g (.pointer (some a)) M] h') ∨
  (chk xss ≠ 0 ∧ x = .tuple #[.pointer none, .int .i64 (chk xss)] ∧ h' = h)

def tReach : TypeId := 147
def tSet : TypeId := 149
def tU64 : TypeId := 36
def u64s (ws : List Nat) : List Value := ws.map fun w : Nat => .int .u64 (w : Int)

theorem SetR_of {g : PH} {s : Value} {ws : List Nat} (H : osl s 1 (u64s ws) tU64 g) (hlt : ∀ w ∈ ws, w < 18446744073709551616) : SetR g s ws := by
  obtain ⟨n, hn, hr⟩ := osl_reads (by omega) H
  have : n = ws.length := by simp [u64s] at hn; omega
  subst this
  exact ⟨hr, hlt⟩

set_option maxHeartbeats 1000000 in
theorem reach_New_fn (xss : List (List Int)) (v : Value) (h : Heap) (hv : Ints2 (hp h) v xss) :
    FnC Try.prog 45 #[v] h (NewR xss h) := by
  have hle := hv.le
  have hlen := hv.len
  refine fn_in K_reach_New mixed (args := [v]) rfl ?_
  simp only [S_reach_New]
  simp (maxSteps := 1000000) (implicitDefEqProofs := false) (disch := omega) only [push_cast, ↓reduceIte, Nat.reduceEqDiff, reduceCtorEq, decide_true, decide_false, Bool.not_true, Bool.not_false, Option.isNone_some, Option.isNone_none]
  refine wp_call (reach_check_fn xss v h hv) ?_
  rintro x h' ⟨rfl, hx⟩
  obtain rfl := chkR_chk hx
  by_cases hc : chk xss = 0
  · obtain ⟨hl1000, hok⟩ := chk_zero.1 hc
    simp (maxSteps := 1000000) (implicitDefEqProofs := false) (disch := omega) only [push_cast, ↓reduceIte, Nat.reduceEqDiff, reduceCtorEq, decide_true, decide_false, Bool.not_true, Bool.not_false, Option.isNone_some, Option.isNone_none, hlen]
    refine wp_box (Sat.start h') ?_
    intro b h1 H1
    simp (maxSteps := 1000000) (implicitDefEqProofs := false) (disch := omega) only [push_cast, ↓reduceIte, Nat.reduceEqDiff, reduceCtorEq, decide_true, decide_false, Bool.not_true, Bool.not_false, Option.isNone_some, Option.isNone_none, hlen]
    refine wp_bl (α := Nat) (I := fun k ρ h2 => k ≤ xss.length ∧ ρ 20 = v ∧ ρ 21 = .int .i64 xss.length ∧ ρ 22 = .int .i64 k ∧ ρ 5 = .pointer (some ⟨b, 0, none⟩) ∧
      ∃ M cs rl, NewOk xss M k ∧ cs.length = k ∧ Sat [base h', blk b [rl] tReach, osl rl 1 cs tSet, allR SetR cs M] h2) (μ := fun k => xss.length - k)
      (Q := fun ρ h2 => ρ 5 = .pointer (some ⟨b, 0, none⟩) ∧ ∃ M, NewOk xss M xss.length ∧ Sat [base h', fun g => ReachR g (.pointer (some ⟨b, 0, none⟩)) M] h2) (x := 0) ?_ ?_ ?_
    · simp (maxSteps := 1000000) (implicitDefEqProofs := false) (disch := omega) only [push_cast, ↓reduceIte, Nat.reduceEqDiff, reduceCtorEq, decide_true, decide_false, Bool.not_true, Bool.not_false, Option.isNone_some, Option.isNone_none, hlen]
      refine ⟨by omega, trivial, trivial, trivial, trivial, [], [], .slice none 0 0, ⟨rfl, by intro i ws hi; simp at hi, by intro i hi; omega⟩, rfl, ?_⟩
      have H2 : Sat [base h', blk b [.slice none 0 0] tReach] h1 := H1
      have H3 : Sat [base h', blk b [.slice none 0 0] tReach, osl (.slice none 0 0) 1 [] tSet, allR SetR [] []] h1 := by
        obtain ⟨w, hw⟩ := H2
        refine ⟨w, fun i C hC => ?_⟩
        match i, hC with
        | 0, hC => exact hw 0 C hC
        | 1, hC => exact hw 1 C hC
        | 2, hC => simp at hC; subst hC; exact .inl ⟨rfl, rfl⟩
        | 3, hC => simp at hC; subst hC; intro i u x hu; simp at hu
        | n + 4, hC => simp at hC
      exact H3
    · rintro k ρ h2 N E ⟨hk, e20, e21, e22, e5, M, cs, rl, hM, hcs, H⟩ hN hE
      simp only [S_reach_New_L1]
      by_cases hlt : k < xss.length
      · obtain ⟨u, p, hu, e1, e2⟩ := hv.at hlt
        replace e2 := ldV_up (H.base 0 rfl) e2
        have hul := hu.1.len
        have hul2 := hu.1.le
        simp (maxSteps := 1000000) (implicitDefEqProofs := false) (disch := omega) only [push_cast, ↓reduceIte, Nat.reduceEqDiff, reduceCtorEq, decide_true, decide_false, Bool.not_true, Bool.not_false, Option.isNone_some, Option.isNone_none, e20, e21, e22, e5, e1, e2, hul]
        have hkq : ((k : Int) / 64 + 1) = ((k / 64 + 1 : Nat) : Int) := by omega
        rw [hkq]
        refine wp_mks H rfl (by omega) (by omega) ?_
        intro s h3 H3
        simp (maxSteps := 1000000) (implicitDefEqProofs := false) (disch := omega) only [push_cast, ↓reduceIte, Nat.reduceEqDiff, reduceCtorEq, decide_true, decide_false, Bool.not_true, Bool.not_false, Option.isNone_some, Option.isNone_none, e20, e21, e22, e5, hul]
        have hl := List.getElem?_eq_getElem hlt
        have hs0 : rep [Value.int IntKind.u64 0] (k / 64 + 1) = u64s (List.replicate (k / 64 + 1) 0) := by rw [rep_one]; simp [u64s]
        rw [hs0] at H3
        have H4 : Sat [base h', blk b [rl] tReach, osl rl 1 cs tSet, allR SetR cs M, osl s 1 (u64s (List.replicate (k / 64 + 1) 0)) tU64] h3 := H3
        refine wp_bl (α := Nat) (I := fun t ρ h4 => t ≤ xss[k].length ∧ ρ 20 = v ∧ ρ 21 = .int .i64 xss.length ∧ ρ 22 = .int .i64 k ∧ ρ 5 = .pointer (some ⟨b, 0, none⟩) ∧ ρ 8 = s ∧ ρ 31 = u ∧ ρ 32 = .int .i64 xss[k].length ∧ ρ 33 = .int .i64 t ∧
          ∃ ws, ws.length = k / 64 + 1 ∧ (∀ w ∈ ws, w < 18446744073709551616) ∧ (∀ j, bitW ws j = true ↔ ∃ p : Nat, (p : Int) ∈ xss[k].take t ∧ (j = p ∨ bitM M j p = true)) ∧
          Sat [base h', blk b [rl] tReach, osl rl 1 cs tSet, allR SetR cs M, osl s 1 (u64s ws) tU64] h4) (μ := fun t => xss[k].length - t)
          (Q := fun ρ h4 => ρ 20 = v ∧ ρ 21 = .int .i64 xss.length ∧ ρ 22 = .int .i64 k ∧ ρ 5 = .pointer (some ⟨b, 0, none⟩) ∧ ρ 8 = s ∧
          ∃ ws, ws.length = k / 64 + 1 ∧ (∀ w ∈ ws, w < 18446744073709551616) ∧ (∀ j, bitW ws j = true ↔ ∃ p : Nat, (p : Int) ∈ xss[k] ∧ (j = p ∨ bitM M j p = true)) ∧
          Sat [base h', blk b [rl] tReach, osl rl 1 cs tSet, allR SetR cs M, osl s 1 (u64s ws) tU64] h4) (x := 0) ?_ ?_ ?_
        · simp (maxSteps := 1000000) (implicitDefEqProofs := false) (disch := omega) only [push_cast, ↓reduceIte, Nat.reduceEqDiff, reduceCtorEq, decide_true, decide_false, Bool.not_true, Bool.not_false, Option.isNone_some, Option.isNone_none, e20, e21, e22, e5]
          refine ⟨by omega, trivial, trivial, trivial, trivial, trivial, trivial, trivial, trivial, _, by simp, by simp, ?_, H4⟩
          intro j
          rw [bitW_zero]
          simp
        · rintro t ρ h4 N' E' ⟨ht, e20, e21, e22, e5, e8, e31, e32, e33, ws, hwl, hwlt, hwb, H⟩ hN' hE'
          simp only [S_reach_New_L2]
          by_cases htl : t < xss[k].length
          · obtain ⟨hpin, p2, e3, e4⟩ := (hu.up (H.base 0 rfl)).at htl
            have hpk := hok k _ hl _ (List.getElem_mem htl)
            obtain ⟨pn, hpn⟩ : ∃ pn : Nat, xss[k][t] = (pn : Int) := ⟨xss[k][t].toNat, by omega⟩
            rw [hpn] at e4 hpk
            have hpk' : pn < k := by omega
            obtain ⟨p3, e5', e6, hst⟩ := osl_at1 H 4 rfl (k := pn / 64) (by simp [u64s]; omega)
            have hwq : pn / 64 < ws.length := by omega
            have hcell : (u64s ws)[pn / 64]'(by simp [u64s]; omega) = .int .u64 (ws[pn / 64] : Nat) := by simp [u64s]
            rw [hcell] at e6
            push_cast at e5'
            have hw64 : ws[pn / 64] < 18446744073709551616 := hwlt _ (List.getElem_mem hwq)
            have hp64 : pow2 (pn % 64) < 18446744073709551616 := pow2_lt (Nat.mod_lt _ (by omega))
            simp (maxSteps := 1000000) (implicitDefEqProofs := false) (disch := omega) only [push_cast, ↓reduceIte, Nat.reduceEqDiff, reduceCtorEq, decide_true, decide_false, Bool.not_true, Bool.not_false, Option.isNone_some, Option.isNone_none, e31, e32, e33, e3, e4, e8, e5', e6, mod64]
            refine hst _ _ _ (by rfl) (by rfl) ?_
            intro h5 H5
            have H6 : Sat [base h', blk b [rl] tReach, osl rl 1 cs tSet, allR SetR cs M, osl s 1 (u64s (ws.set (pn / 64) (orN ws[pn / 64] (pow2 (pn % 64))))) tU64] h5 := by
              have e : u64s (ws.set (pn / 64) (orN ws[pn / 64] (pow2 (pn % 64)))) = (u64s ws).set (pn / 64) (.int .u64 (orN ws[pn / 64] (pow2 (pn % 64)) : Nat)) := by simp [u64s, List.map_set]
              rw [e]; exact H5
            have hc1 := H6.cell 1 rfl 0
            have hpM : pn < M.length := by rw [hM.1]; exact hpk'
            have hpc : pn < cs.length := by omega
            obtain ⟨p4, e7, e8', _⟩ := osl_at1 H6 2 rfl (k := pn) hpc
            have hup0 : SetR (hp h5) cs[pn] M[pn] := (H6.get 3 rfl (allR_up (fun _ _ _ _ hle H => H.up hle) _ _) : allR SetR cs M (hp h5)) pn _ _ (List.getElem?_eq_getElem hpc) (List.getElem?_eq_getElem hpM)
            have hupl := hup0.1.len
            have hupe := hup0.1.le
            have hul' := hM.2.1 pn M[pn] (List.getElem?_eq_getElem hpM)
            simp (maxSteps := 1000000) (implicitDefEqProofs := false) (disch := omega) only [push_cast, ↓reduceIte, Nat.reduceEqDiff, reduceCtorEq, decide_true, decide_false, Bool.not_true, Bool.not_false, Option.isNone_some, Option.isNone_none, e31, e32, e33, e5, Nat.add_zero, hc1, List.getElem?_cons_zero, e7, e8', hupl]
            obtain ⟨ws1, hws1⟩ : ∃ ws1, ws1 = ws.set (pn / 64) (orN ws[pn / 64] (pow2 (pn % 64))) := ⟨_, rfl⟩
            have hwl1 : ws1.length = k / 64 + 1 := by rw [hws1, List.length_set, hwl]
            have hwlt1 : ∀ w ∈ ws1, w < 18446744073709551616 := by
              intro w hw
              rw [hws1] at hw
              rcases List.mem_or_eq_of_mem_set hw with hw | hw
              · exact hwlt w hw
              · rw [hw]; exact orN_lt hw64 hp64
            have hwb1 : ∀ j, bitW ws1 j = (bitW ws j || decide (j = pn)) := by
              intro j
              rw [hws1, bitW_set _ _ _ _ hwq, pow2_bit]
              congr 1
              rw [Bool.eq_iff_iff]
              simp only [Bool.and_eq_true, decide_eq_true_eq]
              omega
            have hMp : ∀ j, bitM M j pn = bitW M[pn] j := by
              intro j; rw [bitM_eq]; simp [List.getD_eq_getElem?_getD, hpM]
            rw [← hws1] at H6
            refine wp_bl (α := Nat) (I := fun q ρ h6 => q ≤ M[pn].length ∧ ρ 20 = v ∧ ρ 21 = .int .i64 xss.length ∧ ρ 22 = .int .i64 k ∧ ρ 5 = .pointer (some ⟨b, 0, none⟩) ∧ ρ 8 = s ∧ ρ 31 = u ∧ ρ 32 = .int .i64 xss[k].length ∧ ρ 33 = .int .i64 t ∧ ρ 53 = cs[pn] ∧ ρ 54 = .int .i64 M[pn].length ∧ ρ 55 = .int .i64 q ∧
              ∃ ws', ws'.length = k / 64 + 1 ∧ (∀ w ∈ ws', w < 18446744073709551616) ∧ (∀ j, bitW ws' j = (bitW ws1 j || (decide (j / 64 < q) && bitM M j pn))) ∧
              Sat [base h', blk b [rl] tReach, osl rl 1 cs tSet, allR SetR cs M, osl s 1 (u64s ws') tU64] h6) (μ := fun q => M[pn].length - q)
              (Q := fun ρ h6 => ρ 20 = v ∧ ρ 21 = .int .i64 xss.length ∧ ρ 22 = .int .i64 k ∧ ρ 5 = .pointer (some ⟨b, 0, none⟩) ∧ ρ 8 = s ∧ ρ 31 = u ∧ ρ 32 = .int .i64 xss[k].length ∧ ρ 33 = .int .i64 t ∧
              ∃ ws', ws'.length = k / 64 + 1 ∧ (∀ w ∈ ws', w < 18446744073709551616) ∧ (∀ j, bitW ws' j = (bitW ws1 j || bitM M j pn)) ∧
              Sat [base h', blk b [rl] tReach, osl rl 1 cs tSet, allR SetR cs M, osl s 1 (u64s ws') tU64] h6) (x := 0) ?_ ?_ ?_
            · simp (maxSteps := 1000000) (implicitDefEqProofs := false) (disch := omega) only [push_cast, ↓reduceIte, Nat.reduceEqDiff, reduceCtorEq, decide_true, decide_false, Bool.not_true, Bool.not_false, Option.isNone_some, Option.isNone_none, e20, e21, e22, e5, e8, e31, e32, e33]
              exact ⟨by omega, trivial, trivial, trivial, trivial, trivial, trivial, trivial, trivial, trivial, trivial, trivial, ws1, hwl1, hwlt1, by simp, H6⟩
            · rintro q ρ h6 N3 E3 ⟨hq, e20, e21, e22, e5, e8, e31, e32, e33, e53, e54, e55, ws', hwl', hwlt', hwb', H⟩ hN3 hE3
              simp only [S_reach_New_L3]
              by_cases hql : q < M[pn].length
              · have hup1 : SetR (hp h6) cs[pn] M[pn] := (H.get 3 rfl (allR_up (fun _ _ _ _ hle H => H.up hle) _ _) : allR SetR cs M (hp h6)) pn _ _ (List.getElem?_eq_getElem hpc) (List.getElem?_eq_getElem hpM)
                obtain ⟨hx64, p5, f1, f2⟩ := hup1.at hql
                have hqk : q < ws'.length := by omega
                obtain ⟨p6, f3, f4, hst2⟩ := osl_at1 H 4 rfl (k := q) (by simp [u64s]; omega)
                have hcell : (u64s ws')[q]'(by simp [u64s]; omega) = .int .u64 (ws'[q] : Nat) := by simp [u64s]
                rw [hcell] at f4
                have hy64 : ws'[q] < 18446744073709551616 := hwlt' _ (List.getElem_mem hqk)
                simp (maxSteps := 1000000) (implicitDefEqProofs := false) (disch := omega) only [push_cast, ↓reduceIte, Nat.reduceEqDiff, reduceCtorEq, decide_true, decide_false, Bool.not_true, Bool.not_false, Option.isNone_some, Option.isNone_none, e53, e54, e55, e8, f1, f2, f3, f4]
                refine hst2 _ _ _ (by rfl) (by rfl) ?_
                intro h7 H7
                simp (maxSteps := 1000000) (implicitDefEqProofs := false) (disch := omega) only [push_cast, ↓reduceIte, Nat.reduceEqDiff, reduceCtorEq, decide_true, decide_false, Bool.not_true, Bool.not_false, Option.isNone_some, Option.isNone_none, e53, e54, e55]
                refine hN3 (q + 1) _ _ ?_ (by omega)
                simp (maxSteps := 1000000) (implicitDefEqProofs := false) (disch := omega) only [push_cast, ↓reduceIte, Nat.reduceEqDiff, reduceCtorEq, decide_true, decide_false, Bool.not_true, Bool.not_false, Option.isNone_some, Option.isNone_none, e20, e21, e22, e5, e8, e31, e32, e33, e53, e54, e55]
                refine ⟨by omega, trivial, trivial, trivial, trivial, trivial, trivial, trivial, trivial, trivial, trivial, trivial, ws'.set q (orN ws'[q] M[pn][q]), by simp [hwl'], ?_, ?_, ?_⟩
                · intro w hw
                  rcases List.mem_or_eq_of_mem_set hw with hw | hw
                  · exact hwlt' w hw
                  · rw [hw]; exact orN_lt hy64 hx64
                · intro j
                  rw [bitW_set _ _ _ _ hqk, hwb', hMp]
                  by_cases hjq : j / 64 = q
                  · have : bitW M[pn] j = M[pn][q].testBit (j % 64) := by
                      unfold bitW; rw [hjq]; simp [List.getD_eq_getElem?_getD, hql]
                    simp [hjq, this]
                  · have : (j / 64 < q + 1) ↔ j / 64 < q := by omega
                    simp [hjq, this]
                · have e : u64s (ws'.set q (orN ws'[q] M[pn][q])) = (u64s ws').set q (.int .u64 (orN ws'[q] M[pn][q] : Nat)) := by simp [u64s, List.map_set]
                  rw [e]; exact H7
              · simp (maxSteps := 1000000) (implicitDefEqProofs := false) (disch := omega) only [push_cast, ↓reduceIte, Nat.reduceEqDiff, reduceCtorEq, decide_true, decide_false, Bool.not_true, Bool.not_false, Option.isNone_some, Option.isNone_none, e53, e54, e55]
                refine hE3 _ _ ⟨e20, e21, e22, e5, e8, e31, e32, e33, ws', hwl', hwlt', ?_, H⟩
                intro j
                rw [hwb']
                by_cases hj : j / 64 < q
                · simp [hj]
                · have : bitM M j pn = false := by
                    rw [hMp]; unfold bitW
                    rw [List.getD_eq_getElem?_getD, List.getElem?_eq_none (by omega)]; simp
                  simp [hj, this]
            · rintro ρ h6 ⟨e20, e21, e22, e5, e8, e31, e32, e33, ws', hwl', hwlt', hwb', H⟩
              simp (maxSteps := 1000000) (implicitDefEqProofs := false) (disch := omega) only [push_cast, ↓reduceIte, Nat.reduceEqDiff, reduceCtorEq, decide_true, decide_false, Bool.not_true, Bool.not_false, Option.isNone_some, Option.isNone_none, e33]
              refine hN' (t + 1) _ _ ?_ (by omega)
              simp (maxSteps := 1000000) (implicitDefEqProofs := false) (disch := omega) only [push_cast, ↓reduceIte, Nat.reduceEqDiff, reduceCtorEq, decide_true, decide_false, Bool.not_true, Bool.not_false, Option.isNone_some, Option.isNone_none, e20, e21, e22, e5, e8, e31, e32, e33]
              refine ⟨by omega, trivial, trivial, trivial, trivial, trivial, trivial, trivial, trivial, ws', hwl', hwlt', ?_, H⟩
              intro j
              rw [hwb', hwb1, List.take_succ_eq_append_getElem htl]
              simp only [Bool.or_eq_true, decide_eq_true_eq, List.mem_append, List.mem_singleton]
              rw [hwb]
              constructor
              · rintro ((⟨p, hp, hp2⟩ | rfl) | h1)
                · exact ⟨p, .inl hp, hp2⟩
                · exact ⟨j, .inr hpn.symm, .inl rfl⟩
                · exact ⟨pn, .inr hpn.symm, .inr h1⟩
              · rintro ⟨p, hp | hp, hp2⟩
                · exact .inl (.inl ⟨p, hp, hp2⟩)
                · rw [hpn] at hp
                  have : p = pn := by omega
                  subst this
                  rcases hp2 with rfl | hp2
                  · exact .inl (.inr rfl)
                  · exact .inr hp2
          · simp (maxSteps := 1000000) (implicitDefEqProofs := false) (disch := omega) only [push_cast, ↓reduceIte, Nat.reduceEqDiff, reduceCtorEq, decide_true, decide_false, Bool.not_true, Bool.not_false, Option.isNone_some, Option.isNone_none, e31, e32, e33]
            refine hE' _ _ ?_
            simp (maxSteps := 1000000) (implicitDefEqProofs := false) (disch := omega) only [push_cast, ↓reduceIte, Nat.reduceEqDiff, reduceCtorEq, decide_true, decide_false, Bool.not_true, Bool.not_false, Option.isNone_some, Option.isNone_none, e20, e21, e22, e5, e8]
            refine ⟨trivial, trivial, trivial, trivial, trivial, ws, hwl, hwlt, ?_, H⟩
            rwa [List.take_of_length_le (by omega)] at hwb
        · rintro ρ h4 ⟨e20, e21, e22, e5, e8, ws, hwl, hwlt, hwb, H⟩
          have hc1 := H.cell 1 rfl 0
          have hs1 := H.one 4 rfl
          simp (maxSteps := 1000000) (implicitDefEqProofs := false) (disch := omega) only [push_cast, ↓reduceIte, Nat.reduceEqDiff, reduceCtorEq, decide_true, decide_false, Bool.not_true, Bool.not_false, Option.isNone_some, Option.isNone_none, e20, e21, e22, e5, e8, Nat.add_zero, hc1, List.getElem?_cons_zero]
          refine wp_bsl H (by simp [hs1.1]) (by simp) ?_
          intro one h5 H5
          simp (maxSteps := 1000000) (implicitDefEqProofs := false) (disch := omega) only [push_cast, ↓reduceIte, Nat.reduceEqDiff, reduceCtorEq, decide_true, decide_false, Bool.not_true, Bool.not_false, Option.isNone_some, Option.isNone_none, e20, e21, e22, e5, e8]
          have H6 : Sat [base h', blk b [rl] tReach, osl rl 1 cs tSet, allR SetR cs M, osl s 1 (u64s ws) tU64, osl one 1 [s] tSet] h5 := by
            have : ([s].flatMap fun x => x.cells.toList) = [s] := by simp [hs1.1]
            rw [this] at H5
            exact H5
          obtain ⟨n1, hn1, hone⟩ := H6.osl 5 (by omega) rfl
          refine wp_app H6 2 (by omega) rfl rfl hone.src hn1 ?_ ?_ ?_ ?_
          · intro u hu; simp at hu; subst hu; exact hs1.2
          · simp; omega
          · simp; omega
          · intro rl' h6 H7
            have H8 : Sat [base h', blk b [rl] tReach, osl rl' 1 (cs ++ [s]) tSet, allR SetR cs M, osl s 1 (u64s ws) tU64, osl one 1 [s] tSet] h6 := H7
            simp (maxSteps := 1000000) (implicitDefEqProofs := false) (disch := omega) only [push_cast, ↓reduceIte, Nat.reduceEqDiff, reduceCtorEq, decide_true, decide_false, Bool.not_true, Bool.not_false, Option.isNone_some, Option.isNone_none, e20, e21, e22, e5, e8, Nat.add_zero]
            have hr1 := H8.one 2 rfl
            refine wp_st1 H8 1 rfl (by simp) hr1.2 hr1.1 ?_
            intro h7 H9
            simp (maxSteps := 1000000) (implicitDefEqProofs := false) (disch := omega) only [push_cast, ↓reduceIte, Nat.reduceEqDiff, reduceCtorEq, decide_true, decide_false, Bool.not_true, Bool.not_false, Option.isNone_some, Option.isNone_none, e20, e21, e22, e5, e8]
            have H10 : Sat [base h', blk b [rl'] tReach, osl rl' 1 (cs ++ [s]) tSet, allR SetR cs M, osl s 1 (u64s ws) tU64] h7 := (H9 : Sat ([base h', blk b [rl'] tReach, osl rl' 1 (cs ++ [s]) tSet, allR SetR cs M, osl s 1 (u64s ws) tU64] ++ [osl one 1 [s] tSet]) h7).left
            have H11 : Sat [base h', blk b [rl'] tReach, osl rl' 1 (cs ++ [s]) tSet, allR SetR (cs ++ [s]) (M ++ [ws])] h7 := by
              have A := H10.pick [3, 4, 0, 1, 2] rfl rfl
              have A2 : Sat (allR SetR cs M :: osl s 1 (u64s ws) tU64 :: [base h', blk b [rl'] tReach, osl rl' 1 (cs ++ [s]) tSet]) h7 := A
              have A3 := A2.merge1 (E := allR SetR (cs ++ [s]) (M ++ [ws])) (allR_up (fun _ _ _ _ hle H => H.up hle) _ _) (osl_up _ _ _ _) (by
                intro g h1 h2 i u x hu hx
                by_cases hi : i < cs.length
                · rw [List.getElem?_append_left hi] at hu
                  rw [List.getElem?_append_left (by rw [hM.1]; omega)] at hx
                  exact h1 i u x hu hx
                · have hi2 : i = cs.length := by
                    have := (List.getElem?_eq_some_iff.1 hu).1
                    simp at this; omega
                  subst hi2
                  rw [List.getElem?_append_right (by omega)] at hu
                  rw [List.getElem?_append_right (by rw [hM.1]; omega)] at hx
                  simp [hM.1, hcs] at hu hx
                  subst hu; subst hx
                  exact SetR_of h2 hwlt)
              exact A3.pick [1, 2, 3, 0] rfl rfl
            refine hN (k + 1) _ _ ?_ (by omega)
            simp (maxSteps := 1000000) (implicitDefEqProofs := false) (disch := omega) only [push_cast, ↓reduceIte, Nat.reduceEqDiff, reduceCtorEq, decide_true, decide_false, Bool.not_true, Bool.not_false, Option.isNone_some, Option.isNone_none, e20, e21, e22, e5]
            exact ⟨by omega, trivial, trivial, trivial, trivial, M ++ [ws], cs ++ [s], rl', hM.step hl hok hwl hwb, by simp [hcs], H11⟩
      · simp (maxSteps := 1000000) (implicitDefEqProofs := false) (disch := omega) only [push_cast, ↓reduceIte, Nat.reduceEqDiff, reduceCtorEq, decide_true, decide_false, Bool.not_true, Bool.not_false, Option.isNone_some, Option.isNone_none, e20, e21, e22]
        refine hE _ _ ⟨?_, M, ?_, ?_⟩
        · simp (maxSteps := 1000000) (implicitDefEqProofs := false) (disch := omega) only [push_cast, ↓reduceIte, Nat.reduceEqDiff, reduceCtorEq, decide_true, decide_false, Bool.not_true, Bool.not_false, Option.isNone_some, Option.isNone_none, e5]
        · have : k = xss.length := by omega
          subst this; exact hM
        · have A : Sat [blk b [rl] tReach, osl rl 1 cs tSet, allR SetR cs M, base h'] h2 := H.pick [1, 2, 3, 0] rfl rfl
          have A1 := (A.front 1 rfl : Sat [osl rl 1 cs tSet, blk b [rl] tReach, allR SetR cs M, base h'] h2).pick [0, 2, 1, 3] rfl rfl
          have A2 : Sat (osl rl 1 cs tSet :: allR SetR cs M :: [blk b [rl] tReach, base h']) h2 := A1
          have A3 := A2.merge1 (E := fun g => RSs SetR g rl M) (osl_up _ _ _ _) (allR_up (fun _ _ _ _ hle H => H.up hle) _ _) (fun g h1 h2 => osl_RSs h1 h2 (by rw [hcs, hM.1]))
          have A4 := A3.merge1 (E := fun g => ReachR g (.pointer (some ⟨b, 0, none⟩)) M) (fun _ _ hle H => H.up hle fun _ _ H => H.up hle) (blk_up _ _ _) (fun g h1 h2 => .inr ⟨b, rl, rfl, by rw [cellG_blk h2]; rfl, h1⟩)
          exact A4.pick [1, 0] rfl rfl
    · rintro ρ h2 ⟨e5, M, hM, H⟩
      simp (maxSteps := 1000000) (implicitDefEqProofs := false) (disch := omega) only [push_cast, ↓reduceIte, Nat.reduceEqDiff, reduceCtorEq, decide_true, decide_false, Bool.not_true, Bool.not_false, Option.isNone_some, Option.isNone_none, e5]
      exact .inl ⟨hc, _, M, rfl, hM, H⟩
  · simp (maxSteps := 1000000) (implicitDefEqProofs := false) (disch := omega) only [push_cast, ↓reduceIte, Nat.reduceEqDiff, reduceCtorEq, decide_true, decide_false, Bool.not_true, Bool.not_false, Option.isNone_some, Option.isNone_none]
    exact .inr ⟨hc, rfl, rfl⟩
end Go.Proofs.Ytilofhocodbknaa
