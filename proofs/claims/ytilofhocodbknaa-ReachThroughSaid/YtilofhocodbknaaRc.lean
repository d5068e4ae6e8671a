/- Contracts: forebaylaw31's great, own; forebayref31's Check. -/
import Derived.Test.YtilofhocodbknaaRb
namespace Go.Proofs.Ytilofhocodbknaa
set_option linter.unusedVariables false
set_option linter.unusedSimpArgs false
open Go Go.Kx Go.Proofs

theorem rlaw_great_fn (xss : List (List Int)) (v : Value) (h : Heap) (hv : Ints2 (hp h) v xss) :
    FnC Try.prog 44 #[v] h fun r h' => h' = h ∧ ∃ g : Bool, r = .bool g ∧ (g = false → xss.length ≤ 1002 ∧ ∀ l ∈ xss, l.length ≤ 60) := by
  have hle := hv.le
  have hlen := hv.len
  refine fn_in K_forebaylaw31_great mixed (args := [v]) rfl ?_
  simp only [S_forebaylaw31_great]
  simp (maxSteps := 1000000) (implicitDefEqProofs := false) (disch := omega) only [push_cast, ↓reduceIte, Nat.reduceEqDiff, reduceCtorEq, decide_true, decide_false, Bool.not_true, Bool.not_false, Option.isNone_some, Option.isNone_none]
  refine wp_bl (α := Nat) (I := fun k ρ h' => h' = h ∧ k ≤ xss.length ∧ k ≤ 1002 ∧ ρ 0 = v ∧ ρ 3 = .int .i64 k ∧ ∀ (i : Nat) (l : List Int), i < k → xss[i]? = some l → l.length ≤ 60) (μ := fun k => xss.length - k)
    (Q := fun ρ h' => h' = h ∧ xss.length ≤ 1002 ∧ ∀ l ∈ xss, l.length ≤ 60) (x := 0) ?_ ?_ ?_
  · simp (maxSteps := 1000000) (implicitDefEqProofs := false) (disch := omega) only [push_cast, ↓reduceIte, Nat.reduceEqDiff, reduceCtorEq, decide_true, decide_false, Bool.not_true, Bool.not_false, Option.isNone_some, Option.isNone_none]
    exact ⟨trivial, by omega, by omega, trivial, trivial, fun i l hi => by omega⟩
  · rintro k ρ h' N E ⟨rfl, hk, hk2, e0, e3, hall⟩ hN hE
    simp only [S_forebaylaw31_great_L1]
    by_cases hlt : k < xss.length
    · obtain ⟨u, p, hu, e1, e2⟩ := hv.at hlt
      have hul := hu.1.len
      have hul2 := hu.1.le
      by_cases h1 : 1002 ≤ k
      · simp (maxSteps := 1000000) (implicitDefEqProofs := false) (disch := omega) only [push_cast, ↓reduceIte, Nat.reduceEqDiff, reduceCtorEq, decide_true, decide_false, Bool.not_true, Bool.not_false, Option.isNone_some, Option.isNone_none, e0, e3, hlen]
        exact ⟨trivial, true, rfl, by simp⟩
      · by_cases h2 : 60 < xss[k].length
        · simp (maxSteps := 1000000) (implicitDefEqProofs := false) (disch := omega) only [push_cast, ↓reduceIte, Nat.reduceEqDiff, reduceCtorEq, decide_true, decide_false, Bool.not_true, Bool.not_false, Option.isNone_some, Option.isNone_none, e0, e3, hlen, e1, e2, hul]
          exact ⟨trivial, true, rfl, by simp⟩
        · simp (maxSteps := 1000000) (implicitDefEqProofs := false) (disch := omega) only [push_cast, ↓reduceIte, Nat.reduceEqDiff, reduceCtorEq, decide_true, decide_false, Bool.not_true, Bool.not_false, Option.isNone_some, Option.isNone_none, e0, e3, hlen, e1, e2, hul]
          refine hN (k + 1) _ _ ?_ (by omega)
          simp (maxSteps := 1000000) (implicitDefEqProofs := false) (disch := omega) only [push_cast, ↓reduceIte, Nat.reduceEqDiff, reduceCtorEq, decide_true, decide_false, Bool.not_true, Bool.not_false, Option.isNone_some, Option.isNone_none, e0]
          refine ⟨trivial, by omega, by omega, trivial, trivial, ?_⟩
          intro i l hi hl
          by_cases hik : i = k
          · subst hik
            rw [List.getElem?_eq_getElem hlt] at hl
            cases hl
            omega
          · exact hall i l (by omega) hl
    · simp (maxSteps := 1000000) (implicitDefEqProofs := false) (disch := omega) only [push_cast, ↓reduceIte, Nat.reduceEqDiff, reduceCtorEq, decide_true, decide_false, Bool.not_true, Bool.not_false, Option.isNone_some, Option.isNone_none, e0, e3, hlen]
      refine hE _ _ ⟨rfl, by omega, ?_⟩
      intro l hl
      obtain ⟨i, hi, rfl⟩ := List.getElem_of_mem hl
      exact hall i _ (by omega) (List.getElem?_eq_getElem hi)
  · rintro ρ h' ⟨rfl, h1, h2⟩
    simp (maxSteps := 1000000) (implicitDefEqProofs := false) (disch := omega) only [push_cast, ↓reduceIte, Nat.reduceEqDiff, reduceCtorEq, decide_true, decide_false, Bool.not_true, Bool.not_false, Option.isNone_some, Option.isNone_none]
    exact ⟨trivial, false, rfl, fun _ => ⟨h1, h2⟩⟩

theorem ref31_Check_fn (xss : List (List Int)) (v : Value) (h : Heap) (hv : Ints2 (hp h) v xss) :
    FnC Try.prog 47 #[v] h fun r h' => h' = h ∧ r = .int .i64 (chk xss) := by
  suffices H : FnC Try.prog 47 #[v] h fun r h' => h' = h ∧ chkR xss r from H.mono fun r h' ⟨h1, h2⟩ => ⟨h1, chkR_chk h2⟩
  have hle := hv.le
  have hlen := hv.len
  refine fn_in K_forebayref31_Check mixed (args := [v]) rfl ?_
  simp only [S_forebayref31_Check]
  by_cases hbig : 1000 < xss.length
  · simp (maxSteps := 1000000) (implicitDefEqProofs := false) (disch := omega) only [push_cast, ↓reduceIte, Nat.reduceEqDiff, reduceCtorEq, decide_true, decide_false, Bool.not_true, Bool.not_false, Option.isNone_some, Option.isNone_none, hlen]
    exact ⟨trivial, .inl ⟨by omega, rfl⟩⟩
  · simp (maxSteps := 1000000) (implicitDefEqProofs := false) (disch := omega) only [push_cast, ↓reduceIte, Nat.reduceEqDiff, reduceCtorEq, decide_true, decide_false, Bool.not_true, Bool.not_false, Option.isNone_some, Option.isNone_none, hlen]
    refine wp_bl (α := Nat) (I := fun k ρ h' => h' = h ∧ k ≤ xss.length ∧ ρ 0 = v ∧ ρ 3 = .int .i64 k ∧
      ∀ (i : Nat) (l : List Int), i < k → xss[i]? = some l → ∀ p ∈ l, 0 ≤ p ∧ p < (i : Int)) (μ := fun k => xss.length - k) (Q := fun _ h' => h' = h ∧ okP xss) (x := 0) ?_ ?_ ?_
    · simp (maxSteps := 1000000) (implicitDefEqProofs := false) (disch := omega) only [push_cast, ↓reduceIte, Nat.reduceEqDiff, reduceCtorEq, decide_true, decide_false, Bool.not_true, Bool.not_false, Option.isNone_some, Option.isNone_none]
      exact ⟨trivial, by omega, trivial, trivial, fun i l hi => by omega⟩
    · rintro k ρ h' N E ⟨rfl, hk, e0, e3, hall⟩ hN hE
      simp only [S_forebayref31_Check_L1]
      by_cases hlt : k < xss.length
      · obtain ⟨u, p, hu, e1, e2⟩ := hv.at hlt
        have hul := hu.1.len
        have hul2 := hu.1.le
        simp (maxSteps := 1000000) (implicitDefEqProofs := false) (disch := omega) only [push_cast, ↓reduceIte, Nat.reduceEqDiff, reduceCtorEq, decide_true, decide_false, Bool.not_true, Bool.not_false, Option.isNone_some, Option.isNone_none, e0, e3, hlen]
        refine wp_bl (α := Nat) (I := fun j ρ h'' => h'' = h' ∧ j ≤ xss[k].length ∧ ρ 0 = v ∧ ρ 3 = .int .i64 k ∧ ρ 4 = .int .i64 j ∧
          ∀ q ∈ xss[k].take j, 0 ≤ q ∧ q < (k : Int)) (μ := fun j => xss[k].length - j) (Q := fun ρ h'' => h'' = h' ∧ ρ 0 = v ∧ ρ 3 = .int .i64 k ∧ ∀ q ∈ xss[k], 0 ≤ q ∧ q < (k : Int)) (x := 0) ?_ ?_ ?_
        · simp (maxSteps := 1000000) (implicitDefEqProofs := false) (disch := omega) only [push_cast, ↓reduceIte, Nat.reduceEqDiff, reduceCtorEq, decide_true, decide_false, Bool.not_true, Bool.not_false, Option.isNone_some, Option.isNone_none, e0, e3]
          refine ⟨trivial, by omega, trivial, trivial, trivial, by simp⟩
        · rintro j ρ h'' N' E' ⟨rfl, hj, e0, e3, e4, hin⟩ hN' hE'
          simp only [S_forebayref31_Check_L2]
          by_cases hjl : j < xss[k].length
          · obtain ⟨hin2, p2, e5, e6⟩ := hu.at hjl
            have hbad : (xss[k][j] < 0 ∨ (k : Int) ≤ xss[k][j]) → ¬ okP xss := by
              intro hb hok
              have := hok k _ (List.getElem?_eq_getElem hlt) _ (List.getElem_mem hjl)
              omega
            by_cases hb1 : xss[k][j] < 0
            · simp (maxSteps := 1000000) (implicitDefEqProofs := false) (disch := omega) only [push_cast, ↓reduceIte, Nat.reduceEqDiff, reduceCtorEq, decide_true, decide_false, Bool.not_true, Bool.not_false, Option.isNone_some, Option.isNone_none, e0, e3, e4, e1, e2, hul, e5, e6]
              exact ⟨trivial, .inr (.inl ⟨by omega, hbad (.inl hb1), rfl⟩)⟩
            · by_cases hb2 : (k : Int) ≤ xss[k][j]
              · simp (maxSteps := 1000000) (implicitDefEqProofs := false) (disch := omega) only [push_cast, ↓reduceIte, Nat.reduceEqDiff, reduceCtorEq, decide_true, decide_false, Bool.not_true, Bool.not_false, Option.isNone_some, Option.isNone_none, e0, e3, e4, e1, e2, hul, e5, e6]
                exact ⟨trivial, .inr (.inl ⟨by omega, hbad (.inr hb2), rfl⟩)⟩
              · simp (maxSteps := 1000000) (implicitDefEqProofs := false) (disch := omega) only [push_cast, ↓reduceIte, Nat.reduceEqDiff, reduceCtorEq, decide_true, decide_false, Bool.not_true, Bool.not_false, Option.isNone_some, Option.isNone_none, e0, e3, e4, e1, e2, hul, e5, e6]
                refine hN' (j + 1) _ _ ?_ (by omega)
                simp (maxSteps := 1000000) (implicitDefEqProofs := false) (disch := omega) only [push_cast, ↓reduceIte, Nat.reduceEqDiff, reduceCtorEq, decide_true, decide_false, Bool.not_true, Bool.not_false, Option.isNone_some, Option.isNone_none, e0, e3, e4]
                refine ⟨trivial, by omega, trivial, trivial, trivial, ?_⟩
                intro q hq
                rw [List.take_succ_eq_append_getElem hjl, List.mem_append] at hq
                rcases hq with hq | hq
                · exact hin q hq
                · simp at hq; subst hq; omega
          · simp (maxSteps := 1000000) (implicitDefEqProofs := false) (disch := omega) only [push_cast, ↓reduceIte, Nat.reduceEqDiff, reduceCtorEq, decide_true, decide_false, Bool.not_true, Bool.not_false, Option.isNone_some, Option.isNone_none, e0, e3, e4, e1, e2, hul]
            refine hE' _ _ ?_
            simp (maxSteps := 1000000) (implicitDefEqProofs := false) (disch := omega) only [push_cast, ↓reduceIte, Nat.reduceEqDiff, reduceCtorEq, decide_true, decide_false, Bool.not_true, Bool.not_false, Option.isNone_some, Option.isNone_none, e0, e3]
            refine ⟨trivial, trivial, trivial, ?_⟩
            rwa [List.take_of_length_le (by omega)] at hin
        · rintro ρ h'' ⟨rfl, e0, e3, hin⟩
          simp (maxSteps := 1000000) (implicitDefEqProofs := false) (disch := omega) only [push_cast, ↓reduceIte, Nat.reduceEqDiff, reduceCtorEq, decide_true, decide_false, Bool.not_true, Bool.not_false, Option.isNone_some, Option.isNone_none, e0, e3]
          refine hN (k + 1) _ _ ?_ (by omega)
          simp (maxSteps := 1000000) (implicitDefEqProofs := false) (disch := omega) only [push_cast, ↓reduceIte, Nat.reduceEqDiff, reduceCtorEq, decide_true, decide_false, Bool.not_true, Bool.not_false, Option.isNone_some, Option.isNone_none, e0, e3]
          refine ⟨trivial, by omega, trivial, trivial, ?_⟩
          intro i l hi hl q hq
          by_cases hik : i = k
          · subst hik
            rw [List.getElem?_eq_getElem hlt] at hl
            cases hl
            exact hin q hq
          · exact hall i l (by omega) hl q hq
      · simp (maxSteps := 1000000) (implicitDefEqProofs := false) (disch := omega) only [push_cast, ↓reduceIte, Nat.reduceEqDiff, reduceCtorEq, decide_true, decide_false, Bool.not_true, Bool.not_false, Option.isNone_some, Option.isNone_none, e0, e3, hlen]
        refine hE _ _ ⟨rfl, fun i l hl => hall i l ?_ hl⟩
        have := (List.getElem?_eq_some_iff.1 hl).1
        omega
    · rintro ρ h' ⟨rfl, hok⟩
      simp (maxSteps := 1000000) (implicitDefEqProofs := false) (disch := omega) only [push_cast, ↓reduceIte, Nat.reduceEqDiff, reduceCtorEq, decide_true, decide_false, Bool.not_true, Bool.not_false, Option.isNone_some, Option.isNone_none]
      exact ⟨trivial, .inr (.inr ⟨by omega, hok, rfl⟩)⟩

def tInt : TypeId := 3
def tInts : TypeId := 29
def ints (xs : List Int) : List Value := xs.map (.int .i64)
theorem Ints_of {g : PH} {s : Value} {xs : List Int} {E : TypeId} (H : osl s 1 (ints xs) E g) (hlt : ∀ x ∈ xs, inI x) : Ints g s xs := by
  obtain ⟨n, hn, hr⟩ := osl_reads (by omega) H
  have : n = xs.length := by simp [ints] at hn; omega
  subst this
  exact ⟨hr, hlt⟩

theorem Sat.putR {α : Type} {R : PH → Value → α → Prop} (hR : ∀ g g' u x, PH.le g g' → R g u x → R g' u x) {C : HProp} {L : List HProp} {h : Heap} {cs : List Value} {xs : List α} {s : Value} {x : α} (hl : cs.length = xs.length) (hC : Up C) (hcx : ∀ g, C g → R g s x)
    (H : Sat (allR R cs xs :: C :: L) h) : Sat (allR R (cs ++ [s]) (xs ++ [x]) :: L) h := by
  refine H.merge1 (E := allR R (cs ++ [s]) (xs ++ [x])) (allR_up hR _ _) hC ?_
  intro g h1 h2 i u y hu hy
  by_cases hi : i < cs.length
  · rw [List.getElem?_append_left hi] at hu
    rw [List.getElem?_append_left (by omega)] at hy
    exact h1 i u y hu hy
  · have hi2 : i = cs.length := by
      have := (List.getElem?_eq_some_iff.1 hu).1
      simp at this; omega
    subst hi2
    rw [List.getElem?_append_right (by omega)] at hu
    rw [List.getElem?_append_right (by omega)] at hy
    simp [hl] at hu hy
    subst hu; subst hy
    exact hcx g h2

theorem Ints_upR : ∀ (g g' : PH) (u : Value) (x : List Int), PH.le g g' → Ints g u x → Ints g' u x := fun _ _ _ _ hle H => H.up hle

theorem rlaw_own_fn (xss : List (List Int)) (v : Value) (h : Heap) (hv : Ints2 (hp h) v xss) (hs1 : xss.length ≤ 1002) (hs2 : ∀ l ∈ xss, l.length ≤ 60) :
    FnC Try.prog 46 #[v] h fun r h' => Sat [base h, fun g => Ints2 g r xss] h' := by
  have hle := hv.le
  have hlen := hv.len
  refine fn_in K_forebaylaw31_own mixed (args := [v]) rfl ?_
  simp only [S_forebaylaw31_own]
  simp (maxSteps := 1000000) (implicitDefEqProofs := false) (disch := omega) only [push_cast, ↓reduceIte, Nat.reduceEqDiff, reduceCtorEq, decide_true, decide_false, Bool.not_true, Bool.not_false, Option.isNone_some, Option.isNone_none]
  refine wp_bl (α := Nat) (I := fun k ρ h' => k ≤ xss.length ∧ ρ 0 = v ∧ ρ 4 = .int .i64 k ∧ ∃ cs, cs.length = k ∧ Sat [base h, osl (ρ 3) 1 cs tInts, allR Ints cs (xss.take k)] h') (μ := fun k => xss.length - k)
    (Q := fun ρ h' => Sat [base h, fun g => Ints2 g (ρ 3) xss] h') (x := 0) ?_ ?_ ?_
  · simp (maxSteps := 1000000) (implicitDefEqProofs := false) (disch := omega) only [push_cast, ↓reduceIte, Nat.reduceEqDiff, reduceCtorEq, decide_true, decide_false, Bool.not_true, Bool.not_false, Option.isNone_some, Option.isNone_none]
    refine ⟨by omega, trivial, trivial, [], rfl, ?_⟩
    exact ((Sat.start h).snoc (C := osl (.slice none 0 0) 1 [] tInts) (fun g => .inl ⟨rfl, rfl⟩)).snoc (C := allR Ints [] (xss.take 0)) (fun g i u x hu => by simp at hu)
  · rintro k ρ h' N E ⟨hk, e0, e4, cs, hcs, H⟩ hN hE
    simp only [S_forebaylaw31_own_L1]
    by_cases hlt : k < xss.length
    · obtain ⟨u, p, hu, e1, e2⟩ := hv.at hlt
      have hul := hs2 _ (List.getElem_mem hlt)
      obtain ⟨o, ho⟩ : ∃ o, ρ 3 = o := ⟨_, rfl⟩
      rw [ho] at H
      simp (maxSteps := 1000000) (implicitDefEqProofs := false) (disch := omega) only [push_cast, ↓reduceIte, Nat.reduceEqDiff, reduceCtorEq, decide_true, decide_false, Bool.not_true, Bool.not_false, Option.isNone_some, Option.isNone_none, e0, e4, ho, hlen]
      refine wp_bsl H (by simp) (by simp) ?_
      intro e h1 H1
      have e2' := ldV_up (H1.base 0 rfl) e2
      simp (maxSteps := 1000000) (implicitDefEqProofs := false) (disch := omega) only [push_cast, ↓reduceIte, Nat.reduceEqDiff, reduceCtorEq, decide_true, decide_false, Bool.not_true, Bool.not_false, Option.isNone_some, Option.isNone_none, e0, e4, ho, e1, e2']
      have hu1 := hu.up (H1.base 0 rfl)
      refine wp_app H1 3 (by omega) rfl rfl hu1.1.src (by simp) ?_ ?_ ?_ ?_
      · intro w hw; simp at hw; obtain ⟨x, hx, rfl⟩ := hw; rfl
      · simp; omega
      · simp; omega
      · intro e' h2 H2
        simp (maxSteps := 1000000) (implicitDefEqProofs := false) (disch := omega) only [push_cast, ↓reduceIte, Nat.reduceEqDiff, reduceCtorEq, decide_true, decide_false, Bool.not_true, Bool.not_false, Option.isNone_some, Option.isNone_none, ho]
        have H3 : Sat [base h, osl o 1 cs tInts, allR Ints cs (xss.take k), osl e' 1 (ints xss[k]) tInt] h2 := H2
        have he1 := H3.one 3 rfl
        refine wp_bsl H3 (sz := 1) (by simp [he1.1]) (by simp) ?_
        intro one h4 H4
        simp (maxSteps := 1000000) (implicitDefEqProofs := false) (disch := omega) only [push_cast, ↓reduceIte, Nat.reduceEqDiff, reduceCtorEq, decide_true, decide_false, Bool.not_true, Bool.not_false, Option.isNone_some, Option.isNone_none, ho]
        have H5 : Sat [base h, osl o 1 cs tInts, allR Ints cs (xss.take k), osl e' 1 (ints xss[k]) tInt, osl one 1 [e'] tInts] h4 := by
          have : ([e'].flatMap fun x => x.cells.toList) = [e'] := by simp [he1.1]
          rw [this] at H4
          exact H4
        obtain ⟨n1, hn1, hone⟩ := H5.osl 4 (by omega) rfl
        refine wp_app H5 1 (by omega) rfl rfl hone.src hn1 ?_ ?_ ?_ ?_
        · intro w hw; simp at hw; subst hw; exact he1.2
        · simp; omega
        · simp; omega
        · intro o' h6 H6
          simp (maxSteps := 1000000) (implicitDefEqProofs := false) (disch := omega) only [push_cast, ↓reduceIte, Nat.reduceEqDiff, reduceCtorEq, decide_true, decide_false, Bool.not_true, Bool.not_false, Option.isNone_some, Option.isNone_none, e0, e4]
          refine hN (k + 1) _ _ ?_ (by omega)
          simp (maxSteps := 1000000) (implicitDefEqProofs := false) (disch := omega) only [push_cast, ↓reduceIte, Nat.reduceEqDiff, reduceCtorEq, decide_true, decide_false, Bool.not_true, Bool.not_false, Option.isNone_some, Option.isNone_none, e0]
          have H7 : Sat [base h, osl o' 1 (cs ++ [e']) tInts, allR Ints cs (xss.take k), osl e' 1 (ints xss[k]) tInt, osl one 1 [e'] tInts] h6 := H6
          have A := H7.pick [2, 3, 0, 1] rfl rfl
          have A2 := Sat.putR (R := Ints) (s := e') (x := xss[k]) Ints_upR (by simp; omega) (osl_up _ _ _ _) (fun g hg => Ints_of hg hu.2) A
          rw [← List.take_succ_eq_append_getElem hlt] at A2
          exact ⟨by omega, trivial, trivial, cs ++ [e'], by simp [hcs], A2.pick [1, 2, 0] rfl rfl⟩
    · simp (maxSteps := 1000000) (implicitDefEqProofs := false) (disch := omega) only [push_cast, ↓reduceIte, Nat.reduceEqDiff, reduceCtorEq, decide_true, decide_false, Bool.not_true, Bool.not_false, Option.isNone_some, Option.isNone_none, e0, e4, hlen]
      refine hE _ _ ?_
      obtain ⟨o, ho⟩ : ∃ o, ρ 3 = o := ⟨_, rfl⟩
      rw [ho] at H
      simp (maxSteps := 1000000) (implicitDefEqProofs := false) (disch := omega) only [push_cast, ↓reduceIte, Nat.reduceEqDiff, reduceCtorEq, decide_true, decide_false, Bool.not_true, Bool.not_false, Option.isNone_some, Option.isNone_none, ho]
      have hk2 : k = xss.length := by omega
      rw [hk2, List.take_length] at H
      have A := (H.pick [1, 2, 0] rfl rfl).merge1 (E := fun g => Ints2 g o xss) (osl_up _ _ _ _) (allR_up Ints_upR _ _) (fun g h1 h2 => osl_RSs h1 h2 (by omega))
      exact A.pick [1, 0] rfl rfl
  · rintro ρ h' H
    simp (maxSteps := 1000000) (implicitDefEqProofs := false) (disch := omega) only [push_cast, ↓reduceIte, Nat.reduceEqDiff, reduceCtorEq, decide_true, decide_false, Bool.not_true, Bool.not_false, Option.isNone_some, Option.isNone_none]
    exact H
end Go.Proofs.Ytilofhocodbknaa
