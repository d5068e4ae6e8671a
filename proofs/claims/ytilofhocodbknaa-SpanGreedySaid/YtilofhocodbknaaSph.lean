/- Contracts on annotated values: forebayref41.path, Span, Level. -/
import Derived.Test.YtilofhocodbknaaSpg
namespace Go.Proofs.Ytilofhocodbknaa
set_option linter.unusedVariables false
set_option linter.unusedSimpArgs false
open Go Go.Kx Go.Proofs

theorem rkF_congr {w w' : Nat → Int} {xss : List (List Int)} (h : ∀ k, k < xss.length → w k = w' k) : rkF w xss = rkF w' xss := by
  induction xss using snoc_ind with
  | h0 => rfl
  | hs xs l ih =>
    have := ih fun k hk => h k (by rw [List.length_append]; omega)
    rw [rkF_snoc, rkF_snoc, this, rkF_len, h xs.length (by simp)]
def wOf (ws : List Int) (k : Nat) : Int := ws.getD k 0
theorem wOf_at {ws : List Int} {k : Nat} {x : Int} (h : ws[k]? = some x) : wOf ws k = x := by simp [wOf, List.getD_eq_getElem?_getD, h]

set_option maxHeartbeats 2000000 in
theorem ref41_path_a (xss : List (List Int)) (ws : List Int) (hs : xss.length ≤ 1000) (hs2 : ∀ l ∈ xss, l.length ≤ 1000000) (hok : okB 0 xss = true) (hws : ws.length = xss.length) (hwb : ∀ k, 0 ≤ wOf ws k ∧ wOf ws k ≤ 1000001) :
    ∀ (b : Nat), b < xss.length → ∀ (i w : Nat) (σ : St) (ks : List Int), memoOk (wOf ws) xss ks → σ[i]? = some (.obj w (ks.map aInt)) →
    FnG Try.prog 100 [aInts2 xss, aInts ws, aInt b, .ms i w 0 xss.length 1] σ fun a σ' => a = aInt ((rkF (wOf ws) xss).getD b 0) ∧ ∃ ks', memoOk (wOf ws) xss ks' ∧ σ' = σ.set i (.obj w (ks'.map aInt)) := by
  intro b
  induction b using Nat.strongRecOn with
  | ind b ih =>
    intro hb i w σ ks hks hi
    obtain ⟨l, hl⟩ := at_lt hb
    obtain ⟨y, hy⟩ := at_lt (l := ws) (k := b) (by omega)
    have hyw := wOf_at hy
    have hyb := hwb b
    rw [hyw] at hyb
    have hll := hs2 l (List.mem_of_getElem? hl)
    have hil : i < σ.length := (List.getElem?_eq_some_iff.1 hi).1
    have hat := rkF_at (wOf ws) hok hl
    have hrb := rkF_bd (B := 1000001) (by omega) hwb xss
    have hbd := rankP_bd (rkF (wOf ws) xss) (xss.length * 1000001) (by omega) (fun r hr => (hrb r hr).2)
    refine fnG_in K_forebayref41_path mixed rfl ?_
    simp only [S_forebayref41_path]
    obtain ⟨x, hx⟩ := at_lt (l := ks) (k := b) (by rw [hks.1]; exact hb)
    have hxG : ks.getD b 0 = x := by simp [List.getD_eq_getElem?_getD, hx]
    have hmm := hks.2 b hb
    rw [hxG] at hmm
    by_cases hpos : 0 < x
    · simp (maxSteps := 1000000) (implicitDefEqProofs := false) (disch := omega) only [push_cast, ↓reduceIte, Nat.reduceEqDiff, reduceCtorEq, decide_true, decide_false, Bool.not_true, Bool.not_false, Option.isNone_some, Option.isNone_none, List.drop_zero, List.drop_succ_cons, List.getElem?_cons_zero, List.getElem?_cons_succ, List.length_cons, List.length_nil, List.take_succ_cons, List.take_zero, Nat.mul_one, Nat.zero_add, Nat.add_zero, Nat.one_mul, Nat.zero_mul, List.getElem?_map, List.getElem?_drop, List.getElem?_take, List.length_map, Option.map_some, List.set_cons_zero, List.set_cons_succ, and_true, true_and, List.flatMap_cons, List.flatMap_nil, Bool.not_not, aInt, hi, hx]
      have : x = (rkF (wOf ws) xss).getD b 0 := by rcases hmm with h | h <;> first | omega | exact h
      exact ⟨by rw [this], ks, hks, (set_self hi).symm⟩
    · simp (maxSteps := 1000000) (implicitDefEqProofs := false) (disch := omega) only [push_cast, ↓reduceIte, Nat.reduceEqDiff, reduceCtorEq, decide_true, decide_false, Bool.not_true, Bool.not_false, Option.isNone_some, Option.isNone_none, List.drop_zero, List.drop_succ_cons, List.getElem?_cons_zero, List.getElem?_cons_succ, List.length_cons, List.length_nil, List.take_succ_cons, List.take_zero, Nat.mul_one, Nat.zero_add, Nat.add_zero, Nat.one_mul, Nat.zero_mul, List.getElem?_map, List.getElem?_drop, List.getElem?_take, List.length_map, Option.map_some, List.set_cons_zero, List.set_cons_succ, and_true, true_and, List.flatMap_cons, List.flatMap_nil, Bool.not_not, aInt, hi, hx]
      refine wpa_bl (α := Nat) (I := fun t ε σ' => (ε 0 = aInts2 xss ∧ ε 1 = aInts ws ∧ ε 2 = .v (.int .i64 b) ∧ ε 3 = .ms i w 0 xss.length 1 ∧ ε 10 = .v (.int .i64 t) ∧ ε 9 = .v (.int .i64 (rankP (rkF (wOf ws) xss) (l.take t)))) ∧ t ≤ l.length ∧
          ∃ ks', memoOk (wOf ws) xss ks' ∧ σ' = σ.set i (.obj w (ks'.map aInt)))
        (μ := fun t => l.length - t) (Q := fun ε σ' => (ε 1 = aInts ws ∧ ε 2 = .v (.int .i64 b) ∧ ε 3 = .ms i w 0 xss.length 1 ∧ ε 9 = .v (.int .i64 (rankP (rkF (wOf ws) xss) l))) ∧ ∃ ks', memoOk (wOf ws) xss ks' ∧ σ' = σ.set i (.obj w (ks'.map aInt))) (x := 0) ?_ ?_ ?_
      · simp (maxSteps := 1000000) (implicitDefEqProofs := false) (disch := omega) only [push_cast, ↓reduceIte, Nat.reduceEqDiff, reduceCtorEq, decide_true, decide_false, Bool.not_true, Bool.not_false, Option.isNone_some, Option.isNone_none, List.drop_zero, List.drop_succ_cons, List.getElem?_cons_zero, List.getElem?_cons_succ, List.length_cons, List.length_nil, List.take_succ_cons, List.take_zero, Nat.mul_one, Nat.zero_add, Nat.add_zero, Nat.one_mul, Nat.zero_mul, List.getElem?_map, List.getElem?_drop, List.getElem?_take, List.length_map, Option.map_some, List.set_cons_zero, List.set_cons_succ, and_true, true_and, List.flatMap_cons, List.flatMap_nil, Bool.not_not]
        exact ⟨by simp [rankP], by omega, ks, hks, (set_self hi).symm⟩
      · rintro t ε σ' N E ⟨hρ, ht, ks', hks', rfl⟩ hN hE
        simp only [S_forebayref41_path_L1]
        by_cases htl : t < l.length
        · obtain ⟨p, hp⟩ := at_lt htl
          have hpk := okB_at hok hl p (List.mem_of_getElem? hp)
          obtain ⟨q, rfl⟩ : ∃ q : Nat, p = q := ⟨p.toNat, by omega⟩
          have hqb : q < b := by omega
          simp (maxSteps := 1000000) (implicitDefEqProofs := false) (disch := omega) only [push_cast, ↓reduceIte, Nat.reduceEqDiff, reduceCtorEq, decide_true, decide_false, Bool.not_true, Bool.not_false, Option.isNone_some, Option.isNone_none, List.drop_zero, List.drop_succ_cons, List.getElem?_cons_zero, List.getElem?_cons_succ, List.length_cons, List.length_nil, List.take_succ_cons, List.take_zero, Nat.mul_one, Nat.zero_add, Nat.add_zero, Nat.one_mul, Nat.zero_mul, List.getElem?_map, List.getElem?_drop, List.getElem?_take, List.length_map, Option.map_some, List.set_cons_zero, List.set_cons_succ, and_true, true_and, List.flatMap_cons, List.flatMap_nil, Bool.not_not, hρ, aInts2, aSl, hl, hp, aInts, aInt]
          refine wpa_callG (ih q hqb (by omega) i w _ ks' hks' (by simp [hil])) ?_
          rintro a σ'' ⟨rfl, ks'', hks'', rfl⟩
          simp (maxSteps := 1000000) (implicitDefEqProofs := false) (disch := omega) only [push_cast, ↓reduceIte, Nat.reduceEqDiff, reduceCtorEq, decide_true, decide_false, Bool.not_true, Bool.not_false, Option.isNone_some, Option.isNone_none, List.drop_zero, List.drop_succ_cons, List.getElem?_cons_zero, List.getElem?_cons_succ, List.length_cons, List.length_nil, List.take_succ_cons, List.take_zero, Nat.mul_one, Nat.zero_add, Nat.add_zero, Nat.one_mul, Nat.zero_mul, List.getElem?_map, List.getElem?_drop, List.getElem?_take, List.length_map, Option.map_some, List.set_cons_zero, List.set_cons_succ, and_true, true_and, List.flatMap_cons, List.flatMap_nil, Bool.not_not, hρ, aInt]
          refine hN (t + 1) _ _ ?_ (by omega)
          simp (maxSteps := 1000000) (implicitDefEqProofs := false) (disch := omega) only [push_cast, ↓reduceIte, Nat.reduceEqDiff, reduceCtorEq, decide_true, decide_false, Bool.not_true, Bool.not_false, Option.isNone_some, Option.isNone_none, List.drop_zero, List.drop_succ_cons, List.getElem?_cons_zero, List.getElem?_cons_succ, List.length_cons, List.length_nil, List.take_succ_cons, List.take_zero, Nat.mul_one, Nat.zero_add, Nat.add_zero, Nat.one_mul, Nat.zero_mul, List.getElem?_map, List.getElem?_drop, List.getElem?_take, List.length_map, Option.map_some, List.set_cons_zero, List.set_cons_succ, and_true, true_and, List.flatMap_cons, List.flatMap_nil, Bool.not_not, hρ]
          refine ⟨?_, by omega, ks'', hks'', by simp⟩
          rw [take_succ_at hp, rankP_snoc] <;> rfl
        · simp (maxSteps := 1000000) (implicitDefEqProofs := false) (disch := omega) only [push_cast, ↓reduceIte, Nat.reduceEqDiff, reduceCtorEq, decide_true, decide_false, Bool.not_true, Bool.not_false, Option.isNone_some, Option.isNone_none, List.drop_zero, List.drop_succ_cons, List.getElem?_cons_zero, List.getElem?_cons_succ, List.length_cons, List.length_nil, List.take_succ_cons, List.take_zero, Nat.mul_one, Nat.zero_add, Nat.add_zero, Nat.one_mul, Nat.zero_mul, List.getElem?_map, List.getElem?_drop, List.getElem?_take, List.length_map, Option.map_some, List.set_cons_zero, List.set_cons_succ, and_true, true_and, List.flatMap_cons, List.flatMap_nil, Bool.not_not, hρ, aInts2, aSl, hl, aInts]
          refine hE _ _ ?_
          simp (maxSteps := 1000000) (implicitDefEqProofs := false) (disch := omega) only [push_cast, ↓reduceIte, Nat.reduceEqDiff, reduceCtorEq, decide_true, decide_false, Bool.not_true, Bool.not_false, Option.isNone_some, Option.isNone_none, List.drop_zero, List.drop_succ_cons, List.getElem?_cons_zero, List.getElem?_cons_succ, List.length_cons, List.length_nil, List.take_succ_cons, List.take_zero, Nat.mul_one, Nat.zero_add, Nat.add_zero, Nat.one_mul, Nat.zero_mul, List.getElem?_map, List.getElem?_drop, List.getElem?_take, List.length_map, Option.map_some, List.set_cons_zero, List.set_cons_succ, and_true, true_and, List.flatMap_cons, List.flatMap_nil, Bool.not_not, hρ]
          rw [List.take_of_length_le (by omega)]
          exact ⟨rfl, ks', hks', rfl⟩
      · rintro ε σ' ⟨hρ, ks', hks', rfl⟩
        have hb2 := hbd l
        simp (maxSteps := 1000000) (implicitDefEqProofs := false) (disch := omega) only [push_cast, ↓reduceIte, Nat.reduceEqDiff, reduceCtorEq, decide_true, decide_false, Bool.not_true, Bool.not_false, Option.isNone_some, Option.isNone_none, List.drop_zero, List.drop_succ_cons, List.getElem?_cons_zero, List.getElem?_cons_succ, List.length_cons, List.length_nil, List.take_succ_cons, List.take_zero, Nat.mul_one, Nat.zero_add, Nat.add_zero, Nat.one_mul, Nat.zero_mul, List.getElem?_map, List.getElem?_drop, List.getElem?_take, List.length_map, Option.map_some, List.set_cons_zero, List.set_cons_succ, and_true, true_and, List.flatMap_cons, List.flatMap_nil, Bool.not_not, hρ, hy, aInts, aSl, aInt]
        refine wpa_st1 (cs := ks'.map aInt) rfl rfl (by simp [hil]) (by simp [hks'.1]; omega) ?_
        have hl2 : b < ks'.length := by rw [hks'.1]; exact hb
        have hg : (ks'.set b (rankP (rkF (wOf ws) xss) l + y))[b]? = some (rankP (rkF (wOf ws) xss) l + y) := by simp [hl2]
        have hget : ∀ A B : Res, ((List.set σ i A).set i B)[i]? = some B := fun A B => by simp [hil]
        simp (maxSteps := 1000000) (implicitDefEqProofs := false) (disch := omega) only [push_cast, ↓reduceIte, Nat.reduceEqDiff, reduceCtorEq, decide_true, decide_false, Bool.not_true, Bool.not_false, Option.isNone_some, Option.isNone_none, List.drop_zero, List.drop_succ_cons, List.getElem?_cons_zero, List.getElem?_cons_succ, List.length_cons, List.length_nil, List.take_succ_cons, List.take_zero, Nat.mul_one, Nat.zero_add, Nat.add_zero, Nat.one_mul, Nat.zero_mul, List.getElem?_map, List.getElem?_drop, List.getElem?_take, List.length_map, Option.map_some, List.set_cons_zero, List.set_cons_succ, and_true, true_and, List.flatMap_cons, List.flatMap_nil, Bool.not_not, hρ, setI, hg, hget]
        have hres : rankP (rkF (wOf ws) xss) l + y = (rkF (wOf ws) xss).getD b 0 := by rw [hat, hyw]
        exact ⟨by rw [hres]; rfl, _, hks'.set hres, by simp⟩

set_option maxHeartbeats 1000000 in
theorem ref41_Span_a (xss : List (List Int)) (ws : List Int) (hs : xss.length ≤ 1000) (hs2 : ∀ l ∈ xss, l.length ≤ 1000000) (hok : okB 0 xss = true) (hws : ws.length = xss.length) (hwb : ∀ k, 0 ≤ wOf ws k ∧ wOf ws k ≤ 1000001) :
    FnP Try.prog 71 [aInts2 xss, aInts ws] fun a => a = aInt (maxL (rkF (wOf ws) xss)) := by
  refine fnP_in K_forebayref41_Span mixed rfl (by simp [AV.pureL, aInts2_pure, aInts_pure]) ?_
  simp only [S_forebayref41_Span]
  simp (maxSteps := 1000000) (implicitDefEqProofs := false) (disch := omega) only [push_cast, ↓reduceIte, Nat.reduceEqDiff, reduceCtorEq, decide_true, decide_false, Bool.not_true, Bool.not_false, Option.isNone_some, Option.isNone_none, List.drop_zero, List.drop_succ_cons, List.getElem?_cons_zero, List.getElem?_cons_succ, List.length_cons, List.length_nil, List.take_succ_cons, List.take_zero, Nat.mul_one, Nat.zero_add, Nat.add_zero, Nat.one_mul, Nat.zero_mul, List.getElem?_map, List.getElem?_drop, List.getElem?_take, List.length_map, Option.map_some, List.set_cons_zero, List.set_cons_succ, and_true, true_and, List.flatMap_cons, List.flatMap_nil, Bool.not_not, aInts2, aSl]
  refine wpa_mks rfl (by omega) (by omega) ?_
  simp (maxSteps := 1000000) (implicitDefEqProofs := false) (disch := omega) only [push_cast, ↓reduceIte, Nat.reduceEqDiff, reduceCtorEq, decide_true, decide_false, Bool.not_true, Bool.not_false, Option.isNone_some, Option.isNone_none, List.drop_zero, List.drop_succ_cons, List.getElem?_cons_zero, List.getElem?_cons_succ, List.length_cons, List.length_nil, List.take_succ_cons, List.take_zero, Nat.mul_one, Nat.zero_add, Nat.add_zero, Nat.one_mul, Nat.zero_mul, List.getElem?_map, List.getElem?_drop, List.getElem?_take, List.length_map, Option.map_some, List.set_cons_zero, List.set_cons_succ, and_true, true_and, List.flatMap_cons, List.flatMap_nil, Bool.not_not, repA_one]
  refine wpa_bl (α := Nat) (I := fun k ε σ => (ε 0 = aInts2 xss ∧ ε 1 = aInts ws ∧ ε 7 = .v (.int .i64 k) ∧ ε 5 = .ms 0 0 0 xss.length 1 ∧ ε 6 = .v (.int .i64 (maxL ((rkF (wOf ws) xss).take k)))) ∧ k ≤ xss.length ∧ ∃ ks, memoOk (wOf ws) xss ks ∧ σ = [.obj 0 (ks.map aInt)])
    (μ := fun k => xss.length - k) (Q := fun ε σ => ε 6 = .v (.int .i64 (maxL (rkF (wOf ws) xss)))) (x := 0) ?_ ?_ ?_
  · simp (maxSteps := 1000000) (implicitDefEqProofs := false) (disch := omega) only [push_cast, ↓reduceIte, Nat.reduceEqDiff, reduceCtorEq, decide_true, decide_false, Bool.not_true, Bool.not_false, Option.isNone_some, Option.isNone_none, List.drop_zero, List.drop_succ_cons, List.getElem?_cons_zero, List.getElem?_cons_succ, List.length_cons, List.length_nil, List.take_succ_cons, List.take_zero, Nat.mul_one, Nat.zero_add, Nat.add_zero, Nat.one_mul, Nat.zero_mul, List.getElem?_map, List.getElem?_drop, List.getElem?_take, List.length_map, Option.map_some, List.set_cons_zero, List.set_cons_succ, and_true, true_and, List.flatMap_cons, List.flatMap_nil, Bool.not_not]
    refine ⟨by simp [aInts2, aSl, maxL], by omega, List.replicate xss.length 0, ⟨by simp, fun j hj => .inl ?_⟩, by simp [aInt]⟩
    simp [List.getD_eq_getElem?_getD, hj]
  · rintro k ε σ N E ⟨hρ, hk, ks, hks, rfl⟩ hN hE
    simp only [S_forebayref41_Span_L1]
    by_cases hlt : k < xss.length
    · simp (maxSteps := 1000000) (implicitDefEqProofs := false) (disch := omega) only [push_cast, ↓reduceIte, Nat.reduceEqDiff, reduceCtorEq, decide_true, decide_false, Bool.not_true, Bool.not_false, Option.isNone_some, Option.isNone_none, List.drop_zero, List.drop_succ_cons, List.getElem?_cons_zero, List.getElem?_cons_succ, List.length_cons, List.length_nil, List.take_succ_cons, List.take_zero, Nat.mul_one, Nat.zero_add, Nat.add_zero, Nat.one_mul, Nat.zero_mul, List.getElem?_map, List.getElem?_drop, List.getElem?_take, List.length_map, Option.map_some, List.set_cons_zero, List.set_cons_succ, and_true, true_and, List.flatMap_cons, List.flatMap_nil, Bool.not_not, hρ, aInts2, aSl]
      refine wpa_callG (ref41_path_a xss ws hs hs2 hok hws hwb k hlt 0 0 _ ks hks rfl) ?_
      rintro a σ ⟨rfl, ks', hks', rfl⟩
      simp (maxSteps := 1000000) (implicitDefEqProofs := false) (disch := omega) only [push_cast, ↓reduceIte, Nat.reduceEqDiff, reduceCtorEq, decide_true, decide_false, Bool.not_true, Bool.not_false, Option.isNone_some, Option.isNone_none, List.drop_zero, List.drop_succ_cons, List.getElem?_cons_zero, List.getElem?_cons_succ, List.length_cons, List.length_nil, List.take_succ_cons, List.take_zero, Nat.mul_one, Nat.zero_add, Nat.add_zero, Nat.one_mul, Nat.zero_mul, List.getElem?_map, List.getElem?_drop, List.getElem?_take, List.length_map, Option.map_some, List.set_cons_zero, List.set_cons_succ, and_true, true_and, List.flatMap_cons, List.flatMap_nil, Bool.not_not, hρ, aInt]
      refine hN (k + 1) _ _ ?_ (by omega)
      simp (maxSteps := 1000000) (implicitDefEqProofs := false) (disch := omega) only [push_cast, ↓reduceIte, Nat.reduceEqDiff, reduceCtorEq, decide_true, decide_false, Bool.not_true, Bool.not_false, Option.isNone_some, Option.isNone_none, List.drop_zero, List.drop_succ_cons, List.getElem?_cons_zero, List.getElem?_cons_succ, List.length_cons, List.length_nil, List.take_succ_cons, List.take_zero, Nat.mul_one, Nat.zero_add, Nat.add_zero, Nat.one_mul, Nat.zero_mul, List.getElem?_map, List.getElem?_drop, List.getElem?_take, List.length_map, Option.map_some, List.set_cons_zero, List.set_cons_succ, and_true, true_and, List.flatMap_cons, List.flatMap_nil, Bool.not_not, hρ]
      obtain ⟨r, hr⟩ := at_lt (l := rkF (wOf ws) xss) (k := k) (by rw [rkF_len]; exact hlt)
      have e : (rkF (wOf ws) xss).getD k 0 = r := by simp [List.getD_eq_getElem?_getD, hr]
      exact ⟨by rw [take_succ_at hr, maxL_snoc, e], by omega, ks', hks', rfl⟩
    · simp (maxSteps := 1000000) (implicitDefEqProofs := false) (disch := omega) only [push_cast, ↓reduceIte, Nat.reduceEqDiff, reduceCtorEq, decide_true, decide_false, Bool.not_true, Bool.not_false, Option.isNone_some, Option.isNone_none, List.drop_zero, List.drop_succ_cons, List.getElem?_cons_zero, List.getElem?_cons_succ, List.length_cons, List.length_nil, List.take_succ_cons, List.take_zero, Nat.mul_one, Nat.zero_add, Nat.add_zero, Nat.one_mul, Nat.zero_mul, List.getElem?_map, List.getElem?_drop, List.getElem?_take, List.length_map, Option.map_some, List.set_cons_zero, List.set_cons_succ, and_true, true_and, List.flatMap_cons, List.flatMap_nil, Bool.not_not, hρ, aInts2, aSl]
      refine hE _ _ ?_
      simp (maxSteps := 1000000) (implicitDefEqProofs := false) (disch := omega) only [push_cast, ↓reduceIte, Nat.reduceEqDiff, reduceCtorEq, decide_true, decide_false, Bool.not_true, Bool.not_false, Option.isNone_some, Option.isNone_none, List.drop_zero, List.drop_succ_cons, List.getElem?_cons_zero, List.getElem?_cons_succ, List.length_cons, List.length_nil, List.take_succ_cons, List.take_zero, Nat.mul_one, Nat.zero_add, Nat.add_zero, Nat.one_mul, Nat.zero_mul, List.getElem?_map, List.getElem?_drop, List.getElem?_take, List.length_map, Option.map_some, List.set_cons_zero, List.set_cons_succ, and_true, true_and, List.flatMap_cons, List.flatMap_nil, Bool.not_not, hρ]
      rw [List.take_of_length_le (by rw [rkF_len]; omega)]
  · intro ε σ hρ
    simp (maxSteps := 1000000) (implicitDefEqProofs := false) (disch := omega) only [push_cast, ↓reduceIte, Nat.reduceEqDiff, reduceCtorEq, decide_true, decide_false, Bool.not_true, Bool.not_false, Option.isNone_some, Option.isNone_none, List.drop_zero, List.drop_succ_cons, List.getElem?_cons_zero, List.getElem?_cons_succ, List.length_cons, List.length_nil, List.take_succ_cons, List.take_zero, Nat.mul_one, Nat.zero_add, Nat.add_zero, Nat.one_mul, Nat.zero_mul, List.getElem?_map, List.getElem?_drop, List.getElem?_take, List.length_map, Option.map_some, List.set_cons_zero, List.set_cons_succ, and_true, true_and, List.flatMap_cons, List.flatMap_nil, Bool.not_not, hρ]
    exact ⟨[], rfl, rfl⟩

set_option maxHeartbeats 1000000 in
theorem ref41_Level_a (xss : List (List Int)) (i : Nat) (hs : xss.length ≤ 1000) (hs2 : ∀ l ∈ xss, l.length ≤ 1000000) (hok : okB 0 xss = true) (hi : i < xss.length) :
    FnP Try.prog 64 [aInts2 xss, aInt i] fun a => a = aInt ((ranks xss).getD i 0 - 1) := by
  refine fnP_in K_forebayref41_Level mixed rfl (by simp [AV.pureL, aInts2_pure, aInt_pure]) ?_
  simp only [S_forebayref41_Level]
  simp (maxSteps := 1000000) (implicitDefEqProofs := false) (disch := omega) only [push_cast, ↓reduceIte, Nat.reduceEqDiff, reduceCtorEq, decide_true, decide_false, Bool.not_true, Bool.not_false, Option.isNone_some, Option.isNone_none, List.drop_zero, List.drop_succ_cons, List.getElem?_cons_zero, List.getElem?_cons_succ, List.length_cons, List.length_nil, List.take_succ_cons, List.take_zero, Nat.mul_one, Nat.zero_add, Nat.add_zero, Nat.one_mul, Nat.zero_mul, List.getElem?_map, List.getElem?_drop, List.getElem?_take, List.length_map, Option.map_some, List.set_cons_zero, List.set_cons_succ, and_true, true_and, List.flatMap_cons, List.flatMap_nil, Bool.not_not, aInts2, aSl]
  refine wpa_mks rfl (by omega) (by omega) ?_
  simp (maxSteps := 1000000) (implicitDefEqProofs := false) (disch := omega) only [push_cast, ↓reduceIte, Nat.reduceEqDiff, reduceCtorEq, decide_true, decide_false, Bool.not_true, Bool.not_false, Option.isNone_some, Option.isNone_none, List.drop_zero, List.drop_succ_cons, List.getElem?_cons_zero, List.getElem?_cons_succ, List.length_cons, List.length_nil, List.take_succ_cons, List.take_zero, Nat.mul_one, Nat.zero_add, Nat.add_zero, Nat.one_mul, Nat.zero_mul, List.getElem?_map, List.getElem?_drop, List.getElem?_take, List.length_map, Option.map_some, List.set_cons_zero, List.set_cons_succ, and_true, true_and, List.flatMap_cons, List.flatMap_nil, Bool.not_not, repA_one]
  refine wpa_bl (α := Nat) (I := fun k ε σ => (ε 0 = aInts2 xss ∧ ε 1 = aInt i ∧ ε 6 = .v (.int .i64 k) ∧ ε 5 = .ms 0 0 0 xss.length 1) ∧ k ≤ xss.length ∧ σ = [.obj 0 ((List.replicate k (1 : Int) ++ List.replicate (xss.length - k) 0).map aInt)])
    (μ := fun k => xss.length - k) (Q := fun ε σ => (ε 0 = aInts2 xss ∧ ε 1 = aInt i ∧ ε 5 = .ms 0 0 0 xss.length 1) ∧ σ = [.obj 0 ((List.replicate xss.length (1 : Int)).map aInt)]) (x := 0) ?_ ?_ ?_
  · simp (maxSteps := 1000000) (implicitDefEqProofs := false) (disch := omega) only [push_cast, ↓reduceIte, Nat.reduceEqDiff, reduceCtorEq, decide_true, decide_false, Bool.not_true, Bool.not_false, Option.isNone_some, Option.isNone_none, List.drop_zero, List.drop_succ_cons, List.getElem?_cons_zero, List.getElem?_cons_succ, List.length_cons, List.length_nil, List.take_succ_cons, List.take_zero, Nat.mul_one, Nat.zero_add, Nat.add_zero, Nat.one_mul, Nat.zero_mul, List.getElem?_map, List.getElem?_drop, List.getElem?_take, List.length_map, Option.map_some, List.set_cons_zero, List.set_cons_succ, and_true, true_and, List.flatMap_cons, List.flatMap_nil, Bool.not_not]
    exact ⟨by simp [aInts2, aSl], by omega, by simp [aInt]⟩
  · rintro k ε σ N E ⟨hρ, hk, rfl⟩ hN hE
    simp only [S_forebayref41_Level_L1]
    by_cases hlt : k < xss.length
    · rw [rep_split _ _ _ hlt]
      simp (maxSteps := 1000000) (implicitDefEqProofs := false) (disch := omega) only [push_cast, ↓reduceIte, Nat.reduceEqDiff, reduceCtorEq, decide_true, decide_false, Bool.not_true, Bool.not_false, Option.isNone_some, Option.isNone_none, List.drop_zero, List.drop_succ_cons, List.getElem?_cons_zero, List.getElem?_cons_succ, List.length_cons, List.length_nil, List.take_succ_cons, List.take_zero, Nat.mul_one, Nat.zero_add, Nat.add_zero, Nat.one_mul, Nat.zero_mul, List.getElem?_map, List.getElem?_drop, List.getElem?_take, List.length_map, Option.map_some, List.set_cons_zero, List.set_cons_succ, and_true, true_and, List.flatMap_cons, List.flatMap_nil, Bool.not_not, hρ]
      refine wpa_st1 (cs := (List.replicate k (1 : Int) ++ 0 :: List.replicate (xss.length - (k + 1)) 0).map aInt) rfl rfl rfl (by simp <;> omega) ?_
      have e2 := set_midI (A := List.replicate k (1 : Int)) (B := List.replicate (xss.length - (k + 1)) 0) (x := 0) (y := 1) (k := k) (by simp)
      simp (maxSteps := 1000000) (implicitDefEqProofs := false) (disch := omega) only [push_cast, ↓reduceIte, Nat.reduceEqDiff, reduceCtorEq, decide_true, decide_false, Bool.not_true, Bool.not_false, Option.isNone_some, Option.isNone_none, List.drop_zero, List.drop_succ_cons, List.getElem?_cons_zero, List.getElem?_cons_succ, List.length_cons, List.length_nil, List.take_succ_cons, List.take_zero, Nat.mul_one, Nat.zero_add, Nat.add_zero, Nat.one_mul, Nat.zero_mul, List.getElem?_map, List.getElem?_drop, List.getElem?_take, List.length_map, Option.map_some, List.set_cons_zero, List.set_cons_succ, and_true, true_and, List.flatMap_cons, List.flatMap_nil, Bool.not_not, hρ, e2]
      refine hN (k + 1) _ _ ?_ (by omega)
      simp (maxSteps := 1000000) (implicitDefEqProofs := false) (disch := omega) only [push_cast, ↓reduceIte, Nat.reduceEqDiff, reduceCtorEq, decide_true, decide_false, Bool.not_true, Bool.not_false, Option.isNone_some, Option.isNone_none, List.drop_zero, List.drop_succ_cons, List.getElem?_cons_zero, List.getElem?_cons_succ, List.length_cons, List.length_nil, List.take_succ_cons, List.take_zero, Nat.mul_one, Nat.zero_add, Nat.add_zero, Nat.one_mul, Nat.zero_mul, List.getElem?_map, List.getElem?_drop, List.getElem?_take, List.length_map, Option.map_some, List.set_cons_zero, List.set_cons_succ, and_true, true_and, List.flatMap_cons, List.flatMap_nil, Bool.not_not, hρ]
      exact ⟨by omega, by rw [List.replicate_succ']; simp⟩
    · simp (maxSteps := 1000000) (implicitDefEqProofs := false) (disch := omega) only [push_cast, ↓reduceIte, Nat.reduceEqDiff, reduceCtorEq, decide_true, decide_false, Bool.not_true, Bool.not_false, Option.isNone_some, Option.isNone_none, List.drop_zero, List.drop_succ_cons, List.getElem?_cons_zero, List.getElem?_cons_succ, List.length_cons, List.length_nil, List.take_succ_cons, List.take_zero, Nat.mul_one, Nat.zero_add, Nat.add_zero, Nat.one_mul, Nat.zero_mul, List.getElem?_map, List.getElem?_drop, List.getElem?_take, List.length_map, Option.map_some, List.set_cons_zero, List.set_cons_succ, and_true, true_and, List.flatMap_cons, List.flatMap_nil, Bool.not_not, hρ]
      refine hE _ _ ?_
      have : k = xss.length := by omega
      subst this
      simp (maxSteps := 1000000) (implicitDefEqProofs := false) (disch := omega) only [push_cast, ↓reduceIte, Nat.reduceEqDiff, reduceCtorEq, decide_true, decide_false, Bool.not_true, Bool.not_false, Option.isNone_some, Option.isNone_none, List.drop_zero, List.drop_succ_cons, List.getElem?_cons_zero, List.getElem?_cons_succ, List.length_cons, List.length_nil, List.take_succ_cons, List.take_zero, Nat.mul_one, Nat.zero_add, Nat.add_zero, Nat.one_mul, Nat.zero_mul, List.getElem?_map, List.getElem?_drop, List.getElem?_take, List.length_map, Option.map_some, List.set_cons_zero, List.set_cons_succ, and_true, true_and, List.flatMap_cons, List.flatMap_nil, Bool.not_not, hρ]
      simp
  · rintro ε σ ⟨hρ, rfl⟩
    simp (maxSteps := 1000000) (implicitDefEqProofs := false) (disch := omega) only [push_cast, ↓reduceIte, Nat.reduceEqDiff, reduceCtorEq, decide_true, decide_false, Bool.not_true, Bool.not_false, Option.isNone_some, Option.isNone_none, List.drop_zero, List.drop_succ_cons, List.getElem?_cons_zero, List.getElem?_cons_succ, List.length_cons, List.length_nil, List.take_succ_cons, List.take_zero, Nat.mul_one, Nat.zero_add, Nat.add_zero, Nat.one_mul, Nat.zero_mul, List.getElem?_map, List.getElem?_drop, List.getElem?_take, List.length_map, Option.map_some, List.set_cons_zero, List.set_cons_succ, and_true, true_and, List.flatMap_cons, List.flatMap_nil, Bool.not_not, hρ, aInts2, aSl]
    refine wpa_mks rfl (by omega) (by omega) ?_
    simp (maxSteps := 1000000) (implicitDefEqProofs := false) (disch := omega) only [push_cast, ↓reduceIte, Nat.reduceEqDiff, reduceCtorEq, decide_true, decide_false, Bool.not_true, Bool.not_false, Option.isNone_some, Option.isNone_none, List.drop_zero, List.drop_succ_cons, List.getElem?_cons_zero, List.getElem?_cons_succ, List.length_cons, List.length_nil, List.take_succ_cons, List.take_zero, Nat.mul_one, Nat.zero_add, Nat.add_zero, Nat.one_mul, Nat.zero_mul, List.getElem?_map, List.getElem?_drop, List.getElem?_take, List.length_map, Option.map_some, List.set_cons_zero, List.set_cons_succ, and_true, true_and, List.flatMap_cons, List.flatMap_nil, Bool.not_not, hρ, repA_one]
    have hwo : ∀ k, k < xss.length → wOf (List.replicate xss.length (1 : Int)) k = 1 := fun k hk => by simp [wOf, List.getD_eq_getElem?_getD, hk]
    have hwb : ∀ k, 0 ≤ wOf (List.replicate xss.length (1 : Int)) k ∧ wOf (List.replicate xss.length (1 : Int)) k ≤ 1000001 := by
      intro k
      by_cases hk : k < xss.length
      · rw [hwo k hk]; omega
      · simp [wOf, List.getD_eq_getElem?_getD, hk]
    have hrk : rkF (wOf (List.replicate xss.length (1 : Int))) xss = ranks xss := rkF_congr hwo
    refine wpa_frz [0] [false, true] ?_
    rw [freeze_one (i := 0) rfl (by rw [resL_map, List.map_map]; exact List.map_congr_left fun x _ => aInt_res _ x)]
    simp only [weak, if_true, if_false, Bool.false_eq_true]
    have hai : AV.sl xss.length ((List.replicate xss.length (1 : Int)).map aInt) .none = aInts (List.replicate xss.length (1 : Int)) := by simp [aInts, aSl]
    rw [res_ms rfl (by simp), hai]
    refine wpa_callG (ref41_path_a xss (List.replicate xss.length (1 : Int)) hs hs2 hok (by simp) hwb i hi 1 0 _ (List.replicate xss.length 0) ⟨by simp, fun j hj => .inl (by simp [List.getD_eq_getElem?_getD, hj])⟩ (by simp [aInt])) ?_
    rintro a σ ⟨rfl, ks, _, rfl⟩
    have hri := ranks_bd xss
    obtain ⟨r, hr⟩ := at_lt (l := ranks xss) (k := i) (by rw [ranks, rkF_len]; exact hi)
    have hrb := hri r (List.mem_of_getElem? hr)
    have hg : (ranks xss).getD i 0 = r := by simp [List.getD_eq_getElem?_getD, hr]
    simp (maxSteps := 1000000) (implicitDefEqProofs := false) (disch := omega) only [push_cast, ↓reduceIte, Nat.reduceEqDiff, reduceCtorEq, decide_true, decide_false, Bool.not_true, Bool.not_false, Option.isNone_some, Option.isNone_none, List.drop_zero, List.drop_succ_cons, List.getElem?_cons_zero, List.getElem?_cons_succ, List.length_cons, List.length_nil, List.take_succ_cons, List.take_zero, Nat.mul_one, Nat.zero_add, Nat.add_zero, Nat.one_mul, Nat.zero_mul, List.getElem?_map, List.getElem?_drop, List.getElem?_take, List.length_map, Option.map_some, List.set_cons_zero, List.set_cons_succ, and_true, true_and, List.flatMap_cons, List.flatMap_nil, Bool.not_not, hρ, aInt, hrk, hg]
    exact ⟨[], rfl⟩
end Go.Proofs.Ytilofhocodbknaa
