/- Tidy: what is reached: the walk. -/
import Derived.Test.YthgmfjkbgacfaaaTdg
namespace Go.Proofs.Ythgmfjkbgacfaaa
set_option linter.unusedVariables false
set_option linter.unusedSimpArgs false
open Go Go.Kx Go.Proofs

def aNt (i : Nat) : AV := .v (.int .i64 i)
def TdAt (σ : Kx.St) (w : Nat) (todo : List Nat) : Prop := ∃ cs, σ[1]? = some (.obj w cs) ∧ todo.length ≤ cs.length ∧ cs.take todo.length = todo.reverse.map aNt
theorem TdAt.top {σ : Kx.St} {w i : Nat} {todo : List Nat} (h : TdAt σ w (i :: todo)) : ∃ cs, σ[1]? = some (.obj w cs) ∧ cs[todo.length]? = some (.v (.int .i64 i)) := by
  obtain ⟨cs, h1, h2, h3⟩ := h
  refine ⟨cs, h1, ?_⟩
  have : (cs.take (todo.length + 1))[todo.length]? = some (.v (.int .i64 i)) := by
    have e : cs.take (todo.length + 1) = (i :: todo).reverse.map aNt := h3
    rw [e, List.reverse_cons, List.map_append, List.getElem?_append_right (by simp)]
    simp [aNt]
  rwa [List.getElem?_take_of_lt (by omega)] at this
theorem TdAt.pop {σ : Kx.St} {w i : Nat} {todo : List Nat} (h : TdAt σ w (i :: todo)) : TdAt σ w todo := by
  obtain ⟨cs, h1, h2, h3⟩ := h
  simp only [List.length_cons] at h2
  refine ⟨cs, h1, by omega, ?_⟩
  have e : cs.take (todo.length + 1) = (i :: todo).reverse.map aNt := h3
  have : (cs.take (todo.length + 1)).take todo.length = todo.reverse.map aNt := by
    rw [e, List.reverse_cons, List.map_append, List.take_append_of_le_length (by simp), List.take_of_length_le (by simp)]
  rwa [List.take_take, Nat.min_eq_left (by omega)] at this
theorem aBools_pure (l : List Bool) : (aSl aBool l).pure = true := aSl_pure aBool_pure l
theorem aBoolL_res (σ : St) (l : List Bool) : AV.resL σ (l.map aBool) = l.map aBool := by
  rw [resL_map, List.map_map]; exact List.map_congr_left fun x _ => aBool_res σ x
theorem setBo {s : List Bool} {i : Nat} {b : Bool} : (s.map aBool).set i (.v (.bool b)) = (s.set i b).map aBool := by rw [List.map_set]; rfl
theorem repBo (n : Nat) : List.replicate n (AV.v (.bool false)) = (List.replicate n false).map aBool := by simp [aBool]
/-- Pushed on top. -/
theorem TdAt.push {σ : Kx.St} {w : Nat} {todo : List Nat} {cs : List AV} (h1 : σ[1]? = some (.obj w cs)) (h2 : todo.length ≤ cs.length) (h3 : cs.take todo.length = todo.reverse.map aNt) (j : Nat) :
    TdAt (σ.set 1 (.obj (w + 1) (cs.take todo.length ++ [.v (.int .i64 j)]))) (w + 1) (j :: todo) := by
  refine ⟨_, get_set_eq h1, by simp; omega, ?_⟩
  rw [List.take_of_length_le (by simp; omega), h3]
  simp [aNt]
theorem succ_end {l : List Ix} {i : Nat} {x : Ix} (hx : l[i]? = some x) : succX l i = (match tgtX x with | some t => [t.toNat] | none => []) ++ (if endsX x then [] else [i + 1]) := by unfold succX; rw [hx]; rfl
set_option maxHeartbeats 16000000 in
theorem tidy_reached_a (l : List Ix) (hR : Rt l) (hl : l.length ≤ 300) : FnP Try.prog 91 [aIxs l] fun a => a = aSl aBool (reachB l) := by
  refine fnP_in K_tidy_reached mixed rfl (by simp [AV.pureL, aIxs_pure]) ?_
  simp only [S_tidy_reached]
  have hIL : aIxs l = .sl l.length (l.flatMap aIx) .none := rfl
  have hpos := hR.pos
  refine wpa_seqx (fun ε σ => ε 0 = aIxs l ∧ σ = []) (fun N X' R' hN => by simp (maxSteps := 1000000) (implicitDefEqProofs := false) (disch := omega) only [push_cast, ↓reduceIte, Nat.reduceEqDiff, reduceCtorEq, wz]; exact hN _ _ (by simp (maxSteps := 1000000) (implicitDefEqProofs := false) (disch := omega) only [push_cast, ↓reduceIte, Nat.reduceEqDiff, reduceCtorEq, wz])) ?_
  rintro ε σ ⟨hρ, rfl⟩
  refine wpa_seqx (fun ε σ => (ε 0 = aIxs l ∧ ε 3 = .ms 0 0 0 l.length 1) ∧ σ = [.obj 0 ((List.replicate l.length false).map aBool)]) ?_ ?_
  · intro N X R hN
    simp (maxSteps := 1000000) (implicitDefEqProofs := false) (disch := omega) only [push_cast, ↓reduceIte, Nat.reduceEqDiff, reduceCtorEq, wz, hρ, hIL]
    refine wpa_mks rfl (by omega) (by omega) ?_
    simp (maxSteps := 1000000) (implicitDefEqProofs := false) (disch := omega) only [push_cast, ↓reduceIte, Nat.reduceEqDiff, reduceCtorEq, wz, repA_one, repBo]
    exact hN _ _ (by simp (maxSteps := 1000000) (implicitDefEqProofs := false) (disch := omega) only [push_cast, ↓reduceIte, Nat.reduceEqDiff, reduceCtorEq, wz, hρ, repA_one, repBo, hIL])
  clear hρ ε
  rintro ε σ ⟨hρ, rfl⟩
  refine wpa_seqx (fun ε σ => (ε 0 = aIxs l ∧ ε 3 = .ms 0 0 0 l.length 1 ∧ ε 4 = .ms 1 0 0 1 1) ∧ σ[0]? = some (.obj 0 ((List.replicate l.length false).map aBool)) ∧ TdAt σ 0 [0]) ?_ ?_
  · intro N X R hN
    simp (maxSteps := 1000000) (implicitDefEqProofs := false) (disch := omega) only [push_cast, ↓reduceIte, Nat.reduceEqDiff, reduceCtorEq, wz, hρ]
    refine wpa_bslo (sz := 1) (by intro a ha; simp at ha; subst ha; rfl) (by simp) ?_
    simp (maxSteps := 1000000) (implicitDefEqProofs := false) (disch := omega) only [push_cast, ↓reduceIte, Nat.reduceEqDiff, reduceCtorEq, wz]
    exact hN _ _ ⟨by simp (maxSteps := 1000000) (implicitDefEqProofs := false) (disch := omega) only [push_cast, ↓reduceIte, Nat.reduceEqDiff, reduceCtorEq, wz, hρ], rfl, ⟨_, rfl, by simp, by simp [aNt, AV.cells, Value.cells]⟩⟩
  clear hρ ε
  rintro ε σ ⟨hρ, hs0, hs1⟩
  refine wpa_seqx (fun ε σ => ε 3 = .ms 0 0 0 l.length 1 ∧ σ[0]? = some (.obj 0 ((reachB l).map aBool))) ?_ ?_
  · intro N X R hN
    simp (maxSteps := 1000000) (implicitDefEqProofs := false) (disch := omega) only [push_cast, ↓reduceIte, Nat.reduceEqDiff, reduceCtorEq, wz]
    refine wpa_blx (α := Nat × List Bool × List Nat) (I := fun s ε σ => ∃ w, (ε 0 = aIxs l ∧ ε 3 = .ms 0 0 0 l.length 1 ∧ ε 4 = .ms 1 w 0 s.2.2.length 1) ∧ σ[0]? = some (.obj 0 (s.2.1.map aBool)) ∧ TdAt σ w s.2.2 ∧ Iv l s.2.1 s.2.2 ∧ 3 * cf s.2.1 + s.2.2.length ≤ s.1 ∧ s.1 ≤ 901 ∧ reachB l = dfs l s.1 s.2.1 s.2.2)
      (μ := fun s => s.1) (Q := fun ε σ => ε 3 = .ms 0 0 0 l.length 1 ∧ σ[0]? = some (.obj 0 ((reachB l).map aBool))) (x := (3 * l.length + 1, List.replicate l.length false, [0])) ?_ ?_ hN
    · exact ⟨0, hρ, hs0, hs1, iv0 l, by rw [cf_rep]; simp, by omega, rfl⟩
    · clear hN N X R hρ hs0 hs1 ε σ
      rintro ⟨n, out, todo⟩ ε σ N E X R ⟨w, hρ, hs0, hs1, hI, hn, hn9, hD⟩ hN hE
      simp only at hρ hs0 hs1 hI hn hn9 hD
      simp only [S_tidy_reached_L1]
      cases todo with
      | nil =>
        have hz : ¬ (0 : Int) < ((0 : Nat) : Int) := by omega
        simp (maxSteps := 1000000) (implicitDefEqProofs := false) (disch := omega) only [push_cast, ↓reduceIte, Nat.reduceEqDiff, reduceCtorEq, wz, hρ]
        refine hE _ _ ⟨by simp (maxSteps := 1000000) (implicitDefEqProofs := false) (disch := omega) only [push_cast, ↓reduceIte, Nat.reduceEqDiff, reduceCtorEq, wz, hρ], ?_⟩
        have : dfs l n out [] = out := by cases n <;> rfl
        rw [hD, this]
        exact hs0
      | cons i todo =>
        obtain ⟨n, rfl⟩ : ∃ n', n = n' + 1 := ⟨n - 1, by simp at hn; omega⟩
        have hi := (hI.tdo i (by simp)).lt hR
        obtain ⟨b, hb⟩ := at_lt (l := out) (k := i) (by rw [hI.len]; exact hi)
        obtain ⟨x, hx⟩ := at_lt hi
        simp only [dfs, List.getD_eq_getElem?_getD, hb, Option.getD_some] at hD
        simp only [List.length_cons] at hρ hn
        have hgt : (0 : Int) < ((todo.length + 1 : Nat) : Int) := by omega
        have tn : (((todo.length + 1 : Nat) : Int) - 1).toNat = todo.length := by omega
        have tn2 : ((todo.length : Int) + 1 - 1).toNat = todo.length := by omega
        refine wpa_seq (fun ε' σ' => (ε' 0 = aIxs l ∧ ε' 3 = .ms 0 0 0 l.length 1 ∧ ε' 4 = .ms 1 w 0 (todo.length + 1) 1) ∧ σ = σ') ?_ ?_
        · intro N2 hN2
          have hgt' : (0 : Int) < (todo.length : Int) + 1 := by omega
          simp (maxSteps := 1000000) (implicitDefEqProofs := false) (disch := omega) only [push_cast, ↓reduceIte, Nat.reduceEqDiff, reduceCtorEq, wz, hρ, hgt']
          exact hN2 _ _ ⟨by simp (maxSteps := 1000000) (implicitDefEqProofs := false) (disch := omega) only [push_cast, ↓reduceIte, Nat.reduceEqDiff, reduceCtorEq, wz, hρ], rfl⟩
        clear hρ ε
        rintro ε σ' ⟨hρ, rfl⟩
        refine wpa_blk fun X' hX' => ?_
        have hX1 : ∀ ε σ, X' 1 ε σ = N ε σ := fun ε σ => by rw [hX']; rfl
        refine wpa_seqx (fun ε' σ' => (ε' 0 = aIxs l ∧ ε' 3 = .ms 0 0 0 l.length 1 ∧ ε' 4 = .ms 1 w 0 (todo.length + 1) 1 ∧ ε' 5 = .v (.int .i64 i)) ∧ σ = σ') ?_ ?_
        · intro N2 X2 R2 hN2
          obtain ⟨cs, t1, t2⟩ := hs1.top
          simp (maxSteps := 1000000) (implicitDefEqProofs := false) (disch := omega) only [push_cast, ↓reduceIte, Nat.reduceEqDiff, reduceCtorEq, wz, hρ, tn2, t1, t2]
          exact hN2 _ _ ⟨by simp (maxSteps := 1000000) (implicitDefEqProofs := false) (disch := omega) only [push_cast, ↓reduceIte, Nat.reduceEqDiff, reduceCtorEq, wz, hρ], rfl⟩
        clear hρ ε
        rintro ε σ' ⟨hρ, rfl⟩
        replace hs1 := hs1.pop
        refine wpa_seqx (fun ε' σ' => (ε' 0 = aIxs l ∧ ε' 3 = .ms 0 0 0 l.length 1 ∧ ε' 4 = .ms 1 w 0 todo.length 1 ∧ ε' 5 = .v (.int .i64 i)) ∧ σ = σ') ?_ ?_
        · intro N2 X2 R2 hN2
          simp (maxSteps := 1000000) (implicitDefEqProofs := false) (disch := omega) only [push_cast, ↓reduceIte, Nat.reduceEqDiff, reduceCtorEq, wz, hρ, tn2]
          exact hN2 _ _ ⟨by simp (maxSteps := 1000000) (implicitDefEqProofs := false) (disch := omega) only [push_cast, ↓reduceIte, Nat.reduceEqDiff, reduceCtorEq, wz, hρ, tn2], rfl⟩
        clear hρ ε
        rintro ε σ' ⟨hρ, rfl⟩
        have hob : (out.map aBool)[i]? = some (.v (.bool b)) := by rw [List.getElem?_map, hb]; rfl
        have hX1' := hX1
        refine wpa_seq (fun ε' σ' => (ε' 0 = aIxs l ∧ ε' 3 = .ms 0 0 0 l.length 1 ∧ ε' 4 = .ms 1 w 0 todo.length 1 ∧ ε' 5 = .v (.int .i64 i)) ∧ σ = σ' ∧ b = false) ?_ ?_
        · intro N2 hN2
          cases b with
          | true =>
            simp (maxSteps := 1000000) (implicitDefEqProofs := false) (disch := omega) only [push_cast, ↓reduceIte, Nat.reduceEqDiff, reduceCtorEq, wz, hρ, hs0, hob, hX1]
            refine hN (n, out, todo) _ _ ?_ (by simp only; omega)
            exact ⟨w, by simp (maxSteps := 1000000) (implicitDefEqProofs := false) (disch := omega) only [push_cast, ↓reduceIte, Nat.reduceEqDiff, reduceCtorEq, wz, hρ], hs0, hs1, hI.skip hb, by simp only; omega, by simp only; omega, hD⟩
          | false =>
            simp (maxSteps := 1000000) (implicitDefEqProofs := false) (disch := omega) only [push_cast, ↓reduceIte, Nat.reduceEqDiff, reduceCtorEq, wz, hρ, hs0, hob]
            exact hN2 _ _ ⟨by simp (maxSteps := 1000000) (implicitDefEqProofs := false) (disch := omega) only [push_cast, ↓reduceIte, Nat.reduceEqDiff, reduceCtorEq, wz, hρ], rfl, rfl⟩
        clear hρ ε
        rintro ε σ' ⟨hρ, rfl, rfl⟩
        simp only [Bool.false_eq_true, if_false] at hD
        have hmk := hI.mark hb
        have hcf := cf_set hb
        have hsl := succ_len l i
        have hse := succ_end hx
        clear hI
        refine wpa_seqx (fun ε' σ' => (ε' 0 = aIxs l ∧ ε' 3 = .ms 0 0 0 l.length 1 ∧ ε' 4 = .ms 1 w 0 todo.length 1 ∧ ε' 5 = .v (.int .i64 i)) ∧ σ'[0]? = some (.obj 0 ((out.set i true).map aBool)) ∧ TdAt σ' w todo) ?_ ?_
        · intro N2 X2 R2 hN2
          simp (maxSteps := 1000000) (implicitDefEqProofs := false) (disch := omega) only [push_cast, ↓reduceIte, Nat.reduceEqDiff, reduceCtorEq, wz, hρ]
          have hol := lt_at hob
          refine wpa_st1 rfl rfl hs0 (by simpa using hol) ?_
          simp (maxSteps := 1000000) (implicitDefEqProofs := false) (disch := omega) only [push_cast, ↓reduceIte, Nat.reduceEqDiff, reduceCtorEq, wz, setBo]
          obtain ⟨cs, t1, t2⟩ := hs1
          exact hN2 _ _ ⟨by simp (maxSteps := 1000000) (implicitDefEqProofs := false) (disch := omega) only [push_cast, ↓reduceIte, Nat.reduceEqDiff, reduceCtorEq, wz, hρ], get_set_eq hs0, cs, get_set_ne (by decide) t1, t2⟩
        clear hρ hs0 hs1 hob hb hX1' ε σ
        rintro ε σ ⟨hρ, hs0, hs1⟩
        generalize out.set i true = out' at hs0 hmk hcf hD
        have hd := flat_drop aIx_len hx
        refine wpa_seqx (fun ε' σ' => ∃ ip, (ε' 0 = aIxs l ∧ ε' 3 = .ms 0 0 0 l.length 1 ∧ ε' 4 = .ms 1 w 0 todo.length 1 ∧ ε' 5 = .v (.int .i64 i) ∧ ε' 6 = .ref ip 0 0) ∧ σ'[0]? = some (.obj 0 (out'.map aBool)) ∧ TdAt σ' w todo ∧ σ'[ip]? = some (.obj 0 (aIx x)) ∧ ip ≠ 1) ?_ ?_
        · intro N2 X2 R2 hN2
          simp (maxSteps := 1000000) (implicitDefEqProofs := false) (disch := omega) only [push_cast, ↓reduceIte, Nat.reduceEqDiff, reduceCtorEq, wz, hρ, hIL, hd, cellsIx]
          refine wpa_new ?_
          simp (maxSteps := 1000000) (implicitDefEqProofs := false) (disch := omega) only [push_cast, ↓reduceIte, Nat.reduceEqDiff, reduceCtorEq, wz]
          refine wpa_stn (cs := [AV.v (.int .i64 0), AV.v (.int .i64 0), AV.v (.int .i64 0), AV.v (.int .i64 0)]) rfl rfl (at_snoc _ _) (by simp) ?_
          rw [z4set, set_snoc]
          simp (maxSteps := 1000000) (implicitDefEqProofs := false) (disch := omega) only [push_cast, ↓reduceIte, Nat.reduceEqDiff, reduceCtorEq, wz]
          obtain ⟨cs, t1, t2⟩ := hs1
          exact hN2 _ _ ⟨σ.length, by simp (maxSteps := 1000000) (implicitDefEqProofs := false) (disch := omega) only [push_cast, ↓reduceIte, Nat.reduceEqDiff, reduceCtorEq, wz, hρ, hIL], get_app hs0, ⟨cs, get_app t1, t2⟩, at_snoc _ _, by have := lt_at t1; omega⟩
        clear hρ hs0 hs1 ε σ
        rintro ε σ ⟨ip, hρ, hs0, hs1, hip, hip1⟩
        -- the next one
        refine wpa_seqx (fun ε' σ' => ∃ w, (ε' 0 = aIxs l ∧ ε' 3 = .ms 0 0 0 l.length 1 ∧ ε' 4 = .ms 1 w 0 ((if endsX x then [] else [i + 1]) ++ todo).length 1 ∧ ε' 5 = .v (.int .i64 i) ∧ ε' 6 = .ref ip 0 0) ∧ σ'[0]? = some (.obj 0 (out'.map aBool)) ∧ TdAt σ' w ((if endsX x then [] else [i + 1]) ++ todo) ∧ σ'[ip]? = some (.obj 0 (aIx x))) ?_ ?_
        · intro N2 X2 R2 hN2
          simp (maxSteps := 1000000) (implicitDefEqProofs := false) (disch := omega) only [push_cast, ↓reduceIte, Nat.reduceEqDiff, reduceCtorEq, wz, hρ, hip, ix0]
          refine wpa_call (tidy_ends_a x) ?_
          rintro a rfl
          cases he : endsX x with
          | true =>
            rw [he] at hN2
            simp (maxSteps := 1000000) (implicitDefEqProofs := false) (disch := omega) only [push_cast, ↓reduceIte, Nat.reduceEqDiff, reduceCtorEq, wz, aBool]
            exact hN2 _ _ ⟨w, (by simp (maxSteps := 1000000) (implicitDefEqProofs := false) (disch := omega) only [push_cast, ↓reduceIte, Nat.reduceEqDiff, reduceCtorEq, wz, hρ]; try rfl), hs0, hs1, hip⟩
          | false =>
            rw [he] at hN2
            obtain ⟨cs, t1, t2, t3⟩ := hs1
            simp (maxSteps := 1000000) (implicitDefEqProofs := false) (disch := omega) only [push_cast, ↓reduceIte, Nat.reduceEqDiff, reduceCtorEq, wz, aBool, hρ]
            refine wpa_bsl (sz := 1) (by intro a ha; simp at ha; subst ha; rfl) (by simp) ?_
            simp (maxSteps := 1000000) (implicitDefEqProofs := false) (disch := omega) only [push_cast, ↓reduceIte, Nat.reduceEqDiff, reduceCtorEq, wz]
            refine wpa_app_ms (m := 1) rfl rfl rfl rfl (by omega) (by omega) (by omega) t1 ?_
            simp (maxSteps := 1000000) (implicitDefEqProofs := false) (disch := omega) only [push_cast, ↓reduceIte, Nat.reduceEqDiff, reduceCtorEq, wz]
            refine hN2 _ _ ⟨w + 1, (by simp (maxSteps := 1000000) (implicitDefEqProofs := false) (disch := omega) only [push_cast, ↓reduceIte, Nat.reduceEqDiff, reduceCtorEq, wz, hρ]; try simp), get_set_ne (by decide) hs0, ?_, get_set_ne (fun h => hip1 h.symm) hip⟩
            exact TdAt.push t1 t2 t3 (i + 1)
        clear hρ hs0 hs1 hip ε σ w
        rintro ε σ ⟨w, hρ, hs0, hs1, hip⟩
        generalize hT : (if endsX x then [] else [i + 1]) ++ todo = T at hρ hs1
        have hsT : succX l i ++ todo = (match tgtX x with | some t => [t.toNat] | none => []) ++ T := by rw [hse, List.append_assoc, hT]
        have hTl : T.length ≤ todo.length + 1 := by rw [← hT, List.length_append]; split <;> simp <;> omega
        rw [hsT] at hD hmk
        have hlen : (succX l i ++ todo).length = ((match tgtX x with | some t => [t.toNat] | none => []) ++ T).length := by rw [hsT]
        rw [List.length_append] at hlen
        clear hsT hT hse
        refine wpa_seqx (fun ε' σ' => (ε' 0 = aIxs l ∧ ε' 3 = .ms 0 0 0 l.length 1 ∧ ε' 4 = .ms 1 w 0 T.length 1 ∧ ε' 7 = tgA x.op ip 0 0) ∧ σ = σ') ?_ ?_
        · intro N2 X2 R2 hN2
          simp (maxSteps := 1000000) (implicitDefEqProofs := false) (disch := omega) only [push_cast, ↓reduceIte, Nat.reduceEqDiff, reduceCtorEq, wz, hρ]
          refine wpa_callG (tidy_target_a hip (ix0 x)) ?_
          rintro a σ' ⟨rfl, rfl⟩
          simp (maxSteps := 1000000) (implicitDefEqProofs := false) (disch := omega) only [push_cast, ↓reduceIte, Nat.reduceEqDiff, reduceCtorEq, wz]
          exact hN2 _ _ ⟨by simp (maxSteps := 1000000) (implicitDefEqProofs := false) (disch := omega) only [push_cast, ↓reduceIte, Nat.reduceEqDiff, reduceCtorEq, wz, hρ], rfl⟩
        clear hρ ε
        rintro ε σ' ⟨hρ, rfl⟩
        have fin : ∀ (t : Nat), tgtX x = some (t : Int) → ∀ ε' σ' w', (ε' 0 = aIxs l ∧ ε' 3 = .ms 0 0 0 l.length 1 ∧ ε' 4 = .ms 1 w' 0 (T.length + 1) 1) → σ'[0]? = some (.obj 0 (out'.map aBool)) → TdAt σ' w' (t :: T) → act (N ε' σ') := by
          intro t ht ε' σ' w' h1 h2 h3
          rw [ht] at hD hmk hlen
          simp only [Int.toNat_natCast, List.singleton_append] at hD hmk hlen
          exact hN (n, out', t :: T) ε' σ' ⟨w', by simpa using h1, h2, h3, hmk, by simp only [List.length_cons] at hlen ⊢; omega, by simp only; omega, hD⟩ (by simp only; omega)
        by_cases c1 : x.op = 18
        · have htg := hR.tg i x x.a hx (tgt_jump c1)
          obtain ⟨t, ht⟩ : ∃ t : Nat, x.a = t := ⟨x.a.toNat, by omega⟩
          have htx : tgtX x = some (t : Int) := by rw [tgt_jump c1, ht]
          have hi1 := ix1 x
          rw [ht] at hi1
          rw [tg18 c1] at hρ
          obtain ⟨cs, t1, t2, t3⟩ := hs1
          simp (maxSteps := 1000000) (implicitDefEqProofs := false) (disch := omega) only [push_cast, ↓reduceIte, Nat.reduceEqDiff, reduceCtorEq, wz, hρ, hip, hi1]
          refine wpa_bsl (sz := 1) (by intro a ha; simp at ha; subst ha; rfl) (by simp) ?_
          simp (maxSteps := 1000000) (implicitDefEqProofs := false) (disch := omega) only [push_cast, ↓reduceIte, Nat.reduceEqDiff, reduceCtorEq, wz]
          refine wpa_app_ms (m := 1) rfl rfl rfl rfl (by omega) (by omega) (by omega) t1 ?_
          simp (maxSteps := 1000000) (implicitDefEqProofs := false) (disch := omega) only [push_cast, ↓reduceIte, Nat.reduceEqDiff, reduceCtorEq, wz]
          exact fin t htx _ _ (w + 1) (by simp (maxSteps := 1000000) (implicitDefEqProofs := false) (disch := omega) only [push_cast, ↓reduceIte, Nat.reduceEqDiff, reduceCtorEq, wz, hρ]) (get_set_ne (by decide) hs0) (TdAt.push t1 t2 t3 t)
        by_cases c2 : x.op = 19
        · have htx' : tgtX x = some x.b := by unfold tgtX; rw [if_neg c1, if_pos c2]
          have htg := hR.tg i x x.b hx htx'
          obtain ⟨t, ht⟩ : ∃ t : Nat, x.b = t := ⟨x.b.toNat, by omega⟩
          have htx : tgtX x = some (t : Int) := by rw [htx', ht]
          have hi1 := ix2 x
          rw [ht] at hi1
          rw [tg19 c1 c2] at hρ
          obtain ⟨cs, t1, t2, t3⟩ := hs1
          simp (maxSteps := 1000000) (implicitDefEqProofs := false) (disch := omega) only [push_cast, ↓reduceIte, Nat.reduceEqDiff, reduceCtorEq, wz, hρ, hip, hi1]
          refine wpa_bsl (sz := 1) (by intro a ha; simp at ha; subst ha; rfl) (by simp) ?_
          simp (maxSteps := 1000000) (implicitDefEqProofs := false) (disch := omega) only [push_cast, ↓reduceIte, Nat.reduceEqDiff, reduceCtorEq, wz]
          refine wpa_app_ms (m := 1) rfl rfl rfl rfl (by omega) (by omega) (by omega) t1 ?_
          simp (maxSteps := 1000000) (implicitDefEqProofs := false) (disch := omega) only [push_cast, ↓reduceIte, Nat.reduceEqDiff, reduceCtorEq, wz]
          exact fin t htx _ _ (w + 1) (by simp (maxSteps := 1000000) (implicitDefEqProofs := false) (disch := omega) only [push_cast, ↓reduceIte, Nat.reduceEqDiff, reduceCtorEq, wz, hρ]) (get_set_ne (by decide) hs0) (TdAt.push t1 t2 t3 t)
        have htx : tgtX x = none := by unfold tgtX; rw [if_neg c1, if_neg c2]
        rw [htx] at hD hmk hlen
        simp only [List.nil_append] at hD hmk hlen
        rw [tg0 c1 c2] at hρ
        simp (maxSteps := 1000000) (implicitDefEqProofs := false) (disch := omega) only [push_cast, ↓reduceIte, Nat.reduceEqDiff, reduceCtorEq, wz, hρ, Option.isNone_none]
        refine hN (n, out', T) _ _ ⟨w, by simp (maxSteps := 1000000) (implicitDefEqProofs := false) (disch := omega) only [push_cast, ↓reduceIte, Nat.reduceEqDiff, reduceCtorEq, wz, hρ], hs0, hs1, hmk, by simp only; omega, by simp only; omega, hD⟩ (by simp only; omega)
  clear hρ hs0 hs1 ε σ
  rintro ε σ ⟨hρ, hs0⟩
  obtain ⟨hlen, _⟩ := reachB_spec hR
  simp (maxSteps := 1000000) (implicitDefEqProofs := false) (disch := omega) only [push_cast, ↓reduceIte, Nat.reduceEqDiff, reduceCtorEq, wz, hρ]
  refine fin_res [0] ?_ (aBools_pure _)
  rw [freeze_one hs0 (aBoolL_res _ _), res_ms (get_set_eq hs0) (by simp [hlen]), ← hlen]
  rfl
end Go.Proofs.Ythgmfjkbgacfaaa
