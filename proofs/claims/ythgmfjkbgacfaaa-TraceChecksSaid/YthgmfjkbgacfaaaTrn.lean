/- Trace: what could happen follows. -/
import Derived.Test.YthgmfjkbgacfaaaTrm
namespace Go.Proofs.Ythgmfjkbgacfaaa
set_option linter.unusedVariables false
set_option linter.unusedSimpArgs false
open Go Go.Kx Go.Proofs Go.Proofs.Ythgmfjkbgacfaaa.Gr
open Go.Proofs.Ythgmfjkbgacfaaa (mixed)

theorem tl_fst (p : Ev → Bool) (l : List Ev) : (tl p l).map (·.1) = l.filter p := by
  unfold tl
  have : ∀ (l : List Ev) (k : Nat), ((l.zipIdx k).filter fun x => p x.1).map (·.1) = l.filter p := by
    intro l
    induction l with
    | nil => intro k; rfl
    | cons a l ih =>
      intro k
      rw [List.zipIdx_cons, List.filter_cons, List.filter_cons]
      split <;> simp [ih]
  exact this l 0
theorem rowsF_eq (l : List Ev) (lp : Int) : rowsF l lp = ((l.filter (ofLp lp)).foldl stepR ⟨[], []⟩).R := by
  unfold rowsF rowsX
  rw [← tl_fst, List.foldl_map]
def begunU (es : List Ev) : List (Int × Int) := (es.filter fun e => decide (e.k = 2)).map fun e => (e.it, e.st)
theorem begunF_eq (l : List Ev) (lp : Int) : begunF l lp = (begunU (l.filter (ofLp lp))).map fun q => (heldI q.1, heldI q.2) := by
  unfold begunF begunX begunU
  rw [← tl_fst (ofLp lp) l, List.filter_map, List.map_map, List.map_map]
  rfl
theorem run_inv (lp : Int) : ∀ (l : List Ev) (S : Int → Lp) (i : Nat) (s : RS) (B : List (Int × Int)), (checkF S i l).2 = 0 → Inv (S lp) s B → ∃ p, Inv p ((l.filter (ofLp lp)).foldl stepR s) (B ++ begunU (l.filter (ofLp lp))) := by
  intro l
  induction l with
  | nil => intro S i s B _ h; exact ⟨S lp, by simpa [begunU] using h⟩
  | cons e l ih =>
    intro S i s B h0 h
    simp only [checkF] at h0
    by_cases hk : e.k < 1 ∨ 6 < e.k
    · rw [if_pos hk] at h0; simp at h0
    rw [if_neg hk] at h0
    by_cases he : (eventT (S e.lp) e).2 ≠ 0
    · rw [if_pos he] at h0; exact absurd h0 he
    rw [if_neg he] at h0
    rw [List.filter_cons]
    by_cases hl : e.lp = lp
    · rw [show ofLp lp e = true by unfold ofLp; simp [hl], if_pos rfl, List.foldl_cons]
      have hst := h.step (e := e) hk (by rw [hl] at he; simpa using he)
      obtain ⟨p, hp⟩ := ih _ _ _ _ h0 (by simp only [updS, hl, if_true]; exact hst)
      refine ⟨p, ?_⟩
      have : B ++ begunU (e :: l.filter (ofLp lp)) = (B ++ if e.k = 2 then [(e.it, e.st)] else []) ++ begunU (l.filter (ofLp lp)) := by
        unfold begunU
        rw [List.filter_cons]
        by_cases h2 : e.k = 2 <;> simp [h2]
      rw [this]
      exact hp
    · rw [show ofLp lp e = false by unfold ofLp; simp [hl]]
      have hl' : ¬ lp = e.lp := fun h => hl h.symm
      exact ih _ _ _ _ h0 (by simp only [updS, hl', if_false]; exact h)
theorem incB_of : ∀ {r : List CC} {s : Int}, (∀ c ∈ r, s < c.st ∧ c.st ≤ 1048575) → (∀ (i j : Nat) (c d : CC), i < j → r[i]? = some c → r[j]? = some d → c.st < d.st) → incB s r = true := by
  intro r
  induction r with
  | nil => intro s _ _; rfl
  | cons c r ih =>
    intro s hb hi
    simp only [incB, Bool.and_eq_true, decide_eq_true_eq]
    have hc := hb c (by simp)
    refine ⟨hc, ih (fun d hd => ?_) fun i j a b hij ha hb' => hi (i + 1) (j + 1) a b (by omega) (by simpa using ha) (by simpa using hb')⟩
    obtain ⟨k, hk⟩ := List.getElem?_of_mem hd
    exact ⟨hi 0 (k + 1) c d (by omega) rfl (by simpa using hk), (hb d (by simp [hd])).2⟩
theorem ri_rowE {r : List CC} {x : It} (h : RI r x) (hl : r.length ≤ 100) : rowE r = 0 := by
  unfold rowE
  rw [if_neg (by omega)]
  cases r with
  | nil => have := h.pos; simp at this
  | cons c cs =>
    have hc := h.first
    simp at hc
    subst hc
    simp only [rowT]
    rw [if_neg (by simp), if_pos]
    refine incB_of (fun d hd => ?_) fun i j a b hij ha hb => h.inc (i + 1) (j + 1) a b (by omega) (by simpa using ha) (by simpa using hb)
    obtain ⟨k, hk⟩ := List.getElem?_of_mem hd
    exact ⟨h.inc 0 (k + 1) _ d (by omega) rfl (by simpa using hk), (h.bd d (by simp [hd])).2⟩
theorem rowsE_of {l : List (List CC)} (h : ∀ r ∈ l, rowE r = 0) : rowsE l = 0 := by
  induction l with
  | nil => rfl
  | cons r l ih =>
    simp only [rowsE]
    rw [if_neg (by simp [h r (by simp)])]
    exact ih fun r hr => h r (by simp [hr])
/-- When a node began. -/
theorem whenF_spec (b : List (Int × Int)) (q : Int × Int) : ∀ n, n ≤ b.length → (getE (whenF (b.take n)) q = 0 ∧ q ∉ b.take n) ∨ ∃ m : Nat, m < n ∧ getE (whenF (b.take n)) q = (m : Int) + 1 ∧ b[m]? = some q ∧ ∀ j, j < m → b[j]? ≠ some q := by
  intro n
  induction n with
  | zero => intro _; exact .inl ⟨rfl, by simp⟩
  | succ n ih =>
    intro hn
    obtain ⟨p, hp⟩ := at_lt (l := b) (k := n) (by omega)
    rw [whenF_succ hp, take_succ_at hp]
    have hst : getE (stepW (whenF (b.take n)) (p, n)) q = if q = p ∧ getE (whenF (b.take n)) p = 0 then (n : Int) + 1 else getE (whenF (b.take n)) q := by
      unfold stepW
      simp only
      by_cases h0 : getE (whenF (b.take n)) p = 0
      · rw [if_pos h0, getE_put]
        by_cases hq : q = p
        · rw [if_pos hq, if_pos ⟨hq, h0⟩]
        · rw [if_neg hq, if_neg fun h => hq h.1]
      · rw [if_neg h0, if_neg fun h => h0 h.2]
    rw [hst]
    rcases ih (by omega) with ⟨h1, h2⟩ | ⟨m, h1, h2, h3, h4⟩
    · by_cases hq : q = p
      · subst hq
        rw [if_pos ⟨rfl, h1⟩]
        refine .inr ⟨n, by omega, rfl, hp, fun j hj hb => h2 ?_⟩
        exact List.mem_of_getElem? (by rw [List.getElem?_take_of_lt hj]; exact hb)
      · rw [if_neg fun h => hq h.1]
        refine .inl ⟨h1, fun hm => ?_⟩
        rcases List.mem_append.1 hm with hm | hm
        · exact h2 hm
        · rw [List.mem_singleton] at hm; exact hq hm
    · refine .inr ⟨m, by omega, ?_, h3, h4⟩
      rw [if_neg]
      · exact h2
      · rintro ⟨rfl, h⟩; omega
theorem follows_of (l : List Ev) (lp : Int) (h : (checkF S0 0 l).2 = 0) (hf : fewF (rowsF l lp) = true) : followsF l lp = true := by
  obtain ⟨p, hI⟩ := run_inv lp l S0 0 ⟨[], []⟩ [] h inv0
  rw [List.nil_append] at hI
  have hrows := rowsF_eq l lp
  have hbeg := begunF_eq l lp
  unfold followsF
  unfold fewF at hf
  simp only [Bool.and_eq_true, decide_eq_true_eq, List.all_eq_true] at hf
  obtain ⟨hf1, hf2⟩ := hf
  rw [hrows] at hf1 hf2 ⊢
  generalize (l.filter (ofLp lp)).foldl stepR ⟨[], []⟩ = s at hI hf1 hf2 ⊢
  have hheld : (begunU (l.filter (ofLp lp))).map (fun q => (heldI q.1, heldI q.2)) = begunU (l.filter (ofLp lp)) := by
    conv => rhs; rw [← List.map_id (begunU (l.filter (ofLp lp)))]
    refine List.map_congr_left fun q hq => ?_
    obtain ⟨i, k, r, c, x, a1, a2, a3, a4, a5⟩ := hI.mem q hq
    have hb := (hI.row i r x a1 a3).bd c (List.mem_of_getElem? a2)
    have hi := lt_at a1
    rw [a4, heldI_id ⟨by simp only; omega, by simp only; omega⟩, heldI_id ⟨hb.1, by omega⟩]
    rfl
  rw [hbeg, hheld]
  generalize begunU (l.filter (ofLp lp)) = B at hI
  have hg : gchk s.R = 0 := by
    unfold gchk
    rw [if_neg (by omega)]
    refine rowsE_of fun r hr => ?_
    obtain ⟨i, hi⟩ := List.getElem?_of_mem hr
    obtain ⟨x, hx⟩ := hI.its hi
    exact ri_rowE (hI.row i r x hi hx) (hf1 r hr)
  rw [hg]
  simp only [decide_true, Bool.true_and, List.all_eq_true]
  intro e he
  unfold edgeL gEd at he
  obtain ⟨i, hi, he⟩ := List.mem_flatMap.1 he
  rw [List.mem_range] at hi
  unfold rowEd at he
  obtain ⟨k, hk, he⟩ := List.mem_flatMap.1 he
  rw [List.mem_range] at hk
  unfold cellEd at he
  obtain ⟨q, hq, rfl⟩ := List.mem_map.1 he
  obtain ⟨r, hr⟩ := at_lt hi
  rw [Go.Proofs.Ythgmfjkbgacfaaa.getD_at hr] at hk hq ⊢
  obtain ⟨c, hc⟩ := at_lt hk
  rw [Go.Proofs.Ythgmfjkbgacfaaa.getD_at hc]
  unfold badE
  simp only
  have hw1 := whenF_spec B ((i : Int), c.st) B.length (Nat.le_refl _)
  have hw2 := whenF_spec B q B.length (Nat.le_refl _)
  rw [List.take_length] at hw1 hw2
  rcases hw1 with ⟨h1, _⟩ | ⟨m, h1, h2, h3, h4⟩
  · simp [h1]
  · have hqm := hI.ord i k r c m hr hc h3 q hq
    obtain ⟨j, hj⟩ := List.getElem?_of_mem hqm
    have hjm := lt_at hj
    rw [List.length_take] at hjm
    rw [List.getElem?_take_of_lt (by omega)] at hj
    rcases hw2 with ⟨g1, g2⟩ | ⟨n, g1, g2, g3, g4⟩
    · exact absurd (List.mem_of_getElem? hj) g2
    · have hnj : n ≤ j := by
        rcases Nat.lt_or_ge j n with hlt | hge
        · exact absurd hj (g4 j hlt)
        · exact hge
      rw [h2, g2]
      have e1 : ¬ ((n : Int) + 1 = 0) := by omega
      have e2 : ¬ ((m : Int) + 1 < (n : Int) + 1) := by omega
      simp [e1]
      omega
end Go.Proofs.Ythgmfjkbgacfaaa
