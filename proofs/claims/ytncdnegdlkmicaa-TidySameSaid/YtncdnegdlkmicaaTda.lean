/- Tidy: instructions; where targets lead; what is reached; a round; till nothing changes. Plain. -/
import Derived.Test.YtncdnegdlkmicaaVm
namespace Go.Proofs.Ytncdnegdlkmicaa
set_option linter.unusedVariables false
set_option linter.unusedSimpArgs false
open Go Go.Kx Go.Proofs

structure Ix where
  op : Int
  a : Int
  b : Int
  c : Int
  deriving DecidableEq
def tgtX (x : Ix) : Option Int := if x.op = 18 then some x.a else if x.op = 19 then some x.b else none
def wthX (x : Ix) (t : Int) : Ix := if x.op = 18 then { x with a := t } else if x.op = 19 then { x with b := t } else x
def endsX (x : Ix) : Bool := decide (x.op = 0 ∨ x.op = 18 ∨ x.op = 25)
theorem wth_op (x : Ix) (t : Int) : (wthX x t).op = x.op := by unfold wthX; split; rfl; split <;> rfl
theorem wth_ends (x : Ix) (t : Int) : endsX (wthX x t) = endsX x := by unfold endsX; rw [wth_op]
theorem tgt_wth (x : Ix) (t : Int) : tgtX (wthX x t) = (tgtX x).map fun _ => t := by
  unfold tgtX wthX
  by_cases h : x.op = 18
  · simp [h]
  · by_cases h2 : x.op = 19 <;> simp [h, h2]
theorem wth_wth (x : Ix) (t u : Int) : wthX (wthX x t) u = wthX x u := by
  unfold wthX
  by_cases h : x.op = 18
  · simp [h]
  · by_cases h2 : x.op = 19 <;> simp [h, h2]
theorem wth_same {x : Ix} {t : Int} (h : tgtX x = some t) : wthX x t = x := by
  unfold tgtX at h
  unfold wthX
  obtain ⟨o, a, b, c⟩ := x
  simp only at h ⊢
  by_cases h1 : o = 18
  · simp [h1] at h; subst h; simp [h1]
  · by_cases h2 : o = 19
    · simp [h2] at h; subst h; simp [h2]
    · simp [h1, h2] at h
theorem wth_none {x : Ix} (t : Int) (h : tgtX x = none) : wthX x t = x := by
  unfold tgtX at h
  unfold wthX
  by_cases h1 : x.op = 18
  · simp [h1] at h
  · by_cases h2 : x.op = 19
    · simp [h1, h2] at h
    · simp [h1, h2]
/-- An instruction with its target turned. -/
def mapX (f : Nat → Nat) (x : Ix) : Ix := match tgtX x with | some t => wthX x (f t.toNat) | none => x
theorem map_op (f : Nat → Nat) (x : Ix) : (mapX f x).op = x.op := by unfold mapX; split; exact wth_op _ _; rfl
theorem map_ends (f : Nat → Nat) (x : Ix) : endsX (mapX f x) = endsX x := by unfold endsX; rw [map_op]
theorem tgt_map (f : Nat → Nat) (x : Ix) : tgtX (mapX f x) = (tgtX x).map fun t => (f t.toNat : Int) := by
  unfold mapX
  cases h : tgtX x with
  | none => simp [h]
  | some t => simp only; rw [tgt_wth, h]; rfl
theorem map_same {f : Nat → Nat} {x : Ix} (h : ∀ t, tgtX x = some t → 0 ≤ t ∧ f t.toNat = t.toNat) : mapX f x = x := by
  unfold mapX
  cases ht : tgtX x with
  | none => rfl
  | some t =>
    obtain ⟨h0, h1⟩ := h t ht
    simp only
    rw [h1, show ((t.toNat : Nat) : Int) = t by omega]
    exact wth_same ht
theorem tgt_jump {x : Ix} (h : x.op = 18) : tgtX x = some x.a := by unfold tgtX; rw [if_pos h]

/-- All targets are places. -/
structure Rt (l : List Ix) : Prop where
  pos : 0 < l.length
  tg : ∀ (i : Nat) (x : Ix) (t : Int), l[i]? = some x → tgtX x = some t → 0 ≤ t ∧ t < l.length
  last : ∀ x : Ix, l[l.length - 1]? = some x → endsX x = true

/-! ### Where a target leads on to -/
def nxt (l : List Ix) (t : Nat) : Nat := match l[t]? with | some x => if x.op = 18 then x.a.toNat else t | none => t
def runN (l : List Ix) : Nat → Nat → Nat
  | 0, t => t
  | n + 1, t => nxt l (runN l n t)
theorem run_add (l : List Ix) (n m t : Nat) : runN l (n + m) t = runN l n (runN l m t) := by
  induction n with
  | zero => rw [Nat.zero_add]; rfl
  | succ n ih => rw [Nat.succ_add]; simp only [runN]; rw [ih]
theorem run_fix {l : List Ix} {t : Nat} (h : nxt l t = t) (n : Nat) : runN l n t = t := by
  induction n with
  | zero => rfl
  | succ n ih => simp only [runN]; rw [ih, h]
def leadF (l : List Ix) (t : Nat) : Nat := if nxt l (runN l l.length t) = runN l l.length t then runN l l.length t else t
theorem nxt_lt {l : List Ix} (h : Rt l) {t : Nat} (ht : t < l.length) : nxt l t < l.length := by
  unfold nxt
  obtain ⟨x, hx⟩ := at_lt ht
  rw [hx]
  simp only
  split
  · rename_i hj
    have := h.tg t x _ hx (tgt_jump hj)
    omega
  · exact ht
theorem run_lt {l : List Ix} (h : Rt l) {t : Nat} (ht : t < l.length) (n : Nat) : runN l n t < l.length := by
  induction n with
  | zero => exact ht
  | succ n ih => exact nxt_lt h ih
theorem lead_lt {l : List Ix} (h : Rt l) {t : Nat} (ht : t < l.length) : leadF l t < l.length := by
  unfold leadF; split
  · exact run_lt h ht _
  · exact ht
/-- So many different numbers below n are no more than n. -/
theorem pigeon : ∀ (n : Nat) (l : List Nat), l.Nodup → (∀ x ∈ l, x < n) → l.length ≤ n := by
  intro n
  induction n with
  | zero => intro l _ h; cases l with
    | nil => simp
    | cons a l => have := h a (by simp); omega
  | succ n ih =>
    intro l hn h
    have h1 := ih (l.erase n) (hn.erase n) fun x hx => by
      have hx' := (List.Nodup.mem_erase_iff hn).1 hx
      have := h x hx'.2
      have := hx'.1
      omega
    have h2 := List.length_erase_le (a := n) (l := l)
    by_cases hm : n ∈ l
    · rw [List.length_erase_of_mem hm] at h1; omega
    · rw [List.erase_of_not_mem hm] at h1; omega
theorem run_map_nodup (f : Nat → Nat) : ∀ n, (∀ i j, i < j → j < n → f i ≠ f j) → ((List.range n).map f).Nodup := by
  intro n
  induction n with
  | zero => intro _; simp
  | succ n ih =>
    intro h
    rw [List.range_succ, List.map_append, List.nodup_append]
    refine ⟨ih fun i j hij hj => h i j hij (by omega), by simp, fun a ha b hb => ?_⟩
    simp only [List.mem_map, List.mem_range, List.map_cons, List.map_nil, List.mem_singleton] at ha hb
    obtain ⟨i, hi, rfl⟩ := ha
    subst hb
    exact h i n hi (by omega)
/-- What comes to where it stays comes there soon. -/
theorem run_soon {l : List Ix} (h : Rt l) {t : Nat} (ht : t < l.length) {n : Nat} (hn : nxt l (runN l n t) = runN l n t) : ∃ k, k < l.length ∧ nxt l (runN l k t) = runN l k t := by
  -- the least n
  have key : ∀ n, nxt l (runN l n t) = runN l n t → ∃ m, nxt l (runN l m t) = runN l m t ∧ ∀ k, k < m → nxt l (runN l k t) ≠ runN l k t := by
    intro n
    induction n using Nat.strongRecOn with
    | _ n ih =>
      intro hn
      by_cases hk : ∃ k, k < n ∧ nxt l (runN l k t) = runN l k t
      · obtain ⟨k, hk, hk'⟩ := hk
        exact ih k hk hk'
      · exact ⟨n, hn, fun k hkn he => hk ⟨k, hkn, he⟩⟩
  obtain ⟨m, hm, hlow⟩ := key n hn
  refine ⟨m, ?_, hm⟩
  have hd : ∀ i j, i < j → j < m + 1 → runN l i t ≠ runN l j t := by
    intro i j hij hj he
    have h1 : runN l (m - j + i) t = runN l m t := by
      rw [run_add, he, ← run_add, show m - j + j = m by omega]
    exact hlow (m - j + i) (by omega) (by rw [h1]; exact hm)
  have := pigeon l.length ((List.range (m + 1)).map fun i => runN l i t) (run_map_nodup _ _ hd) fun x hx => by
    obtain ⟨i, _, rfl⟩ := List.mem_map.1 hx
    exact run_lt h ht i
  simp at this
  omega
theorem run_len {l : List Ix} (h : Rt l) {t : Nat} (ht : t < l.length) {n : Nat} (hn : nxt l (runN l n t) = runN l n t) : nxt l (runN l l.length t) = runN l l.length t ∧ runN l l.length t = runN l n t := by
  obtain ⟨k, hk, he⟩ := run_soon h ht hn
  have e1 : runN l l.length t = runN l k t := by
    rw [show l.length = (l.length - k) + k by omega, run_add, run_fix he]
  have e2 : runN l n t = runN l k t := by
    by_cases hnk : n ≤ k
    · rw [show k = (k - n) + n by omega, run_add, run_fix hn]
    · rw [show n = (n - k) + k by omega, run_add, run_fix he]
  rw [e1, e2]
  exact ⟨he, rfl⟩
/-- Found on the way. -/
theorem lead_at {l : List Ix} (h : Rt l) {t : Nat} (ht : t < l.length) {n : Nat} (hn : nxt l (runN l n t) = runN l n t) : leadF l t = runN l n t := by
  obtain ⟨h1, h2⟩ := run_len h ht hn
  unfold leadF
  rw [if_pos h1, h2]
theorem lead_no {l : List Ix} (h : Rt l) {t : Nat} (ht : t < l.length) (hn : ∀ k, k < l.length → nxt l (runN l k t) ≠ runN l k t) : leadF l t = t := by
  unfold leadF
  rw [if_neg]
  intro he
  obtain ⟨k, hk, he⟩ := run_soon h ht he
  exact hn k hk he
def ledL (l : List Ix) : List Ix := l.map (mapX (leadF l))
theorem led_len (l : List Ix) : (ledL l).length = l.length := by simp [ledL]
theorem led_at {l : List Ix} {i : Nat} {x : Ix} (h : l[i]? = some x) : (ledL l)[i]? = some (mapX (leadF l) x) := by simp [ledL, h]
theorem led_rt {l : List Ix} (h : Rt l) : Rt (ledL l) := by
  refine ⟨by rw [led_len]; exact h.pos, fun i x t hi ht => ?_, fun x hx => ?_⟩
  · rw [led_len]
    obtain ⟨y, hy⟩ := at_lt (l := l) (k := i) (by rw [← led_len]; exact lt_at hi)
    rw [led_at hy] at hi
    cases hi
    rw [tgt_map] at ht
    cases hty : tgtX y with
    | none => rw [hty] at ht; cases ht
    | some u =>
      rw [hty] at ht
      simp at ht
      subst ht
      have := h.tg i y u hy hty
      have := lead_lt h (t := u.toNat) (by omega)
      omega
  · rw [led_len] at hx
    obtain ⟨y, hy⟩ := at_lt (l := l) (k := l.length - 1) (by have := h.pos; omega)
    rw [led_at hy] at hx
    cases hx
    rw [map_ends]
    exact h.last y hy
theorem nxt_led {l : List Ix} {t : Nat} {x : Ix} (_ : Rt l) (hx : l[t]? = some x) : nxt (ledL l) t = if x.op = 18 then leadF l x.a.toNat else t := by
  unfold nxt
  rw [led_at hx]
  simp only [map_op]
  split
  · rename_i hj
    have := tgt_map (leadF l) x
    rw [tgt_jump hj] at this
    rw [tgt_jump (by rw [map_op]; exact hj)] at this
    simp at this
    rw [this]; omega
  · rfl
theorem nxt_jump {l : List Ix} {t : Nat} {x : Ix} (hx : l[t]? = some x) (hj : x.op = 18) : nxt l t = x.a.toNat := by unfold nxt; rw [hx]; simp [hj]
theorem nxt_other {l : List Ix} {t : Nat} {x : Ix} (hx : l[t]? = some x) (hj : x.op ≠ 18) : nxt l t = t := by unfold nxt; rw [hx]; simp [hj]
theorem lead_lead {l : List Ix} (h : Rt l) {t : Nat} (ht : t < l.length) : leadF (ledL l) (leadF l t) = leadF l t := by
  have hm := led_rt h
  by_cases hf : nxt l (runN l l.length t) = runN l l.length t
  · have hl : leadF l t = runN l l.length t := by unfold leadF; rw [if_pos hf]
    rw [hl]
    have hu := run_lt h ht l.length
    generalize runN l l.length t = u at hf hu
    obtain ⟨x, hx⟩ := at_lt hu
    refine lead_at hm (by rw [led_len]; exact hu) (n := 0) ?_
    show nxt (ledL l) u = u
    rw [nxt_led h hx]
    split
    · rename_i hj
      rw [nxt_jump hx hj] at hf
      rw [hf]
      exact lead_at h hu (n := 0) (by show nxt l u = u; rw [nxt_jump hx hj]; exact hf)
    · rfl
  · have hl : leadF l t = t := by unfold leadF; rw [if_neg hf]
    rw [hl]
    have hno : ∀ n, nxt l (runN l n t) ≠ runN l n t := fun n hn => hf (run_len h ht hn).1
    have hstep : ∀ n, nxt (ledL l) (runN l n t) = nxt l (runN l n t) := by
      intro n
      have hu := run_lt h ht n
      obtain ⟨x, hx⟩ := at_lt hu
      have hn := hno n
      rw [nxt_led h hx]
      split
      · rename_i hj
        have e := nxt_jump hx hj
        rw [← e]
        refine lead_no h (nxt_lt h hu) fun k _ => ?_
        have : runN l k (nxt l (runN l n t)) = runN l (k + (n + 1)) t := by rw [run_add]; rfl
        rw [this]
        exact hno _
      · rename_i hj
        exact absurd (nxt_other hx hj) hn
    have hrun : ∀ n, runN (ledL l) n t = runN l n t := by
      intro n
      induction n with
      | zero => rfl
      | succ n ih => simp only [runN]; rw [ih, hstep]
    refine lead_no hm (by rw [led_len]; exact ht) fun k _ => ?_
    rw [hrun, hstep]
    exact hno k
theorem led_led {l : List Ix} (h : Rt l) : ledL (ledL l) = ledL l := by
  refine List.ext_getElem? fun i => ?_
  by_cases hi : i < l.length
  · obtain ⟨x, hx⟩ := at_lt hi
    rw [led_at (led_at hx), led_at hx]
    congr 1
    refine map_same fun t ht => ?_
    rw [tgt_map] at ht
    cases hty : tgtX x with
    | none => rw [hty] at ht; cases ht
    | some u =>
      rw [hty] at ht
      simp at ht
      subst ht
      have := h.tg i x u hx hty
      have := lead_lead h (t := u.toNat) (by omega)
      exact ⟨by omega, by simpa using this⟩
  · rw [List.getElem?_eq_none (by rw [led_len, led_len]; omega), List.getElem?_eq_none (by rw [led_len]; omega)]
/-! ### What is reached -/
def succX (l : List Ix) (i : Nat) : List Nat := match l[i]? with
  | some x => (match tgtX x with | some t => [t.toNat] | none => []) ++ (if endsX x then [] else [i + 1])
  | none => []
inductive Rc (l : List Ix) : Nat → Prop where
  | zero : Rc l 0
  | step {i j : Nat} : Rc l i → j ∈ succX l i → Rc l j
theorem succ_lt {l : List Ix} (h : Rt l) {i j : Nat} (hj : j ∈ succX l i) : j < l.length := by
  unfold succX at hj
  cases hx : l[i]? with
  | none => rw [hx] at hj; simp at hj
  | some x =>
    rw [hx] at hj
    simp only [List.mem_append] at hj
    rcases hj with hj | hj
    · cases ht : tgtX x with
      | none => rw [ht] at hj; simp at hj
      | some t =>
        rw [ht] at hj
        simp at hj
        have := h.tg i x t hx ht
        omega
    · by_cases he : endsX x = true
      · rw [if_pos he] at hj; simp at hj
      · rw [if_neg he] at hj
        simp at hj
        have hi := lt_at hx
        by_cases hl : i = l.length - 1
        · subst hl; exact absurd (h.last x hx) he
        · omega
theorem Rc.lt {l : List Ix} (h : Rt l) {i : Nat} (hr : Rc l i) : i < l.length := by
  cases hr with
  | zero => exact h.pos
  | step _ hj => exact succ_lt h hj
theorem Rc.next {l : List Ix} {i : Nat} {x : Ix} (hr : Rc l i) (hx : l[i]? = some x) (he : endsX x = false) : Rc l (i + 1) := .step hr (by unfold succX; rw [hx]; simp [he])
theorem Rc.tgt {l : List Ix} {i : Nat} {x : Ix} {t : Int} (hr : Rc l i) (hx : l[i]? = some x) (ht : tgtX x = some t) : Rc l t.toNat := .step hr (by unfold succX; rw [hx]; simp [ht])
/-- How many are not marked yet. -/
def cf (out : List Bool) : Nat := match out with | [] => 0 | b :: o => (if b then 0 else 1) + cf o
theorem cf_set : ∀ {out : List Bool} {i : Nat}, out[i]? = some false → cf (out.set i true) + 1 = cf out := by
  intro out
  induction out with
  | nil => intro i h; simp at h
  | cons b o ih =>
    intro i h
    cases i with
    | zero => simp at h; subst h; simp [cf]; omega
    | succ i => simp at h; have := ih h; simp [cf]; omega
theorem cf_rep (n : Nat) : cf (List.replicate n false) = n := by
  induction n with
  | zero => rfl
  | succ n ih => rw [List.replicate_succ]; simp [cf, ih]; omega
def dfs (l : List Ix) : Nat → List Bool → List Nat → List Bool
  | 0, out, _ => out
  | _ + 1, out, [] => out
  | n + 1, out, i :: todo => if out.getD i true then dfs l n out todo else dfs l n (out.set i true) (succX l i ++ todo)
structure Iv (l : List Ix) (out : List Bool) (todo : List Nat) : Prop where
  len : out.length = l.length
  sound : ∀ i : Nat, out[i]? = some true → Rc l i
  tdo : ∀ i ∈ todo, Rc l i
  clo : ∀ i j : Nat, out[i]? = some true → j ∈ succX l i → out[j]? = some true ∨ j ∈ todo
  zero : out[0]? = some true ∨ 0 ∈ todo
theorem succ_len (l : List Ix) (i : Nat) : (succX l i).length ≤ 2 := by
  unfold succX
  cases l[i]? with
  | none => simp
  | some x =>
    simp only [List.length_append]
    have h1 : (match tgtX x with | some t => [t.toNat] | none => []).length ≤ 1 := by cases tgtX x <;> simp
    have h2 : (if endsX x = true then [] else [i + 1]).length ≤ 1 := by split <;> simp
    omega
theorem Iv.skip {l : List Ix} {out : List Bool} {i : Nat} {todo : List Nat} (h : Iv l out (i :: todo)) (ho : out[i]? = some true) : Iv l out todo := by
  refine ⟨h.len, h.sound, fun j hj => h.tdo j (by simp [hj]), fun a b ha hb => ?_, ?_⟩
  · rcases h.clo a b ha hb with h1 | h1
    · exact .inl h1
    · rcases List.mem_cons.1 h1 with rfl | h1
      · exact .inl ho
      · exact .inr h1
  · rcases h.zero with h1 | h1
    · exact .inl h1
    · rcases List.mem_cons.1 h1 with h1 | h1
      · rw [← h1] at ho; exact .inl ho
      · exact .inr h1
theorem Iv.mark {l : List Ix} {out : List Bool} {i : Nat} {todo : List Nat} (h : Iv l out (i :: todo)) (ho : out[i]? = some false) : Iv l (out.set i true) (succX l i ++ todo) := by
  have hself : (out.set i true)[i]? = some true := List.getElem?_set_self (lt_at ho)
  have hRi := h.tdo i (by simp)
  have hset : ∀ j : Nat, (out.set i true)[j]? = some true → j = i ∨ out[j]? = some true := fun j hj => by
    by_cases e : i = j
    · exact .inl e.symm
    · rw [List.getElem?_set_ne e] at hj; exact .inr hj
  have hkeep : ∀ j : Nat, out[j]? = some true → (out.set i true)[j]? = some true := fun j hj => by
    by_cases e : i = j
    · subst e; exact hself
    · rw [List.getElem?_set_ne e]; exact hj
  refine ⟨by simp [h.len], fun j hj => ?_, fun j hj => ?_, fun a b ha hb => ?_, ?_⟩
  · rcases hset j hj with rfl | hj
    · exact hRi
    · exact h.sound j hj
  · rcases List.mem_append.1 hj with hj | hj
    · exact .step hRi hj
    · exact h.tdo j (by simp [hj])
  · rcases hset a ha with rfl | ha
    · exact .inr (by simp [hb])
    · rcases h.clo a b ha hb with h1 | h1
      · exact .inl (hkeep b h1)
      · rcases List.mem_cons.1 h1 with rfl | h1
        · exact .inl hself
        · exact .inr (by simp [h1])
  · rcases h.zero with h1 | h1
    · exact .inl (hkeep 0 h1)
    · rcases List.mem_cons.1 h1 with h1 | h1
      · rw [← h1] at hself; exact .inl (by rw [h1]; rw [h1] at hself; exact hself)
      · exact .inr (by simp [h1])
theorem Iv.done {l : List Ix} {out : List Bool} (h : Iv l out []) (i : Nat) : out[i]? = some true ↔ Rc l i := by
  refine ⟨h.sound i, fun hr => ?_⟩
  induction hr with
  | zero => rcases h.zero with h1 | h1; exact h1; simp at h1
  | step _ hj ih => rcases h.clo _ _ ih hj with h1 | h1; exact h1; simp at h1
theorem dfs_spec {l : List Ix} (hR : Rt l) : ∀ (n : Nat) (out : List Bool) (todo : List Nat), Iv l out todo → 3 * cf out + todo.length ≤ n → (dfs l n out todo).length = l.length ∧ ∀ i : Nat, (dfs l n out todo)[i]? = some true ↔ Rc l i := by
  intro n
  induction n with
  | zero =>
    intro out todo h hn
    have : todo = [] := List.length_eq_zero_iff.1 (by omega)
    subst this
    exact ⟨h.len, h.done⟩
  | succ n ih =>
    intro out todo h hn
    cases todo with
    | nil => exact ⟨h.len, h.done⟩
    | cons i todo =>
      have hi := (h.tdo i (by simp)).lt hR
      obtain ⟨b, hb⟩ := at_lt (l := out) (k := i) (by rw [h.len]; exact hi)
      simp only [dfs, List.getD_eq_getElem?_getD, hb, Option.getD_some]
      cases b with
      | true => exact ih out todo (h.skip hb) (by simp at hn; omega)
      | false =>
        simp only [Bool.false_eq_true, if_false]
        refine ih _ _ (h.mark hb) ?_
        have h1 := cf_set hb
        have h2 := succ_len l i
        simp at hn ⊢
        omega
def reachB (l : List Ix) : List Bool := dfs l (3 * l.length + 1) (List.replicate l.length false) [0]
theorem iv0 (l : List Ix) : Iv l (List.replicate l.length false) [0] := by
  have h : ∀ i : Nat, (List.replicate l.length false)[i]? ≠ some true := fun i h => by
    rw [List.getElem?_replicate] at h
    split at h <;> simp at h
  exact ⟨by simp, fun i hi => absurd hi (h i), fun i hi => by simp at hi; subst hi; exact .zero, fun i j hi => absurd hi (h i), .inr (by simp)⟩
theorem reachB_spec {l : List Ix} (hR : Rt l) : (reachB l).length = l.length ∧ ∀ i : Nat, (reachB l)[i]? = some true ↔ Rc l i :=
  dfs_spec hR _ _ _ (iv0 l) (by rw [cf_rep]; simp)
theorem bools_ext {a b : List Bool} (hl : a.length = b.length) (h : ∀ i : Nat, a[i]? = some true ↔ b[i]? = some true) : a = b := by
  refine List.ext_getElem? fun i => ?_
  by_cases hi : i < a.length
  · obtain ⟨x, hx⟩ := at_lt hi
    obtain ⟨y, hy⟩ := at_lt (l := b) (k := i) (by omega)
    have := h i
    rw [hx, hy] at this ⊢
    cases x <;> cases y <;> simp_all
  · rw [List.getElem?_eq_none (by omega), List.getElem?_eq_none (by omega)]
theorem reachB_uni {l : List Ix} (hR : Rt l) {out : List Bool} (hl : out.length = l.length) (h : ∀ i : Nat, out[i]? = some true ↔ Rc l i) : out = reachB l :=
  bools_ext (by rw [hl, (reachB_spec hR).1]) fun i => by rw [h i, (reachB_spec hR).2 i]

/-! ### What does nothing; a round -/
def usX (x : Ix) (i : Nat) : Bool := if x.op = 2 then decide (x.a = x.b) else match tgtX x with | some t => decide (t = (i : Int) + 1) | none => false
def usL (l : List Ix) (i : Nat) : Bool := match l[i]? with | some x => usX x i | none => false
def kp (m : List Ix) (i : Nat) : Bool := (reachB m).getD i false && !usL m i
def kN (m : List Ix) : Nat → List Ix
  | 0 => []
  | n + 1 => kN m n ++ match m[n]? with | some x => if kp m n then [x] else [] | none => []
def cnt (m : List Ix) (n : Nat) : Nat := (kN m n).length
def rndM (m : List Ix) : List Ix := (kN m m.length).map (mapX (cnt m))
def rnd (l : List Ix) : List Ix := rndM (ledL l)
theorem kN_succ {m : List Ix} {n : Nat} {x : Ix} (h : m[n]? = some x) : kN m (n + 1) = kN m n ++ if kp m n then [x] else [] := by simp only [kN]; rw [h]
theorem cnt_succ {m : List Ix} {n : Nat} {x : Ix} (h : m[n]? = some x) : cnt m (n + 1) = cnt m n + if kp m n then 1 else 0 := by
  unfold cnt; rw [kN_succ h, List.length_append]; split <;> rfl
theorem cnt_step (m : List Ix) (n : Nat) : cnt m n ≤ cnt m (n + 1) ∧ cnt m (n + 1) ≤ cnt m n + 1 := by
  by_cases h : n < m.length
  · obtain ⟨x, hx⟩ := at_lt h
    rw [cnt_succ hx]; split <;> omega
  · unfold cnt
    simp only [kN]
    rw [List.getElem?_eq_none (by omega)]
    simp
theorem cnt_mono (m : List Ix) {a b : Nat} (h : a ≤ b) : cnt m a ≤ cnt m b := by
  induction b with
  | zero => rw [Nat.le_zero.1 h]; omega
  | succ b ih =>
    by_cases e : a = b + 1
    · subst e; omega
    · have := ih (by omega); have := (cnt_step m b).1; omega
theorem cnt_le (m : List Ix) (n : Nat) : cnt m n ≤ n := by
  induction n with
  | zero => simp [cnt, kN]
  | succ n ih => have := (cnt_step m n).2; omega
theorem cnt_lt {m : List Ix} {i n : Nat} (hk : kp m i = true) (hi : i < m.length) (hn : i < n) : cnt m i < cnt m n := by
  obtain ⟨x, hx⟩ := at_lt hi
  have h1 := cnt_succ hx
  rw [if_pos hk] at h1
  have := cnt_mono m (a := i + 1) (b := n) (by omega)
  omega
theorem kp_rc {m : List Ix} (h : Rt m) {i : Nat} (hk : kp m i = true) : Rc m i := by
  unfold kp at hk
  simp only [Bool.and_eq_true, List.getD_eq_getElem?_getD] at hk
  refine ((reachB_spec h).2 i).1 ?_
  cases hb : (reachB m)[i]? with
  | none => rw [hb] at hk; simp at hk
  | some b => rw [hb] at hk; simp at hk; rw [hk.1]
theorem kp_of {m : List Ix} (h : Rt m) {i : Nat} (hr : Rc m i) (hu : usL m i = false) : kp m i = true := by
  unfold kp
  rw [List.getD_eq_getElem?_getD, ((reachB_spec h).2 i).2 hr, hu]
  rfl
/-- From what is reached on, something stays. -/
theorem stays {m : List Ix} (h : Rt m) : ∀ (d i : Nat), m.length - i = d → Rc m i → ∃ j, i ≤ j ∧ j < m.length ∧ kp m j = true := by
  intro d
  induction d with
  | zero => intro i hd hr; have := hr.lt h; omega
  | succ d ih =>
    intro i hd hr
    have hi := hr.lt h
    cases hu : usL m i with
    | false => exact ⟨i, Nat.le_refl _, hi, kp_of h hr hu⟩
    | true =>
      obtain ⟨x, hx⟩ := at_lt hi
      have hn : Rc m (i + 1) := by
        unfold usL at hu
        rw [hx] at hu
        unfold usX at hu
        simp only at hu
        by_cases h2 : x.op = 2
        · exact hr.next hx (by unfold endsX; simp [h2])
        · rw [if_neg h2] at hu
          cases ht : tgtX x with
          | none => rw [ht] at hu; simp at hu
          | some t =>
            rw [ht] at hu
            simp at hu
            have := hr.tgt hx ht
            rwa [show t.toNat = i + 1 by omega] at this
      obtain ⟨j, h1, h2, h3⟩ := ih (i + 1) (by omega) hn
      exact ⟨j, by omega, h2, h3⟩
theorem kN_at {m : List Ix} : ∀ (n k : Nat) (x : Ix), n ≤ m.length → (kN m n)[k]? = some x → ∃ i, i < n ∧ kp m i = true ∧ m[i]? = some x ∧ cnt m i = k := by
  intro n
  induction n with
  | zero => intro k x _ h; simp [kN] at h
  | succ n ih =>
    intro k x hn h
    obtain ⟨y, hy⟩ := at_lt (l := m) (k := n) (by omega)
    rw [kN_succ hy] at h
    by_cases hk : k < (kN m n).length
    · rw [List.getElem?_append_left hk] at h
      obtain ⟨i, h1, h2, h3, h4⟩ := ih k x (by omega) h
      exact ⟨i, by omega, h2, h3, h4⟩
    · rw [List.getElem?_append_right (by omega)] at h
      by_cases hp : kp m n = true
      · rw [if_pos hp] at h
        have hlt := lt_at h
        simp at hlt
        have e : k = (kN m n).length := by omega
        subst e
        simp at h
        subst h
        exact ⟨n, by omega, hp, hy, rfl⟩
      · rw [if_neg hp] at h; simp at h
theorem rnd_rt {m : List Ix} (h : Rt m) : Rt (rndM m) := by
  have hlen : (rndM m).length = cnt m m.length := by simp [rndM, cnt]
  refine ⟨?_, fun k x t hk ht => ?_, fun x hx => ?_⟩
  · obtain ⟨j, h1, h2, h3⟩ := stays h _ 0 rfl .zero
    rw [hlen]
    have := cnt_lt h3 h2 h2
    omega
  · rw [hlen]
    unfold rndM at hk
    rw [List.getElem?_map, Option.map_eq_some_iff] at hk
    obtain ⟨y, hy, rfl⟩ := hk
    obtain ⟨i, h1, h2, h3, h4⟩ := kN_at _ _ _ (Nat.le_refl _) hy
    rw [tgt_map] at ht
    cases hty : tgtX y with
    | none => rw [hty] at ht; cases ht
    | some u =>
      rw [hty] at ht
      simp at ht
      subst ht
      obtain ⟨j, g1, g2, g3⟩ := stays h _ _ rfl ((kp_rc h h2).tgt h3 hty)
      have := cnt_mono m g1
      have := cnt_lt g3 g2 g2
      omega
  · rw [hlen] at hx
    unfold rndM at hx
    rw [List.getElem?_map, Option.map_eq_some_iff] at hx
    obtain ⟨y, hy, rfl⟩ := hx
    obtain ⟨i, h1, h2, h3, h4⟩ := kN_at _ _ _ (Nat.le_refl _) hy
    rw [map_ends]
    cases he : endsX y with
    | true => rfl
    | false =>
      obtain ⟨j, g1, g2, g3⟩ := stays h _ _ rfl ((kp_rc h h2).next h3 he)
      have a1 := cnt_lt g3 g2 g2
      have a2 := cnt_lt h2 h1 g1
      omega
theorem rnd_len (l : List Ix) : (rnd l).length ≤ l.length := by
  have := cnt_le (ledL l) (ledL l).length
  rw [led_len] at this
  unfold rnd rndM
  rw [List.length_map, led_len]
  exact this
theorem all_kept {m : List Ix} (h : cnt m m.length = m.length) : ∀ n, n ≤ m.length → cnt m n = n ∧ kN m n = m.take n := by
  have hn : ∀ d n, n + d = m.length → cnt m n = n := by
    intro d
    induction d with
    | zero => intro n hn; rw [show n = m.length by omega]; exact h
    | succ d ih =>
      intro n hn
      have h1 := ih (n + 1) (by omega)
      have h2 := (cnt_step m n).2
      have h3 := cnt_le m n
      omega
  have hc : ∀ n, n ≤ m.length → cnt m n = n := fun n h => hn (m.length - n) n (by omega)
  intro n
  induction n with
  | zero => intro _; exact ⟨hc 0 (by omega), by simp [kN]⟩
  | succ n ih =>
    intro hl
    refine ⟨hc _ hl, ?_⟩
    obtain ⟨x, hx⟩ := at_lt (l := m) (k := n) (by omega)
    have h1 := cnt_succ hx
    rw [hc n (by omega), hc (n + 1) hl] at h1
    have hk : kp m n = true := by
      cases hk : kp m n with
      | true => rfl
      | false => rw [hk] at h1; simp at h1
    rw [kN_succ hx, (ih (by omega)).2, if_pos hk, List.take_add_one, hx]
    rfl
theorem rndM_all {m : List Ix} (hR : Rt m) (h : cnt m m.length = m.length) : rndM m = m := by
  unfold rndM
  rw [(all_kept h _ (Nat.le_refl _)).2, List.take_length]
  conv => rhs; rw [← List.map_id m]
  refine List.map_congr_left fun x hx => ?_
  obtain ⟨i, hi⟩ := List.getElem?_of_mem hx
  refine map_same fun t ht => ?_
  have := hR.tg i x t hi ht
  exact ⟨this.1, (all_kept h _ (by omega)).1⟩
/-- A round that leaves as many: the next one changes nothing. -/
theorem rnd_rnd {l : List Ix} (h : Rt l) (hl : (rnd l).length = l.length) : rnd (rnd l) = rnd l := by
  have hm := led_rt h
  have hc : cnt (ledL l) (ledL l).length = (ledL l).length := by
    have : (rnd l).length = cnt (ledL l) (ledL l).length := by simp [rnd, rndM, cnt]
    rw [← this, hl, led_len]
  have e : rnd l = ledL l := rndM_all hm hc
  rw [e]
  show rndM (ledL (ledL l)) = ledL l
  rw [led_led h]
  exact rndM_all hm hc
/-! ### Till nothing changes -/
def fixN : Nat → List Ix → List Ix
  | 0, l => l
  | n + 1, l => if rnd l = l then l else fixN n (rnd l)
def fixR (l : List Ix) : List Ix := fixN (l.length + 1) l
def muR (l : List Ix) : Nat := l.length + if rnd l = l then 0 else 1
theorem muR_lt {l : List Ix} (h : Rt l) (hne : rnd l ≠ l) : muR (rnd l) < muR l := by
  have hle := rnd_len l
  unfold muR
  rw [if_neg hne]
  by_cases hl : (rnd l).length = l.length
  · rw [if_pos (rnd_rnd h hl)]; omega
  · split <;> omega
theorem fixN_done {l : List Ix} (h : rnd l = l) (n : Nat) : fixN n l = l := by
  cases n with
  | zero => rfl
  | succ n => simp only [fixN]; rw [if_pos h]
theorem fixN_step {l : List Ix} (h : rnd l ≠ l) {n : Nat} : fixN (n + 1) l = fixN n (rnd l) := by simp only [fixN]; rw [if_neg h]
theorem muR_le (l : List Ix) : muR l ≤ l.length + 1 := by unfold muR; split <;> omega
theorem rnd_Rt {l : List Ix} (h : Rt l) : Rt (rnd l) := rnd_rt (led_rt h)
theorem fixN_spec : ∀ (n : Nat) (l : List Ix), Rt l → muR l ≤ n → rnd (fixN n l) = fixN n l ∧ Rt (fixN n l) ∧ (fixN n l).length ≤ l.length := by
  intro n
  induction n with
  | zero => intro l h hn; have := h.pos; unfold muR at hn; omega
  | succ n ih =>
    intro l h hn
    by_cases he : rnd l = l
    · rw [fixN_done he]; exact ⟨he, h, Nat.le_refl _⟩
    · rw [fixN_step he]
      have := muR_lt h he
      obtain ⟨h1, h2, h3⟩ := ih (rnd l) (rnd_Rt h) (by omega)
      exact ⟨h1, h2, Nat.le_trans h3 (rnd_len l)⟩
theorem fixR_spec {l : List Ix} (h : Rt l) : rnd (fixR l) = fixR l ∧ Rt (fixR l) ∧ (fixR l).length ≤ l.length := fixN_spec _ l h (muR_le l)
end Go.Proofs.Ytncdnegdlkmicaa
