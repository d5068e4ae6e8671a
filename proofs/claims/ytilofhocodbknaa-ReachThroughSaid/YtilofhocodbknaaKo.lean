/- Own small program logic, part o: more steps and readings. -/
import Derived.Test.YtilofhocodbknaaKn
namespace Go.Kx
set_option linter.unusedVariables false
set_option linter.unusedSimpArgs false
open Go

def nodupB : List Nat → Bool
  | [] => true
  | x :: xs => !(xs.contains x) && nodupB xs
theorem nodupB_spec : ∀ {l : List Nat}, nodupB l = true → l.Nodup := by
  intro l
  induction l with
  | nil => intro _; exact List.nodup_nil
  | cons x xs ih =>
    intro h
    simp only [nodupB, Bool.and_eq_true, Bool.not_eq_true', List.contains_eq_mem, decide_eq_false_iff_not] at h
    exact List.nodup_cons.2 ⟨h.1, ih h.2⟩
def emp : HProp := fun _ => True
theorem emp_up : Up emp := fun _ _ _ _ => trivial
/-- Some of the pieces, in an order. -/
theorem Sat.pick {L : List HProp} {h : Heap} (H : Sat L h) (is : List Nat) (hn : nodupB is = true) (hb : (is.all fun i => Nat.blt i L.length) = true) : Sat (is.map fun i => L.getD i emp) h := by
  have hnd := nodupB_spec hn
  simp only [List.all_eq_true] at hb
  refine SatG.re H (fun j => is.getD j 0) ?_ ?_
  · intro j C hC
    simp only [List.getElem?_map, Option.map_eq_some_iff] at hC
    obtain ⟨i, hi, rfl⟩ := hC
    have hlt : i < L.length := by have := hb i (List.mem_of_getElem? hi); simpa [Nat.blt_eq] using this
    simp [List.getD_eq_getElem?_getD, hi, hlt]
  · intro j k hj hk e
    simp only [List.length_map] at hj hk
    simp only [List.getD_eq_getElem?_getD, List.getElem?_eq_getElem hj, List.getElem?_eq_getElem hk, Option.getD_some] at e
    exact (List.getElem_inj hnd).1 e
theorem Sat.set0 {C D : HProp} {L : List HProp} {h : Heap} (H : Sat (C :: L) h) (hc : ∀ g, C g → D g) : Sat (D :: L) h := H.mono1 hc

/-- A literal slice. -/
theorem wp_bsl {P : Program} {E : TypeId} {sz : Nat} {vs : List Value} {L : List HProp} {h : Heap} {K : Value → Heap → Prop} (H : Sat L h) (hv : ∀ v ∈ vs, v.cells.size = sz) (hl : vs.length ≤ 9223372036854775807)
    (hk : ∀ v h', Sat (L ++ [osl v sz (vs.flatMap (·.cells.toList)) E]) h' → act (K v h')) : act (EF.wp P (.bsl E sz) vs h K) := by
  have key : (∀ v ∈ vs, v.cells.size = sz) ∧ act (K (.slice (some ⟨h.size, 0, none⟩) vs.length vs.length) (h.push (.cells (vs.flatMap (·.cells.toList)).toArray E (0, 0)))) := by
    refine ⟨hv, hk _ _ (H.push _ _ (fun g hg => .inr ⟨h.size, vs.length, vs.length, [], rfl, ?_, ?_, ?_, hl⟩))⟩
    · simpa [blk] using hg
    · exact flat_cells vs hv
    · rw [List.append_nil]; exact flat_cells vs hv
  cases vs <;> exact key

theorem RSl.src {g : PH} {v : Value} {n sz : Nat} {cs : List Value} (H : RSl g v n sz cs) : srcV g sz v = some (n, cs) := by
  obtain ⟨h1, a, cap, rfl, h2, h3, h4⟩ := H
  rcases h4 with rfl | ⟨b, off, rfl, h5⟩
  · have : cs = [] := List.eq_nil_of_length_eq_zero (by simpa using h1)
    subst this
    cases a with
    | none => rfl
    | some a =>
      obtain ⟨b, off, spot⟩ := a
      cases spot with
      | none => simp [srcV, cellsG]
      | some s => rfl
  · simp only [srcV]
    have := cellsG_of (g := g) (b := b) (l := cs) (off := off) h5
    rw [← h1, this]
    rfl
/-! ### Words of 64 bits -/
def orN (m n : Nat) : Nat := m ||| n
def mod2 (m : Nat) : Nat := m % 2
def shrN (m s : Nat) : Nat := m >>> s
def pow2 (s : Nat) : Nat := 2 ^ s
theorem wrap_u64 {n : Nat} (h : n < 18446744073709551616) : IntKind.u64.wrap (n : Int) = n := by
  simp only [IntKind.wrap, IntKind.bits, IntKind.signed, Bool.false_and]
  simp
  omega
theorem bv_nat (n : Nat) : BitVec.ofInt 64 (n : Int) = BitVec.ofNat 64 n := by
  apply BitVec.eq_of_toNat_eq
  simp [BitVec.toNat_ofInt, BitVec.toNat_ofNat]
@[push_cast] theorem v_or_u64 (m n : Nat) (hm : m < 18446744073709551616) (hn : n < 18446744073709551616) : PF.val (.bin .or) [.int .u64 m, .int .u64 n] = some (.int .u64 (orN m n : Nat)) := by
  simp only [PF.val, binV, isSh, binI, if_true, Bool.false_eq_true, if_false]
  have : (BitVec.ofInt IntKind.u64.bits (m : Int) ||| BitVec.ofInt IntKind.u64.bits (n : Int)).toNat = m ||| n := by
    show (BitVec.ofInt 64 (m : Int) ||| BitVec.ofInt 64 (n : Int)).toNat = _
    rw [bv_nat, bv_nat]
    simp [Nat.mod_eq_of_lt hm, Nat.mod_eq_of_lt hn]
  rw [this, wrap_u64 (Nat.or_lt_two_pow (n := 64) hm hn)]
  rfl
@[push_cast] theorem v_and1_u64 (m : Nat) : PF.val (.bin .and) [.int .u64 m, .int .u64 1] = some (.int .u64 (mod2 m : Nat)) := by
  simp only [PF.val, binV, isSh, binI, if_true, Bool.false_eq_true, if_false]
  have : (BitVec.ofInt IntKind.u64.bits (m : Int) &&& BitVec.ofInt IntKind.u64.bits 1).toNat = m % 2 := by
    show (BitVec.ofInt 64 (m : Int) &&& 1#64).toNat = _
    rw [bv_nat]
    simp [Nat.and_one_is_mod]
  rw [this, wrap_u64 (by omega)]
  rfl
@[push_cast] theorem v_shr_u64 (w : Nat) (k : IntKind) (s : Int) (h0 : 0 ≤ s) (h1 : s < 64) : PF.val (.bin .shr) [.int .u64 w, .int k s] = some (.int .u64 (shrN w s.toNat : Nat)) := by
  obtain ⟨t, rfl⟩ : ∃ t : Nat, s = t := ⟨s.toNat, by omega⟩
  have h2 : min t 64 = t := by omega
  simp only [PF.val, binV, isSh, if_true, shI, IntKind.bits, Int.toNat_natCast, h2]
  rw [if_neg (by omega)]
  have h3 : (w : Int).fdiv (2 ^ t) = (w : Int) / 2 ^ t := Int.fdiv_eq_ediv_of_nonneg _ (Int.pow_nonneg (by omega))
  simp [shrN, Nat.shiftRight_eq_div_pow, h3]
@[push_cast] theorem v_shl1_u64 (k : IntKind) (s : Int) (h0 : 0 ≤ s) (h1 : s < 64) : PF.val (.bin .shl) [.int .u64 1, .int k s] = some (.int .u64 (pow2 s.toNat : Nat)) := by
  obtain ⟨t, rfl⟩ : ∃ t : Nat, s = t := ⟨s.toNat, by omega⟩
  have h2 : min t 64 = t := by omega
  simp only [PF.val, binV, isSh, if_true, shI, IntKind.bits, Int.toNat_natCast, h2]
  rw [if_neg (by omega)]
  have : (1 : Int) * 2 ^ t = ((2 ^ t : Nat) : Int) := by simp
  rw [this, wrap_u64]
  · rfl
  have : (2 : Nat) ^ t < 2 ^ 64 := Nat.pow_lt_pow_right (by omega) (by omega)
  simpa using this

theorem bit_spec (w k : Nat) : decide ((mod2 (shrN w k) : Int) = 1) = w.testBit k := by
  rw [Nat.testBit_eq_decide_div_mod_eq, Bool.eq_iff_iff]
  simp only [mod2, shrN, Nat.shiftRight_eq_div_pow, decide_eq_true_eq]
  omega
theorem mod64 (a : Nat) : ((a : Int) % 64).toNat = a % 64 := by omega

/-- An element of a slice of the call's own: its place, what it holds, and a store there. -/
theorem osl_at1 {L : List HProp} {h : Heap} (H : Sat L h) (i : Nat) {v : Value} {cs : List Value} {E : TypeId} (hi : L[i]? = some (osl v 1 cs E)) {k : Nat} (hk : k < cs.length) :
    ∃ p, PF.val (.ixa 1) [v, .int .i64 k] = some p ∧ ldV none p (hp h) = some cs[k] ∧
      ∀ (P : Program) (u : Value) (K : Value → Heap → Prop), u.oneCell' = true → u.cells = #[u] → (∀ h', Sat (L.set i (osl v 1 (cs.set k u) E)) h' → act (K undef h')) → act (EF.wp P (.st 1) [p, u] h K) := by
  have hC := H.get i hi (osl_up v 1 cs E)
  rcases hC with ⟨rfl, rfl⟩ | ⟨b, n, cap, rest, rfl, hblk, hn, hcap, hc63⟩
  · simp at hk
  · have hlt := (List.getElem?_eq_some_iff.1 hi).1
    have hset : ∀ C : HProp, (L.set i C)[i]? = some C := by intro C; simp [hlt]
    refine ⟨.pointer (some ⟨b, 0 + k * 1, none⟩), ?_, ?_, ?_⟩
    · rw [v_ixa _ _ _ _ _ _ _ (by omega) (by omega)]; simp
    · simp only [ldV]
      rw [cellG_blk hblk, Nat.zero_add, Nat.mul_one, List.getElem?_append_left hk]
      simp [hk]
    · intro P u K h1 h2 hK
      have H1 : Sat (L.set i (blk b (cs ++ rest) E)) h := by
        obtain ⟨w, hw⟩ := H
        have hC := hw i _ hi
        rcases hC with ⟨hv, _⟩ | ⟨b', n', cap', rest', hv, hblk', hn', hcap', _⟩
        · cases hv
        · simp only [Value.slice.injEq, Option.some.injEq, Addr.mk.injEq, and_true] at hv
          obtain ⟨rfl, rfl, rfl⟩ := hv
          have hrr : rest' = rest := by
            have e1 : hp h b = some (.cells (cs ++ rest').toArray E (0, 0)) := own_le w i (hp h) _ _ hblk'
            have e2 : hp h b = some (.cells (cs ++ rest).toArray E (0, 0)) := hblk
            rw [e1] at e2
            simpa using e2
          subst hrr
          refine ⟨w, fun j F hF => ?_⟩
          by_cases hj : j = i
          · subst hj
            rw [hset] at hF
            simp at hF
            subst hF
            exact hblk'
          · rw [List.getElem?_set_ne (Ne.symm hj)] at hF
            exact hw j F hF
      refine wp_st1 H1 i (hset _) (off := 0 + k * 1) (by simp; omega) h1 h2 ?_
      intro h' H'
      refine hK h' ?_
      rw [List.set_set] at H'
      obtain ⟨w, hw⟩ := H'
      refine ⟨w, fun j F hF => ?_⟩
      by_cases hj : j = i
      · subst hj
        rw [hset] at hF
        simp at hF
        subst hF
        have := hw j _ (hset _)
        refine .inr ⟨b, n, cap, rest, rfl, ?_, by simpa using hn, by simpa using hcap, hc63⟩
        rw [Nat.zero_add, Nat.mul_one, List.set_append_left _ _ hk] at this
        exact this
      · rw [List.getElem?_set_ne (Ne.symm hj)] at hF
        exact hw j F (by rw [List.getElem?_set_ne (Ne.symm hj)]; exact hF)

/-- Pieces that hold what is read, for each cell of a list. -/
def allR {α : Type} (R : PH → Value → α → Prop) (cs : List Value) (xs : List α) : HProp := fun g => ∀ (i : Nat) (u : Value) (x : α), cs[i]? = some u → xs[i]? = some x → R g u x
theorem allR_up {α : Type} {R : PH → Value → α → Prop} (hR : ∀ g g' u x, PH.le g g' → R g u x → R g' u x) (cs : List Value) (xs : List α) : Up (allR R cs xs) :=
  fun _ _ hle h i u x hu hx => hR _ _ _ _ hle (h i u x hu hx)
theorem osl_RSs {α : Type} {R : PH → Value → α → Prop} {g : PH} {v : Value} {cs : List Value} {E : TypeId} {xs : List α} (h1 : osl v 1 cs E g) (h2 : allR R cs xs g) (hl : cs.length = xs.length) : RSs R g v xs := by
  obtain ⟨n, hn, hr⟩ := osl_reads (by omega) h1
  have : n = xs.length := by omega
  subst this
  exact ⟨cs, hr, h2⟩
theorem rep_one (u : Value) (n : Nat) : rep [u] n = List.replicate n u := by
  simp only [rep]
  induction n with
  | zero => rfl
  | succ n ih => simp [List.replicate_succ, ih]

theorem ldV_up {g g' : PH} (h : PH.le g g') {p u : Value} (e : ldV none p g = some u) : ldV none p g' = some u := by
  unfold ldV at e ⊢
  split at e
  · exact cellG_up h e
  · cases e
theorem osl_one {v : Value} {sz : Nat} {cs : List Value} {E : TypeId} {g : PH} (h : osl v sz cs E g) : v.cells = #[v] ∧ v.oneCell' = true := by
  rcases h with ⟨rfl, _⟩ | ⟨b, n, cap, rest, rfl, _⟩ <;> exact ⟨rfl, rfl⟩
theorem Sat.one {L : List HProp} {h : Heap} (H : Sat L h) (i : Nat) {v : Value} {sz : Nat} {cs : List Value} {E : TypeId} (hi : L[i]? = some (Go.Kx.osl v sz cs E)) : v.cells = #[v] ∧ v.oneCell' = true :=
  osl_one (H.get i hi (Go.Kx.osl_up v sz cs E))
theorem RSl.one {g : PH} {v : Value} {n sz : Nat} {cs : List Value} (h : RSl g v n sz cs) : v.cells = #[v] ∧ v.oneCell' = true := by
  obtain ⟨_, a, cap, rfl, _⟩ := h
  exact ⟨rfl, rfl⟩

/-- A piece that holds anywhere. -/
theorem Sat.snoc {L : List HProp} {h : Heap} (H : Sat L h) {C : HProp} (hC : ∀ g, C g) : Sat (L ++ [C]) h := by
  obtain ⟨w, hw⟩ := H
  refine ⟨w, fun i D hD => ?_⟩
  by_cases hi : i < L.length
  · rw [List.getElem?_append_left hi] at hD
    exact hw i D hD
  · rw [List.getElem?_append_right (by omega)] at hD
    have : D = C := by
      have h2 := List.mem_of_getElem? hD
      simpa using h2
    subst this
    exact hC _

end Go.Kx
