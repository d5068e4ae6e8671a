/- Contracts on annotated values: strconv.Itoa, strings.Join, strings.Split. -/
import Derived.Test.YtjdpejggafefjaaDoorWa
import Derived.Test.YtjdpejggafefjaaDoorVs
import Derived.Lib.AppendIntMem
namespace Go.Proofs.YtjdpejggafefjaaDoor
set_option linter.unusedVariables false
set_option linter.unusedSimpArgs false
open Go Go.Kx Go.Proofs Go.RowKit

abbrev aS (s : ByteArray) : AV := .v (.string s)
theorem growD_below {n : Nat} {w w' : World} (hb : Below w.heap.size w w') : GrowD n w.heap w'.heap := ⟨hb.size, fun b o e _ => by rw [hb.block b (Array.getElem?_eq_some_iff.1 e).1]; exact e⟩
theorem same_below {w w' : World} (hb : Below w.heap.size w w') : Same w w' := ⟨hb.os, hb.tape, hb.output, hb.size, fun b o e _ => by rw [hb.block b (Array.getElem?_eq_some_iff.1 e).1]; exact e⟩
theorem fnp_below {P : Program} {f : FuncId} {ys : List AV} (hp : AV.pureL ys = true) {r : Value}
    (H : ∀ base G h vs, RelH base G h [] → RelL G ys vs → ∀ w : World, w.heap = h → Calls P f vs.toArray w fun e w' => e = .returned r ∧ Below w.heap.size w w') : FnP P f ys fun a => a = .v r := by
  refine ⟨hp, fun base G h vs hH hL w hw => (H base G h vs hH hL w hw).mono ?_⟩
  rintro e w' ⟨rfl, hb⟩
  subst hw
  exact ⟨r, rfl, ⟨G, .v r, [], .refl _ _, hH.growD (Nat.le_refl _) (growD_below hb), .v _, rfl, rfl⟩, same_below hb⟩

theorem itoa_a (n : Int) (h0 : -9223372036854775808 ≤ n) (h1 : n ≤ 9223372036854775807) : FnP Tryd.prog 64 [aInt n] fun a => a = aS ⟨(Lib.itoa n).toArray⟩ := by
  refine fnp_below rfl fun base G h vs hH hL w hw => ?_
  obtain ⟨u, us, rfl, k1, k2⟩ := hL.cons_inv
  obtain rfl := k2.nil_inv
  cases k1
  have ht : TabOk w.heap := by rw [hw]; exact hH.tab.keep hH.size hH.keep
  refine (Any.strconv_Itoa Tryd.laysItoa n h0 h1 w (ht.tab (by kernel_rfl))).mono ?_
  rintro e w' ⟨rfl, k, os, rfl⟩
  exact ⟨rfl, Lib.below_grow _ _ (Nat.le_refl _) k os⟩

theorem Tryd.extraJoin : Builder.Extra Tryd.prog Tryd.laysJoin_ren := {
  sizeBuilder := by kernel_rfl
  liesBuilder := by kernel_rfl
  t5 := Tryd.underlying5
  a5 := Tryd.isAgg5
  z5 := Tryd.sizeOf5
  v5 := Tryd.zeroValue5
  infoByte := by kernel_rfl
  cellsByte := by kernel_rfl
  sizeByte := by kernel_rfl
  neB5 := by decide }
theorem strs_get {G : Gh} {xs : List ByteArray} {vs : List Value} (hl : vs.length = (xs.map aS).length) (h : ∀ (i : Nat) (a : AV) (u : Value), (xs.map aS)[i]? = some a → vs[i]? = some u → RelV G a u) : vs = xs.map .string := by
  apply List.ext_getElem?
  intro i
  rw [List.length_map] at hl
  by_cases hi : i < xs.length
  · have hv := h i (aS xs[i]) vs[i] (by simp [hi]) (by simp [hl, hi])
    rw [List.getElem?_eq_getElem (by omega), List.getElem?_map, List.getElem?_eq_getElem hi]
    revert hv
    generalize vs[i] = z
    intro hv
    cases hv
    rfl
  · rw [List.getElem?_eq_none (by omega), List.getElem?_eq_none (by simpa using hi)]
theorem join_a (xs : List ByteArray) (sep : ByteArray) (t : Tok) (hp : (AV.sl xs.length (xs.map aS) t).pure = true) (hN : xs.length ≤ 140737488355328) (hlen : (Lib.join (xs.map (·.data.toList)) sep.data.toList).length ≤ 140737488355328) :
    FnP Tryd.prog 66 [.sl xs.length (xs.map aS) t, aS sep] fun a => a = aS ⟨(Lib.join (xs.map (·.data.toList)) sep.data.toList).toArray⟩ := by
  refine fnp_below (by simp only [AV.pureL, hp]; rfl) fun base G h vs hH hL w hw => ?_
  obtain ⟨u, us, rfl, k1, k2⟩ := hL.cons_inv
  obtain ⟨u2, us2, rfl, k3, k4⟩ := k2.cons_inv
  obtain rfl := k4.nil_inv
  cases k3
  cases k1 with
  | sl _ _ _ a cap vs h1 h2 h3 h4 h5 h6 =>
    obtain rfl := strs_get h1 h2
    rcases h5 with ⟨h5, _⟩ | ⟨b, off, rfl, h5⟩
    · obtain rfl := List.eq_nil_of_length_eq_zero h5
      exact (Any.strings_Join_none Tryd.laysJoin Tryd.extraJoin a cap sep w).mono fun e w' ⟨he, hw'⟩ => ⟨he, hw' ▸ Below.refl _ _⟩
    · have hcells : ∀ (j : Nat) x, xs[j]? = some x → w.cell? ⟨b, off + j, none⟩ = some (.string x) := by
        intro j x hx
        have := hH.st _ _ _ (h5 j (.string x) (by simp [hx]))
        rw [← hw, cellG_hp] at this
        exact this
      by_cases hz : xs = []
      · subst hz
        exact (Any.strings_Join_none Tryd.laysJoin Tryd.extraJoin _ cap sep w).mono fun e w' ⟨he, hw'⟩ => ⟨he, hw' ▸ Below.refl _ _⟩
      · obtain ⟨x, hx⟩ : ∃ x, xs[0]? = some x := by cases xs with | nil => exact absurd rfl hz | cons x _ => exact ⟨x, rfl⟩
        have hb : b < w.heap.size := by
          have := hH.st _ _ _ (h5 0 (.string x) (by simp [hx]))
          rw [hw]; exact cellG_lt this
        exact Any.strings_Join Tryd.laysJoin Tryd.extraJoin b off cap xs sep w hcells hb hN h3 hlen

theorem strs_pure (xs : List ByteArray) : AV.pureL (xs.map aS) = true := by
  induction xs with
  | nil => rfl
  | cons x xs ih => simp only [List.map_cons, AV.pureL, ih]; rfl
theorem split_a (s sep : ByteArray) (hs : s.size < 4294967281) (h1 : 1 ≤ sep.size) :
    FnP Tryd.prog 65 [aS s, aS sep] fun a => a = .sl (Lib.splitB sep 0 (Lib.countB s sep) s).length ((Lib.splitB sep 0 (Lib.countB s sep) s).map aS) .full := by
  refine ⟨rfl, fun base G h vs hH hL w hw => ?_⟩
  obtain ⟨u, us, rfl, k1, k2⟩ := hL.cons_inv
  obtain ⟨u2, us2, rfl, k3, k4⟩ := k2.cons_inv
  obtain rfl := k4.nil_inv
  cases k1
  cases k3
  have ht : TabOk w.heap := by rw [hw]; exact hH.tab.keep hH.size hH.keep
  obtain ⟨m, hm⟩ := ht.len
  have hlen := Lib.splitB_all sep h1 0 _ s rfl
  have hle := Lib.countB_le sep h1 s.size s (Nat.le_refl _)
  refine (Any.strings_Split Tryd.laysSplit (by kernel_rfl) s sep m w hs hm h1).mono ?_
  rintro e w' ⟨rfl, rfl⟩
  subst hw
  rw [← hlen]
  generalize Lib.splitB sep 0 (Lib.countB s sep) s = xs at hlen ⊢
  obtain ⟨g1, g2, g3⟩ := hH.newPub (xs.map Value.string) [] (Tryd.laysSplit_ren.t 9)
  rw [List.append_nil] at g2
  refine ⟨_, rfl, ⟨_, .sl xs.length (xs.map aS) .full, [], g1, g2, ?_, ?_, rfl⟩, ⟨rfl, rfl, rfl, .push _ _⟩⟩
  · refine .sl _ _ _ _ _ (xs.map .string) (by simp) ?_ (Nat.le_refl _) (by omega) (.inr ⟨_, _, rfl, g3⟩) ⟨rfl, _, _, rfl⟩
    intro i a u ha hu
    simp only [List.getElem?_map, Option.map_eq_some_iff] at ha hu
    obtain ⟨x, hx, rfl⟩ := ha
    obtain ⟨y, hy, rfl⟩ := hu
    rw [hx] at hy; cases hy
    exact .v _
  · simp only [AV.pure, strs_pure]; rfl
end Go.Proofs.YtjdpejggafefjaaDoor
