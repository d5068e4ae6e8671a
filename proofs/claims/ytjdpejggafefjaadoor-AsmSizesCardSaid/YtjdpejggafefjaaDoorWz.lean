/- Words and numbers in writing: all walks (Wb .. Wo). -/
import Derived.Test.YtjdpejggafefjaaDoorWa
import Derived.Test.YtjdpejggafefjaaDoorVs
import Derived.Test.YtjdpejggafefjaaDoorCWd
import Derived.Lib.AppendIntMem
import Derived.Laws.RangeAny
import Derived.Lib.Join
import Derived.Lib.ItoaNum
import Derived.Lib.ItoaLen
/- Contracts on annotated values: strconv.Itoa, strings.Join, strings.Split. -/
namespace Go.Proofs.YtjdpejggafefjaaDoor
set_option linter.unusedVariables false
set_option linter.unusedSimpArgs false
open Go Go.Kx Go.Proofs Go.RowKit

abbrev aS (s : ByteArray) : AV := .v (.string s)
theorem growD_below {n : Nat} {w w' : World} (hb : Below w.heap.size w w') : GrowD n w.heap w'.heap := ⟨hb.size, fun b o e _ => by rw [hb.block b (Array.getElem?_eq_some_iff.1 e).1]; exact e⟩
theorem same_below {w w' : World} (hb : Below w.heap.size w w') : Same w w' := ⟨hb.os, hb.tape, hb.output, hb.size, fun b o e _ => by rw [hb.block b (Array.getElem?_eq_some_iff.1 e).1]; exact e⟩
theorem fnp_below {P : Program} {f : FuncId} {ys : List AV} (hp : AV.pureL ys = true) {r : Value}
    (H : ∀ base G h vs, RelH base G h [] → RelL G ys vs → ∀ w : World, w.heap = h → Calls P f vs.toArray w fun e w' => e = .returned r ∧ Below w.heap.size w w') : FnP P f ys fun a => a = .v r := by
  refine ⟨hp, fun base G h vs hH hL w hw => (H base G h vs hH hL w hw).mono ?_⟩
  rintro e w' ⟨rfl, hb⟩
  subst hw
  exact ⟨r, rfl, ⟨G, .v r, [], .refl _ _, hH.growD (Nat.le_refl _) (growD_below hb), .v _, rfl, rfl⟩, same_below hb⟩

theorem itoa_a (n : Int) (h0 : -9223372036854775808 ≤ n) (h1 : n ≤ 9223372036854775807) : FnP Tryd.prog 64 [aInt n] fun a => a = aS ⟨(Lib.itoa n).toArray⟩ := by
  refine fnp_below rfl fun base G h vs hH hL w hw => ?_
  obtain ⟨u, us, rfl, k1, k2⟩ := hL.cons_inv
  obtain rfl := k2.nil_inv
  cases k1
  have ht : TabOk w.heap := by rw [hw]; exact hH.tab.keep hH.size hH.keep
  refine (Any.strconv_Itoa Tryd.laysItoa n h0 h1 w (ht.tab (by kernel_rfl))).mono ?_
  rintro e w' ⟨rfl, k, os, rfl⟩
  exact ⟨rfl, Lib.below_grow _ _ (Nat.le_refl _) k os⟩

theorem Tryd.extraJoin : Builder.Extra Tryd.prog Tryd.laysJoin_ren := {
  sizeBuilder := by kernel_rfl
  liesBuilder := by kernel_rfl
  t5 := Tryd.underlying5
  a5 := Tryd.isAgg5
  z5 := Tryd.sizeOf5
  v5 := Tryd.zeroValue5
  infoByte := by kernel_rfl
  cellsByte := by kernel_rfl
  sizeByte := by kernel_rfl
  neB5 := by decide }
theorem strs_get {G : Gh} {xs : List ByteArray} {vs : List Value} (hl : vs.length = (xs.map aS).length) (h : ∀ (i : Nat) (a : AV) (u : Value), (xs.map aS)[i]? = some a → vs[i]? = some u → RelV G a u) : vs = xs.map .string := by
  apply List.ext_getElem?
  intro i
  rw [List.length_map] at hl
  by_cases hi : i < xs.length
  · have hv := h i (aS xs[i]) vs[i] (by simp [hi]) (by simp [hl, hi])
    rw [List.getElem?_eq_getElem (by omega), List.getElem?_map, List.getElem?_eq_getElem hi]
    revert hv
    generalize vs[i] = z
    intro hv
    cases hv
    rfl
  · rw [List.getElem?_eq_none (by omega), List.getElem?_eq_none (by simpa using hi)]
theorem join_a (xs : List ByteArray) (sep : ByteArray) (t : Tok) (hp : (AV.sl xs.length (xs.map aS) t).pure = true) (hN : xs.length ≤ 140737488355328) (hlen : (Lib.join (xs.map (·.data.toList)) sep.data.toList).length ≤ 140737488355328) :
    FnP Tryd.prog 66 [.sl xs.length (xs.map aS) t, aS sep] fun a => a = aS ⟨(Lib.join (xs.map (·.data.toList)) sep.data.toList).toArray⟩ := by
  refine fnp_below (by simp only [AV.pureL, hp]; rfl) fun base G h vs hH hL w hw => ?_
  obtain ⟨u, us, rfl, k1, k2⟩ := hL.cons_inv
  obtain ⟨u2, us2, rfl, k3, k4⟩ := k2.cons_inv
  obtain rfl := k4.nil_inv
  cases k3
  cases k1 with
  | sl _ _ _ a cap vs h1 h2 h3 h4 h5 h6 =>
    obtain rfl := strs_get h1 h2
    rcases h5 with ⟨h5, _⟩ | ⟨b, off, rfl, h5⟩
    · obtain rfl := List.eq_nil_of_length_eq_zero h5
      exact (Any.strings_Join_none Tryd.laysJoin Tryd.extraJoin a cap sep w).mono fun e w' ⟨he, hw'⟩ => ⟨he, hw' ▸ Below.refl _ _⟩
    · have hcells : ∀ (j : Nat) x, xs[j]? = some x → w.cell? ⟨b, off + j, none⟩ = some (.string x) := by
        intro j x hx
        have := hH.st _ _ _ (h5 j (.string x) (by simp [hx]))
        rw [← hw, cellG_hp] at this
        exact this
      by_cases hz : xs = []
      · subst hz
        exact (Any.strings_Join_none Tryd.laysJoin Tryd.extraJoin _ cap sep w).mono fun e w' ⟨he, hw'⟩ => ⟨he, hw' ▸ Below.refl _ _⟩
      · obtain ⟨x, hx⟩ : ∃ x, xs[0]? = some x := by cases xs with | nil => exact absurd rfl hz | cons x _ => exact ⟨x, rfl⟩
        have hb : b < w.heap.size := by
          have := hH.st _ _ _ (h5 0 (.string x) (by simp [hx]))
          rw [hw]; exact cellG_lt this
        exact Any.strings_Join Tryd.laysJoin Tryd.extraJoin b off cap xs sep w hcells hb hN h3 hlen

theorem strs_pure (xs : List ByteArray) : AV.pureL (xs.map aS) = true := by
  induction xs with
  | nil => rfl
  | cons x xs ih => simp only [List.map_cons, AV.pureL, ih]; rfl
theorem split_a (s sep : ByteArray) (hs : s.size < 4294967281) (h1 : 1 ≤ sep.size) :
    FnP Tryd.prog 65 [aS s, aS sep] fun a => a = .sl (Lib.splitB sep 0 (Lib.countB s sep) s).length ((Lib.splitB sep 0 (Lib.countB s sep) s).map aS) .full := by
  refine ⟨rfl, fun base G h vs hH hL w hw => ?_⟩
  obtain ⟨u, us, rfl, k1, k2⟩ := hL.cons_inv
  obtain ⟨u2, us2, rfl, k3, k4⟩ := k2.cons_inv
  obtain rfl := k4.nil_inv
  cases k1
  cases k3
  have ht : TabOk w.heap := by rw [hw]; exact hH.tab.keep hH.size hH.keep
  obtain ⟨m, hm⟩ := ht.len
  have hlen := Lib.splitB_all sep h1 0 _ s rfl
  have hle := Lib.countB_le sep h1 s.size s (Nat.le_refl _)
  refine (Any.strings_Split Tryd.laysSplit (by kernel_rfl) s sep m w hs hm h1).mono ?_
  rintro e w' ⟨rfl, rfl⟩
  subst hw
  rw [← hlen]
  generalize Lib.splitB sep 0 (Lib.countB s sep) s = xs at hlen ⊢
  obtain ⟨g1, g2, g3⟩ := hH.newPub (xs.map Value.string) [] (Tryd.laysSplit_ren.t 9)
  rw [List.append_nil] at g2
  refine ⟨_, rfl, ⟨_, .sl xs.length (xs.map aS) .full, [], g1, g2, ?_, ?_, rfl⟩, ⟨rfl, rfl, rfl, .push _ _⟩⟩
  · refine .sl _ _ _ _ _ (xs.map .string) (by simp) ?_ (Nat.le_refl _) (by omega) (.inr ⟨_, _, rfl, g3⟩) ⟨rfl, _, _, rfl⟩
    intro i a u ha hu
    simp only [List.getElem?_map, Option.map_eq_some_iff] at ha hu
    obtain ⟨x, hx, rfl⟩ := ha
    obtain ⟨y, hy, rfl⟩ := hu
    rw [hx] at hy; cases hy
    exact .v _
  · simp only [AV.pure, strs_pure]; rfl
end Go.Proofs.YtjdpejggafefjaaDoor
/- Plain: runes of more than a byte hold no ASCII byte; a text cut at a sign; Join and numbers as the chapter has them. -/
namespace Go.Proofs.YtjdpejggafefjaaDoor
set_option linter.unusedVariables false
set_option linter.unusedSimpArgs false
open Go Go.Kx Go.Proofs

theorem get_bang (s : ByteArray) (i : Nat) (h : i < s.size) : s.get! i = s[i]'h := by
  simp [ByteArray.get!, getElem!_pos, h]
  rfl
theorem data_at {s : ByteArray} {i : Nat} (h : i < s.size) : s.data.toList[i]? = some (s.get! i) := by
  rw [get_bang s i h, Array.getElem?_toList]
  exact getElem?_pos s.data i h
theorem dec_high (s : ByteArray) (pos : Nat) (h : pos < s.size) (ha : 128 ≤ (s.get! pos).toNat) :
    pos + (Utf8.decode s pos).2 ≤ s.size ∧ ∀ j, j < (Utf8.decode s pos).2 → 128 ≤ (s.get! (pos + j)).toNat := by
  have hn : ¬ (s.get! (pos + 0)).toNat < 128 := by rw [Nat.add_zero]; omega
  simp only [Utf8.decode, if_neg hn, Bool.and_eq_true, decide_eq_true_eq, beq_iff_eq]
  repeat' split
  all_goals (refine ⟨by dsimp only; omega, fun j hj => ?_⟩; dsimp only at hj)
  all_goals (rcases j with _ | _ | _ | _ | j)
  all_goals (first | omega | (rw [Nat.add_zero]; omega))

/-- The parts of a text at a sign: the empty ones too, or not. -/
def partsB (sign : UInt8) (em : Bool) : List UInt8 → List UInt8 → List (List UInt8)
  | cur, [] => if cur = [] then [] else [cur]
  | cur, b :: bs => if b = sign then (if em = true ∨ cur ≠ [] then cur :: partsB sign em [] bs else partsB sign em [] bs) else partsB sign em (cur ++ [b]) bs
theorem partsB_skip {sign : UInt8} {em : Bool} : ∀ (xs cur bs : List UInt8), (∀ x ∈ xs, x ≠ sign) → partsB sign em cur (xs ++ bs) = partsB sign em (cur ++ xs) bs := by
  intro xs
  induction xs with
  | nil => intro cur bs _; simp
  | cons x xs ih =>
    intro cur bs h
    rw [List.cons_append]
    simp only [partsB]
    rw [if_neg (h x (by simp)), ih _ _ fun y hy => h y (by simp [hy])]
    simp
theorem partsB_len {sign : UInt8} {em : Bool} : ∀ (bs cur : List UInt8), (partsB sign em cur bs).length ≤ bs.length + (if cur = [] then 0 else 1) ∧ ∀ x ∈ partsB sign em cur bs, x.length ≤ bs.length + cur.length := by
  intro bs
  induction bs with
  | nil =>
    intro cur
    simp only [partsB]
    split <;> simp
  | cons b bs ih =>
    intro cur
    simp only [partsB]
    split
    · obtain ⟨h1, h2⟩ := ih []
      simp only [if_true, List.length_nil, Nat.add_zero] at h1 h2
      split
      · refine ⟨by simp only [List.length_cons]; split <;> omega, fun x hx => ?_⟩
        rcases List.mem_cons.1 hx with rfl | hx
        · simp only [List.length_cons]; omega
        · have := h2 x hx; simp only [List.length_cons]; omega
      · exact ⟨by simp only [List.length_cons]; split <;> omega, fun x hx => by have := h2 x hx; simp only [List.length_cons]; omega⟩
    · obtain ⟨h1, h2⟩ := ih (cur ++ [b])
      simp only [List.append_eq_nil_iff, List.cons_ne_nil, and_false, if_false, List.length_append, List.length_singleton] at h1 h2
      refine ⟨by simp only [List.length_cons]; split <;> omega, fun x hx => by have := h2 x hx; simp only [List.length_cons]; omega⟩

/-- Words as a line, as the chapter puts them together. -/
def joinR (sep : List UInt8) : List (List UInt8) → Bool → List UInt8
  | [], _ => []
  | x :: xs, first => (if first then [] else sep) ++ x ++ joinR sep xs false
theorem joinR_tail (sep : List UInt8) : ∀ xs, joinR sep xs false = Lib.joinTail sep xs := by
  intro xs
  induction xs with
  | nil => rfl
  | cons x xs ih => simp only [joinR, ih, Lib.joinTail, List.map_cons, List.flatten_cons]; simp
theorem join_joinR (sep : List UInt8) (xs : List (List UInt8)) : Lib.join xs sep = joinR sep xs true := by
  cases xs with
  | nil => rfl
  | cons x xs => rw [Lib.join_cons, joinR, joinR_tail]; simp
end Go.Proofs.YtjdpejggafefjaaDoor
/- words.parts, Fields, Lines. -/
namespace Go.Proofs.YtjdpejggafefjaaDoor
set_option linter.unusedVariables false
set_option linter.unusedSimpArgs false
open Go Go.Kx Go.Proofs

theorem mixed : Tryd.prog.follows .mixedOrders = true := by kernel_rfl
abbrev bA (l : List UInt8) : ByteArray := ⟨l.toArray⟩
abbrev aB (l : List UInt8) : AV := .v (.string (bA l))
theorem extract_bA (s : ByteArray) (i j : Nat) : s.extract i j = bA ((s.data.toList.drop i).take (j - i)) := by
  apply str_ext
  rw [ByteArray.data_extract, Array.toList_extract, List.extract_eq_take_drop]
theorem aB_res (σ : Kx.St) (l : List UInt8) : (aB l).res σ = aB l := rfl
theorem aBs_pure (P : List (List UInt8)) : AV.pureL (P.map aB) = true := by
  induction P with
  | nil => rfl
  | cons x xs ih => simp only [List.map_cons, AV.pureL, ih]; rfl
@[push_cast] theorem pv_sls_l (s : ByteArray) (k : IntKind) (i : Int) (h0 : 0 ≤ i) (h1 : i ≤ s.size) : PF.val (.sls true false) [.string s, .int k i] = some (.string (s.extract i.toNat s.size)) := by
  simp [PF.val, loHi, bound_in s.size k i h0 h1]
theorem aBl_pure (P : List (List UInt8)) : (aSl aB P).pure = true := by
  simp only [aSl, AV.pure, aBs_pure]; rfl
/-- What stands behind pos, with what was taken so far. -/
def restB (sg : UInt8) (em : Bool) (s : ByteArray) (fr k : Nat) : List (List UInt8) := partsB sg em ((s.data.toList.drop fr).take (k - fr)) (s.data.toList.drop k)
theorem restB_skip {sg : UInt8} {em : Bool} {s : ByteArray} {fr k n : Nat} (h1 : fr ≤ k) (h2 : k + n ≤ s.size) (h : ∀ j, j < n → s.get! (k + j) ≠ sg) : restB sg em s fr k = restB sg em s fr (k + n) := by
  unfold restB
  have e : s.data.toList.drop k = (s.data.toList.drop k).take n ++ s.data.toList.drop (k + n) := by
    rw [← List.drop_drop, List.take_append_drop]
  rw [e, partsB_skip]
  · congr 1
    have : (s.data.toList.drop k).take n = ((s.data.toList.drop fr).drop (k - fr)).take n := by rw [List.drop_drop, show fr + (k - fr) = k by omega]
    rw [this, show k + n - fr = (k - fr) + n by omega, List.take_add]
  · intro x hx
    obtain ⟨j, hj⟩ := List.mem_iff_getElem?.1 hx
    rw [List.getElem?_take] at hj
    split at hj
    · rename_i hjn
      rw [List.getElem?_drop, data_at (by omega)] at hj
      cases hj
      exact h j hjn
    · cases hj
theorem restB_sign {sg : UInt8} {em : Bool} {s : ByteArray} {fr k : Nat} (h2 : k < s.size) (h : s.get! k = sg) :
    restB sg em s fr k = (if em = true ∨ (s.data.toList.drop fr).take (k - fr) ≠ [] then [(s.data.toList.drop fr).take (k - fr)] else []) ++ restB sg em s (k + 1) (k + 1) := by
  unfold restB
  rw [drop_at (data_at h2)]
  simp only [partsB, if_pos h, Nat.sub_self, List.take_zero]
  split <;> rfl
theorem cur_nil {s : ByteArray} {fr k : Nat} (h1 : fr ≤ k) (h2 : k ≤ s.size) : (s.data.toList.drop fr).take (k - fr) = [] ↔ fr = k := by
  have hl : ((s.data.toList.drop fr).take (k - fr)).length = k - fr := by
    rw [List.length_take, List.length_drop, ← str_size]; omega
  constructor
  · intro h; rw [h] at hl; simp at hl; omega
  · rintro rfl; simp

set_option maxHeartbeats 4000000 in
theorem parts_a (s : ByteArray) (sg : UInt8) (em : Bool) (hs : s.size ≤ 100000) (hg : sg.toNat < 128) :
    FnP Tryd.prog 80 [aS s, .v (.int .i32 sg.toNat), aBool em] fun a => a = aSl aB (partsB sg em [] s.data.toList) := by
  refine fnP_in K_words_parts mixed rfl rfl ?_
  simp only [S_words_parts, aBool]
  simp (maxSteps:=999999) -implicitDefEqProofs (disch:=omega) only [push_cast,↓reduceIte,Nat.reduceEqDiff,reduceCtorEq,wz]
  refine wpa_sit ?_
  simp (maxSteps:=999999) -implicitDefEqProofs (disch:=omega) only [push_cast,↓reduceIte,Nat.reduceEqDiff,reduceCtorEq,wz]
  refine wpa_blgx (GU.tok 7 1 rfl) (α := Nat) (I := fun k ε σ => (ε 0 = aS s ∧ ε 1 = .v (.int .i32 sg.toNat) ∧ ε 2 = .v (.bool em) ∧ ε 12 = .ref 0 0 0) ∧ (k ≤ s.size ∧ σ[0]? = some (.itr s k)) ∧
      ∃ (fr w : Nat) (acc : List (List UInt8)), (ε 8 = .v (.int .i64 fr) ∧ ε 7 = .sl acc.length (acc.map aB) (.id 1 w 1)) ∧ fr ≤ k ∧ σ[1]? = some (.tail w) ∧ acc.length ≤ k ∧ acc ++ restB sg em s fr k = partsB sg em [] s.data.toList)
    (μ := fun k => s.size - k) (Q := fun ε σ => ε 0 = aS s ∧ ∃ (fr w : Nat) (acc : List (List UInt8)), (ε 8 = .v (.int .i64 fr) ∧ ε 7 = .sl acc.length (acc.map aB) (.id 1 w 1)) ∧ fr ≤ s.size ∧ σ[1]? = some (.tail w) ∧ acc.length ≤ s.size ∧ acc ++ restB sg em s fr s.size = partsB sg em [] s.data.toList) (x := 0) ?_ ?_ ?_
  · simp (maxSteps:=999999) -implicitDefEqProofs (disch:=omega) only [push_cast,↓reduceIte,Nat.reduceEqDiff,reduceCtorEq,wz]
    exact ⟨by omega, 0, 0, [], ⟨rfl, rfl⟩, by omega, rfl, by simp, by simp [restB]⟩
  · rintro k ε σ N E X R ⟨hρ, ⟨hk, hit⟩, fr, w, acc, ⟨h8, h7⟩, hfr, hs1, hal, hacc⟩ hN hE
    simp only [S_words_parts_L1]
    simp (maxSteps:=999999) -implicitDefEqProofs (disch:=omega) only [push_cast,↓reduceIte,Nat.reduceEqDiff,reduceCtorEq,wz,hρ]
    by_cases hlt : k < s.size
    · refine wpa_nxt hit hlt ?_
      simp (maxSteps:=999999) -implicitDefEqProofs (disch:=omega) only [push_cast,↓reduceIte,Nat.reduceEqDiff,reduceCtorEq,wz]
      have hit2 : ∀ r, (σ.set 0 r)[0]? = some r := fun r => get_set_eq hit
      have ht2 : ∀ r, (σ.set 0 r)[1]? = some (.tail w) := fun r => get_set_ne (by omega) hs1
      by_cases hb : s.get! k = sg
      · have hd : Utf8.decode s k = (sg.toNat, 1) := by
          rw [← hb, get_bang s k hlt]
          exact decode_ascii s k hlt (by rw [← get_bang s k hlt, hb]; exact hg)
        rw [hd]
        have hrs := restB_sign (em := em) (fr := fr) hlt hb
        have hcn := cur_nil (s := s) hfr hk
        rw [hrs] at hacc
        have hex : s.extract fr k = bA ((s.data.toList.drop fr).take (k - fr)) := extract_bA s fr k
        by_cases hem : em = true ∨ fr ≠ k
        · rw [if_pos (hem.imp id fun h e => h (hcn.1 e))] at hacc
          generalize (s.data.toList.drop fr).take (k - fr) = cur at hacc hex
          have hem2 : em = true ∨ (em = false ∧ (fr : Int) < k) := by
            cases em with
            | true => exact .inl rfl
            | false => exact .inr ⟨rfl, by rcases hem with h | h; · cases h
                                           · omega⟩
          rcases hem2 with rfl | ⟨rfl, hgt⟩
          all_goals first | (simp (maxSteps:=999999) -implicitDefEqProofs (disch:=omega) only [push_cast,↓reduceIte,Nat.reduceEqDiff,reduceCtorEq,wz,hρ,h8,h7,hex,hgt]) | (simp (maxSteps:=999999) -implicitDefEqProofs (disch:=omega) only [push_cast,↓reduceIte,Nat.reduceEqDiff,reduceCtorEq,wz,hρ,h8,h7,hex])
          all_goals refine wpa_bsl (sz := 1) (by intro a ha; simp at ha; subst ha; rfl) (by simp) ?_
          all_goals simp (maxSteps:=999999) -implicitDefEqProofs (disch:=omega) only [push_cast,↓reduceIte,Nat.reduceEqDiff,reduceCtorEq,wz,h7]
          all_goals refine wpa_app (m := 1) rfl rfl rfl rfl (by simp) (by omega) (by omega) (ht2 _) ?_
          all_goals simp (maxSteps:=999999) -implicitDefEqProofs (disch:=omega) only [push_cast,↓reduceIte,Nat.reduceEqDiff,reduceCtorEq,wz,hρ]
          all_goals refine hN (k + 1) _ _ ⟨by simp (maxSteps:=999999) -implicitDefEqProofs (disch:=omega) only [push_cast,↓reduceIte,Nat.reduceEqDiff,reduceCtorEq,wz,hρ], ⟨by omega, get_set_ne (by omega) (hit2 _)⟩, k + 1, w + 1, acc ++ [cur], ⟨by simp (maxSteps:=999999) -implicitDefEqProofs (disch:=omega) only [push_cast,↓reduceIte,Nat.reduceEqDiff,reduceCtorEq,wz], by simp (maxSteps:=999999) -implicitDefEqProofs (disch:=omega) only [push_cast,↓reduceIte,Nat.reduceEqDiff,reduceCtorEq,wz]; simp [AV.cells, Value.cells]⟩, by omega, get_set_eq (ht2 _), by simp; omega, by rw [List.append_assoc]; exact hacc⟩ (by omega)
        · have h1 : em = false := by cases em with | true => exact absurd (.inl rfl) hem | false => rfl
          have h2 : fr = k := Classical.byContradiction fun h => hem (.inr h)
          rw [if_neg fun h => hem (h.imp id fun h e => h (hcn.2 e)), List.nil_append] at hacc
          subst h1
          have hle : ¬ (fr : Int) < k := by omega
          simp (maxSteps:=999999) -implicitDefEqProofs (disch:=omega) only [push_cast,↓reduceIte,Nat.reduceEqDiff,reduceCtorEq,wz,hρ,h8,hle]
          exact hN (k + 1) _ _ ⟨by simp (maxSteps:=999999) -implicitDefEqProofs (disch:=omega) only [push_cast,↓reduceIte,Nat.reduceEqDiff,reduceCtorEq,wz,hρ], ⟨by omega, hit2 _⟩, k + 1, w, acc, ⟨by simp (maxSteps:=999999) -implicitDefEqProofs (disch:=omega) only [push_cast,↓reduceIte,Nat.reduceEqDiff,reduceCtorEq,wz], by simp (maxSteps:=999999) -implicitDefEqProofs (disch:=omega) only [push_cast,↓reduceIte,Nat.reduceEqDiff,reduceCtorEq,wz,h7]⟩, by omega, ht2 _, by omega, hacc⟩ (by omega)
      · obtain ⟨hc, hw1, hw2, hall⟩ : (Utf8.decode s k).1 ≠ sg.toNat ∧ 1 ≤ (Utf8.decode s k).2 ∧ k + (Utf8.decode s k).2 ≤ s.size ∧ ∀ j, j < (Utf8.decode s k).2 → s.get! (k + j) ≠ sg := by
          by_cases ha : (s.get! k).toNat < 128
          · have hd : Utf8.decode s k = ((s.get! k).toNat, 1) := by
              rw [get_bang s k hlt] at ha ⊢
              exact decode_ascii s k hlt ha
            rw [hd]
            refine ⟨fun e => hb (UInt8.toNat_inj.1 e), Nat.le_refl _, by dsimp only; omega, fun j hj => ?_⟩
            have : j = 0 := by dsimp only at hj; omega
            subst this
            exact hb
          · have h1 := decode_high s k hlt (by rw [← get_bang s k hlt]; omega)
            obtain ⟨h2, h3⟩ := dec_high s k hlt (by omega)
            refine ⟨by omega, h1.2, h2, fun j hj e => ?_⟩
            have := h3 j hj
            rw [e] at this
            omega
        generalize Utf8.decode s k = d at hc hw1 hw2 hall
        have hne : ¬ ((d.1 : Int) = (sg.toNat : Int)) := by omega
        simp (maxSteps:=999999) -implicitDefEqProofs (disch:=omega) only [push_cast,↓reduceIte,Nat.reduceEqDiff,reduceCtorEq,wz,hρ,hne]
        exact hN (k + d.2) _ _ ⟨by simp (maxSteps:=999999) -implicitDefEqProofs (disch:=omega) only [push_cast,↓reduceIte,Nat.reduceEqDiff,reduceCtorEq,wz,hρ], ⟨hw2, hit2 _⟩, fr, w, acc, ⟨by simp (maxSteps:=999999) -implicitDefEqProofs (disch:=omega) only [push_cast,↓reduceIte,Nat.reduceEqDiff,reduceCtorEq,wz,h8], by simp (maxSteps:=999999) -implicitDefEqProofs (disch:=omega) only [push_cast,↓reduceIte,Nat.reduceEqDiff,reduceCtorEq,wz,h7]⟩, by omega, ht2 _, by omega, by rw [← restB_skip hfr hw2 hall]; exact hacc⟩ (by omega)
    · refine wpa_nxt_end hit hlt ?_
      simp (maxSteps:=999999) -implicitDefEqProofs (disch:=omega) only [push_cast,↓reduceIte,Nat.reduceEqDiff,reduceCtorEq,wz]
      have : k = s.size := by omega
      subst this
      exact hE _ _ ⟨by simp (maxSteps:=999999) -implicitDefEqProofs (disch:=omega) only [push_cast,↓reduceIte,Nat.reduceEqDiff,reduceCtorEq,wz,hρ], fr, w, acc, ⟨by simp (maxSteps:=999999) -implicitDefEqProofs (disch:=omega) only [push_cast,↓reduceIte,Nat.reduceEqDiff,reduceCtorEq,wz,h8], by simp (maxSteps:=999999) -implicitDefEqProofs (disch:=omega) only [push_cast,↓reduceIte,Nat.reduceEqDiff,reduceCtorEq,wz,h7]⟩, hfr, hs1, hal, hacc⟩
  · rintro ε σ ⟨h0, fr, w, acc, ⟨h8, h7⟩, hfr, hs1, hal, hacc⟩
    have hex : s.extract fr s.size = bA ((s.data.toList.drop fr).take (s.size - fr)) := extract_bA s fr s.size
    have hcn := cur_nil hfr (Nat.le_refl s.size)
    have hnil : s.data.toList.drop s.size = [] := List.drop_eq_nil_of_le (by rw [← str_size]; omega)
    unfold restB at hacc
    rw [hnil] at hacc
    simp only [partsB] at hacc
    by_cases hf : fr = s.size
    · rw [if_pos (hcn.2 hf), List.append_nil] at hacc
      have hle : ¬ (fr : Int) < s.size := by omega
      simp (maxSteps:=999999) -implicitDefEqProofs (disch:=omega) only [push_cast,↓reduceIte,Nat.reduceEqDiff,reduceCtorEq,wz,h0,h8,h7,hle]
      rw [← hacc]
      exact fin_res [] (aSl_res (fun _ => rfl) acc _) (aBl_pure _)
    · rw [if_neg fun h => hf (hcn.1 h)] at hacc
      generalize (s.data.toList.drop fr).take (s.size - fr) = cur at hacc hex
      have hlt : (fr : Int) < s.size := by omega
      simp (maxSteps:=999999) -implicitDefEqProofs (disch:=omega) only [push_cast,↓reduceIte,Nat.reduceEqDiff,reduceCtorEq,wz,h0,h8,h7,hlt,hex]
      refine wpa_bsl (sz := 1) (by intro a ha; simp at ha; subst ha; rfl) (by simp) ?_
      simp (maxSteps:=999999) -implicitDefEqProofs (disch:=omega) only [push_cast,↓reduceIte,Nat.reduceEqDiff,reduceCtorEq,wz,h7]
      refine wpa_app (m := 1) rfl rfl rfl rfl (by simp) (by omega) (by omega) hs1 ?_
      simp (maxSteps:=999999) -implicitDefEqProofs (disch:=omega) only [push_cast,↓reduceIte,Nat.reduceEqDiff,reduceCtorEq,wz]
      rw [← hacc]
      refine fin_res [] ?_ (aBl_pure _)
      have := aSl_res (σ := Go.Kx.freeze [] (σ.set 1 (.tail (w + 1)))) (f := aB) (fun _ => rfl) (acc ++ [cur]) (.id 1 (w + 1) 1)
      rw [← this]
      simp [AV.cells, Value.cells]
end Go.Proofs.YtjdpejggafefjaaDoor
/- words.Fields, Lines, Join; the document's Fields. -/
namespace Go.Proofs.YtjdpejggafefjaaDoor
set_option linter.unusedVariables false
set_option linter.unusedSimpArgs false
open Go Go.Kx Go.Proofs

theorem aBl_res (σ : Kx.St) (P : List (List UInt8)) : (aSl aB P).res σ = aSl aB P := aSl_res (fun _ => rfl) P .none
theorem Fields_a (s : ByteArray) (hs : s.size ≤ 100000) : FnP Tryd.prog 47 [aS s] fun a => a = aSl aB (partsB 32 false [] s.data.toList) := by
  refine fnP_in K_words_Fields mixed rfl rfl ?_
  simp only [S_words_Fields]
  simp (maxSteps:=999999) -implicitDefEqProofs (disch:=omega) only [push_cast,↓reduceIte,Nat.reduceEqDiff,reduceCtorEq,wz]
  have h : FnP Tryd.prog 80 [aS s, .v (.int .i32 32), .v (.bool false)] fun a => a = aSl aB (partsB 32 false [] s.data.toList) := parts_a s 32 false hs (by decide)
  refine wpa_call h ?_
  rintro a rfl
  simp (maxSteps:=999999) -implicitDefEqProofs (disch:=omega) only [push_cast,↓reduceIte,Nat.reduceEqDiff,reduceCtorEq,wz]
  exact fin_res [] (aBl_res _ _) (aBl_pure _)
theorem Lines_a (s : ByteArray) (hs : s.size ≤ 100000) : FnP Tryd.prog 48 [aS s] fun a => a = aSl aB (partsB 10 true [] s.data.toList) := by
  refine fnP_in K_words_Lines mixed rfl rfl ?_
  simp only [S_words_Lines]
  simp (maxSteps:=999999) -implicitDefEqProofs (disch:=omega) only [push_cast,↓reduceIte,Nat.reduceEqDiff,reduceCtorEq,wz]
  have h : FnP Tryd.prog 80 [aS s, .v (.int .i32 10), .v (.bool true)] fun a => a = aSl aB (partsB 10 true [] s.data.toList) := parts_a s 10 true hs (by decide)
  refine wpa_call h ?_
  rintro a rfl
  simp (maxSteps:=999999) -implicitDefEqProofs (disch:=omega) only [push_cast,↓reduceIte,Nat.reduceEqDiff,reduceCtorEq,wz]
  exact fin_res [] (aBl_res _ _) (aBl_pure _)
theorem size_bA (l : List UInt8) : (bA l).size = l.length := rfl
theorem app_bA (a b : List UInt8) : bA a ++ bA b = bA (a ++ b) := by
  apply str_ext
  rw [ByteArray.data_append]
  simp
theorem add_bA (a b : List UInt8) (h : a.length + b.length ≤ 9000000000000000000) : PF.val (.bin .add) [.string (bA a), .string (bA b)] = some (.string (bA (a ++ b))) := by
  rw [pv_str_add _ _ (by rw [size_bA, size_bA]; omega), app_bA]
theorem bA_nil {l : List UInt8} : bA l = ⟨#[]⟩ ↔ l = [] := by
  constructor
  · intro h
    have := congrArg (fun x : ByteArray => x.data.toList) h
    simpa using this
  · rintro rfl; rfl

set_option maxHeartbeats 4000000 in
theorem ref05_Fields_a (s : ByteArray) (hs : s.size ≤ 100000) : FnP Tryd.prog 27 [aS s] fun a => a = aSl aB (partsB 32 false [] s.data.toList) := by
  refine fnP_in K_forebayref05_Fields mixed rfl rfl ?_
  simp only [S_forebayref05_Fields]
  simp (maxSteps:=999999) -implicitDefEqProofs (disch:=omega) only [push_cast,↓reduceIte,Nat.reduceEqDiff,reduceCtorEq,wz]
  refine wpa_blgx (GU.tok 3 1 rfl) (α := Nat) (I := fun k ε σ => (ε 0 = aS s ∧ ε 5 = .v (.int .i64 k)) ∧ k ≤ s.size + 1 ∧ ∃ (w : Nat) (cur : List UInt8) (acc : List (List UInt8)), (ε 4 = aB cur ∧ ε 3 = .sl acc.length (acc.map aB) (.id 0 w 1)) ∧ σ[0]? = some (.tail w) ∧ acc.length ≤ k ∧ cur.length ≤ k ∧
      (if k ≤ s.size then acc ++ partsB 32 false cur (s.data.toList.drop k) = partsB 32 false [] s.data.toList else acc = partsB 32 false [] s.data.toList))
    (μ := fun k => s.size + 1 - k) (Q := fun ε σ => ∃ w : Nat, ε 3 = .sl (partsB 32 false [] s.data.toList).length ((partsB 32 false [] s.data.toList).map aB) (.id 0 w 1)) (x := 0) ?_ ?_ ?_
  · simp (maxSteps:=999999) -implicitDefEqProofs (disch:=omega) only [push_cast,↓reduceIte,Nat.reduceEqDiff,reduceCtorEq,wz]
    exact ⟨by omega, 0, [], [], ⟨rfl, rfl⟩, rfl, by simp, by simp, by simp⟩
  · rintro k ε σ N E X R ⟨hρ, hk, w, cur, acc, ⟨h4, h3⟩, hs0, hal, hcl, hacc⟩ hN hE
    simp only [S_forebayref05_Fields_L1]
    by_cases hlt : k ≤ s.size
    · rw [if_pos hlt] at hacc
      by_cases hw : k < s.size ∧ s.get! k ≠ 32
      · obtain ⟨hk2, hb⟩ := hw
        have hda := data_at hk2
        generalize s.get! k = b at hda hb
        have hix : PF.val .ixs [.string s, .int .i64 k] = some (.int .u8 b.toNat) := pv_str_ix (by omega) (by simpa using hda)
        have hex : s.extract k (k + 1) = bA [b] := str_one hda
        have hadd := add_bA cur [b] (by simp; omega)
        have hne : ¬ ((b.toNat : Int) = 32) := fun e => hb (UInt8.toNat_inj.1 (by rw [show (32 : UInt8).toNat = 32 from rfl]; omega))
        have hkl : (k : Int) ≤ s.size := by omega
        have hkl2 : (k : Int) < s.size := by omega
        simp (maxSteps:=999999) -implicitDefEqProofs (disch:=omega) only [push_cast,↓reduceIte,Nat.reduceEqDiff,reduceCtorEq,wz,hρ,h4,hix,hex,hadd,hne,hkl,hkl2]
        refine hN (k + 1) _ _ ⟨by simp (maxSteps:=999999) -implicitDefEqProofs (disch:=omega) only [push_cast,↓reduceIte,Nat.reduceEqDiff,reduceCtorEq,wz,hρ], by omega, w, cur ++ [b], acc, ⟨by simp (maxSteps:=999999) -implicitDefEqProofs (disch:=omega) only [push_cast,↓reduceIte,Nat.reduceEqDiff,reduceCtorEq,wz], by simp (maxSteps:=999999) -implicitDefEqProofs (disch:=omega) only [push_cast,↓reduceIte,Nat.reduceEqDiff,reduceCtorEq,wz,h3]⟩, hs0, by omega, by simp; omega, ?_⟩ (by omega)
        rw [if_pos (by omega), ← hacc, drop_at hda]
        simp only [partsB, if_neg hb]
      · have hacc2 : if k + 1 ≤ s.size then (acc ++ if cur = [] then [] else [cur]) ++ partsB 32 false [] (s.data.toList.drop (k + 1)) = partsB 32 false [] s.data.toList else (acc ++ if cur = [] then [] else [cur]) = partsB 32 false [] s.data.toList := by
          by_cases hk2 : k < s.size
          · have hb : s.get! k = 32 := Classical.byContradiction fun h => hw ⟨hk2, h⟩
            rw [if_pos (by omega), ← hacc, drop_at (data_at hk2)]
            simp only [partsB, if_pos hb]
            by_cases hc : cur = [] <;> simp [hc]
          · rw [if_neg (by omega), ← hacc, List.drop_eq_nil_of_le (by rw [← str_size]; omega)]
            simp only [partsB]
        have hcase : (k < s.size ∧ PF.val .ixs [.string s, .int .i64 k] = some (.int .u8 32)) ∨ ¬ k < s.size := by
          by_cases hk2 : k < s.size
          · have hb : s.get! k = 32 := Classical.byContradiction fun h => hw ⟨hk2, h⟩
            have hda := data_at hk2
            rw [hb] at hda
            have hix : PF.val .ixs [.string s, .int .i64 k] = some (.int .u8 ((32 : UInt8).toNat : Nat)) := pv_str_ix (by omega) (by simpa using hda)
            exact .inl ⟨hk2, hix⟩
          · exact .inr hk2
        have hkl : (k : Int) ≤ s.size := by omega
        by_cases hc : cur = []
        · rw [if_pos hc, List.append_nil] at hacc2
          have hc2 : bA cur = ⟨#[]⟩ := bA_nil.2 hc
          rcases hcase with ⟨hk2, hix⟩ | hk2
          · have hkl2 : (k : Int) < s.size := by omega
            simp (maxSteps:=999999) -implicitDefEqProofs (disch:=omega) only [push_cast,↓reduceIte,Nat.reduceEqDiff,reduceCtorEq,wz,hρ,h4,hix,hkl,hkl2,hc2]
            exact hN (k + 1) _ _ ⟨by simp (maxSteps:=999999) -implicitDefEqProofs (disch:=omega) only [push_cast,↓reduceIte,Nat.reduceEqDiff,reduceCtorEq,wz,hρ], by omega, w, [], acc, ⟨by simp (maxSteps:=999999) -implicitDefEqProofs (disch:=omega) only [push_cast,↓reduceIte,Nat.reduceEqDiff,reduceCtorEq,wz], by simp (maxSteps:=999999) -implicitDefEqProofs (disch:=omega) only [push_cast,↓reduceIte,Nat.reduceEqDiff,reduceCtorEq,wz,h3]⟩, hs0, by omega, by simp, hacc2⟩ (by omega)
          · have hkl2 : ¬ (k : Int) < s.size := by omega
            simp (maxSteps:=999999) -implicitDefEqProofs (disch:=omega) only [push_cast,↓reduceIte,Nat.reduceEqDiff,reduceCtorEq,wz,hρ,h4,hkl,hkl2,hc2]
            exact hN (k + 1) _ _ ⟨by simp (maxSteps:=999999) -implicitDefEqProofs (disch:=omega) only [push_cast,↓reduceIte,Nat.reduceEqDiff,reduceCtorEq,wz,hρ], by omega, w, [], acc, ⟨by simp (maxSteps:=999999) -implicitDefEqProofs (disch:=omega) only [push_cast,↓reduceIte,Nat.reduceEqDiff,reduceCtorEq,wz], by simp (maxSteps:=999999) -implicitDefEqProofs (disch:=omega) only [push_cast,↓reduceIte,Nat.reduceEqDiff,reduceCtorEq,wz,h3]⟩, hs0, by omega, by simp, hacc2⟩ (by omega)
        · rw [if_neg hc] at hacc2
          have hc2 : ¬ (bA cur = ⟨#[]⟩) := fun h => hc (bA_nil.1 h)
          rcases hcase with ⟨hk2, hix⟩ | hk2
          · have hkl2 : (k : Int) < s.size := by omega
            simp (maxSteps:=999999) -implicitDefEqProofs (disch:=omega) only [push_cast,↓reduceIte,Nat.reduceEqDiff,reduceCtorEq,wz,hρ,h4,hix,hkl,hkl2,hc2]
            refine wpa_bsl (sz := 1) (by intro a ha; simp at ha; subst ha; rfl) (by simp) ?_
            simp (maxSteps:=999999) -implicitDefEqProofs (disch:=omega) only [push_cast,↓reduceIte,Nat.reduceEqDiff,reduceCtorEq,wz,h3]
            refine wpa_app (m := 1) rfl rfl rfl rfl (by simp) (by omega) (by omega) hs0 ?_
            simp (maxSteps:=999999) -implicitDefEqProofs (disch:=omega) only [push_cast,↓reduceIte,Nat.reduceEqDiff,reduceCtorEq,wz,hρ]
            exact hN (k + 1) _ _ ⟨by simp (maxSteps:=999999) -implicitDefEqProofs (disch:=omega) only [push_cast,↓reduceIte,Nat.reduceEqDiff,reduceCtorEq,wz,hρ], by omega, w + 1, [], acc ++ [cur], ⟨by simp (maxSteps:=999999) -implicitDefEqProofs (disch:=omega) only [push_cast,↓reduceIte,Nat.reduceEqDiff,reduceCtorEq,wz], by simp (maxSteps:=999999) -implicitDefEqProofs (disch:=omega) only [push_cast,↓reduceIte,Nat.reduceEqDiff,reduceCtorEq,wz]; simp [AV.cells, Value.cells]⟩, get_set_eq hs0, by simp; omega, by simp, hacc2⟩ (by omega)
          · have hkl2 : ¬ (k : Int) < s.size := by omega
            simp (maxSteps:=999999) -implicitDefEqProofs (disch:=omega) only [push_cast,↓reduceIte,Nat.reduceEqDiff,reduceCtorEq,wz,hρ,h4,hkl,hkl2,hc2]
            refine wpa_bsl (sz := 1) (by intro a ha; simp at ha; subst ha; rfl) (by simp) ?_
            simp (maxSteps:=999999) -implicitDefEqProofs (disch:=omega) only [push_cast,↓reduceIte,Nat.reduceEqDiff,reduceCtorEq,wz,h3]
            refine wpa_app (m := 1) rfl rfl rfl rfl (by simp) (by omega) (by omega) hs0 ?_
            simp (maxSteps:=999999) -implicitDefEqProofs (disch:=omega) only [push_cast,↓reduceIte,Nat.reduceEqDiff,reduceCtorEq,wz,hρ]
            exact hN (k + 1) _ _ ⟨by simp (maxSteps:=999999) -implicitDefEqProofs (disch:=omega) only [push_cast,↓reduceIte,Nat.reduceEqDiff,reduceCtorEq,wz,hρ], by omega, w + 1, [], acc ++ [cur], ⟨by simp (maxSteps:=999999) -implicitDefEqProofs (disch:=omega) only [push_cast,↓reduceIte,Nat.reduceEqDiff,reduceCtorEq,wz], by simp (maxSteps:=999999) -implicitDefEqProofs (disch:=omega) only [push_cast,↓reduceIte,Nat.reduceEqDiff,reduceCtorEq,wz]; simp [AV.cells, Value.cells]⟩, get_set_eq hs0, by simp; omega, by simp, hacc2⟩ (by omega)
    · rw [if_neg hlt] at hacc
      have hle : ¬ ((k : Int) ≤ s.size) := by omega
      simp (maxSteps:=999999) -implicitDefEqProofs (disch:=omega) only [push_cast,↓reduceIte,Nat.reduceEqDiff,reduceCtorEq,wz,hρ,hle]
      refine hE _ _ ⟨w, ?_⟩
      rw [← hacc]
      simp (maxSteps:=999999) -implicitDefEqProofs (disch:=omega) only [push_cast,↓reduceIte,Nat.reduceEqDiff,reduceCtorEq,wz,h3]
  · rintro ε σ ⟨w, h3⟩
    simp (maxSteps:=999999) -implicitDefEqProofs (disch:=omega) only [push_cast,↓reduceIte,Nat.reduceEqDiff,reduceCtorEq,wz,h3]
    exact fin_res [] (aSl_res (fun _ => rfl) _ _) (aBl_pure _)
end Go.Proofs.YtjdpejggafefjaaDoor
/- The document's Lines and Join; words.Join; are two lists the same. -/
namespace Go.Proofs.YtjdpejggafefjaaDoor
set_option linter.unusedVariables false
set_option linter.unusedSimpArgs false
open Go Go.Kx Go.Proofs

set_option maxHeartbeats 4000000 in
theorem ref05_Lines_a (s : ByteArray) (hs : s.size ≤ 100000) : FnP Tryd.prog 26 [aS s] fun a => a = aSl aB (partsB 10 true [] s.data.toList) := by
  refine fnP_in K_forebayref05_Lines mixed rfl rfl ?_
  simp only [S_forebayref05_Lines]
  simp (maxSteps:=999999) -implicitDefEqProofs (disch:=omega) only [push_cast,↓reduceIte,Nat.reduceEqDiff,reduceCtorEq,wz]
  refine wpa_blgx (GU.tok 3 1 rfl) (α := Nat) (I := fun k ε σ => (ε 0 = aS s ∧ ε 5 = .v (.int .i64 k)) ∧ k ≤ s.size ∧ ∃ (w : Nat) (cur : List UInt8) (acc : List (List UInt8)), (ε 4 = aB cur ∧ ε 3 = .sl acc.length (acc.map aB) (.id 0 w 1)) ∧ σ[0]? = some (.tail w) ∧ acc.length ≤ k ∧ cur.length ≤ k ∧
      acc ++ partsB 10 true cur (s.data.toList.drop k) = partsB 10 true [] s.data.toList)
    (μ := fun k => s.size - k) (Q := fun ε σ => ∃ (w : Nat) (cur : List UInt8) (acc : List (List UInt8)), (ε 4 = aB cur ∧ ε 3 = .sl acc.length (acc.map aB) (.id 0 w 1)) ∧ σ[0]? = some (.tail w) ∧ acc.length ≤ s.size ∧ (acc ++ if cur = [] then [] else [cur]) = partsB 10 true [] s.data.toList) (x := 0) ?_ ?_ ?_
  · simp (maxSteps:=999999) -implicitDefEqProofs (disch:=omega) only [push_cast,↓reduceIte,Nat.reduceEqDiff,reduceCtorEq,wz]
    exact ⟨by omega, 0, [], [], ⟨rfl, rfl⟩, rfl, by simp, by simp, by simp⟩
  · rintro k ε σ N E X R ⟨hρ, hk, w, cur, acc, ⟨h4, h3⟩, hs0, hal, hcl, hacc⟩ hN hE
    simp only [S_forebayref05_Lines_L1]
    by_cases hk2 : k < s.size
    · have hda := data_at hk2
      generalize s.get! k = b at hda
      have hix : PF.val .ixs [.string s, .int .i64 k] = some (.int .u8 b.toNat) := pv_str_ix (by omega) (by simpa using hda)
      have hkl2 : (k : Int) < s.size := by omega
      rw [drop_at hda] at hacc
      simp only [partsB] at hacc
      by_cases hb : b = 10
      · rw [if_pos hb, if_pos (.inl trivial)] at hacc
        have hne : (b.toNat : Int) = 10 := by rw [hb]; rfl
        simp (maxSteps:=999999) -implicitDefEqProofs (disch:=omega) only [push_cast,↓reduceIte,Nat.reduceEqDiff,reduceCtorEq,wz,hρ,h4,hix,hne,hkl2]
        refine wpa_bsl (sz := 1) (by intro a ha; simp at ha; subst ha; rfl) (by simp) ?_
        simp (maxSteps:=999999) -implicitDefEqProofs (disch:=omega) only [push_cast,↓reduceIte,Nat.reduceEqDiff,reduceCtorEq,wz,h3]
        refine wpa_app (m := 1) rfl rfl rfl rfl (by simp) (by omega) (by omega) hs0 ?_
        simp (maxSteps:=999999) -implicitDefEqProofs (disch:=omega) only [push_cast,↓reduceIte,Nat.reduceEqDiff,reduceCtorEq,wz,hρ]
        exact hN (k + 1) _ _ ⟨by simp (maxSteps:=999999) -implicitDefEqProofs (disch:=omega) only [push_cast,↓reduceIte,Nat.reduceEqDiff,reduceCtorEq,wz,hρ], by omega, w + 1, [], acc ++ [cur], ⟨by simp (maxSteps:=999999) -implicitDefEqProofs (disch:=omega) only [push_cast,↓reduceIte,Nat.reduceEqDiff,reduceCtorEq,wz], by simp (maxSteps:=999999) -implicitDefEqProofs (disch:=omega) only [push_cast,↓reduceIte,Nat.reduceEqDiff,reduceCtorEq,wz]; simp [AV.cells, Value.cells]⟩, get_set_eq hs0, by simp; omega, by simp, by rw [List.append_assoc]; exact hacc⟩ (by omega)
      · rw [if_neg hb] at hacc
        have hne : ¬ ((b.toNat : Int) = 10) := fun e => hb (UInt8.toNat_inj.1 (by rw [show (10 : UInt8).toNat = 10 from rfl]; omega))
        have hex : s.extract k (k + 1) = bA [b] := str_one hda
        have hadd := add_bA cur [b] (by simp; omega)
        simp (maxSteps:=999999) -implicitDefEqProofs (disch:=omega) only [push_cast,↓reduceIte,Nat.reduceEqDiff,reduceCtorEq,wz,hρ,h4,hix,hex,hadd,hne,hkl2]
        exact hN (k + 1) _ _ ⟨by simp (maxSteps:=999999) -implicitDefEqProofs (disch:=omega) only [push_cast,↓reduceIte,Nat.reduceEqDiff,reduceCtorEq,wz,hρ], by omega, w, cur ++ [b], acc, ⟨by simp (maxSteps:=999999) -implicitDefEqProofs (disch:=omega) only [push_cast,↓reduceIte,Nat.reduceEqDiff,reduceCtorEq,wz], by simp (maxSteps:=999999) -implicitDefEqProofs (disch:=omega) only [push_cast,↓reduceIte,Nat.reduceEqDiff,reduceCtorEq,wz,h3]⟩, hs0, by omega, by simp; omega, hacc⟩ (by omega)
    · have hle : ¬ ((k : Int) < s.size) := by omega
      simp (maxSteps:=999999) -implicitDefEqProofs (disch:=omega) only [push_cast,↓reduceIte,Nat.reduceEqDiff,reduceCtorEq,wz,hρ,hle]
      rw [List.drop_eq_nil_of_le (by rw [← str_size]; omega)] at hacc
      simp only [partsB] at hacc
      exact hE _ _ ⟨w, cur, acc, ⟨by simp (maxSteps:=999999) -implicitDefEqProofs (disch:=omega) only [push_cast,↓reduceIte,Nat.reduceEqDiff,reduceCtorEq,wz,h4], by simp (maxSteps:=999999) -implicitDefEqProofs (disch:=omega) only [push_cast,↓reduceIte,Nat.reduceEqDiff,reduceCtorEq,wz,h3]⟩, hs0, by omega, hacc⟩
  · rintro ε σ ⟨w, cur, acc, ⟨h4, h3⟩, hs0, hal, hacc⟩
    by_cases hc : cur = []
    · have hc2 : bA cur = ⟨#[]⟩ := bA_nil.2 hc
      rw [if_pos hc, List.append_nil] at hacc
      simp (maxSteps:=999999) -implicitDefEqProofs (disch:=omega) only [push_cast,↓reduceIte,Nat.reduceEqDiff,reduceCtorEq,wz,h3,h4,hc2]
      rw [← hacc]
      exact fin_res [] (aSl_res (fun _ => rfl) _ _) (aBl_pure _)
    · have hc2 : ¬ (bA cur = ⟨#[]⟩) := fun h => hc (bA_nil.1 h)
      rw [if_neg hc] at hacc
      simp (maxSteps:=999999) -implicitDefEqProofs (disch:=omega) only [push_cast,↓reduceIte,Nat.reduceEqDiff,reduceCtorEq,wz,h3,h4,hc2]
      refine wpa_bsl (sz := 1) (by intro a ha; simp at ha; subst ha; rfl) (by simp) ?_
      simp (maxSteps:=999999) -implicitDefEqProofs (disch:=omega) only [push_cast,↓reduceIte,Nat.reduceEqDiff,reduceCtorEq,wz,h3]
      refine wpa_app (m := 1) rfl rfl rfl rfl (by simp) (by omega) (by omega) hs0 ?_
      simp (maxSteps:=999999) -implicitDefEqProofs (disch:=omega) only [push_cast,↓reduceIte,Nat.reduceEqDiff,reduceCtorEq,wz]
      rw [← hacc]
      refine fin_res [] ?_ (aBl_pure _)
      have := aSl_res (σ := Go.Kx.freeze [] (σ.set 0 (.tail (w + 1)))) (f := aB) (fun _ => rfl) (acc ++ [cur]) (.id 0 (w + 1) 1)
      rw [← this]
      simp [AV.cells, Value.cells]

theorem Join_a (P : List (List UInt8)) (hN : P.length ≤ 1000000) (hl : (Lib.join P [32]).length ≤ 100000000) : FnP Tryd.prog 49 [aSl aB P] fun a => a = aB (Lib.join P [32]) := by
  have hm : ∀ xs : List (List UInt8), (xs.map bA).map (·.data.toList) = xs := by intro xs; simp [List.map_map, Function.comp_def]
  have hm2 : (P.map bA).map aS = P.map aB := by simp [List.map_map, Function.comp_def]
  refine fnP_in K_words_Join mixed rfl (by simp only [AV.pureL, aBl_pure]; rfl) ?_
  simp only [S_words_Join]
  simp (maxSteps:=999999) -implicitDefEqProofs (disch:=omega) only [push_cast,↓reduceIte,Nat.reduceEqDiff,reduceCtorEq,wz,aSl]
  have h := join_a (P.map bA) ⟨#[32]⟩ .none (by rw [hm2, List.length_map]; exact aBl_pure P) (by simp; omega) (by rw [hm]; exact Nat.le_trans hl (by omega))
  rw [hm2, List.length_map, hm] at h
  refine wpa_call h ?_
  rintro a rfl
  simp (maxSteps:=999999) -implicitDefEqProofs (disch:=omega) only [push_cast,↓reduceIte,Nat.reduceEqDiff,reduceCtorEq,wz]
  exact ⟨[], rfl⟩
theorem joinR_snoc (sep x : List UInt8) : ∀ (xs : List (List UInt8)) (f : Bool), joinR sep (xs ++ [x]) f = joinR sep xs f ++ (if f = true ∧ xs = [] then [] else sep) ++ x := by
  intro xs
  induction xs with
  | nil => intro f; cases f <;> simp [joinR]
  | cons y xs ih => intro f; simp only [List.cons_append, joinR, ih]; simp
theorem joinR_take {sep x : List UInt8} {xs : List (List UInt8)} {k : Nat} (h : xs[k]? = some x) : joinR sep (xs.take (k + 1)) true = joinR sep (xs.take k) true ++ (if k = 0 then [] else sep) ++ x := by
  rw [take_succ_at h, joinR_snoc]
  congr 2
  have : xs.take k = [] ↔ k = 0 := by
    rw [List.take_eq_nil_iff]
    exact ⟨fun h0 => h0.elim id fun e => by rw [e] at h; simp at h, .inl⟩
  simp [this]
theorem joinR_len {sep : List UInt8} {m : Nat} : ∀ {xs : List (List UInt8)} {f : Bool}, (∀ x ∈ xs, x.length ≤ m) → (joinR sep xs f).length ≤ xs.length * (m + sep.length) := by
  intro xs
  induction xs with
  | nil => intro f _; simp [joinR]
  | cons x xs ih =>
    intro f h
    have h1 := ih (f := false) fun y hy => h y (by simp [hy])
    have h2 := h x (by simp)
    simp only [joinR, List.length_append, List.length_cons, Nat.add_mul, Nat.one_mul]
    cases f <;> simp <;> omega
end Go.Proofs.YtjdpejggafefjaaDoor
/- The document's Join; are two lists the same. -/
namespace Go.Proofs.YtjdpejggafefjaaDoor
set_option linter.unusedVariables false
set_option linter.unusedSimpArgs false
open Go Go.Kx Go.Proofs

set_option maxHeartbeats 4000000 in
theorem ref05_Join_a (P : List (List UInt8)) (hN : P.length ≤ 1000) (hm : ∀ x ∈ P, x.length ≤ 1000000) : FnP Tryd.prog 50 [aSl aB P] fun a => a = aB (joinR [32] P true) := by
  refine fnP_in K_forebayref05_Join mixed rfl (by simp only [AV.pureL, aBl_pure]; rfl) ?_
  simp only [S_forebayref05_Join]
  simp (maxSteps:=999999) -implicitDefEqProofs (disch:=omega) only [push_cast,↓reduceIte,Nat.reduceEqDiff,reduceCtorEq,wz,aSl]
  refine wpa_blx (α := Nat) (I := fun k ε σ => (ε 0 = .sl P.length (P.map aB) .none ∧ ε 3 = aB (joinR [32] (P.take k) true) ∧ ε 4 = .v (.int .i64 k)) ∧ k ≤ P.length)
    (μ := fun k => P.length - k) (Q := fun ε σ => ε 3 = aB (joinR [32] P true)) (x := 0) ?_ ?_ ?_
  · simp (maxSteps:=999999) -implicitDefEqProofs (disch:=omega) only [push_cast,↓reduceIte,Nat.reduceEqDiff,reduceCtorEq,wz]
    exact ⟨rfl, by omega⟩
  · rintro k ε σ N E X R ⟨hρ, hk⟩ hN2 hE
    simp only [S_forebayref05_Join_L1]
    by_cases hlt : k < P.length
    · obtain ⟨x, hx⟩ := at_lt hlt
      have hkl : (k : Int) < P.length := by omega
      have hxl := hm x (List.mem_of_getElem? hx)
      have hjl := joinR_len (sep := [32]) (m := 1000000) (xs := P.take k) (f := true) fun y hy => hm y (List.mem_of_mem_take hy)
      have hjl2 : (joinR [32] (P.take k) true).length ≤ 1000 * 1000001 := Nat.le_trans hjl (Nat.mul_le_mul (by rw [List.length_take]; omega) (by simp))
      have hjt := joinR_take (sep := [32]) hx
      generalize joinR [32] (P.take k) true = J at hρ hjl2 hjt
      by_cases h0 : k = 0
      · have hle : ¬ ((0 : Int) < (k : Int)) := by omega
        have hadd := add_bA J x (by omega)
        simp (maxSteps:=999999) -implicitDefEqProofs (disch:=omega) only [push_cast,↓reduceIte,Nat.reduceEqDiff,reduceCtorEq,wz,hρ,hkl,hle,hx,hadd]
        refine hN2 (k + 1) _ _ ⟨by simp (maxSteps:=999999) -implicitDefEqProofs (disch:=omega) only [push_cast,↓reduceIte,Nat.reduceEqDiff,reduceCtorEq,wz,hρ]; rw [hjt, if_pos h0]; simp, by omega⟩ (by omega)
      · have hgt : ((0 : Int) < (k : Int)) := by omega
        have hadd := add_bA J [32] (by simp; omega)
        have hadd2 := add_bA (J ++ [32]) x (by simp; omega)
        simp (maxSteps:=999999) -implicitDefEqProofs (disch:=omega) only [push_cast,↓reduceIte,Nat.reduceEqDiff,reduceCtorEq,wz,hρ,hkl,hgt,hx,hadd,hadd2]
        refine hN2 (k + 1) _ _ ⟨by simp (maxSteps:=999999) -implicitDefEqProofs (disch:=omega) only [push_cast,↓reduceIte,Nat.reduceEqDiff,reduceCtorEq,wz,hρ]; rw [hjt, if_neg h0], by omega⟩ (by omega)
    · have hle : ¬ ((k : Int) < P.length) := by omega
      simp (maxSteps:=999999) -implicitDefEqProofs (disch:=omega) only [push_cast,↓reduceIte,Nat.reduceEqDiff,reduceCtorEq,wz,hρ,hle]
      have : k = P.length := by omega
      subst this
      rw [List.take_length] at hρ
      exact hE _ _ (by simp (maxSteps:=999999) -implicitDefEqProofs (disch:=omega) only [push_cast,↓reduceIte,Nat.reduceEqDiff,reduceCtorEq,wz,hρ])
  · rintro ε σ h3
    simp (maxSteps:=999999) -implicitDefEqProofs (disch:=omega) only [push_cast,↓reduceIte,Nat.reduceEqDiff,reduceCtorEq,wz,h3]
    exact ⟨[], rfl⟩

set_option maxHeartbeats 4000000 in
theorem law05_Strings_a (P Q : List (List UInt8)) (hN : P.length ≤ 1000000) (hM : Q.length ≤ 1000000) : FnP Tryd.prog 46 [aSl aB P, aSl aB Q] fun a => a = aBool (decide (P = Q)) := by
  refine fnP_in K_forebaylaw05_Strings mixed rfl (by simp only [AV.pureL, aBl_pure]; rfl) ?_
  simp only [S_forebaylaw05_Strings]
  by_cases hl : P.length = Q.length
  · have hl2 : (P.length : Int) = Q.length := by omega
    simp (maxSteps:=999999) -implicitDefEqProofs (disch:=omega) only [push_cast,↓reduceIte,Nat.reduceEqDiff,reduceCtorEq,wz,aSl,hl2]
    refine wpa_bl (α := Nat) (I := fun k ε σ => (ε 0 = .sl P.length (P.map aB) .none ∧ ε 1 = .sl Q.length (Q.map aB) .none ∧ ε 5 = .v (.int .i64 k)) ∧ k ≤ P.length ∧ P.take k = Q.take k)
      (μ := fun k => P.length - k) (Q := fun ε σ => P = Q) (x := 0) ?_ ?_ ?_
    · simp (maxSteps:=999999) -implicitDefEqProofs (disch:=omega) only [push_cast,↓reduceIte,Nat.reduceEqDiff,reduceCtorEq,wz]
      exact Nat.zero_le _
    · rintro k ε σ N E ⟨hρ, hk, heq⟩ hN2 hE
      simp only [S_forebaylaw05_Strings_L1]
      by_cases hlt : k < P.length
      · obtain ⟨x, hx⟩ := at_lt hlt
        obtain ⟨y, hy⟩ := at_lt (show k < Q.length by omega)
        have hkl : (k : Int) < P.length := by omega
        have hkl2 : (k : Int) < Q.length := by omega
        by_cases hxy : x = y
        · subst hxy
          simp (maxSteps:=999999) -implicitDefEqProofs (disch:=omega) only [push_cast,↓reduceIte,Nat.reduceEqDiff,reduceCtorEq,wz,hρ,hkl,hkl2,hx,hy]
          exact hN2 (k + 1) _ _ ⟨by simp (maxSteps:=999999) -implicitDefEqProofs (disch:=omega) only [push_cast,↓reduceIte,Nat.reduceEqDiff,reduceCtorEq,wz,hρ], by omega, by rw [take_succ_at hx, take_succ_at hy, heq]⟩ (by omega)
        · have hne : ¬ (bA x = bA y) := fun e => hxy (by have := congrArg (fun z : ByteArray => z.data.toList) e; simpa using this)
          have hPQ : P ≠ Q := by rintro rfl; rw [hx] at hy; exact hxy (Option.some.inj hy)
          simp (maxSteps:=999999) -implicitDefEqProofs (disch:=omega) only [push_cast,↓reduceIte,Nat.reduceEqDiff,reduceCtorEq,wz,hρ,hkl,hkl2,hx,hy,hne]
          exact ⟨[], rfl, by rw [decide_eq_false hPQ]; rfl⟩
      · have hle : ¬ ((k : Int) < P.length) := by omega
        simp (maxSteps:=999999) -implicitDefEqProofs (disch:=omega) only [push_cast,↓reduceIte,Nat.reduceEqDiff,reduceCtorEq,wz,hρ,hle]
        have : k = P.length := by omega
        subst this
        rw [List.take_length, hl, List.take_length] at heq
        exact hE _ _ heq
    · rintro ε σ rfl
      simp (maxSteps:=999999) -implicitDefEqProofs (disch:=omega) only [push_cast,↓reduceIte,Nat.reduceEqDiff,reduceCtorEq,wz]
      exact ⟨[], rfl, rfl⟩
  · have hl2 : ¬ ((P.length : Int) = Q.length) := by omega
    simp (maxSteps:=999999) -implicitDefEqProofs (disch:=omega) only [push_cast,↓reduceIte,Nat.reduceEqDiff,reduceCtorEq,wz,aSl,hl2]
    exact ⟨[], rfl, by rw [decide_eq_false fun e => hl (by rw [e])]; rfl⟩
end Go.Proofs.YtjdpejggafefjaaDoor
/- Numbers in writing: Of, the document's Of. -/
namespace Go.Proofs.YtjdpejggafefjaaDoor
set_option linter.unusedVariables false
set_option linter.unusedSimpArgs false
open Go Go.Kx Go.Proofs

theorem Of_a (n : Int) (h0 : -9223372036854775808 ≤ n) (h1 : n ≤ 9223372036854775807) : FnP Tryd.prog 31 [aInt n] fun a => a = aB (Lib.itoa n) := by
  refine fnP_in K_words_Of mixed rfl rfl ?_
  simp only [S_words_Of, aInt]
  simp (maxSteps:=999999) -implicitDefEqProofs (disch:=omega) only [push_cast,↓reduceIte,Nat.reduceEqDiff,reduceCtorEq,wz]
  refine wpa_call (itoa_a n h0 h1) ?_
  rintro a rfl
  simp (maxSteps:=999999) -implicitDefEqProofs (disch:=omega) only [push_cast,↓reduceIte,Nat.reduceEqDiff,reduceCtorEq,wz]
  exact ⟨[], rfl⟩
/-- The digits; none of 0. -/
def digsZ (u : Nat) : List UInt8 := if u = 0 then [] else Lib.decDigits u
theorem digsZ_step {u : Nat} (h : u ≠ 0) : digsZ u = digsZ (u / 10) ++ [UInt8.ofNat (48 + u % 10)] := by
  unfold digsZ
  rw [if_neg h, Lib.decDigits]
  by_cases h10 : u < 10
  · rw [dif_pos h10, if_pos (by omega), Nat.mod_eq_of_lt h10]; rfl
  · rw [dif_neg h10, if_neg (by omega)]
theorem u8_48 : ∀ d : Nat, d < 10 → IntKind.u8.wrap (48 + (d : Int)) = 48 + (d : Int) ∧ ((UInt8.ofNat (48 + d)).toNat : Int) = 48 + (d : Int) := by decide

set_option maxHeartbeats 4000000 in
theorem ref05_Of_a (n : Int) (h0 : -9223372036854775808 ≤ n) (h1 : n ≤ 9223372036854775807) : FnP Tryd.prog 32 [aInt n] fun a => a = aB (Lib.itoa n) := by
  refine fnP_in K_forebayref05_Of mixed rfl rfl ?_
  simp only [S_forebayref05_Of, aInt]
  by_cases hz : n = 0
  · subst hz
    simp (maxSteps:=999999) -implicitDefEqProofs (disch:=omega) only [push_cast,↓reduceIte,Nat.reduceEqDiff,reduceCtorEq,wz]
    refine ⟨[], rfl, ?_⟩
    have : Lib.itoa 0 = [48] := by decide +kernel
    rw [this]
  · have hlen := Lib.itoa_length_le n h0 h1
    have hdl : (Lib.decDigits n.natAbs).length ≤ 30 := by
      unfold Lib.itoa at hlen
      split at hlen
      · simp at hlen; omega
      · rw [show n.natAbs = n.toNat by omega]; omega
    simp (maxSteps:=999999) -implicitDefEqProofs (disch:=omega) only [push_cast,↓reduceIte,Nat.reduceEqDiff,reduceCtorEq,wz,hz]
    refine wpa_blx (α := Nat) (I := fun u ε σ => (ε 0 = .v (.int .i64 n) ∧ ε 4 = .v (.int .i64 (if n < 0 then -(u : Int) else u))) ∧ u ≤ n.natAbs ∧ ∃ cur, ε 3 = aB cur ∧ digsZ u ++ cur = Lib.decDigits n.natAbs)
      (μ := fun u => u) (Q := fun ε σ => ε 0 = .v (.int .i64 n) ∧ ε 3 = aB (Lib.decDigits n.natAbs)) (x := n.natAbs) ?_ ?_ ?_
    · refine ⟨⟨by simp (maxSteps:=999999) -implicitDefEqProofs (disch:=omega) only [push_cast,↓reduceIte,Nat.reduceEqDiff,reduceCtorEq,wz], ?_⟩, Nat.le_refl _, [], by simp (maxSteps:=999999) -implicitDefEqProofs (disch:=omega) only [push_cast,↓reduceIte,Nat.reduceEqDiff,reduceCtorEq,wz], by unfold digsZ; rw [if_neg (by omega), List.append_nil]⟩
      simp (maxSteps:=999999) -implicitDefEqProofs (disch:=omega) only [push_cast,↓reduceIte,Nat.reduceEqDiff,reduceCtorEq,wz]
      congr 2
      split <;> omega
    · rintro u ε σ N E X R ⟨hρ, hu, cur, h3, hcur⟩ hN hE
      simp only [S_forebayref05_Of_L1]
      by_cases hu0 : u = 0
      · subst hu0
        have hM : (if n < 0 then -((0 : Nat) : Int) else ((0 : Nat) : Int)) = 0 := by split <;> rfl
        rw [hM] at hρ
        simp (maxSteps:=999999) -implicitDefEqProofs (disch:=omega) only [push_cast,↓reduceIte,Nat.reduceEqDiff,reduceCtorEq,wz,hρ]
        exact hE _ _ ⟨by simp (maxSteps:=999999) -implicitDefEqProofs (disch:=omega) only [push_cast,↓reduceIte,Nat.reduceEqDiff,reduceCtorEq,wz,hρ], by rw [← hcur]; simp (maxSteps:=999999) -implicitDefEqProofs (disch:=omega) only [push_cast,↓reduceIte,Nat.reduceEqDiff,reduceCtorEq,wz,h3]; rfl⟩
      · rw [digsZ_step hu0, List.append_assoc] at hcur
        have hcl : cur.length ≤ 30 := by
          have := congrArg List.length hcur
          simp at this
          omega
        have hq : PF.val (.bin .quo) [.int .i64 (if n < 0 then -(u : Int) else u), .int .i64 10] = some (.int .i64 (if n < 0 then -((u / 10 : Nat) : Int) else ((u / 10 : Nat) : Int))) := by
          rw [v_quo _ _ _ (by decide)]
          have e : (if n < 0 then -(u : Int) else (u : Int)).tdiv 10 = if n < 0 then -((u / 10 : Nat) : Int) else ((u / 10 : Nat) : Int) := by
            split
            · rw [Int.neg_tdiv, Int.tdiv_eq_ediv_of_nonneg (by omega)]; omega
            · rw [Int.tdiv_eq_ediv_of_nonneg (by omega)]; omega
          rw [e, wrap_in]
          · split <;> omega
          · split <;> omega
        have hr : PF.val (.bin .rem) [.int .i64 (if n < 0 then -(u : Int) else u), .int .i64 10] = some (.int .i64 (if n < 0 then -((u % 10 : Nat) : Int) else ((u % 10 : Nat) : Int))) := by
          rw [v_rem _ _ _ (by decide)]
          have e : (if n < 0 then -(u : Int) else (u : Int)).tmod 10 = if n < 0 then -((u % 10 : Nat) : Int) else ((u % 10 : Nat) : Int) := by
            split
            · rw [Int.neg_tmod, Int.tmod_eq_emod_of_nonneg (by omega)]; omega
            · rw [Int.tmod_eq_emod_of_nonneg (by omega)]; omega
          rw [e]
        have hM0 : ¬ ((if n < 0 then -(u : Int) else (u : Int)) = 0) := by split <;> omega
        have hq10 : u / 10 < u := by omega
        have hd10 : u % 10 < 10 := Nat.mod_lt _ (by decide)
        generalize (if n < 0 then -(u : Int) else (u : Int)) = M at hρ hq hr hM0
        generalize u % 10 = d at hr hd10 hcur
        generalize u / 10 = q at hq hq10 hcur
        obtain ⟨w1, w2⟩ := u8_48 d hd10
        have hadd := add_bA [UInt8.ofNat (48 + d)] cur (by simp; omega)
        have hsrc : ∀ σ : Kx.St, srcA σ 1 (.sl 1 [.v (.int .u8 (48 + (d : Int)))] .full) = some (1, [UInt8.ofNat (48 + d)].map fun b => .v (.int .u8 b.toNat)) := by
          intro σ
          simp only [srcA, List.map_cons, List.map_nil, w2]
        have hlast : ∀ (M' : Int) (hM' : M' = if n < 0 then -(q : Int) else (q : Int)), q ≤ n.natAbs := fun _ _ => by omega
        by_cases hs : n < 0 ∧ d ≠ 0
        · rw [if_pos hs.1] at hr hq
          have hng : PF.val .neg [.int .i64 (-(d : Int))] = some (.int .i64 (d : Int)) := by
            have hw := wrap_in (d : Int) (by omega) (by omega)
            simp [PF.val, hw]
          have hlt : (-(d : Int) < 0) := by omega
          simp (maxSteps:=999999) -implicitDefEqProofs (disch:=omega) only [push_cast,↓reduceIte,Nat.reduceEqDiff,reduceCtorEq,wz,hρ,hM0,hr,hlt,hng,w1]
          refine wpa_bsl (sz := 1) (by intro a ha; simp at ha; subst ha; rfl) (by simp) ?_
          simp (maxSteps:=999999) -implicitDefEqProofs (disch:=omega) only [push_cast,↓reduceIte,Nat.reduceEqDiff,reduceCtorEq,wz]
          refine wpa_b2s rfl (hsrc _) rfl ?_
          simp (maxSteps:=999999) -implicitDefEqProofs (disch:=omega) only [push_cast,↓reduceIte,Nat.reduceEqDiff,reduceCtorEq,wz,h3,hadd,hq,hρ]
          exact hN q _ _ ⟨by simp (maxSteps:=999999) -implicitDefEqProofs (disch:=omega) only [push_cast,↓reduceIte,Nat.reduceEqDiff,reduceCtorEq,wz,hρ]; rw [if_pos hs.1], by omega, UInt8.ofNat (48 + d) :: cur, by simp (maxSteps:=999999) -implicitDefEqProofs (disch:=omega) only [push_cast,↓reduceIte,Nat.reduceEqDiff,reduceCtorEq,wz], hcur⟩ hq10
        · have hr2 : PF.val (.bin .rem) [.int .i64 M, .int .i64 10] = some (.int .i64 (d : Int)) := by
            rw [hr]; congr 2; split <;> omega
          have hlt : ¬ ((d : Int) < 0) := by omega
          simp (maxSteps:=999999) -implicitDefEqProofs (disch:=omega) only [push_cast,↓reduceIte,Nat.reduceEqDiff,reduceCtorEq,wz,hρ,hM0,hr2,hlt,w1]
          refine wpa_bsl (sz := 1) (by intro a ha; simp at ha; subst ha; rfl) (by simp) ?_
          simp (maxSteps:=999999) -implicitDefEqProofs (disch:=omega) only [push_cast,↓reduceIte,Nat.reduceEqDiff,reduceCtorEq,wz]
          refine wpa_b2s rfl (hsrc _) rfl ?_
          simp (maxSteps:=999999) -implicitDefEqProofs (disch:=omega) only [push_cast,↓reduceIte,Nat.reduceEqDiff,reduceCtorEq,wz,h3,hadd,hq,hρ]
          exact hN q _ _ ⟨by simp (maxSteps:=999999) -implicitDefEqProofs (disch:=omega) only [push_cast,↓reduceIte,Nat.reduceEqDiff,reduceCtorEq,wz,hρ], by omega, UInt8.ofNat (48 + d) :: cur, by simp (maxSteps:=999999) -implicitDefEqProofs (disch:=omega) only [push_cast,↓reduceIte,Nat.reduceEqDiff,reduceCtorEq,wz], hcur⟩ hq10
    · rintro ε σ ⟨h0', h3⟩
      by_cases hneg : n < 0
      · have hadd := add_bA [45] (Lib.decDigits n.natAbs) (by simp; omega)
        simp (maxSteps:=999999) -implicitDefEqProofs (disch:=omega) only [push_cast,↓reduceIte,Nat.reduceEqDiff,reduceCtorEq,wz,h0',h3,hneg,hadd]
        refine ⟨[], rfl, ?_⟩
        unfold Lib.itoa
        rw [if_pos hneg]
      · simp (maxSteps:=999999) -implicitDefEqProofs (disch:=omega) only [push_cast,↓reduceIte,Nat.reduceEqDiff,reduceCtorEq,wz,h0',h3,hneg]
        refine ⟨[], rfl, ?_⟩
        unfold Lib.itoa
        rw [if_neg hneg, show n.natAbs = n.toNat by omega]
end Go.Proofs.YtjdpejggafefjaaDoor
/- Lists in writing. -/
namespace Go.Proofs.YtjdpejggafefjaaDoor
set_option linter.unusedVariables false
set_option linter.unusedSimpArgs false
open Go Go.Kx Go.Proofs

def I64 (x : Int) : Prop := -9223372036854775808 ≤ x ∧ x ≤ 9223372036854775807
def listF (xs : List Int) : List UInt8 := if xs = [] then [45] else joinR [44] (xs.map Lib.itoa) true
theorem itoa_ne (n : Int) : Lib.itoa n ≠ [] := by
  unfold Lib.itoa
  split
  · simp
  · rw [Lib.decDigits]; split <;> simp
theorem joinI_len {xs : List Int} (hx : ∀ x ∈ xs, I64 x) (k : Nat) : (joinR [44] ((xs.take k).map Lib.itoa) true).length ≤ k * 22 := by
  refine Nat.le_trans (joinR_len (sep := [44]) (m := 21) ?_) ?_
  · intro y hy
    obtain ⟨x, hx2, rfl⟩ := List.mem_map.1 hy
    obtain ⟨h0, h1⟩ := hx x (List.mem_of_mem_take hx2)
    exact Lib.itoa_length_le x h0 h1
  · rw [List.length_map, List.length_take, List.length_singleton]
    exact Nat.mul_le_mul (by omega) (Nat.le_refl _)

set_option maxHeartbeats 4000000 in
theorem ref05_List_a (xs : List Int) (hN : xs.length ≤ 100000) (hx : ∀ x ∈ xs, I64 x) : FnP Tryd.prog 37 [aInts xs] fun a => a = aB (listF xs) := by
  refine fnP_in K_forebayref05_List mixed rfl (by simp [AV.pureL, aInts_pure]) ?_
  simp only [S_forebayref05_List]
  simp (maxSteps:=999999) -implicitDefEqProofs (disch:=omega) only [push_cast,↓reduceIte,Nat.reduceEqDiff,reduceCtorEq,wz,aInts,aSl]
  refine wpa_blx (α := Nat) (I := fun k ε σ => (ε 0 = .sl xs.length (xs.map aInt) .none ∧ ε 3 = aB (joinR [44] ((xs.take k).map Lib.itoa) true) ∧ ε 4 = .v (.int .i64 k)) ∧ k ≤ xs.length)
    (μ := fun k => xs.length - k) (Q := fun ε σ => ε 3 = aB (joinR [44] (xs.map Lib.itoa) true)) (x := 0) ?_ ?_ ?_
  · simp (maxSteps:=999999) -implicitDefEqProofs (disch:=omega) only [push_cast,↓reduceIte,Nat.reduceEqDiff,reduceCtorEq,wz]
    exact ⟨rfl, by omega⟩
  · rintro k ε σ N E X R ⟨hρ, hk⟩ hN2 hE
    simp only [S_forebayref05_List_L1]
    by_cases hlt : k < xs.length
    · obtain ⟨x, hxk⟩ := at_lt hlt
      have hkl : (k : Int) < xs.length := by omega
      obtain ⟨b0, b1⟩ := hx x (List.mem_of_getElem? hxk)
      have hil := Lib.itoa_length_le x b0 b1
      have hjl := joinI_len hx k
      have hmk : (xs.map Lib.itoa)[k]? = some (Lib.itoa x) := by simp [hxk]
      have hjt := joinR_take (sep := [44]) hmk
      rw [← List.map_take, ← List.map_take] at hjt
      generalize joinR [44] ((xs.take k).map Lib.itoa) true = J at hρ hjl hjt
      by_cases h0 : k = 0
      · have hle : ¬ ((0 : Int) < (k : Int)) := by omega
        have hadd := add_bA J (Lib.itoa x) (by omega)
        simp (maxSteps:=999999) -implicitDefEqProofs (disch:=omega) only [push_cast,↓reduceIte,Nat.reduceEqDiff,reduceCtorEq,wz,hρ,hkl,hle,hxk,aInt]
        refine wpa_call (ref05_Of_a x b0 b1) ?_
        rintro a rfl
        simp (maxSteps:=999999) -implicitDefEqProofs (disch:=omega) only [push_cast,↓reduceIte,Nat.reduceEqDiff,reduceCtorEq,wz,hρ,hadd]
        refine hN2 (k + 1) _ _ ⟨by simp (maxSteps:=999999) -implicitDefEqProofs (disch:=omega) only [push_cast,↓reduceIte,Nat.reduceEqDiff,reduceCtorEq,wz,hρ]; rw [hjt, if_pos h0]; simp, by omega⟩ (by omega)
      · have hgt : ((0 : Int) < (k : Int)) := by omega
        have hadd := add_bA J [44] (by simp; omega)
        have hadd2 := add_bA (J ++ [44]) (Lib.itoa x) (by simp; omega)
        simp (maxSteps:=999999) -implicitDefEqProofs (disch:=omega) only [push_cast,↓reduceIte,Nat.reduceEqDiff,reduceCtorEq,wz,hρ,hkl,hgt,hxk,hadd,aInt]
        refine wpa_call (ref05_Of_a x b0 b1) ?_
        rintro a rfl
        simp (maxSteps:=999999) -implicitDefEqProofs (disch:=omega) only [push_cast,↓reduceIte,Nat.reduceEqDiff,reduceCtorEq,wz,hρ,hadd2]
        refine hN2 (k + 1) _ _ ⟨by simp (maxSteps:=999999) -implicitDefEqProofs (disch:=omega) only [push_cast,↓reduceIte,Nat.reduceEqDiff,reduceCtorEq,wz,hρ]; rw [hjt, if_neg h0], by omega⟩ (by omega)
    · have hle : ¬ ((k : Int) < xs.length) := by omega
      simp (maxSteps:=999999) -implicitDefEqProofs (disch:=omega) only [push_cast,↓reduceIte,Nat.reduceEqDiff,reduceCtorEq,wz,hρ,hle]
      have : k = xs.length := by omega
      subst this
      rw [List.take_length] at hρ
      exact hE _ _ (by simp (maxSteps:=999999) -implicitDefEqProofs (disch:=omega) only [push_cast,↓reduceIte,Nat.reduceEqDiff,reduceCtorEq,wz,hρ])
  · rintro ε σ h3
    by_cases hz : xs = []
    · subst hz
      have h3 : ε 3 = .v (.string ⟨#[]⟩) := h3
      simp (maxSteps:=999999) -implicitDefEqProofs (disch:=omega) only [push_cast,↓reduceIte,Nat.reduceEqDiff,reduceCtorEq,wz,h3]
      exact ⟨[], rfl, rfl⟩
    · have hne : ¬ (bA (joinR [44] (xs.map Lib.itoa) true) = ⟨#[]⟩) := by
        intro e
        have := bA_nil.1 e
        cases xs with
        | nil => exact hz rfl
        | cons x xs => simp only [List.map_cons, joinR, if_true, List.nil_append, List.append_eq_nil_iff] at this; exact itoa_ne x this.1
      simp (maxSteps:=999999) -implicitDefEqProofs (disch:=omega) only [push_cast,↓reduceIte,Nat.reduceEqDiff,reduceCtorEq,wz,h3,hne]
      exact ⟨[], rfl, by rw [listF, if_neg hz]⟩

set_option maxHeartbeats 4000000 in
theorem List_a (xs : List Int) (hN : xs.length ≤ 100000) (hx : ∀ x ∈ xs, I64 x) : FnP Tryd.prog 35 [aInts xs] fun a => a = aB (listF xs) := by
  refine fnP_in K_words_List mixed rfl (by simp [AV.pureL, aInts_pure]) ?_
  simp only [S_words_List]
  by_cases hz : xs = []
  · subst hz
    simp (maxSteps:=999999) -implicitDefEqProofs (disch:=omega) only [push_cast,↓reduceIte,Nat.reduceEqDiff,reduceCtorEq,wz,aInts,aSl]
    exact ⟨[], rfl, rfl⟩
  · have hl0 : ¬ ((xs.length : Int) = 0) := by
      intro e
      exact hz (List.eq_nil_of_length_eq_zero (by omega))
    simp (maxSteps:=999999) -implicitDefEqProofs (disch:=omega) only [push_cast,↓reduceIte,Nat.reduceEqDiff,reduceCtorEq,wz,aInts,aSl,hl0]
    refine wpa_blgx (GU.tok 3 1 rfl) (α := Nat) (I := fun k ε σ => (ε 9 = .sl xs.length (xs.map aInt) .none ∧ ε 10 = .v (.int .i64 xs.length) ∧ ε 11 = .v (.int .i64 k)) ∧ k ≤ xs.length ∧ ∃ w, ε 3 = .sl k (((xs.take k).map Lib.itoa).map aB) (.id 0 w 1) ∧ σ[0]? = some (.tail w))
      (μ := fun k => xs.length - k) (Q := fun ε σ => ∃ w, ε 3 = .sl xs.length ((xs.map Lib.itoa).map aB) (.id 0 w 1)) (x := 0) ?_ ?_ ?_
    · simp (maxSteps:=999999) -implicitDefEqProofs (disch:=omega) only [push_cast,↓reduceIte,Nat.reduceEqDiff,reduceCtorEq,wz]
      exact ⟨by omega, 0, rfl, rfl⟩
    · rintro k ε σ N E X R ⟨hρ, hk, w, h3, hs0⟩ hN2 hE
      simp only [S_words_List_L1]
      by_cases hlt : k < xs.length
      · obtain ⟨x, hxk⟩ := at_lt hlt
        have hkl : (k : Int) < xs.length := by omega
        obtain ⟨b0, b1⟩ := hx x (List.mem_of_getElem? hxk)
        simp (maxSteps:=999999) -implicitDefEqProofs (disch:=omega) only [push_cast,↓reduceIte,Nat.reduceEqDiff,reduceCtorEq,wz,hρ,hkl,hxk,aInt,h3]
        refine wpa_call (Of_a x b0 b1) ?_
        rintro a rfl
        simp (maxSteps:=999999) -implicitDefEqProofs (disch:=omega) only [push_cast,↓reduceIte,Nat.reduceEqDiff,reduceCtorEq,wz,h3]
        refine wpa_bsl (sz := 1) (by intro a ha; simp at ha; subst ha; rfl) (by simp) ?_
        simp (maxSteps:=999999) -implicitDefEqProofs (disch:=omega) only [push_cast,↓reduceIte,Nat.reduceEqDiff,reduceCtorEq,wz,h3]
        refine wpa_app (m := 1) rfl rfl rfl rfl (by simp; omega) (by omega) (by omega) hs0 ?_
        simp (maxSteps:=999999) -implicitDefEqProofs (disch:=omega) only [push_cast,↓reduceIte,Nat.reduceEqDiff,reduceCtorEq,wz,hρ]
        exact hN2 (k + 1) _ _ ⟨by simp (maxSteps:=999999) -implicitDefEqProofs (disch:=omega) only [push_cast,↓reduceIte,Nat.reduceEqDiff,reduceCtorEq,wz,hρ], by omega, w + 1, by simp (maxSteps:=999999) -implicitDefEqProofs (disch:=omega) only [push_cast,↓reduceIte,Nat.reduceEqDiff,reduceCtorEq,wz]; rw [take_succ_at hxk]; simp [AV.cells, Value.cells], get_set_eq hs0⟩ (by omega)
      · have hle : ¬ ((k : Int) < xs.length) := by omega
        simp (maxSteps:=999999) -implicitDefEqProofs (disch:=omega) only [push_cast,↓reduceIte,Nat.reduceEqDiff,reduceCtorEq,wz,hρ,hle]
        have : k = xs.length := by omega
        subst this
        rw [List.take_length] at h3
        exact hE _ _ ⟨w, h3⟩
    · rintro ε σ ⟨w, h3⟩
      simp (maxSteps:=999999) -implicitDefEqProofs (disch:=omega) only [push_cast,↓reduceIte,Nat.reduceEqDiff,reduceCtorEq,wz,h3]
      have hm : ∀ ys : List (List UInt8), (ys.map bA).map (·.data.toList) = ys := by intro ys; simp [List.map_map, Function.comp_def]
      have hm2 : ((xs.map Lib.itoa).map bA).map aS = (xs.map Lib.itoa).map aB := by simp [List.map_map, Function.comp_def]
      have hjl := joinI_len hx xs.length
      rw [List.take_length, ← join_joinR] at hjl
      have h := join_a ((xs.map Lib.itoa).map bA) ⟨#[44]⟩ .none (by rw [hm2, List.length_map]; exact aBl_pure _) (by simp; omega) (by rw [hm]; exact Nat.le_trans hjl (by omega))
      rw [hm2, List.length_map, List.length_map, hm] at h
      have he : weak (Go.Kx.freeze [] σ) [true, true] [.sl xs.length ((xs.map Lib.itoa).map aB) (.id 0 w 1), .v (.string ⟨#[44]⟩)] = [.sl xs.length ((xs.map Lib.itoa).map aB) .none, aS ⟨#[44]⟩] := by
        have e := aSl_res (σ := Go.Kx.freeze [] σ) (f := aB) (fun _ => rfl) (xs.map Lib.itoa) (.id 0 w 1)
        rw [List.length_map] at e
        show [AV.res (Go.Kx.freeze [] σ) _, _] = _
        rw [e]
        simp only [aSl, List.length_map]
        rfl
      refine wpa_callw [] [true, true] h he ?_
      rintro a rfl
      simp (maxSteps:=999999) -implicitDefEqProofs (disch:=omega) only [push_cast,↓reduceIte,Nat.reduceEqDiff,reduceCtorEq,wz]
      refine ⟨[], rfl, ?_⟩
      rw [listF, if_neg hz, ← join_joinR]
end Go.Proofs.YtjdpejggafefjaaDoor
/- strings.HasPrefix, strings.TrimPrefix, at a prefix of one byte. -/
namespace Go.Proofs.YtjdpejggafefjaaDoor
set_option linter.unusedVariables false
set_option linter.unusedSimpArgs false
open Go Go.Kx Go.Proofs

theorem bA_one {b c : UInt8} : bA [b] = bA [c] ↔ b = c := by
  constructor
  · intro h
    have := congrArg (fun x : ByteArray => x.data.toList) h
    simpa using this
  · rintro rfl; rfl
theorem slite_HasPrefix_a (l : List UInt8) (c : UInt8) (hl : l.length ≤ 1000000) : FnP Tryd.prog 89 [aB l, aB [c]] fun a => a = aBool (decide (l.head? = some c)) := by
  refine fnP_in K_internal_stringslite_HasPrefix mixed rfl rfl ?_
  simp only [S_internal_stringslite_HasPrefix]
  cases l with
  | nil =>
    have hle : ¬ (((bA [c]).size : Int) ≤ ((bA []).size : Int)) := by rw [size_bA, size_bA]; simp
    simp (maxSteps:=999999) -implicitDefEqProofs (disch:=omega) only [push_cast,↓reduceIte,Nat.reduceEqDiff,reduceCtorEq,wz,hle]
    exact ⟨[], rfl, rfl⟩
  | cons b l =>
    have hle : (((bA [c]).size : Int) ≤ ((bA (b :: l)).size : Int)) := by rw [size_bA, size_bA]; simp only [List.length_cons, List.length_nil]; omega
    have hex : PF.val (.sls false true) [.string (bA (b :: l)), .int .i64 ((bA [c]).size : Nat)] = some (.string (bA [b])) := by
      have h1 := bound_in (bA (b :: l)).size .i64 1 (by omega) (by rw [size_bA]; simp only [List.length_cons]; omega)
      have h2 : (bA (b :: l)).extract 0 1 = bA [b] := by rw [extract_bA]; rfl
      rw [show ((bA [c]).size : Int) = 1 from rfl]
      simp [PF.val, loHi, h1, h2]
    by_cases hbc : b = c
    · have he : bA [b] = bA [c] := bA_one.2 hbc
      simp (maxSteps:=999999) -implicitDefEqProofs (disch:=omega) only [push_cast,↓reduceIte,Nat.reduceEqDiff,reduceCtorEq,wz,hle,hex,he]
      exact ⟨[], rfl, by rw [hbc]; simp [aBool]⟩
    · have he : ¬ (bA [b] = bA [c]) := fun e => hbc (bA_one.1 e)
      simp (maxSteps:=999999) -implicitDefEqProofs (disch:=omega) only [push_cast,↓reduceIte,Nat.reduceEqDiff,reduceCtorEq,wz,hle,hex,he]
      exact ⟨[], rfl, by simp [aBool, hbc]⟩
theorem HasPrefix_a (l : List UInt8) (c : UInt8) (hl : l.length ≤ 1000000) : FnP Tryd.prog 63 [aB l, aB [c]] fun a => a = aBool (decide (l.head? = some c)) := by
  refine fnP_in K_strings_HasPrefix mixed rfl rfl ?_
  simp only [S_strings_HasPrefix]
  simp (maxSteps:=999999) -implicitDefEqProofs (disch:=omega) only [push_cast,↓reduceIte,Nat.reduceEqDiff,reduceCtorEq,wz]
  refine wpa_call (slite_HasPrefix_a l c hl) ?_
  rintro a rfl
  simp (maxSteps:=999999) -implicitDefEqProofs (disch:=omega) only [push_cast,↓reduceIte,Nat.reduceEqDiff,reduceCtorEq,wz]
  exact ⟨[], rfl, rfl⟩
theorem slite_TrimPrefix_a (l : List UInt8) (c : UInt8) (hl : l.length ≤ 1000000) : FnP Tryd.prog 88 [aB l, aB [c]] fun a => a = aB (if l.head? = some c then l.tail else l) := by
  refine fnP_in K_internal_stringslite_TrimPrefix mixed rfl rfl ?_
  simp only [S_internal_stringslite_TrimPrefix]
  simp (maxSteps:=999999) -implicitDefEqProofs (disch:=omega) only [push_cast,↓reduceIte,Nat.reduceEqDiff,reduceCtorEq,wz]
  refine wpa_call (slite_HasPrefix_a l c hl) ?_
  rintro a rfl
  by_cases h : l.head? = some c
  · have hd : decide (l.head? = some c) = true := decide_eq_true h
    have hex : PF.val (.sls true false) [.string (bA l), .int .i64 ((bA [c]).size : Nat)] = some (.string (bA l.tail)) := by
      have hl1 : 1 ≤ l.length := by cases l with | nil => cases h | cons => simp
      rw [pv_sls_l _ _ _ (by omega) (by rw [size_bA, size_bA]; simp only [List.length_cons, List.length_nil]; omega)]
      have : (bA l).extract 1 (bA l).size = bA l.tail := by
        rw [extract_bA, size_bA, List.drop_one, List.take_of_length_le (by simp)]
      rw [show ((bA [c]).size : Int).toNat = 1 from rfl, this]
    simp (maxSteps:=999999) -implicitDefEqProofs (disch:=omega) only [push_cast,↓reduceIte,Nat.reduceEqDiff,reduceCtorEq,wz,aBool,hd,hex]
    exact ⟨[], rfl, by rw [if_pos h]⟩
  · have hd : decide (l.head? = some c) = false := decide_eq_false h
    simp (maxSteps:=999999) -implicitDefEqProofs (disch:=omega) only [push_cast,↓reduceIte,Nat.reduceEqDiff,reduceCtorEq,wz,aBool,hd]
    exact ⟨[], rfl, by rw [if_neg h]⟩
theorem TrimPrefix_a (l : List UInt8) (c : UInt8) (hl : l.length ≤ 1000000) : FnP Tryd.prog 62 [aB l, aB [c]] fun a => a = aB (if l.head? = some c then l.tail else l) := by
  refine fnP_in K_strings_TrimPrefix mixed rfl rfl ?_
  simp only [S_strings_TrimPrefix]
  simp (maxSteps:=999999) -implicitDefEqProofs (disch:=omega) only [push_cast,↓reduceIte,Nat.reduceEqDiff,reduceCtorEq,wz]
  refine wpa_call (slite_TrimPrefix_a l c hl) ?_
  rintro a rfl
  simp (maxSteps:=999999) -implicitDefEqProofs (disch:=omega) only [push_cast,↓reduceIte,Nat.reduceEqDiff,reduceCtorEq,wz]
  exact ⟨[], rfl⟩
end Go.Proofs.YtjdpejggafefjaaDoor
/- Plain: the number that is written. -/
namespace Go.Proofs.YtjdpejggafefjaaDoor
set_option linter.unusedVariables false
set_option linter.unusedSimpArgs false
open Go Go.Kx Go.Proofs

def digB (b : UInt8) : Bool := decide (48 ≤ b.toNat) && decide (b.toNat ≤ 57)
def valD (l : List UInt8) : Int := l.foldl (fun a b => 10 * a + ((b.toNat : Int) - 48)) 0
def bodyN (l : List UInt8) : List UInt8 := if l.head? = some 45 then l.tail else l
def signN (l : List UInt8) (v : Int) : Int := if l.head? = some 45 then -v else v
def numF (l : List UInt8) : Int × Bool :=
  if 20 < l.length then (0, false)
  else if (bodyN l).all digB = true then
    (if Lib.itoa (IntKind.i64.wrap (signN l (valD (bodyN l)))) = l then (IntKind.i64.wrap (signN l (valD (bodyN l))), true) else (0, false))
  else (0, false)
theorem wrap_emod (a : Int) : IntKind.i64.wrap a % 18446744073709551616 = a % 18446744073709551616 := by
  simp only [IntKind.wrap, IntKind.bits, IntKind.signed]
  simp
  try (split <;> omega)
theorem wrap_congr {a b : Int} (h : a % 18446744073709551616 = b % 18446744073709551616) : IntKind.i64.wrap a = IntKind.i64.wrap b := by
  simp only [IntKind.wrap, IntKind.bits, IntKind.signed]
  simp
  try (omega)
theorem valD_snoc (l : List UInt8) (b : UInt8) : valD (l ++ [b]) = 10 * valD l + ((b.toNat : Int) - 48) := by
  simp [valD, List.foldl_append]
theorem dec_val : ∀ u : Nat, valD (Lib.decDigits u) = u ∧ (Lib.decDigits u).all digB = true := by
  intro u
  induction u using Nat.strongRecOn with
  | ind u ih =>
    have hd : ∀ d : Nat, d < 10 → ((UInt8.ofNat (48 + d)).toNat : Int) - 48 = d ∧ digB (UInt8.ofNat (48 + d)) = true := by decide
    rw [Lib.decDigits]
    by_cases h : u < 10
    · rw [dif_pos h]
      obtain ⟨h1, h2⟩ := hd u h
      exact ⟨by simp [valD]; omega, by rw [List.all_cons, h2]; rfl⟩
    · rw [dif_neg h]
      obtain ⟨h1, h2⟩ := hd (u % 10) (Nat.mod_lt _ (by decide))
      obtain ⟨i1, i2⟩ := ih (u / 10) (by omega)
      refine ⟨?_, by rw [List.all_append, i2, List.all_cons, h2]; rfl⟩
      rw [valD_snoc, i1, h1]
      omega
theorem dec_len : ∀ (k u : Nat), u < 10 ^ (k + 1) → (Lib.decDigits u).length ≤ k + 1 := by
  intro k
  induction k with
  | zero => intro u h; rw [Lib.decDigits, dif_pos (by omega)]; simp
  | succ k ih =>
    intro u h
    rw [Lib.decDigits]
    split
    · simp
    · have := ih (u / 10) (by rw [Nat.pow_succ] at h; omega)
      rw [List.length_append, List.length_singleton]
      omega
theorem dec_head (u : Nat) : (Lib.decDigits u).head? ≠ some 45 := by
  intro h
  have h2 := (dec_val u).2
  cases hd : Lib.decDigits u with
  | nil => rw [hd] at h; cases h
  | cons b l =>
    rw [hd] at h h2
    cases h
    simp [digB] at h2
theorem numF_itoa (n : Int) (h0 : -9223372036854775808 ≤ n) (h1 : n ≤ 9223372036854775807) : numF (Lib.itoa n) = (n, true) := by
  have hl := dec_len 18 n.natAbs (by omega)
  obtain ⟨v1, v2⟩ := dec_val n.natAbs
  have hb : bodyN (Lib.itoa n) = Lib.decDigits n.natAbs ∧ ∀ v, signN (Lib.itoa n) v = (if n < 0 then -v else v) := by
    unfold Lib.itoa bodyN signN
    by_cases hn : n < 0
    · simp [hn]
    · have : n.toNat = n.natAbs := by omega
      simp [hn, this, dec_head]
  have hlen : ¬ 20 < (Lib.itoa n).length := by
    unfold Lib.itoa
    split
    · simp; omega
    · rw [show n.toNat = n.natAbs by omega]; omega
  have hv : (if n < 0 then -((n.natAbs : Nat) : Int) else ((n.natAbs : Nat) : Int)) = n := by split <;> omega
  unfold numF
  rw [if_neg hlen, hb.1, v2, if_pos rfl, hb.2, v1, hv, wrap_in n h0 h1, if_pos rfl]
end Go.Proofs.YtjdpejggafefjaaDoor
/- words.Num. -/
namespace Go.Proofs.YtjdpejggafefjaaDoor
set_option linter.unusedVariables false
set_option linter.unusedSimpArgs false
open Go Go.Kx Go.Proofs

abbrev aNum (p : Int × Bool) : AV := .tup [.v (.int .i64 p.1), .v (.bool p.2)]
set_option maxHeartbeats 4000000 in
theorem Num_a (l : List UInt8) (hl : l.length ≤ 1000000) : FnP Tryd.prog 29 [aB l] fun a => a = aNum (numF l) := by
  refine fnP_in K_words_Num mixed rfl rfl ?_
  simp only [S_words_Num]
  by_cases h20 : 20 < l.length
  · have hgt : ((20 : Int) < (bA l).size) := by rw [size_bA]; omega
    simp (maxSteps:=999999) -implicitDefEqProofs (disch:=omega) only [push_cast,↓reduceIte,Nat.reduceEqDiff,reduceCtorEq,wz,hgt]
    refine fin_vv ?_
    unfold numF
    rw [if_pos h20]
  · have hgt : ¬ ((20 : Int) < (bA l).size) := by rw [size_bA]; omega
    simp (maxSteps:=999999) -implicitDefEqProofs (disch:=omega) only [push_cast,↓reduceIte,Nat.reduceEqDiff,reduceCtorEq,wz,hgt]
    refine wpa_call (TrimPrefix_a l 45 hl) ?_
    rintro a rfl
    simp (maxSteps:=999999) -implicitDefEqProofs (disch:=omega) only [push_cast,↓reduceIte,Nat.reduceEqDiff,reduceCtorEq,wz]
    refine wpa_sit ?_
    simp (maxSteps:=999999) -implicitDefEqProofs (disch:=omega) only [push_cast,↓reduceIte,Nat.reduceEqDiff,reduceCtorEq,wz]
    have htl : (bodyN l).length ≤ 20 := by
      have h1 : l.tail.length ≤ l.length := by rw [List.length_tail]; omega
      unfold bodyN
      split <;> omega
    change act (wpA _ _ _ _ _ _ [.itr (bA (bodyN l)) 0])
    generalize hT : bodyN l = T at htl
    refine wpa_bl (α := Nat) (I := fun k ε σ => (ε 0 = aB l ∧ ε 12 = .ref 0 0 0 ∧ ε 4 = .v (.int .i64 (IntKind.i64.wrap (-(valD (T.take k)))))) ∧ k ≤ T.length ∧ σ[0]? = some (.itr (bA T) k) ∧ (T.take k).all digB = true)
      (μ := fun k => T.length - k) (Q := fun ε σ => (ε 0 = aB l ∧ ε 4 = .v (.int .i64 (IntKind.i64.wrap (-(valD T))))) ∧ T.all digB = true) (x := 0) ?_ ?_ ?_
    · simp (maxSteps:=999999) -implicitDefEqProofs (disch:=omega) only [push_cast,↓reduceIte,Nat.reduceEqDiff,reduceCtorEq,wz]
      exact ⟨rfl, by omega, rfl⟩
    · rintro k ε σ N E ⟨hρ, hk, hit, hdg⟩ hN hE
      simp only [S_words_Num_L1]
      simp (maxSteps:=999999) -implicitDefEqProofs (disch:=omega) only [push_cast,↓reduceIte,Nat.reduceEqDiff,reduceCtorEq,wz,hρ]
      by_cases hlt : k < T.length
      · obtain ⟨b, hb⟩ := at_lt hlt
        have hsz : k < (bA T).size := hlt
        have hget : (bA T).get! k = b := Option.some.inj ((data_at hsz).symm.trans hb)
        have hnum : digB b ≠ true → numF l = (0, false) := by
          intro hd
          unfold numF
          rw [if_neg h20, hT, if_neg]
          intro h
          exact hd (List.all_eq_true.1 h b (List.mem_of_getElem? hb))
        refine wpa_nxt hit hsz ?_
        by_cases h128 : b.toNat < 128
        · have hd : Utf8.decode (bA T) k = (b.toNat, 1) := by
            rw [← hget, get_bang _ k hsz]
            exact decode_ascii _ k hsz (by rw [← get_bang _ k hsz, hget]; exact h128)
          rw [hd]
          by_cases hdb : 48 ≤ b.toNat ∧ b.toNat ≤ 57
          · have e1 : ¬ ((b.toNat : Int) < 48) := by omega
            have e2 : ¬ ((57 : Int) < (b.toNat : Int)) := by omega
            simp (maxSteps:=999999) -implicitDefEqProofs (disch:=omega) only [push_cast,↓reduceIte,Nat.reduceEqDiff,reduceCtorEq,wz,hρ,e1,e2]
            have hv : IntKind.i64.wrap (IntKind.i64.wrap (10 * IntKind.i64.wrap (-valD (T.take k))) - IntKind.i64.wrap (IntKind.i32.wrap ((b.toNat : Int) - 48))) = IntKind.i64.wrap (-(valD (T.take (k + 1)))) := by
              rw [take_succ_at hb, valD_snoc]
              have w32 : ∀ d : Nat, d < 10 → IntKind.i32.wrap (d : Int) = d := by decide
              have e3 := w32 (b.toNat - 48) (by omega)
              rw [show ((b.toNat - 48 : Nat) : Int) = (b.toNat : Int) - 48 by omega] at e3
              rw [e3, wrap_in ((b.toNat : Int) - 48) (by omega) (by omega)]
              apply wrap_congr
              have m1 := wrap_emod (-valD (T.take k))
              generalize IntKind.i64.wrap (-valD (T.take k)) = A at m1 ⊢
              have m2 := wrap_emod (10 * A)
              generalize IntKind.i64.wrap (10 * A) = B at m2 ⊢
              omega
            rw [hv]
            exact hN (k + 1) _ _ ⟨by simp (maxSteps:=999999) -implicitDefEqProofs (disch:=omega) only [push_cast,↓reduceIte,Nat.reduceEqDiff,reduceCtorEq,wz,hρ], by omega, get_set_eq hit, by rw [take_succ_at hb, List.all_append, hdg, List.all_cons]; simp [digB, hdb]⟩ (by omega)
          · have hn := hnum (by unfold digB; simp; omega)
            by_cases h48 : b.toNat < 48
            · have e1 : ((b.toNat : Int) < 48) := by omega
              simp (maxSteps:=999999) -implicitDefEqProofs (disch:=omega) only [push_cast,↓reduceIte,Nat.reduceEqDiff,reduceCtorEq,wz,hρ,e1]
              refine fin_vv ?_
              rw [hn]
            · have e1 : ¬ ((b.toNat : Int) < 48) := by omega
              have e2 : ((57 : Int) < (b.toNat : Int)) := by omega
              simp (maxSteps:=999999) -implicitDefEqProofs (disch:=omega) only [push_cast,↓reduceIte,Nat.reduceEqDiff,reduceCtorEq,wz,hρ,e1,e2]
              refine fin_vv ?_
              rw [hn]
        · have hn := hnum (by unfold digB; simp; omega)
          have hc := (decode_high (bA T) k hsz (by rw [← get_bang _ k hsz, hget]; omega)).1
          generalize Utf8.decode (bA T) k = d at hc
          have e1 : ¬ ((d.1 : Int) < 48) := by omega
          have e2 : ((57 : Int) < (d.1 : Int)) := by omega
          simp (maxSteps:=999999) -implicitDefEqProofs (disch:=omega) only [push_cast,↓reduceIte,Nat.reduceEqDiff,reduceCtorEq,wz,hρ,e1,e2]
          refine fin_vv ?_
          rw [hn]
      · refine wpa_nxt_end hit (show ¬ k < (bA T).size from hlt) ?_
        simp (maxSteps:=999999) -implicitDefEqProofs (disch:=omega) only [push_cast,↓reduceIte,Nat.reduceEqDiff,reduceCtorEq,wz]
        have : k = T.length := by omega
        subst this
        rw [List.take_length] at hdg hρ
        exact hE _ _ ⟨by simp (maxSteps:=999999) -implicitDefEqProofs (disch:=omega) only [push_cast,↓reduceIte,Nat.reduceEqDiff,reduceCtorEq,wz,hρ], hdg⟩
    · rintro ε σ ⟨hρ, hdg⟩
      simp (maxSteps:=999999) -implicitDefEqProofs (disch:=omega) only [push_cast,↓reduceIte,Nat.reduceEqDiff,reduceCtorEq,wz,hρ]
      refine wpa_call (HasPrefix_a l 45 hl) ?_
      rintro a rfl
      have wb : ∀ a : Int, -9223372036854775808 ≤ IntKind.i64.wrap a ∧ IntKind.i64.wrap a ≤ 9223372036854775807 := by
        intro a
        simp only [IntKind.wrap, IntKind.bits, IntKind.signed]
        simp
        first | omega | (constructor <;> omega) | (split <;> omega)
      by_cases hm : l.head? = some 45
      · have hd : decide (l.head? = some 45) = true := decide_eq_true hm
        simp (maxSteps:=999999) -implicitDefEqProofs (disch:=omega) only [push_cast,↓reduceIte,Nat.reduceEqDiff,reduceCtorEq,wz,hρ,aBool,hd]
        refine wpa_call (Of_a _ (wb (-valD T)).1 (wb (-valD T)).2) ?_
        rintro a rfl
        by_cases he : Lib.itoa (IntKind.i64.wrap (-valD T)) = l
        · have h1 : bA (Lib.itoa (IntKind.i64.wrap (-valD T))) = bA l := by rw [he]
          simp (maxSteps:=999999) -implicitDefEqProofs (disch:=omega) only [push_cast,↓reduceIte,Nat.reduceEqDiff,reduceCtorEq,wz,hρ,h1]
          refine fin_vv ?_
          unfold numF signN
          rw [if_neg h20, hT, if_pos hdg, if_pos hm, if_pos he]
        · have h1 : ¬ (bA (Lib.itoa (IntKind.i64.wrap (-valD T))) = bA l) := fun e => he (by have := congrArg (fun x : ByteArray => x.data.toList) e; simpa using this)
          simp (maxSteps:=999999) -implicitDefEqProofs (disch:=omega) only [push_cast,↓reduceIte,Nat.reduceEqDiff,reduceCtorEq,wz,hρ,h1]
          refine fin_vv ?_
          unfold numF signN
          rw [if_neg h20, hT, if_pos hdg, if_pos hm, if_neg he]
      · have hd : decide (l.head? = some 45) = false := decide_eq_false hm
        have hv : IntKind.i64.wrap (-(IntKind.i64.wrap (-valD T))) = IntKind.i64.wrap (valD T) := by
          apply wrap_congr
          have m1 := wrap_emod (-valD T)
          generalize IntKind.i64.wrap (-valD T) = A at m1 ⊢
          omega
        have hng : PF.val .neg [.int .i64 (IntKind.i64.wrap (-valD T))] = some (.int .i64 (IntKind.i64.wrap (valD T))) := by
          rw [← hv]
          simp [PF.val]
        simp (maxSteps:=999999) -implicitDefEqProofs (disch:=omega) only [push_cast,↓reduceIte,Nat.reduceEqDiff,reduceCtorEq,wz,hρ,aBool,hd,hng]
        refine wpa_call (Of_a _ (wb (valD T)).1 (wb (valD T)).2) ?_
        rintro a rfl
        by_cases he : Lib.itoa (IntKind.i64.wrap (valD T)) = l
        · have h1 : bA (Lib.itoa (IntKind.i64.wrap (valD T))) = bA l := by rw [he]
          simp (maxSteps:=999999) -implicitDefEqProofs (disch:=omega) only [push_cast,↓reduceIte,Nat.reduceEqDiff,reduceCtorEq,wz,hρ,h1]
          refine fin_vv ?_
          unfold numF signN
          rw [if_neg h20, hT, if_pos hdg, if_neg hm, if_pos he]
        · have h1 : ¬ (bA (Lib.itoa (IntKind.i64.wrap (valD T))) = bA l) := fun e => he (by have := congrArg (fun x : ByteArray => x.data.toList) e; simpa using this)
          simp (maxSteps:=999999) -implicitDefEqProofs (disch:=omega) only [push_cast,↓reduceIte,Nat.reduceEqDiff,reduceCtorEq,wz,hρ,h1]
          refine fin_vv ?_
          unfold numF signN
          rw [if_neg h20, hT, if_pos hdg, if_neg hm, if_neg he]
end Go.Proofs.YtjdpejggafefjaaDoor
/- Plain: lists in writing: a text cut at commas; what is written is read; lines and words back. -/
namespace Go.Proofs.YtjdpejggafefjaaDoor
set_option linter.unusedVariables false
set_option linter.unusedSimpArgs false
open Go Go.Kx Go.Proofs

def cutB (sg : UInt8) : List UInt8 → List UInt8 → List (List UInt8)
  | cur, [] => [cur]
  | cur, b :: bs => if b = sg then cur :: cutB sg [] bs else cutB sg (cur ++ [b]) bs
theorem index_cons (b c : UInt8) (l : List UInt8) : Lib.index (b :: l) [c] = if b = c then 0 else if Lib.index l [c] = -1 then -1 else Lib.index l [c] + 1 := by
  rw [Lib.index]
  by_cases h : b = c
  · subst h; simp [List.isPrefixOf]
  · simp [List.isPrefixOf, Ne.symm h, h]
theorem cut_split (c : UInt8) : ∀ (l cur : List UInt8), ∃ p ps, Lib.splitK [c] 0 (Lib.count l [c]) l = p :: ps ∧ cutB c cur l = (cur ++ p) :: ps := by
  intro l
  induction l with
  | nil => intro cur; exact ⟨[], [], by rw [Lib.count_one]; rfl, by simp [cutB]⟩
  | cons b l ih =>
    intro cur
    have hix := index_cons b c l
    by_cases h : b = c
    · obtain ⟨p, ps, h1, h2⟩ := ih []
      rw [if_pos h] at hix
      subst h
      refine ⟨[], p :: ps, ?_, ?_⟩
      · rw [Lib.count_cons_eq, Nat.add_comm, Lib.splitK, hix]
        simp [h1]
      · simp only [cutB, if_true]
        rw [h2]
        simp
    · obtain ⟨p, ps, h1, h2⟩ := ih (cur ++ [b])
      rw [if_neg h] at hix
      rw [Lib.count_cons_ne b c l h]
      refine ⟨b :: p, ps, ?_, ?_⟩
      · cases hk : Lib.count l [c] with
        | zero =>
          rw [hk] at h1
          simp only [Lib.splitK] at h1 ⊢
          cases h1
          rfl
        | succ k =>
          rw [hk] at h1
          simp only [Lib.splitK] at h1 ⊢
          have hge := Lib.index_ge l [c]
          by_cases hm : Lib.index l [c] = -1
          · have := Lib.count_miss hm
            omega
          · rw [if_neg hm] at hix
            have e1 : (Lib.index l [c] + 1).toNat = (Lib.index l [c]).toNat + 1 := by omega
            have e2 : ¬ (Lib.index l [c] + 1 = -1) := by omega
            rw [hix]
            simp only [beq_iff_eq, hm, e2, if_false, e1] at h1 ⊢
            cases h1
            simp
      · simp only [cutB, if_neg h]
        rw [h2]
        simp
theorem split_cut (c : UInt8) (l : List UInt8) : Lib.splitK [c] 0 (Lib.count l [c]) l = cutB c [] l := by
  obtain ⟨p, ps, h1, h2⟩ := cut_split c l []
  rw [h1, h2]
  rfl
theorem cutB_skip {sg : UInt8} : ∀ (xs cur bs : List UInt8), (∀ x ∈ xs, x ≠ sg) → cutB sg cur (xs ++ bs) = cutB sg (cur ++ xs) bs := by
  intro xs
  induction xs with
  | nil => intro cur bs _; simp
  | cons x xs ih =>
    intro cur bs h
    rw [List.cons_append]
    simp only [cutB]
    rw [if_neg (h x (by simp)), ih _ _ fun y hy => h y (by simp [hy])]
    simp
theorem cutB_len {sg : UInt8} : ∀ (bs cur : List UInt8), (cutB sg cur bs).length ≤ bs.length + 1 ∧ ∀ x ∈ cutB sg cur bs, x.length ≤ bs.length + cur.length := by
  intro bs
  induction bs with
  | nil => intro cur; simp [cutB]
  | cons b bs ih =>
    intro cur
    simp only [cutB]
    split
    · obtain ⟨h1, h2⟩ := ih []
      refine ⟨by simp only [List.length_cons]; omega, fun x hx => ?_⟩
      rcases List.mem_cons.1 hx with rfl | hx
      · simp only [List.length_cons]; omega
      · have := h2 x hx; simp only [List.length_cons, List.length_nil] at this ⊢; omega
    · obtain ⟨h1, h2⟩ := ih (cur ++ [b])
      refine ⟨by simp only [List.length_cons]; omega, fun x hx => ?_⟩
      have := h2 x hx; simp only [List.length_cons, List.length_append, List.length_singleton, List.length_nil] at this ⊢; omega
/-- What comes behind the first part. -/
theorem cut_join {sg : UInt8} : ∀ (xs : List (List UInt8)) (cur : List UInt8), (∀ x ∈ xs, ∀ b ∈ x, b ≠ sg) → cutB sg cur (joinR [sg] xs false) = cur :: xs := by
  intro xs
  induction xs with
  | nil => intro cur _; rfl
  | cons x xs ih =>
    intro cur h
    have hx := h x (by simp)
    rw [joinR]
    simp only [Bool.false_eq_true, if_false, List.singleton_append, List.cons_append, List.nil_append, cutB, if_true]
    rw [cutB_skip x [] _ hx, List.nil_append, ih x fun y hy => h y (by simp [hy])]
theorem cut_joinR {sg : UInt8} (x : List UInt8) (xs : List (List UInt8)) (h : ∀ y ∈ x :: xs, ∀ b ∈ y, b ≠ sg) : cutB sg [] (joinR [sg] (x :: xs) true) = x :: xs := by
  rw [joinR]
  simp only [if_true, List.nil_append]
  rw [cutB_skip x [] _ (h x (by simp)), List.nil_append, cut_join xs x fun y hy => h y (by simp [hy])]

/-- The numbers that are written. -/
def numsGo : List (List UInt8) → List Int → List Int × Bool
  | [], acc => (acc, true)
  | w :: ws, acc => if (numF w).2 = true then numsGo ws (acc ++ [(numF w).1]) else ([], false)
def numsF (l : List UInt8) : List Int × Bool := if l = [45] then ([], true) else numsGo (cutB 44 [] l) []
theorem numsGo_itoa : ∀ (xs acc : List Int), (∀ x ∈ xs, I64 x) → numsGo (xs.map Lib.itoa) acc = (acc ++ xs, true) := by
  intro xs
  induction xs with
  | nil => intro acc _; simp [numsGo]
  | cons x xs ih =>
    intro acc h
    obtain ⟨h0, h1⟩ := h x (by simp)
    rw [List.map_cons, numsGo, numF_itoa x h0 h1]
    rw [if_pos rfl, ih _ fun y hy => h y (by simp [hy])]
    simp
theorem itoa_chars (n : Int) : ∀ b ∈ Lib.itoa n, b = 45 ∨ digB b = true := by
  intro b hb
  have h2 := (dec_val n.natAbs).2
  unfold Lib.itoa at hb
  split at hb
  · rcases List.mem_cons.1 hb with h | h
    · left; exact h
    · right; exact List.all_eq_true.1 h2 b h
  · rw [show n.toNat = n.natAbs by omega] at hb
    right; exact List.all_eq_true.1 h2 b hb
theorem itoa_no {n : Int} {c : UInt8} (h45 : c ≠ 45) (hd : digB c = false) : ∀ b ∈ Lib.itoa n, b ≠ c := by
  rintro b hb rfl
  rcases itoa_chars n b hb with h | h
  · exact h45 h
  · rw [hd] at h; cases h
theorem itoa_ne45 (n : Int) : Lib.itoa n ≠ [45] := by
  intro h
  have h2 := (dec_val n.natAbs)
  unfold Lib.itoa at h
  split at h
  · have : Lib.decDigits n.natAbs = [] := by simpa using h
    rw [this] at h2
    have := h2.1
    simp [valD] at this
    omega
  · rw [show n.toNat = n.natAbs by omega] at h
    have := dec_head n.natAbs
    rw [h] at this
    exact this rfl
theorem numsF_listF (xs : List Int) (h : ∀ x ∈ xs, I64 x) : numsF (listF xs) = (xs, true) := by
  unfold numsF listF
  cases xs with
  | nil => rfl
  | cons x xs =>
    have e0 : (if x :: xs = [] then [45] else joinR [44] ((x :: xs).map Lib.itoa) true) = joinR [44] ((x :: xs).map Lib.itoa) true := if_neg (by simp)
    rw [e0]
    have hne : joinR [44] ((x :: xs).map Lib.itoa) true ≠ [45] := by
      intro e
      rw [List.map_cons, joinR] at e
      simp only [if_true, List.nil_append] at e
      have hx := itoa_ne45 x
      cases hi : Lib.itoa x with
      | nil => exact itoa_ne x hi
      | cons b l =>
        rw [hi] at e hx
        cases l with
        | nil =>
          simp only [List.cons_append, List.nil_append, List.cons.injEq] at e
          exact hx (by rw [e.1])
        | cons _ _ => simp at e
    rw [if_neg hne, List.map_cons, cut_joinR]
    · have := numsGo_itoa (x :: xs) [] h
      simpa using this
    · intro y hy b hb
      rw [← List.map_cons, List.mem_map] at hy
      obtain ⟨z, _, rfl⟩ := hy
      exact itoa_no (by decide) (by decide) b hb
theorem numsGo_len : ∀ (ws : List (List UInt8)) (acc : List Int), (numsGo ws acc).1.length ≤ acc.length + ws.length := by
  intro ws
  induction ws with
  | nil => intro acc; simp [numsGo]
  | cons w ws ih =>
    intro acc
    rw [numsGo]
    split
    · have := ih (acc ++ [(numF w).1]); simp at this ⊢; omega
    · simp

/-! Lines and words back. -/
/-- A word that has no blank and is not empty. -/
def plainW (w : List UInt8) : Bool := decide (partsB 32 false [] w = [w]) && decide (partsB 10 true [] w = [w])
theorem partsB_one {sg : UInt8} {em : Bool} : ∀ (w cur : List UInt8), partsB sg em cur w = [cur ++ w] → ∀ b ∈ w, b ≠ sg := by
  intro w
  induction w with
  | nil => intro cur _ b hb; cases hb
  | cons x w ih =>
    intro cur h b hb
    simp only [partsB] at h
    by_cases hx : x = sg
    · exfalso
      rw [if_pos hx] at h
      have hl := partsB_len (sign := sg) (em := em) w []
      simp only [if_true, Nat.add_zero, List.length_nil] at hl
      split at h
      · have h1 := (List.cons.inj h).1
        have := congrArg List.length h1
        simp at this
      · have hm : cur ++ x :: w ∈ partsB sg em [] w := by rw [h]; simp
        have := hl.2 _ hm
        simp at this
        omega
    · rw [if_neg hx] at h
      rcases List.mem_cons.1 hb with rfl | hb
      · exact hx
      · exact ih (cur ++ [x]) (by rw [h]; simp) b hb
theorem plainW_ok {w : List UInt8} (h : plainW w = true) : w ≠ [] ∧ (∀ b ∈ w, b ≠ 32) ∧ ∀ b ∈ w, b ≠ 10 := by
  simp only [plainW, Bool.and_eq_true, decide_eq_true_eq] at h
  exact ⟨by rintro rfl; exact absurd h.1 (by simp [partsB]), partsB_one w [] h.1, partsB_one w [] h.2⟩
theorem fields_join : ∀ (ws : List (List UInt8)) (cur : List UInt8), (∀ w ∈ ws, w ≠ [] ∧ ∀ b ∈ w, b ≠ 32) → cur ≠ [] → partsB 32 false cur (joinR [32] ws false) = cur :: ws := by
  intro ws
  induction ws with
  | nil => intro cur _ hc; simp [joinR, partsB, hc]
  | cons w ws ih =>
    intro cur h hc
    rw [joinR]
    simp only [Bool.false_eq_true, if_false, List.singleton_append, List.cons_append, List.nil_append, partsB, if_true]
    rw [if_pos (.inr hc), partsB_skip w [] _ (h w (by simp)).2, List.nil_append, ih w (fun y hy => h y (by simp [hy])) (h w (by simp)).1]
theorem fields_back (ws : List (List UInt8)) (h : ∀ w ∈ ws, w ≠ [] ∧ ∀ b ∈ w, b ≠ 32) : partsB 32 false [] (joinR [32] ws true) = ws := by
  cases ws with
  | nil => rfl
  | cons w ws =>
    rw [joinR]
    simp only [if_true, List.nil_append]
    rw [partsB_skip w [] _ (h w (by simp)).2, List.nil_append, fields_join ws w (fun y hy => h y (by simp [hy])) (h w (by simp)).1]
def linesT (ws : List (List UInt8)) : List UInt8 := (ws.map fun w => w ++ [10]).flatten
theorem lines_back : ∀ (ws : List (List UInt8)), (∀ w ∈ ws, ∀ b ∈ w, b ≠ 10) → partsB 10 true [] (linesT ws) = ws := by
  intro ws
  induction ws with
  | nil => intro _; rfl
  | cons w ws ih =>
    intro h
    have e : linesT (w :: ws) = w ++ 10 :: linesT ws := by simp [linesT]
    rw [e, partsB_skip w [] _ (h w (by simp)), List.nil_append]
    simp only [partsB, if_true]
    rw [if_pos (.inl trivial), ih fun y hy => h y (by simp [hy])]
end Go.Proofs.YtjdpejggafefjaaDoor
/- The document's Num. -/
namespace Go.Proofs.YtjdpejggafefjaaDoor
set_option linter.unusedVariables false
set_option linter.unusedSimpArgs false
open Go Go.Kx Go.Proofs

theorem bodyN_step {l : List UInt8} {k : Nat} {b : UInt8} (h : l[k]? = some b) (hn : ¬ (k = 0 ∧ b = 45)) : bodyN (l.take (k + 1)) = bodyN (l.take k) ++ [b] ∧ b ∈ bodyN l := by
  cases l with
  | nil => simp at h
  | cons x l =>
    cases k with
    | zero =>
      simp only [List.getElem?_cons_zero, Option.some.injEq] at h
      subst h
      have h45 : x ≠ 45 := fun e => hn ⟨rfl, e⟩
      simp [bodyN, h45]
    | succ k =>
      simp only [List.getElem?_cons_succ] at h
      by_cases h45 : x = 45
      · simp only [bodyN, h45, List.take_succ_cons, List.head?_cons, if_true, List.tail_cons]
        exact ⟨take_succ_at h, List.mem_of_getElem? h⟩
      · have hne : ¬ ((x :: l).head? = some 45) := by simp [h45]
        have hne2 : ∀ m, ¬ ((x :: l.take m).head? = some 45) := by intro m; simp [h45]
        simp only [bodyN, List.take_succ_cons, if_neg hne, if_neg (hne2 _)]
        exact ⟨by rw [take_succ_at h]; simp [h45], List.mem_cons_of_mem _ (List.mem_of_getElem? h)⟩
theorem bodyN_dash {l : List UInt8} (h : l[0]? = some 45) : bodyN (l.take 1) = [] := by
  cases l with
  | nil => simp at h
  | cons x l => simp at h; subst h; simp [bodyN]
theorem wrapI (a : Int) : -9223372036854775808 ≤ IntKind.i64.wrap a ∧ IntKind.i64.wrap a ≤ 9223372036854775807 := by
  simp only [IntKind.wrap, IntKind.bits, IntKind.signed]
  simp
  first | omega | (constructor <;> omega) | (split <;> omega)
theorem ne_bA {a b : List UInt8} (h : a ≠ b) : ¬ (bA a = bA b) := fun e => h (by have := congrArg (fun x : ByteArray => x.data.toList) e; simpa using this)

set_option maxHeartbeats 4000000 in
theorem ref05_Num_a (l : List UInt8) (hl : l.length ≤ 1000000) : FnP Tryd.prog 30 [aB l] fun a => a = aNum (numF l) := by
  refine fnP_in K_forebayref05_Num mixed rfl rfl ?_
  simp only [S_forebayref05_Num]
  by_cases h20 : 20 < l.length
  · have hgt : ((20 : Int) < (bA l).size) := by rw [size_bA]; omega
    simp (maxSteps:=999999) -implicitDefEqProofs (disch:=omega) only [push_cast,↓reduceIte,Nat.reduceEqDiff,reduceCtorEq,wz,hgt]
    refine fin_vv ?_
    unfold numF
    rw [if_pos h20]
  · have hgt : ¬ ((20 : Int) < (bA l).size) := by rw [size_bA]; omega
    simp (maxSteps:=999999) -implicitDefEqProofs (disch:=omega) only [push_cast,↓reduceIte,Nat.reduceEqDiff,reduceCtorEq,wz,hgt]
    refine wpa_bl (α := Nat) (I := fun k ε σ => (ε 0 = aB l ∧ ε 5 = .v (.int .i64 k) ∧ ε 4 = .v (.int .i64 (IntKind.i64.wrap (valD (bodyN (l.take k)))))) ∧ k ≤ l.length ∧ (bodyN (l.take k)).all digB = true)
      (μ := fun k => l.length - k) (Q := fun ε σ => (ε 0 = aB l ∧ ε 4 = .v (.int .i64 (IntKind.i64.wrap (valD (bodyN l))))) ∧ (bodyN l).all digB = true) (x := 0) ?_ ?_ ?_
    · simp (maxSteps:=999999) -implicitDefEqProofs (disch:=omega) only [push_cast,↓reduceIte,Nat.reduceEqDiff,reduceCtorEq,wz]
      exact ⟨by rw [show valD (bodyN []) = 0 from rfl]; rfl, by omega, by simp [bodyN]⟩
    · rintro k ε σ N E ⟨hρ, hk, hdg⟩ hN hE
      simp only [S_forebayref05_Num_L1]
      by_cases hlt : k < l.length
      · obtain ⟨b, hb⟩ := at_lt hlt
        have hkl : (k : Int) < (bA l).size := by rw [size_bA]; omega
        have hix : PF.val .ixs [.string (bA l), .int .i64 k] = some (.int .u8 b.toNat) := pv_str_ix (by omega) (by simpa using hb)
        by_cases hd : k = 0 ∧ b = 45
        · obtain ⟨rfl, rfl⟩ := hd
          have hix : PF.val .ixs [.string (bA l), .int .i64 0] = some (.int .u8 45) := hix
          simp (maxSteps:=999999) -implicitDefEqProofs (disch:=omega) only [push_cast,↓reduceIte,Nat.reduceEqDiff,reduceCtorEq,wz,hρ,hkl,hix]
          exact hN 1 _ _ ⟨by simp (maxSteps:=999999) -implicitDefEqProofs (disch:=omega) only [push_cast,↓reduceIte,Nat.reduceEqDiff,reduceCtorEq,wz,hρ]; rw [bodyN_dash hb]; simp [bodyN], by omega, by rw [bodyN_dash hb]; rfl⟩ (by omega)
        · obtain ⟨hst, hmem⟩ := bodyN_step hb hd
          have hnum : digB b ≠ true → numF l = (0, false) := by
            intro hdb
            unfold numF
            rw [if_neg h20, if_neg]
            intro h
            exact hdb (List.all_eq_true.1 h b hmem)
          have hc : (¬ ((k : Int) = 0)) ∨ (k = 0 ∧ ¬ ((b.toNat : Int) = 45)) := by
            by_cases hk0 : k = 0
            · refine .inr ⟨hk0, fun e => hd ⟨hk0, UInt8.toNat_inj.1 (by rw [show (45 : UInt8).toNat = 45 from rfl]; omega)⟩⟩
            · exact .inl (by omega)
          by_cases hdb : 48 ≤ b.toNat ∧ b.toNat ≤ 57
          · have e1 : ¬ ((b.toNat : Int) < 48) := by omega
            have e2 : ¬ ((57 : Int) < (b.toNat : Int)) := by omega
            have hdig : digB b = true := by simp [digB, hdb]
            have hv : IntKind.i64.wrap (IntKind.i64.wrap (IntKind.i64.wrap (10 * IntKind.i64.wrap (valD (bodyN (l.take k)))) + (b.toNat : Int)) - 48) = IntKind.i64.wrap (valD (bodyN (l.take (k + 1)))) := by
              rw [hst, valD_snoc]
              apply wrap_congr
              have m1 := wrap_emod (valD (bodyN (l.take k)))
              generalize IntKind.i64.wrap (valD (bodyN (l.take k))) = A at m1 ⊢
              have m2 := wrap_emod (10 * A)
              generalize IntKind.i64.wrap (10 * A) = B at m2 ⊢
              have m3 := wrap_emod (B + (b.toNat : Int))
              generalize IntKind.i64.wrap (B + (b.toNat : Int)) = C at m3 ⊢
              omega
            rcases hc with hc | ⟨rfl, hc⟩
            · simp (maxSteps:=999999) -implicitDefEqProofs (disch:=omega) only [push_cast,↓reduceIte,Nat.reduceEqDiff,reduceCtorEq,wz,hρ,hkl,hix,hc,e1,e2,hv]
              exact hN (k + 1) _ _ ⟨by simp (maxSteps:=999999) -implicitDefEqProofs (disch:=omega) only [push_cast,↓reduceIte,Nat.reduceEqDiff,reduceCtorEq,wz,hρ], by omega, by rw [hst, List.all_append, hdg, List.all_cons, hdig]; rfl⟩ (by omega)
            · have hix : PF.val .ixs [.string (bA l), .int .i64 0] = some (.int .u8 b.toNat) := hix
              simp (maxSteps:=999999) -implicitDefEqProofs (disch:=omega) only [push_cast,↓reduceIte,Nat.reduceEqDiff,reduceCtorEq,wz,hρ,hkl,hix,hc,e1,e2,hv]
              exact hN (0 + 1) _ _ ⟨by simp (maxSteps:=999999) -implicitDefEqProofs (disch:=omega) only [push_cast,↓reduceIte,Nat.reduceEqDiff,reduceCtorEq,wz,hρ]; exact congrArg (fun z => AV.v (Value.int .i64 z)) hv, by omega, by rw [hst, List.all_append, hdg, List.all_cons, hdig]; rfl⟩ (by omega)
          · have hn := hnum (by unfold digB; simp; omega)
            have e12 : ((b.toNat : Int) < 48) ∨ (¬ ((b.toNat : Int) < 48) ∧ (57 : Int) < (b.toNat : Int)) := by omega
            rcases hc with hc | ⟨rfl, hc⟩
            · rcases e12 with e1 | ⟨e1, e2⟩
              · simp (maxSteps:=999999) -implicitDefEqProofs (disch:=omega) only [push_cast,↓reduceIte,Nat.reduceEqDiff,reduceCtorEq,wz,hρ,hkl,hix,hc,e1]
                refine fin_vv ?_
                rw [hn]
              · simp (maxSteps:=999999) -implicitDefEqProofs (disch:=omega) only [push_cast,↓reduceIte,Nat.reduceEqDiff,reduceCtorEq,wz,hρ,hkl,hix,hc,e1,e2]
                refine fin_vv ?_
                rw [hn]
            · have hix : PF.val .ixs [.string (bA l), .int .i64 0] = some (.int .u8 b.toNat) := hix
              rcases e12 with e1 | ⟨e1, e2⟩
              · simp (maxSteps:=999999) -implicitDefEqProofs (disch:=omega) only [push_cast,↓reduceIte,Nat.reduceEqDiff,reduceCtorEq,wz,hρ,hkl,hix,hc,e1]
                refine fin_vv ?_
                rw [hn]
              · simp (maxSteps:=999999) -implicitDefEqProofs (disch:=omega) only [push_cast,↓reduceIte,Nat.reduceEqDiff,reduceCtorEq,wz,hρ,hkl,hix,hc,e1,e2]
                refine fin_vv ?_
                rw [hn]
      · have hle : ¬ (k : Int) < (bA l).size := by rw [size_bA]; omega
        simp (maxSteps:=999999) -implicitDefEqProofs (disch:=omega) only [push_cast,↓reduceIte,Nat.reduceEqDiff,reduceCtorEq,wz,hρ,hle]
        have : k = l.length := by omega
        subst this
        rw [List.take_length] at hdg hρ
        exact hE _ _ ⟨by simp (maxSteps:=999999) -implicitDefEqProofs (disch:=omega) only [push_cast,↓reduceIte,Nat.reduceEqDiff,reduceCtorEq,wz,hρ], hdg⟩
    · rintro ε σ ⟨hρ, hdg⟩
      have fin : ∀ v, v = IntKind.i64.wrap (signN l (valD (bodyN l))) → numF l = if Lib.itoa v = l then (v, true) else (0, false) := by
        rintro v rfl
        unfold numF
        rw [if_neg h20, if_pos hdg]
      by_cases hm : l[0]? = some 45
      · have hlen : (0 : Int) < (bA l).size := by rw [size_bA]; have := lt_at hm; omega
        have hix : PF.val .ixs [.string (bA l), .int .i64 0] = some (.int .u8 45) := pv_str_ix (b := 45) (i := 0) (by decide) (by simpa using hm)
        have hv : IntKind.i64.wrap (-(IntKind.i64.wrap (valD (bodyN l)))) = IntKind.i64.wrap (signN l (valD (bodyN l))) := by
          unfold signN
          rw [if_pos (by rw [List.head?_eq_getElem?]; exact hm)]
          apply wrap_congr
          have m1 := wrap_emod (valD (bodyN l))
          generalize IntKind.i64.wrap (valD (bodyN l)) = A at m1 ⊢
          omega
        have hng : PF.val .neg [.int .i64 (IntKind.i64.wrap (valD (bodyN l)))] = some (.int .i64 (IntKind.i64.wrap (signN l (valD (bodyN l))))) := by
          rw [← hv]
          simp [PF.val]
        simp (maxSteps:=999999) -implicitDefEqProofs (disch:=omega) only [push_cast,↓reduceIte,Nat.reduceEqDiff,reduceCtorEq,wz,hρ,hlen,hix,hng]
        refine wpa_call (ref05_Of_a _ (wrapI _).1 (wrapI _).2) ?_
        rintro a rfl
        have hf := fin _ rfl
        by_cases he : Lib.itoa (IntKind.i64.wrap (signN l (valD (bodyN l)))) = l
        · have h1 : bA (Lib.itoa (IntKind.i64.wrap (signN l (valD (bodyN l))))) = bA l := by rw [he]
          rw [if_pos he] at hf
          simp (maxSteps:=999999) -implicitDefEqProofs (disch:=omega) only [push_cast,↓reduceIte,Nat.reduceEqDiff,reduceCtorEq,wz,hρ,h1]
          refine fin_vv ?_
          rw [hf]
        · have h1 := ne_bA he
          rw [if_neg he] at hf
          simp (maxSteps:=999999) -implicitDefEqProofs (disch:=omega) only [push_cast,↓reduceIte,Nat.reduceEqDiff,reduceCtorEq,wz,hρ,h1]
          refine fin_vv ?_
          rw [hf]
      · have hv : signN l (valD (bodyN l)) = valD (bodyN l) := by
          unfold signN
          rw [if_neg (by rw [List.head?_eq_getElem?]; exact hm)]
        have hf := fin _ rfl
        rw [hv] at hf
        have hcase : (¬ (0 : Int) < (bA l).size) ∨ ((0 : Int) < (bA l).size ∧ ∃ b : UInt8, PF.val .ixs [.string (bA l), .int .i64 0] = some (.int .u8 b.toNat) ∧ ¬ ((b.toNat : Int) = 45)) := by
          by_cases hlt : 0 < l.length
          · obtain ⟨b, hb⟩ := at_lt hlt
            have hix : PF.val .ixs [.string (bA l), .int .i64 0] = some (.int .u8 b.toNat) := pv_str_ix (by omega) (by simpa using hb)
            refine .inr ⟨by rw [size_bA]; omega, b, hix, fun e => hm ?_⟩
            rw [hb]
            congr 1
            exact UInt8.toNat_inj.1 (by rw [show (45 : UInt8).toNat = 45 from rfl]; omega)
          · exact .inl (by rw [size_bA]; omega)
        rcases hcase with hlen | ⟨hlen, b, hix, hb⟩
        · simp (maxSteps:=999999) -implicitDefEqProofs (disch:=omega) only [push_cast,↓reduceIte,Nat.reduceEqDiff,reduceCtorEq,wz,hρ,hlen]
          refine wpa_call (ref05_Of_a _ (wrapI _).1 (wrapI _).2) ?_
          rintro a rfl
          by_cases he : Lib.itoa (IntKind.i64.wrap (valD (bodyN l))) = l
          · have h1 : bA (Lib.itoa (IntKind.i64.wrap (valD (bodyN l)))) = bA l := by rw [he]
            rw [if_pos he] at hf
            simp (maxSteps:=999999) -implicitDefEqProofs (disch:=omega) only [push_cast,↓reduceIte,Nat.reduceEqDiff,reduceCtorEq,wz,hρ,h1]
            refine fin_vv ?_
            rw [hf]
          · have h1 := ne_bA he
            rw [if_neg he] at hf
            simp (maxSteps:=999999) -implicitDefEqProofs (disch:=omega) only [push_cast,↓reduceIte,Nat.reduceEqDiff,reduceCtorEq,wz,hρ,h1]
            refine fin_vv ?_
            rw [hf]
        · simp (maxSteps:=999999) -implicitDefEqProofs (disch:=omega) only [push_cast,↓reduceIte,Nat.reduceEqDiff,reduceCtorEq,wz,hρ,hlen,hix,hb]
          refine wpa_call (ref05_Of_a _ (wrapI _).1 (wrapI _).2) ?_
          rintro a rfl
          by_cases he : Lib.itoa (IntKind.i64.wrap (valD (bodyN l))) = l
          · have h1 : bA (Lib.itoa (IntKind.i64.wrap (valD (bodyN l)))) = bA l := by rw [he]
            rw [if_pos he] at hf
            simp (maxSteps:=999999) -implicitDefEqProofs (disch:=omega) only [push_cast,↓reduceIte,Nat.reduceEqDiff,reduceCtorEq,wz,hρ,h1]
            refine fin_vv ?_
            rw [hf]
          · have h1 := ne_bA he
            rw [if_neg he] at hf
            simp (maxSteps:=999999) -implicitDefEqProofs (disch:=omega) only [push_cast,↓reduceIte,Nat.reduceEqDiff,reduceCtorEq,wz,hρ,h1]
            refine fin_vv ?_
            rw [hf]
end Go.Proofs.YtjdpejggafefjaaDoor
/- Nums of both; are two lists the same; works. -/
namespace Go.Proofs.YtjdpejggafefjaaDoor
set_option linter.unusedVariables false
set_option linter.unusedSimpArgs false
open Go Go.Kx Go.Proofs

set_option maxHeartbeats 4000000 in
theorem law05_Ints_a (l k : List Int) (hl : l.length ≤ 1000000) (hk : k.length ≤ 1000000) : FnP Tryd.prog 36 [aInts l, aInts k] fun a => a = aBool (l == k) := by
  refine fnP_in K_forebaylaw05_Ints mixed rfl (by simp [AV.pureL, aInts_pure]) ?_
  simp only [S_forebaylaw05_Ints, aInts, aSl]
  by_cases hle : l.length = k.length
  · simp (maxSteps:=999999) -implicitDefEqProofs (disch:=omega) only [push_cast,↓reduceIte,Nat.reduceEqDiff,reduceCtorEq,wz,hle]
    refine wpa_bl (α := Nat) (I := fun t ε σ => (ε 0 = .sl l.length (l.map aInt) .none ∧ ε 1 = .sl k.length (k.map aInt) .none ∧ ε 5 = .v (.int .i64 t)) ∧ t ≤ l.length ∧ l.take t = k.take t)
      (μ := fun t => l.length - t) (Q := fun _ _ => l = k) (x := 0) ?_ ?_ ?_
    · simp (maxSteps:=999999) -implicitDefEqProofs (disch:=omega) only [push_cast,↓reduceIte,Nat.reduceEqDiff,reduceCtorEq,wz,hle]
      omega
    · rintro t ε σ N E ⟨hρ, ht, heq⟩ hN hE
      simp only [S_forebaylaw05_Ints_L1]
      by_cases hlt : t < l.length
      · obtain ⟨x, hx⟩ := at_lt hlt
        obtain ⟨y, hy⟩ := at_lt (l := k) (k := t) (by omega)
        by_cases he : x = y
        · subst he
          simp (maxSteps:=999999) -implicitDefEqProofs (disch:=omega) only [push_cast,↓reduceIte,Nat.reduceEqDiff,reduceCtorEq,wz,hρ,hx,hy,aInt]
          refine hN (t + 1) _ _ ?_ (by omega)
          simp (maxSteps:=999999) -implicitDefEqProofs (disch:=omega) only [push_cast,↓reduceIte,Nat.reduceEqDiff,reduceCtorEq,wz,hρ]
          exact ⟨by omega, by rw [take_succ_at hx, take_succ_at hy, heq]⟩
        · simp (maxSteps:=999999) -implicitDefEqProofs (disch:=omega) only [push_cast,↓reduceIte,Nat.reduceEqDiff,reduceCtorEq,wz,hρ,hx,hy,aInt,he]
          refine fin_v ?_
          have : l ≠ k := by
            intro e; subst e; rw [hx] at hy; cases hy; exact he rfl
          simp [aBool, this]
      · simp (maxSteps:=999999) -implicitDefEqProofs (disch:=omega) only [push_cast,↓reduceIte,Nat.reduceEqDiff,reduceCtorEq,wz,hρ]
        refine hE _ _ ?_
        rwa [List.take_of_length_le (by omega), List.take_of_length_le (by omega)] at heq
    · intro ε σ h
      simp (maxSteps:=999999) -implicitDefEqProofs (disch:=omega) only [push_cast,↓reduceIte,Nat.reduceEqDiff,reduceCtorEq,wz]
      exact fin_v (by simp [aBool, h])
  · simp (maxSteps:=999999) -implicitDefEqProofs (disch:=omega) only [push_cast,↓reduceIte,Nat.reduceEqDiff,reduceCtorEq,wz,hle]
    refine fin_v ?_
    have : l ≠ k := by intro e; subst e; exact hle rfl
    simp [aBool, this]

theorem split_bA (l : List UInt8) (hl : l.length < 4294967281) : FnP Tryd.prog 65 [aB l, aB [44]] fun a => a = .sl (cutB 44 [] l).length ((cutB 44 [] l).map aB) .full := by
  have h := split_a (bA l) (bA [44]) hl (by decide)
  have e : ∀ xs : List ByteArray, xs.map aS = (xs.map (·.data.toList)).map aB := by
    intro xs; simp [List.map_map, Function.comp_def]
  have e2 : (Lib.splitB (bA [44]) 0 (Lib.countB (bA l) (bA [44])) (bA l)).map (·.data.toList) = cutB 44 [] l := by
    rw [Lib.splitB_data]
    have : (bA [44]).data.toList = [44] := rfl
    have h2 : (bA l).data.toList = l := by simp
    rw [Lib.countB, this, h2]
    exact split_cut 44 l
  rw [e, e2] at h
  have e3 := congrArg List.length e2
  rw [List.length_map] at e3
  rw [e3] at h
  exact h
abbrev aNums (p : List Int × Bool) : AV := .tup [aInts p.1, .v (.bool p.2)]
theorem numsGo_at {W : List (List UInt8)} {k : Nat} {w : List UInt8} (acc : List Int) (h : W[k]? = some w) :
    numsGo (W.drop k) acc = if (numF w).2 = true then numsGo (W.drop (k + 1)) (acc ++ [(numF w).1]) else ([], false) := by
  rw [drop_at h, numsGo]
theorem aIntsT_res (σ : Kx.St) (xs : List Int) (t : Tok) : (AV.sl xs.length (xs.map aInt) t).res σ = aInts xs := aSl_res (fun _ => rfl) xs t

set_option maxHeartbeats 4000000 in
theorem Nums_a (l : List UInt8) (hl : l.length ≤ 100000) : FnP Tryd.prog 33 [aB l] fun a => a = aNums (numsF l) := by
  refine fnP_in K_words_Nums mixed rfl rfl ?_
  simp only [S_words_Nums]
  by_cases h45 : l = [45]
  · subst h45
    simp (maxSteps:=999999) -implicitDefEqProofs (disch:=omega) only [push_cast,↓reduceIte,Nat.reduceEqDiff,reduceCtorEq,wz]
    exact fin_tup2 [] rfl rfl rfl rfl rfl
  · have hne := ne_bA h45
    have hF : numsF l = numsGo (cutB 44 [] l) [] := by unfold numsF; rw [if_neg h45]
    obtain ⟨hWl, hWm⟩ := cutB_len (sg := 44) l []
    rw [List.length_nil, Nat.add_zero] at hWm
    simp (maxSteps:=999999) -implicitDefEqProofs (disch:=omega) only [push_cast,↓reduceIte,Nat.reduceEqDiff,reduceCtorEq,wz,hne]
    refine wpa_call (split_bA l (by omega)) ?_
    rintro a rfl
    generalize cutB 44 [] l = W at hF hWl hWm
    simp (maxSteps:=999999) -implicitDefEqProofs (disch:=omega) only [push_cast,↓reduceIte,Nat.reduceEqDiff,reduceCtorEq,wz]
    refine wpa_blg (GU.tok 4 1 rfl) (α := Nat) (I := fun k ε σ => (ε 12 = .sl W.length (W.map aB) .full ∧ ε 13 = .v (.int .i64 W.length) ∧ ε 14 = .v (.int .i64 k)) ∧ k ≤ W.length ∧ ∃ (w : Nat) (acc : List Int), ε 4 = .sl acc.length (acc.map aInt) (.id 0 w 1) ∧ σ[0]? = some (.tail w) ∧ acc.length ≤ k ∧ numsGo (W.drop k) acc = numsF l)
      (μ := fun k => W.length - k) (Q := fun ε σ => ∃ (w : Nat) (acc : List Int), ε 4 = .sl acc.length (acc.map aInt) (.id 0 w 1) ∧ numsF l = (acc, true)) (x := 0) ?_ ?_ ?_
    · simp (maxSteps:=999999) -implicitDefEqProofs (disch:=omega) only [push_cast,↓reduceIte,Nat.reduceEqDiff,reduceCtorEq,wz]
      exact ⟨by omega, 0, [], rfl, rfl, by simp, by rw [hF]⟩
    · rintro k ε σ N E ⟨hρ, hk, w, acc, h4, hs0, hal, hacc⟩ hN hE
      simp only [S_words_Nums_L1]
      by_cases hlt : k < W.length
      · obtain ⟨x, hx⟩ := at_lt hlt
        have hkl : (k : Int) < W.length := by omega
        have hxl := hWm x (List.mem_of_getElem? hx)
        rw [numsGo_at acc hx] at hacc
        simp (maxSteps:=999999) -implicitDefEqProofs (disch:=omega) only [push_cast,↓reduceIte,Nat.reduceEqDiff,reduceCtorEq,wz,hρ,hkl,hx]
        refine wpa_call (Num_a x (by omega)) ?_
        rintro a rfl
        cases hn : (numF x).2 with
        | false =>
          rw [hn, if_neg (by simp)] at hacc
          simp (maxSteps:=999999) -implicitDefEqProofs (disch:=omega) only [push_cast,↓reduceIte,Nat.reduceEqDiff,reduceCtorEq,wz,hρ,aNum,hn]
          rw [← hacc]
          exact fin_tup2 [] rfl rfl rfl rfl rfl
        | true =>
          rw [hn, if_pos rfl] at hacc
          simp (maxSteps:=999999) -implicitDefEqProofs (disch:=omega) only [push_cast,↓reduceIte,Nat.reduceEqDiff,reduceCtorEq,wz,hρ,aNum,hn,h4]
          refine wpa_bsl (sz := 1) (by intro a ha; simp at ha; subst ha; rfl) (by simp) ?_
          simp (maxSteps:=999999) -implicitDefEqProofs (disch:=omega) only [push_cast,↓reduceIte,Nat.reduceEqDiff,reduceCtorEq,wz,h4]
          refine wpa_app (m := 1) rfl rfl rfl rfl (by simp) (by omega) (by omega) hs0 ?_
          simp (maxSteps:=999999) -implicitDefEqProofs (disch:=omega) only [push_cast,↓reduceIte,Nat.reduceEqDiff,reduceCtorEq,wz,hρ]
          exact hN (k + 1) _ _ ⟨by simp (maxSteps:=999999) -implicitDefEqProofs (disch:=omega) only [push_cast,↓reduceIte,Nat.reduceEqDiff,reduceCtorEq,wz,hρ], by omega, w + 1, acc ++ [(numF x).1], by simp (maxSteps:=999999) -implicitDefEqProofs (disch:=omega) only [push_cast,↓reduceIte,Nat.reduceEqDiff,reduceCtorEq,wz]; simp [AV.cells, Value.cells, aInt], get_set_eq hs0, by simp; omega, hacc⟩ (by omega)
      · have hle : ¬ ((k : Int) < W.length) := by omega
        simp (maxSteps:=999999) -implicitDefEqProofs (disch:=omega) only [push_cast,↓reduceIte,Nat.reduceEqDiff,reduceCtorEq,wz,hρ,hle]
        have : k = W.length := by omega
        subst this
        rw [List.drop_length] at hacc
        exact hE _ _ ⟨w, acc, h4, hacc.symm⟩
    · rintro ε σ ⟨w, acc, h4, hF2⟩
      simp (maxSteps:=999999) -implicitDefEqProofs (disch:=omega) only [push_cast,↓reduceIte,Nat.reduceEqDiff,reduceCtorEq,wz,h4]
      rw [hF2]
      exact fin_tup2 [] (aIntsT_res _ _ _) rfl (aInts_pure _) rfl rfl

set_option maxHeartbeats 4000000 in
theorem ref05_Nums_a (l : List UInt8) (hl : l.length ≤ 100000) : FnP Tryd.prog 34 [aB l] fun a => a = aNums (numsF l) := by
  refine fnP_in K_forebayref05_Nums mixed rfl rfl ?_
  simp only [S_forebayref05_Nums]
  by_cases h45 : l = [45]
  · subst h45
    simp (maxSteps:=999999) -implicitDefEqProofs (disch:=omega) only [push_cast,↓reduceIte,Nat.reduceEqDiff,reduceCtorEq,wz]
    exact fin_tup2 [] rfl rfl rfl rfl rfl
  · have hne := ne_bA h45
    have hF : numsF l = numsGo (cutB 44 [] l) [] := by unfold numsF; rw [if_neg h45]
    have hsz := size_bA l
    simp (maxSteps:=999999) -implicitDefEqProofs (disch:=omega) only [push_cast,↓reduceIte,Nat.reduceEqDiff,reduceCtorEq,wz,hne]
    refine wpa_blg (GU.tok 4 1 rfl) (α := Nat) (I := fun k ε σ => (ε 0 = aB l ∧ ε 6 = .v (.int .i64 k)) ∧ k ≤ l.length + 1 ∧ ∃ (w : Nat) (cur : List UInt8) (acc : List Int), (ε 5 = aB cur ∧ ε 4 = .sl acc.length (acc.map aInt) (.id 0 w 1)) ∧ σ[0]? = some (.tail w) ∧ acc.length ≤ k ∧ cur.length ≤ k ∧
        (if k ≤ l.length then numsGo (cutB 44 cur (l.drop k)) acc = numsF l else numsF l = (acc, true)))
      (μ := fun k => l.length + 1 - k) (Q := fun ε σ => ∃ (w : Nat) (acc : List Int), ε 4 = .sl acc.length (acc.map aInt) (.id 0 w 1) ∧ numsF l = (acc, true)) (x := 0) ?_ ?_ ?_
    · simp (maxSteps:=999999) -implicitDefEqProofs (disch:=omega) only [push_cast,↓reduceIte,Nat.reduceEqDiff,reduceCtorEq,wz]
      exact ⟨by omega, 0, [], [], ⟨rfl, rfl⟩, rfl, by simp, by simp, by rw [if_pos (by omega), hF]⟩
    · rintro k ε σ N E ⟨hρ, hk, w, cur, acc, ⟨h5, h4⟩, hs0, hal, hcl, hacc⟩ hN hE
      simp only [S_forebayref05_Nums_L1]
      by_cases hle : k ≤ l.length
      · rw [if_pos hle] at hacc
        have hkl : (k : Int) ≤ (bA l).size := by omega
        by_cases hc : k < l.length ∧ l[k]? ≠ some 44
        · obtain ⟨hlt, h44⟩ := hc
          obtain ⟨b, hb⟩ := at_lt hlt
          have hbn : b ≠ 44 := fun e => h44 (by rw [hb, e])
          have hix : PF.val .ixs [.string (bA l), .int .i64 k] = some (.int .u8 b.toNat) := pv_str_ix (by omega) (by simpa using hb)
          have hnb : ¬ ((b.toNat : Int) = 44) := fun e => hbn (UInt8.toNat_inj.1 (by rw [show (44 : UInt8).toNat = 44 from rfl]; omega))
          have hex : (bA l).extract k (k + 1) = bA [b] := str_one (by simpa using hb)
          have hadd := add_bA cur [b] (by simp; omega)
          have hkl2 : (k : Int) < (bA l).size := by omega
          simp (maxSteps:=999999) -implicitDefEqProofs (disch:=omega) only [push_cast,↓reduceIte,Nat.reduceEqDiff,reduceCtorEq,wz,hρ,hkl,hkl2,hix,hnb,h5,hex,hadd]
          refine hN (k + 1) _ _ ⟨by simp (maxSteps:=999999) -implicitDefEqProofs (disch:=omega) only [push_cast,↓reduceIte,Nat.reduceEqDiff,reduceCtorEq,wz,hρ], by omega, w, cur ++ [b], acc, ⟨by simp (maxSteps:=999999) -implicitDefEqProofs (disch:=omega) only [push_cast,↓reduceIte,Nat.reduceEqDiff,reduceCtorEq,wz], by simp (maxSteps:=999999) -implicitDefEqProofs (disch:=omega) only [push_cast,↓reduceIte,Nat.reduceEqDiff,reduceCtorEq,wz,h4]⟩, hs0, by omega, by simp; omega, ?_⟩ (by omega)
          rw [if_pos (by omega), ← hacc, drop_at hb]
          simp only [cutB, if_neg hbn]
        · have hgo : numsF l = if (numF cur).2 = true then (if k < l.length then numsGo (cutB 44 [] (l.drop (k + 1))) (acc ++ [(numF cur).1]) else (acc ++ [(numF cur).1], true)) else ([], false) := by
            rw [← hacc]
            by_cases hlt : k < l.length
            · have h44 : l[k]? = some 44 := Classical.byContradiction fun h => hc ⟨hlt, h⟩
              rw [drop_at h44]
              simp only [cutB, if_true, numsGo, if_pos hlt]
            · rw [List.drop_eq_nil_of_le (by omega)]
              simp only [cutB, numsGo, if_neg hlt]
          have hcase : (k < l.length ∧ PF.val .ixs [.string (bA l), .int .i64 k] = some (.int .u8 44)) ∨ ¬ k < l.length := by
            by_cases hlt : k < l.length
            · have h44 : l[k]? = some 44 := Classical.byContradiction fun h => hc ⟨hlt, h⟩
              have hix : PF.val .ixs [.string (bA l), .int .i64 k] = some (.int .u8 ((44 : UInt8).toNat : Nat)) := pv_str_ix (by omega) (by simpa using h44)
              exact .inl ⟨hlt, hix⟩
            · exact .inr hlt
          cases hn : (numF cur).2 with
          | false =>
            rw [hn, if_neg (by simp)] at hgo
            rcases hcase with ⟨hlt, hix⟩ | hlt
            · have hkl2 : (k : Int) < (bA l).size := by omega
              simp (maxSteps:=999999) -implicitDefEqProofs (disch:=omega) only [push_cast,↓reduceIte,Nat.reduceEqDiff,reduceCtorEq,wz,hρ,hkl,hkl2,hix,h5]
              refine wpa_call (ref05_Num_a cur (by omega)) ?_
              rintro a rfl
              simp (maxSteps:=999999) -implicitDefEqProofs (disch:=omega) only [push_cast,↓reduceIte,Nat.reduceEqDiff,reduceCtorEq,wz,hρ,aNum,hn]
              rw [hgo]
              exact fin_tup2 [] rfl rfl rfl rfl rfl
            · have hkl2 : ¬ (k : Int) < (bA l).size := by omega
              simp (maxSteps:=999999) -implicitDefEqProofs (disch:=omega) only [push_cast,↓reduceIte,Nat.reduceEqDiff,reduceCtorEq,wz,hρ,hkl,hkl2,h5]
              refine wpa_call (ref05_Num_a cur (by omega)) ?_
              rintro a rfl
              simp (maxSteps:=999999) -implicitDefEqProofs (disch:=omega) only [push_cast,↓reduceIte,Nat.reduceEqDiff,reduceCtorEq,wz,hρ,aNum,hn]
              rw [hgo]
              exact fin_tup2 [] rfl rfl rfl rfl rfl
          | true =>
            rw [hn, if_pos rfl] at hgo
            have hI : if k + 1 ≤ l.length then numsGo (cutB 44 [] (l.drop (k + 1))) (acc ++ [(numF cur).1]) = numsF l else numsF l = (acc ++ [(numF cur).1], true) := by
              by_cases hlt : k < l.length
              · rw [if_pos hlt] at hgo
                rw [if_pos (by omega), hgo]
              · rw [if_neg hlt] at hgo
                rw [if_neg (by omega), hgo]
            rcases hcase with ⟨hlt, hix⟩ | hlt
            · have hkl2 : (k : Int) < (bA l).size := by omega
              simp (maxSteps:=999999) -implicitDefEqProofs (disch:=omega) only [push_cast,↓reduceIte,Nat.reduceEqDiff,reduceCtorEq,wz,hρ,hkl,hkl2,hix,h5]
              refine wpa_call (ref05_Num_a cur (by omega)) ?_
              rintro a rfl
              simp (maxSteps:=999999) -implicitDefEqProofs (disch:=omega) only [push_cast,↓reduceIte,Nat.reduceEqDiff,reduceCtorEq,wz,hρ,aNum,hn,h4]
              refine wpa_bsl (sz := 1) (by intro a ha; simp at ha; subst ha; rfl) (by simp) ?_
              simp (maxSteps:=999999) -implicitDefEqProofs (disch:=omega) only [push_cast,↓reduceIte,Nat.reduceEqDiff,reduceCtorEq,wz,h4]
              refine wpa_app (m := 1) rfl rfl rfl rfl (by simp) (by omega) (by omega) hs0 ?_
              simp (maxSteps:=999999) -implicitDefEqProofs (disch:=omega) only [push_cast,↓reduceIte,Nat.reduceEqDiff,reduceCtorEq,wz,hρ]
              exact hN (k + 1) _ _ ⟨by simp (maxSteps:=999999) -implicitDefEqProofs (disch:=omega) only [push_cast,↓reduceIte,Nat.reduceEqDiff,reduceCtorEq,wz,hρ], by omega, w + 1, [], acc ++ [(numF cur).1], ⟨by simp (maxSteps:=999999) -implicitDefEqProofs (disch:=omega) only [push_cast,↓reduceIte,Nat.reduceEqDiff,reduceCtorEq,wz], by simp (maxSteps:=999999) -implicitDefEqProofs (disch:=omega) only [push_cast,↓reduceIte,Nat.reduceEqDiff,reduceCtorEq,wz]; simp [AV.cells, Value.cells, aInt]⟩, get_set_eq hs0, by simp; omega, by simp, hI⟩ (by omega)
            · have hkl2 : ¬ (k : Int) < (bA l).size := by omega
              simp (maxSteps:=999999) -implicitDefEqProofs (disch:=omega) only [push_cast,↓reduceIte,Nat.reduceEqDiff,reduceCtorEq,wz,hρ,hkl,hkl2,h5]
              refine wpa_call (ref05_Num_a cur (by omega)) ?_
              rintro a rfl
              simp (maxSteps:=999999) -implicitDefEqProofs (disch:=omega) only [push_cast,↓reduceIte,Nat.reduceEqDiff,reduceCtorEq,wz,hρ,aNum,hn,h4]
              refine wpa_bsl (sz := 1) (by intro a ha; simp at ha; subst ha; rfl) (by simp) ?_
              simp (maxSteps:=999999) -implicitDefEqProofs (disch:=omega) only [push_cast,↓reduceIte,Nat.reduceEqDiff,reduceCtorEq,wz,h4]
              refine wpa_app (m := 1) rfl rfl rfl rfl (by simp) (by omega) (by omega) hs0 ?_
              simp (maxSteps:=999999) -implicitDefEqProofs (disch:=omega) only [push_cast,↓reduceIte,Nat.reduceEqDiff,reduceCtorEq,wz,hρ]
              exact hN (k + 1) _ _ ⟨by simp (maxSteps:=999999) -implicitDefEqProofs (disch:=omega) only [push_cast,↓reduceIte,Nat.reduceEqDiff,reduceCtorEq,wz,hρ], by omega, w + 1, [], acc ++ [(numF cur).1], ⟨by simp (maxSteps:=999999) -implicitDefEqProofs (disch:=omega) only [push_cast,↓reduceIte,Nat.reduceEqDiff,reduceCtorEq,wz], by simp (maxSteps:=999999) -implicitDefEqProofs (disch:=omega) only [push_cast,↓reduceIte,Nat.reduceEqDiff,reduceCtorEq,wz]; simp [AV.cells, Value.cells, aInt]⟩, get_set_eq hs0, by simp; omega, by simp, hI⟩ (by omega)
      · rw [if_neg hle] at hacc
        have hgt : ¬ ((k : Int) ≤ (bA l).size) := by omega
        simp (maxSteps:=999999) -implicitDefEqProofs (disch:=omega) only [push_cast,↓reduceIte,Nat.reduceEqDiff,reduceCtorEq,wz,hρ,hgt]
        exact hE _ _ ⟨w, acc, h4, hacc⟩
    · rintro ε σ ⟨w, acc, h4, hF2⟩
      simp (maxSteps:=999999) -implicitDefEqProofs (disch:=omega) only [push_cast,↓reduceIte,Nat.reduceEqDiff,reduceCtorEq,wz,h4]
      rw [hF2]
      exact fin_tup2 [] (aIntsT_res _ _ _) rfl (aInts_pure _) rfl rfl
end Go.Proofs.YtjdpejggafefjaaDoor
