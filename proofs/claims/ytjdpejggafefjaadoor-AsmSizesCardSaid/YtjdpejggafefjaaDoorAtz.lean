/- AsmSizes: lines by their places; programs as bytes; the walk (Nm, Ast .. As2). -/
import Derived.Test.YtjdpejggafefjaaDoorAsx
import Derived.Test.YtjdpejggafefjaaDoorCPut
/- A slice in an argument gets a name. -/
namespace Go.Kx
set_option linter.unusedVariables false
set_option linter.unusedSimpArgs false
open Go

theorem RelH.dead {base : Heap} {G : Gh} {h : Heap} {σ : St} (H : RelH base G h σ) (l : Loc) :
    Gh.le base.size G (G.put σ.length 0 l) ∧ RelH base (G.put σ.length 0 l) h (σ ++ [.dead]) := by
  have hnone : ∀ v, G.T σ.length v = none := by
    intro v
    cases hv : G.T σ.length v with
    | none => rfl
    | some m => have := (H.bd _ _ _ hv).1; omega
  have hle : Gh.le base.size G (G.put σ.length 0 l) := Gh.le_put (hnone 0)
  have hcase : ∀ i m, locOf (G.put σ.length 0 l) (σ ++ [Res.dead]) i = some m → i < σ.length ∧ locOf G σ i = some m := by
    intro i m hm
    have hlt := locOf_lt hm
    simp at hlt
    by_cases hi : i < σ.length
    · refine ⟨hi, ?_⟩
      rw [locOf_append hi] at hm
      unfold locOf at hm ⊢
      simp only [Gh.put] at hm
      rw [← hm]
      congr 1; funext r; congr 1; funext v
      rw [if_neg (by omega)]
    · have : i = σ.length := by omega
      subst this
      unfold locOf at hm
      simp [Res.live] at hm
  have hat : ∀ i r, (σ ++ [Res.dead])[i]? = some r → (i < σ.length ∧ σ[i]? = some r) ∨ r = .dead := by
    intro i r hi
    by_cases hlt : i < σ.length
    · rw [List.getElem?_append_left hlt] at hi
      exact .inl ⟨hlt, hi⟩
    · have h1 := (List.getElem?_eq_some_iff.1 hi).1
      simp at h1
      have : i = σ.length := by omega
      subst this
      simp at hi
      exact .inr hi.symm
  refine ⟨hle, H.tab, H.size, H.keep, H.st, ?_, ?_, ?_, ?_, ?_, H.maps.mono (map_app rfl) hle.g hle.T fun _ _ _ h => h⟩
  · intro i v cs hi
    rcases hat i _ hi with ⟨_, hi⟩ | h
    · obtain ⟨m, h1, h2, h3, h4, h5⟩ := H.obj i v cs hi
      refine ⟨m, hle.T _ _ _ h1, h2, h3, h4, fun j a ha => ?_⟩
      obtain ⟨u, h6, h7⟩ := h5 j a ha
      exact ⟨u, h6, h7.mono hle⟩
    · cases h
  · intro i v cs hi
    rcases hat i _ hi with ⟨_, hi⟩ | h
    · obtain ⟨m, h1, h2, h3⟩ := H.frz i v cs hi
      refine ⟨m, hle.T _ _ _ h1, h2, fun j a ha => ?_⟩
      obtain ⟨u, h6, h7⟩ := h3 j a ha
      exact ⟨u, h6, h7.mono hle⟩
    · cases h
  · intro i m hm
    exact H.own i m (hcase i m hm).2
  · intro i j m m' hij hm hm'
    exact H.disj i j m m' hij (hcase i m hm).2 (hcase j m' hm').2
  · intro i v m hm
    simp only [Gh.put] at hm
    split at hm
    · rename_i hc
      obtain ⟨rfl, rfl⟩ := hc
      refine ⟨by simp, fun r w' hr hw => ?_⟩
      simp at hr
      subst hr
      cases hw
    · obtain ⟨h1, h2⟩ := H.bd i v m hm
      refine ⟨by simp; omega, fun r w' hr hw => ?_⟩
      rcases hat i _ hr with ⟨_, hr⟩ | h
      · exact h2 r w' hr hw
      · subst h; cases hw
/-- An argument's slice gets a name: so that its header may be held across calls. -/
theorem fnP_named {P : Program} {f : FuncId} {a : AV} {n : Nat} {cs : List AV} {Q : AV → Prop} (sz : Nat) (hn : 0 < n) (hp : AV.pureL [.agg [a, .sl n cs .none]] = true)
    (H : FnG P f [.agg [a, .sl n cs (.id 0 0 sz)]] [.dead] fun r _ => r.pure = true ∧ Q r) : FnP P f [.agg [a, .sl n cs .none]] Q := by
  refine ⟨hp, fun base G h vs hH hL => ?_⟩
  obtain ⟨u, us, rfl, h1, h2⟩ := hL.cons_inv
  cases h2.nil_inv
  cases h1 with
  | agg _ xs e1 e2 =>
    have hx : RelL G [a, .sl n cs .none] xs := ⟨e1, e2⟩
    obtain ⟨v, ys, rfl, x1, hx2⟩ := hx.cons_inv
    obtain ⟨w, zs, rfl, x2, hx3⟩ := hx2.cons_inv
    cases hx3.nil_inv
    cases x2 with
    | sl _ _ _ ad cap ws k1 k2 k3 k4 k5 k6 =>
      obtain ⟨b, off, rfl⟩ : ∃ b off, ad = some ⟨b, off, none⟩ := by
        rcases k5 with ⟨k5, _⟩ | ⟨b, off, k5, _⟩
        · omega
        · exact ⟨b, off, k5⟩
      obtain ⟨l1, H1⟩ := hH.dead ⟨b, off, cap, n, off + cs.length, off + cap * sz, false⟩
      have hsl : RelV (G.put 0 0 ⟨b, off, cap, n, off + cs.length, off + cap * sz, false⟩) (.sl n cs (.id 0 0 sz)) (.slice (some ⟨b, off, none⟩) n cap) := by
        refine RelV.sl n cs _ _ cap ws k1 (fun i a u ha hu => (k2 i a u ha hu).mono l1) k3 k4 (k5.mono fun b o u hu => l1.g _ _ _ hu) ?_
        exact ⟨_, Gh.put_self _ _ _ _, rfl, rfl, rfl, rfl, by simp⟩
      have hag : RelL (G.put 0 0 ⟨b, off, cap, n, off + cs.length, off + cap * sz, false⟩) [.agg [a, .sl n cs (.id 0 0 sz)]] [.agg [v, .slice (some ⟨b, off, none⟩) n cap].toArray] := by
        have : RelL (G.put 0 0 ⟨b, off, cap, n, off + cs.length, off + cap * sz, false⟩) [a, .sl n cs (.id 0 0 sz)] [v, .slice (some ⟨b, off, none⟩) n cap] := .cons (x1.mono l1) (.cons hsl (.nil _))
        exact .cons (RelV.agg _ _ this.1 this.2) (.nil _)
      refine (H base _ h _ H1 hag).mono ?_
      rintro r h' ⟨G', a', σ', g1, g2, g3, g4⟩
      exact ⟨G', a', σ', l1.trans g1, g2, g3, g4⟩
end Go.Kx
/- AsmSizes: the lines of a program, by their places (plain). -/
namespace Go.Proofs.YtjdpejggafefjaaDoor
set_option linter.unusedVariables false
set_option linter.unusedSimpArgs false
open Go Go.Kx Go.Proofs

theorem linesF_split {fs : List (List Ix)} {i : Nat} {l : List Ix} (h : fs[i]? = some l) : linesF fs = linesF (fs.take i) ++ ((funB :: l.map lineF) ++ linesF (fs.drop (i + 1))) := by
  conv => lhs; rw [← List.take_append_drop i fs, drop_at h]
  simp [linesF]
theorem linesF_next {fs : List (List Ix)} {i : Nat} {l : List Ix} (h : fs[i]? = some l) : (linesF (fs.take (i + 1))).length = (linesF (fs.take i)).length + 1 + l.length := by
  rw [take_succ_at h]
  simp [linesF]
  omega
theorem line_fun (m : Int) {fs : List (List Ix)} {i : Nat} {l : List Ix} (h : fs[i]? = some l) : (linesP m fs)[1 + (linesF (fs.take i)).length]? = some funB := by
  unfold linesP
  rw [linesF_split h, show 1 + (linesF (fs.take i)).length = (linesF (fs.take i)).length + 1 by omega, List.getElem?_cons_succ, List.getElem?_append_right (Nat.le_refl _), Nat.sub_self]
  rfl
theorem line_ins (m : Int) {fs : List (List Ix)} {i k : Nat} {l : List Ix} {x : Ix} (h : fs[i]? = some l) (hk : l[k]? = some x) : (linesP m fs)[1 + (linesF (fs.take i)).length + 1 + k]? = some (lineF x) := by
  have hlt := lt_at hk
  unfold linesP
  rw [linesF_split h, show 1 + (linesF (fs.take i)).length + 1 + k = ((linesF (fs.take i)).length + (k + 1)) + 1 by omega, List.getElem?_cons_succ, List.getElem?_append_right (by omega), Nat.add_sub_cancel_left,
    List.getElem?_append_left (by simp; omega), List.getElem?_cons_succ, List.getElem?_map, hk]
  rfl
theorem linesP_len (m : Int) (fs : List (List Ix)) : (linesP m fs).length = 1 + (linesF fs).length := by
  unfold linesP
  rw [List.length_cons]
  omega
end Go.Proofs.YtjdpejggafefjaaDoor
/- AsmSizes: programs as bytes (plain). -/
namespace Go.Proofs.YtjdpejggafefjaaDoor
set_option linter.unusedVariables false
set_option linter.unusedSimpArgs false
open Go Go.Kx Go.Proofs

theorem u8_wrap (v : Int) : 0 ≤ IntKind.u8.wrap v ∧ IntKind.u8.wrap v < 256 := by
  have e : IntKind.u8.wrap v = v % 256 := by simp [IntKind.wrap, IntKind.bits, IntKind.signed]
  rw [e]
  omega
def byteAt (n : Int) (i : Nat) : UInt8 := UInt8.ofNat (IntKind.u8.wrap (n.fdiv (2 ^ (8 * i)))).toNat
theorem byteAt_val (n : Int) (i : Nat) : IntKind.u8.wrap (n.fdiv (2 ^ (8 * i))) = ((byteAt n i).toNat : Int) := by
  have := u8_wrap (n.fdiv (2 ^ (8 * i)))
  unfold byteAt
  rw [UInt8.toNat_ofNat', Nat.mod_eq_of_lt (by omega)]
  omega
/-- A number's lowest bytes. -/
def putT (n : Int) : Nat → List UInt8
  | 0 => []
  | k + 1 => byteAt n k :: putT n k
theorem putT_len (n : Int) : ∀ k, (putT n k).length = k := by
  intro k
  induction k with
  | zero => rfl
  | succ k ih => rw [putT, List.length_cons, ih]
def heldN (size : Int) : Nat := (min (max size 1) 4).toNat
theorem heldN_le (size : Int) : heldN size ≤ 4 ∧ 1 ≤ heldN size := by unfold heldN; omega
def putB (s : List UInt8) (n size : Int) : List UInt8 := s ++ putT n (heldN size)
theorem putB_len (s : List UInt8) (n size : Int) : (putB s n size).length ≤ s.length + 4 := by
  have := (heldN_le size).1
  rw [putB, List.length_append, putT_len]
  omega
def wideF (b : UInt8) : Int := if b = 110 ∨ b = 116 then 2 else 1
def stepI (s : List UInt8) (p : UInt8 × Int) : List UInt8 := putB s p.2 (wideF p.1)
def insS (x : Ix) (k : Nat) : List UInt8 := (((letX x).zip (opsX x)).take k).foldl stepI (putB [] x.op 1)
theorem insS_succ {x : Ix} {k : Nat} {b : UInt8} {n : Int} (hb : (letX x)[k]? = some b) (hn : (opsX x)[k]? = some n) : insS x (k + 1) = putB (insS x k) n (wideF b) := by
  unfold insS
  rw [take_succ_at (zip_all (f := fun _ => true) hb hn), List.foldl_append]
  rfl
theorem insS_len (x : Ix) (k : Nat) (hk : k ≤ (letX x).length) : (insS x k).length ≤ 4 + 4 * k := by
  induction k with
  | zero => have := putB_len [] x.op 1; simpa [insS] using this
  | succ k ih =>
    have h3 := letX_len x
    obtain ⟨b, hb⟩ := at_lt (l := letX x) (k := k) (by omega)
    obtain ⟨n, hn⟩ := at_lt (l := opsX x) (k := k) (by show k < 3; omega)
    rw [insS_succ hb hn]
    have := putB_len (insS x k) n (wideF b)
    have := ih (by omega)
    omega
/-- Zeros behind, up to four bytes. -/
def padB (s : List UInt8) : List UInt8 := s ++ List.replicate (4 - s.length) 0
def insB (x : Ix) : List UInt8 := padB (insS x (letX x).length)
theorem insB_len (x : Ix) : (insB x).length ≤ 16 := by
  have := insS_len x _ (Nat.le_refl _)
  have := letX_len x
  unfold insB padB
  rw [List.length_append, List.length_replicate]
  omega
def rowB (s : List UInt8) (l : List Ix) : List UInt8 := l.foldl (fun s x => s ++ insB x) s
def funsB (s : List UInt8) (fs : List (List Ix)) : List UInt8 := fs.foldl (fun s l => rowB (putB s l.length 2) l) s
def headB (m : Int) (n : Nat) : List UInt8 := putB (putB (putB [72, 82] 1 1) n 1) m 2
def progB (m : Int) (fs : List (List Ix)) : List UInt8 := funsB (headB m fs.length) fs
def putF (m : Int) (fs : List (List Ix)) : List UInt8 × Int := if prgE m fs = 0 then (progB m fs, 0) else ([], prgE m fs)
theorem rowB_succ (s : List UInt8) {l : List Ix} {k : Nat} {x : Ix} (h : l[k]? = some x) : rowB s (l.take (k + 1)) = rowB s (l.take k) ++ insB x := by
  unfold rowB
  rw [take_succ_at h, List.foldl_append]
  rfl
theorem funsB_succ (s : List UInt8) {fs : List (List Ix)} {k : Nat} {l : List Ix} (h : fs[k]? = some l) : funsB s (fs.take (k + 1)) = rowB (putB (funsB s (fs.take k)) l.length 2) l := by
  unfold funsB
  rw [take_succ_at h, List.foldl_append]
  rfl
theorem rowB_len (s : List UInt8) (l : List Ix) : (rowB s l).length ≤ s.length + 16 * l.length := by
  induction l generalizing s with
  | nil => simp [rowB]
  | cons x l ih =>
    have h := ih (s ++ insB x)
    have := insB_len x
    have e : rowB s (x :: l) = rowB (s ++ insB x) l := rfl
    rw [e, List.length_cons]
    rw [List.length_append] at h
    omega
theorem funsB_len (s : List UInt8) {fs : List (List Ix)} (h : ∀ l ∈ fs, l.length ≤ 200) : (funsB s fs).length ≤ s.length + 3204 * fs.length := by
  induction fs generalizing s with
  | nil => simp [funsB]
  | cons l fs ih =>
    have e : funsB s (l :: fs) = funsB (rowB (putB s l.length 2) l) fs := rfl
    have h1 := ih (rowB (putB s l.length 2) l) fun k hk => h k (by simp [hk])
    have h2 := rowB_len (putB s l.length 2) l
    have h3 := putB_len s l.length 2
    have h4 := h l (by simp)
    rw [e, List.length_cons]
    omega
theorem headB_len (m : Int) (n : Nat) : (headB m n).length ≤ 14 := by
  have h1 := putB_len [72, 82] 1 1
  have h2 := putB_len (putB [72, 82] 1 1) n 1
  have h3 := putB_len (putB (putB [72, 82] 1 1) n 1) m 2
  have : ([72, 82] : List UInt8).length = 2 := rfl
  unfold headB
  omega
end Go.Proofs.YtjdpejggafefjaaDoor
/- AsmSizes: bits.Put, ins.Put. -/
namespace Go.Proofs.YtjdpejggafefjaaDoor
set_option linter.unusedVariables false
set_option linter.unusedSimpArgs false
open Go Go.Kx Go.Proofs

set_option maxHeartbeats 8000000 in
theorem bits_held_a (n : Int) : FnP Tryd.prog 100 [aInt n] fun a => a = aInt (heldN n) := by
  refine fnP_in K_bits_held mixed rfl rfl ?_
  simp only [S_bits_held, aInt]
  have hh : ((heldN n : Nat) : Int) = min (max n 1) 4 := by unfold heldN; omega
  rw [hh]
  simp (maxSteps:=999999) -implicitDefEqProofs (disch:=omega) only [push_cast,↓reduceIte,Nat.reduceEqDiff,reduceCtorEq,wz]
  first | exact ⟨[], rfl, rfl⟩ | exact ⟨[], rfl⟩
set_option maxHeartbeats 8000000 in
theorem ins_wide_a (b : UInt8) : FnP Tryd.prog 101 [.v (.int .u8 b.toNat)] fun a => a = aInt (wideF b) := by
  refine fnP_in K_ins_wide mixed rfl rfl ?_
  simp only [S_ins_wide]
  have key : ∀ k : Nat, k < 256 → ((b.toNat : Int) = k ↔ b = UInt8.ofNat k) := by
    intro k hk
    constructor
    · intro h
      apply UInt8.toNat_inj.1
      rw [UInt8.toNat_ofNat', Nat.mod_eq_of_lt hk]
      omega
    · rintro rfl
      rw [UInt8.toNat_ofNat', Nat.mod_eq_of_lt hk]
  have k1 := key 110 (by omega)
  have k2 := key 116 (by omega)
  by_cases c1 : (b.toNat : Int) = 110
  · have e : wideF b = 2 := by unfold wideF; rw [if_pos (.inl (k1.1 c1))]
    rw [e]
    simp (maxSteps:=999999) -implicitDefEqProofs (disch:=omega) only [push_cast,↓reduceIte,Nat.reduceEqDiff,reduceCtorEq,wz,c1]
    exact ⟨[], rfl, rfl⟩
  by_cases c2 : (b.toNat : Int) = 116
  · have e : wideF b = 2 := by unfold wideF; rw [if_pos (.inr (k2.1 c2))]
    rw [e]
    simp (maxSteps:=999999) -implicitDefEqProofs (disch:=omega) only [push_cast,↓reduceIte,Nat.reduceEqDiff,reduceCtorEq,wz,c1,c2]
    exact ⟨[], rfl, rfl⟩
  · have e : wideF b = 1 := by
      unfold wideF
      rw [if_neg]
      rintro (h | h)
      · exact c1 (k1.2 h)
      · exact c2 (k2.2 h)
    rw [e]
    simp (maxSteps:=999999) -implicitDefEqProofs (disch:=omega) only [push_cast,↓reduceIte,Nat.reduceEqDiff,reduceCtorEq,wz,c1,c2]
    exact ⟨[], rfl, rfl⟩
set_option maxHeartbeats 8000000 in
theorem bits_Put_a (s : List UInt8) (n size : Int) (hs : s.length ≤ 1000000) : FnP Tryd.prog 83 [aB s, aInt n, aInt size] fun a => a = aB (putB s n size) := by
  refine fnP_in K_bits_Put mixed rfl rfl ?_
  simp only [S_bits_Put, aInt]
  have hk4 := (heldN_le size).1
  refine wpa_seqx (fun ε σ => (ε 0 = aB s ∧ ε 1 = .v (.int .i64 n) ∧ ε 2 = .v (.int .i64 size)) ∧ σ = []) (fun N X R hN => by simp (maxSteps:=999999) -implicitDefEqProofs (disch:=omega) only [push_cast,↓reduceIte,Nat.reduceEqDiff,reduceCtorEq,wz]; exact hN _ _ ⟨by simp (maxSteps:=999999) -implicitDefEqProofs (disch:=omega) only [push_cast,↓reduceIte,Nat.reduceEqDiff,reduceCtorEq,wz], rfl⟩) ?_
  rintro ε σ ⟨hρ, rfl⟩
  refine wpa_seqx (fun ε σ => (ε 1 = .v (.int .i64 n) ∧ ε 2 = .v (.int .i64 size) ∧ ε 7 = .sl s.length (s.map aU) (.id 0 1 1)) ∧ σ = [.tail 1]) ?_ ?_
  · intro N X R hN
    simp (maxSteps:=999999) -implicitDefEqProofs (disch:=omega) only [push_cast,↓reduceIte,Nat.reduceEqDiff,reduceCtorEq,wz,hρ]
    refine wpa_s2b (by rw [size_bA]; omega) ?_
    simp (maxSteps:=999999) -implicitDefEqProofs (disch:=omega) only [push_cast,↓reduceIte,Nat.reduceEqDiff,reduceCtorEq,wz,hρ]
    exact hN _ _ ⟨by simp (maxSteps:=999999) -implicitDefEqProofs (disch:=omega) only [push_cast,↓reduceIte,Nat.reduceEqDiff,reduceCtorEq,wz,hρ]; try rfl, rfl⟩
  clear hρ ε
  rintro ε σ ⟨hρ, rfl⟩
  refine wpa_seqx (fun ε σ => ∃ w, ε 7 = .sl (putB s n size).length ((putB s n size).map aU) (.id 0 w 1) ∧ σ = [.tail w]) ?_ ?_
  · intro N X R hN
    simp (maxSteps:=999999) -implicitDefEqProofs (disch:=omega) only [push_cast,↓reduceIte,Nat.reduceEqDiff,reduceCtorEq,wz,hρ]
    refine wpa_call (bits_held_a size) ?_
    rintro a rfl
    simp (maxSteps:=999999) -implicitDefEqProofs (disch:=omega) only [push_cast,↓reduceIte,Nat.reduceEqDiff,reduceCtorEq,wz,hρ,aInt]
    unfold putB at hN
    generalize heldN size = k at hk4 hN ⊢
    refine wpa_blx (α := Nat) (I := fun r ε σ => ∃ (acc : List UInt8) (w : Nat), (ε 1 = .v (.int .i64 n) ∧ ε 7 = .sl acc.length (acc.map aU) (.id 0 w 1) ∧ ε 8 = .v (.int .i64 ((r : Int) - 1))) ∧ acc ++ putT n r = s ++ putT n k ∧ r ≤ k ∧ σ = [.tail w])
      (μ := fun r => r) (Q := fun ε σ => ∃ w, ε 7 = .sl (s ++ putT n k).length ((s ++ putT n k).map aU) (.id 0 w 1) ∧ σ = [.tail w]) (x := k) ?_ ?_ hN
    · exact ⟨s, 1, by simp (maxSteps:=999999) -implicitDefEqProofs (disch:=omega) only [push_cast,↓reduceIte,Nat.reduceEqDiff,reduceCtorEq,wz,hρ], rfl, Nat.le_refl _, rfl⟩
    · clear hN N X R hρ ε
      rintro r ε σ N E X R ⟨acc, w, hρ, ha, hr, rfl⟩ hN hE
      simp only [S_bits_Put_L1]
      cases r with
      | zero =>
        have hz : ((0 : Nat) : Int) - 1 = -1 := rfl
        rw [hz] at hρ
        simp (maxSteps:=999999) -implicitDefEqProofs (disch:=omega) only [push_cast,↓reduceIte,Nat.reduceEqDiff,reduceCtorEq,wz,hρ]
        rw [putT, List.append_nil] at ha
        rw [ha] at hρ
        exact hE _ _ ⟨w, hρ.2.1, rfl⟩
      | succ r =>
        have hz : ((r + 1 : Nat) : Int) - 1 = r := by omega
        rw [hz] at hρ
        have hlen : acc.length ≤ 1000004 := by
          have := congrArg List.length ha
          simp only [List.length_append, putT_len] at this
          omega
        have hmul : PF.val (.bin .mul) [.int .i64 8, .int .i64 r] = some (.int .i64 (8 * (r : Int))) := by
          have : IntKind.i64.wrap (8 * (r : Int)) = 8 * (r : Int) := wrap_in _ (by omega) (by omega)
          simp [PF.val, binV, isSh, binI, this]
        have hshr : PF.val (.bin .shr) [.int .i64 n, .int .i64 (8 * (r : Int))] = some (.int .i64 (n.fdiv (2 ^ (8 * r)))) := by
          have e : (8 * (r : Int)).toNat = 8 * r := by omega
          have : min (8 * r) 64 = 8 * r := by omega
          simp only [PF.val, binV, isSh, if_true, shI, IntKind.bits, e, this]
          rw [if_neg (by omega)]
        have hto : PF.val (.toInt .u8) [.int .i64 (n.fdiv (2 ^ (8 * r)))] = some (.int .u8 (byteAt n r).toNat) := by
          rw [← byteAt_val]
          rfl
        have hal : (acc.map aU).length = acc.length * 1 := by simp
        simp (maxSteps:=999999) -implicitDefEqProofs (disch:=omega) only [push_cast,↓reduceIte,Nat.reduceEqDiff,reduceCtorEq,wz,hρ,hmul,hshr,hto]
        refine wpa_bsl (sz := 1) (by intro a ha; simp at ha; subst ha; rfl) (by simp) ?_
        simp (maxSteps:=999999) -implicitDefEqProofs (disch:=omega) only [push_cast,↓reduceIte,Nat.reduceEqDiff,reduceCtorEq,wz,hρ]
        refine wpa_app (m := 1) (news := [aU (byteAt n r)]) rfl rfl rfl rfl hal (by omega) (by omega) rfl ?_
        simp (maxSteps:=999999) -implicitDefEqProofs (disch:=omega) only [push_cast,↓reduceIte,Nat.reduceEqDiff,reduceCtorEq,wz,hρ]
        refine hN r _ _ ⟨acc ++ [byteAt n r], w + 1, ?_, ?_, by omega, rfl⟩ (by omega)
        · simp (maxSteps:=999999) -implicitDefEqProofs (disch:=omega) only [push_cast,↓reduceIte,Nat.reduceEqDiff,reduceCtorEq,wz,hρ]
          simp
        · rw [← ha, putT]
          simp
  clear hρ ε
  rintro ε σ ⟨w, h7, rfl⟩
  refine wpa_seqx (fun ε σ => ε 6 = aB (putB s n size)) ?_ ?_
  · intro N X R hN
    simp (maxSteps:=999999) -implicitDefEqProofs (disch:=omega) only [push_cast,↓reduceIte,Nat.reduceEqDiff,reduceCtorEq,wz,h7]
    refine wpa_b2s (n := (putB s n size).length) (bs := putB s n size) rfl rfl rfl ?_
    simp (maxSteps:=999999) -implicitDefEqProofs (disch:=omega) only [push_cast,↓reduceIte,Nat.reduceEqDiff,reduceCtorEq,wz,h7]
    exact hN _ _ (by simp (maxSteps:=999999) -implicitDefEqProofs (disch:=omega) only [push_cast,↓reduceIte,Nat.reduceEqDiff,reduceCtorEq,wz]; try rfl)
  clear h7 ε
  rintro ε σ h6
  simp (maxSteps:=999999) -implicitDefEqProofs (disch:=omega) only [push_cast,↓reduceIte,Nat.reduceEqDiff,reduceCtorEq,wz,h6]
  first | exact ⟨[], rfl, rfl⟩ | exact ⟨[], rfl⟩
end Go.Proofs.YtjdpejggafefjaaDoor
/- AsmSizes: ins.Put, prog.Put. -/
namespace Go.Proofs.YtjdpejggafefjaaDoor
set_option linter.unusedVariables false
set_option linter.unusedSimpArgs false
open Go Go.Kx Go.Proofs

theorem prgE_ne {m : Int} {fs : List (List Ix)} (h : prgE m fs = 0) : 0 < fs.length := by
  cases fs with
  | nil =>
    unfold prgE at h
    split at h
    · cases h
    · simp [manyE] at h
  | cons l fs => simp
theorem padB_k (s : List UInt8) (k : Nat) : s ++ List.replicate (k + 1) (0 : UInt8) = (s ++ List.replicate k 0) ++ [0] := by
  rw [List.replicate_succ', List.append_assoc]
set_option maxHeartbeats 16000000 in
theorem ins_Put_a (x : Ix) (hx : insE x = 0) : FnP Tryd.prog 84 [.agg (aIx x)] fun a => a = .tup [aB (insB x), aInt 0] := by
  refine fnP_in K_ins_Put mixed rfl (by simp [AV.pureL, AV.pure, aIx_pure]) ?_
  simp only [S_ins_Put]
  have hac : (AV.agg (aIx x)).cells = aIx x := rfl
  have g0 : (aIx x)[0]? = some (.v (.int .i64 x.op)) := rfl
  refine wpa_seqx (fun ε σ => ε 1 = .ref 0 0 0 ∧ σ = [.obj 0 (aIx x)]) ?_ ?_
  · intro N X R hN
    simp (maxSteps:=999999) -implicitDefEqProofs (disch:=omega) only [push_cast,↓reduceIte,Nat.reduceEqDiff,reduceCtorEq,wz]
    refine wpa_box ?_
    simp (maxSteps:=999999) -implicitDefEqProofs (disch:=omega) only [push_cast,↓reduceIte,Nat.reduceEqDiff,reduceCtorEq,wz,hac]
    exact hN _ _ (by simp (maxSteps:=999999) -implicitDefEqProofs (disch:=omega) only [push_cast,↓reduceIte,Nat.reduceEqDiff,reduceCtorEq,wz])
  rintro ε σ ⟨hρ, rfl⟩
  refine wpa_seqx (fun ε σ => ε 1 = .ref 0 0 0 ∧ σ = [.obj 0 (aIx x)]) ?_ ?_
  · intro N X R hN
    simp (maxSteps:=999999) -implicitDefEqProofs (disch:=omega) only [push_cast,↓reduceIte,Nat.reduceEqDiff,reduceCtorEq,wz,hρ,cellsIx']
    refine wpa_call (ins_Check_a x) ?_
    rintro a rfl
    simp (maxSteps:=999999) -implicitDefEqProofs (disch:=omega) only [push_cast,↓reduceIte,Nat.reduceEqDiff,reduceCtorEq,wz,hρ,aInt,hx]
    exact hN _ _ (by simp (maxSteps:=999999) -implicitDefEqProofs (disch:=omega) only [push_cast,↓reduceIte,Nat.reduceEqDiff,reduceCtorEq,wz,hρ])
  clear hρ ε
  rintro ε σ ⟨hρ, rfl⟩
  refine wpa_seqx (fun ε σ => (ε 1 = .ref 0 0 0 ∧ ε 5 = .v (.string (fmS x.op)) ∧ ε 6 = .ref 1 0 0) ∧ σ = [.obj 0 (aIx x), .obj 0 (aI3 x)]) ?_ ?_
  · intro N X R hN
    have hset : setAtA [AV.v (.int .i64 0), AV.v (.int .i64 0), AV.v (.int .i64 0)] 0 (aI3 x) = aI3 x := rfl
    simp (maxSteps:=999999) -implicitDefEqProofs (disch:=omega) only [push_cast,↓reduceIte,Nat.reduceEqDiff,reduceCtorEq,wz,hρ,g0,cellsIx']
    refine ⟨?_, ?_⟩
    · refine wpa_call (ins_Form_a x.op) ?_
      rintro a rfl
      simp (maxSteps:=999999) -implicitDefEqProofs (disch:=omega) only [push_cast,↓reduceIte,Nat.reduceEqDiff,reduceCtorEq,wz,hρ]
      refine ⟨aholds_x (by simp (maxSteps:=999999) -implicitDefEqProofs (disch:=omega) only [push_cast,↓reduceIte,Nat.reduceEqDiff,reduceCtorEq,wz,hρ,cellsIx',ex_Ix]), ?_, ?_⟩
      · refine wpa_call (ins_fields_a x) ?_
        rintro a rfl
        simp (maxSteps:=999999) -implicitDefEqProofs (disch:=omega) only [push_cast,↓reduceIte,Nat.reduceEqDiff,reduceCtorEq,wz,hρ]
        refine wpa_new ?_
        simp (maxSteps:=999999) -implicitDefEqProofs (disch:=omega) only [push_cast,↓reduceIte,Nat.reduceEqDiff,reduceCtorEq,wz,hρ]
        refine wpa_stn (cs := [AV.v (.int .i64 0), AV.v (.int .i64 0), AV.v (.int .i64 0)]) rfl rfl rfl (by decide) ?_
        rw [hset]
        simp (maxSteps:=999999) -implicitDefEqProofs (disch:=omega) only [push_cast,↓reduceIte,Nat.reduceEqDiff,reduceCtorEq,wz,hρ]
        exact hN _ _ (by simp (maxSteps:=999999) -implicitDefEqProofs (disch:=omega) only [push_cast,↓reduceIte,Nat.reduceEqDiff,reduceCtorEq,wz,hρ]; try rfl)
      · refine wpa_new ?_
        simp (maxSteps:=999999) -implicitDefEqProofs (disch:=omega) only [push_cast,↓reduceIte,Nat.reduceEqDiff,reduceCtorEq,wz,hρ]
        refine ⟨aholds_x (by simp (maxSteps:=999999) -implicitDefEqProofs (disch:=omega) only [push_cast,↓reduceIte,Nat.reduceEqDiff,reduceCtorEq,wz,hρ,cellsIx',ex_Ix]), ?_⟩
        refine wpa_call (ins_fields_a x) ?_
        rintro a rfl
        simp (maxSteps:=999999) -implicitDefEqProofs (disch:=omega) only [push_cast,↓reduceIte,Nat.reduceEqDiff,reduceCtorEq,wz,hρ]
        refine wpa_stn (cs := [AV.v (.int .i64 0), AV.v (.int .i64 0), AV.v (.int .i64 0)]) rfl rfl rfl (by decide) ?_
        rw [hset]
        simp (maxSteps:=999999) -implicitDefEqProofs (disch:=omega) only [push_cast,↓reduceIte,Nat.reduceEqDiff,reduceCtorEq,wz,hρ]
        exact hN _ _ (by simp (maxSteps:=999999) -implicitDefEqProofs (disch:=omega) only [push_cast,↓reduceIte,Nat.reduceEqDiff,reduceCtorEq,wz,hρ]; try rfl)
    · refine wpa_new ?_
      simp (maxSteps:=999999) -implicitDefEqProofs (disch:=omega) only [push_cast,↓reduceIte,Nat.reduceEqDiff,reduceCtorEq,wz,hρ]
      refine ⟨aholds_x (by simp (maxSteps:=999999) -implicitDefEqProofs (disch:=omega) only [push_cast,↓reduceIte,Nat.reduceEqDiff,reduceCtorEq,wz,hρ,cellsIx',ex_Ix]), aholds_x (by simp (maxSteps:=999999) -implicitDefEqProofs (disch:=omega) only [push_cast,↓reduceIte,Nat.reduceEqDiff,reduceCtorEq,wz,hρ,g0,ex_In]), ?_⟩
      refine wpa_call (ins_Form_a x.op) ?_
      rintro a rfl
      simp (maxSteps:=999999) -implicitDefEqProofs (disch:=omega) only [push_cast,↓reduceIte,Nat.reduceEqDiff,reduceCtorEq,wz,hρ]
      refine ⟨aholds_x (by simp (maxSteps:=999999) -implicitDefEqProofs (disch:=omega) only [push_cast,↓reduceIte,Nat.reduceEqDiff,reduceCtorEq,wz,hρ,cellsIx',ex_Ix]), ?_⟩
      refine wpa_call (ins_fields_a x) ?_
      rintro a rfl
      simp (maxSteps:=999999) -implicitDefEqProofs (disch:=omega) only [push_cast,↓reduceIte,Nat.reduceEqDiff,reduceCtorEq,wz,hρ]
      refine wpa_stn (cs := [AV.v (.int .i64 0), AV.v (.int .i64 0), AV.v (.int .i64 0)]) rfl rfl rfl (by decide) ?_
      rw [hset]
      simp (maxSteps:=999999) -implicitDefEqProofs (disch:=omega) only [push_cast,↓reduceIte,Nat.reduceEqDiff,reduceCtorEq,wz,hρ]
      exact hN _ _ (by simp (maxSteps:=999999) -implicitDefEqProofs (disch:=omega) only [push_cast,↓reduceIte,Nat.reduceEqDiff,reduceCtorEq,wz,hρ]; try rfl)
  clear hρ ε
  rintro ε σ ⟨hρ, rfl⟩
  have hL3 := letX_len x
  have hsz := letX_size x
  have hput0 : FnP Tryd.prog 83 [.v (.string ⟨#[]⟩), .v (.int .i64 x.op), .v (.int .i64 1)] fun a => a = aB (putB [] x.op 1) := bits_Put_a [] x.op 1 (by simp)
  refine wpa_seqx (fun ε σ => (ε 5 = .v (.string (fmS x.op)) ∧ ε 6 = .ref 1 0 0 ∧ ε 7 = aB (insS x 0)) ∧ σ = [.obj 0 (aIx x), .obj 0 (aI3 x)]) ?_ ?_
  · intro N X R hN
    simp (maxSteps:=999999) -implicitDefEqProofs (disch:=omega) only [push_cast,↓reduceIte,Nat.reduceEqDiff,reduceCtorEq,wz,hρ,g0]
    refine wpa_call hput0 ?_
    rintro a rfl
    simp (maxSteps:=999999) -implicitDefEqProofs (disch:=omega) only [push_cast,↓reduceIte,Nat.reduceEqDiff,reduceCtorEq,wz,hρ]
    exact hN _ _ ⟨by simp (maxSteps:=999999) -implicitDefEqProofs (disch:=omega) only [push_cast,↓reduceIte,Nat.reduceEqDiff,reduceCtorEq,wz,hρ]; rfl, rfl⟩
  clear hρ ε
  rintro ε σ ⟨hρ, rfl⟩
  refine wpa_seqx (fun ε σ => ε 7 = aB (insS x (letX x).length)) ?_ ?_
  · intro N X R hN
    simp (maxSteps:=999999) -implicitDefEqProofs (disch:=omega) only [push_cast,↓reduceIte,Nat.reduceEqDiff,reduceCtorEq,wz,hρ,hsz]
    refine wpa_blx (α := Nat) (I := fun k ε σ => (ε 5 = .v (.string (fmS x.op)) ∧ ε 6 = .ref 1 0 0 ∧ ε 7 = aB (insS x k) ∧ ε 23 = .v (.int .i64 (letX x).length) ∧ ε 24 = .v (.int .i64 k)) ∧ k ≤ (letX x).length ∧ σ = [.obj 0 (aIx x), .obj 0 (aI3 x)])
      (μ := fun k => (letX x).length - k) (Q := fun ε σ => ε 7 = aB (insS x (letX x).length)) (x := 0) ?_ ?_ hN
    · exact ⟨by simp (maxSteps:=999999) -implicitDefEqProofs (disch:=omega) only [push_cast,↓reduceIte,Nat.reduceEqDiff,reduceCtorEq,wz,hρ], by omega, rfl⟩
    · clear hN N X R hρ ε
      rintro k ε σ N E X R ⟨hρ, hk, rfl⟩ hN hE
      simp only [S_ins_Put_L1]
      by_cases hlt : k < (letX x).length
      · obtain ⟨b, hb⟩ := at_lt hlt
        obtain ⟨n, hn⟩ := at_lt (l := opsX x) (k := k) (by show k < 3; omega)
        have hkl : (k : Int) < (letX x).length := by omega
        have hix : PF.val .ixs [.string (fmS x.op), .int .i64 k] = some (.int .u8 b.toNat) := pv_str_ix (by omega) (by show (letX x)[k]? = some b; exact hb)
        have hn' : (aI3 x)[k]? = some (.v (.int .i64 n)) := by rw [aI3_map, List.getElem?_map, hn]; rfl
        have hil := insS_len x k hk
        have hsu := insS_succ hb hn
        simp (maxSteps:=999999) -implicitDefEqProofs (disch:=omega) only [push_cast,↓reduceIte,Nat.reduceEqDiff,reduceCtorEq,wz,hρ,hkl,hix,hn']
        refine wpa_call (ins_wide_a b) ?_
        rintro a rfl
        simp (maxSteps:=999999) -implicitDefEqProofs (disch:=omega) only [push_cast,↓reduceIte,Nat.reduceEqDiff,reduceCtorEq,wz,hρ,aInt]
        refine ⟨aholds_x (by simp (maxSteps:=999999) -implicitDefEqProofs (disch:=omega) only [push_cast,↓reduceIte,Nat.reduceEqDiff,reduceCtorEq,wz,hρ,hn',ex_In]), ?_⟩
        refine wpa_call (bits_Put_a (insS x k) n (wideF b) (by omega)) ?_
        rintro a rfl
        simp (maxSteps:=999999) -implicitDefEqProofs (disch:=omega) only [push_cast,↓reduceIte,Nat.reduceEqDiff,reduceCtorEq,wz,hρ]
        exact hN (k + 1) _ _ ⟨by simp (maxSteps:=999999) -implicitDefEqProofs (disch:=omega) only [push_cast,↓reduceIte,Nat.reduceEqDiff,reduceCtorEq,wz,hρ]; rw [hsu], by omega, rfl⟩ (by omega)
      · have hle : ¬ (k : Int) < (letX x).length := by omega
        obtain rfl : k = (letX x).length := by omega
        simp (maxSteps:=999999) -implicitDefEqProofs (disch:=omega) only [push_cast,↓reduceIte,Nat.reduceEqDiff,reduceCtorEq,wz,hρ,hle]
        exact hE _ _ hρ.2.2.1
  clear hρ ε
  rintro ε σ h7
  have hil := insS_len x _ (Nat.le_refl _)
  unfold insB padB
  generalize insS x (letX x).length = s at hil h7 ⊢
  refine wpa_seqx (fun ε σ => ε 7 = aB (s ++ List.replicate (4 - s.length) 0)) ?_ ?_
  · intro N X R hN
    simp (maxSteps:=999999) -implicitDefEqProofs (disch:=omega) only [push_cast,↓reduceIte,Nat.reduceEqDiff,reduceCtorEq,wz,h7]
    refine wpa_blx (α := Nat) (I := fun k ε σ => ε 7 = aB (s ++ List.replicate k 0) ∧ (k = 0 ∨ s.length + k ≤ 4))
      (μ := fun k => 4 - k) (Q := fun ε σ => ε 7 = aB (s ++ List.replicate (4 - s.length) 0)) (x := 0) ?_ ?_ hN
    · exact ⟨by rw [h7]; simp, .inl rfl⟩
    · clear hN N X R h7 ε
      rintro k ε σ N E X R ⟨h7, hk⟩ hN hE
      simp only [S_ins_Put_L2]
      have hlen : (s ++ List.replicate k (0 : UInt8)).length = s.length + k := by simp
      by_cases hlt : s.length + k < 4
      · have hkl : ((bA (s ++ List.replicate k 0)).size : Int) < 4 := by rw [size_bA, hlen]; omega
        have hadd : PF.val (.bin .add) [.string (bA (s ++ List.replicate k 0)), .string ⟨#[0]⟩] = some (.string (bA (s ++ List.replicate (k + 1) 0))) := by
          rw [padB_k]
          exact add_bA _ [0] (by rw [hlen]; simp; omega)
        simp (maxSteps:=999999) -implicitDefEqProofs (disch:=omega) only [push_cast,↓reduceIte,Nat.reduceEqDiff,reduceCtorEq,wz,h7,hkl,hadd]
        exact hN (k + 1) _ _ ⟨by simp (maxSteps:=999999) -implicitDefEqProofs (disch:=omega) only [push_cast,↓reduceIte,Nat.reduceEqDiff,reduceCtorEq,wz,h7], .inr (by omega)⟩ (by omega)
      · have hle : ¬ ((bA (s ++ List.replicate k 0)).size : Int) < 4 := by rw [size_bA, hlen]; omega
        simp (maxSteps:=999999) -implicitDefEqProofs (disch:=omega) only [push_cast,↓reduceIte,Nat.reduceEqDiff,reduceCtorEq,wz,h7,hle]
        refine hE _ _ ?_
        have : 4 - s.length = k := by omega
        rw [this]
        simp (maxSteps:=999999) -implicitDefEqProofs (disch:=omega) only [push_cast,↓reduceIte,Nat.reduceEqDiff,reduceCtorEq,wz,h7]
  clear h7 ε
  rintro ε σ h7
  simp (maxSteps:=999999) -implicitDefEqProofs (disch:=omega) only [push_cast,↓reduceIte,Nat.reduceEqDiff,reduceCtorEq,wz,h7]
  exact ⟨[], rfl, rfl⟩
end Go.Proofs.YtjdpejggafefjaaDoor
/- AsmSizes: prog.Put. -/
namespace Go.Proofs.YtjdpejggafefjaaDoor
set_option linter.unusedVariables false
set_option linter.unusedSimpArgs false
open Go Go.Kx Go.Proofs

/-- A program whose functions' slice has a name. -/
def aPn (m : Int) (fs : List (List Ix)) : List AV := [.v (.int .i64 m), .sl fs.length (fs.map aIxs) (.id 0 0 1)]
theorem cellsPn (m : Int) (fs : List (List Ix)) : cellsA (some 2) (aPn m fs) = some (.agg (aPn m fs)) := rfl
theorem aPn_weak (m : Int) (fs : List (List Ix)) (σ : Kx.St) : weak σ [true] [.agg (aPn m fs)] = [.agg (aPr m fs)] := by
  have h := aFs_res σ fs (.id 0 0 1)
  have h2 : AV.resL σ (aPn m fs) = aPr m fs := by
    simp only [aPn, AV.resL]
    rw [h]
    rfl
  show [AV.agg (AV.resL σ (aPn m fs))] = _
  rw [h2]
theorem funs_bd {m : Int} {fs : List (List Ix)} (h : prgE m fs = 0) {k : Nat} {l : List Ix} (hl : fs[k]? = some l) (j : Nat) :
    (funsB (headB m fs.length) (fs.take k)).length ≤ 60000 ∧ (rowB (putB (funsB (headB m fs.length) (fs.take k)) l.length 2) (l.take j)).length ≤ 70000 := by
  obtain ⟨hm, hf16, hfl⟩ := prg_ins h
  have h1 := headB_len m fs.length
  have h2 := funsB_len (headB m fs.length) (fs := fs.take k) fun l hl => (hfl l (List.mem_of_mem_take hl)).1
  have h3 := rowB_len (putB (funsB (headB m fs.length) (fs.take k)) l.length 2) (l.take j)
  have h4 := putB_len (funsB (headB m fs.length) (fs.take k)) l.length 2
  have h5 := (hfl l (List.mem_of_getElem? hl)).1
  rw [List.length_take] at h2 h3
  omega
set_option maxHeartbeats 16000000 in
theorem prog_Put_a (m : Int) (fs : List (List Ix)) (hf : okF fs) : FnP Tryd.prog 55 [.agg (aPr m fs)] fun a => a = .tup [aB (putF m fs).1, aInt (putF m fs).2] := by
  by_cases hP : prgE m fs = 0
  · unfold putF
    rw [if_pos hP]
    obtain ⟨hm, hf16, hfl⟩ := prg_ins hP
    refine fnP_named (a := .v (.int .i64 m)) (n := fs.length) (cs := fs.map aIxs) 1 (prgE_ne hP) ?_ ?_
    · exact (show AV.pureL [.agg (aPr m fs)] = true by simp [AV.pureL, AV.pure, aPr_pure])
    refine fnG_in K_prog_Put mixed rfl ?_
    simp only [S_prog_Put]
    have hac : (AV.agg (aPn m fs)).cells = aPn m fs := rfl
    have p0 : (aPn m fs)[0]? = some (.v (.int .i64 m)) := rfl
    have p1 : (aPn m fs)[1]? = some (.sl fs.length (fs.map aIxs) (.id 0 0 1)) := rfl
    have h01 : (0 : Int) ≤ fs.length := by omega
    refine wpa_seqx (fun ε σ => ε 1 = .ref 1 0 0 ∧ σ = [.dead, .obj 0 (aPn m fs)]) ?_ ?_
    · intro N X R hN
      simp (maxSteps:=999999) -implicitDefEqProofs (disch:=omega) only [push_cast,↓reduceIte,Nat.reduceEqDiff,reduceCtorEq,wz]
      refine wpa_box ?_
      simp (maxSteps:=999999) -implicitDefEqProofs (disch:=omega) only [push_cast,↓reduceIte,Nat.reduceEqDiff,reduceCtorEq,wz,hac]
      exact hN _ _ (by simp (maxSteps:=999999) -implicitDefEqProofs (disch:=omega) only [push_cast,↓reduceIte,Nat.reduceEqDiff,reduceCtorEq,wz]; rfl)
    rintro ε σ ⟨hρ, rfl⟩
    refine wpa_seqx (fun ε σ => ε 1 = .ref 1 0 0 ∧ σ = [.dead, .obj 0 (aPn m fs)]) ?_ ?_
    · intro N X R hN
      simp (maxSteps:=999999) -implicitDefEqProofs (disch:=omega) only [push_cast,↓reduceIte,Nat.reduceEqDiff,reduceCtorEq,wz,hρ,cellsPn]
      refine wpa_callw [] [true] (prog_Check_a m fs hf) (aPn_weak m fs _) ?_
      rintro a rfl
      simp (maxSteps:=999999) -implicitDefEqProofs (disch:=omega) only [push_cast,↓reduceIte,Nat.reduceEqDiff,reduceCtorEq,wz,hρ,aInt,hP]
      exact hN _ _ (by simp (maxSteps:=999999) -implicitDefEqProofs (disch:=omega) only [push_cast,↓reduceIte,Nat.reduceEqDiff,reduceCtorEq,wz,hρ]; rfl)
    clear hρ ε
    rintro ε σ ⟨hρ, rfl⟩
    refine wpa_seqx (fun ε σ => (ε 1 = .ref 1 0 0 ∧ ε 5 = aB (headB m fs.length)) ∧ σ = [.dead, .obj 0 (aPn m fs)]) ?_ ?_
    · intro N X R hN
      have hp1 : FnP Tryd.prog 83 [.v (.string ⟨#[72, 82]⟩), .v (.int .i64 1), .v (.int .i64 1)] fun a => a = aB (putB [72, 82] 1 1) := bits_Put_a [72, 82] 1 1 (by simp)
      have hb1 := putB_len [72, 82] 1 1
      have hb2 := putB_len (putB [72, 82] 1 1) fs.length 1
      have hl2 : ([72, 82] : List UInt8).length = 2 := rfl
      simp (maxSteps:=999999) -implicitDefEqProofs (disch:=omega) only [push_cast,↓reduceIte,Nat.reduceEqDiff,reduceCtorEq,wz,hρ,p0,p1]
      refine wpa_call hp1 ?_
      rintro a rfl
      simp (maxSteps:=999999) -implicitDefEqProofs (disch:=omega) only [push_cast,↓reduceIte,Nat.reduceEqDiff,reduceCtorEq,wz,hρ]
      refine ⟨aholds_x (by simp (maxSteps:=999999) -implicitDefEqProofs (disch:=omega) only [push_cast,↓reduceIte,Nat.reduceEqDiff,reduceCtorEq,wz,hρ,p0,ex_In]), aholds_x (by simp (maxSteps:=999999) -implicitDefEqProofs (disch:=omega) only [push_cast,↓reduceIte,Nat.reduceEqDiff,reduceCtorEq,wz,hρ,p1,ex_slid]), ?_⟩
      refine wpa_call (bits_Put_a (putB [72, 82] 1 1) fs.length 1 (by omega)) ?_
      rintro a rfl
      simp (maxSteps:=999999) -implicitDefEqProofs (disch:=omega) only [push_cast,↓reduceIte,Nat.reduceEqDiff,reduceCtorEq,wz,hρ]
      refine ⟨aholds_x (by simp (maxSteps:=999999) -implicitDefEqProofs (disch:=omega) only [push_cast,↓reduceIte,Nat.reduceEqDiff,reduceCtorEq,wz,hρ,p0,ex_In]), ?_⟩
      refine wpa_call (bits_Put_a (putB (putB [72, 82] 1 1) fs.length 1) m 2 (by omega)) ?_
      rintro a rfl
      simp (maxSteps:=999999) -implicitDefEqProofs (disch:=omega) only [push_cast,↓reduceIte,Nat.reduceEqDiff,reduceCtorEq,wz,hρ]
      exact hN _ _ ⟨by simp (maxSteps:=999999) -implicitDefEqProofs (disch:=omega) only [push_cast,↓reduceIte,Nat.reduceEqDiff,reduceCtorEq,wz,hρ]; rfl, rfl⟩
    clear hρ ε
    rintro ε σ ⟨hρ, rfl⟩
    refine wpa_seqx (fun ε σ => ε 5 = aB (progB m fs)) ?_ ?_
    · intro N X R hN
      simp (maxSteps:=999999) -implicitDefEqProofs (disch:=omega) only [push_cast,↓reduceIte,Nat.reduceEqDiff,reduceCtorEq,wz,hρ,p1]
      refine wpa_blx (α := Nat) (I := fun k ε σ => (ε 5 = aB (funsB (headB m fs.length) (fs.take k)) ∧ ε 26 = .sl fs.length (fs.map aIxs) (.id 0 0 1) ∧ ε 27 = .v (.int .i64 fs.length) ∧ ε 28 = .v (.int .i64 k)) ∧ k ≤ fs.length)
        (μ := fun k => fs.length - k) (Q := fun ε σ => ε 5 = aB (progB m fs)) (x := 0) ?_ ?_ hN
      · exact ⟨by simp (maxSteps:=999999) -implicitDefEqProofs (disch:=omega) only [push_cast,↓reduceIte,Nat.reduceEqDiff,reduceCtorEq,wz,hρ]; rfl, by omega⟩
      · clear hN N X R hρ ε
        rintro k ε σ N E X R ⟨hρ, hk⟩ hN hE
        simp only [S_prog_Put_L1]
        by_cases hlt : k < fs.length
        · obtain ⟨l, hl⟩ := at_lt hlt
          have hkl : (k : Int) < fs.length := by omega
          obtain ⟨hl200, hlx⟩ := hfl l (List.mem_of_getElem? hl)
          have hIL : aIxs l = .sl l.length (l.flatMap aIx) .none := rfl
          have hbd := funs_bd hP hl
          have hfs := funsB_succ (headB m fs.length) hl
          have hb0 := (hbd 0).1
          generalize funsB (headB m fs.length) (fs.take k) = S at hρ hbd hfs hb0
          simp (maxSteps:=999999) -implicitDefEqProofs (disch:=omega) only [push_cast,↓reduceIte,Nat.reduceEqDiff,reduceCtorEq,wz,hρ,hkl,hl,hIL]
          refine wpa_call (bits_Put_a S l.length 2 (by omega)) ?_
          rintro a rfl
          generalize hT : putB S l.length 2 = T at hbd hfs
          simp (maxSteps:=999999) -implicitDefEqProofs (disch:=omega) only [push_cast,↓reduceIte,Nat.reduceEqDiff,reduceCtorEq,wz,hρ]
          refine wpa_blx (α := Nat) (I := fun j ε σ => (ε 5 = aB (rowB T (l.take j)) ∧ ε 26 = .sl fs.length (fs.map aIxs) (.id 0 0 1) ∧ ε 27 = .v (.int .i64 fs.length) ∧ ε 28 = .v (.int .i64 k) ∧ ε 36 = .sl l.length (l.flatMap aIx) .none ∧ ε 37 = .v (.int .i64 l.length) ∧ ε 38 = .v (.int .i64 j)) ∧ j ≤ l.length)
            (μ := fun j => l.length - j) (Q := fun ε σ => ε 5 = aB (rowB T l) ∧ ε 26 = .sl fs.length (fs.map aIxs) (.id 0 0 1) ∧ ε 27 = .v (.int .i64 fs.length) ∧ ε 28 = .v (.int .i64 k)) (x := 0) ?_ ?_ ?_
          · exact ⟨by simp (maxSteps:=999999) -implicitDefEqProofs (disch:=omega) only [push_cast,↓reduceIte,Nat.reduceEqDiff,reduceCtorEq,wz,hρ]; rfl, by omega⟩
          · clear hρ hN hE N E X R ε σ
            rintro j ε σ N E X R ⟨hρ, hj⟩ hN hE
            simp only [S_prog_Put_L2]
            by_cases hlj : j < l.length
            · obtain ⟨x, hx⟩ := at_lt hlj
              have hjl : (j : Int) < l.length := by omega
              have hd := flat_drop aIx_len hx
              have hxi := hlx x (List.mem_of_getElem? hx)
              have hxl := insB_len x
              have hbj := (hbd j).2
              have hsn := rowB_succ T hx
              generalize rowB T (l.take j) = U at hρ hbj hsn
              have hadd := add_bA U (insB x) (by omega)
              simp (maxSteps:=999999) -implicitDefEqProofs (disch:=omega) only [push_cast,↓reduceIte,Nat.reduceEqDiff,reduceCtorEq,wz,hρ,hjl,hd,cellsIx]
              refine wpa_new ?_
              simp (maxSteps:=999999) -implicitDefEqProofs (disch:=omega) only [push_cast,↓reduceIte,Nat.reduceEqDiff,reduceCtorEq,wz,hρ]
              refine wpa_stn (cs := aIx ix0) rfl rfl (snoc_get _ _) (off := 0) (by decide) ?_
              have hS : (σ ++ [Res.obj 0 [AV.v (.int .i64 0), AV.v (.int .i64 0), AV.v (.int .i64 0), AV.v (.int .i64 0)]]).set σ.length (Res.obj 0 (setAtA (aIx ix0) 0 (aIx x))) = σ ++ [Res.obj 0 (aIx x)] := by simp [ix_st, aIx, setAtA]
              rw [hS]
              have hx2 := snoc_get σ (Res.obj 0 (aIx x))
              generalize σ ++ [Res.obj 0 (aIx x)] = S2 at hx2 ⊢
              generalize σ.length = ix at hx2 ⊢
              simp (maxSteps:=999999) -implicitDefEqProofs (disch:=omega) only [push_cast,↓reduceIte,Nat.reduceEqDiff,reduceCtorEq,wz,hρ,hx2,cellsIx']
              refine wpa_call (ins_Put_a x hxi) ?_
              rintro a rfl
              simp (maxSteps:=999999) -implicitDefEqProofs (disch:=omega) only [push_cast,↓reduceIte,Nat.reduceEqDiff,reduceCtorEq,wz,hρ,aInt,hadd]
              exact hN (j + 1) _ _ ⟨by simp (maxSteps:=999999) -implicitDefEqProofs (disch:=omega) only [push_cast,↓reduceIte,Nat.reduceEqDiff,reduceCtorEq,wz,hρ]; rw [hsn], by omega⟩ (by omega)
            · have hle : ¬ (j : Int) < l.length := by omega
              obtain rfl : j = l.length := by omega
              rw [List.take_length] at hρ
              simp (maxSteps:=999999) -implicitDefEqProofs (disch:=omega) only [push_cast,↓reduceIte,Nat.reduceEqDiff,reduceCtorEq,wz,hρ,hle]
              exact hE _ _ (by simp (maxSteps:=999999) -implicitDefEqProofs (disch:=omega) only [push_cast,↓reduceIte,Nat.reduceEqDiff,reduceCtorEq,wz,hρ])
          · clear hρ hE ε σ
            rintro ε σ hρ
            simp (maxSteps:=999999) -implicitDefEqProofs (disch:=omega) only [push_cast,↓reduceIte,Nat.reduceEqDiff,reduceCtorEq,wz,hρ]
            exact hN (k + 1) _ _ ⟨by simp (maxSteps:=999999) -implicitDefEqProofs (disch:=omega) only [push_cast,↓reduceIte,Nat.reduceEqDiff,reduceCtorEq,wz,hρ]; rw [hfs], by omega⟩ (by omega)
        · have hle : ¬ (k : Int) < fs.length := by omega
          obtain rfl : k = fs.length := by omega
          rw [List.take_length] at hρ
          simp (maxSteps:=999999) -implicitDefEqProofs (disch:=omega) only [push_cast,↓reduceIte,Nat.reduceEqDiff,reduceCtorEq,wz,hρ,hle]
          exact hE _ _ hρ.1
    clear hρ ε
    rintro ε σ h5
    simp (maxSteps:=999999) -implicitDefEqProofs (disch:=omega) only [push_cast,↓reduceIte,Nat.reduceEqDiff,reduceCtorEq,wz,h5]
    first | exact ⟨rfl, rfl⟩ | exact ⟨[], rfl, rfl⟩
  · unfold putF
    rw [if_neg hP]
    refine fnP_in K_prog_Put mixed rfl (by simp [AV.pureL, AV.pure, aPr_pure]) ?_
    simp only [S_prog_Put]
    have hac : (AV.agg (aPr m fs)).cells = aPr m fs := rfl
    refine wpa_seqx (fun ε σ => ε 1 = .ref 0 0 0 ∧ σ = [.obj 0 (aPr m fs)]) ?_ ?_
    · intro N X R hN
      simp (maxSteps:=999999) -implicitDefEqProofs (disch:=omega) only [push_cast,↓reduceIte,Nat.reduceEqDiff,reduceCtorEq,wz]
      refine wpa_box ?_
      simp (maxSteps:=999999) -implicitDefEqProofs (disch:=omega) only [push_cast,↓reduceIte,Nat.reduceEqDiff,reduceCtorEq,wz,hac]
      exact hN _ _ (by simp (maxSteps:=999999) -implicitDefEqProofs (disch:=omega) only [push_cast,↓reduceIte,Nat.reduceEqDiff,reduceCtorEq,wz])
    rintro ε σ ⟨hρ, rfl⟩
    refine wpa_seq (fun ε σ => False) ?_ (fun _ _ h => h.elim)
    intro N hN
    simp (maxSteps:=999999) -implicitDefEqProofs (disch:=omega) only [push_cast,↓reduceIte,Nat.reduceEqDiff,reduceCtorEq,wz,hρ,cellsPr2]
    refine wpa_call (prog_Check_a m fs hf) ?_
    rintro a rfl
    simp (maxSteps:=999999) -implicitDefEqProofs (disch:=omega) only [push_cast,↓reduceIte,Nat.reduceEqDiff,reduceCtorEq,wz,hρ,aInt,hP]
    exact ⟨[], rfl, rfl⟩
end Go.Proofs.YtjdpejggafefjaaDoor
/- The walk of AsmSizes. -/
namespace Go.Proofs.YtjdpejggafefjaaDoor
set_option linter.unusedVariables false
set_option linter.unusedSimpArgs false
open Go Go.Kx Go.Proofs

theorem linesT_ge (ls : List (List UInt8)) : ls.length ≤ (linesT ls).length := by
  induction ls with
  | nil => simp
  | cons w ls ih =>
    have e : linesT (w :: ls) = w ++ 10 :: linesT ls := by simp [linesT]
    rw [e]
    simp only [List.length_append, List.length_cons]
    omega
set_option maxHeartbeats 16000000 in
theorem AsmSizes_a (m : Int) (fs : List (List Ix)) (hl : fs.length ≤ 9223372036854775807) : FnP Tryd.prog 14 [.agg (aPr m fs)] fun a => a = aBool true := by
  refine fnP_in K_forebaylaw06_AsmSizes mixed rfl (by simp [AV.pureL, AV.pure, aPr_pure]) ?_
  simp only [S_forebaylaw06_AsmSizes]
  have hac : (AV.agg (aPr m fs)).cells = aPr m fs := rfl
  have q0 : (aPr m fs)[0]? = some (.v (.int .i64 m)) := rfl
  have q1 : (aPr m fs)[1]? = some (.sl fs.length (fs.map aIxs) .none) := rfl
  refine wpa_seqx (fun ε σ => ε 1 = .ref 0 0 0 ∧ σ = [.obj 0 (aPr m fs)]) ?_ ?_
  · intro N X R hN
    simp (maxSteps:=999999) -implicitDefEqProofs (disch:=omega) only [push_cast,↓reduceIte,Nat.reduceEqDiff,reduceCtorEq,wz]
    refine wpa_box ?_
    simp (maxSteps:=999999) -implicitDefEqProofs (disch:=omega) only [push_cast,↓reduceIte,Nat.reduceEqDiff,reduceCtorEq,wz,hac]
    exact hN _ _ (by simp (maxSteps:=999999) -implicitDefEqProofs (disch:=omega) only [push_cast,↓reduceIte,Nat.reduceEqDiff,reduceCtorEq,wz])
  rintro ε σ ⟨hρ, rfl⟩
  refine wpa_seqx (fun ε σ => ε 1 = .ref 0 0 0 ∧ σ = [.obj 0 (aPr m fs)]) ?_ ?_
  · intro N X R hN
    simp (maxSteps:=999999) -implicitDefEqProofs (disch:=omega) only [push_cast,↓reduceIte,Nat.reduceEqDiff,reduceCtorEq,wz,hρ]
    refine wpa_call law06_works_a ?_
    rintro a rfl
    simp (maxSteps:=999999) -implicitDefEqProofs (disch:=omega) only [push_cast,↓reduceIte,Nat.reduceEqDiff,reduceCtorEq,wz,hρ,aBool]
    exact hN _ _ (by simp (maxSteps:=999999) -implicitDefEqProofs (disch:=omega) only [push_cast,↓reduceIte,Nat.reduceEqDiff,reduceCtorEq,wz,hρ])
  clear hρ ε
  rintro ε σ ⟨hρ, rfl⟩
  refine wpa_seq (fun ε σ => (ε 1 = .ref 0 0 0 ∧ σ = [.obj 0 (aPr m fs)]) ∧ okS fs) ?_ ?_
  · intro N hN
    simp (maxSteps:=999999) -implicitDefEqProofs (disch:=omega) only [push_cast,↓reduceIte,Nat.reduceEqDiff,reduceCtorEq,wz,hρ,cellsPr2]
    refine wpa_call (law04_Great_a m fs hl) ?_
    rintro a ⟨b, rfl, hb⟩
    cases b with
    | true =>
      simp (maxSteps:=999999) -implicitDefEqProofs (disch:=omega) only [push_cast,↓reduceIte,Nat.reduceEqDiff,reduceCtorEq,wz,hρ,aBool]
      exact ⟨[], rfl⟩
    | false =>
      simp (maxSteps:=999999) -implicitDefEqProofs (disch:=omega) only [push_cast,↓reduceIte,Nat.reduceEqDiff,reduceCtorEq,wz,hρ,aBool]
      exact hN _ _ ⟨by simp (maxSteps:=999999) -implicitDefEqProofs (disch:=omega) only [push_cast,↓reduceIte,Nat.reduceEqDiff,reduceCtorEq,wz,hρ], hb rfl⟩
  clear hρ ε
  rintro ε σ ⟨⟨hρ, rfl⟩, hS⟩
  have hf := hS.ok
  have h1 := asm_Text_a m fs hf
  have h2 := prog_Put_a m fs hf
  have hpr : (prgE m fs ≠ 0 ∧ textF m fs = ([], prgE m fs) ∧ putF m fs = ([], prgE m fs)) ∨ (prgE m fs = 0 ∧ textF m fs = (linesT (linesP m fs), 0) ∧ putF m fs = (progB m fs, 0)) := by
    unfold textF putF
    by_cases hP : prgE m fs = 0
    · rw [if_pos hP, if_pos hP]; exact .inr ⟨hP, rfl, rfl⟩
    · rw [if_neg hP, if_neg hP]; exact .inl ⟨hP, rfl, rfl⟩
  generalize textF m fs = p at h1 hpr
  generalize hr0 : putF m fs = r at h2 hpr
  refine wpa_seqx (fun ε σ => (ε 1 = .ref 0 0 0 ∧ ε 3 = aB p.1 ∧ ε 4 = .v (.int .i64 p.2)) ∧ σ = [.obj 0 (aPr m fs)]) ?_ ?_
  · intro N X R hN
    simp (maxSteps:=999999) -implicitDefEqProofs (disch:=omega) only [push_cast,↓reduceIte,Nat.reduceEqDiff,reduceCtorEq,wz,hρ,cellsPr2]
    refine wpa_call (law04_Own_a m fs hf) ?_
    rintro a rfl
    simp (maxSteps:=999999) -implicitDefEqProofs (disch:=omega) only [push_cast,↓reduceIte,Nat.reduceEqDiff,reduceCtorEq,wz,hρ]
    refine wpa_call h1 ?_
    rintro a rfl
    simp (maxSteps:=999999) -implicitDefEqProofs (disch:=omega) only [push_cast,↓reduceIte,Nat.reduceEqDiff,reduceCtorEq,wz,hρ,aInt]
    exact hN _ _ ⟨by simp (maxSteps:=999999) -implicitDefEqProofs (disch:=omega) only [push_cast,↓reduceIte,Nat.reduceEqDiff,reduceCtorEq,wz,hρ], rfl⟩
  clear hρ ε
  rintro ε σ ⟨hρ, rfl⟩
  refine wpa_seqx (fun ε σ => (ε 1 = .ref 0 0 0 ∧ ε 3 = aB p.1 ∧ ε 4 = .v (.int .i64 p.2) ∧ ε 5 = aB r.1 ∧ ε 6 = .v (.int .i64 r.2)) ∧ σ = [.obj 0 (aPr m fs)]) ?_ ?_
  · intro N X R hN
    simp (maxSteps:=999999) -implicitDefEqProofs (disch:=omega) only [push_cast,↓reduceIte,Nat.reduceEqDiff,reduceCtorEq,wz,hρ,cellsPr2]
    refine wpa_call (law04_Own_a m fs hf) ?_
    rintro a rfl
    simp (maxSteps:=999999) -implicitDefEqProofs (disch:=omega) only [push_cast,↓reduceIte,Nat.reduceEqDiff,reduceCtorEq,wz,hρ]
    refine wpa_call h2 ?_
    rintro a rfl
    simp (maxSteps:=999999) -implicitDefEqProofs (disch:=omega) only [push_cast,↓reduceIte,Nat.reduceEqDiff,reduceCtorEq,wz,hρ,aInt]
    exact hN _ _ ⟨by simp (maxSteps:=999999) -implicitDefEqProofs (disch:=omega) only [push_cast,↓reduceIte,Nat.reduceEqDiff,reduceCtorEq,wz,hρ], rfl⟩
  clear hρ ε
  rintro ε σ ⟨hρ, rfl⟩
  rcases hpr with ⟨hP, rfl, rfl⟩ | ⟨hP, rfl, rfl⟩
  · refine wpa_seq (fun ε σ => False) ?_ (fun _ _ h => h.elim)
    intro N hN
    have he : bA [] = ⟨#[]⟩ := rfl
    simp (maxSteps:=999999) -implicitDefEqProofs (disch:=omega) only [push_cast,↓reduceIte,Nat.reduceEqDiff,reduceCtorEq,wz,hρ,hP,he]
    first | exact ⟨[], rfl⟩ | exact ⟨[], rfl, rfl⟩
  refine wpa_seqx (fun ε σ => (ε 1 = .ref 0 0 0 ∧ ε 3 = aB (linesT (linesP m fs)) ∧ ε 5 = aB (progB m fs)) ∧ σ = [.obj 0 (aPr m fs)]) ?_ ?_
  · intro N X R hN
    simp (maxSteps:=999999) -implicitDefEqProofs (disch:=omega) only [push_cast,↓reduceIte,Nat.reduceEqDiff,reduceCtorEq,wz,hρ]
    exact hN _ _ ⟨by simp (maxSteps:=999999) -implicitDefEqProofs (disch:=omega) only [push_cast,↓reduceIte,Nat.reduceEqDiff,reduceCtorEq,wz,hρ], rfl⟩
  clear hρ ε
  rintro ε σ ⟨hρ, rfl⟩
  have htl := text_len hP
  have hge := linesT_ge (linesP m fs)
  have hok := linesP_ok hP
  have hlines := ref05_Lines_a (bA (linesT (linesP m fs))) (by rw [size_bA]; omega)
  have hbk : partsB 10 true [] (bA (linesT (linesP m fs))).data.toList = linesP m fs := by
    have e : (bA (linesT (linesP m fs))).data.toList = linesT (linesP m fs) := by simp
    rw [e]
    exact lines_back _ fun l hl => (hok l hl).2.2.2
  rw [hbk] at hlines
  have h3 := asm_Read_a (linesT (linesP m fs)) (by omega)
  rw [read_text hP] at h3
  obtain ⟨hm, hf16, hfl⟩ := prg_ins hP
  have hmI : I64 m := by unfold I64; omega
  have hlen := linesP_len m fs
  have hz0 : (linesP m fs)[0]? = some (memL m) := rfl
  refine wpa_seqx (fun ε σ => (ε 1 = .ref 0 0 0 ∧ ε 3 = aB (linesT (linesP m fs)) ∧ ε 5 = aB (progB m fs) ∧ ε 7 = .sl (linesP m fs).length ((linesP m fs).map aB) .none) ∧ σ = [.obj 0 (aPr m fs)]) ?_ ?_
  · intro N X R hN
    simp (maxSteps:=999999) -implicitDefEqProofs (disch:=omega) only [push_cast,↓reduceIte,Nat.reduceEqDiff,reduceCtorEq,wz,hρ]
    refine wpa_call hlines ?_
    rintro a rfl
    simp (maxSteps:=999999) -implicitDefEqProofs (disch:=omega) only [push_cast,↓reduceIte,Nat.reduceEqDiff,reduceCtorEq,wz,hρ]
    exact hN _ _ ⟨by simp (maxSteps:=999999) -implicitDefEqProofs (disch:=omega) only [push_cast,↓reduceIte,Nat.reduceEqDiff,reduceCtorEq,wz,hρ]; rfl, rfl⟩
  clear hρ ε
  rintro ε σ ⟨hρ, rfl⟩
  have hat1 : ∀ {k : Nat} {l : List Ix}, fs[k]? = some l → 1 + (linesF (fs.take k)).length < (linesP m fs).length := fun h => lt_at (line_fun m h)
  have hfun : ∀ {k : Nat} {l : List Ix}, fs[k]? = some l → (linesP m fs)[1 + (linesF (fs.take k)).length]? = some funB := fun h => line_fun m h
  have hins : ∀ {k j : Nat} {l : List Ix} {x : Ix}, fs[k]? = some l → l[j]? = some x → (linesP m fs)[1 + (linesF (fs.take k)).length + 1 + j]? = some (lineF x) := fun h1 h2 => line_ins m h1 h2
  generalize hLL : linesP m fs = L at hρ hge hlen hz0 hat1 hfun hins h3 ⊢
  have hL5 : L.length ≤ 50000 := by rw [hLL] at htl; omega
  generalize hTT : linesT L = T at hρ h3 ⊢
  generalize hGG : progB m fs = B at hρ h2 ⊢
  refine wpa_seqx (fun ε σ => (ε 1 = .ref 0 0 0 ∧ ε 3 = aB T ∧ ε 5 = aB B ∧ ε 7 = .sl L.length (L.map aB) .none ∧ ε 8 = .v (.int .i64 1)) ∧ σ = [.obj 0 (aPr m fs)]) ?_ ?_
  · intro N X R hN
    simp (maxSteps:=999999) -implicitDefEqProofs (disch:=omega) only [push_cast,↓reduceIte,Nat.reduceEqDiff,reduceCtorEq,wz,hρ]
    exact hN _ _ ⟨by simp (maxSteps:=999999) -implicitDefEqProofs (disch:=omega) only [push_cast,↓reduceIte,Nat.reduceEqDiff,reduceCtorEq,wz,hρ], rfl⟩
  clear hρ ε
  rintro ε σ ⟨hρ, rfl⟩
  have hfb : bA funB = ⟨#[102, 117, 110, 99, 116, 105, 111, 110]⟩ := rfl
  refine wpa_seqx (fun ε σ => (ε 1 = .ref 0 0 0 ∧ ε 3 = aB T ∧ ε 5 = aB B ∧ ε 7 = .sl L.length (L.map aB) .none ∧ ε 8 = .v (.int .i64 L.length)) ∧ σ = [.obj 0 (aPr m fs)]) ?_ ?_
  · intro N X R hN
    simp (maxSteps:=999999) -implicitDefEqProofs (disch:=omega) only [push_cast,↓reduceIte,Nat.reduceEqDiff,reduceCtorEq,wz,hρ]
    refine wpa_blx (α := Nat) (I := fun k ε σ => ∃ at_ : Nat, (ε 1 = .ref 0 0 0 ∧ ε 3 = aB T ∧ ε 5 = aB B ∧ ε 7 = .sl L.length (L.map aB) .none ∧ ε 8 = .v (.int .i64 at_) ∧ ε 9 = .v (.int .i64 k)) ∧ at_ = 1 + (linesF (fs.take k)).length ∧ k ≤ fs.length ∧ σ = [.obj 0 (aPr m fs)])
      (μ := fun k => fs.length - k) (Q := fun ε σ => (ε 1 = .ref 0 0 0 ∧ ε 3 = aB T ∧ ε 5 = aB B ∧ ε 7 = .sl L.length (L.map aB) .none ∧ ε 8 = .v (.int .i64 L.length)) ∧ σ = [.obj 0 (aPr m fs)]) (x := 0) ?_ ?_ hN
    · exact ⟨1, by simp (maxSteps:=999999) -implicitDefEqProofs (disch:=omega) only [push_cast,↓reduceIte,Nat.reduceEqDiff,reduceCtorEq,wz,hρ]; try rfl, by simp [linesF], by omega, rfl⟩
    · clear hN N X R hρ ε
      rintro k ε σ N E X R ⟨at_, hρ, hat, hk, rfl⟩ hN hE
      simp only [S_forebaylaw06_AsmSizes_L1]
      by_cases hlt : k < fs.length
      · obtain ⟨l, hl⟩ := at_lt hlt
        have hkl : (k : Int) < fs.length := by omega
        have hal := hat1 hl
        rw [← hat] at hal
        have halI : ¬ ((L.length : Int) ≤ at_) := by omega
        have hget := hfun hl
        rw [← hat] at hget
        obtain ⟨hl200, hlx⟩ := hfl l (List.mem_of_getElem? hl)
        have hIL : aIxs l = .sl l.length (l.flatMap aIx) .none := rfl
        have hnx := linesF_next hl
        simp (maxSteps:=999999) -implicitDefEqProofs (disch:=omega) only [push_cast,↓reduceIte,Nat.reduceEqDiff,reduceCtorEq,wz,hρ,q1,hkl,halI,hget,hfb]
        refine wpa_blx (α := Nat) (I := fun j ε σ => ∃ a2 : Nat, (ε 1 = .ref 0 0 0 ∧ ε 3 = aB T ∧ ε 5 = aB B ∧ ε 7 = .sl L.length (L.map aB) .none ∧ ε 8 = .v (.int .i64 a2) ∧ ε 9 = .v (.int .i64 k) ∧ ε 10 = .v (.int .i64 j)) ∧ a2 = at_ + 1 + j ∧ j ≤ l.length ∧ σ = [.obj 0 (aPr m fs)])
          (μ := fun j => l.length - j) (Q := fun ε σ => (ε 1 = .ref 0 0 0 ∧ ε 3 = aB T ∧ ε 5 = aB B ∧ ε 7 = .sl L.length (L.map aB) .none ∧ ε 8 = .v (.int .i64 ((at_ + 1 + l.length : Nat) : Int)) ∧ ε 9 = .v (.int .i64 k)) ∧ σ = [.obj 0 (aPr m fs)]) (x := 0) ?_ ?_ ?_
        · exact ⟨at_ + 1, by simp (maxSteps:=999999) -implicitDefEqProofs (disch:=omega) only [push_cast,↓reduceIte,Nat.reduceEqDiff,reduceCtorEq,wz,hρ], rfl, by omega, rfl⟩
        · clear hρ hN hE N E X R ε
          rintro j ε σ N E X R ⟨a2, hρ, ha2, hj, rfl⟩ hN hE
          simp only [S_forebaylaw06_AsmSizes_L2]
          by_cases hlj : j < l.length
          · obtain ⟨x, hx⟩ := at_lt hlj
            have hjl : (j : Int) < l.length := by omega
            have hd := flat_drop aIx_len hx
            have hg2 := hins hl hx
            rw [← hat, ← ha2] at hg2
            have hal2 := lt_at hg2
            have halI2 : ¬ ((L.length : Int) ≤ a2) := by omega
            simp (maxSteps:=999999) -implicitDefEqProofs (disch:=omega) only [push_cast,↓reduceIte,Nat.reduceEqDiff,reduceCtorEq,wz,hρ,q1,hl,hIL,hjl,halI2,hg2,hd,cellsIx]
            refine wpa_call (asm_Line_a x) ?_
            rintro a rfl
            simp (maxSteps:=999999) -implicitDefEqProofs (disch:=omega) only [push_cast,↓reduceIte,Nat.reduceEqDiff,reduceCtorEq,wz,hρ]
            refine ⟨aholds_ldg (w := false) (by simp (maxSteps:=999999) -implicitDefEqProofs (disch:=omega) only [push_cast,↓reduceIte,Nat.reduceEqDiff,reduceCtorEq,wz,hρ]; try rfl) (by simp (maxSteps:=999999) -implicitDefEqProofs (disch:=omega) only [push_cast,↓reduceIte,Nat.reduceEqDiff,reduceCtorEq,wz,hρ,hg2]; try rfl) rfl (by simp (maxSteps:=999999) -implicitDefEqProofs (disch:=omega) only [push_cast,↓reduceIte,Nat.reduceEqDiff,reduceCtorEq,wz,hρ]; try rfl), ?_⟩
            exact hN (j + 1) _ _ ⟨a2 + 1, by simp (maxSteps:=999999) -implicitDefEqProofs (disch:=omega) only [push_cast,↓reduceIte,Nat.reduceEqDiff,reduceCtorEq,wz,hρ], by omega, by omega, rfl⟩ (by omega)
          · have hle : ¬ (j : Int) < l.length := by omega
            simp (maxSteps:=999999) -implicitDefEqProofs (disch:=omega) only [push_cast,↓reduceIte,Nat.reduceEqDiff,reduceCtorEq,wz,hρ,q1,hl,hIL,hle]
            obtain rfl : j = l.length := by omega
            rw [ha2] at hρ
            exact hE _ _ ⟨by simp (maxSteps:=999999) -implicitDefEqProofs (disch:=omega) only [push_cast,↓reduceIte,Nat.reduceEqDiff,reduceCtorEq,wz,hρ], rfl⟩
        · clear hρ hE ε
          rintro ε σ ⟨hρ, rfl⟩
          simp (maxSteps:=999999) -implicitDefEqProofs (disch:=omega) only [push_cast,↓reduceIte,Nat.reduceEqDiff,reduceCtorEq,wz,hρ]
          exact hN (k + 1) _ _ ⟨at_ + 1 + l.length, by simp (maxSteps:=999999) -implicitDefEqProofs (disch:=omega) only [push_cast,↓reduceIte,Nat.reduceEqDiff,reduceCtorEq,wz,hρ], by rw [hnx, hat]; omega, by omega, rfl⟩ (by omega)
      · have hle : ¬ (k : Int) < fs.length := by omega
        simp (maxSteps:=999999) -implicitDefEqProofs (disch:=omega) only [push_cast,↓reduceIte,Nat.reduceEqDiff,reduceCtorEq,wz,hρ,q1,hle]
        obtain rfl : k = fs.length := by omega
        rw [List.take_length] at hat
        obtain rfl : at_ = L.length := by omega
        exact hE _ _ ⟨by simp (maxSteps:=999999) -implicitDefEqProofs (disch:=omega) only [push_cast,↓reduceIte,Nat.reduceEqDiff,reduceCtorEq,wz,hρ], rfl⟩
  clear hρ ε
  rintro ε σ ⟨hρ, rfl⟩
  refine wpa_seqx (fun ε σ => (ε 1 = .ref 0 0 0 ∧ ε 3 = aB T ∧ ε 5 = aB B ∧ ε 7 = .sl L.length (L.map aB) .none ∧ ε 8 = .v (.int .i64 L.length) ∧ ε 11 = .ref 1 0 0 ∧ ε 12 = .v (.int .i64 0)) ∧ σ = [.obj 0 (aPr m fs), .obj 0 (aPr m fs)]) ?_ ?_
  · intro N X R hN
    simp (maxSteps:=999999) -implicitDefEqProofs (disch:=omega) only [push_cast,↓reduceIte,Nat.reduceEqDiff,reduceCtorEq,wz,hρ]
    refine wpa_call h3 ?_
    rintro a rfl
    simp (maxSteps:=999999) -implicitDefEqProofs (disch:=omega) only [push_cast,↓reduceIte,Nat.reduceEqDiff,reduceCtorEq,wz,hρ,aInt]
    refine wpa_new ?_
    simp (maxSteps:=999999) -implicitDefEqProofs (disch:=omega) only [push_cast,↓reduceIte,Nat.reduceEqDiff,reduceCtorEq,wz,hρ]
    refine wpa_stn (cs := pr0) (l := aPr m fs) rfl (aPr_one _ _) rfl (by decide) ?_
    simp (maxSteps:=999999) -implicitDefEqProofs (disch:=omega) only [push_cast,↓reduceIte,Nat.reduceEqDiff,reduceCtorEq,wz,hρ]
    exact hN _ _ ⟨by simp (maxSteps:=999999) -implicitDefEqProofs (disch:=omega) only [push_cast,↓reduceIte,Nat.reduceEqDiff,reduceCtorEq,wz,hρ], rfl⟩
  clear hρ ε
  rintro ε σ ⟨hρ, rfl⟩
  refine wpa_seqx (fun ε σ => (ε 1 = .ref 0 0 0 ∧ ε 5 = aB B ∧ ε 7 = .sl L.length (L.map aB) .none ∧ ε 8 = .v (.int .i64 L.length) ∧ ε 12 = .v (.int .i64 0) ∧ ε 13 = aB B ∧ ε 14 = .v (.int .i64 0)) ∧ σ = [.obj 0 (aPr m fs), .obj 0 (aPr m fs)]) ?_ ?_
  · intro N X R hN
    simp (maxSteps:=999999) -implicitDefEqProofs (disch:=omega) only [push_cast,↓reduceIte,Nat.reduceEqDiff,reduceCtorEq,wz,hρ,cellsPr2]
    refine wpa_call h2 ?_
    rintro a rfl
    simp (maxSteps:=999999) -implicitDefEqProofs (disch:=omega) only [push_cast,↓reduceIte,Nat.reduceEqDiff,reduceCtorEq,wz,hρ,aInt]
    exact hN _ _ ⟨by simp (maxSteps:=999999) -implicitDefEqProofs (disch:=omega) only [push_cast,↓reduceIte,Nat.reduceEqDiff,reduceCtorEq,wz,hρ], rfl⟩
  clear hρ ε
  rintro ε σ ⟨hρ, rfl⟩
  have hml := memL_ok hmI
  have hil := Lib.itoa_length_le m hmI.1 hmI.2
  have hadd : PF.val (.bin .add) [.string ⟨#[109, 101, 109, 111, 114, 121, 32]⟩, .string (bA (Lib.itoa m))] = some (.string (bA (memL m))) := by
    have := add_bA (memB ++ [32]) (Lib.itoa m) (by simp [memB]; omega)
    rw [memL_eq] at this
    exact this
  have hz1 : L[Int.toNat 0]? = some (memL m) := hz0
  simp (maxSteps:=999999) -implicitDefEqProofs (disch:=omega) only [push_cast,↓reduceIte,Nat.reduceEqDiff,reduceCtorEq,wz,hρ,q0,hz0,hz1]
  refine wpa_call (ref05_Of_a m hmI.1 hmI.2) ?_
  rintro a rfl
  simp (maxSteps:=999999) -implicitDefEqProofs (disch:=omega) only [push_cast,↓reduceIte,Nat.reduceEqDiff,reduceCtorEq,wz,hρ]
  refine ⟨aholds_ldg (w := true) (by simp (maxSteps:=999999) -implicitDefEqProofs (disch:=omega) only [push_cast,↓reduceIte,Nat.reduceEqDiff,reduceCtorEq,wz,hρ]; try rfl) (by simp (maxSteps:=999999) -implicitDefEqProofs (disch:=omega) only [push_cast,↓reduceIte,Nat.reduceEqDiff,reduceCtorEq,wz,hρ,hz0,hz1]; try rfl) rfl (by simp (maxSteps:=999999) -implicitDefEqProofs (disch:=omega) only [push_cast,↓reduceIte,Nat.reduceEqDiff,reduceCtorEq,wz,hρ]; try rfl), ?_⟩
  simp (maxSteps:=999999) -implicitDefEqProofs (disch:=omega) only [push_cast,↓reduceIte,Nat.reduceEqDiff,reduceCtorEq,wz,hρ,hadd]
  first | exact ⟨[], rfl⟩ | exact ⟨[], rfl, rfl⟩
theorem AsmSizes_p (x : Int × List (List Ix)) (h : x.2.length ≤ 9223372036854775807) : FnP Tryd.prog 14 [.agg (aPr x.1 x.2)] fun a => a = aBool true := AsmSizes_a x.1 x.2 h
end Go.Proofs.YtjdpejggafefjaaDoor
