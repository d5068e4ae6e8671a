/- GridStrands: the plain law: what the builder makes of a pipeline's marks. -/
import Derived.Test.YthgmfjkbgacfaaaYa
import Derived.Test.YthgmfjkbgacfaaaYb
import Derived.Test.YthgmfjkbgacfaaaYc
namespace Go.Proofs.Ythgmfjkbgacfaaa.Gs
set_option linter.unusedVariables false
set_option linter.unusedSimpArgs false
open Go Go.Kx Go.Proofs Go.Proofs.Ythgmfjkbgacfaaa.Gr Go.Proofs.Ythgmfjkbgacfaaa.St

theorem run_step {B B' : Bd} {m : Mk} {l : List Mk} {F : Fr} {fs : List Fr} (hB : B.fs = F :: fs) (hk : ¬ (m.k < 1 ∨ 12 < m.k)) (hf : fitsB F m = true) (hs : stepF B m F fs = B') (hfull : B'.full = false) : runB B (m :: l) = runB B' l := by
  simp only [runB]
  rw [if_neg hk, hB]
  simp only [hf, if_true, hs, hfull]
  rfl
theorem begin_eq {B : Bd} (h : B.preds.length ≠ 1000) (n : Nd) (ps : List Int) : B.begin n ps = ((B.preds.length : Int), { B with preds := B.preds ++ [ps], nodes := B.nodes ++ [n] }) := if_neg h
def st (r : List CC) (k : Nat) : Int := (r.getD k nc).st
def stRow (r : List CC) (b k : Nat) : List (Int × Int) := (List.range k).map fun j => (st r j, ((b + j : Nat) : Int))
def prK (i b bq : Nat) (q r : List CC) (k : Nat) : List Int :=
  if k = 0 then [if i = 0 then 0 else (bq : Int)]
  else if (r.getD k nc).wt = true ∧ 0 < i then [((b + (k - 1) : Nat) : Int), lastA (stRow q bq q.length) (st r k)] else [((b + (k - 1) : Nat) : Int)]
def prRow (i b bq : Nat) (q r : List CC) (k : Nat) : List (List Int) := (List.range k).map (prK i b bq q r)
def ndRow (i : Nat) (r : List CC) (k : Nat) : List Nd := (List.range k).map fun j => (1, (i : Int), st r j)
def rw' (l : List (List CC)) (i : Nat) : List CC := l.getD i []
def bs (l : List (List CC)) : Nat → Nat
  | 0 => 1
  | n + 1 => bs l n + (rw' l n).length
def prAll (l : List (List CC)) (n : Nat) : List (List Int) := (List.range n).flatMap fun i => prRow i (bs l i) (bs l (i - 1)) (rw' l (i - 1)) (rw' l i) (rw' l i).length
def ndAll (l : List (List CC)) (n : Nat) : List Nd := (List.range n).flatMap fun i => ndRow i (rw' l i) (rw' l i).length
def lsAll (l : List (List CC)) (n : Nat) : List Int := (List.range n).map fun i => ((bs l (i + 1) - 1 : Nat) : Int)
def ahAll (l : List (List CC)) (n : Nat) : List (Int × Int) := if n = 0 then [] else stRow (rw' l (n - 1)) (bs l (n - 1)) (rw' l (n - 1)).length
theorem prAll_succ (l : List (List CC)) (n : Nat) : prAll l (n + 1) = prAll l n ++ prRow n (bs l n) (bs l (n - 1)) (rw' l (n - 1)) (rw' l n) (rw' l n).length := by simp [prAll, List.range_succ]
theorem ndAll_succ (l : List (List CC)) (n : Nat) : ndAll l (n + 1) = ndAll l n ++ ndRow n (rw' l n) (rw' l n).length := by simp [ndAll, List.range_succ]
theorem lsAll_succ (l : List (List CC)) (n : Nat) : lsAll l (n + 1) = lsAll l n ++ [((bs l (n + 1) - 1 : Nat) : Int)] := by simp [lsAll, List.range_succ]
theorem prRow_succ (i b bq : Nat) (q r : List CC) (k : Nat) : prRow i b bq q r (k + 1) = prRow i b bq q r k ++ [prK i b bq q r k] := by simp [prRow, List.range_succ]
theorem ndRow_succ (i : Nat) (r : List CC) (k : Nat) : ndRow i r (k + 1) = ndRow i r k ++ [(1, (i : Int), st r k)] := by simp [ndRow, List.range_succ]
theorem stRow_succ (r : List CC) (b k : Nat) : stRow r b (k + 1) = stRow r b k ++ [(st r k, ((b + k : Nat) : Int))] := by simp [stRow, List.range_succ]
theorem prRow_len (i b bq : Nat) (q r : List CC) (k : Nat) : (prRow i b bq q r k).length = k := by simp [prRow]
theorem prAll_len (l : List (List CC)) (n : Nat) : (prAll l n).length + 1 = bs l n := by
  induction n with
  | zero => simp [prAll, bs]
  | succ n ih => rw [prAll_succ, List.length_append, prRow_len, bs]; omega

def mkC (c : CC) : Mk := ⟨if c.wt = true then 11 else 12, c.st, 0⟩
def mkRow (i : Nat) (r : List CC) : List Mk := ⟨9, i, 0⟩ :: ((r.drop 1).map mkC ++ [⟨10, i, 0⟩])
def mkAll (l : List (List CC)) (n : Nat) : List Mk := (List.range n).flatMap fun i => mkRow i (rw' l i)
theorem mkAll_succ (l : List (List CC)) (n : Nat) : mkAll l (n + 1) = mkAll l n ++ mkRow n (rw' l n) := by simp [mkAll, List.range_succ]
/-- The loop's frame, n iterations having ended. -/
def lpF (l : List (List CC)) (n : Nat) : Fr := ⟨3, false, 0, [], 0, 0, 0, [], 1, n, ahAll l n, lsAll l n⟩
def bdN (l : List (List CC)) (n : Nat) : Bd := ⟨[] :: prAll l n, (0, 0, 0) :: ndAll l n, [], [lpF l n, rootFr], false⟩
/-- In the iteration n, k cells having begun. -/
def itF (l : List (List CC)) (n k : Nat) : Fr := ⟨2, false, ((bs l n + (k - 1) : Nat) : Int), [], 1, n, st (rw' l n) (k - 1), stRow (rw' l n) (bs l n) (k - 1), 0, 0, [], []⟩
def bdK (l : List (List CC)) (n k : Nat) : Bd :=
  ⟨[] :: (prAll l n ++ prRow n (bs l n) (bs l (n - 1)) (rw' l (n - 1)) (rw' l n) k), (0, 0, 0) :: (ndAll l n ++ ndRow n (rw' l n) k), [], [itF l n k, { lpF l n with cnt := n + 1 }, rootFr], false⟩
theorem run_cells {l : List (List CC)} {n : Nat} (hr : RowOk (rw' l n)) (hb : bs l n + (rw' l n).length ≤ 900) (rest : List Mk) : ∀ (d k : Nat), k + d = (rw' l n).length → 1 ≤ k → runB (bdK l n k) (((rw' l n).drop k).map mkC ++ rest) = runB (bdK l n (rw' l n).length) rest := by
  intro d
  induction d with
  | zero =>
    intro k hk _
    rw [show k = (rw' l n).length by omega, List.drop_length]
    rfl
  | succ d ih =>
    intro k hk h1
    obtain ⟨c, hc⟩ := at_lt (l := rw' l n) (k := k) (by omega)
    have hpl := prAll_len l n
    have hgc : (rw' l n).getD k nc = c := by rw [List.getD_eq_getElem?_getD, hc]; rfl
    obtain ⟨c', hc'⟩ := at_lt (l := rw' l n) (k := k - 1) (by omega)
    have hgc' : (rw' l n).getD (k - 1) nc = c' := by rw [List.getD_eq_getElem?_getD, hc']; rfl
    have hinc := hr.inc (k - 1) k c' c (by omega) hc' hc
    rw [drop_at hc, List.map_cons, List.cons_append]
    have hmk : (mkC c).k = 11 ∨ (mkC c).k = 12 := by unfold mkC; simp only; split <;> simp
    have hma : (mkC c).a = c.st := rfl
    have hk0 : ¬ k = 0 := by omega
    have hpk : prK n (bs l n) (bs l (n - 1)) (rw' l (n - 1)) (rw' l n) k = goPreds (itF l n k) { lpF l n with cnt := n + 1 } (mkC c) := by
      unfold prK goPreds
      rw [if_neg hk0, hgc]
      have e1 : st (rw' l n) k = c.st := by unfold st; rw [hgc]
      by_cases hw : c.wt = true
      · by_cases hn : 0 < n
        · have hn' : (0 : Int) < (n : Int) := by omega
          have hn0 : ¬ n = 0 := by omega
          simp [hw, hn, mkC, itF, lpF, ahAll, hn0, e1]
        · have hn' : n = 0 := by omega
          subst hn'
          simp [hw, mkC, itF]
      · simp [hw, mkC, itF]
    refine (run_step (B' := bdK l n (k + 1)) rfl (by omega) ?_ ?_ rfl).trans (ih (k + 1) (by omega) (by omega))
    · unfold fitsB
      have e1 : (itF l n k).sg = c'.st := by unfold itF st; simp only; rw [hgc']
      rw [if_neg (by omega), if_neg (by omega), if_neg (by omega), if_neg (by omega), if_pos hmk, e1, hma]
      simp [itF, hinc]
    · unfold stepF
      rw [if_neg (by omega), if_neg (by omega), if_neg (by omega), if_neg (by omega), if_neg (by omega), if_pos hmk]
      simp only [onUp]
      unfold goOnB
      have hlen : (bdK l n k).preds.length = bs l n + k := by
        simp only [bdK, List.length_cons, List.length_append, prRow_len]; omega
      rw [begin_eq (by simp only; rw [hlen]; omega)]
      simp only [hlen]
      rw [← hpk, hma]
      have e1 : k + 1 - 1 = k := rfl
      have e2 : k - 1 + 1 = k := by omega
      have e3 : st (rw' l n) k = c.st := by unfold st; rw [hgc]
      have e4 : stRow (rw' l n) (bs l n) k = stRow (rw' l n) (bs l n) (k - 1) ++ [(st (rw' l n) (k - 1), ((bs l n + (k - 1) : Nat) : Int))] := by
        have := stRow_succ (rw' l n) (bs l n) (k - 1)
        rwa [e2] at this
      simp only [bdK, itF, goFr, e1, prRow_succ, ndRow_succ, e3, e4, hma, List.cons_append, List.append_assoc]
theorem run_row {l : List (List CC)} {n : Nat} (hr : RowOk (rw' l n)) (hb : bs l n + (rw' l n).length ≤ 900) (hp : 0 < n → 0 < (rw' l (n - 1)).length) (rest : List Mk) : runB (bdN l n) (mkRow n (rw' l n) ++ rest) = runB (bdN l (n + 1)) rest := by
  have hpl := prAll_len l n
  have hpos := hr.pos
  obtain ⟨c0, hc0⟩ := at_lt (l := rw' l n) (k := 0) (by omega)
  have hg0 : (rw' l n).getD 0 nc = c0 := by rw [List.getD_eq_getElem?_getD, hc0]; rfl
  have hs0 : st (rw' l n) 0 = 0 := by unfold st; rw [hg0]; exact (hr.first c0 hc0).1
  unfold mkRow
  rw [List.cons_append, List.append_assoc]
  refine (run_step (B' := bdK l n 1) rfl (by simp) ?_ ?_ rfl).trans ((run_cells hr hb _ ((rw' l n).length - 1) 1 (by omega) (by omega)).trans ?_)
  · unfold fitsB
    simp [lpF]
  · unfold stepF
    simp only [if_true, show ¬ ((9 : Int) = 4) by omega, show ¬ ((9 : Int) = 5) by omega, show ¬ ((9 : Int) = 6) by omega, show ¬ ((9 : Int) = 7) by omega, if_false]
    unfold iterB
    have hlen : (bdN l n).preds.length = bs l n := by simp only [bdN, List.length_cons]; omega
    rw [begin_eq (by simp only; rw [hlen]; omega)]
    simp only [hlen]
    have e5 : prRow n (bs l n) (bs l (n - 1)) (rw' l (n - 1)) (rw' l n) 1 = [[if 0 < (lpF l n).cnt then ((lpF l n).ahead.headD (0, 0)).2 else (lpF l n).now]] := by
      show [prK n (bs l n) (bs l (n - 1)) (rw' l (n - 1)) (rw' l n) 0] = _
      unfold prK
      simp only [if_true]
      by_cases hn : n = 0
      · subst hn; simp [lpF]
      · have hn' : 0 < n := by omega
        have := hp hn'
        have e6 : (stRow (rw' l (n - 1)) (bs l (n - 1)) (rw' l (n - 1)).length).headD (0, 0) = (st (rw' l (n - 1)) 0, ((bs l (n - 1) + 0 : Nat) : Int)) := by
          obtain ⟨m, hm⟩ : ∃ m, (rw' l (n - 1)).length = m + 1 := ⟨_, (Nat.sub_add_cancel this).symm⟩
          rw [hm]
          simp [stRow, List.range_succ_eq_map]
        simp only [lpF, hn', if_true, ahAll, hn, if_false, e6, Nat.add_zero]
    have e7 : ndRow n (rw' l n) 1 = [(1, (n : Int), 0)] := by
      show [(1, (n : Int), st (rw' l n) 0)] = _
      rw [hs0]
    simp only [bdK, e5, e7, itF, hs0, iterFr, bdN, Nat.sub_self, Nat.add_zero, lpF, List.cons_append]
    rfl
  · refine run_step (B' := bdN l (n + 1)) rfl (by simp) ?_ ?_ rfl
    · unfold fitsB
      simp [itF]
    · unfold stepF
      simp only [if_true, show ¬ ((10 : Int) = 4) by omega, show ¬ ((10 : Int) = 5) by omega, show ¬ ((10 : Int) = 6) by omega, show ¬ ((10 : Int) = 7) by omega, show ¬ ((10 : Int) = 9) by omega, show ¬ ((10 : Int) = 11 ∨ (10 : Int) = 12) by omega, if_false]
      simp only [onUp]
      unfold doneB
      have e2 : (rw' l n).length - 1 + 1 = (rw' l n).length := by omega
      have e4 := stRow_succ (rw' l n) (bs l n) ((rw' l n).length - 1)
      rw [e2] at e4
      have e5 : bs l n + ((rw' l n).length - 1) = bs l (n + 1) - 1 := by rw [bs]; omega
      simp only [bdN, bdK, lpF, itF, prAll_succ, ndAll_succ, lsAll_succ, ahAll, Nat.add_sub_cancel, e4, e5]
      simp
theorem run_rows {l : List (List CC)} (hl : ∀ n, n < l.length → RowOk (rw' l n)) : ∀ n, n ≤ l.length → bs l n ≤ 900 → ∀ rest, runB (bdN l 0) (mkAll l n ++ rest) = runB (bdN l n) rest := by
  intro n
  induction n with
  | zero => intro _ _ rest; rfl
  | succ n ih =>
    intro hn hb rest
    have hb' : bs l n + (rw' l n).length ≤ 900 := hb
    rw [mkAll_succ, List.append_assoc, ih (by omega) (by omega)]
    exact run_row (hl n (by omega)) hb' (fun h => (hl (n - 1) (by omega)).pos) rest
/-- What the builder makes of the pipeline. -/
def dagG (l : List (List CC)) : Bd := ⟨[] :: (prAll l l.length ++ [lsAll l l.length]), (0, 0, 0) :: (ndAll l l.length ++ [(0, 0, 0)]), [], [{ rootFr with now := (bs l l.length : Int) }], false⟩
def mksG (l : List (List CC)) : List Mk := ⟨7, 1, 0⟩ :: (mkAll l l.length ++ [⟨8, 1, 0⟩])
theorem run_all {l : List (List CC)} (hl : ∀ n, n < l.length → RowOk (rw' l n)) (h0 : 0 < l.length) (hb : bs l l.length ≤ 900) : buildR (mksG l) = (0, dagG l) := by
  have hpl := prAll_len l l.length
  have key : runB bd0 (mksG l) = (0, dagG l) := by
    unfold mksG
    refine (run_step (B' := bdN l 0) (B := bd0) rfl (by simp) (by simp [fitsB]) ?_ rfl).trans ((run_rows hl l.length (Nat.le_refl _) hb _).trans ?_)
    · rfl
    · refine (run_step (B' := dagG l) rfl (by simp) ?_ ?_ rfl).trans rfl
      · unfold fitsB
        simp [lpF, h0]
      · unfold stepF
        simp only [if_true, show ¬ ((8 : Int) = 4) by omega, show ¬ ((8 : Int) = 5) by omega, show ¬ ((8 : Int) = 6) by omega, show ¬ ((8 : Int) = 7) by omega, show ¬ ((8 : Int) = 9) by omega, show ¬ ((8 : Int) = 11 ∨ (8 : Int) = 12) by omega, show ¬ ((8 : Int) = 10) by omega, if_false]
        simp only [onUp]
        unfold leaveB
        have hlen : (bdN l l.length).preds.length = bs l l.length := by simp only [bdN, List.length_cons]; omega
        rw [begin_eq (by simp only; rw [hlen]; omega)]
        simp only [hlen]
        rfl
  unfold buildR
  rw [key]
  rfl
end Go.Proofs.Ythgmfjkbgacfaaa.Gs
