/- Instructions and programs in writing, and read (Asa .. Ask). -/
import Derived.Test.YtjdpejggafefjaaDoorApz
import Derived.Test.YtjdpejggafefjaaDoorCAs
/- Plain: instructions and programs in writing; what is read of a text. -/
namespace Go.Proofs.YtjdpejggafefjaaDoor
set_option linter.unusedVariables false
set_option linter.unusedSimpArgs false
open Go Go.Kx Go.Proofs

theorem insE_op {x : Ix} (h : insE x = 0) : 0 ≤ x.op ∧ x.op < 26 := by
  unfold insE at h
  by_cases c : x.op < 0 ∨ 26 ≤ x.op
  · rw [if_pos c] at h; cases h
  · omega
theorem insE_fit {x : Ix} (h : insE x = 0) : (((letX x).zip (opsX x)).all fun p => fitB p.1 p.2) = true ∧ ((opsX x).drop (letX x).length).all (fun n => decide (n = 0)) = true := by
  have hop := insE_op h
  unfold insE at h
  rw [if_neg (by omega)] at h
  split at h
  · rename_i h1
    split at h
    · rename_i h2; exact ⟨h1, h2⟩
    · cases h
  · cases h
def namesL : List (List UInt8) := [[114, 101, 116], [115, 101, 116], [109, 111, 118, 101], [97, 100, 100], [115, 117, 98], [109, 117, 108], [100, 105, 118], [109, 111, 100], [108, 101, 115, 115], [115, 97, 109, 101], [97, 110, 100], [111, 114], [120, 111, 114], [108, 111, 97, 100], [115, 116, 111, 114, 101], [102, 101, 116, 99, 104], [115, 119, 97, 112], [101, 109, 105, 116], [106, 117, 109, 112], [122, 101, 114, 111], [115, 112, 97, 119, 110], [115, 121, 110, 99], [112, 105, 112, 101], [119, 97, 105, 116], [99, 111, 110, 116], [98, 114, 101, 97, 107]]
def nameF (op : Int) : List UInt8 := if op < 0 ∨ 26 ≤ op then [] else namesL.getD op.toNat []
def opOf (w : List UInt8) : Option Nat := namesL.findIdx? (· == w)
theorem names_ok : ∀ w ∈ namesL, w ≠ [] ∧ w.length ≤ 5 ∧ ∀ b ∈ w, b ≠ 32 ∧ b ≠ 10 := by decide
theorem names_at {k : Nat} (h : k < 26) : namesL[k]? = some (nameF k) := by
  unfold nameF
  rw [if_neg (by omega), Int.toNat_natCast, List.getD_eq_getElem?_getD]
  obtain ⟨w, hw⟩ := at_lt (l := namesL) (k := k) h
  rw [hw]; rfl
theorem opOf_some {w : List UInt8} {k : Nat} (h : opOf w = some k) : k < 26 ∧ nameF k = w := by
  unfold opOf at h
  rw [List.findIdx?_eq_some_iff_getElem] at h
  obtain ⟨h1, h2, _⟩ := h
  have h1 : k < 26 := h1
  have := names_at h1
  rw [List.getElem?_eq_getElem (by assumption)] at this
  rw [← Option.some.inj this]
  exact ⟨h1, eq_of_beq h2⟩
theorem opOf_none {w : List UInt8} (h : opOf w = none) {k : Nat} (hk : k < 26) : nameF k ≠ w := by
  unfold opOf at h
  rw [List.findIdx?_eq_none_iff] at h
  intro e
  have := h (nameF k) (List.mem_of_getElem? (names_at hk))
  simp [e] at this
theorem opOf_name : ∀ k : Nat, k < 26 → opOf (nameF k) = some k := by decide +kernel
theorem nameF_inj {j k : Nat} (hj : j < 26) (hk : k < 26) (h : nameF j = nameF k) : j = k := by
  have h1 := opOf_name j hj
  rw [h, opOf_name k hk] at h1
  exact (Option.some.inj h1).symm
theorem nameF_ok {op : Int} (h0 : 0 ≤ op) (h1 : op < 26) : nameF op ≠ [] ∧ (nameF op).length ≤ 5 ∧ ∀ b ∈ nameF op, b ≠ 32 ∧ b ≠ 10 := by
  have := names_at (k := op.toNat) (by omega)
  rw [show ((op.toNat : Nat) : Int) = op by omega] at this
  exact names_ok _ (List.mem_of_getElem? this)

def flen (op : Int) : Nat := (fmS op).size
theorem flen_let (x : Ix) : flen x.op = (letX x).length := letX_size x
def ix0 : Ix := ⟨0, 0, 0, 0⟩
def mkIx (op : Nat) (n : List Int) : Ix := ⟨op, n.getD 0 0, n.getD 1 0, n.getD 2 0⟩
def parseO (op : Nat) (ws : List (List UInt8)) : Ix × Int :=
  if ws.length < flen op then (ix0, 1) else if flen op < ws.length then (ix0, 2)
  else if (numsGo ws []).2 = true then (if insE (mkIx op (numsGo ws []).1) = 0 then (mkIx op (numsGo ws []).1, 0) else (ix0, insE (mkIx op (numsGo ws []).1))) else (ix0, 4)
def parseW : List (List UInt8) → Ix × Int
  | [] => (ix0, 7)
  | w :: ws => match opOf w with
    | none => (ix0, 70)
    | some op => parseO op ws
abbrev wrds (l : List UInt8) : List (List UInt8) := partsB 32 false [] l
def parseF (l : List UInt8) : Ix × Int := if 400 < l.length then (ix0, 9) else parseW (wrds l)
def wordsX (x : Ix) : List (List UInt8) := nameF x.op :: ((opsX x).take (flen x.op)).map Lib.itoa
def lineF (x : Ix) : List UInt8 := if insE x = 0 then joinR [32] (wordsX x) true else []

theorem joinR_sum (sep : UInt8) : ∀ xs : List (List UInt8), (joinR [sep] xs false).length = (xs.map fun x => 1 + x.length).sum := by
  intro xs
  induction xs with
  | nil => rfl
  | cons x xs ih => simp [joinR, ih]; omega
/-- How long an operand is in writing, at most. -/
def costB (b : UInt8) : Nat := if b = 114 then 1 else if b = 102 then 2 else if b = 116 then 3 else 6
theorem fit_len {b : UInt8} {n : Int} (h : fitB b n = true) : (Lib.itoa n).length ≤ costB b ∧ I64 n := by
  unfold fitB at h
  have h := of_decide_eq_true h
  have hp : ∀ k : Nat, 0 ≤ n → n.toNat < 10 ^ (k + 1) → (Lib.itoa n).length ≤ k + 1 := by
    intro k h0 h1
    unfold Lib.itoa
    rw [if_neg (by omega)]
    exact dec_len k _ h1
  unfold endsB at h
  unfold costB I64
  split at h
  · rename_i hb; rw [if_pos hb]; exact ⟨hp 0 h.1 (by simp only at h; omega), by simp only at h; omega⟩
  · rename_i hb
    rw [if_neg hb]
    split at h
    · rename_i hb; rw [if_pos hb]; exact ⟨hp 1 h.1 (by simp only at h; omega), by simp only at h; omega⟩
    · rename_i hb
      rw [if_neg hb]
      split at h
      · rename_i hb; rw [if_pos hb]; exact ⟨hp 2 h.1 (by simp only at h; omega), by simp only at h; omega⟩
      · rename_i hb
        rw [if_neg hb]
        refine ⟨?_, by simp only at h; omega⟩
        simp only at h
        unfold Lib.itoa
        split
        · have := dec_len 4 n.natAbs (by omega)
          simp; omega
        · have := dec_len 4 n.toNat (by omega)
          omega
theorem sum_cost : ∀ (ls : List UInt8) (ns : List Int), ((ls.zip ns).all fun p => fitB p.1 p.2) = true → (((ns.take ls.length).map Lib.itoa).map fun x => 1 + x.length).sum ≤ (ls.map fun b => 1 + costB b).sum := by
  intro ls
  induction ls with
  | nil => intro ns _; simp
  | cons b ls ih =>
    intro ns h
    cases ns with
    | nil => simp
    | cons n ns =>
      simp only [List.zip_cons_cons, List.all_cons, Bool.and_eq_true] at h
      have h1 := (fit_len h.1).1
      have h2 := ih ns h.2
      simp only [List.length_cons, List.take_succ_cons, List.map_cons, List.sum_cons]
      omega
theorem cost_fm (op : Int) : ((fmS op).data.toList.map fun b => 1 + costB b).sum ≤ 9 := by
  unfold fmS
  repeat' split
  all_goals decide
theorem ops_fit {x : Ix} (h : insE x = 0) : ∀ n ∈ opsX x, -32768 ≤ n ∧ n ≤ 32767 := by
  obtain ⟨h1, h2⟩ := insE_fit h
  have key : ∀ (ls : List UInt8) (ns : List Int), ((ls.zip ns).all fun p => fitB p.1 p.2) = true → (ns.drop ls.length).all (fun n => decide (n = 0)) = true → ∀ n ∈ ns, -32768 ≤ n ∧ n ≤ 32767 := by
    intro ls
    induction ls with
    | nil =>
      intro ns _ h n hn
      have := of_decide_eq_true (List.all_eq_true.1 h n (by simpa using hn))
      omega
    | cons b ls ih =>
      intro ns ha hd n hn
      cases ns with
      | nil => cases hn
      | cons m ns =>
        simp only [List.zip_cons_cons, List.all_cons, Bool.and_eq_true] at ha
        rcases List.mem_cons.1 hn with rfl | hn
        · have := ha.1
          unfold fitB at this
          have := of_decide_eq_true this
          unfold endsB at this
          repeat' split at this
          all_goals (simp only at this; omega)
        · exact ih ns ha.2 (by simpa using hd) n hn
  exact key _ _ h1 h2
theorem itoa_plain (n : Int) : Lib.itoa n ≠ [] ∧ (∀ b ∈ Lib.itoa n, b ≠ 32) ∧ ∀ b ∈ Lib.itoa n, b ≠ 10 := ⟨itoa_ne n, itoa_no (by decide) (by decide), itoa_no (by decide) (by decide)⟩
theorem wordsX_ok {x : Ix} (h : insE x = 0) : ∀ w ∈ wordsX x, w ≠ [] ∧ (∀ b ∈ w, b ≠ 32) ∧ ∀ b ∈ w, b ≠ 10 := by
  obtain ⟨h0, h1⟩ := insE_op h
  intro w hw
  rcases List.mem_cons.1 hw with rfl | hw
  · obtain ⟨a, _, b⟩ := nameF_ok h0 h1
    exact ⟨a, fun c hc => (b c hc).1, fun c hc => (b c hc).2⟩
  · obtain ⟨n, _, rfl⟩ := List.mem_map.1 hw
    exact itoa_plain n
theorem joinR_no {c sep : UInt8} (hs : sep ≠ c) : ∀ (xs : List (List UInt8)) (f : Bool), (∀ x ∈ xs, ∀ b ∈ x, b ≠ c) → ∀ b ∈ joinR [sep] xs f, b ≠ c := by
  intro xs
  induction xs with
  | nil => intro f _ b hb; cases hb
  | cons x xs ih =>
    intro f h b hb
    rw [joinR] at hb
    rcases List.mem_append.1 hb with hb | hb
    · rcases List.mem_append.1 hb with hb | hb
      · cases f
        · simp at hb; rw [hb]; exact hs
        · cases hb
      · exact h x (by simp) b hb
    · exact ih false (fun y hy => h y (by simp [hy])) b hb
theorem lineF_ok {x : Ix} (h : insE x = 0) : wrds (lineF x) = wordsX x ∧ (lineF x).length ≤ 14 ∧ ∀ b ∈ lineF x, b ≠ 10 := by
  unfold lineF
  rw [if_pos h]
  refine ⟨fields_back _ fun w hw => ⟨(wordsX_ok h w hw).1, (wordsX_ok h w hw).2.1⟩, ?_, joinR_no (by decide) _ _ fun w hw => (wordsX_ok h w hw).2.2⟩
  obtain ⟨h0, h1⟩ := insE_op h
  have hn := (nameF_ok h0 h1).2.1
  have hs := sum_cost _ _ (insE_fit h).1
  have hc := cost_fm x.op
  rw [← flen_let] at hs
  unfold wordsX
  rw [joinR]
  simp only [if_true, List.nil_append, List.length_append, joinR_sum]
  have : ((letX x).map fun b => 1 + costB b).sum ≤ 9 := hc
  omega
theorem mkIx_ops {x : Ix} (h : insE x = 0) : mkIx x.op.toNat ((opsX x).take (flen x.op)) = x := by
  obtain ⟨h0, h1⟩ := insE_op h
  have hz := (insE_fit h).2
  have hl := letX_len x
  rw [flen_let]
  have e : ((x.op.toNat : Nat) : Int) = x.op := by omega
  obtain ⟨op, a, b, c⟩ := x
  unfold mkIx
  rw [e]
  generalize (letX ⟨op, a, b, c⟩).length = k at hz hl
  simp only [opsX] at hz ⊢
  have : k = 0 ∨ k = 1 ∨ k = 2 ∨ k = 3 := by omega
  rcases this with rfl | rfl | rfl | rfl <;> simp at hz ⊢ <;> simp [hz]
theorem parse_words {x : Ix} (h : insE x = 0) : parseW (wordsX x) = (x, 0) := by
  obtain ⟨h0, h1⟩ := insE_op h
  have hop := opOf_name x.op.toNat (by omega)
  have e : ((x.op.toNat : Nat) : Int) = x.op := by omega
  rw [e] at hop
  rw [wordsX, parseW, hop]
  have hlen : (((opsX x).take (flen x.op)).map Lib.itoa).length = flen x.op := by
    rw [List.length_map, List.length_take]
    have := letX_len x
    rw [← flen_let] at this
    simp only [opsX, List.length_cons, List.length_nil]
    omega
  have hgo := numsGo_itoa ((opsX x).take (flen x.op)) [] fun n hn => by
    have := ops_fit h n (List.mem_of_mem_take hn)
    unfold I64; omega
  simp only [parseO]
  rw [e, if_neg (by omega), if_neg (by omega), hgo, if_pos rfl]
  simp only [List.nil_append]
  rw [mkIx_ops h, if_pos h]
theorem parse_line {x : Ix} (h : insE x = 0) : parseF (lineF x) = (x, 0) := by
  obtain ⟨h1, h2, _⟩ := lineF_ok h
  unfold parseF
  rw [if_neg (by omega), h1, parse_words h]

/-! Programs. -/
def memB : List UInt8 := [109, 101, 109, 111, 114, 121]
def funB : List UInt8 := [102, 117, 110, 99, 116, 105, 111, 110]
def memL (m : Int) : List UInt8 := joinR [32] [memB, Lib.itoa m] true
def linesF (fs : List (List Ix)) : List (List UInt8) := fs.flatMap fun l => funB :: l.map lineF
def linesP (m : Int) (fs : List (List Ix)) : List (List UInt8) := memL m :: linesF fs
def textF (m : Int) (fs : List (List Ix)) : List UInt8 × Int := if prgE m fs = 0 then (linesT (linesP m fs), 0) else ([], prgE m fs)
def addF (l : List UInt8) (fs : List (List Ix)) : List (List Ix) × Int :=
  if wrds l = [funB] then (fs ++ [[]], 0) else if (parseF l).2 = 0 then (if fs = [] then (fs, 8) else (fs.dropLast ++ [fs.getLastD [] ++ [(parseF l).1]], 0)) else (fs, (parseF l).2)
def addsF : List (List UInt8) → List (List Ix) → List (List Ix) × Int
  | [], fs => (fs, 0)
  | l :: ls, fs => if (addF l fs).2 = 0 then addsF ls (addF l fs).1 else ([], (addF l fs).2)
def sizeF : List (List UInt8) → Int × Int
  | [a, b] => if a = memB then (if (numF b).2 = true then ((numF b).1, 0) else (0, 4)) else (0, 4)
  | _ => (0, 4)
def fullL (ls : List (List UInt8)) : List (List UInt8) := ls.filter fun l => !decide (wrds l = [])
def readL : List (List UInt8) → (Int × List (List Ix)) × Int
  | [] => ((0, []), 4)
  | l :: ls => if (sizeF (wrds l)).2 = 0 then
      (if (addsF ls []).2 = 0 then (if prgE (sizeF (wrds l)).1 (addsF ls []).1 = 0 then (((sizeF (wrds l)).1, (addsF ls []).1), 0) else ((0, []), prgE (sizeF (wrds l)).1 (addsF ls []).1)) else ((0, []), (addsF ls []).2))
    else ((0, []), (sizeF (wrds l)).2)
def readF (t : List UInt8) : (Int × List (List Ix)) × Int := if 60000 < t.length then ((0, []), 9) else readL (fullL (partsB 10 true [] t))

theorem addF_line {x : Ix} (h : insE x = 0) (fs : List (List Ix)) (l : List Ix) : addF (lineF x) (fs ++ [l]) = (fs ++ [l ++ [x]], 0) := by
  unfold addF
  have hw := (lineF_ok h).1
  rw [if_neg, parse_line h, if_pos rfl, if_neg (by simp)]
  · simp
  · rw [hw]
    unfold wordsX
    intro e
    have e1 := (List.cons.inj e).1
    obtain ⟨h0, h1⟩ := insE_op h
    have := (nameF_ok h0 h1).2.1
    rw [e1] at this
    exact absurd this (by decide)
theorem addF_fun (fs : List (List Ix)) : addF funB fs = (fs ++ [[]], 0) := by
  unfold addF
  rw [if_pos]
  show partsB 32 false [] funB = [funB]
  decide
theorem adds_lines {fs : List (List Ix)} (ls : List (List UInt8)) : ∀ (l k : List Ix), (∀ x ∈ l, insE x = 0) → addsF (l.map lineF ++ ls) (fs ++ [k]) = addsF ls (fs ++ [k ++ l]) := by
  intro l
  induction l with
  | nil => intro k _; simp
  | cons x l ih =>
    intro k h
    rw [List.map_cons, List.cons_append, addsF, addF_line (h x (by simp)), if_pos rfl]
    simp only
    rw [ih (k ++ [x]) fun y hy => h y (by simp [hy])]
    simp
theorem adds_back : ∀ (gs fs : List (List Ix)), (∀ l ∈ gs, ∀ x ∈ l, insE x = 0) → addsF (linesF gs) fs = (fs ++ gs, 0) := by
  intro gs
  induction gs with
  | nil => intro fs _; simp [linesF, addsF]
  | cons l gs ih =>
    intro fs h
    have e : linesF (l :: gs) = funB :: (l.map lineF ++ linesF gs) := by simp [linesF]
    rw [e, addsF, addF_fun, if_pos rfl]
    simp only
    rw [adds_lines _ l [] (h l (by simp)), ih _ fun k hk => h k (by simp [hk])]
    simp
theorem prg_ins {m : Int} {fs : List (List Ix)} (h : prgE m fs = 0) : (0 ≤ m ∧ m ≤ 256) ∧ fs.length ≤ 16 ∧ ∀ l ∈ fs, l.length ≤ 200 ∧ ∀ x ∈ l, insE x = 0 := by
  unfold prgE at h
  by_cases h0 : m < 0 ∨ 256 < m
  · rw [if_pos h0] at h; cases h
  rw [if_neg h0] at h
  by_cases h1 : manyE fs.length 16 = 0
  · rw [if_neg (by simp [h1])] at h
    refine ⟨by omega, by unfold manyE at h1; split at h1 <;> (first | (cases h1; done) | (split at h1 <;> omega)), ?_⟩
    generalize (fs.length : Int) = n at h
    clear h1
    induction fs with
    | nil => intro l hl; cases hl
    | cons k fs ih =>
      simp only [fnsE] at h
      by_cases hk : fnE k n = 0
      · rw [if_neg (by simp [hk])] at h
        intro l hl
        rcases List.mem_cons.1 hl with rfl | hl
        · unfold fnE at hk
          by_cases h2 : manyE l.length 200 = 0
          · rw [if_neg (by simp [h2])] at hk
            refine ⟨by unfold manyE at h2; split at h2 <;> (first | (cases h2; done) | (split at h2 <;> omega)), ?_⟩
            by_cases h3 : scanE l.length n l = 0
            · generalize (l.length : Int) = c at h3
              clear hk h2 ih hl
              induction l with
              | nil => intro x hx; cases hx
              | cons y l ih =>
                simp only [scanE] at h3
                by_cases h4 : insE y = 0
                · rw [if_neg (by simp [h4])] at h3
                  split at h3
                  · cases h3
                  · intro x hx
                    rcases List.mem_cons.1 hx with rfl | hx
                    · exact h4
                    · exact ih h3 x hx
                · rw [if_pos h4] at h3; exact absurd h3 h4
            · rw [if_pos h3] at hk; exact absurd hk h3
          · rw [if_pos h2] at hk; exact absurd hk h2
        · exact ih h l hl
      · rw [if_pos hk] at h; exact absurd h hk
  · rw [if_pos h1] at h; exact absurd h h1
theorem memL_ok {m : Int} (h : I64 m) : wrds (memL m) = [memB, Lib.itoa m] ∧ (memL m).length ≤ 40 ∧ ∀ b ∈ memL m, b ≠ 10 := by
  have hw : ∀ w ∈ [memB, Lib.itoa m], w ≠ [] ∧ (∀ b ∈ w, b ≠ 32) ∧ ∀ b ∈ w, b ≠ 10 := by
    intro w hw
    simp only [List.mem_cons, List.mem_nil_iff, or_false] at hw
    rcases hw with rfl | rfl
    · decide
    · exact itoa_plain m
  refine ⟨fields_back _ fun w hm => ⟨(hw w hm).1, (hw w hm).2.1⟩, ?_, joinR_no (by decide) _ _ fun w hm => (hw w hm).2.2⟩
  have := Lib.itoa_length_le m h.1 h.2
  simp [memL, joinR, memB]
  omega
theorem size_back {m : Int} (h : I64 m) : sizeF [memB, Lib.itoa m] = (m, 0) := by
  simp only [sizeF, if_true, numF_itoa m h.1 h.2]
/-- The lines of a right program. -/
theorem linesP_ok {m : Int} {fs : List (List Ix)} (h : prgE m fs = 0) : ∀ l ∈ linesP m fs, wrds l ≠ [] ∧ l.length ≤ 40 ∧ 3 ≤ l.length ∧ ∀ b ∈ l, b ≠ 10 := by
  obtain ⟨hm, hf, hl⟩ := prg_ins h
  intro l hmem
  rcases List.mem_cons.1 hmem with rfl | hmem
  · obtain ⟨a, b, c⟩ := memL_ok (m := m) (by unfold I64; omega)
    exact ⟨by rw [a]; simp, b, by simp [memL, joinR, memB], c⟩
  · obtain ⟨k, hk, hmem⟩ := List.mem_flatMap.1 hmem
    rcases List.mem_cons.1 hmem with rfl | hmem
    · decide
    · obtain ⟨x, hx, rfl⟩ := List.mem_map.1 hmem
      have hi := (hl k hk).2 x hx
      obtain ⟨a, b, c⟩ := lineF_ok hi
      refine ⟨by rw [a]; simp [wordsX], by omega, ?_, c⟩
      unfold lineF
      rw [if_pos hi]
      unfold wordsX
      obtain ⟨h0, h1⟩ := insE_op hi
      have h3 : ∀ k : Nat, k < 26 → 2 ≤ (nameF k).length ∧ ((nameF k).length = 2 → k = 11) := by decide +kernel
      have h4 := h3 x.op.toNat (by omega)
      rw [show ((x.op.toNat : Nat) : Int) = x.op by omega] at h4
      rw [joinR]
      simp only [if_true, List.nil_append, List.length_append, joinR_sum]
      by_cases h5 : (nameF x.op).length = 2
      · have h11 : x.op = 11 := by have := h4.2 h5; omega
        have : flen x.op = 3 := by rw [h11]; decide
        rw [this]
        simp [opsX]
        omega
      · omega
theorem linesT_len2 : ∀ (ls : List (List UInt8)) (m : Nat), (∀ l ∈ ls, l.length ≤ m) → (linesT ls).length ≤ ls.length * (m + 1) := by
  intro ls m
  induction ls with
  | nil => intro _; simp [linesT]
  | cons w ls ih =>
    intro h
    have h1 := ih fun y hy => h y (by simp [hy])
    have h2 := h w (by simp)
    have e : linesT (w :: ls) = w ++ 10 :: linesT ls := by simp [linesT]
    rw [e, List.length_cons, Nat.succ_mul]
    simp only [List.length_append, List.length_cons]
    omega
theorem text_len {m : Int} {fs : List (List Ix)} (h : prgE m fs = 0) : (linesT (linesP m fs)).length ≤ 50000 := by
  obtain ⟨hm, hf, hl⟩ := prg_ins h
  have e : linesT (linesP m fs) = memL m ++ 10 :: linesT (linesF fs) := by simp [linesP, linesT]
  have h1 := (memL_ok (m := m) (by unfold I64; omega)).2.1
  have h2 : (linesT (linesF fs)).length ≤ fs.length * 3020 := by
    clear hf e h1 h
    induction fs with
    | nil => simp [linesF, linesT]
    | cons l fs ih =>
      have h1 := ih fun k hk => hl k (by simp [hk])
      obtain ⟨h2, h3⟩ := hl l (by simp)
      have e : linesT (linesF (l :: fs)) = funB ++ 10 :: (linesT (l.map lineF) ++ linesT (linesF fs)) := by simp [linesF, linesT]
      have h4 := linesT_len2 (l.map lineF) 14 (by
        intro y hy
        obtain ⟨x, hx, rfl⟩ := List.mem_map.1 hy
        exact (lineF_ok (h3 x hx)).2.1)
      rw [List.length_map] at h4
      have hfb : funB.length = 8 := rfl
      rw [e, List.length_cons, Nat.succ_mul]
      simp only [List.length_append, List.length_cons, hfb]
      omega
  rw [e]
  simp only [List.length_append, List.length_cons]
  omega
theorem fullL_all {ls : List (List UInt8)} (h : ∀ l ∈ ls, wrds l ≠ []) : fullL ls = ls := by
  unfold fullL
  rw [List.filter_eq_self]
  intro l hl
  simp [h l hl]
theorem readL_back {m : Int} {fs : List (List Ix)} (h : prgE m fs = 0) : readL (linesP m fs) = ((m, fs), 0) := by
  obtain ⟨hm, hf, hl⟩ := prg_ins h
  have hI : I64 m := by unfold I64; omega
  rw [linesP, readL, (memL_ok hI).1, size_back hI, adds_back fs [] fun l hk x hx => (hl l hk).2 x hx]
  simp [h]
theorem read_text {m : Int} {fs : List (List Ix)} (h : prgE m fs = 0) : readF (linesT (linesP m fs)) = ((m, fs), 0) := by
  have hok := linesP_ok h
  unfold readF
  rw [if_neg (by have := text_len h; omega), lines_back _ fun l hl => (hok l hl).2.2.2, fullL_all fun l hl => (hok l hl).1, readL_back h]
end Go.Proofs.YtjdpejggafefjaaDoor
/- Names of operations; an instruction in writing, by the program and by the document. -/
namespace Go.Proofs.YtjdpejggafefjaaDoor
set_option linter.unusedVariables false
set_option linter.unusedSimpArgs false
open Go Go.Kx Go.Proofs

theorem ex_str (s : ByteArray) : (AV.v (.string s)).exact = true := rfl
def namesA : List AV := namesL.map aB
theorem namesA_at {k : Nat} (h : k < 26) : namesA[k]? = some (aB (nameF k)) := by
  unfold namesA
  rw [List.getElem?_map, names_at h]
  rfl
theorem namesA_atI {op : Int} (h0 : 0 ≤ op) (h1 : op < 26) : namesA[op.toNat]? = some (aB (nameF op)) := by
  rw [namesA_at (by omega), show ((op.toNat : Nat) : Int) = op by omega]
theorem names_fill : fillA [.v (.string ⟨#[]⟩), .v (.string ⟨#[]⟩), .v (.string ⟨#[]⟩), .v (.string ⟨#[]⟩), .v (.string ⟨#[]⟩), .v (.string ⟨#[]⟩), .v (.string ⟨#[]⟩), .v (.string ⟨#[]⟩), .v (.string ⟨#[]⟩), .v (.string ⟨#[]⟩), .v (.string ⟨#[]⟩), .v (.string ⟨#[]⟩), .v (.string ⟨#[]⟩), .v (.string ⟨#[]⟩), .v (.string ⟨#[]⟩), .v (.string ⟨#[]⟩), .v (.string ⟨#[]⟩), .v (.string ⟨#[]⟩), .v (.string ⟨#[]⟩), .v (.string ⟨#[]⟩), .v (.string ⟨#[]⟩), .v (.string ⟨#[]⟩), .v (.string ⟨#[]⟩), .v (.string ⟨#[]⟩), .v (.string ⟨#[]⟩), .v (.string ⟨#[]⟩)] [(0, 1), (1, 1), (2, 1), (3, 1), (4, 1), (5, 1), (6, 1), (7, 1), (8, 1), (9, 1), (10, 1), (11, 1), (12, 1), (13, 1), (14, 1), (15, 1), (16, 1), (17, 1), (18, 1), (19, 1), (20, 1), (21, 1), (22, 1), (23, 1), (24, 1), (25, 1)] [.v (.string ⟨#[114, 101, 116]⟩), .v (.string ⟨#[115, 101, 116]⟩), .v (.string ⟨#[109, 111, 118, 101]⟩), .v (.string ⟨#[97, 100, 100]⟩), .v (.string ⟨#[115, 117, 98]⟩), .v (.string ⟨#[109, 117, 108]⟩), .v (.string ⟨#[100, 105, 118]⟩), .v (.string ⟨#[109, 111, 100]⟩), .v (.string ⟨#[108, 101, 115, 115]⟩), .v (.string ⟨#[115, 97, 109, 101]⟩), .v (.string ⟨#[97, 110, 100]⟩), .v (.string ⟨#[111, 114]⟩), .v (.string ⟨#[120, 111, 114]⟩), .v (.string ⟨#[108, 111, 97, 100]⟩), .v (.string ⟨#[115, 116, 111, 114, 101]⟩), .v (.string ⟨#[102, 101, 116, 99, 104]⟩), .v (.string ⟨#[115, 119, 97, 112]⟩), .v (.string ⟨#[101, 109, 105, 116]⟩), .v (.string ⟨#[106, 117, 109, 112]⟩), .v (.string ⟨#[122, 101, 114, 111]⟩), .v (.string ⟨#[115, 112, 97, 119, 110]⟩), .v (.string ⟨#[115, 121, 110, 99]⟩), .v (.string ⟨#[112, 105, 112, 101]⟩), .v (.string ⟨#[119, 97, 105, 116]⟩), .v (.string ⟨#[99, 111, 110, 116]⟩), .v (.string ⟨#[98, 114, 101, 97, 107]⟩)] = some namesA := by rfl
theorem names_cells : (AV.agg namesA).cells = namesA := rfl
set_option maxHeartbeats 4000000 in
theorem ins_Name_a (op : Int) : FnP Tryd.prog 74 [aInt op] fun a => a = aB (nameF op) := by
  refine fnP_in K_ins_Name mixed rfl (by simp [AV.pureL, aInt_pure]) ?_
  simp only [S_ins_Name, aInt]
  refine wpa_seqx (fun ε σ => ε 0 = .v (.int .i64 op) ∧ σ = []) (fun N X' R' hN => by simp (maxSteps:=999999) -implicitDefEqProofs (disch:=omega) only [push_cast,↓reduceIte,Nat.reduceEqDiff,reduceCtorEq,wz]; exact hN _ _ (by simp (maxSteps:=999999) -implicitDefEqProofs (disch:=omega) only [push_cast,↓reduceIte,Nat.reduceEqDiff,reduceCtorEq,wz])) ?_
  rintro ε σ ⟨hρ, rfl⟩
  refine wpa_seqx (fun ε σ => (ε 0 = .v (.int .i64 op) ∧ ε 3 = .ref 0 0 0) ∧ σ = [.obj 0 namesA]) ?_ ?_
  · intro N X R hN
    simp (maxSteps:=999999) -implicitDefEqProofs (disch:=omega) only [push_cast,↓reduceIte,Nat.reduceEqDiff,reduceCtorEq,wz,hρ,names_fill]
    refine wpa_new ?_
    simp (maxSteps:=999999) -implicitDefEqProofs (disch:=omega) only [push_cast,↓reduceIte,Nat.reduceEqDiff,reduceCtorEq,wz,names_cells]
    refine wpa_stn (cs := [.v (.string ⟨#[]⟩), .v (.string ⟨#[]⟩), .v (.string ⟨#[]⟩), .v (.string ⟨#[]⟩), .v (.string ⟨#[]⟩), .v (.string ⟨#[]⟩), .v (.string ⟨#[]⟩), .v (.string ⟨#[]⟩), .v (.string ⟨#[]⟩), .v (.string ⟨#[]⟩), .v (.string ⟨#[]⟩), .v (.string ⟨#[]⟩), .v (.string ⟨#[]⟩), .v (.string ⟨#[]⟩), .v (.string ⟨#[]⟩), .v (.string ⟨#[]⟩), .v (.string ⟨#[]⟩), .v (.string ⟨#[]⟩), .v (.string ⟨#[]⟩), .v (.string ⟨#[]⟩), .v (.string ⟨#[]⟩), .v (.string ⟨#[]⟩), .v (.string ⟨#[]⟩), .v (.string ⟨#[]⟩), .v (.string ⟨#[]⟩), .v (.string ⟨#[]⟩)]) (l := namesA) rfl (by decide +kernel) rfl (by decide) ?_
    simp (maxSteps:=999999) -implicitDefEqProofs (disch:=omega) only [push_cast,↓reduceIte,Nat.reduceEqDiff,reduceCtorEq,wz]
    exact hN _ _ ⟨by simp (maxSteps:=999999) -implicitDefEqProofs (disch:=omega) only [push_cast,↓reduceIte,Nat.reduceEqDiff,reduceCtorEq,wz,hρ], rfl⟩
  clear hρ ε
  rintro ε σ ⟨hρ, rfl⟩
  unfold nameF
  by_cases h0 : op < 0
  · rw [if_pos (.inl h0)]
    simp (maxSteps:=999999) -implicitDefEqProofs (disch:=omega) only [push_cast,↓reduceIte,Nat.reduceEqDiff,reduceCtorEq,wz,hρ,h0]
    exact ⟨[], rfl⟩
  · by_cases h1 : 26 ≤ op
    · rw [if_pos (.inr h1)]
      simp (maxSteps:=999999) -implicitDefEqProofs (disch:=omega) only [push_cast,↓reduceIte,Nat.reduceEqDiff,reduceCtorEq,wz,hρ,h0,h1]
      exact ⟨[], rfl⟩
    · have hat := namesA_atI (op := op) (by omega) (by omega)
      unfold nameF at hat
      rw [if_neg (by omega)] at hat ⊢
      simp (maxSteps:=999999) -implicitDefEqProofs (disch:=omega) only [push_cast,↓reduceIte,Nat.reduceEqDiff,reduceCtorEq,wz,hρ,h0,h1,hat]
      exact ⟨[], rfl⟩
set_option maxHeartbeats 4000000 in
theorem ref03_Names_a : FnP Tryd.prog 71 [] fun a => a = .sl 26 namesA .none := by
  refine fnP_in K_forebayref03_Names mixed rfl (by simp [AV.pureL]) ?_
  simp only [S_forebayref03_Names]
  simp (maxSteps:=999999) -implicitDefEqProofs (disch:=omega) only [push_cast,↓reduceIte,Nat.reduceEqDiff,reduceCtorEq,wz]
  refine wpa_bsl (sz := 1) (by intro a ha; have hm : a ∈ namesA := ha; obtain ⟨s, _, rfl⟩ := List.mem_map.1 hm; rfl) (by simp) ?_
  simp (maxSteps:=999999) -implicitDefEqProofs (disch:=omega) only [push_cast,↓reduceIte,Nat.reduceEqDiff,reduceCtorEq,wz]
  exact ⟨[], by decide, rfl⟩
set_option maxHeartbeats 4000000 in
theorem ins_Of_a (w : List UInt8) : FnP Tryd.prog 67 [aB w] fun a => a = match opOf w with | some k => .tup [aInt k, aBool true] | none => .tup [aInt 0, aBool false] := by
  refine fnP_in K_ins_Of mixed rfl rfl ?_
  simp only [S_ins_Of]
  simp (maxSteps:=999999) -implicitDefEqProofs (disch:=omega) only [push_cast,↓reduceIte,Nat.reduceEqDiff,reduceCtorEq,wz]
  refine wpa_bl (α := Nat) (I := fun k ε σ => (ε 0 = aB w ∧ ε 5 = .v (.int .i64 k)) ∧ k ≤ 26 ∧ ∀ j, j < k → nameF j ≠ w) (μ := fun k => 26 - k) (Q := fun ε σ => opOf w = none) (x := 0) ?_ ?_ ?_
  · simp (maxSteps:=999999) -implicitDefEqProofs (disch:=omega) only [push_cast,↓reduceIte,Nat.reduceEqDiff,reduceCtorEq,wz]
    exact ⟨by omega, fun j hj => by omega⟩
  · rintro k ε σ N E ⟨hρ, hk, hall⟩ hN hE
    simp only [S_ins_Of_L1]
    by_cases hlt : k < 26
    · have hkl : (k : Int) < 26 := by omega
      simp (maxSteps:=999999) -implicitDefEqProofs (disch:=omega) only [push_cast,↓reduceIte,Nat.reduceEqDiff,reduceCtorEq,wz,hρ,hkl]
      refine wpa_call (ins_Name_a k) ?_
      rintro a rfl
      by_cases he : nameF k = w
      · have hop := opOf_name k hlt
        rw [he] at hop
        rw [hop]
        simp (maxSteps:=999999) -implicitDefEqProofs (disch:=omega) only [push_cast,↓reduceIte,Nat.reduceEqDiff,reduceCtorEq,wz,hρ,he]
        exact fin_vv rfl
      · have hne := ne_bA he
        simp (maxSteps:=999999) -implicitDefEqProofs (disch:=omega) only [push_cast,↓reduceIte,Nat.reduceEqDiff,reduceCtorEq,wz,hρ,hne]
        refine hN (k + 1) _ _ ⟨by simp (maxSteps:=999999) -implicitDefEqProofs (disch:=omega) only [push_cast,↓reduceIte,Nat.reduceEqDiff,reduceCtorEq,wz,hρ], by omega, fun j hj => ?_⟩ (by omega)
        by_cases hjk : j = k
        · subst hjk; exact he
        · exact hall j (by omega)
    · have hle : ¬ (k : Int) < 26 := by omega
      simp (maxSteps:=999999) -implicitDefEqProofs (disch:=omega) only [push_cast,↓reduceIte,Nat.reduceEqDiff,reduceCtorEq,wz,hρ,hle]
      refine hE _ _ ?_
      cases h : opOf w with
      | none => rfl
      | some j =>
        obtain ⟨h1, h2⟩ := opOf_some h
        exact absurd h2 (hall j (by omega))
  · rintro ε σ h
    rw [h]
    simp (maxSteps:=999999) -implicitDefEqProofs (disch:=omega) only [push_cast,↓reduceIte,Nat.reduceEqDiff,reduceCtorEq,wz]
    exact fin_vv rfl
end Go.Proofs.YtjdpejggafefjaaDoor
/- An instruction in writing, by the program and by the document. -/
namespace Go.Proofs.YtjdpejggafefjaaDoor
set_option linter.unusedVariables false
set_option linter.unusedSimpArgs false
open Go Go.Kx Go.Proofs

set_option maxHeartbeats 4000000 in
theorem asm_Line_a (x : Ix) : FnP Tryd.prog 41 [.agg (aIx x)] fun a => a = aB (lineF x) := by
  refine fnP_in K_asm_Line mixed rfl (by simp [AV.pureL, AV.pure, aIx_pure]) ?_
  simp only [S_asm_Line]
  have hac : (AV.agg (aIx x)).cells = aIx x := rfl
  have g0 : (aIx x)[0]? = some (.v (.int .i64 x.op)) := rfl
  have g1 : (aIx x)[1]? = some (.v (.int .i64 x.a)) := rfl
  have g2 : (aIx x)[2]? = some (.v (.int .i64 x.b)) := rfl
  have g3 : (aIx x)[3]? = some (.v (.int .i64 x.c)) := rfl
  refine wpa_seqx (fun ε σ => ε 1 = .ref 0 0 0 ∧ σ = [.obj 0 (aIx x)]) ?_ ?_
  · intro N X R hN
    simp (maxSteps:=999999) -implicitDefEqProofs (disch:=omega) only [push_cast,↓reduceIte,Nat.reduceEqDiff,reduceCtorEq,wz]
    refine wpa_box ?_
    simp (maxSteps:=999999) -implicitDefEqProofs (disch:=omega) only [push_cast,↓reduceIte,Nat.reduceEqDiff,reduceCtorEq,wz,hac]
    exact hN _ _ (by simp (maxSteps:=999999) -implicitDefEqProofs (disch:=omega) only [push_cast,↓reduceIte,Nat.reduceEqDiff,reduceCtorEq,wz])
  rintro ε σ ⟨hρ, rfl⟩
  refine wpa_seq (fun ε σ => (ε 1 = .ref 0 0 0 ∧ σ = [.obj 0 (aIx x)]) ∧ insE x = 0) ?_ ?_
  · intro N hN
    simp (maxSteps:=999999) -implicitDefEqProofs (disch:=omega) only [push_cast,↓reduceIte,Nat.reduceEqDiff,reduceCtorEq,wz,hρ,cellsIx']
    refine wpa_call (ins_Check_a x) ?_
    rintro a rfl
    by_cases hz : insE x = 0
    · simp (maxSteps:=999999) -implicitDefEqProofs (disch:=omega) only [push_cast,↓reduceIte,Nat.reduceEqDiff,reduceCtorEq,wz,hρ,aInt,hz]
      exact hN _ _ ⟨by simp (maxSteps:=999999) -implicitDefEqProofs (disch:=omega) only [push_cast,↓reduceIte,Nat.reduceEqDiff,reduceCtorEq,wz,hρ], hz⟩
    · unfold lineF
      rw [if_neg hz]
      simp (maxSteps:=999999) -implicitDefEqProofs (disch:=omega) only [push_cast,↓reduceIte,Nat.reduceEqDiff,reduceCtorEq,wz,hρ,aInt,hz]
      exact ⟨[], rfl⟩
  clear hρ ε
  rintro ε σ ⟨⟨hρ, rfl⟩, hz⟩
  refine wpa_seqx (fun ε σ => (ε 1 = .ref 0 0 0 ∧ ε 3 = .sl 1 [aB (nameF x.op)] .full) ∧ σ = [.obj 0 (aIx x)]) ?_ ?_
  · intro N X R hN
    simp (maxSteps:=999999) -implicitDefEqProofs (disch:=omega) only [push_cast,↓reduceIte,Nat.reduceEqDiff,reduceCtorEq,wz,hρ,g0]
    refine wpa_call (ins_Name_a x.op) ?_
    rintro a rfl
    simp (maxSteps:=999999) -implicitDefEqProofs (disch:=omega) only [push_cast,↓reduceIte,Nat.reduceEqDiff,reduceCtorEq,wz,hρ]
    refine wpa_bsl (sz := 1) (by intro a ha; simp at ha; subst ha; rfl) (by simp) ?_
    simp (maxSteps:=999999) -implicitDefEqProofs (disch:=omega) only [push_cast,↓reduceIte,Nat.reduceEqDiff,reduceCtorEq,wz,hρ]
    exact hN _ _ ⟨by simp (maxSteps:=999999) -implicitDefEqProofs (disch:=omega) only [push_cast,↓reduceIte,Nat.reduceEqDiff,reduceCtorEq,wz,hρ], rfl⟩
  clear hρ ε
  rintro ε σ ⟨hρ, rfl⟩
  have hfl : flen x.op = (letX x).length := flen_let x
  have hl3 := letX_len x
  have hsz : (((fmS x.op).size : Nat) : Int) ≤ 3 := by have : flen x.op = (fmS x.op).size := rfl; omega
  have htl : ((opsX x).take (flen x.op)).length = flen x.op := by rw [List.length_take]; simp only [opsX, List.length_cons, List.length_nil]; omega
  refine wpa_seqx (fun ε σ => ∃ t : Tok, ε 3 = .sl (wordsX x).length ((wordsX x).map aB) t) ?_ ?_
  · intro N X R hN
    refine wpa_seqx (fun ε σ => (ε 3 = .sl 1 [aB (nameF x.op)] .full ∧ ε 24 = .sl (flen x.op) (((opsX x).take (flen x.op)).map aInt) .none ∧ ε 25 = .v (.int .i64 (flen x.op)) ∧ ε 26 = .v (.int .i64 0)) ∧ σ = [.obj 0 (aIx x)]) ?_ ?_
    · intro N X R hN
      have hcs : [AV.v (.int .i64 x.a), AV.v (.int .i64 x.b), AV.v (.int .i64 x.c)].take (fmS x.op).size = ((opsX x).take (flen x.op)).map aInt := by rw [List.map_take]; rfl
      have hfe : (fmS x.op).size = flen x.op := rfl
      simp (maxSteps:=999999) -implicitDefEqProofs (disch:=omega) only [push_cast,↓reduceIte,Nat.reduceEqDiff,reduceCtorEq,wz,hρ,g0,g1,g2,g3]
      refine ⟨?_, ?_⟩
      · refine wpa_bsl (sz := 1) (by intro a ha; simp at ha; rcases ha with rfl | rfl | rfl <;> rfl) (by simp) ?_
        simp (maxSteps:=999999) -implicitDefEqProofs (disch:=omega) only [push_cast,↓reduceIte,Nat.reduceEqDiff,reduceCtorEq,wz,hρ,g0]
        refine ⟨aholds_x (by simp (maxSteps:=999999) -implicitDefEqProofs (disch:=omega) only [push_cast,↓reduceIte,Nat.reduceEqDiff,reduceCtorEq,wz,hρ,g0,ex_In]), ?_⟩
        refine wpa_call (ins_Form_a x.op) ?_
        rintro a rfl
        simp (maxSteps:=999999) -implicitDefEqProofs (disch:=omega) only [push_cast,↓reduceIte,Nat.reduceEqDiff,reduceCtorEq,wz,hsz,hρ,hcs]
        exact hN _ _ (by simp (maxSteps:=999999) -implicitDefEqProofs (disch:=omega) only [push_cast,↓reduceIte,Nat.reduceEqDiff,reduceCtorEq,wz,hρ,hfe])
      · refine wpa_call (ins_Form_a x.op) ?_
        rintro a rfl
        simp (maxSteps:=999999) -implicitDefEqProofs (disch:=omega) only [push_cast,↓reduceIte,Nat.reduceEqDiff,reduceCtorEq,wz,hρ,g1,g2,g3]
        refine ⟨aholds_x (by simp (maxSteps:=999999) -implicitDefEqProofs (disch:=omega) only [push_cast,↓reduceIte,Nat.reduceEqDiff,reduceCtorEq,wz,hρ,g3,ex_In]), aholds_x (by simp (maxSteps:=999999) -implicitDefEqProofs (disch:=omega) only [push_cast,↓reduceIte,Nat.reduceEqDiff,reduceCtorEq,wz,hρ,g2,ex_In]), aholds_x (by simp (maxSteps:=999999) -implicitDefEqProofs (disch:=omega) only [push_cast,↓reduceIte,Nat.reduceEqDiff,reduceCtorEq,wz,hρ,g1,ex_In]), ?_⟩
        refine wpa_bsl (sz := 1) (by intro a ha; simp at ha; rcases ha with rfl | rfl | rfl <;> rfl) (by simp) ?_
        simp (maxSteps:=999999) -implicitDefEqProofs (disch:=omega) only [push_cast,↓reduceIte,Nat.reduceEqDiff,reduceCtorEq,wz,hsz,hρ,hcs]
        exact hN _ _ (by simp (maxSteps:=999999) -implicitDefEqProofs (disch:=omega) only [push_cast,↓reduceIte,Nat.reduceEqDiff,reduceCtorEq,wz,hρ,hfe])
    clear hρ ε
    rintro ε σ ⟨hρ, rfl⟩
    simp (maxSteps:=999999) -implicitDefEqProofs (disch:=omega) only [push_cast,↓reduceIte,Nat.reduceEqDiff,reduceCtorEq,wz,hρ]
    generalize hT : (opsX x).take (flen x.op) = T at hρ htl
    generalize hF : flen x.op = F at hρ htl
    subst htl
    have hwx : wordsX x = nameF x.op :: T.map Lib.itoa := by rw [wordsX, hF, ← hF, hT]
    have hI : ∀ n ∈ T, I64 n := fun n hn => by
      have := ops_fit hz n (List.mem_of_mem_take (hT ▸ hn))
      unfold I64; omega
    refine wpa_blx (α := Nat) (I := fun k ε σ => (ε 24 = .sl T.length (T.map aInt) .none ∧ ε 25 = .v (.int .i64 T.length) ∧ ε 26 = .v (.int .i64 k)) ∧ k ≤ T.length ∧
        ((k = 0 ∧ ε 3 = .sl 1 [aB (nameF x.op)] .full ∧ σ = [.obj 0 (aIx x)]) ∨ ∃ w, ε 3 = .sl (k + 1) ((nameF x.op :: (T.take k).map Lib.itoa).map aB) (.id 1 w 1) ∧ σ = [.obj 0 (aIx x), .tail w]))
      (μ := fun k => T.length - k) (Q := fun ε σ => ∃ t : Tok, ε 3 = .sl (wordsX x).length ((wordsX x).map aB) t) (x := 0) ?_ ?_ hN
    · exact ⟨by simp (maxSteps:=999999) -implicitDefEqProofs (disch:=omega) only [push_cast,↓reduceIte,Nat.reduceEqDiff,reduceCtorEq,wz,hρ], by omega, .inl ⟨rfl, by simp (maxSteps:=999999) -implicitDefEqProofs (disch:=omega) only [push_cast,↓reduceIte,Nat.reduceEqDiff,reduceCtorEq,wz,hρ], rfl⟩⟩
    · clear hN N X R hρ ε
      rintro k ε σ N E X R ⟨hρ, hk, h3⟩ hN hE
      simp only [S_asm_Line_L1]
      by_cases hlt : k < T.length
      · obtain ⟨n, hn⟩ := at_lt hlt
        have hkl : (k : Int) < T.length := by omega
        obtain ⟨b0, b1⟩ := hI n (List.mem_of_getElem? hn)
        rcases h3 with ⟨rfl, h3, rfl⟩ | ⟨w, h3, rfl⟩
        · have hn0 : T[Int.toNat 0]? = some n := hn
          simp (maxSteps:=999999) -implicitDefEqProofs (disch:=omega) only [push_cast,↓reduceIte,Nat.reduceEqDiff,reduceCtorEq,wz,hρ,hkl,hn0,aInt,h3]
          refine wpa_call (Of_a n b0 b1) ?_
          rintro a rfl
          simp (maxSteps:=999999) -implicitDefEqProofs (disch:=omega) only [push_cast,↓reduceIte,Nat.reduceEqDiff,reduceCtorEq,wz,hρ,h3]
          refine wpa_bsl (sz := 1) (by intro a ha; simp at ha; subst ha; rfl) (by simp) ?_
          simp (maxSteps:=999999) -implicitDefEqProofs (disch:=omega) only [push_cast,↓reduceIte,Nat.reduceEqDiff,reduceCtorEq,wz,hρ,h3]
          refine wpa_app_full (m := 1) rfl rfl rfl rfl rfl (by omega) (by omega) ?_
          simp (maxSteps:=999999) -implicitDefEqProofs (disch:=omega) only [push_cast,↓reduceIte,Nat.reduceEqDiff,reduceCtorEq,wz,hρ,h3]
          exact hN (0 + 1) _ _ ⟨by simp (maxSteps:=999999) -implicitDefEqProofs (disch:=omega) only [push_cast,↓reduceIte,Nat.reduceEqDiff,reduceCtorEq,wz,hρ], by omega, .inr ⟨1, by simp (maxSteps:=999999) -implicitDefEqProofs (disch:=omega) only [push_cast,↓reduceIte,Nat.reduceEqDiff,reduceCtorEq,wz]; rw [take_succ_at hn]; simp [AV.cells, Value.cells], rfl⟩⟩ (by omega)
        · simp (maxSteps:=999999) -implicitDefEqProofs (disch:=omega) only [push_cast,↓reduceIte,Nat.reduceEqDiff,reduceCtorEq,wz,hρ,hkl,hn,aInt,h3]
          refine wpa_call (Of_a n b0 b1) ?_
          rintro a rfl
          simp (maxSteps:=999999) -implicitDefEqProofs (disch:=omega) only [push_cast,↓reduceIte,Nat.reduceEqDiff,reduceCtorEq,wz,hρ,h3]
          refine wpa_bsl (sz := 1) (by intro a ha; simp at ha; subst ha; rfl) (by simp) ?_
          simp (maxSteps:=999999) -implicitDefEqProofs (disch:=omega) only [push_cast,↓reduceIte,Nat.reduceEqDiff,reduceCtorEq,wz,hρ,h3]
          refine wpa_app (m := 1) rfl rfl rfl rfl (by simp; omega) (by omega) (by omega) rfl ?_
          simp (maxSteps:=999999) -implicitDefEqProofs (disch:=omega) only [push_cast,↓reduceIte,Nat.reduceEqDiff,reduceCtorEq,wz,hρ,h3]
          exact hN (k + 1) _ _ ⟨by simp (maxSteps:=999999) -implicitDefEqProofs (disch:=omega) only [push_cast,↓reduceIte,Nat.reduceEqDiff,reduceCtorEq,wz,hρ], by omega, .inr ⟨w + 1, by simp (maxSteps:=999999) -implicitDefEqProofs (disch:=omega) only [push_cast,↓reduceIte,Nat.reduceEqDiff,reduceCtorEq,wz]; rw [take_succ_at hn]; simp [AV.cells, Value.cells], rfl⟩⟩ (by omega)
      · have hle : ¬ (k : Int) < T.length := by omega
        simp (maxSteps:=999999) -implicitDefEqProofs (disch:=omega) only [push_cast,↓reduceIte,Nat.reduceEqDiff,reduceCtorEq,wz,hρ,hle]
        obtain rfl : k = T.length := by omega
        refine hE _ _ ?_
        rw [hwx]
        rcases h3 with ⟨h0, h3, rfl⟩ | ⟨w, h3, rfl⟩
        · have : T = [] := List.eq_nil_of_length_eq_zero h0
          subst this
          exact ⟨.full, by simp (maxSteps:=999999) -implicitDefEqProofs (disch:=omega) only [push_cast,↓reduceIte,Nat.reduceEqDiff,reduceCtorEq,wz,h3]; rfl⟩
        · rw [List.take_length] at h3
          exact ⟨_, by rw [List.length_cons, List.length_map]; exact h3⟩
  clear hρ ε
  rintro ε σ ⟨t, h3⟩
  simp (maxSteps:=999999) -implicitDefEqProofs (disch:=omega) only [push_cast,↓reduceIte,Nat.reduceEqDiff,reduceCtorEq,wz,h3]
  have hjl : (joinR [32] (wordsX x) true).length ≤ 14 := by have := (lineF_ok hz).2.1; unfold lineF at this; rw [if_pos hz] at this; exact this
  have hwl : (wordsX x).length ≤ 4 := by unfold wordsX; simp only [List.length_cons, List.length_map, htl]; omega
  have h1 : FnP Tryd.prog 49 [aSl aB (wordsX x)] fun a => a = aB (lineF x) := by
    have h := Join_a (wordsX x) (by omega) (by rw [join_joinR]; omega)
    rw [join_joinR] at h
    unfold lineF
    rw [if_pos hz]
    exact h
  have hw : ∀ τ : Kx.St, weak (Go.Kx.freeze [] τ) [true] [.sl (wordsX x).length ((wordsX x).map aB) t] = [aSl aB (wordsX x)] := by
    intro τ
    show [AV.res _ _] = _
    rw [aSl_res (fun _ => rfl)]
  refine wpa_callw [] [true] h1 (hw _) ?_
  rintro a rfl
  simp (maxSteps:=999999) -implicitDefEqProofs (disch:=omega) only [push_cast,↓reduceIte,Nat.reduceEqDiff,reduceCtorEq,wz]
  exact ⟨[], rfl⟩
end Go.Proofs.YtjdpejggafefjaaDoor
/- The document's Line; operands. -/
namespace Go.Proofs.YtjdpejggafefjaaDoor
set_option linter.unusedVariables false
set_option linter.unusedSimpArgs false
open Go Go.Kx Go.Proofs

theorem joinR_snoc' (sep : List UInt8) (xs : List (List UInt8)) (x : List UInt8) (h : xs ≠ []) : joinR sep (xs ++ [x]) true = joinR sep xs true ++ sep ++ x := by
  rw [joinR_snoc, if_neg (by simp [h])]
set_option maxHeartbeats 4000000 in
theorem ref06_Line_a (x : Ix) : FnP Tryd.prog 42 [.agg (aIx x)] fun a => a = aB (lineF x) := by
  refine fnP_in K_forebayref06_Line mixed rfl (by simp [AV.pureL, AV.pure, aIx_pure]) ?_
  simp only [S_forebayref06_Line]
  have hac : (AV.agg (aIx x)).cells = aIx x := rfl
  have g0 : (aIx x)[0]? = some (.v (.int .i64 x.op)) := rfl
  have g1 : (aIx x)[1]? = some (.v (.int .i64 x.a)) := rfl
  have g2 : (aIx x)[2]? = some (.v (.int .i64 x.b)) := rfl
  have g3 : (aIx x)[3]? = some (.v (.int .i64 x.c)) := rfl
  refine wpa_seqx (fun ε σ => ε 1 = .ref 0 0 0 ∧ σ = [.obj 0 (aIx x)]) ?_ ?_
  · intro N X R hN
    simp (maxSteps:=999999) -implicitDefEqProofs (disch:=omega) only [push_cast,↓reduceIte,Nat.reduceEqDiff,reduceCtorEq,wz]
    refine wpa_box ?_
    simp (maxSteps:=999999) -implicitDefEqProofs (disch:=omega) only [push_cast,↓reduceIte,Nat.reduceEqDiff,reduceCtorEq,wz,hac]
    exact hN _ _ (by simp (maxSteps:=999999) -implicitDefEqProofs (disch:=omega) only [push_cast,↓reduceIte,Nat.reduceEqDiff,reduceCtorEq,wz])
  rintro ε σ ⟨hρ, rfl⟩
  refine wpa_seq (fun ε σ => (ε 1 = .ref 0 0 0 ∧ σ = [.obj 0 (aIx x)]) ∧ insE x = 0) ?_ ?_
  · intro N hN
    simp (maxSteps:=999999) -implicitDefEqProofs (disch:=omega) only [push_cast,↓reduceIte,Nat.reduceEqDiff,reduceCtorEq,wz,hρ,cellsIx']
    refine wpa_call (ref03_Check_a x) ?_
    rintro a rfl
    by_cases hz : insE x = 0
    · simp (maxSteps:=999999) -implicitDefEqProofs (disch:=omega) only [push_cast,↓reduceIte,Nat.reduceEqDiff,reduceCtorEq,wz,hρ,aInt,hz]
      exact hN _ _ ⟨by simp (maxSteps:=999999) -implicitDefEqProofs (disch:=omega) only [push_cast,↓reduceIte,Nat.reduceEqDiff,reduceCtorEq,wz,hρ], hz⟩
    · unfold lineF
      rw [if_neg hz]
      simp (maxSteps:=999999) -implicitDefEqProofs (disch:=omega) only [push_cast,↓reduceIte,Nat.reduceEqDiff,reduceCtorEq,wz,hρ,aInt,hz]
      exact ⟨[], rfl⟩
  clear hρ ε
  rintro ε σ ⟨⟨hρ, rfl⟩, hz⟩
  obtain ⟨o0, o1⟩ := insE_op hz
  have hat := namesA_atI o0 o1
  refine wpa_seqx (fun ε σ => (ε 1 = .ref 0 0 0 ∧ ε 3 = aB (nameF x.op)) ∧ σ = [.obj 0 (aIx x)]) ?_ ?_
  · intro N X R hN
    simp (maxSteps:=999999) -implicitDefEqProofs (disch:=omega) only [push_cast,↓reduceIte,Nat.reduceEqDiff,reduceCtorEq,wz,hρ,g0]
    refine wpa_call ref03_Names_a ?_
    rintro a rfl
    simp (maxSteps:=999999) -implicitDefEqProofs (disch:=omega) only [push_cast,↓reduceIte,Nat.reduceEqDiff,reduceCtorEq,wz,hρ,g0]
    refine ⟨aholds_x (by simp (maxSteps:=999999) -implicitDefEqProofs (disch:=omega) only [push_cast,↓reduceIte,Nat.reduceEqDiff,reduceCtorEq,wz,hρ,g0,ex_In]), ?_⟩
    simp (maxSteps:=999999) -implicitDefEqProofs (disch:=omega) only [push_cast,↓reduceIte,Nat.reduceEqDiff,reduceCtorEq,wz,hρ,hat]
    exact hN _ _ ⟨by simp (maxSteps:=999999) -implicitDefEqProofs (disch:=omega) only [push_cast,↓reduceIte,Nat.reduceEqDiff,reduceCtorEq,wz,hρ], rfl⟩
  clear hρ ε
  rintro ε σ ⟨hρ, rfl⟩
  refine wpa_seqx (fun ε σ => (ε 1 = .ref 0 0 0 ∧ ε 3 = aB (nameF x.op) ∧ ε 4 = .sl 3 ((opsX x).map aInt) .full) ∧ σ = [.obj 0 (aIx x)]) ?_ ?_
  · intro N X R hN
    simp (maxSteps:=999999) -implicitDefEqProofs (disch:=omega) only [push_cast,↓reduceIte,Nat.reduceEqDiff,reduceCtorEq,wz,hρ,g1,g2,g3]
    refine wpa_bsl (sz := 1) (by intro a ha; simp at ha; rcases ha with rfl | rfl | rfl <;> rfl) (by simp) ?_
    simp (maxSteps:=999999) -implicitDefEqProofs (disch:=omega) only [push_cast,↓reduceIte,Nat.reduceEqDiff,reduceCtorEq,wz,hρ]
    exact hN _ _ ⟨by simp (maxSteps:=999999) -implicitDefEqProofs (disch:=omega) only [push_cast,↓reduceIte,Nat.reduceEqDiff,reduceCtorEq,wz,hρ]; rfl, rfl⟩
  clear hρ ε
  rintro ε σ ⟨hρ, rfl⟩
  have hfl : flen x.op = (letX x).length := flen_let x
  have hl3 := letX_len x
  have hsz : (fmS x.op).size = flen x.op := rfl
  have hol : (opsX x).length = 3 := rfl
  have htl : ((opsX x).take (flen x.op)).length = flen x.op := by rw [List.length_take]; omega
  refine wpa_seqx (fun ε σ => ε 3 = aB (lineF x)) ?_ ?_
  · intro N X R hN
    simp (maxSteps:=999999) -implicitDefEqProofs (disch:=omega) only [push_cast,↓reduceIte,Nat.reduceEqDiff,reduceCtorEq,wz,hρ]
    refine wpa_blx (α := Nat) (I := fun k ε σ => (ε 1 = .ref 0 0 0 ∧ ε 3 = aB (joinR [32] (nameF x.op :: ((opsX x).take k).map Lib.itoa) true) ∧ ε 4 = .sl 3 ((opsX x).map aInt) .full ∧ ε 5 = .v (.int .i64 k)) ∧ k ≤ flen x.op ∧ σ = [.obj 0 (aIx x)])
      (μ := fun k => flen x.op - k) (Q := fun ε σ => ε 3 = aB (lineF x)) (x := 0) ?_ ?_ hN
    · exact ⟨by simp (maxSteps:=999999) -implicitDefEqProofs (disch:=omega) only [push_cast,↓reduceIte,Nat.reduceEqDiff,reduceCtorEq,wz,hρ]; simp [joinR], by omega, rfl⟩
    · clear hN N X R hρ ε
      rintro k ε σ N E X R ⟨hρ, hk, rfl⟩ hN hE
      simp only [S_forebayref06_Line_L1]
      by_cases hlt : k < flen x.op
      · obtain ⟨n, hn⟩ := at_lt (l := opsX x) (k := k) (by omega)
        have hkl : (k : Int) < (fmS x.op).size := by omega
        have hb := ops_fit hz n (List.mem_of_getElem? hn)
        have hI : I64 n := by unfold I64; omega
        have hJ := joinR_snoc' [32] (nameF x.op :: ((opsX x).take k).map Lib.itoa) (Lib.itoa n) (by simp)
        have hjl : (joinR [32] (nameF x.op :: ((opsX x).take k).map Lib.itoa) true).length ≤ 5 * 22 := by
          refine Nat.le_trans (joinR_len (m := 21) ?_) ?_
          · intro w hw
            rcases List.mem_cons.1 hw with rfl | hw
            · have := (nameF_ok o0 o1).2.1; omega
            · obtain ⟨m, hm, rfl⟩ := List.mem_map.1 hw
              have := ops_fit hz m (List.mem_of_mem_take hm)
              exact Lib.itoa_length_le m (by omega) (by omega)
          · simp only [List.length_cons, List.length_map, List.length_take, List.length_nil]
            exact Nat.mul_le_mul (by omega) (by omega)
        have hnx : nameF x.op :: ((opsX x).take (k + 1)).map Lib.itoa = (nameF x.op :: ((opsX x).take k).map Lib.itoa) ++ [Lib.itoa n] := by rw [take_succ_at hn]; simp
        rw [← hnx] at hJ
        generalize joinR [32] (nameF x.op :: ((opsX x).take k).map Lib.itoa) true = J at hρ hJ hjl
        have hil := Lib.itoa_length_le n hI.1 hI.2
        have ha1 := add_bA J [32] (by simp; omega)
        have ha2 := add_bA (J ++ [32]) (Lib.itoa n) (by simp; omega)
        simp (maxSteps:=999999) -implicitDefEqProofs (disch:=omega) only [push_cast,↓reduceIte,Nat.reduceEqDiff,reduceCtorEq,wz,hρ,g0]
        refine wpa_call (ref03_Form_a x.op o0 o1) ?_
        rintro a rfl
        simp (maxSteps:=999999) -implicitDefEqProofs (disch:=omega) only [push_cast,↓reduceIte,Nat.reduceEqDiff,reduceCtorEq,wz,hρ,hkl,hn,aInt,ha1]
        refine wpa_call (ref05_Of_a n hI.1 hI.2) ?_
        rintro a rfl
        simp (maxSteps:=999999) -implicitDefEqProofs (disch:=omega) only [push_cast,↓reduceIte,Nat.reduceEqDiff,reduceCtorEq,wz,hρ,ha2]
        exact hN (k + 1) _ _ ⟨by simp (maxSteps:=999999) -implicitDefEqProofs (disch:=omega) only [push_cast,↓reduceIte,Nat.reduceEqDiff,reduceCtorEq,wz,hρ]; rw [hJ], by omega, rfl⟩ (by omega)
      · have hle : ¬ (k : Int) < (fmS x.op).size := by omega
        simp (maxSteps:=999999) -implicitDefEqProofs (disch:=omega) only [push_cast,↓reduceIte,Nat.reduceEqDiff,reduceCtorEq,wz,hρ,g0]
        refine wpa_call (ref03_Form_a x.op o0 o1) ?_
        rintro a rfl
        simp (maxSteps:=999999) -implicitDefEqProofs (disch:=omega) only [push_cast,↓reduceIte,Nat.reduceEqDiff,reduceCtorEq,wz,hρ,hle]
        obtain rfl : k = flen x.op := by omega
        refine hE _ _ ?_
        unfold lineF wordsX
        rw [if_pos hz]
        simp (maxSteps:=999999) -implicitDefEqProofs (disch:=omega) only [push_cast,↓reduceIte,Nat.reduceEqDiff,reduceCtorEq,wz,hρ]
  clear hρ ε
  rintro ε σ h3
  simp (maxSteps:=999999) -implicitDefEqProofs (disch:=omega) only [push_cast,↓reduceIte,Nat.reduceEqDiff,reduceCtorEq,wz,h3]
  exact ⟨[], rfl⟩
end Go.Proofs.YtjdpejggafefjaaDoor
/- operands, asm.Parse. -/
namespace Go.Proofs.YtjdpejggafefjaaDoor
set_option linter.unusedVariables false
set_option linter.unusedSimpArgs false
open Go Go.Kx Go.Proofs

def padI (acc : List Int) : List AV := [.v (.int .i64 (acc.getD 0 0)), .v (.int .i64 (acc.getD 1 0)), .v (.int .i64 (acc.getD 2 0))]
theorem padI_set {acc : List Int} (h : acc.length < 3) (n : Int) : (padI acc).set acc.length (.v (.int .i64 n)) = padI (acc ++ [n]) := by
  match acc, h with
  | [], _ => rfl
  | [_], _ => rfl
  | [_, _], _ => rfl
theorem padI_len (acc : List Int) : (padI acc).length = 3 := rfl
theorem padI_cells (acc : List Int) : cellsA (some 3) (padI acc) = some (.agg (padI acc)) := rfl
def operE (ws : List (List UInt8)) (many : Nat) : Int := if ws.length < many then 1 else if many < ws.length then 2 else if (numsGo ws []).2 = true then 0 else 4
theorem z3c : cellsA (some 3) [AV.v (.int .i64 0), AV.v (.int .i64 0), AV.v (.int .i64 0)] = some (.agg [AV.v (.int .i64 0), AV.v (.int .i64 0), AV.v (.int .i64 0)]) := rfl
theorem padI_st (acc acc' : List Int) : setAtA (padI acc) 0 (padI acc') = padI acc' := rfl
theorem numsGo_acc {ws : List (List UInt8)} : ∀ {acc : List Int}, (numsGo ws acc).2 = true → (numsGo ws acc).1.length = acc.length + ws.length := by
  induction ws with
  | nil => intro acc _; simp [numsGo]
  | cons w ws ih =>
    intro acc h
    rw [numsGo] at h ⊢
    split at h
    · rename_i hc
      rw [if_pos hc, ih h]
      simp; omega
    · cases h
set_option maxHeartbeats 8000000 in
theorem asm_operands_a (ws : List (List UInt8)) (many : Nat) (hm : many ≤ 3) (hw : ws.length ≤ 1000000) (hwl : ∀ w ∈ ws, w.length ≤ 1000000) : FnP Tryd.prog 68 [aSl aB ws, aInt many] fun a => ∃ acc, a = .tup [.agg (padI acc), aInt (operE ws many)] ∧ (operE ws many = 0 → acc = (numsGo ws []).1) := by
  refine fnP_in K_asm_operands mixed rfl (by simp [AV.pureL, aBl_pure, aInt_pure]) ?_
  simp only [S_asm_operands, aInt]
  have hz : [AV.v (.int .i64 0), AV.v (.int .i64 0), AV.v (.int .i64 0)] = padI [] := rfl
  refine wpa_seqx (fun ε σ => (ε 0 = aSl aB ws ∧ ε 1 = .v (.int .i64 many) ∧ ε 4 = .ref 0 0 0) ∧ σ = [.obj 0 (padI [])]) ?_ ?_
  · intro N X R hN
    simp (maxSteps:=999999) -implicitDefEqProofs (disch:=omega) only [push_cast,↓reduceIte,Nat.reduceEqDiff,reduceCtorEq,wz]
    refine wpa_new ?_
    simp (maxSteps:=999999) -implicitDefEqProofs (disch:=omega) only [push_cast,↓reduceIte,Nat.reduceEqDiff,reduceCtorEq,wz]
    exact hN _ _ ⟨by simp (maxSteps:=999999) -implicitDefEqProofs (disch:=omega) only [push_cast,↓reduceIte,Nat.reduceEqDiff,reduceCtorEq,wz], rfl⟩
  rintro ε σ ⟨hρ, rfl⟩
  refine wpa_seqx (fun ε σ => (ε 0 = aSl aB ws ∧ ε 1 = .v (.int .i64 many) ∧ ε 4 = .ref 0 0 0 ∧ ε 6 = .ref 1 0 0) ∧ σ = [.obj 0 (padI []), .obj 0 (padI [])]) ?_ ?_
  · intro N X R hN
    simp (maxSteps:=999999) -implicitDefEqProofs (disch:=omega) only [push_cast,↓reduceIte,Nat.reduceEqDiff,reduceCtorEq,wz,hρ]
    refine wpa_new ?_
    simp (maxSteps:=999999) -implicitDefEqProofs (disch:=omega) only [push_cast,↓reduceIte,Nat.reduceEqDiff,reduceCtorEq,wz]
    exact hN _ _ ⟨by simp (maxSteps:=999999) -implicitDefEqProofs (disch:=omega) only [push_cast,↓reduceIte,Nat.reduceEqDiff,reduceCtorEq,wz,hρ], rfl⟩
  clear hρ ε
  rintro ε σ ⟨hρ, rfl⟩
  refine wpa_seq (fun ε σ => ((ε 0 = aSl aB ws ∧ ε 4 = .ref 0 0 0 ∧ ε 6 = .ref 1 0 0) ∧ σ = [.obj 0 (padI []), .obj 0 (padI [])]) ∧ ws.length = many) ?_ ?_
  · intro N hN
    unfold operE
    by_cases h1 : ws.length < many
    · have h1' : (ws.length : Int) < many := by omega
      simp (maxSteps:=999999) -implicitDefEqProofs (disch:=omega) only [push_cast,↓reduceIte,Nat.reduceEqDiff,reduceCtorEq,wz,hρ,aSl,h1',padI_cells]
      refine wpa_stn (cs := padI []) rfl rfl rfl (by decide) ?_
      simp (maxSteps:=999999) -implicitDefEqProofs (disch:=omega) only [push_cast,↓reduceIte,Nat.reduceEqDiff,reduceCtorEq,wz,hρ,padI_st,padI_cells,h1,aInt]
      exact ⟨[], rfl, [], rfl, by simp⟩
    · have h1' : ¬ (ws.length : Int) < many := by omega
      by_cases h2 : many < ws.length
      · have h2' : (many : Int) < ws.length := by omega
        simp (maxSteps:=999999) -implicitDefEqProofs (disch:=omega) only [push_cast,↓reduceIte,Nat.reduceEqDiff,reduceCtorEq,wz,hρ,aSl,h1',h2',padI_cells]
        refine wpa_stn (cs := padI []) rfl rfl rfl (by decide) ?_
        simp (maxSteps:=999999) -implicitDefEqProofs (disch:=omega) only [push_cast,↓reduceIte,Nat.reduceEqDiff,reduceCtorEq,wz,hρ,padI_st,padI_cells,h1,h2,aInt]
        exact ⟨[], rfl, [], rfl, by simp⟩
      · have h2' : ¬ (many : Int) < ws.length := by omega
        simp (maxSteps:=999999) -implicitDefEqProofs (disch:=omega) only [push_cast,↓reduceIte,Nat.reduceEqDiff,reduceCtorEq,wz,hρ,aSl,h1',h2']
        exact hN _ _ ⟨⟨by simp (maxSteps:=999999) -implicitDefEqProofs (disch:=omega) only [push_cast,↓reduceIte,Nat.reduceEqDiff,reduceCtorEq,wz,hρ,aSl], rfl⟩, by omega⟩
  clear hρ ε
  rintro ε σ ⟨⟨hρ, rfl⟩, rfl⟩
  have hE : operE ws ws.length = if (numsGo ws []).2 = true then 0 else 4 := by unfold operE; rw [if_neg (by omega), if_neg (by omega)]
  rw [hE]
  refine wpa_seq (fun ε σ => ((ε 4 = .ref 0 0 0 ∧ ε 6 = .ref 1 0 0) ∧ σ = [.obj 0 (padI []), .obj 0 (padI (numsGo ws []).1)]) ∧ (numsGo ws []).2 = true) ?_ ?_
  · intro N hN
    simp (maxSteps:=999999) -implicitDefEqProofs (disch:=omega) only [push_cast,↓reduceIte,Nat.reduceEqDiff,reduceCtorEq,wz,hρ,aSl]
    refine wpa_bl (α := Nat) (I := fun k ε σ => (ε 4 = .ref 0 0 0 ∧ ε 6 = .ref 1 0 0 ∧ ε 23 = .sl ws.length (ws.map aB) .none ∧ ε 24 = .v (.int .i64 ws.length) ∧ ε 25 = .v (.int .i64 k)) ∧ k ≤ ws.length ∧ ∃ acc : List Int, acc.length = k ∧ σ = [.obj 0 (padI []), .obj 0 (padI acc)] ∧ numsGo ws [] = numsGo (ws.drop k) acc)
      (μ := fun k => ws.length - k) (Q := fun ε σ => ((ε 4 = .ref 0 0 0 ∧ ε 6 = .ref 1 0 0) ∧ σ = [.obj 0 (padI []), .obj 0 (padI (numsGo ws []).1)]) ∧ (numsGo ws []).2 = true) (x := 0) ?_ ?_ hN
    · exact ⟨by simp (maxSteps:=999999) -implicitDefEqProofs (disch:=omega) only [push_cast,↓reduceIte,Nat.reduceEqDiff,reduceCtorEq,wz,hρ], by omega, [], rfl, rfl, by rw [List.drop_zero]⟩
    · clear hN N hρ ε
      rintro k ε σ N E ⟨hρ, hk, acc, hal, rfl, hgo⟩ hN hE
      simp only [S_asm_operands_L1]
      by_cases hlt : k < ws.length
      · obtain ⟨w, hw2⟩ := at_lt hlt
        have hkl : (k : Int) < ws.length := by omega
        have hwl2 := hwl w (List.mem_of_getElem? hw2)
        rw [numsGo_at acc hw2] at hgo
        simp (maxSteps:=999999) -implicitDefEqProofs (disch:=omega) only [push_cast,↓reduceIte,Nat.reduceEqDiff,reduceCtorEq,wz,hρ,hkl,hw2]
        refine wpa_call (Num_a w hwl2) ?_
        rintro a rfl
        cases hn : (numF w).2 with
        | false =>
          rw [hn, if_neg (by simp)] at hgo
          have h2f : (numsGo ws []).2 = false := by rw [hgo]
          simp (maxSteps:=999999) -implicitDefEqProofs (disch:=omega) only [push_cast,↓reduceIte,Nat.reduceEqDiff,reduceCtorEq,wz,hρ,aNum,hn,padI_cells]
          refine wpa_stn (cs := padI []) rfl rfl rfl (by decide) ?_
          simp (maxSteps:=999999) -implicitDefEqProofs (disch:=omega) only [push_cast,↓reduceIte,Nat.reduceEqDiff,reduceCtorEq,wz,hρ,padI_st,padI_cells,h2f,aInt]
          exact ⟨[], rfl, acc, rfl, by simp⟩
        | true =>
          rw [hn, if_pos rfl] at hgo
          simp (maxSteps:=999999) -implicitDefEqProofs (disch:=omega) only [push_cast,↓reduceIte,Nat.reduceEqDiff,reduceCtorEq,wz,hρ,aNum,hn]
          refine wpa_st1 rfl rfl rfl (by rw [padI_len]; omega) ?_
          simp (maxSteps:=999999) -implicitDefEqProofs (disch:=omega) only [push_cast,↓reduceIte,Nat.reduceEqDiff,reduceCtorEq,wz,hρ]
          have hset := padI_set (acc := acc) (by omega) (numF w).1
          rw [hal] at hset
          refine hN (k + 1) _ _ ⟨by simp (maxSteps:=999999) -implicitDefEqProofs (disch:=omega) only [push_cast,↓reduceIte,Nat.reduceEqDiff,reduceCtorEq,wz,hρ], by omega, acc ++ [(numF w).1], by simp [hal], ?_, hgo⟩ (by omega)
          first | rw [hset] | (simp only [hset]) | (rw [← hset]; rfl) | (rw [← hset]; simp)
      · have hle : ¬ (k : Int) < ws.length := by omega
        simp (maxSteps:=999999) -implicitDefEqProofs (disch:=omega) only [push_cast,↓reduceIte,Nat.reduceEqDiff,reduceCtorEq,wz,hρ,hle]
        obtain rfl : k = ws.length := by omega
        rw [List.drop_length] at hgo
        refine hE _ _ ⟨⟨by simp (maxSteps:=999999) -implicitDefEqProofs (disch:=omega) only [push_cast,↓reduceIte,Nat.reduceEqDiff,reduceCtorEq,wz,hρ], ?_⟩, ?_⟩
        · rw [hgo]; rfl
        · rw [hgo]; rfl
  clear hρ ε
  rintro ε σ ⟨⟨hρ, rfl⟩, h2⟩
  simp (maxSteps:=999999) -implicitDefEqProofs (disch:=omega) only [push_cast,↓reduceIte,Nat.reduceEqDiff,reduceCtorEq,wz,hρ,padI_cells]
  refine wpa_stn (cs := padI []) rfl rfl rfl (by decide) ?_
  simp (maxSteps:=999999) -implicitDefEqProofs (disch:=omega) only [push_cast,↓reduceIte,Nat.reduceEqDiff,reduceCtorEq,wz,hρ,padI_st,padI_cells,h2,aInt]
  exact ⟨[], rfl, _, rfl, fun _ => rfl⟩
end Go.Proofs.YtjdpejggafefjaaDoor
/- asm.Parse. -/
namespace Go.Proofs.YtjdpejggafefjaaDoor
set_option linter.unusedVariables false
set_option linter.unusedSimpArgs false
open Go Go.Kx Go.Proofs

abbrev aPx (p : Ix × Int) : AV := .tup [.agg (aIx p.1), aInt p.2]
theorem ix_st (x y : Ix) : setAtA (aIx x) 0 (aIx y) = aIx y := rfl
theorem ix0_cells : [AV.v (.int .i64 0), AV.v (.int .i64 0), AV.v (.int .i64 0), AV.v (.int .i64 0)] = aIx ix0 := rfl
theorem opOf_len {w : List UInt8} {op : Nat} (h : opOf w = some op) : flen op ≤ 3 := by
  have := fmS_sz op
  exact this
set_option maxHeartbeats 8000000 in
theorem asm_Parse_a (l : List UInt8) (hl : l.length ≤ 100000) : FnP Tryd.prog 39 [aB l] fun a => a = aPx (parseF l) := by
  refine fnP_in K_asm_Parse mixed rfl rfl ?_
  simp only [S_asm_Parse]
  refine wpa_seqx (fun ε σ => (ε 0 = aB l ∧ ε 2 = .ref 0 0 0) ∧ σ = [.obj 0 (aIx ix0)]) ?_ ?_
  · intro N X R hN
    simp (maxSteps:=999999) -implicitDefEqProofs (disch:=omega) only [push_cast,↓reduceIte,Nat.reduceEqDiff,reduceCtorEq,wz]
    refine wpa_new ?_
    simp (maxSteps:=999999) -implicitDefEqProofs (disch:=omega) only [push_cast,↓reduceIte,Nat.reduceEqDiff,reduceCtorEq,wz]
    exact hN _ _ ⟨by simp (maxSteps:=999999) -implicitDefEqProofs (disch:=omega) only [push_cast,↓reduceIte,Nat.reduceEqDiff,reduceCtorEq,wz], rfl⟩
  rintro ε σ ⟨hρ, rfl⟩
  refine wpa_seqx (fun ε σ => (ε 0 = aB l ∧ ε 2 = .ref 0 0 0 ∧ ε 4 = .ref 1 0 0) ∧ σ = [.obj 0 (aIx ix0), .obj 0 (aIx ix0)]) ?_ ?_
  · intro N X R hN
    simp (maxSteps:=999999) -implicitDefEqProofs (disch:=omega) only [push_cast,↓reduceIte,Nat.reduceEqDiff,reduceCtorEq,wz,hρ]
    refine wpa_new ?_
    simp (maxSteps:=999999) -implicitDefEqProofs (disch:=omega) only [push_cast,↓reduceIte,Nat.reduceEqDiff,reduceCtorEq,wz]
    exact hN _ _ ⟨by simp (maxSteps:=999999) -implicitDefEqProofs (disch:=omega) only [push_cast,↓reduceIte,Nat.reduceEqDiff,reduceCtorEq,wz,hρ], rfl⟩
  clear hρ ε
  rintro ε σ ⟨hρ, rfl⟩
  refine wpa_seq (fun ε σ => ((ε 0 = aB l ∧ ε 2 = .ref 0 0 0 ∧ ε 4 = .ref 1 0 0) ∧ σ = [.obj 0 (aIx ix0), .obj 0 (aIx ix0)]) ∧ l.length ≤ 400) ?_ ?_
  · intro N hN
    unfold parseF
    by_cases h : 400 < l.length
    · have h' : (400 : Int) < (bA l).size := by rw [size_bA]; omega
      rw [if_pos h]
      simp (maxSteps:=999999) -implicitDefEqProofs (disch:=omega) only [push_cast,↓reduceIte,Nat.reduceEqDiff,reduceCtorEq,wz,hρ,h',cellsIx']
      refine wpa_stn (cs := aIx ix0) rfl rfl rfl (by decide) ?_
      simp (maxSteps:=999999) -implicitDefEqProofs (disch:=omega) only [push_cast,↓reduceIte,Nat.reduceEqDiff,reduceCtorEq,wz,hρ,ix_st,cellsIx',aInt]
      exact ⟨[], rfl, rfl⟩
    · have h' : ¬ (400 : Int) < (bA l).size := by rw [size_bA]; omega
      simp (maxSteps:=999999) -implicitDefEqProofs (disch:=omega) only [push_cast,↓reduceIte,Nat.reduceEqDiff,reduceCtorEq,wz,hρ,h']
      exact hN _ _ ⟨⟨by simp (maxSteps:=999999) -implicitDefEqProofs (disch:=omega) only [push_cast,↓reduceIte,Nat.reduceEqDiff,reduceCtorEq,wz,hρ], rfl⟩, by omega⟩
  clear hρ ε
  rintro ε σ ⟨⟨hρ, rfl⟩, h400⟩
  have hF : parseF l = parseW (wrds l) := by unfold parseF; rw [if_neg (by omega)]
  rw [hF]
  have hWl : (wrds l).length ≤ l.length ∧ ∀ x ∈ wrds l, x.length ≤ l.length := by
    have := partsB_len (sign := 32) (em := false) l []
    simpa using this
  have hfd := Fields_a (bA l) (by rw [size_bA]; omega)
  rw [show (bA l).data.toList = l by simp] at hfd
  change FnP _ _ _ (fun a => a = aSl aB (wrds l)) at hfd
  generalize wrds l = W at hfd hWl
  refine wpa_seqx (fun ε σ => (ε 2 = .ref 0 0 0 ∧ ε 4 = .ref 1 0 0 ∧ ε 5 = .sl W.length (W.map aB) .none) ∧ σ = [.obj 0 (aIx ix0), .obj 0 (aIx ix0)]) ?_ ?_
  · intro N X R hN
    simp (maxSteps:=999999) -implicitDefEqProofs (disch:=omega) only [push_cast,↓reduceIte,Nat.reduceEqDiff,reduceCtorEq,wz,hρ]
    refine wpa_call hfd ?_
    rintro a rfl
    simp (maxSteps:=999999) -implicitDefEqProofs (disch:=omega) only [push_cast,↓reduceIte,Nat.reduceEqDiff,reduceCtorEq,wz,aSl]
    exact hN _ _ ⟨by simp (maxSteps:=999999) -implicitDefEqProofs (disch:=omega) only [push_cast,↓reduceIte,Nat.reduceEqDiff,reduceCtorEq,wz,hρ], rfl⟩
  clear hρ ε
  rintro ε σ ⟨hρ, rfl⟩
  refine wpa_seq (fun ε σ => ((ε 2 = .ref 0 0 0 ∧ ε 4 = .ref 1 0 0 ∧ ε 5 = .sl W.length (W.map aB) .none) ∧ σ = [.obj 0 (aIx ix0), .obj 0 (aIx ix0)]) ∧ W ≠ []) ?_ ?_
  · intro N hN
    cases W with
    | nil =>
      simp (maxSteps:=999999) -implicitDefEqProofs (disch:=omega) only [push_cast,↓reduceIte,Nat.reduceEqDiff,reduceCtorEq,wz,hρ,cellsIx']
      refine wpa_stn (cs := aIx ix0) rfl rfl rfl (by decide) ?_
      simp (maxSteps:=999999) -implicitDefEqProofs (disch:=omega) only [push_cast,↓reduceIte,Nat.reduceEqDiff,reduceCtorEq,wz,hρ,ix_st,cellsIx',aInt]
      exact ⟨[], rfl, rfl⟩
    | cons w ws =>
      have h' : ¬ (((w :: ws).length : Int) = 0) := by have : (w :: ws).length = ws.length + 1 := rfl; omega
      generalize w :: ws = W at h' hρ hN ⊢
      simp (maxSteps:=999999) -implicitDefEqProofs (disch:=omega) only [push_cast,↓reduceIte,Nat.reduceEqDiff,reduceCtorEq,wz,hρ,h']
      exact hN _ _ ⟨⟨by simp (maxSteps:=999999) -implicitDefEqProofs (disch:=omega) only [push_cast,↓reduceIte,Nat.reduceEqDiff,reduceCtorEq,wz,hρ], rfl⟩, by rintro rfl; exact h' rfl⟩
  clear hρ ε
  rintro ε σ ⟨⟨hρ, rfl⟩, hne⟩
  obtain ⟨w, ws, rfl⟩ : ∃ w ws, W = w :: ws := by cases W with | nil => exact absurd rfl hne | cons w ws => exact ⟨w, ws, rfl⟩
  have hlc : (w :: ws).length = ws.length + 1 := rfl
  have hws1 : ws.length ≤ 1000000 := by have := hWl.1; omega
  have hws2 : ∀ x ∈ ws, x.length ≤ 1000000 := fun x hx => by have := hWl.2 x (by simp [hx]); omega
  have hW0 : (w :: ws)[Int.toNat 0]? = some w := rfl
  have hsub : subA ((w :: ws).map aB) (Int.toNat 1) ws.length = ws.map aB := by
    show ((ws.map aB).take ws.length) = _
    rw [List.take_of_length_le (by simp)]
  have hsl : (w :: ws).length - Int.toNat 1 = ws.length := rfl
  have h1W : (1 : Int) ≤ ((w :: ws).length : Nat) := by omega
  have hOf := ins_Of_a w
  simp only [parseW]
  clear hlc
  generalize w :: ws = W at hρ hW0 hsub hsl h1W
  cases ho : opOf w with
  | none =>
    rw [ho] at hOf
    simp only
    refine wpa_seqx (fun ε σ => (ε 2 = .ref 0 0 0 ∧ ε 4 = .ref 1 0 0 ∧ ε 7 = .v (.bool false)) ∧ σ = [.obj 0 (aIx ix0), .obj 0 (aIx ix0)]) ?_ ?_
    · intro N X R hN
      simp (maxSteps:=999999) -implicitDefEqProofs (disch:=omega) only [push_cast,↓reduceIte,Nat.reduceEqDiff,reduceCtorEq,wz,hρ,hW0]
      refine wpa_call hOf ?_
      rintro a rfl
      simp (maxSteps:=999999) -implicitDefEqProofs (disch:=omega) only [push_cast,↓reduceIte,Nat.reduceEqDiff,reduceCtorEq,wz,aInt,aBool]
      exact hN _ _ ⟨by simp (maxSteps:=999999) -implicitDefEqProofs (disch:=omega) only [push_cast,↓reduceIte,Nat.reduceEqDiff,reduceCtorEq,wz,hρ], rfl⟩
    clear hρ ε
    rintro ε σ ⟨hρ, rfl⟩
    refine wpa_seq (fun ε σ => False) ?_ (fun _ _ h => h.elim)
    intro N hN
    simp (maxSteps:=999999) -implicitDefEqProofs (disch:=omega) only [push_cast,↓reduceIte,Nat.reduceEqDiff,reduceCtorEq,wz,hρ,cellsIx']
    refine wpa_stn (cs := aIx ix0) rfl rfl rfl (by decide) ?_
    simp (maxSteps:=999999) -implicitDefEqProofs (disch:=omega) only [push_cast,↓reduceIte,Nat.reduceEqDiff,reduceCtorEq,wz,hρ,ix_st,cellsIx',aInt]
    exact ⟨[], rfl, rfl⟩
  | some op =>
    rw [ho] at hOf
    have hfl := opOf_len ho
    obtain ⟨ho1, _⟩ := opOf_some ho
    simp only
    refine wpa_seqx (fun ε σ => (ε 2 = .ref 0 0 0 ∧ ε 4 = .ref 1 0 0 ∧ ε 5 = .sl W.length (W.map aB) .none ∧ ε 6 = .v (.int .i64 op) ∧ ε 7 = .v (.bool true)) ∧ σ = [.obj 0 (aIx ix0), .obj 0 (aIx ix0)]) ?_ ?_
    · intro N X R hN
      simp (maxSteps:=999999) -implicitDefEqProofs (disch:=omega) only [push_cast,↓reduceIte,Nat.reduceEqDiff,reduceCtorEq,wz,hρ,hW0]
      refine wpa_call hOf ?_
      rintro a rfl
      simp (maxSteps:=999999) -implicitDefEqProofs (disch:=omega) only [push_cast,↓reduceIte,Nat.reduceEqDiff,reduceCtorEq,wz,aInt,aBool]
      exact hN _ _ ⟨by simp (maxSteps:=999999) -implicitDefEqProofs (disch:=omega) only [push_cast,↓reduceIte,Nat.reduceEqDiff,reduceCtorEq,wz,hρ], rfl⟩
    clear hρ ε
    rintro ε σ ⟨hρ, rfl⟩
    refine wpa_seqx (fun ε σ => (ε 2 = .ref 0 0 0 ∧ ε 4 = .ref 1 0 0 ∧ ε 5 = .sl W.length (W.map aB) .none ∧ ε 6 = .v (.int .i64 op)) ∧ σ = [.obj 0 (aIx ix0), .obj 0 (aIx ix0)]) ?_ ?_
    · intro N X R hN
      simp (maxSteps:=999999) -implicitDefEqProofs (disch:=omega) only [push_cast,↓reduceIte,Nat.reduceEqDiff,reduceCtorEq,wz,hρ]
      exact hN _ _ ⟨by simp (maxSteps:=999999) -implicitDefEqProofs (disch:=omega) only [push_cast,↓reduceIte,Nat.reduceEqDiff,reduceCtorEq,wz,hρ], rfl⟩
    clear hρ ε
    rintro ε σ ⟨hρ, rfl⟩
    refine wpa_seqx (fun ε σ => ∃ acc : List Int, (operE ws (flen op) = 0 → acc = (numsGo ws []).1) ∧ (ε 2 = .ref 0 0 0 ∧ ε 4 = .ref 1 0 0 ∧ ε 6 = .v (.int .i64 op) ∧ ε 8 = .ref 2 0 0 ∧ ε 9 = .v (.int .i64 (operE ws (flen op)))) ∧ σ = [.obj 0 (aIx ix0), .obj 0 (aIx ix0), .obj 0 (padI acc)]) ?_ ?_
    · intro N X R hN
      have hoper : FnP Tryd.prog 68 [.sl ws.length (ws.map aB) .none, .v (.int .i64 ((fmS op).size : Nat))] fun a => ∃ acc, a = .tup [.agg (padI acc), aInt (operE ws (flen op))] ∧ (operE ws (flen op) = 0 → acc = (numsGo ws []).1) := asm_operands_a ws (flen op) hfl hws1 hws2
      have hform : FnP Tryd.prog 69 [.v (.int .i64 op)] fun a => a = .v (.string (fmS op)) := ins_Form_a op
      have hz3 : [AV.v (.int .i64 0), AV.v (.int .i64 0), AV.v (.int .i64 0)] = padI [] := rfl
      simp (maxSteps:=999999) -implicitDefEqProofs (disch:=omega) only [push_cast,↓reduceIte,Nat.reduceEqDiff,reduceCtorEq,wz,hρ,hsub,hsl]
      refine ⟨?_, ?_⟩
      · refine wpa_call hform ?_
        rintro a rfl
        simp (maxSteps:=999999) -implicitDefEqProofs (disch:=omega) only [push_cast,↓reduceIte,Nat.reduceEqDiff,reduceCtorEq,wz,hρ,hsub,hsl]
        refine ⟨?_, ?_⟩
        · refine wpa_call hoper ?_
          rintro a ⟨acc, rfl, hacc⟩
          simp (maxSteps:=999999) -implicitDefEqProofs (disch:=omega) only [push_cast,↓reduceIte,Nat.reduceEqDiff,reduceCtorEq,wz,hρ,aInt]
          refine wpa_new ?_
          simp (maxSteps:=999999) -implicitDefEqProofs (disch:=omega) only [push_cast,↓reduceIte,Nat.reduceEqDiff,reduceCtorEq,wz,hρ]
          refine wpa_stn (cs := padI []) (l := padI acc) rfl rfl rfl (by decide) ?_
          simp (maxSteps:=999999) -implicitDefEqProofs (disch:=omega) only [push_cast,↓reduceIte,Nat.reduceEqDiff,reduceCtorEq,wz,hρ]
          exact hN _ _ ⟨acc, hacc, by simp (maxSteps:=999999) -implicitDefEqProofs (disch:=omega) only [push_cast,↓reduceIte,Nat.reduceEqDiff,reduceCtorEq,wz,hρ], rfl⟩
        · refine wpa_new ?_
          simp (maxSteps:=999999) -implicitDefEqProofs (disch:=omega) only [push_cast,↓reduceIte,Nat.reduceEqDiff,reduceCtorEq,wz,hρ]
          refine wpa_call hoper ?_
          rintro a ⟨acc, rfl, hacc⟩
          simp (maxSteps:=999999) -implicitDefEqProofs (disch:=omega) only [push_cast,↓reduceIte,Nat.reduceEqDiff,reduceCtorEq,wz,hρ,aInt]
          refine wpa_stn (cs := padI []) (l := padI acc) rfl rfl rfl (by decide) ?_
          simp (maxSteps:=999999) -implicitDefEqProofs (disch:=omega) only [push_cast,↓reduceIte,Nat.reduceEqDiff,reduceCtorEq,wz,hρ]
          exact hN _ _ ⟨acc, hacc, by simp (maxSteps:=999999) -implicitDefEqProofs (disch:=omega) only [push_cast,↓reduceIte,Nat.reduceEqDiff,reduceCtorEq,wz,hρ], rfl⟩
      · refine wpa_new ?_
        simp (maxSteps:=999999) -implicitDefEqProofs (disch:=omega) only [push_cast,↓reduceIte,Nat.reduceEqDiff,reduceCtorEq,wz,hρ]
        refine wpa_call hform ?_
        rintro a rfl
        simp (maxSteps:=999999) -implicitDefEqProofs (disch:=omega) only [push_cast,↓reduceIte,Nat.reduceEqDiff,reduceCtorEq,wz,hρ,hsub,hsl]
        refine wpa_call hoper ?_
        rintro a ⟨acc, rfl, hacc⟩
        simp (maxSteps:=999999) -implicitDefEqProofs (disch:=omega) only [push_cast,↓reduceIte,Nat.reduceEqDiff,reduceCtorEq,wz,hρ,aInt]
        refine wpa_stn (cs := padI []) (l := padI acc) rfl rfl rfl (by decide) ?_
        simp (maxSteps:=999999) -implicitDefEqProofs (disch:=omega) only [push_cast,↓reduceIte,Nat.reduceEqDiff,reduceCtorEq,wz,hρ]
        exact hN _ _ ⟨acc, hacc, by simp (maxSteps:=999999) -implicitDefEqProofs (disch:=omega) only [push_cast,↓reduceIte,Nat.reduceEqDiff,reduceCtorEq,wz,hρ], rfl⟩
    clear hρ ε
    rintro ε σ ⟨acc, hacc, hρ, rfl⟩
    have hP : parseO op ws = if operE ws (flen op) = 0 then (if insE (mkIx op (numsGo ws []).1) = 0 then (mkIx op (numsGo ws []).1, 0) else (ix0, insE (mkIx op (numsGo ws []).1))) else (ix0, operE ws (flen op)) := by
      unfold parseO operE
      split
      · rfl
      · split
        · rfl
        · split <;> rfl
    rw [hP]
    refine wpa_seq (fun ε σ => ((ε 2 = .ref 0 0 0 ∧ ε 4 = .ref 1 0 0 ∧ ε 6 = .v (.int .i64 op) ∧ ε 8 = .ref 2 0 0) ∧ σ = [.obj 0 (aIx ix0), .obj 0 (aIx ix0), .obj 0 (padI acc)]) ∧ operE ws (flen op) = 0) ?_ ?_
    · intro N hN
      by_cases h0 : operE ws (flen op) = 0
      · simp (maxSteps:=999999) -implicitDefEqProofs (disch:=omega) only [push_cast,↓reduceIte,Nat.reduceEqDiff,reduceCtorEq,wz,hρ,h0]
        exact hN _ _ ⟨⟨by simp (maxSteps:=999999) -implicitDefEqProofs (disch:=omega) only [push_cast,↓reduceIte,Nat.reduceEqDiff,reduceCtorEq,wz,hρ], rfl⟩, h0⟩
      · rw [if_neg h0]
        simp (maxSteps:=999999) -implicitDefEqProofs (disch:=omega) only [push_cast,↓reduceIte,Nat.reduceEqDiff,reduceCtorEq,wz,hρ,h0,cellsIx']
        refine wpa_stn (cs := aIx ix0) rfl rfl rfl (by decide) ?_
        simp (maxSteps:=999999) -implicitDefEqProofs (disch:=omega) only [push_cast,↓reduceIte,Nat.reduceEqDiff,reduceCtorEq,wz,hρ,ix_st,cellsIx',aInt]
        exact ⟨[], rfl, rfl⟩
    clear hρ ε
    rintro ε σ ⟨⟨hρ, rfl⟩, h0⟩
    rw [if_pos h0, ← hacc h0]
    clear hP
    have hb : fillA [AV.v (.int .i64 0), AV.v (.int .i64 0), AV.v (.int .i64 0), AV.v (.int .i64 0)] [(0, 1), (1, 1), (2, 1), (3, 1)] [AV.v (.int .i64 op), AV.v (.int .i64 (acc.getD 0 0)), AV.v (.int .i64 (acc.getD 1 0)), AV.v (.int .i64 (acc.getD 2 0))] = some (aIx (mkIx op acc)) := by simp [fillA, AV.cells, Value.cells, setAtA, aIx, mkIx]
    have q0 : (padI acc)[Int.toNat 0]? = some (.v (.int .i64 (acc.getD 0 0))) := rfl
    have q1 : (padI acc)[Int.toNat 1]? = some (.v (.int .i64 (acc.getD 1 0))) := rfl
    have q2 : (padI acc)[Int.toNat 2]? = some (.v (.int .i64 (acc.getD 2 0))) := rfl
    refine wpa_seqx (fun ε σ => (ε 2 = .ref 0 0 0 ∧ ε 4 = .ref 1 0 0 ∧ ε 10 = .ref 3 0 0) ∧ σ = [.obj 0 (aIx ix0), .obj 0 (aIx ix0), .obj 0 (padI acc), .obj 0 (aIx (mkIx op acc))]) ?_ ?_
    · intro N X R hN
      simp (maxSteps:=999999) -implicitDefEqProofs (disch:=omega) only [push_cast,↓reduceIte,Nat.reduceEqDiff,reduceCtorEq,wz,hρ,q0,q1,q2,hb]
      refine wpa_new ?_
      simp (maxSteps:=999999) -implicitDefEqProofs (disch:=omega) only [push_cast,↓reduceIte,Nat.reduceEqDiff,reduceCtorEq,wz,hρ]
      refine wpa_stn (cs := aIx ix0) (l := aIx (mkIx op acc)) rfl rfl rfl (by decide) ?_
      simp (maxSteps:=999999) -implicitDefEqProofs (disch:=omega) only [push_cast,↓reduceIte,Nat.reduceEqDiff,reduceCtorEq,wz,hρ]
      exact hN _ _ ⟨by simp (maxSteps:=999999) -implicitDefEqProofs (disch:=omega) only [push_cast,↓reduceIte,Nat.reduceEqDiff,reduceCtorEq,wz,hρ], rfl⟩
    clear hρ ε
    rintro ε σ ⟨hρ, rfl⟩
    generalize mkIx op acc = x
    refine wpa_seq (fun ε σ => ((ε 2 = .ref 0 0 0 ∧ ε 10 = .ref 3 0 0) ∧ σ = [.obj 0 (aIx ix0), .obj 0 (aIx ix0), .obj 0 (padI acc), .obj 0 (aIx x)]) ∧ insE x = 0) ?_ ?_
    · intro N hN
      simp (maxSteps:=999999) -implicitDefEqProofs (disch:=omega) only [push_cast,↓reduceIte,Nat.reduceEqDiff,reduceCtorEq,wz,hρ,cellsIx']
      refine wpa_call (ins_Check_a x) ?_
      rintro a rfl
      by_cases hi : insE x = 0
      · simp (maxSteps:=999999) -implicitDefEqProofs (disch:=omega) only [push_cast,↓reduceIte,Nat.reduceEqDiff,reduceCtorEq,wz,hρ,aInt,hi]
        exact hN _ _ ⟨⟨by simp (maxSteps:=999999) -implicitDefEqProofs (disch:=omega) only [push_cast,↓reduceIte,Nat.reduceEqDiff,reduceCtorEq,wz,hρ], rfl⟩, hi⟩
      · rw [if_neg hi]
        simp (maxSteps:=999999) -implicitDefEqProofs (disch:=omega) only [push_cast,↓reduceIte,Nat.reduceEqDiff,reduceCtorEq,wz,hρ,aInt,hi,cellsIx']
        refine wpa_stn (cs := aIx ix0) rfl rfl rfl (by decide) ?_
        simp (maxSteps:=999999) -implicitDefEqProofs (disch:=omega) only [push_cast,↓reduceIte,Nat.reduceEqDiff,reduceCtorEq,wz,hρ,ix_st,cellsIx',aInt]
        exact ⟨[], rfl, rfl⟩
    clear hρ ε
    rintro ε σ ⟨⟨hρ, rfl⟩, hi⟩
    rw [if_pos hi]
    simp (maxSteps:=999999) -implicitDefEqProofs (disch:=omega) only [push_cast,↓reduceIte,Nat.reduceEqDiff,reduceCtorEq,wz,hρ,cellsIx']
    refine wpa_stn (cs := aIx ix0) rfl rfl rfl (by decide) ?_
    simp (maxSteps:=999999) -implicitDefEqProofs (disch:=omega) only [push_cast,↓reduceIte,Nat.reduceEqDiff,reduceCtorEq,wz,hρ,ix_st,cellsIx',aInt]
    exact ⟨[], rfl, rfl⟩
end Go.Proofs.YtjdpejggafefjaaDoor
/- The document's Parse. -/
namespace Go.Proofs.YtjdpejggafefjaaDoor
set_option linter.unusedVariables false
set_option linter.unusedSimpArgs false
open Go Go.Kx Go.Proofs

def opK (w : List UInt8) (k : Nat) : Int := match opOf w with | some j => if j < k then j else -1 | none => -1
theorem opK_hit {w : List UInt8} {k : Nat} (h : k < 26) (he : nameF k = w) : opK w (k + 1) = k := by
  have := opOf_name k h
  rw [he] at this
  unfold opK
  rw [this]
  simp
theorem opK_miss {w : List UInt8} {k : Nat} (he : nameF k ≠ w) : opK w (k + 1) = opK w k := by
  unfold opK
  cases h : opOf w with
  | none => rfl
  | some j =>
    have := (opOf_some h).2
    have hjk : j ≠ k := by rintro rfl; exact he this
    simp only
    by_cases hj : j < k
    · rw [if_pos hj, if_pos (by omega)]
    · rw [if_neg hj, if_neg (by omega)]
theorem opK_end (w : List UInt8) : opK w 26 = match opOf w with | some j => (j : Int) | none => -1 := by
  unfold opK
  cases h : opOf w with
  | none => rfl
  | some j =>
    have := (opOf_some h).1
    simp only
    rw [if_pos this]
set_option maxHeartbeats 8000000 in
theorem ref06_Parse_a (l : List UInt8) (hl : l.length ≤ 100000) : FnP Tryd.prog 40 [aB l] fun a => a = aPx (parseF l) := by
  refine fnP_in K_forebayref06_Parse mixed rfl rfl ?_
  simp only [S_forebayref06_Parse]
  have hb0 : fillA [AV.v (.int .i64 0), AV.v (.int .i64 0), AV.v (.int .i64 0), AV.v (.int .i64 0)] [] [] = some (aIx ix0) := rfl
  refine wpa_seqx (fun ε σ => (ε 0 = aB l ∧ ε 2 = .ref 0 0 0) ∧ σ = [.obj 0 (aIx ix0)]) ?_ ?_
  · intro N X R hN
    simp (maxSteps:=999999) -implicitDefEqProofs (disch:=omega) only [push_cast,↓reduceIte,Nat.reduceEqDiff,reduceCtorEq,wz]
    refine wpa_new ?_
    simp (maxSteps:=999999) -implicitDefEqProofs (disch:=omega) only [push_cast,↓reduceIte,Nat.reduceEqDiff,reduceCtorEq,wz]
    exact hN _ _ ⟨by simp (maxSteps:=999999) -implicitDefEqProofs (disch:=omega) only [push_cast,↓reduceIte,Nat.reduceEqDiff,reduceCtorEq,wz], rfl⟩
  rintro ε σ ⟨hρ, rfl⟩
  refine wpa_seqx (fun ε σ => (ε 0 = aB l ∧ ε 2 = .ref 0 0 0 ∧ ε 4 = .ref 1 0 0) ∧ σ = [.obj 0 (aIx ix0), .obj 0 (aIx ix0)]) ?_ ?_
  · intro N X R hN
    simp (maxSteps:=999999) -implicitDefEqProofs (disch:=omega) only [push_cast,↓reduceIte,Nat.reduceEqDiff,reduceCtorEq,wz,hρ,hb0]
    refine wpa_new ?_
    simp (maxSteps:=999999) -implicitDefEqProofs (disch:=omega) only [push_cast,↓reduceIte,Nat.reduceEqDiff,reduceCtorEq,wz,hρ]
    refine wpa_stn (cs := aIx ix0) (l := aIx ix0) rfl rfl rfl (by decide) ?_
    simp (maxSteps:=999999) -implicitDefEqProofs (disch:=omega) only [push_cast,↓reduceIte,Nat.reduceEqDiff,reduceCtorEq,wz,hρ]
    exact hN _ _ ⟨by simp (maxSteps:=999999) -implicitDefEqProofs (disch:=omega) only [push_cast,↓reduceIte,Nat.reduceEqDiff,reduceCtorEq,wz,hρ], rfl⟩
  clear hρ ε
  rintro ε σ ⟨hρ, rfl⟩
  refine wpa_seq (fun ε σ => ((ε 0 = aB l ∧ ε 2 = .ref 0 0 0 ∧ ε 4 = .ref 1 0 0) ∧ σ = [.obj 0 (aIx ix0), .obj 0 (aIx ix0)]) ∧ l.length ≤ 400) ?_ ?_
  · intro N hN
    unfold parseF
    by_cases h : 400 < l.length
    · have h' : (400 : Int) < (bA l).size := by rw [size_bA]; omega
      rw [if_pos h]
      simp (maxSteps:=999999) -implicitDefEqProofs (disch:=omega) only [push_cast,↓reduceIte,Nat.reduceEqDiff,reduceCtorEq,wz,hρ,h',cellsIx']
      refine wpa_stn (cs := aIx ix0) rfl rfl rfl (by decide) ?_
      simp (maxSteps:=999999) -implicitDefEqProofs (disch:=omega) only [push_cast,↓reduceIte,Nat.reduceEqDiff,reduceCtorEq,wz,hρ,ix_st,cellsIx',aInt]
      exact ⟨[], rfl, rfl⟩
    · have h' : ¬ (400 : Int) < (bA l).size := by rw [size_bA]; omega
      simp (maxSteps:=999999) -implicitDefEqProofs (disch:=omega) only [push_cast,↓reduceIte,Nat.reduceEqDiff,reduceCtorEq,wz,hρ,h']
      exact hN _ _ ⟨⟨by simp (maxSteps:=999999) -implicitDefEqProofs (disch:=omega) only [push_cast,↓reduceIte,Nat.reduceEqDiff,reduceCtorEq,wz,hρ], rfl⟩, by omega⟩
  clear hρ ε
  rintro ε σ ⟨⟨hρ, rfl⟩, h400⟩
  have hF : parseF l = parseW (wrds l) := by unfold parseF; rw [if_neg (by omega)]
  rw [hF]
  have hWl : (wrds l).length ≤ l.length ∧ ∀ x ∈ wrds l, x.length ≤ l.length := by
    have := partsB_len (sign := 32) (em := false) l []
    simpa using this
  have hfd := ref05_Fields_a (bA l) (by rw [size_bA]; omega)
  rw [show (bA l).data.toList = l by simp] at hfd
  change FnP _ _ _ (fun a => a = aSl aB (wrds l)) at hfd
  generalize wrds l = W at hfd hWl
  refine wpa_seqx (fun ε σ => (ε 2 = .ref 0 0 0 ∧ ε 4 = .ref 1 0 0 ∧ ε 5 = .sl W.length (W.map aB) .none) ∧ σ = [.obj 0 (aIx ix0), .obj 0 (aIx ix0)]) ?_ ?_
  · intro N X R hN
    simp (maxSteps:=999999) -implicitDefEqProofs (disch:=omega) only [push_cast,↓reduceIte,Nat.reduceEqDiff,reduceCtorEq,wz,hρ]
    refine wpa_call hfd ?_
    rintro a rfl
    simp (maxSteps:=999999) -implicitDefEqProofs (disch:=omega) only [push_cast,↓reduceIte,Nat.reduceEqDiff,reduceCtorEq,wz,aSl]
    exact hN _ _ ⟨by simp (maxSteps:=999999) -implicitDefEqProofs (disch:=omega) only [push_cast,↓reduceIte,Nat.reduceEqDiff,reduceCtorEq,wz,hρ], rfl⟩
  clear hρ ε
  rintro ε σ ⟨hρ, rfl⟩
  refine wpa_seq (fun ε σ => ((ε 2 = .ref 0 0 0 ∧ ε 4 = .ref 1 0 0 ∧ ε 5 = .sl W.length (W.map aB) .none) ∧ σ = [.obj 0 (aIx ix0), .obj 0 (aIx ix0)]) ∧ W ≠ []) ?_ ?_
  · intro N hN
    cases W with
    | nil =>
      simp (maxSteps:=999999) -implicitDefEqProofs (disch:=omega) only [push_cast,↓reduceIte,Nat.reduceEqDiff,reduceCtorEq,wz,hρ,cellsIx']
      refine wpa_stn (cs := aIx ix0) rfl rfl rfl (by decide) ?_
      simp (maxSteps:=999999) -implicitDefEqProofs (disch:=omega) only [push_cast,↓reduceIte,Nat.reduceEqDiff,reduceCtorEq,wz,hρ,ix_st,cellsIx',aInt]
      exact ⟨[], rfl, rfl⟩
    | cons w ws =>
      have h' : ¬ (((w :: ws).length : Int) = 0) := by have : (w :: ws).length = ws.length + 1 := rfl; omega
      generalize w :: ws = W at h' hρ hN ⊢
      simp (maxSteps:=999999) -implicitDefEqProofs (disch:=omega) only [push_cast,↓reduceIte,Nat.reduceEqDiff,reduceCtorEq,wz,hρ,h']
      exact hN _ _ ⟨⟨by simp (maxSteps:=999999) -implicitDefEqProofs (disch:=omega) only [push_cast,↓reduceIte,Nat.reduceEqDiff,reduceCtorEq,wz,hρ], rfl⟩, by rintro rfl; exact h' rfl⟩
  clear hρ ε
  rintro ε σ ⟨⟨hρ, rfl⟩, hne⟩
  obtain ⟨w, ws, rfl⟩ : ∃ w ws, W = w :: ws := by cases W with | nil => exact absurd rfl hne | cons w ws => exact ⟨w, ws, rfl⟩
  have hlc : (w :: ws).length = ws.length + 1 := rfl
  have hws1 : ws.length ≤ 1000000 := by have := hWl.1; omega
  have hws2 : ∀ x ∈ ws, x.length ≤ 1000000 := fun x hx => by have := hWl.2 x (by simp [hx]); omega
  have hW0 : (w :: ws)[Int.toNat 0]? = some w := rfl
  have hWs : ∀ i : Nat, (w :: ws)[i + 1]? = ws[i]? := fun i => rfl
  simp only [parseW]
  generalize w :: ws = W at hρ hW0 hlc hWs
  refine wpa_seqx (fun ε σ => (ε 2 = .ref 0 0 0 ∧ ε 4 = .ref 1 0 0 ∧ ε 5 = .sl W.length (W.map aB) .none ∧ ε 6 = .v (.int .i64 (-1))) ∧ σ = [.obj 0 (aIx ix0), .obj 0 (aIx ix0)]) ?_ ?_
  · intro N X R hN
    simp (maxSteps:=999999) -implicitDefEqProofs (disch:=omega) only [push_cast,↓reduceIte,Nat.reduceEqDiff,reduceCtorEq,wz,hρ]
    exact hN _ _ ⟨by simp (maxSteps:=999999) -implicitDefEqProofs (disch:=omega) only [push_cast,↓reduceIte,Nat.reduceEqDiff,reduceCtorEq,wz,hρ], rfl⟩
  clear hρ ε
  rintro ε σ ⟨hρ, rfl⟩
  refine wpa_seqx (fun ε σ => (ε 2 = .ref 0 0 0 ∧ ε 4 = .ref 1 0 0 ∧ ε 5 = .sl W.length (W.map aB) .none ∧ ε 6 = .v (.int .i64 (-1)) ∧ ε 7 = .sl 26 namesA .none) ∧ σ = [.obj 0 (aIx ix0), .obj 0 (aIx ix0)]) ?_ ?_
  · intro N X R hN
    simp (maxSteps:=999999) -implicitDefEqProofs (disch:=omega) only [push_cast,↓reduceIte,Nat.reduceEqDiff,reduceCtorEq,wz,hρ]
    refine wpa_call ref03_Names_a ?_
    rintro a rfl
    simp (maxSteps:=999999) -implicitDefEqProofs (disch:=omega) only [push_cast,↓reduceIte,Nat.reduceEqDiff,reduceCtorEq,wz,hρ]
    exact hN _ _ ⟨by simp (maxSteps:=999999) -implicitDefEqProofs (disch:=omega) only [push_cast,↓reduceIte,Nat.reduceEqDiff,reduceCtorEq,wz,hρ], rfl⟩
  clear hρ ε
  rintro ε σ ⟨hρ, rfl⟩
  refine wpa_seqx (fun ε σ => (ε 2 = .ref 0 0 0 ∧ ε 4 = .ref 1 0 0 ∧ ε 5 = .sl W.length (W.map aB) .none ∧ ε 6 = .v (.int .i64 (opK w 26))) ∧ σ = [.obj 0 (aIx ix0), .obj 0 (aIx ix0)]) ?_ ?_
  · intro N X R hN
    simp (maxSteps:=999999) -implicitDefEqProofs (disch:=omega) only [push_cast,↓reduceIte,Nat.reduceEqDiff,reduceCtorEq,wz,hρ]
    refine wpa_blx (α := Nat) (I := fun k ε σ => (ε 2 = .ref 0 0 0 ∧ ε 4 = .ref 1 0 0 ∧ ε 5 = .sl W.length (W.map aB) .none ∧ ε 6 = .v (.int .i64 (opK w k)) ∧ ε 7 = .sl 26 namesA .none ∧ ε 8 = .v (.int .i64 k)) ∧ k ≤ 26 ∧ σ = [.obj 0 (aIx ix0), .obj 0 (aIx ix0)])
      (μ := fun k => 26 - k) (Q := fun ε σ => (ε 2 = .ref 0 0 0 ∧ ε 4 = .ref 1 0 0 ∧ ε 5 = .sl W.length (W.map aB) .none ∧ ε 6 = .v (.int .i64 (opK w 26))) ∧ σ = [.obj 0 (aIx ix0), .obj 0 (aIx ix0)]) (x := 0) ?_ ?_ hN
    · refine ⟨by simp (maxSteps:=999999) -implicitDefEqProofs (disch:=omega) only [push_cast,↓reduceIte,Nat.reduceEqDiff,reduceCtorEq,wz,hρ]; unfold opK; cases opOf w <;> rfl, by omega, rfl⟩
    · clear hN N X R hρ ε
      rintro k ε σ N E X R ⟨hρ, hk, rfl⟩ hN hE
      simp only [S_forebayref06_Parse_L1]
      by_cases hlt : k < 26
      · have hkl : (k : Int) < 26 := by omega
        have hat := namesA_at hlt
        by_cases he : nameF k = w
        · have hop := opK_hit hlt he
          simp (maxSteps:=999999) -implicitDefEqProofs (disch:=omega) only [push_cast,↓reduceIte,Nat.reduceEqDiff,reduceCtorEq,wz,hρ,hkl,hat,hW0,he]
          exact hN (k + 1) _ _ ⟨by simp (maxSteps:=999999) -implicitDefEqProofs (disch:=omega) only [push_cast,↓reduceIte,Nat.reduceEqDiff,reduceCtorEq,wz,hρ,hop], by omega, rfl⟩ (by omega)
        · have hne2 := ne_bA he
          have hop := opK_miss (k := k) he
          simp (maxSteps:=999999) -implicitDefEqProofs (disch:=omega) only [push_cast,↓reduceIte,Nat.reduceEqDiff,reduceCtorEq,wz,hρ,hkl,hat,hW0,hne2]
          exact hN (k + 1) _ _ ⟨by simp (maxSteps:=999999) -implicitDefEqProofs (disch:=omega) only [push_cast,↓reduceIte,Nat.reduceEqDiff,reduceCtorEq,wz,hρ,hop], by omega, rfl⟩ (by omega)
      · have hle : ¬ (k : Int) < 26 := by omega
        obtain rfl : k = 26 := by omega
        simp (maxSteps:=999999) -implicitDefEqProofs (disch:=omega) only [push_cast,↓reduceIte,Nat.reduceEqDiff,reduceCtorEq,wz,hρ,hle]
        exact hE _ _ ⟨by simp (maxSteps:=999999) -implicitDefEqProofs (disch:=omega) only [push_cast,↓reduceIte,Nat.reduceEqDiff,reduceCtorEq,wz,hρ], rfl⟩
  clear hρ ε
  rintro ε σ ⟨hρ, rfl⟩
  rw [opK_end] at hρ
  cases ho : opOf w with
  | none =>
    rw [ho] at hρ
    simp only at hρ ⊢
    refine wpa_seq (fun ε σ => False) ?_ (fun _ _ h => h.elim)
    intro N hN
    simp (maxSteps:=999999) -implicitDefEqProofs (disch:=omega) only [push_cast,↓reduceIte,Nat.reduceEqDiff,reduceCtorEq,wz,hρ,cellsIx']
    refine wpa_stn (cs := aIx ix0) rfl rfl rfl (by decide) ?_
    simp (maxSteps:=999999) -implicitDefEqProofs (disch:=omega) only [push_cast,↓reduceIte,Nat.reduceEqDiff,reduceCtorEq,wz,hρ,ix_st,cellsIx',aInt]
    exact ⟨[], rfl, rfl⟩
  | some op =>
    rw [ho] at hρ
    simp only at hρ ⊢
    have hfl := opOf_len ho
    obtain ⟨ho1, _⟩ := opOf_some ho
    have hop0 : ¬ ((op : Int) < 0) := by omega
    have hfe : (fmS op).size = flen op := rfl
    refine wpa_seqx (fun ε σ => (ε 2 = .ref 0 0 0 ∧ ε 4 = .ref 1 0 0 ∧ ε 5 = .sl W.length (W.map aB) .none ∧ ε 6 = .v (.int .i64 op)) ∧ σ = [.obj 0 (aIx ix0), .obj 0 (aIx ix0)]) ?_ ?_
    · intro N X R hN
      simp (maxSteps:=999999) -implicitDefEqProofs (disch:=omega) only [push_cast,↓reduceIte,Nat.reduceEqDiff,reduceCtorEq,wz,hρ,hop0]
      exact hN _ _ ⟨by simp (maxSteps:=999999) -implicitDefEqProofs (disch:=omega) only [push_cast,↓reduceIte,Nat.reduceEqDiff,reduceCtorEq,wz,hρ], rfl⟩
    clear hρ ε
    rintro ε σ ⟨hρ, rfl⟩
    refine wpa_seqx (fun ε σ => (ε 2 = .ref 0 0 0 ∧ ε 4 = .ref 1 0 0 ∧ ε 5 = .sl W.length (W.map aB) .none ∧ ε 6 = .v (.int .i64 op) ∧ ε 9 = .v (.int .i64 (flen op))) ∧ σ = [.obj 0 (aIx ix0), .obj 0 (aIx ix0)]) ?_ ?_
    · intro N X R hN
      simp (maxSteps:=999999) -implicitDefEqProofs (disch:=omega) only [push_cast,↓reduceIte,Nat.reduceEqDiff,reduceCtorEq,wz,hρ]
      refine wpa_call (ref03_Form_a op (by omega) (by omega)) ?_
      rintro a rfl
      simp (maxSteps:=999999) -implicitDefEqProofs (disch:=omega) only [push_cast,↓reduceIte,Nat.reduceEqDiff,reduceCtorEq,wz,hρ,hfe]
      exact hN _ _ ⟨by simp (maxSteps:=999999) -implicitDefEqProofs (disch:=omega) only [push_cast,↓reduceIte,Nat.reduceEqDiff,reduceCtorEq,wz,hρ], rfl⟩
    clear hρ ε
    rintro ε σ ⟨hρ, rfl⟩
    unfold parseO
    have hW1 : ((W.length : Int) - 1) = ws.length := by omega
    have hWb : (W.length : Int) ≤ 10000000 := by omega
    refine wpa_seq (fun ε σ => ((ε 2 = .ref 0 0 0 ∧ ε 4 = .ref 1 0 0 ∧ ε 5 = .sl W.length (W.map aB) .none ∧ ε 6 = .v (.int .i64 op) ∧ ε 9 = .v (.int .i64 (flen op))) ∧ σ = [.obj 0 (aIx ix0), .obj 0 (aIx ix0)]) ∧ ¬ ws.length < flen op) ?_ ?_
    · intro N hN
      by_cases h1 : ws.length < flen op
      · have h1' : (ws.length : Int) < flen op := by omega
        rw [if_pos h1]
        simp (maxSteps:=999999) -implicitDefEqProofs (disch:=omega) only [push_cast,↓reduceIte,Nat.reduceEqDiff,reduceCtorEq,wz,hρ,hW1,h1',cellsIx']
        refine wpa_stn (cs := aIx ix0) rfl rfl rfl (by decide) ?_
        simp (maxSteps:=999999) -implicitDefEqProofs (disch:=omega) only [push_cast,↓reduceIte,Nat.reduceEqDiff,reduceCtorEq,wz,hρ,ix_st,cellsIx',aInt]
        exact ⟨[], rfl, rfl⟩
      · have h1' : ¬ (ws.length : Int) < flen op := by omega
        simp (maxSteps:=999999) -implicitDefEqProofs (disch:=omega) only [push_cast,↓reduceIte,Nat.reduceEqDiff,reduceCtorEq,wz,hρ,hW1,h1']
        exact hN _ _ ⟨⟨by simp (maxSteps:=999999) -implicitDefEqProofs (disch:=omega) only [push_cast,↓reduceIte,Nat.reduceEqDiff,reduceCtorEq,wz,hρ], rfl⟩, h1⟩
    clear hρ ε
    rintro ε σ ⟨⟨hρ, rfl⟩, h1⟩
    rw [if_neg h1]
    refine wpa_seq (fun ε σ => ((ε 2 = .ref 0 0 0 ∧ ε 4 = .ref 1 0 0 ∧ ε 5 = .sl W.length (W.map aB) .none ∧ ε 6 = .v (.int .i64 op) ∧ ε 9 = .v (.int .i64 (flen op))) ∧ σ = [.obj 0 (aIx ix0), .obj 0 (aIx ix0)]) ∧ ¬ flen op < ws.length) ?_ ?_
    · intro N hN
      by_cases h2 : flen op < ws.length
      · have h2' : (flen op : Int) < ws.length := by omega
        rw [if_pos h2]
        simp (maxSteps:=999999) -implicitDefEqProofs (disch:=omega) only [push_cast,↓reduceIte,Nat.reduceEqDiff,reduceCtorEq,wz,hρ,hW1,h2',cellsIx']
        refine wpa_stn (cs := aIx ix0) rfl rfl rfl (by decide) ?_
        simp (maxSteps:=999999) -implicitDefEqProofs (disch:=omega) only [push_cast,↓reduceIte,Nat.reduceEqDiff,reduceCtorEq,wz,hρ,ix_st,cellsIx',aInt]
        exact ⟨[], rfl, rfl⟩
      · have h2' : ¬ (flen op : Int) < ws.length := by omega
        simp (maxSteps:=999999) -implicitDefEqProofs (disch:=omega) only [push_cast,↓reduceIte,Nat.reduceEqDiff,reduceCtorEq,wz,hρ,hW1,h2']
        exact hN _ _ ⟨⟨by simp (maxSteps:=999999) -implicitDefEqProofs (disch:=omega) only [push_cast,↓reduceIte,Nat.reduceEqDiff,reduceCtorEq,wz,hρ], rfl⟩, h2⟩
    clear hρ ε
    rintro ε σ ⟨⟨hρ, rfl⟩, h2⟩
    rw [if_neg h2]
    have hfw : flen op = ws.length := by omega
    rw [hfw] at hρ
    refine wpa_seqx (fun ε σ => (ε 2 = .ref 0 0 0 ∧ ε 4 = .ref 1 0 0 ∧ ε 5 = .sl W.length (W.map aB) .none ∧ ε 6 = .v (.int .i64 op) ∧ ε 9 = .v (.int .i64 ws.length) ∧ ε 10 = .ref 2 0 0) ∧ σ = [.obj 0 (aIx ix0), .obj 0 (aIx ix0), .obj 0 (padI [])]) ?_ ?_
    · intro N X R hN
      simp (maxSteps:=999999) -implicitDefEqProofs (disch:=omega) only [push_cast,↓reduceIte,Nat.reduceEqDiff,reduceCtorEq,wz,hρ]
      refine wpa_new ?_
      simp (maxSteps:=999999) -implicitDefEqProofs (disch:=omega) only [push_cast,↓reduceIte,Nat.reduceEqDiff,reduceCtorEq,wz,hρ]
      exact hN _ _ ⟨by simp (maxSteps:=999999) -implicitDefEqProofs (disch:=omega) only [push_cast,↓reduceIte,Nat.reduceEqDiff,reduceCtorEq,wz,hρ], rfl⟩
    clear hρ ε
    rintro ε σ ⟨hρ, rfl⟩
    refine wpa_seq (fun ε σ => ((ε 2 = .ref 0 0 0 ∧ ε 4 = .ref 1 0 0 ∧ ε 6 = .v (.int .i64 op) ∧ ε 10 = .ref 2 0 0) ∧ σ = [.obj 0 (aIx ix0), .obj 0 (aIx ix0), .obj 0 (padI (numsGo ws []).1)]) ∧ (numsGo ws []).2 = true) ?_ ?_
    · intro N hN
      simp (maxSteps:=999999) -implicitDefEqProofs (disch:=omega) only [push_cast,↓reduceIte,Nat.reduceEqDiff,reduceCtorEq,wz,hρ]
      refine wpa_bl (α := Nat) (I := fun k ε σ => (ε 2 = .ref 0 0 0 ∧ ε 4 = .ref 1 0 0 ∧ ε 5 = .sl W.length (W.map aB) .none ∧ ε 6 = .v (.int .i64 op) ∧ ε 9 = .v (.int .i64 ws.length) ∧ ε 10 = .ref 2 0 0 ∧ ε 11 = .v (.int .i64 k)) ∧ k ≤ ws.length ∧ ∃ acc : List Int, acc.length = k ∧ σ = [.obj 0 (aIx ix0), .obj 0 (aIx ix0), .obj 0 (padI acc)] ∧ numsGo ws [] = numsGo (ws.drop k) acc)
        (μ := fun k => ws.length - k) (Q := fun ε σ => ((ε 2 = .ref 0 0 0 ∧ ε 4 = .ref 1 0 0 ∧ ε 6 = .v (.int .i64 op) ∧ ε 10 = .ref 2 0 0) ∧ σ = [.obj 0 (aIx ix0), .obj 0 (aIx ix0), .obj 0 (padI (numsGo ws []).1)]) ∧ (numsGo ws []).2 = true) (x := 0) ?_ ?_ hN
      · exact ⟨by simp (maxSteps:=999999) -implicitDefEqProofs (disch:=omega) only [push_cast,↓reduceIte,Nat.reduceEqDiff,reduceCtorEq,wz,hρ], by omega, [], rfl, rfl, by rw [List.drop_zero]⟩
      · clear hN N hρ ε
        rintro k ε σ N E ⟨hρ, hk, acc, hal, rfl, hgo⟩ hN hE
        simp only [S_forebayref06_Parse_L2]
        by_cases hlt : k < ws.length
        · obtain ⟨v, hv⟩ := at_lt hlt
          have hkl : (k : Int) < ws.length := by omega
          have hwl2 := hws2 v (List.mem_of_getElem? hv)
          rw [numsGo_at acc hv] at hgo
          have hWk : W[((k : Int) + 1).toNat]? = some v := by rw [show ((k : Int) + 1).toNat = k + 1 by omega, hWs, hv]
          have hWk2 : W[k + 1]? = some v := by rw [hWs, hv]
          have hWkl : (k : Int) + 1 < W.length := by omega
          simp (maxSteps:=999999) -implicitDefEqProofs (disch:=omega) only [push_cast,↓reduceIte,Nat.reduceEqDiff,reduceCtorEq,wz,hρ,hkl,hWk,hWk2]
          refine wpa_call (ref05_Num_a v hwl2) ?_
          rintro a rfl
          cases hn : (numF v).2 with
          | false =>
            rw [hn, if_neg (by simp)] at hgo
            have h2f : ¬ (numsGo ws []).2 = true := by rw [hgo]; simp
            rw [if_neg h2f]
            simp (maxSteps:=999999) -implicitDefEqProofs (disch:=omega) only [push_cast,↓reduceIte,Nat.reduceEqDiff,reduceCtorEq,wz,hρ,aNum,hn,cellsIx']
            refine wpa_stn (cs := aIx ix0) rfl rfl rfl (by decide) ?_
            simp (maxSteps:=999999) -implicitDefEqProofs (disch:=omega) only [push_cast,↓reduceIte,Nat.reduceEqDiff,reduceCtorEq,wz,hρ,ix_st,cellsIx',aInt]
            exact ⟨[], rfl, rfl⟩
          | true =>
            rw [hn, if_pos rfl] at hgo
            simp (maxSteps:=999999) -implicitDefEqProofs (disch:=omega) only [push_cast,↓reduceIte,Nat.reduceEqDiff,reduceCtorEq,wz,hρ,aNum,hn]
            refine wpa_st1 rfl rfl rfl (by rw [padI_len]; omega) ?_
            simp (maxSteps:=999999) -implicitDefEqProofs (disch:=omega) only [push_cast,↓reduceIte,Nat.reduceEqDiff,reduceCtorEq,wz,hρ]
            have hset := padI_set (acc := acc) (by omega) (numF v).1
            rw [hal] at hset
            refine hN (k + 1) _ _ ⟨by simp (maxSteps:=999999) -implicitDefEqProofs (disch:=omega) only [push_cast,↓reduceIte,Nat.reduceEqDiff,reduceCtorEq,wz,hρ], by omega, acc ++ [(numF v).1], by simp [hal], ?_, hgo⟩ (by omega)
            first | rw [hset] | (simp only [hset]) | (rw [← hset]; rfl) | (rw [← hset]; simp)
        · have hle : ¬ (k : Int) < ws.length := by omega
          simp (maxSteps:=999999) -implicitDefEqProofs (disch:=omega) only [push_cast,↓reduceIte,Nat.reduceEqDiff,reduceCtorEq,wz,hρ,hle]
          obtain rfl : k = ws.length := by omega
          rw [List.drop_length] at hgo
          refine hE _ _ ⟨⟨by simp (maxSteps:=999999) -implicitDefEqProofs (disch:=omega) only [push_cast,↓reduceIte,Nat.reduceEqDiff,reduceCtorEq,wz,hρ], ?_⟩, ?_⟩
          · rw [hgo]; rfl
          · rw [hgo]; rfl
    clear hρ ε
    rintro ε σ ⟨⟨hρ, rfl⟩, h3⟩
    rw [if_pos h3]
    generalize (numsGo ws []).1 = acc at hρ ⊢
    have hb : fillA [AV.v (.int .i64 0), AV.v (.int .i64 0), AV.v (.int .i64 0), AV.v (.int .i64 0)] [(0, 1), (1, 1), (2, 1), (3, 1)] [AV.v (.int .i64 op), AV.v (.int .i64 (acc.getD 0 0)), AV.v (.int .i64 (acc.getD 1 0)), AV.v (.int .i64 (acc.getD 2 0))] = some (aIx (mkIx op acc)) := by simp [fillA, AV.cells, Value.cells, setAtA, aIx, mkIx]
    have q0 : (padI acc)[Int.toNat 0]? = some (.v (.int .i64 (acc.getD 0 0))) := rfl
    have q1 : (padI acc)[Int.toNat 1]? = some (.v (.int .i64 (acc.getD 1 0))) := rfl
    have q2 : (padI acc)[Int.toNat 2]? = some (.v (.int .i64 (acc.getD 2 0))) := rfl
    refine wpa_seqx (fun ε σ => (ε 2 = .ref 0 0 0 ∧ ε 4 = .ref 1 0 0 ∧ ε 14 = .ref 3 0 0) ∧ σ = [.obj 0 (aIx ix0), .obj 0 (aIx ix0), .obj 0 (padI acc), .obj 0 (aIx (mkIx op acc))]) ?_ ?_
    · intro N X R hN
      simp (maxSteps:=999999) -implicitDefEqProofs (disch:=omega) only [push_cast,↓reduceIte,Nat.reduceEqDiff,reduceCtorEq,wz,hρ,q0,q1,q2,hb]
      refine wpa_new ?_
      simp (maxSteps:=999999) -implicitDefEqProofs (disch:=omega) only [push_cast,↓reduceIte,Nat.reduceEqDiff,reduceCtorEq,wz,hρ]
      refine wpa_stn (cs := aIx ix0) (l := aIx (mkIx op acc)) rfl rfl rfl (by decide) ?_
      simp (maxSteps:=999999) -implicitDefEqProofs (disch:=omega) only [push_cast,↓reduceIte,Nat.reduceEqDiff,reduceCtorEq,wz,hρ]
      exact hN _ _ ⟨by simp (maxSteps:=999999) -implicitDefEqProofs (disch:=omega) only [push_cast,↓reduceIte,Nat.reduceEqDiff,reduceCtorEq,wz,hρ], rfl⟩
    clear hρ ε
    rintro ε σ ⟨hρ, rfl⟩
    generalize mkIx op acc = x
    refine wpa_seqx (fun ε σ => (ε 2 = .ref 0 0 0 ∧ ε 4 = .ref 1 0 0 ∧ ε 14 = .ref 3 0 0 ∧ ε 15 = .v (.int .i64 (insE x))) ∧ σ = [.obj 0 (aIx ix0), .obj 0 (aIx ix0), .obj 0 (padI acc), .obj 0 (aIx x)]) ?_ ?_
    · intro N X R hN
      simp (maxSteps:=999999) -implicitDefEqProofs (disch:=omega) only [push_cast,↓reduceIte,Nat.reduceEqDiff,reduceCtorEq,wz,hρ,cellsIx']
      refine wpa_call (ref03_Check_a x) ?_
      rintro a rfl
      simp (maxSteps:=999999) -implicitDefEqProofs (disch:=omega) only [push_cast,↓reduceIte,Nat.reduceEqDiff,reduceCtorEq,wz,hρ,aInt]
      exact hN _ _ ⟨by simp (maxSteps:=999999) -implicitDefEqProofs (disch:=omega) only [push_cast,↓reduceIte,Nat.reduceEqDiff,reduceCtorEq,wz,hρ], rfl⟩
    clear hρ ε
    rintro ε σ ⟨hρ, rfl⟩
    by_cases hi : insE x = 0
    · rw [if_pos hi]
      simp (maxSteps:=999999) -implicitDefEqProofs (disch:=omega) only [push_cast,↓reduceIte,Nat.reduceEqDiff,reduceCtorEq,wz,hρ,hi,cellsIx']
      refine wpa_stn (cs := aIx ix0) rfl rfl rfl (by decide) ?_
      simp (maxSteps:=999999) -implicitDefEqProofs (disch:=omega) only [push_cast,↓reduceIte,Nat.reduceEqDiff,reduceCtorEq,wz,hρ,ix_st,cellsIx',aInt]
      exact ⟨[], rfl, rfl⟩
    · rw [if_neg hi]
      simp (maxSteps:=999999) -implicitDefEqProofs (disch:=omega) only [push_cast,↓reduceIte,Nat.reduceEqDiff,reduceCtorEq,wz,hρ,hi,cellsIx']
      refine wpa_stn (cs := aIx ix0) rfl rfl rfl (by decide) ?_
      simp (maxSteps:=999999) -implicitDefEqProofs (disch:=omega) only [push_cast,↓reduceIte,Nat.reduceEqDiff,reduceCtorEq,wz,hρ,ix_st,cellsIx',aInt]
      exact ⟨[], rfl, rfl⟩
end Go.Proofs.YtjdpejggafefjaaDoor
/- asm.full, asm.size; the state of a program that is read. -/
namespace Go.Proofs.YtjdpejggafefjaaDoor
set_option linter.unusedVariables false
set_option linter.unusedSimpArgs false
open Go Go.Kx Go.Proofs

theorem fullL_snoc (ls : List (List UInt8)) (x : List UInt8) : fullL (ls ++ [x]) = if wrds x = [] then fullL ls else fullL ls ++ [x] := by
  unfold fullL
  rw [List.filter_append]
  by_cases h : wrds x = [] <;> simp [h]
set_option maxHeartbeats 4000000 in
theorem asm_full_a (t : List UInt8) (ht : t.length ≤ 100000) : FnP Tryd.prog 75 [aB t] fun a => a = aSl aB (fullL (partsB 10 true [] t)) := by
  refine fnP_in K_asm_full mixed rfl rfl ?_
  simp only [S_asm_full]
  have hl := Lines_a (bA t) (by rw [size_bA]; omega)
  rw [show (bA t).data.toList = t by simp] at hl
  have hLl : (partsB 10 true [] t).length ≤ t.length ∧ ∀ x ∈ partsB 10 true [] t, x.length ≤ t.length := by
    have := partsB_len (sign := 10) (em := true) t []
    simpa using this
  generalize partsB 10 true [] t = L at hl hLl
  simp (maxSteps:=999999) -implicitDefEqProofs (disch:=omega) only [push_cast,↓reduceIte,Nat.reduceEqDiff,reduceCtorEq,wz]
  refine wpa_call hl ?_
  rintro a rfl
  simp (maxSteps:=999999) -implicitDefEqProofs (disch:=omega) only [push_cast,↓reduceIte,Nat.reduceEqDiff,reduceCtorEq,wz,aSl]
  refine wpa_blgx (GU.tok 3 1 rfl) (α := Nat) (I := fun k ε σ => (ε 7 = .sl L.length (L.map aB) .none ∧ ε 8 = .v (.int .i64 L.length) ∧ ε 9 = .v (.int .i64 k)) ∧ k ≤ L.length ∧ ∃ w : Nat, ε 3 = .sl (fullL (L.take k)).length ((fullL (L.take k)).map aB) (.id 0 w 1) ∧ σ[0]? = some (.tail w))
    (μ := fun k => L.length - k) (Q := fun ε σ => ∃ w : Nat, ε 3 = .sl (fullL L).length ((fullL L).map aB) (.id 0 w 1)) (x := 0) ?_ ?_ ?_
  · simp (maxSteps:=999999) -implicitDefEqProofs (disch:=omega) only [push_cast,↓reduceIte,Nat.reduceEqDiff,reduceCtorEq,wz]
    exact ⟨by omega, 0, rfl, rfl⟩
  · rintro k ε σ N E X R ⟨hρ, hk, w, h3, hs0⟩ hN hE
    simp only [S_asm_full_L1]
    by_cases hlt : k < L.length
    · obtain ⟨x, hx⟩ := at_lt hlt
      have hkl : (k : Int) < L.length := by omega
      have hxl := hLl.2 x (List.mem_of_getElem? hx)
      have hfd := Fields_a (bA x) (by rw [size_bA]; omega)
      rw [show (bA x).data.toList = x by simp] at hfd
      have hsn := fullL_snoc (L.take k) x
      rw [← take_succ_at hx] at hsn
      have hfl : (fullL (L.take k)).length ≤ k := by
        unfold fullL
        exact Nat.le_trans (List.length_filter_le _ _) (by rw [List.length_take]; omega)
      simp (maxSteps:=999999) -implicitDefEqProofs (disch:=omega) only [push_cast,↓reduceIte,Nat.reduceEqDiff,reduceCtorEq,wz,hρ,hkl,hx]
      refine wpa_call hfd ?_
      rintro a rfl
      by_cases hw : wrds x = []
      · rw [if_pos hw] at hsn
        have hz : ¬ (0 : Int) < ((partsB 32 false [] x).length : Nat) := by rw [show partsB 32 false [] x = [] from hw]; simp
        simp (maxSteps:=999999) -implicitDefEqProofs (disch:=omega) only [push_cast,↓reduceIte,Nat.reduceEqDiff,reduceCtorEq,wz,hρ,aSl,hz]
        exact hN (k + 1) _ _ ⟨by simp (maxSteps:=999999) -implicitDefEqProofs (disch:=omega) only [push_cast,↓reduceIte,Nat.reduceEqDiff,reduceCtorEq,wz,hρ], by omega, w, by rw [hsn]; simp (maxSteps:=999999) -implicitDefEqProofs (disch:=omega) only [push_cast,↓reduceIte,Nat.reduceEqDiff,reduceCtorEq,wz,h3], hs0⟩ (by omega)
      · rw [if_neg hw] at hsn
        have hz : (0 : Int) < ((partsB 32 false [] x).length : Nat) := by
          have := List.length_pos_iff.2 (show partsB 32 false [] x ≠ [] from hw)
          omega
        simp (maxSteps:=999999) -implicitDefEqProofs (disch:=omega) only [push_cast,↓reduceIte,Nat.reduceEqDiff,reduceCtorEq,wz,hρ,aSl,hz,h3]
        refine wpa_bsl (sz := 1) (by intro a ha; simp at ha; subst ha; rfl) (by simp) ?_
        simp (maxSteps:=999999) -implicitDefEqProofs (disch:=omega) only [push_cast,↓reduceIte,Nat.reduceEqDiff,reduceCtorEq,wz,h3]
        refine wpa_app (m := 1) rfl rfl rfl rfl (by simp) (by omega) (by omega) hs0 ?_
        simp (maxSteps:=999999) -implicitDefEqProofs (disch:=omega) only [push_cast,↓reduceIte,Nat.reduceEqDiff,reduceCtorEq,wz,hρ]
        exact hN (k + 1) _ _ ⟨by simp (maxSteps:=999999) -implicitDefEqProofs (disch:=omega) only [push_cast,↓reduceIte,Nat.reduceEqDiff,reduceCtorEq,wz,hρ], by omega, w + 1, by rw [hsn]; simp (maxSteps:=999999) -implicitDefEqProofs (disch:=omega) only [push_cast,↓reduceIte,Nat.reduceEqDiff,reduceCtorEq,wz]; simp [AV.cells, Value.cells], get_set_eq hs0⟩ (by omega)
    · have hle : ¬ (k : Int) < L.length := by omega
      simp (maxSteps:=999999) -implicitDefEqProofs (disch:=omega) only [push_cast,↓reduceIte,Nat.reduceEqDiff,reduceCtorEq,wz,hρ,hle]
      obtain rfl : k = L.length := by omega
      rw [List.take_length] at h3
      exact hE _ _ ⟨w, by simp (maxSteps:=999999) -implicitDefEqProofs (disch:=omega) only [push_cast,↓reduceIte,Nat.reduceEqDiff,reduceCtorEq,wz,h3]⟩
  · rintro ε σ ⟨w, h3⟩
    simp (maxSteps:=999999) -implicitDefEqProofs (disch:=omega) only [push_cast,↓reduceIte,Nat.reduceEqDiff,reduceCtorEq,wz,h3]
    exact fin_res [] (aSl_res (fun _ => rfl) _ _) (aBl_pure _)
set_option maxHeartbeats 4000000 in
theorem asm_size_a (ws : List (List UInt8)) (hw : ws.length ≤ 1000000) (hwl : ∀ w ∈ ws, w.length ≤ 1000000) : FnP Tryd.prog 76 [aSl aB ws] fun a => a = .tup [aInt (sizeF ws).1, aInt (sizeF ws).2] := by
  refine fnP_in K_asm_size mixed rfl (by simp [AV.pureL, aBl_pure]) ?_
  simp only [S_asm_size]
  have hcase : (∃ a b, ws = [a, b]) ∨ (sizeF ws = (0, 4) ∧ ¬ ((ws.length : Int) = 2)) := by
    match ws with
    | [a, b] => exact .inl ⟨a, b, rfl⟩
    | [] => exact .inr ⟨rfl, by simp⟩
    | [_] => exact .inr ⟨rfl, by simp⟩
    | _ :: _ :: _ :: l => exact .inr ⟨rfl, by simp only [List.length_cons]; omega⟩
  rcases hcase with ⟨x, y, rfl⟩ | ⟨h1, h2⟩
  · have hi0 : ([x, y] : List (List UInt8))[Int.toNat 0]? = some x := rfl
    have hi1 : ([x, y] : List (List UInt8))[Int.toNat 1]? = some y := rfl
    simp only [sizeF]
    by_cases hm : x = memB
    · subst hm
      rw [if_pos rfl]
      have he : bA memB = ⟨#[109, 101, 109, 111, 114, 121]⟩ := rfl
      simp (maxSteps:=999999) -implicitDefEqProofs (disch:=omega) only [push_cast,↓reduceIte,Nat.reduceEqDiff,reduceCtorEq,wz,aSl,hi0,hi1,he]
      refine wpa_call (Num_a y (hwl y (by simp))) ?_
      rintro a rfl
      cases hn : (numF y).2 with
      | false =>
        rw [if_neg (by simp)]
        simp (maxSteps:=999999) -implicitDefEqProofs (disch:=omega) only [push_cast,↓reduceIte,Nat.reduceEqDiff,reduceCtorEq,wz,aNum,hn,aInt]
        exact ⟨[], rfl, rfl⟩
      | true =>
        rw [if_pos rfl]
        simp (maxSteps:=999999) -implicitDefEqProofs (disch:=omega) only [push_cast,↓reduceIte,Nat.reduceEqDiff,reduceCtorEq,wz,aNum,hn,aInt]
        exact ⟨[], rfl, rfl⟩
    · rw [if_neg hm]
      have he : ¬ (bA x = ⟨#[109, 101, 109, 111, 114, 121]⟩) := ne_bA (b := memB) hm
      simp (maxSteps:=999999) -implicitDefEqProofs (disch:=omega) only [push_cast,↓reduceIte,Nat.reduceEqDiff,reduceCtorEq,wz,aSl,hi0,he,aInt]
      exact ⟨[], rfl, rfl⟩
  · rw [h1]
    simp (maxSteps:=999999) -implicitDefEqProofs (disch:=omega) only [push_cast,↓reduceIte,Nat.reduceEqDiff,reduceCtorEq,wz,aSl,h2,aInt]
    exact ⟨[], rfl, rfl⟩

/-! The program that is read. -/
theorem resL_two (τ : Kx.St) : ∀ (xs ys : List AV), AV.resL τ (xs ++ ys) = AV.resL τ xs ++ AV.resL τ ys := by
  intro xs
  induction xs with
  | nil => intro ys; rfl
  | cons x xs ih => intro ys; simp only [List.cons_append, AV.resL, ih]
/-- Who may append to the last function: it is nil, or holds a tail. -/
def TokL (σ : Kx.St) (n0 : Nat) (l : List Ix) (t : Tok) : Prop := (l = [] ∧ t = .nil) ∨ ∃ j w, t = .id j w 4 ∧ n0 ≤ j ∧ σ[j]? = some (.tail w)
def FsAt (σ : Kx.St) (ip n0 : Nat) (m : Int) (fs : List (List Ix)) : Prop := ip < n0 ∧ n0 ≤ σ.length ∧ ((fs = [] ∧ σ[ip]? = some (.obj 0 [.v (.int .i64 m), .sl 0 [] .nil])) ∨
  ∃ (gs : List (List Ix)) (l : List Ix) (ver K : Nat) (ts : List AV) (t : Tok), fs = gs ++ [l] ∧ n0 ≤ K ∧ σ[ip]? = some (.obj 0 [.v (.int .i64 m), .ms K ver 0 (gs.length + 1) 1]) ∧ σ[K]? = some (.obj ver (ts ++ [.sl l.length (l.flatMap aIx) t])) ∧ ts.length = gs.length ∧ (∀ τ, AV.resL τ ts = gs.map aIxs) ∧ TokL σ n0 l t)
theorem addF_bd {l : List UInt8} {fs : List (List Ix)} {k : Nat} (h : fs.length ≤ k ∧ ∀ f ∈ fs, f.length ≤ k) : (addF l fs).1.length ≤ k + 1 ∧ ∀ f ∈ (addF l fs).1, f.length ≤ k + 1 := by
  obtain ⟨h1, h2⟩ := h
  unfold addF
  split
  · refine ⟨by simp; omega, fun f hf => ?_⟩
    rcases List.mem_append.1 hf with hf | hf
    · have := h2 f hf; omega
    · rw [List.mem_singleton.1 hf]; simp
  · split
    · split
      · exact ⟨by simp only; omega, fun f hf => by have := h2 f hf; omega⟩
      · refine ⟨by simp; omega, fun f hf => ?_⟩
        rcases List.mem_append.1 hf with hf | hf
        · have := h2 f ((List.dropLast_sublist fs).subset hf); omega
        · rw [List.mem_singleton.1 hf, List.length_append, List.length_singleton]
          have : (fs.getLastD []).length ≤ k := by
            rw [List.getLastD_eq_getLast?]
            cases hg : fs.getLast? with
            | none => simp
            | some g => exact h2 g (List.mem_of_getLast? hg)
          omega
    · exact ⟨by simp only; omega, fun f hf => by have := h2 f hf; omega⟩
end Go.Proofs.YtjdpejggafefjaaDoor
/- asm.add. -/
namespace Go.Proofs.YtjdpejggafefjaaDoor
set_option linter.unusedVariables false
set_option linter.unusedSimpArgs false
open Go Go.Kx Go.Proofs

/-- What was there stays: all below n0 but one. -/
def StayB (σ σ' : Kx.St) (ip n0 : Nat) : Prop := ∀ j, j < n0 → j ≠ ip → σ'[j]? = σ[j]?
theorem FsAt.app {σ : Kx.St} {ip n0 : Nat} {m : Int} {fs : List (List Ix)} (h : FsAt σ ip n0 m fs) (r : Res) : FsAt (σ ++ [r]) ip n0 m fs := by
  obtain ⟨h1, h2, h3⟩ := h
  refine ⟨h1, by simp; omega, ?_⟩
  rcases h3 with ⟨a, b⟩ | ⟨gs, l, ver, K, ts, t, a, b, c, d, e, f, g⟩
  · exact .inl ⟨a, get_app b⟩
  · refine .inr ⟨gs, l, ver, K, ts, t, a, b, get_app c, get_app d, e, f, ?_⟩
    rcases g with g | ⟨j, w, g1, g2, g3⟩
    · exact .inl g
    · exact .inr ⟨j, w, g1, g2, get_app g3⟩
theorem app_get {σ : Kx.St} {r : Res} {j : Nat} (h : j < σ.length) : (σ ++ [r])[j]? = σ[j]? := List.getElem?_append_left h
theorem snoc_get (σ : Kx.St) (r : Res) : (σ ++ [r])[σ.length]? = some r := by simp
theorem stay_app {σ : Kx.St} {ip n0 : Nat} (h : n0 ≤ σ.length) (r : Res) : StayB σ (σ ++ [r]) ip n0 := fun j hj _ => app_get (by omega)
theorem StayB.trans {a b c : Kx.St} {ip n0 : Nat} (h : StayB a b ip n0) (k : StayB b c ip n0) : StayB a c ip n0 := fun j h1 h2 => (k j h1 h2).trans (h j h1 h2)
theorem stay_set {σ : Kx.St} {ip n0 k : Nat} (h : n0 ≤ k ∨ k = ip) (r : Res) : StayB σ (σ.set k r) ip n0 := fun j h1 h2 => by
  rw [List.getElem?_set_ne]
  rintro rfl
  rcases h with h | h
  · omega
  · exact h2 h
theorem ex_slid (n : Nat) (cs : List AV) (j w s : Nat) : (AV.sl n cs (.id j w s)).exact = true := rfl
theorem ex_slnil (n : Nat) (cs : List AV) : (AV.sl n cs .nil).exact = true := rfl
theorem ex_ms1 (i w o n : Nat) : (AV.ms i w o n 1).exact = true := rfl
theorem TokL.exact {σ : Kx.St} {n0 : Nat} {l : List Ix} {t : Tok} (h : TokL σ n0 l t) (n : Nat) (cs : List AV) : (AV.sl n cs t).exact = true := by
  rcases h with ⟨_, rfl⟩ | ⟨j, w, rfl, _⟩ <;> rfl
theorem last_at (ts : List AV) (a : AV) : (ts ++ [a])[ts.length]? = some a := by simp
theorem last_set (ts : List AV) (a b : AV) : (ts ++ [a]).set ts.length b = ts ++ [b] := by simp

set_option maxHeartbeats 8000000 in
theorem asm_add_a {σ : Kx.St} {ip n0 : Nat} {m : Int} {fs : List (List Ix)} (l : List UInt8) (hl : l.length ≤ 100000) (h : FsAt σ ip n0 m fs) (hfl : fs.length ≤ 100000) (hff : ∀ f ∈ fs, f.length ≤ 100000) :
    FnG Tryd.prog 77 [.ref ip 0 0, aB l] σ fun a σ' => a = aInt (addF l fs).2 ∧ FsAt σ' ip n0 m (addF l fs).1 ∧ StayB σ σ' ip n0 := by
  refine fnG_in K_asm_add mixed rfl ?_
  simp only [S_asm_add]
  have hWl : (wrds l).length ≤ l.length ∧ ∀ x ∈ wrds l, x.length ≤ l.length := by
    have := partsB_len (sign := 32) (em := false) l []
    simpa using this
  have hfd := Fields_a (bA l) (by rw [size_bA]; omega)
  rw [show (bA l).data.toList = l by simp] at hfd
  change FnP _ _ _ (fun a => a = aSl aB (wrds l)) at hfd
  have hnil : (AV.sl 0 [] .nil).cells = [AV.sl 0 [] .nil] := rfl
  refine wpa_seqx (fun ε σ' => (ε 0 = .ref ip 0 0 ∧ ε 1 = aB l) ∧ σ = σ') (fun N X' R' hN => by simp (maxSteps:=999999) -implicitDefEqProofs (disch:=omega) only [push_cast,↓reduceIte,Nat.reduceEqDiff,reduceCtorEq,wz]; exact hN _ _ ⟨by simp (maxSteps:=999999) -implicitDefEqProofs (disch:=omega) only [push_cast,↓reduceIte,Nat.reduceEqDiff,reduceCtorEq,wz], rfl⟩) ?_
  rintro ε _ ⟨hρ, rfl⟩
  refine wpa_seq (fun ε σ' => ((ε 0 = .ref ip 0 0 ∧ ε 1 = aB l) ∧ σ = σ') ∧ wrds l ≠ [funB]) ?_ ?_
  · intro N hN
    by_cases hw : wrds l = [funB]
    · have hA : addF l fs = (fs ++ [[]], 0) := by unfold addF; rw [if_pos hw]
      rw [hA]
      rw [hw] at hfd
      have hi0 : ([funB] : List (List UInt8))[Int.toNat 0]? = some funB := rfl
      have he : bA funB = ⟨#[102, 117, 110, 99, 116, 105, 111, 110]⟩ := rfl
      obtain ⟨i1, i2, i3⟩ := h
      rcases i3 with ⟨rfl, hip⟩ | ⟨gs, k, ver, K, ts, t, rfl, hK, hip, hK2, hts, hres, htok⟩
      · simp (maxSteps:=999999) -implicitDefEqProofs (disch:=omega) only [push_cast,↓reduceIte,Nat.reduceEqDiff,reduceCtorEq,wz,hρ]
        refine wpa_call hfd ?_
        rintro a rfl
        simp (maxSteps:=999999) -implicitDefEqProofs (disch:=omega) only [push_cast,↓reduceIte,Nat.reduceEqDiff,reduceCtorEq,wz,hρ,aSl,hi0,he,hip]
        refine wpa_bsl (sz := 1) (by intro a ha; simp at ha; subst ha; rfl) (by simp) ?_
        simp (maxSteps:=999999) -implicitDefEqProofs (disch:=omega) only [push_cast,↓reduceIte,Nat.reduceEqDiff,reduceCtorEq,wz,hρ,hip,hnil]
        refine wpa_app_nilo (m := 1) rfl rfl rfl rfl (by decide) (by decide) (by decide) ?_
        simp (maxSteps:=999999) -implicitDefEqProofs (disch:=omega) only [push_cast,↓reduceIte,Nat.reduceEqDiff,reduceCtorEq,wz,hρ]
        refine wpa_st1 rfl rfl (get_app hip) (by simp) ?_
        simp (maxSteps:=999999) -implicitDefEqProofs (disch:=omega) only [push_cast,↓reduceIte,Nat.reduceEqDiff,reduceCtorEq,wz,hρ]
        refine ⟨rfl, ⟨i1, by simp; omega, .inr ⟨[], [], 0, σ.length, [], .nil, rfl, i2, get_set_eq (get_app hip), get_set_ne (by have := lt_at hip; omega) (snoc_get _ _), rfl, fun _ => rfl, .inl ⟨rfl, rfl⟩⟩⟩, (stay_app i2 _).trans (stay_set (.inr rfl) _)⟩
      · have hlen : ts.length + 1 ≤ 100001 := by rw [hts]; simp at hfl; omega
        simp (maxSteps:=999999) -implicitDefEqProofs (disch:=omega) only [push_cast,↓reduceIte,Nat.reduceEqDiff,reduceCtorEq,wz,hρ]
        refine wpa_call hfd ?_
        rintro a rfl
        simp (maxSteps:=999999) -implicitDefEqProofs (disch:=omega) only [push_cast,↓reduceIte,Nat.reduceEqDiff,reduceCtorEq,wz,hρ,aSl,hi0,he,hip]
        refine wpa_bsl (sz := 1) (by intro a ha; simp at ha; subst ha; rfl) (by simp) ?_
        simp (maxSteps:=999999) -implicitDefEqProofs (disch:=omega) only [push_cast,↓reduceIte,Nat.reduceEqDiff,reduceCtorEq,wz,hρ,hip,hnil]
        refine wpa_app_ms (m := 1) rfl rfl rfl rfl (by simp; omega) (by omega) (by omega) hK2 ?_
        simp (maxSteps:=999999) -implicitDefEqProofs (disch:=omega) only [push_cast,↓reduceIte,Nat.reduceEqDiff,reduceCtorEq,wz,hρ]
        have hne : K ≠ ip := by omega
        refine wpa_st1 rfl rfl (get_set_ne hne hip) (by simp) ?_
        simp (maxSteps:=999999) -implicitDefEqProofs (disch:=omega) only [push_cast,↓reduceIte,Nat.reduceEqDiff,reduceCtorEq,wz,hρ]
        have htake : (ts ++ [AV.sl k.length (k.flatMap aIx) t]).take (gs.length + 1) = ts ++ [AV.sl k.length (k.flatMap aIx) t] := by rw [List.take_of_length_le]; simp; omega
        refine ⟨rfl, ⟨i1, by simp; omega, .inr ⟨gs ++ [k], [], ver + 1, K, ts ++ [.sl k.length (k.flatMap aIx) t], .nil, rfl, hK, ?_, ?_, by simp [hts], ?_, .inl ⟨rfl, rfl⟩⟩⟩, (stay_set (.inl hK) _).trans (stay_set (.inr rfl) _)⟩
        · rw [get_set_eq (get_set_ne hne hip)]; simp
        · rw [get_set_ne (Ne.symm hne) (get_set_eq hK2), htake]; simp
        · intro τ; rw [resL_two, hres τ, List.map_append]; simp only [AV.resL, aIxs_res, List.map_cons, List.map_nil]
    · have hfalse : (¬ ((wrds l).length : Int) = 1) ∨ ∃ w, wrds l = [w] ∧ ¬ (bA w = ⟨#[102, 117, 110, 99, 116, 105, 111, 110]⟩) := by
        match hW : wrds l with
        | [] => exact .inl (by simp)
        | [w] => exact .inr ⟨w, rfl, ne_bA (b := funB) (by rintro rfl; exact hw hW)⟩
        | _ :: _ :: _ => exact .inl (by simp only [List.length_cons]; omega)
      rcases hfalse with h1 | ⟨w, hW, h1⟩
      · have hw' := hw
        generalize wrds l = W at hfd h1 hw
        simp (maxSteps:=999999) -implicitDefEqProofs (disch:=omega) only [push_cast,↓reduceIte,Nat.reduceEqDiff,reduceCtorEq,wz,hρ]
        refine wpa_call hfd ?_
        rintro a rfl
        simp (maxSteps:=999999) -implicitDefEqProofs (disch:=omega) only [push_cast,↓reduceIte,Nat.reduceEqDiff,reduceCtorEq,wz,hρ,aSl,h1]
        exact hN _ _ ⟨⟨by simp (maxSteps:=999999) -implicitDefEqProofs (disch:=omega) only [push_cast,↓reduceIte,Nat.reduceEqDiff,reduceCtorEq,wz,hρ], rfl⟩, hw'⟩
      · rw [hW] at hfd
        have hi0 : ([w] : List (List UInt8))[Int.toNat 0]? = some w := rfl
        simp (maxSteps:=999999) -implicitDefEqProofs (disch:=omega) only [push_cast,↓reduceIte,Nat.reduceEqDiff,reduceCtorEq,wz,hρ]
        refine wpa_call hfd ?_
        rintro a rfl
        simp (maxSteps:=999999) -implicitDefEqProofs (disch:=omega) only [push_cast,↓reduceIte,Nat.reduceEqDiff,reduceCtorEq,wz,hρ,aSl,hi0,h1]
        exact hN _ _ ⟨⟨by simp (maxSteps:=999999) -implicitDefEqProofs (disch:=omega) only [push_cast,↓reduceIte,Nat.reduceEqDiff,reduceCtorEq,wz,hρ], rfl⟩, hw⟩
  clear hρ ε
  rintro ε _ ⟨⟨hρ, rfl⟩, hw⟩
  have hA : addF l fs = if (parseF l).2 = 0 then (if fs = [] then (fs, 8) else (fs.dropLast ++ [fs.getLastD [] ++ [(parseF l).1]], 0)) else (fs, (parseF l).2) := by unfold addF; rw [if_neg hw]
  rw [hA]
  refine wpa_seqx (fun ε σ' => (ε 0 = .ref ip 0 0 ∧ ε 6 = .ref σ.length 0 0 ∧ ε 7 = .v (.int .i64 (parseF l).2)) ∧ σ' = σ ++ [.obj 0 (aIx (parseF l).1)]) ?_ ?_
  · intro N X R hN
    simp (maxSteps:=999999) -implicitDefEqProofs (disch:=omega) only [push_cast,↓reduceIte,Nat.reduceEqDiff,reduceCtorEq,wz,hρ]
    refine wpa_call (asm_Parse_a l hl) ?_
    rintro a rfl
    simp (maxSteps:=999999) -implicitDefEqProofs (disch:=omega) only [push_cast,↓reduceIte,Nat.reduceEqDiff,reduceCtorEq,wz,hρ,aInt]
    refine wpa_new ?_
    simp (maxSteps:=999999) -implicitDefEqProofs (disch:=omega) only [push_cast,↓reduceIte,Nat.reduceEqDiff,reduceCtorEq,wz,hρ]
    refine wpa_stn (cs := aIx ix0) rfl rfl (snoc_get _ _) (by decide) ?_
    simp (maxSteps:=999999) -implicitDefEqProofs (disch:=omega) only [push_cast,↓reduceIte,Nat.reduceEqDiff,reduceCtorEq,wz,hρ]
    refine hN _ _ ⟨by simp (maxSteps:=999999) -implicitDefEqProofs (disch:=omega) only [push_cast,↓reduceIte,Nat.reduceEqDiff,reduceCtorEq,wz,hρ], ?_⟩
    simp [ix_st, aIx, setAtA]
  clear hρ ε
  rintro ε σ' ⟨hρ, rfl⟩
  generalize parseF l = p at hρ ⊢
  by_cases h0 : p.2 = 0
  · rw [if_pos h0]
    refine wpa_seqx (fun ε σ' => (ε 0 = .ref ip 0 0 ∧ ε 6 = .ref σ.length 0 0) ∧ σ' = σ ++ [.obj 0 (aIx p.1)]) ?_ ?_
    · intro N X R hN
      simp (maxSteps:=999999) -implicitDefEqProofs (disch:=omega) only [push_cast,↓reduceIte,Nat.reduceEqDiff,reduceCtorEq,wz,hρ,h0]
      exact hN _ _ ⟨by simp (maxSteps:=999999) -implicitDefEqProofs (disch:=omega) only [push_cast,↓reduceIte,Nat.reduceEqDiff,reduceCtorEq,wz,hρ], rfl⟩
    clear hρ ε
    rintro ε σ' ⟨hρ, rfl⟩
    have hx := snoc_get σ (Res.obj 0 (aIx p.1))
    have hst := stay_app (ip := ip) h.2.1 (Res.obj 0 (aIx p.1))
    have h' := h.app (Res.obj 0 (aIx p.1))
    have hKx : ∀ (K : Nat) (r : Res), σ[K]? = some r → K ≠ σ.length := fun K r hr => by have := lt_at hr; omega
    obtain ⟨i1, i2, i3⟩ := h
    rcases i3 with ⟨rfl, hip⟩ | ⟨gs, k, ver, K, ts, t, rfl, hK, hip, hK2, hts, hres, htok⟩
    · rw [if_pos rfl]
      have hip2 := get_app (τ := [Res.obj 0 (aIx p.1)]) hip
      simp (maxSteps:=999999) -implicitDefEqProofs (disch:=omega) only [push_cast,↓reduceIte,Nat.reduceEqDiff,reduceCtorEq,wz,hρ,hip2,aInt]
      exact ⟨h', hst⟩
    · rw [if_neg (by simp)]
      have hkl : k.length ≤ 100000 := hff k (by simp)
      have hlen : gs.length + 1 ≤ 100001 := by simp at hfl; omega
      have hdl : (gs ++ [k]).dropLast ++ [(gs ++ [k]).getLastD [] ++ [p.1]] = gs ++ [k ++ [p.1]] := by simp
      rw [hdl]
      have hip2 := get_app (τ := [Res.obj 0 (aIx p.1)]) hip
      have hK3 := get_app (τ := [Res.obj 0 (aIx p.1)]) hK2
      have htok2 : TokL (σ ++ [Res.obj 0 (aIx p.1)]) n0 k t := by
        rcases htok with g | ⟨j, w, g1, g2, g3⟩
        · exact .inl g
        · exact .inr ⟨j, w, g1, g2, get_app g3⟩
      have hne : K ≠ ip := by omega
      have i2' : n0 ≤ (σ ++ [Res.obj 0 (aIx p.1)]).length := by simp; omega
      have hxK := hKx K _ hK2
      generalize σ ++ [Res.obj 0 (aIx p.1)] = S at hx hst h' hip2 hK3 htok2 i2' ⊢
      generalize σ.length = ix at hx hρ hxK
      have hgm : (gs.length : Int) + 1 - 1 = gs.length := by omega
      have hfk := flat_len aIx_len k
      refine wpa_seqx (fun ε σ' => (ε 0 = .ref ip 0 0 ∧ ε 6 = .ref ix 0 0 ∧ ε 8 = .v (.int .i64 gs.length)) ∧ S = σ') ?_ ?_
      · intro N X R hN
        simp (maxSteps:=999999) -implicitDefEqProofs (disch:=omega) only [push_cast,↓reduceIte,Nat.reduceEqDiff,reduceCtorEq,wz,hρ,hip2,hgm]
        exact hN _ _ ⟨by simp (maxSteps:=999999) -implicitDefEqProofs (disch:=omega) only [push_cast,↓reduceIte,Nat.reduceEqDiff,reduceCtorEq,wz,hρ], rfl⟩
      clear hρ ε
      rintro ε _ ⟨hρ, rfl⟩
      refine wpa_seqx (fun ε σ' => (ε 0 = .ref ip 0 0 ∧ ε 6 = .ref ix 0 0 ∧ ε 8 = .v (.int .i64 gs.length)) ∧ S = σ') ?_ ?_
      · intro N X R hN
        simp (maxSteps:=999999) -implicitDefEqProofs (disch:=omega) only [push_cast,↓reduceIte,Nat.reduceEqDiff,reduceCtorEq,wz,hρ]
        exact hN _ _ ⟨by simp (maxSteps:=999999) -implicitDefEqProofs (disch:=omega) only [push_cast,↓reduceIte,Nat.reduceEqDiff,reduceCtorEq,wz,hρ], rfl⟩
      clear hρ ε
      rintro ε _ ⟨hρ, rfl⟩
      have hla := last_at ts (.sl k.length (k.flatMap aIx) t)
      rw [hts] at hla
      have hexk := htok2.exact k.length (k.flatMap aIx)
      have hexm := ex_ms1 K ver 0 (gs.length + 1)
      have hcx : (AV.agg (aIx p.1)).cells = aIx p.1 := rfl
      have hall : (aIx p.1).all AV.one = true := rfl
      have hres2 : ∀ t' : Tok, AV.sl (k.length + 1) (k.flatMap aIx ++ aIx p.1) t' = .sl (k ++ [p.1]).length ((k ++ [p.1]).flatMap aIx) t' := fun t' => by simp
      have hset := last_set ts (.sl k.length (k.flatMap aIx) t)
      rw [hts] at hset
      simp (maxSteps:=999999) -implicitDefEqProofs (disch:=omega) only [push_cast,↓reduceIte,Nat.reduceEqDiff,reduceCtorEq,wz,hρ,hip2,hK3,hla,hx,cellsIx']
      refine wpa_bsl (sz := 4) (by intro a ha; simp at ha; subst ha; rfl) (by simp) ?_
      simp (maxSteps:=999999) -implicitDefEqProofs (disch:=omega) only [push_cast,↓reduceIte,Nat.reduceEqDiff,reduceCtorEq,wz,hρ,hip2,hK3,hla,hx,cellsIx']
      refine ⟨aholds_x (by simp (maxSteps:=999999) -implicitDefEqProofs (disch:=omega) only [push_cast,↓reduceIte,Nat.reduceEqDiff,reduceCtorEq,wz,hρ,hip2,hK3,hla,hx,hexk]), aholds_x (by simp (maxSteps:=999999) -implicitDefEqProofs (disch:=omega) only [push_cast,↓reduceIte,Nat.reduceEqDiff,reduceCtorEq,wz,hρ,hip2,hexm]), aholds_x (by simp (maxSteps:=999999) -implicitDefEqProofs (disch:=omega) only [push_cast,↓reduceIte,Nat.reduceEqDiff,reduceCtorEq,wz,hρ,hip2,hexm]), ?_⟩
      have hap : aIx p.1 ++ [] = aIx p.1 := List.append_nil _
      have fin : ∀ (S2 : Kx.St) (t' : Tok), S2[ip]? = some (.obj 0 [.v (.int .i64 m), .ms K ver 0 (gs.length + 1) 1]) → S2[K]? = some (.obj ver (ts ++ [.sl k.length (k.flatMap aIx) t])) → n0 ≤ S2.length → TokL (S2.set K (.obj ver (ts ++ [.sl (k.length + 1) (k.flatMap aIx ++ aIx p.1) t']))) n0 (k ++ [p.1]) t' →
          FsAt (S2.set K (.obj ver (ts ++ [.sl (k.length + 1) (k.flatMap aIx ++ aIx p.1) t']))) ip n0 m (gs ++ [k ++ [p.1]]) := by
        intro S2 t' e1 e2 e3 e4
        refine ⟨i1, by simp; exact e3, .inr ⟨gs, k ++ [p.1], ver, K, ts, t', rfl, hK, get_set_ne hne e1, ?_, hts, hres, e4⟩⟩
        rw [get_set_eq e2, hres2]
      rcases htok2 with ⟨rfl, rfl⟩ | ⟨j, w, rfl, hj, hjt⟩
      · have hnl : AV.sl ([] : List Ix).length (([] : List Ix).flatMap aIx) .nil = .sl 0 [] .nil := rfl
        rw [hnl]
        refine wpa_app_nil (m := 1) (news := aIx p.1) rfl (by simp [srcA]) rfl rfl (by decide) (by decide) ?_
        have hip3 := get_app (τ := [Res.tail 1]) hip2
        have hK4 := get_app (τ := [Res.tail 1]) hK3
        simp (maxSteps:=999999) -implicitDefEqProofs (disch:=omega) only [push_cast,↓reduceIte,Nat.reduceEqDiff,reduceCtorEq,wz,hρ,hip3]
        refine ⟨aholds_x (by simp (maxSteps:=999999) -implicitDefEqProofs (disch:=omega) only [push_cast,↓reduceIte,Nat.reduceEqDiff,reduceCtorEq,wz,hρ,hip3,hexm]), ?_⟩
        refine wpa_st1 rfl rfl hK4 (by simp [hts]) ?_
        rw [hset]
        simp (maxSteps:=999999) -implicitDefEqProofs (disch:=omega) only [push_cast,↓reduceIte,Nat.reduceEqDiff,reduceCtorEq,wz,hρ]
        refine ⟨rfl, fin (S ++ [.tail 1]) (.id S.length 1 4) hip3 hK4 (by simp; omega) (.inr ⟨S.length, 1, rfl, i2', get_set_ne (by have := lt_at hK3; omega) (snoc_get _ _)⟩), hst.trans ((stay_app i2' _).trans (stay_set (.inl hK) _))⟩
      · have hjK : j ≠ K := by rintro rfl; rw [hjt] at hK3; cases hK3
        have hji : j ≠ ip := by omega
        refine wpa_app (m := 1) (news := aIx p.1) rfl (by simp [srcA]) rfl rfl hfk (by omega) (by omega) hjt ?_
        have hip3 := get_set_ne (o := Res.tail (w + 1)) hji hip2
        have hK4 := get_set_ne (o := Res.tail (w + 1)) hjK hK3
        simp (maxSteps:=999999) -implicitDefEqProofs (disch:=omega) only [push_cast,↓reduceIte,Nat.reduceEqDiff,reduceCtorEq,wz,hρ,hip3]
        refine ⟨aholds_x (by simp (maxSteps:=999999) -implicitDefEqProofs (disch:=omega) only [push_cast,↓reduceIte,Nat.reduceEqDiff,reduceCtorEq,wz,hρ,hip3,hexm]), ?_⟩
        refine wpa_st1 rfl rfl hK4 (by simp [hts]) ?_
        rw [hset]
        simp (maxSteps:=999999) -implicitDefEqProofs (disch:=omega) only [push_cast,↓reduceIte,Nat.reduceEqDiff,reduceCtorEq,wz,hρ]
        refine ⟨rfl, fin (S.set j (.tail (w + 1))) (.id j (w + 1) 4) hip3 hK4 (by simp; omega) (.inr ⟨j, w + 1, rfl, hj, get_set_ne (Ne.symm hjK) (get_set_eq hjt)⟩), hst.trans ((stay_set (.inl hj) _).trans (stay_set (.inl hK) _))⟩
  · rw [if_neg h0]
    simp (maxSteps:=999999) -implicitDefEqProofs (disch:=omega) only [push_cast,↓reduceIte,Nat.reduceEqDiff,reduceCtorEq,wz,hρ,h0,aInt]
    exact ⟨h.app _, stay_app h.2.1 _⟩
end Go.Proofs.YtjdpejggafefjaaDoor
/- asm.Read. -/
namespace Go.Proofs.YtjdpejggafefjaaDoor
set_option linter.unusedVariables false
set_option linter.unusedSimpArgs false
open Go Go.Kx Go.Proofs

abbrev aRd (p : (Int × List (List Ix)) × Int) : AV := .tup [.agg (aPr p.1.1 p.1.2), aInt p.2]
def pr0 : List AV := [.v (.int .i64 0), .sl 0 [] .nil]
theorem pr0_st (x : List AV) (a b : AV) (h : x = [a, b]) : setAtA pr0 0 x = x := by subst h; rfl
theorem cells2 (a b : AV) : cellsA (some 2) [a, b] = some (.agg [a, b]) := rfl
theorem pr0_res (τ : Kx.St) : AV.resL τ pr0 = aPr 0 [] := rfl
theorem pr0_cells : cellsA (some 2) pr0 = some (.agg pr0) := rfl
theorem fin_none (τ : Kx.St) (e : Int) : AV.res τ (.tup [.agg pr0, .v (.int .i64 e)]) = aRd ((0, []), e) := by
  simp only [AV.res, AV.resL, pr0_res]
  rfl
theorem aRd_pure (p : (Int × List (List Ix)) × Int) : (aRd p).pure = true := by simp [AV.pure, AV.pureL, aPr_pure, aInt_pure]
/-- What the program is, its functions frozen. -/
theorem FsAt.read {σ : Kx.St} {ip n0 : Nat} {m : Int} {fs : List (List Ix)} (h : FsAt σ ip n0 m fs) : ∃ (is : List Nat) (cs : List AV), ((∃ a b, cs = [a, b]) ∧ cs.all AV.one = true) ∧ σ[ip]? = some (.obj 0 cs) ∧ (∀ τ, τ = Go.Kx.freeze is σ → AV.resL τ cs = aPr m fs ∧ τ.length = σ.length ∧ τ[ip]? = some (.obj 0 cs) ∧ StayB σ τ ip n0 ∧ ∀ (r : Res) (j : Nat), j < n0 → AV.resL (τ.set j r) cs = aPr m fs) := by
  obtain ⟨i1, i2, i3⟩ := h
  rcases i3 with ⟨rfl, hip⟩ | ⟨gs, l, ver, K, ts, t, rfl, hK, hip, hK2, hts, hres, htok⟩
  · refine ⟨[], _, ⟨⟨_, _, rfl⟩, rfl⟩, hip, ?_⟩
    rintro τ rfl
    exact ⟨rfl, rfl, hip, fun _ _ _ => rfl, fun _ _ _ => rfl⟩
  · have hne : K ≠ ip := by omega
    refine ⟨[K], _, ⟨⟨_, _, rfl⟩, rfl⟩, hip, ?_⟩
    rintro τ rfl
    have hfr : Go.Kx.freeze [K] σ = σ.set K (.frz ver (AV.resL σ (ts ++ [.sl l.length (l.flatMap aIx) t]))) := by
      simp [Go.Kx.freeze, freeze1, hK2]
    have hcs : AV.resL σ (ts ++ [.sl l.length (l.flatMap aIx) t]) = (gs ++ [l]).map aIxs := by
      rw [resL_two, hres σ, List.map_append]
      simp only [AV.resL, aIxs_res, List.map_cons, List.map_nil]
    rw [hfr, hcs]
    have key : ∀ τ : Kx.St, τ[K]? = some (.frz ver ((gs ++ [l]).map aIxs)) → AV.resL τ [.v (.int .i64 m), .ms K ver 0 (gs.length + 1) 1] = aPr m (gs ++ [l]) := by
      intro τ hτ
      simp only [AV.resL, AV.res, hτ, if_true, aPr, aFs, aSl]
      simp [subA]
      rw [List.take_of_length_le (by simp)]
    have hk := get_set_eq (o := Res.frz ver ((gs ++ [l]).map aIxs)) hK2
    exact ⟨key _ hk, by simp, get_set_ne hne hip, stay_set (.inl hK) _, fun r j hj => key _ (get_set_ne (by omega) hk)⟩

set_option maxHeartbeats 8000000 in
theorem asm_Read_a (t : List UInt8) (ht : t.length ≤ 100000) : FnP Tryd.prog 43 [aB t] fun a => a = aRd (readF t) := by
  refine fnP_in K_asm_Read mixed rfl rfl ?_
  simp only [S_asm_Read]
  have hz : [AV.v (.int .i64 0), AV.sl 0 [] .nil] = pr0 := rfl
  refine wpa_seqx (fun ε σ => (ε 0 = aB t ∧ ε 2 = .ref 0 0 0) ∧ σ = [.obj 0 pr0]) ?_ ?_
  · intro N X R hN
    simp (maxSteps:=999999) -implicitDefEqProofs (disch:=omega) only [push_cast,↓reduceIte,Nat.reduceEqDiff,reduceCtorEq,wz]
    refine wpa_new ?_
    simp (maxSteps:=999999) -implicitDefEqProofs (disch:=omega) only [push_cast,↓reduceIte,Nat.reduceEqDiff,reduceCtorEq,wz]
    exact hN _ _ ⟨by simp (maxSteps:=999999) -implicitDefEqProofs (disch:=omega) only [push_cast,↓reduceIte,Nat.reduceEqDiff,reduceCtorEq,wz], rfl⟩
  rintro ε σ ⟨hρ, rfl⟩
  refine wpa_seqx (fun ε σ => (ε 0 = aB t ∧ ε 2 = .ref 0 0 0 ∧ ε 4 = .ref 1 0 0 ∧ ε 5 = .ref 2 0 0) ∧ σ = [.obj 0 pr0, .obj 0 pr0, .obj 0 pr0]) ?_ ?_
  · intro N X R hN
    simp (maxSteps:=999999) -implicitDefEqProofs (disch:=omega) only [push_cast,↓reduceIte,Nat.reduceEqDiff,reduceCtorEq,wz,hρ]
    refine wpa_new ?_
    simp (maxSteps:=999999) -implicitDefEqProofs (disch:=omega) only [push_cast,↓reduceIte,Nat.reduceEqDiff,reduceCtorEq,wz]
    refine wpa_new ?_
    simp (maxSteps:=999999) -implicitDefEqProofs (disch:=omega) only [push_cast,↓reduceIte,Nat.reduceEqDiff,reduceCtorEq,wz]
    exact hN _ _ ⟨by simp (maxSteps:=999999) -implicitDefEqProofs (disch:=omega) only [push_cast,↓reduceIte,Nat.reduceEqDiff,reduceCtorEq,wz,hρ], rfl⟩
  clear hρ ε
  rintro ε σ ⟨hρ, rfl⟩
  have hst0 : setAtA pr0 0 pr0 = pr0 := rfl
  refine wpa_seq (fun ε σ => ((ε 0 = aB t ∧ ε 2 = .ref 0 0 0 ∧ ε 4 = .ref 1 0 0 ∧ ε 5 = .ref 2 0 0) ∧ σ = [.obj 0 pr0, .obj 0 pr0, .obj 0 pr0]) ∧ t.length ≤ 60000) ?_ ?_
  · intro N hN
    unfold readF
    by_cases h : 60000 < t.length
    · have h' : (60000 : Int) < (bA t).size := by rw [size_bA]; omega
      rw [if_pos h]
      simp (maxSteps:=999999) -implicitDefEqProofs (disch:=omega) only [push_cast,↓reduceIte,Nat.reduceEqDiff,reduceCtorEq,wz,hρ,h',pr0_cells]
      refine wpa_stn (cs := pr0) (l := pr0) rfl rfl rfl (by decide) ?_
      simp (maxSteps:=999999) -implicitDefEqProofs (disch:=omega) only [push_cast,↓reduceIte,Nat.reduceEqDiff,reduceCtorEq,wz,hρ,hst0,pr0_cells]
      exact fin_res [] (fin_none _ _) (aRd_pure _)
    · have h' : ¬ (60000 : Int) < (bA t).size := by rw [size_bA]; omega
      simp (maxSteps:=999999) -implicitDefEqProofs (disch:=omega) only [push_cast,↓reduceIte,Nat.reduceEqDiff,reduceCtorEq,wz,hρ,h']
      exact hN _ _ ⟨⟨by simp (maxSteps:=999999) -implicitDefEqProofs (disch:=omega) only [push_cast,↓reduceIte,Nat.reduceEqDiff,reduceCtorEq,wz,hρ], rfl⟩, by omega⟩
  clear hρ ε
  rintro ε σ ⟨⟨hρ, rfl⟩, h60⟩
  have hF : readF t = readL (fullL (partsB 10 true [] t)) := by unfold readF; rw [if_neg (by omega)]
  rw [hF]
  have hfull := asm_full_a t ht
  have hLl : (fullL (partsB 10 true [] t)).length ≤ t.length ∧ ∀ x ∈ fullL (partsB 10 true [] t), x.length ≤ t.length := by
    have := partsB_len (sign := 10) (em := true) t []
    simp only [if_true, List.length_nil, Nat.add_zero] at this
    unfold fullL
    exact ⟨Nat.le_trans (List.length_filter_le _ _) this.1, fun x hx => this.2 x (List.mem_filter.1 hx).1⟩
  generalize fullL (partsB 10 true [] t) = L at hfull hLl
  refine wpa_seqx (fun ε σ => (ε 2 = .ref 0 0 0 ∧ ε 4 = .ref 1 0 0 ∧ ε 5 = .ref 2 0 0 ∧ ε 6 = .sl L.length (L.map aB) .none) ∧ σ = [.obj 0 pr0, .obj 0 pr0, .obj 0 pr0]) ?_ ?_
  · intro N X R hN
    simp (maxSteps:=999999) -implicitDefEqProofs (disch:=omega) only [push_cast,↓reduceIte,Nat.reduceEqDiff,reduceCtorEq,wz,hρ]
    refine wpa_call hfull ?_
    rintro a rfl
    simp (maxSteps:=999999) -implicitDefEqProofs (disch:=omega) only [push_cast,↓reduceIte,Nat.reduceEqDiff,reduceCtorEq,wz,aSl]
    exact hN _ _ ⟨by simp (maxSteps:=999999) -implicitDefEqProofs (disch:=omega) only [push_cast,↓reduceIte,Nat.reduceEqDiff,reduceCtorEq,wz,hρ], rfl⟩
  clear hρ ε
  rintro ε σ ⟨hρ, rfl⟩
  refine wpa_seq (fun ε σ => ((ε 2 = .ref 0 0 0 ∧ ε 4 = .ref 1 0 0 ∧ ε 5 = .ref 2 0 0 ∧ ε 6 = .sl L.length (L.map aB) .none) ∧ σ = [.obj 0 pr0, .obj 0 pr0, .obj 0 pr0]) ∧ L ≠ []) ?_ ?_
  · intro N hN
    cases L with
    | nil =>
      simp (maxSteps:=999999) -implicitDefEqProofs (disch:=omega) only [push_cast,↓reduceIte,Nat.reduceEqDiff,reduceCtorEq,wz,hρ,pr0_cells]
      refine wpa_stn (cs := pr0) (l := pr0) rfl rfl rfl (by decide) ?_
      simp (maxSteps:=999999) -implicitDefEqProofs (disch:=omega) only [push_cast,↓reduceIte,Nat.reduceEqDiff,reduceCtorEq,wz,hρ,hst0,pr0_cells]
      exact fin_res [] (fin_none _ _) (aRd_pure _)
    | cons w ws =>
      have h' : ¬ (((w :: ws).length : Int) = 0) := by have : (w :: ws).length = ws.length + 1 := rfl; omega
      generalize w :: ws = W at h' hρ hN ⊢
      simp (maxSteps:=999999) -implicitDefEqProofs (disch:=omega) only [push_cast,↓reduceIte,Nat.reduceEqDiff,reduceCtorEq,wz,hρ,h']
      exact hN _ _ ⟨⟨by simp (maxSteps:=999999) -implicitDefEqProofs (disch:=omega) only [push_cast,↓reduceIte,Nat.reduceEqDiff,reduceCtorEq,wz,hρ], rfl⟩, by rintro rfl; exact h' rfl⟩
  clear hρ ε
  rintro ε σ ⟨⟨hρ, rfl⟩, hne⟩
  obtain ⟨l, ls, rfl⟩ : ∃ w ws, L = w :: ws := by cases L with | nil => exact absurd rfl hne | cons w ws => exact ⟨w, ws, rfl⟩
  have hlc : (l :: ls).length = ls.length + 1 := rfl
  have hl1 : l.length ≤ 60000 := by have := hLl.2 l (by simp); omega
  have hls1 : ls.length ≤ 60000 := by have := hLl.1; omega
  have hls2 : ∀ x ∈ ls, x.length ≤ 60000 := fun x hx => by have := hLl.2 x (by simp [hx]); omega
  have hL0 : (l :: ls)[Int.toNat 0]? = some l := rfl
  have hsub : subA ((l :: ls).map aB) (Int.toNat 1) ls.length = ls.map aB := by
    show ((ls.map aB).take ls.length) = _
    rw [List.take_of_length_le (by simp)]
  have hsl : (l :: ls).length - Int.toNat 1 = ls.length := rfl
  have h1L : (1 : Int) ≤ ((l :: ls).length : Nat) := by omega
  clear hlc
  simp only [readL]
  generalize l :: ls = L at hρ hL0 hsub hsl h1L
  have hWl : (wrds l).length ≤ l.length ∧ ∀ x ∈ wrds l, x.length ≤ l.length := by
    have := partsB_len (sign := 32) (em := false) l []
    simpa using this
  have hfd := Fields_a (bA l) (by rw [size_bA]; omega)
  rw [show (bA l).data.toList = l by simp] at hfd
  change FnP _ _ _ (fun a => a = aSl aB (wrds l)) at hfd
  have hsz := asm_size_a (wrds l) (by omega) fun w hw => by have := hWl.2 w hw; omega
  generalize wrds l = W at hfd hsz ⊢
  generalize sizeF W = S at hsz ⊢
  refine wpa_seqx (fun ε σ => (ε 2 = .ref 0 0 0 ∧ ε 4 = .ref 1 0 0 ∧ ε 5 = .ref 2 0 0 ∧ ε 6 = .sl L.length (L.map aB) .none ∧ ε 7 = .v (.int .i64 S.1) ∧ ε 8 = .v (.int .i64 S.2)) ∧ σ = [.obj 0 pr0, .obj 0 pr0, .obj 0 pr0]) ?_ ?_
  · intro N X R hN
    simp (maxSteps:=999999) -implicitDefEqProofs (disch:=omega) only [push_cast,↓reduceIte,Nat.reduceEqDiff,reduceCtorEq,wz,hρ,hL0]
    refine wpa_call hfd ?_
    rintro a rfl
    simp (maxSteps:=999999) -implicitDefEqProofs (disch:=omega) only [push_cast,↓reduceIte,Nat.reduceEqDiff,reduceCtorEq,wz,hρ]
    refine wpa_call hsz ?_
    rintro a rfl
    simp (maxSteps:=999999) -implicitDefEqProofs (disch:=omega) only [push_cast,↓reduceIte,Nat.reduceEqDiff,reduceCtorEq,wz,hρ,aInt]
    exact hN _ _ ⟨by simp (maxSteps:=999999) -implicitDefEqProofs (disch:=omega) only [push_cast,↓reduceIte,Nat.reduceEqDiff,reduceCtorEq,wz,hρ], rfl⟩
  clear hρ ε
  rintro ε σ ⟨hρ, rfl⟩
  by_cases hS : S.2 = 0
  · rw [if_pos hS]
    refine wpa_seqx (fun ε σ => (ε 2 = .ref 0 0 0 ∧ ε 4 = .ref 1 0 0 ∧ ε 5 = .ref 2 0 0 ∧ ε 6 = .sl L.length (L.map aB) .none ∧ ε 7 = .v (.int .i64 S.1)) ∧ σ = [.obj 0 pr0, .obj 0 pr0, .obj 0 pr0]) ?_ ?_
    · intro N X R hN
      simp (maxSteps:=999999) -implicitDefEqProofs (disch:=omega) only [push_cast,↓reduceIte,Nat.reduceEqDiff,reduceCtorEq,wz,hρ,hS]
      exact hN _ _ ⟨by simp (maxSteps:=999999) -implicitDefEqProofs (disch:=omega) only [push_cast,↓reduceIte,Nat.reduceEqDiff,reduceCtorEq,wz,hρ], rfl⟩
    clear hρ ε
    rintro ε σ ⟨hρ, rfl⟩
    refine wpa_seqx (fun ε σ => (ε 2 = .ref 0 0 0 ∧ ε 4 = .ref 1 0 0 ∧ ε 5 = .ref 2 0 0 ∧ ε 6 = .sl L.length (L.map aB) .none) ∧ σ = [.obj 0 pr0, .obj 0 [.v (.int .i64 S.1), .sl 0 [] .nil], .obj 0 pr0]) ?_ ?_
    · intro N X R hN
      simp (maxSteps:=999999) -implicitDefEqProofs (disch:=omega) only [push_cast,↓reduceIte,Nat.reduceEqDiff,reduceCtorEq,wz,hρ]
      refine wpa_st1 (cs := pr0) rfl rfl rfl (by decide) ?_
      simp (maxSteps:=999999) -implicitDefEqProofs (disch:=omega) only [push_cast,↓reduceIte,Nat.reduceEqDiff,reduceCtorEq,wz,hρ]
      exact hN _ _ ⟨by simp (maxSteps:=999999) -implicitDefEqProofs (disch:=omega) only [push_cast,↓reduceIte,Nat.reduceEqDiff,reduceCtorEq,wz,hρ], rfl⟩
    clear hρ ε
    rintro ε σ ⟨hρ, rfl⟩
    refine wpa_seq (fun ε σ => ((ε 2 = .ref 0 0 0 ∧ ε 4 = .ref 1 0 0 ∧ ε 5 = .ref 2 0 0) ∧ FsAt σ 1 3 S.1 (addsF ls []).1 ∧ σ[0]? = some (.obj 0 pr0) ∧ σ[2]? = some (.obj 0 pr0)) ∧ (addsF ls []).2 = 0 ∧ okF (addsF ls []).1) ?_ ?_
    · intro N hN
      simp (maxSteps:=999999) -implicitDefEqProofs (disch:=omega) only [push_cast,↓reduceIte,Nat.reduceEqDiff,reduceCtorEq,wz,hρ,hsub,hsl]
      refine wpa_bl (α := Nat) (I := fun k ε σ => (ε 2 = .ref 0 0 0 ∧ ε 4 = .ref 1 0 0 ∧ ε 5 = .ref 2 0 0 ∧ ε 38 = .sl ls.length (ls.map aB) .none ∧ ε 39 = .v (.int .i64 ls.length) ∧ ε 40 = .v (.int .i64 k)) ∧ k ≤ ls.length ∧ ∃ fs, FsAt σ 1 3 S.1 fs ∧ (σ[0]? = some (.obj 0 pr0) ∧ σ[2]? = some (.obj 0 pr0)) ∧ (fs.length ≤ k ∧ ∀ f ∈ fs, f.length ≤ k) ∧ addsF ls [] = addsF (ls.drop k) fs)
        (μ := fun k => ls.length - k) (Q := fun ε σ => ((ε 2 = .ref 0 0 0 ∧ ε 4 = .ref 1 0 0 ∧ ε 5 = .ref 2 0 0) ∧ FsAt σ 1 3 S.1 (addsF ls []).1 ∧ σ[0]? = some (.obj 0 pr0) ∧ σ[2]? = some (.obj 0 pr0)) ∧ (addsF ls []).2 = 0 ∧ okF (addsF ls []).1) (x := 0) ?_ ?_ hN
      · exact ⟨by simp (maxSteps:=999999) -implicitDefEqProofs (disch:=omega) only [push_cast,↓reduceIte,Nat.reduceEqDiff,reduceCtorEq,wz,hρ], by omega, [], ⟨by decide, by simp, .inl ⟨rfl, rfl⟩⟩, ⟨rfl, rfl⟩, by simp, by rw [List.drop_zero]⟩
      · clear hN N hρ ε
        rintro k ε σ N E ⟨hρ, hk, fs, hfs, hs02, hbd, hgo⟩ hN hE
        simp only [S_asm_Read_L1]
        by_cases hlt : k < ls.length
        · obtain ⟨x, hx⟩ := at_lt hlt
          have hkl : (k : Int) < ls.length := by omega
          have hxl := hls2 x (List.mem_of_getElem? hx)
          rw [drop_at hx, addsF] at hgo
          have hbd2 := addF_bd (l := x) hbd
          simp (maxSteps:=999999) -implicitDefEqProofs (disch:=omega) only [push_cast,↓reduceIte,Nat.reduceEqDiff,reduceCtorEq,wz,hρ,hkl,hx]
          refine wpa_callG (asm_add_a x (by omega) hfs (by omega) fun f hf => by have := hbd.2 f hf; omega) ?_
          rintro a σ' ⟨rfl, hfs2, hstay⟩
          have h0' := (hstay 0 (by decide) (by decide)).trans hs02.1
          have h2' := (hstay 2 (by decide) (by decide)).trans hs02.2
          by_cases he : (addF x fs).2 = 0
          · rw [if_pos he] at hgo
            simp (maxSteps:=999999) -implicitDefEqProofs (disch:=omega) only [push_cast,↓reduceIte,Nat.reduceEqDiff,reduceCtorEq,wz,hρ,aInt,he]
            exact hN (k + 1) _ _ ⟨by simp (maxSteps:=999999) -implicitDefEqProofs (disch:=omega) only [push_cast,↓reduceIte,Nat.reduceEqDiff,reduceCtorEq,wz,hρ], by omega, _, hfs2, ⟨h0', h2'⟩, hbd2, hgo⟩ (by omega)
          · rw [if_neg he] at hgo
            have hne2 : ¬ (addsF ls []).2 = 0 := by rw [hgo]; exact he
            rw [if_neg hne2, show (addsF ls []).2 = (addF x fs).2 by rw [hgo]]
            simp (maxSteps:=999999) -implicitDefEqProofs (disch:=omega) only [push_cast,↓reduceIte,Nat.reduceEqDiff,reduceCtorEq,wz,hρ,aInt,he,h2',pr0_cells]
            refine wpa_stn (cs := pr0) (l := pr0) rfl rfl h0' (off := 0) (by decide) ?_
            have hse := get_set_eq (o := Res.obj 0 pr0) h0'
            simp (maxSteps:=999999) -implicitDefEqProofs (disch:=omega) only [push_cast,↓reduceIte,Nat.reduceEqDiff,reduceCtorEq,wz,hρ,hse,hst0,pr0_cells]
            exact fin_res [] (fin_none _ _) (aRd_pure _)
        · have hle : ¬ (k : Int) < ls.length := by omega
          simp (maxSteps:=999999) -implicitDefEqProofs (disch:=omega) only [push_cast,↓reduceIte,Nat.reduceEqDiff,reduceCtorEq,wz,hρ,hle]
          obtain rfl : k = ls.length := by omega
          rw [List.drop_length, addsF] at hgo
          rw [hgo] at hE
          exact hE _ _ ⟨⟨by simp (maxSteps:=999999) -implicitDefEqProofs (disch:=omega) only [push_cast,↓reduceIte,Nat.reduceEqDiff,reduceCtorEq,wz,hρ], hfs, hs02⟩, rfl, by simp only; omega, fun f hf => by have := hbd.2 f hf; omega⟩
    clear hρ ε
    rintro ε σ ⟨⟨hρ, hfs, h0, h2⟩, hA, hok⟩
    rw [if_pos hA]
    generalize (addsF ls []).1 = fs at hfs hok ⊢
    obtain ⟨is, cs, ⟨⟨ca, cb, hcs⟩, hone⟩, hip, hfr⟩ := hfs.read
    obtain ⟨r1, r2, r3, r4, r5⟩ := hfr _ rfl
    have hc2 : cellsA (some 2) cs = some (.agg cs) := by rw [hcs]; rfl
    have hw : weak (Go.Kx.freeze is σ) [true] [.agg cs] = [.agg (aPr S.1 fs)] := by
      show [AV.res _ (.agg cs)] = _
      simp only [AV.res, r1]
    have h0' := (r4 0 (by decide) (by decide)).trans h0
    have h2' := (r4 2 (by decide) (by decide)).trans h2
    refine wpa_seq (fun ε σ' => (ε 2 = .ref 0 0 0 ∧ ε 4 = .ref 1 0 0) ∧ σ' = Go.Kx.freeze is σ ∧ prgE S.1 fs = 0) ?_ ?_
    · intro N hN
      simp (maxSteps:=999999) -implicitDefEqProofs (disch:=omega) only [push_cast,↓reduceIte,Nat.reduceEqDiff,reduceCtorEq,wz,hρ,hip,hc2]
      refine wpa_callw is [true] (prog_Check_a S.1 fs hok) hw ?_
      rintro a rfl
      by_cases hP : prgE S.1 fs = 0
      · simp (maxSteps:=999999) -implicitDefEqProofs (disch:=omega) only [push_cast,↓reduceIte,Nat.reduceEqDiff,reduceCtorEq,wz,hρ,aInt,hP]
        exact hN _ _ ⟨by simp (maxSteps:=999999) -implicitDefEqProofs (disch:=omega) only [push_cast,↓reduceIte,Nat.reduceEqDiff,reduceCtorEq,wz,hρ], rfl, hP⟩
      · rw [if_neg hP]
        generalize Go.Kx.freeze is σ = τ at h0' h2' ⊢
        simp (maxSteps:=999999) -implicitDefEqProofs (disch:=omega) only [push_cast,↓reduceIte,Nat.reduceEqDiff,reduceCtorEq,wz,hρ,aInt,hP,h2',pr0_cells]
        refine wpa_stn (cs := pr0) (l := pr0) rfl rfl h0' (off := 0) (by decide) ?_
        have hse := get_set_eq (o := Res.obj 0 pr0) h0'
        simp (maxSteps:=999999) -implicitDefEqProofs (disch:=omega) only [push_cast,↓reduceIte,Nat.reduceEqDiff,reduceCtorEq,wz,hρ,hse,hst0,pr0_cells]
        exact fin_res [] (fin_none _ _) (aRd_pure _)
    clear hρ ε
    rintro ε σ' ⟨hρ, rfl, hP⟩
    rw [if_pos hP]
    clear hw
    generalize Go.Kx.freeze is σ = τ at r1 r2 r3 r4 r5 h0' h2' ⊢
    simp (maxSteps:=999999) -implicitDefEqProofs (disch:=omega) only [push_cast,↓reduceIte,Nat.reduceEqDiff,reduceCtorEq,wz,hρ,r3,hc2]
    refine wpa_stn (cs := pr0) (l := cs) (by rw [hcs]; rfl) hone h0' (off := 0) (by decide) ?_
    have hse := get_set_eq (o := Res.obj 0 cs) h0'
    have hstc := pr0_st cs ca cb hcs
    simp (maxSteps:=999999) -implicitDefEqProofs (disch:=omega) only [push_cast,↓reduceIte,Nat.reduceEqDiff,reduceCtorEq,wz,hρ,hse,hstc,hc2]
    refine fin_res [] ?_ (aRd_pure _)
    have h5 := r5 (.obj 0 cs) 0 (by decide)
    show AV.res (τ.set 0 (Res.obj 0 cs)) _ = _
    simp only [AV.res, AV.resL, h5]
    rfl
  · rw [if_neg hS]
    refine wpa_seq (fun ε σ => False) ?_ (fun _ _ h => h.elim)
    intro N hN
    simp (maxSteps:=999999) -implicitDefEqProofs (disch:=omega) only [push_cast,↓reduceIte,Nat.reduceEqDiff,reduceCtorEq,wz,hρ,hS,pr0_cells]
    refine wpa_stn (cs := pr0) (l := pr0) rfl rfl rfl (by decide) ?_
    simp (maxSteps:=999999) -implicitDefEqProofs (disch:=omega) only [push_cast,↓reduceIte,Nat.reduceEqDiff,reduceCtorEq,wz,hρ,hst0,pr0_cells]
    exact fin_res [] (fin_none _ _) (aRd_pure _)
end Go.Proofs.YtjdpejggafefjaaDoor
/- The document's Read. -/
namespace Go.Proofs.YtjdpejggafefjaaDoor
set_option linter.unusedVariables false
set_option linter.unusedSimpArgs false
open Go Go.Kx Go.Proofs

def contR (m : Int) (r : List (List Ix) × Int) : (Int × List (List Ix)) × Int := if r.2 = 0 then (if prgE m r.1 = 0 then ((m, r.1), 0) else ((0, []), prgE m r.1)) else ((0, []), r.2)
theorem readL_cons (l : List UInt8) (ls : List (List UInt8)) : readL (l :: ls) = if (sizeF (wrds l)).2 = 0 then contR (sizeF (wrds l)).1 (addsF ls []) else ((0, []), (sizeF (wrds l)).2) := rfl
theorem fullL_cons (x : List UInt8) (ls : List (List UInt8)) : fullL (x :: ls) = if wrds x = [] then fullL ls else x :: fullL ls := by
  unfold fullL
  by_cases h : wrds x = [] <;> simp [h]
theorem contR_cons (m : Int) (l : List UInt8) (ls : List (List UInt8)) (fs : List (List Ix)) : contR m (addsF (l :: ls) fs) = if (addF l fs).2 = 0 then contR m (addsF ls (addF l fs).1) else ((0, []), (addF l fs).2) := by
  rw [addsF]
  split
  · rfl
  · rename_i h
    unfold contR
    rw [if_neg h]
theorem FsAt.fun1 {σ : Kx.St} {ip n0 : Nat} {m : Int} (i1 : ip < n0) (i2 : n0 ≤ σ.length) (hip : σ[ip]? = some (Res.obj 0 [.v (.int .i64 m), .sl 0 [] .nil])) :
    FsAt ((σ ++ [Res.obj 0 [AV.sl 0 [] .nil]]).set ip (Res.obj 0 [.v (.int .i64 m), .ms σ.length 0 0 1 1])) ip n0 m [[]] ∧ StayB σ ((σ ++ [Res.obj 0 [AV.sl 0 [] .nil]]).set ip (Res.obj 0 [.v (.int .i64 m), .ms σ.length 0 0 1 1])) ip n0 :=
  ⟨⟨i1, by simp; omega, .inr ⟨[], [], 0, σ.length, [], .nil, rfl, i2, get_set_eq (get_app hip), get_set_ne (by have := lt_at hip; omega) (snoc_get _ _), rfl, fun _ => rfl, .inl ⟨rfl, rfl⟩⟩⟩, (stay_app i2 _).trans (stay_set (.inr rfl) _)⟩
theorem FsAt.fun2 {σ : Kx.St} {ip n0 : Nat} {m : Int} {gs : List (List Ix)} {k : List Ix} {ver K : Nat} {ts : List AV} {t : Tok} (i1 : ip < n0) (i2 : n0 ≤ σ.length) (hK : n0 ≤ K)
    (hip : σ[ip]? = some (Res.obj 0 [.v (.int .i64 m), .ms K ver 0 (gs.length + 1) 1])) (hK2 : σ[K]? = some (Res.obj ver (ts ++ [AV.sl k.length (k.flatMap aIx) t]))) (hts : ts.length = gs.length) (hres : ∀ τ, AV.resL τ ts = gs.map aIxs) :
    FsAt ((σ.set K (Res.obj (ver + 1) ((ts ++ [AV.sl k.length (k.flatMap aIx) t]).take (gs.length + 1) ++ [AV.sl 0 [] .nil]))).set ip (Res.obj 0 [.v (.int .i64 m), .ms K (ver + 1) 0 (gs.length + 1 + 1) 1])) ip n0 m (gs ++ [k] ++ [[]]) ∧
      StayB σ ((σ.set K (Res.obj (ver + 1) ((ts ++ [AV.sl k.length (k.flatMap aIx) t]).take (gs.length + 1) ++ [AV.sl 0 [] .nil]))).set ip (Res.obj 0 [.v (.int .i64 m), .ms K (ver + 1) 0 (gs.length + 1 + 1) 1])) ip n0 := by
  have hne : K ≠ ip := by omega
  have htake : (ts ++ [AV.sl k.length (k.flatMap aIx) t]).take (gs.length + 1) = ts ++ [AV.sl k.length (k.flatMap aIx) t] := by rw [List.take_of_length_le]; simp; omega
  refine ⟨⟨i1, by simp; omega, .inr ⟨gs ++ [k], [], ver + 1, K, ts ++ [AV.sl k.length (k.flatMap aIx) t], .nil, rfl, hK, ?_, ?_, by simp [hts], ?_, .inl ⟨rfl, rfl⟩⟩⟩, (stay_set (.inl hK) _).trans (stay_set (.inr rfl) _)⟩
  · rw [get_set_eq (get_set_ne hne hip)]; simp
  · rw [get_set_ne (Ne.symm hne) (get_set_eq hK2), htake]; simp
  · intro τ; rw [resL_two, hres τ, List.map_append]; simp only [AV.resL, aIxs_res, List.map_cons, List.map_nil]

set_option maxHeartbeats 16000000 in
theorem ref06_Read_a (t : List UInt8) (ht : t.length ≤ 100000) : FnP Tryd.prog 44 [aB t] fun a => a = aRd (readF t) := by
  refine fnP_in K_forebayref06_Read mixed rfl rfl ?_
  simp only [S_forebayref06_Read]
  have hz : [AV.v (.int .i64 0), AV.sl 0 [] .nil] = pr0 := rfl
  have hb0 : fillA [AV.v (.int .i64 0), AV.sl 0 [] .nil] [] [] = some pr0 := rfl
  have hst0 : setAtA pr0 0 pr0 = pr0 := rfl
  refine wpa_seqx (fun ε σ => (ε 0 = aB t ∧ ε 2 = .ref 0 0 0) ∧ σ = [.obj 0 pr0]) ?_ ?_
  · intro N X R hN
    simp (maxSteps:=999999) -implicitDefEqProofs (disch:=omega) only [push_cast,↓reduceIte,Nat.reduceEqDiff,reduceCtorEq,wz]
    refine wpa_new ?_
    simp (maxSteps:=999999) -implicitDefEqProofs (disch:=omega) only [push_cast,↓reduceIte,Nat.reduceEqDiff,reduceCtorEq,wz]
    exact hN _ _ ⟨by simp (maxSteps:=999999) -implicitDefEqProofs (disch:=omega) only [push_cast,↓reduceIte,Nat.reduceEqDiff,reduceCtorEq,wz], rfl⟩
  rintro ε σ ⟨hρ, rfl⟩
  refine wpa_seqx (fun ε σ => (ε 0 = aB t ∧ ε 2 = .ref 0 0 0 ∧ ε 4 = .ref 1 0 0) ∧ σ = [.obj 0 pr0, .obj 0 pr0]) ?_ ?_
  · intro N X R hN
    simp (maxSteps:=999999) -implicitDefEqProofs (disch:=omega) only [push_cast,↓reduceIte,Nat.reduceEqDiff,reduceCtorEq,wz,hρ,hb0]
    refine wpa_new ?_
    simp (maxSteps:=999999) -implicitDefEqProofs (disch:=omega) only [push_cast,↓reduceIte,Nat.reduceEqDiff,reduceCtorEq,wz,hρ]
    refine wpa_stn (cs := pr0) (l := pr0) rfl rfl rfl (by decide) ?_
    simp (maxSteps:=999999) -implicitDefEqProofs (disch:=omega) only [push_cast,↓reduceIte,Nat.reduceEqDiff,reduceCtorEq,wz,hρ]
    exact hN _ _ ⟨by simp (maxSteps:=999999) -implicitDefEqProofs (disch:=omega) only [push_cast,↓reduceIte,Nat.reduceEqDiff,reduceCtorEq,wz,hρ], rfl⟩
  clear hρ ε
  rintro ε σ ⟨hρ, rfl⟩
  refine wpa_seq (fun ε σ => ((ε 0 = aB t ∧ ε 2 = .ref 0 0 0 ∧ ε 4 = .ref 1 0 0) ∧ σ = [.obj 0 pr0, .obj 0 pr0]) ∧ t.length ≤ 60000) ?_ ?_
  · intro N hN
    unfold readF
    by_cases h : 60000 < t.length
    · have h' : (60000 : Int) < (bA t).size := by rw [size_bA]; omega
      rw [if_pos h]
      simp (maxSteps:=999999) -implicitDefEqProofs (disch:=omega) only [push_cast,↓reduceIte,Nat.reduceEqDiff,reduceCtorEq,wz,hρ,h',pr0_cells]
      refine wpa_stn (cs := pr0) (l := pr0) rfl rfl rfl (by decide) ?_
      simp (maxSteps:=999999) -implicitDefEqProofs (disch:=omega) only [push_cast,↓reduceIte,Nat.reduceEqDiff,reduceCtorEq,wz,hρ,hst0,pr0_cells]
      exact fin_res [] (fin_none _ _) (aRd_pure _)
    · have h' : ¬ (60000 : Int) < (bA t).size := by rw [size_bA]; omega
      simp (maxSteps:=999999) -implicitDefEqProofs (disch:=omega) only [push_cast,↓reduceIte,Nat.reduceEqDiff,reduceCtorEq,wz,hρ,h']
      exact hN _ _ ⟨⟨by simp (maxSteps:=999999) -implicitDefEqProofs (disch:=omega) only [push_cast,↓reduceIte,Nat.reduceEqDiff,reduceCtorEq,wz,hρ], rfl⟩, by omega⟩
  clear hρ ε
  rintro ε σ ⟨⟨hρ, rfl⟩, h60⟩
  have hF : readF t = readL (fullL (partsB 10 true [] t)) := by unfold readF; rw [if_neg (by omega)]
  rw [hF]
  have hln := ref05_Lines_a (bA t) (by rw [size_bA]; omega)
  rw [show (bA t).data.toList = t by simp] at hln
  have hLl : (partsB 10 true [] t).length ≤ t.length ∧ ∀ x ∈ partsB 10 true [] t, x.length ≤ t.length := by
    have := partsB_len (sign := 10) (em := true) t []
    simpa using this
  generalize partsB 10 true [] t = L at hln hLl
  have hLl2 : L.length ≤ 60000 := by omega
  have hls2 : ∀ x ∈ L, x.length ≤ 60000 := fun x hx => by have := hLl.2 x hx; omega
  refine wpa_seqx (fun ε σ => (ε 2 = .ref 0 0 0 ∧ ε 4 = .ref 1 0 0 ∧ ε 5 = .sl L.length (L.map aB) .none) ∧ σ = [.obj 0 pr0, .obj 0 pr0]) ?_ ?_
  · intro N X R hN
    simp (maxSteps:=999999) -implicitDefEqProofs (disch:=omega) only [push_cast,↓reduceIte,Nat.reduceEqDiff,reduceCtorEq,wz,hρ]
    refine wpa_call hln ?_
    rintro a rfl
    simp (maxSteps:=999999) -implicitDefEqProofs (disch:=omega) only [push_cast,↓reduceIte,Nat.reduceEqDiff,reduceCtorEq,wz,aSl]
    exact hN _ _ ⟨by simp (maxSteps:=999999) -implicitDefEqProofs (disch:=omega) only [push_cast,↓reduceIte,Nat.reduceEqDiff,reduceCtorEq,wz,hρ], rfl⟩
  clear hρ ε
  rintro ε σ ⟨hρ, rfl⟩
  refine wpa_seqx (fun ε σ => (ε 2 = .ref 0 0 0 ∧ ε 4 = .ref 1 0 0 ∧ ε 5 = .sl L.length (L.map aB) .none ∧ ε 6 = .ref 2 0 0) ∧ σ = [.obj 0 pr0, .obj 0 pr0, .obj 0 pr0]) ?_ ?_
  · intro N X R hN
    simp (maxSteps:=999999) -implicitDefEqProofs (disch:=omega) only [push_cast,↓reduceIte,Nat.reduceEqDiff,reduceCtorEq,wz,hρ,hb0]
    refine wpa_new ?_
    simp (maxSteps:=999999) -implicitDefEqProofs (disch:=omega) only [push_cast,↓reduceIte,Nat.reduceEqDiff,reduceCtorEq,wz,hρ]
    refine wpa_stn (cs := pr0) (l := pr0) rfl rfl rfl (by decide) ?_
    simp (maxSteps:=999999) -implicitDefEqProofs (disch:=omega) only [push_cast,↓reduceIte,Nat.reduceEqDiff,reduceCtorEq,wz,hρ]
    exact hN _ _ ⟨by simp (maxSteps:=999999) -implicitDefEqProofs (disch:=omega) only [push_cast,↓reduceIte,Nat.reduceEqDiff,reduceCtorEq,wz,hρ], rfl⟩
  clear hρ ε
  rintro ε σ ⟨hρ, rfl⟩
  refine wpa_seqx (fun ε σ => (ε 2 = .ref 0 0 0 ∧ ε 4 = .ref 1 0 0 ∧ ε 5 = .sl L.length (L.map aB) .none ∧ ε 6 = .ref 2 0 0 ∧ ε 7 = .v (.bool false)) ∧ σ = [.obj 0 pr0, .obj 0 pr0, .obj 0 pr0]) ?_ ?_
  · intro N X R hN
    simp (maxSteps:=999999) -implicitDefEqProofs (disch:=omega) only [push_cast,↓reduceIte,Nat.reduceEqDiff,reduceCtorEq,wz,hρ]
    exact hN _ _ ⟨by simp (maxSteps:=999999) -implicitDefEqProofs (disch:=omega) only [push_cast,↓reduceIte,Nat.reduceEqDiff,reduceCtorEq,wz,hρ], rfl⟩
  clear hρ ε
  rintro ε σ ⟨hρ, rfl⟩
  refine wpa_seq (fun ε σ => (ε 2 = .ref 0 0 0 ∧ ε 4 = .ref 1 0 0 ∧ ε 6 = .ref 2 0 0) ∧ (σ[0]? = some (.obj 0 pr0) ∧ σ[1]? = some (.obj 0 pr0)) ∧ ((ε 7 = .v (.bool false) ∧ readL (fullL L) = ((0, []), 4)) ∨ (ε 7 = .v (.bool true) ∧ ∃ m fs, FsAt σ 2 3 m fs ∧ okF fs ∧ readL (fullL L) = contR m (fs, 0)))) ?_ ?_
  · intro N hN
    simp (maxSteps:=999999) -implicitDefEqProofs (disch:=omega) only [push_cast,↓reduceIte,Nat.reduceEqDiff,reduceCtorEq,wz,hρ]
    refine wpa_bl (α := Nat) (I := fun k ε σ => (ε 2 = .ref 0 0 0 ∧ ε 4 = .ref 1 0 0 ∧ ε 5 = .sl L.length (L.map aB) .none ∧ ε 6 = .ref 2 0 0 ∧ ε 8 = .v (.int .i64 k)) ∧ k ≤ L.length ∧ (σ[0]? = some (.obj 0 pr0) ∧ σ[1]? = some (.obj 0 pr0)) ∧
        ((ε 7 = .v (.bool false) ∧ (3 ≤ σ.length ∧ σ[2]? = some (.obj 0 pr0)) ∧ readL (fullL L) = readL (fullL (L.drop k))) ∨
         (ε 7 = .v (.bool true) ∧ ∃ m fs, FsAt σ 2 3 m fs ∧ (fs.length ≤ k ∧ ∀ f ∈ fs, f.length ≤ k) ∧ readL (fullL L) = contR m (addsF (fullL (L.drop k)) fs))))
      (μ := fun k => L.length - k) (Q := fun ε σ => (ε 2 = .ref 0 0 0 ∧ ε 4 = .ref 1 0 0 ∧ ε 6 = .ref 2 0 0) ∧ (σ[0]? = some (.obj 0 pr0) ∧ σ[1]? = some (.obj 0 pr0)) ∧ ((ε 7 = .v (.bool false) ∧ readL (fullL L) = ((0, []), 4)) ∨ (ε 7 = .v (.bool true) ∧ ∃ m fs, FsAt σ 2 3 m fs ∧ okF fs ∧ readL (fullL L) = contR m (fs, 0)))) (x := 0) ?_ ?_ hN
    · exact ⟨by simp (maxSteps:=999999) -implicitDefEqProofs (disch:=omega) only [push_cast,↓reduceIte,Nat.reduceEqDiff,reduceCtorEq,wz,hρ], by omega, ⟨rfl, rfl⟩, .inl ⟨by simp (maxSteps:=999999) -implicitDefEqProofs (disch:=omega) only [push_cast,↓reduceIte,Nat.reduceEqDiff,reduceCtorEq,wz,hρ], ⟨by simp, rfl⟩, by rw [List.drop_zero]⟩⟩
    · clear hN N hρ ε
      rintro k ε σ N E ⟨hρ, hk, ⟨h0, h1⟩, hI⟩ hN hE
      simp only [S_forebayref06_Read_L1]
      by_cases hlt : k < L.length
      · obtain ⟨x, hx⟩ := at_lt hlt
        have hkl : (k : Int) < L.length := by omega
        have hxl := hls2 x (List.mem_of_getElem? hx)
        have hdr := fullL_cons x (L.drop (k + 1))
        rw [← drop_at hx] at hdr
        have hWl : (wrds x).length ≤ x.length ∧ ∀ w ∈ wrds x, w.length ≤ x.length := by
          have := partsB_len (sign := 32) (em := false) x []
          simpa using this
        have hfd := ref05_Fields_a (bA x) (by rw [size_bA]; omega)
        rw [show (bA x).data.toList = x by simp] at hfd
        change FnP _ _ _ (fun a => a = aSl aB (wrds x)) at hfd
        simp (maxSteps:=999999) -implicitDefEqProofs (disch:=omega) only [push_cast,↓reduceIte,Nat.reduceEqDiff,reduceCtorEq,wz,hρ,hkl,hx]
        refine wpa_call hfd ?_
        rintro a rfl
        by_cases hw : wrds x = []
        · rw [if_pos hw] at hdr
          have hz0 : (((wrds x).length : Nat) : Int) = 0 := by rw [hw]; rfl
          simp (maxSteps:=999999) -implicitDefEqProofs (disch:=omega) only [push_cast,↓reduceIte,Nat.reduceEqDiff,reduceCtorEq,wz,hρ,aSl,hz0]
          refine hN (k + 1) _ _ ⟨by simp (maxSteps:=999999) -implicitDefEqProofs (disch:=omega) only [push_cast,↓reduceIte,Nat.reduceEqDiff,reduceCtorEq,wz,hρ], by omega, ⟨h0, h1⟩, ?_⟩ (by omega)
          rcases hI with ⟨h7, h2, hr⟩ | ⟨h7, m, fs, hfs, hbd, hr⟩
          · exact .inl ⟨by simp (maxSteps:=999999) -implicitDefEqProofs (disch:=omega) only [push_cast,↓reduceIte,Nat.reduceEqDiff,reduceCtorEq,wz,h7], h2, by rw [hr, hdr]⟩
          · exact .inr ⟨by simp (maxSteps:=999999) -implicitDefEqProofs (disch:=omega) only [push_cast,↓reduceIte,Nat.reduceEqDiff,reduceCtorEq,wz,h7], m, fs, hfs, ⟨by omega, fun f hf => by have := hbd.2 f hf; omega⟩, by rw [hr, hdr]⟩
        · rw [if_neg hw] at hdr
          have hz0 : ¬ ((((wrds x).length : Nat) : Int) = 0) := by
            have := List.length_pos_iff.2 hw
            omega
          rcases hI with ⟨h7, ⟨h3, h2⟩, hr⟩ | ⟨h7, m, fs, hfs, hbd, hr⟩
          · rw [hdr, readL_cons] at hr
            have hcase : (∃ a b, wrds x = [a, b]) ∨ (sizeF (wrds x) = (0, 4) ∧ ¬ (((wrds x).length : Int) = 2)) := by
              generalize wrds x = ws
              match ws with
              | [a, b] => exact .inl ⟨a, b, rfl⟩
              | [] => exact .inr ⟨rfl, by simp⟩
              | [_] => exact .inr ⟨rfl, by simp⟩
              | _ :: _ :: _ :: l => exact .inr ⟨rfl, by simp only [List.length_cons]; omega⟩
            rcases hcase with ⟨a, b, hab⟩ | ⟨hs4, hne2⟩
            · rw [hab] at hr hWl
              have hi0 : ([a, b] : List (List UInt8))[Int.toNat 0]? = some a := rfl
              have hi1 : ([a, b] : List (List UInt8))[Int.toNat 1]? = some b := rfl
              have hbl := hWl.2 b (by simp)
              by_cases hm : a = memB
              · subst hm
                have he : bA memB = ⟨#[109, 101, 109, 111, 114, 121]⟩ := rfl
                simp (maxSteps:=999999) -implicitDefEqProofs (disch:=omega) only [push_cast,↓reduceIte,Nat.reduceEqDiff,reduceCtorEq,wz,hρ,aSl,hz0,hab,h7,hi0,hi1,he]
                refine wpa_call (ref05_Num_a b (by omega)) ?_
                rintro a' rfl
                cases hn : (numF b).2 with
                | false =>
                  have hs4 : sizeF [memB, b] = (0, 4) := by simp [sizeF, hn]
                  simp only [hs4, if_neg (show ¬ ((4 : Int) = 0) by decide)] at hr
                  simp (maxSteps:=999999) -implicitDefEqProofs (disch:=omega) only [push_cast,↓reduceIte,Nat.reduceEqDiff,reduceCtorEq,wz,hρ,aNum,hn,h1,pr0_cells]
                  refine wpa_stn (cs := pr0) (l := pr0) rfl rfl h0 (off := 0) (by decide) ?_
                  have hse := get_set_eq (o := Res.obj 0 pr0) h0
                  simp (maxSteps:=999999) -implicitDefEqProofs (disch:=omega) only [push_cast,↓reduceIte,Nat.reduceEqDiff,reduceCtorEq,wz,hρ,hse,hst0,pr0_cells]
                  rw [hr]
                  exact fin_res [] (fin_none _ _) (aRd_pure _)
                | true =>
                  have hs4 : sizeF [memB, b] = ((numF b).1, 0) := by simp [sizeF, hn]
                  simp only [hs4, if_true] at hr
                  simp (maxSteps:=999999) -implicitDefEqProofs (disch:=omega) only [push_cast,↓reduceIte,Nat.reduceEqDiff,reduceCtorEq,wz,hρ,aNum,hn]
                  refine wpa_st1 rfl rfl h2 (by decide) ?_
                  simp (maxSteps:=999999) -implicitDefEqProofs (disch:=omega) only [push_cast,↓reduceIte,Nat.reduceEqDiff,reduceCtorEq,wz,hρ]
                  refine hN (k + 1) _ _ ⟨by simp (maxSteps:=999999) -implicitDefEqProofs (disch:=omega) only [push_cast,↓reduceIte,Nat.reduceEqDiff,reduceCtorEq,wz,hρ], by omega, ⟨get_set_ne (by decide) h0, get_set_ne (by decide) h1⟩, .inr ⟨by simp (maxSteps:=999999) -implicitDefEqProofs (disch:=omega) only [push_cast,↓reduceIte,Nat.reduceEqDiff,reduceCtorEq,wz], (numF b).1, [], ⟨by decide, by simpa using h3, .inl ⟨rfl, get_set_eq h2⟩⟩, by simp, hr⟩⟩ (by omega)
              · have hs4 : sizeF [a, b] = (0, 4) := by simp [sizeF, hm]
                simp only [hs4, if_neg (show ¬ ((4 : Int) = 0) by decide)] at hr
                have he : ¬ (bA a = ⟨#[109, 101, 109, 111, 114, 121]⟩) := ne_bA (b := memB) hm
                simp (maxSteps:=999999) -implicitDefEqProofs (disch:=omega) only [push_cast,↓reduceIte,Nat.reduceEqDiff,reduceCtorEq,wz,hρ,aSl,hz0,hab,h7,hi0,he,h1,pr0_cells]
                refine wpa_stn (cs := pr0) (l := pr0) rfl rfl h0 (off := 0) (by decide) ?_
                have hse := get_set_eq (o := Res.obj 0 pr0) h0
                simp (maxSteps:=999999) -implicitDefEqProofs (disch:=omega) only [push_cast,↓reduceIte,Nat.reduceEqDiff,reduceCtorEq,wz,hρ,hse,hst0,pr0_cells]
                rw [hr]
                exact fin_res [] (fin_none _ _) (aRd_pure _)
            · simp only [hs4, if_neg (show ¬ ((4 : Int) = 0) by decide)] at hr
              simp (maxSteps:=999999) -implicitDefEqProofs (disch:=omega) only [push_cast,↓reduceIte,Nat.reduceEqDiff,reduceCtorEq,wz,hρ,aSl,hz0,h7,hne2,h1,pr0_cells]
              refine wpa_stn (cs := pr0) (l := pr0) rfl rfl h0 (off := 0) (by decide) ?_
              have hse := get_set_eq (o := Res.obj 0 pr0) h0
              simp (maxSteps:=999999) -implicitDefEqProofs (disch:=omega) only [push_cast,↓reduceIte,Nat.reduceEqDiff,reduceCtorEq,wz,hρ,hse,hst0,pr0_cells]
              rw [hr]
              exact fin_res [] (fin_none _ _) (aRd_pure _)
          · rw [hdr, contR_cons] at hr
            have hbd2 := addF_bd (l := x) hbd
            by_cases hwf : wrds x = [funB]
            · have hA : addF x fs = (fs ++ [[]], 0) := by unfold addF; rw [if_pos hwf]
              rw [hA] at hr hbd2
              simp only [if_true] at hr hbd2
              have hi0 : ([funB] : List (List UInt8))[Int.toNat 0]? = some funB := rfl
              have he : bA funB = ⟨#[102, 117, 110, 99, 116, 105, 111, 110]⟩ := rfl
              have hnil : (AV.sl 0 [] .nil).cells = [AV.sl 0 [] .nil] := rfl
              obtain ⟨i1, i2, i3⟩ := hfs
              rcases i3 with ⟨rfl, hip⟩ | ⟨gs, k', ver, K, ts, t', rfl, hK, hip, hK2, hts, hres, htok⟩
              · simp (maxSteps:=999999) -implicitDefEqProofs (disch:=omega) only [push_cast,↓reduceIte,Nat.reduceEqDiff,reduceCtorEq,wz,hρ,aSl,hz0,hwf,h7,hi0,he,hip]
                refine wpa_bsl (sz := 1) (by intro a ha; simp at ha; subst ha; rfl) (by simp) ?_
                simp (maxSteps:=999999) -implicitDefEqProofs (disch:=omega) only [push_cast,↓reduceIte,Nat.reduceEqDiff,reduceCtorEq,wz,hρ,hip,hnil]
                refine wpa_app_nilo (m := 1) rfl rfl rfl rfl (by decide) (by decide) (by decide) ?_
                simp (maxSteps:=999999) -implicitDefEqProofs (disch:=omega) only [push_cast,↓reduceIte,Nat.reduceEqDiff,reduceCtorEq,wz,hρ]
                refine wpa_st1 rfl rfl (get_app hip) (by simp) ?_
                simp (maxSteps:=999999) -implicitDefEqProofs (disch:=omega) only [push_cast,↓reduceIte,Nat.reduceEqDiff,reduceCtorEq,wz,hρ]
                obtain ⟨q1, q2⟩ := FsAt.fun1 i1 i2 hip
                exact hN (k + 1) _ _ ⟨by simp (maxSteps:=999999) -implicitDefEqProofs (disch:=omega) only [push_cast,↓reduceIte,Nat.reduceEqDiff,reduceCtorEq,wz,hρ], by omega, ⟨(q2 0 (by decide) (by decide)).trans h0, (q2 1 (by decide) (by decide)).trans h1⟩, .inr ⟨by simp (maxSteps:=999999) -implicitDefEqProofs (disch:=omega) only [push_cast,↓reduceIte,Nat.reduceEqDiff,reduceCtorEq,wz,h7], m, _, q1, hbd2, hr⟩⟩ (by omega)
              · have hlen : gs.length + 1 ≤ 60000 := by have := hbd.1; simp at this; omega
                simp (maxSteps:=999999) -implicitDefEqProofs (disch:=omega) only [push_cast,↓reduceIte,Nat.reduceEqDiff,reduceCtorEq,wz,hρ,aSl,hz0,hwf,h7,hi0,he,hip]
                refine wpa_bsl (sz := 1) (by intro a ha; simp at ha; subst ha; rfl) (by simp) ?_
                simp (maxSteps:=999999) -implicitDefEqProofs (disch:=omega) only [push_cast,↓reduceIte,Nat.reduceEqDiff,reduceCtorEq,wz,hρ,hip,hnil]
                refine wpa_app_ms (m := 1) rfl rfl rfl rfl (by simp; omega) (by omega) (by omega) hK2 ?_
                simp (maxSteps:=999999) -implicitDefEqProofs (disch:=omega) only [push_cast,↓reduceIte,Nat.reduceEqDiff,reduceCtorEq,wz,hρ]
                have hne : K ≠ 2 := by omega
                refine wpa_st1 rfl rfl (get_set_ne hne hip) (by simp) ?_
                simp (maxSteps:=999999) -implicitDefEqProofs (disch:=omega) only [push_cast,↓reduceIte,Nat.reduceEqDiff,reduceCtorEq,wz,hρ]
                obtain ⟨q1, q2⟩ := FsAt.fun2 i1 i2 hK hip hK2 hts hres
                exact hN (k + 1) _ _ ⟨by simp (maxSteps:=999999) -implicitDefEqProofs (disch:=omega) only [push_cast,↓reduceIte,Nat.reduceEqDiff,reduceCtorEq,wz,hρ], by omega, ⟨(q2 0 (by decide) (by decide)).trans h0, (q2 1 (by decide) (by decide)).trans h1⟩, .inr ⟨by simp (maxSteps:=999999) -implicitDefEqProofs (disch:=omega) only [push_cast,↓reduceIte,Nat.reduceEqDiff,reduceCtorEq,wz,h7], m, _, q1, hbd2, hr⟩⟩ (by omega)
            · have hfalse : (¬ ((wrds x).length : Int) = 1) ∨ ∃ w, wrds x = [w] ∧ ¬ (bA w = ⟨#[102, 117, 110, 99, 116, 105, 111, 110]⟩) := by
                match hW : wrds x with
                | [] => exact .inl (by simp)
                | [w] => exact .inr ⟨w, rfl, ne_bA (b := funB) (by rintro rfl; exact hwf hW)⟩
                | _ :: _ :: _ => exact .inl (by simp only [List.length_cons]; omega)
              have hA : addF x fs = if (parseF x).2 = 0 then (if fs = [] then (fs, 8) else (fs.dropLast ++ [fs.getLastD [] ++ [(parseF x).1]], 0)) else (fs, (parseF x).2) := by unfold addF; rw [if_neg hwf]
              have hpr := ref06_Parse_a x (by omega)
              generalize parseF x = p at hpr hA
              obtain ⟨i1, i2, i3⟩ := hfs
              have hS : (σ ++ [Res.obj 0 [AV.v (.int .i64 0), AV.v (.int .i64 0), AV.v (.int .i64 0), AV.v (.int .i64 0)]]).set σ.length (Res.obj 0 (setAtA (aIx ix0) 0 (aIx p.1))) = σ ++ [Res.obj 0 (aIx p.1)] := by simp [ix_st, aIx, setAtA]
              rcases hfalse with hf | ⟨w, hW, hf⟩
              · simp (maxSteps:=999999) -implicitDefEqProofs (disch:=omega) only [push_cast,↓reduceIte,Nat.reduceEqDiff,reduceCtorEq,wz,hρ,aSl,hz0,h7,hf,hx]
                refine wpa_call hpr ?_
                rintro a rfl
                simp (maxSteps:=999999) -implicitDefEqProofs (disch:=omega) only [push_cast,↓reduceIte,Nat.reduceEqDiff,reduceCtorEq,wz,hρ,aInt]
                refine wpa_new ?_
                simp (maxSteps:=999999) -implicitDefEqProofs (disch:=omega) only [push_cast,↓reduceIte,Nat.reduceEqDiff,reduceCtorEq,wz,hρ]
                refine wpa_stn (cs := aIx ix0) rfl rfl (snoc_get _ _) (off := 0) (by decide) ?_
                rw [hS]
                by_cases hp0 : p.2 = 0
                · rw [if_pos hp0] at hA
                  rcases i3 with ⟨rfl, hip⟩ | ⟨gs, k', ver, K, ts, t', rfl, hK, hip, hK2, hts, hres, htok⟩
                  · rw [if_pos rfl] at hA
                    rw [hA] at hr
                    simp only [if_neg (show ¬ ((8 : Int) = 0) by decide)] at hr
                    have hip2 := get_app (τ := [Res.obj 0 (aIx p.1)]) hip
                    have h02 := get_app (τ := [Res.obj 0 (aIx p.1)]) h0
                    have h12 := get_app (τ := [Res.obj 0 (aIx p.1)]) h1
                    generalize σ ++ [Res.obj 0 (aIx p.1)] = S at hip2 h02 h12 ⊢
                    simp (maxSteps:=999999) -implicitDefEqProofs (disch:=omega) only [push_cast,↓reduceIte,Nat.reduceEqDiff,reduceCtorEq,wz,hρ,hp0,hip2,h12,pr0_cells]
                    refine wpa_stn (cs := pr0) (l := pr0) rfl rfl h02 (off := 0) (by decide) ?_
                    have hse := get_set_eq (o := Res.obj 0 pr0) h02
                    simp (maxSteps:=999999) -implicitDefEqProofs (disch:=omega) only [push_cast,↓reduceIte,Nat.reduceEqDiff,reduceCtorEq,wz,hρ,hse,hst0,pr0_cells]
                    rw [hr]
                    exact fin_res [] (fin_none _ _) (aRd_pure _)
                  · rw [if_neg (by simp)] at hA
                    have hdl : (gs ++ [k']).dropLast ++ [(gs ++ [k']).getLastD [] ++ [p.1]] = gs ++ [k' ++ [p.1]] := by simp
                    rw [hdl] at hA
                    rw [hA] at hr hbd2
                    simp only [if_true] at hr hbd2
                    have hlen : gs.length + 1 ≤ 60000 := by have := hbd.1; simp at this; omega
                    have hkl' : k'.length ≤ 60000 := by have := hbd.2 k' (by simp); omega
                    have hx2 := snoc_get σ (Res.obj 0 (aIx p.1))
                    have hip2 := get_app (τ := [Res.obj 0 (aIx p.1)]) hip
                    have h02 := get_app (τ := [Res.obj 0 (aIx p.1)]) h0
                    have h12 := get_app (τ := [Res.obj 0 (aIx p.1)]) h1
                    have hK3 := get_app (τ := [Res.obj 0 (aIx p.1)]) hK2
                    have htok2 : TokL (σ ++ [Res.obj 0 (aIx p.1)]) 3 k' t' := by
                      rcases htok with g | ⟨j, w, g1, g2, g3⟩
                      · exact .inl g
                      · exact .inr ⟨j, w, g1, g2, get_app g3⟩
                    have hne : K ≠ 2 := by omega
                    have i2' : 3 ≤ (σ ++ [Res.obj 0 (aIx p.1)]).length := by simp; omega
                    generalize σ ++ [Res.obj 0 (aIx p.1)] = S at hx2 hip2 h02 h12 hK3 htok2 i2' ⊢
                    generalize σ.length = ix at hx2 ⊢
                    have hgm : (gs.length : Int) + 1 - 1 = gs.length := by omega
                    have hg0 : ¬ ((gs.length : Int) + 1 = 0) := by omega
                    have hfk := flat_len aIx_len k'
                    have hla := last_at ts (.sl k'.length (k'.flatMap aIx) t')
                    rw [hts] at hla
                    have hexk := htok2.exact k'.length (k'.flatMap aIx)
                    have hexm := ex_ms1 K ver 0 (gs.length + 1)
                    have hset := last_set ts (.sl k'.length (k'.flatMap aIx) t')
                    rw [hts] at hset
                    have hap : aIx p.1 ++ [] = aIx p.1 := List.append_nil _
                    have hone : ((k'.flatMap aIx).all AV.one) = true := by rw [List.all_flatMap]; simp only [show ∀ x, (aIx x).all AV.one = true from fun x => rfl]; simp
                    have hres2 : ∀ t : Tok, AV.sl (k'.length + 1) (k'.flatMap aIx ++ aIx p.1) t = .sl (k' ++ [p.1]).length ((k' ++ [p.1]).flatMap aIx) t := fun t => by simp
                    have fin : FsAt ((S ++ [Res.tail 2]).set K (Res.obj ver (ts ++ [AV.sl (k'.length + 1) (k'.flatMap aIx ++ aIx p.1) (.id S.length 2 4)]))) 2 3 m (gs ++ [k' ++ [p.1]]) := by
                      refine ⟨by decide, by simp; omega, .inr ⟨gs, k' ++ [p.1], ver, K, ts, .id S.length 2 4, rfl, hK, get_set_ne hne (get_app hip2), ?_, hts, hres, .inr ⟨S.length, 2, rfl, i2', get_set_ne (by have := lt_at hK3; omega) (snoc_get _ _)⟩⟩⟩
                      rw [get_set_eq (get_app hK3), hres2]
                    have hstay : StayB S ((S ++ [Res.tail 2]).set K (Res.obj ver (ts ++ [AV.sl (k'.length + 1) (k'.flatMap aIx ++ aIx p.1) (.id S.length 2 4)]))) 2 3 := (stay_app i2' _).trans (stay_set (.inl hK) _)
                    have hip3 := get_app (τ := [Res.tail 1]) hip2
                    have hK4 := get_app (τ := [Res.tail 1]) hK3
                    have hx3 := get_app (τ := [Res.tail 1]) hx2
                    have hip4 := get_app (τ := [Res.tail 2]) hip2
                    have hK5 := get_app (τ := [Res.tail 2]) hK3
                    have ht1 := snoc_get S (Res.tail 1)
                    have hts1 : (S ++ [Res.tail 1]).set S.length (Res.tail 2) = S ++ [Res.tail 2] := by simp
                    have hcx : (AV.agg (aIx p.1)).cells = aIx p.1 := rfl
                    have hexx : (AV.agg (aIx p.1)).exact = true := rfl
                    simp (maxSteps:=999999) -implicitDefEqProofs (disch:=omega) only [push_cast,↓reduceIte,Nat.reduceEqDiff,reduceCtorEq,wz,hρ,hp0,hip2,hK3,hgm,hg0,hla,hx2,cellsIx']
                    refine ⟨?_, ?_⟩
                    · refine wpa_bsl (sz := 4) (by intro a ha; simp at ha) (by simp) ?_
                      simp (maxSteps:=999999) -implicitDefEqProofs (disch:=omega) only [push_cast,↓reduceIte,Nat.reduceEqDiff,reduceCtorEq,wz,hρ]
                      refine ⟨aholds_x (by simp (maxSteps:=999999) -implicitDefEqProofs (disch:=omega) only [push_cast,↓reduceIte,Nat.reduceEqDiff,reduceCtorEq,wz,hρ,hx2,cellsIx',hexx]), aholds_x (by simp (maxSteps:=999999) -implicitDefEqProofs (disch:=omega) only [push_cast,↓reduceIte,Nat.reduceEqDiff,reduceCtorEq,wz,hρ,hip2,hK3,hla,hexk]), aholds_x (by simp (maxSteps:=999999) -implicitDefEqProofs (disch:=omega) only [push_cast,↓reduceIte,Nat.reduceEqDiff,reduceCtorEq,wz,hρ,hip2,hexm]), aholds_x (by simp (maxSteps:=999999) -implicitDefEqProofs (disch:=omega) only [push_cast,↓reduceIte,Nat.reduceEqDiff,reduceCtorEq,wz,hρ,hip2,hexm]), ?_⟩
                      refine ⟨?_, ?_⟩
                      · refine wpa_app_full (n := 0) (cs := []) (m := k'.length) (news := k'.flatMap aIx) rfl rfl hfk hone rfl (by omega) (by omega) ?_
                        simp (maxSteps:=999999) -implicitDefEqProofs (disch:=omega) only [push_cast,↓reduceIte,Nat.reduceEqDiff,reduceCtorEq,wz,hρ]
                        refine ⟨aholds_x (by simp (maxSteps:=999999) -implicitDefEqProofs (disch:=omega) only [push_cast,↓reduceIte,Nat.reduceEqDiff,reduceCtorEq,wz,hρ,hx3,cellsIx',hexx]), aholds_x (by simp (maxSteps:=999999) -implicitDefEqProofs (disch:=omega) only [push_cast,↓reduceIte,Nat.reduceEqDiff,reduceCtorEq,wz,hρ,hip3,hexm]), ?_⟩
                        refine wpa_bsl (sz := 4) (by intro a ha; simp at ha; subst ha; rfl) (by simp) ?_
                        simp (maxSteps:=999999) -implicitDefEqProofs (disch:=omega) only [push_cast,↓reduceIte,Nat.reduceEqDiff,reduceCtorEq,wz,hρ]
                        refine ⟨aholds_x (by simp (maxSteps:=999999) -implicitDefEqProofs (disch:=omega) only [push_cast,↓reduceIte,Nat.reduceEqDiff,reduceCtorEq,wz,hρ,hip3,hexm]), ?_⟩
                        refine wpa_app (m := 1) (news := aIx p.1) rfl (by simp [srcA, AV.cells]) rfl rfl hfk (by omega) (by omega) ht1 ?_
                        rw [hts1]
                        simp (maxSteps:=999999) -implicitDefEqProofs (disch:=omega) only [push_cast,↓reduceIte,Nat.reduceEqDiff,reduceCtorEq,wz,hρ]
                        refine ⟨aholds_x (by simp (maxSteps:=999999) -implicitDefEqProofs (disch:=omega) only [push_cast,↓reduceIte,Nat.reduceEqDiff,reduceCtorEq,wz,hρ,hip4,hexm]), ?_⟩
                        refine wpa_st1 rfl rfl hK5 (by simp [hts]) ?_
                        rw [hset]
                        simp (maxSteps:=999999) -implicitDefEqProofs (disch:=omega) only [push_cast,↓reduceIte,Nat.reduceEqDiff,reduceCtorEq,wz,hρ]
                        exact hN (k + 1) _ _ ⟨by simp (maxSteps:=999999) -implicitDefEqProofs (disch:=omega) only [push_cast,↓reduceIte,Nat.reduceEqDiff,reduceCtorEq,wz,hρ], by omega, ⟨(hstay 0 (by decide) (by decide)).trans h02, (hstay 1 (by decide) (by decide)).trans h12⟩, .inr ⟨by simp (maxSteps:=999999) -implicitDefEqProofs (disch:=omega) only [push_cast,↓reduceIte,Nat.reduceEqDiff,reduceCtorEq,wz,h7], m, _, fin, hbd2, hr⟩⟩ (by omega)
                      · refine wpa_bsl (sz := 4) (by intro a ha; simp at ha; subst ha; rfl) (by simp) ?_
                        simp (maxSteps:=999999) -implicitDefEqProofs (disch:=omega) only [push_cast,↓reduceIte,Nat.reduceEqDiff,reduceCtorEq,wz,hρ]
                        refine ⟨aholds_x (by simp (maxSteps:=999999) -implicitDefEqProofs (disch:=omega) only [push_cast,↓reduceIte,Nat.reduceEqDiff,reduceCtorEq,wz,hρ,hip2,hK3,hla,hexk]), aholds_x (by simp (maxSteps:=999999) -implicitDefEqProofs (disch:=omega) only [push_cast,↓reduceIte,Nat.reduceEqDiff,reduceCtorEq,wz,hρ,hip2,hexm]), aholds_x (by simp (maxSteps:=999999) -implicitDefEqProofs (disch:=omega) only [push_cast,↓reduceIte,Nat.reduceEqDiff,reduceCtorEq,wz,hρ,hip2,hexm]), ?_⟩
                        refine wpa_app_full (n := 0) (cs := []) (m := k'.length) (news := k'.flatMap aIx) rfl rfl hfk hone rfl (by omega) (by omega) ?_
                        simp (maxSteps:=999999) -implicitDefEqProofs (disch:=omega) only [push_cast,↓reduceIte,Nat.reduceEqDiff,reduceCtorEq,wz,hρ]
                        refine ⟨aholds_x (by simp (maxSteps:=999999) -implicitDefEqProofs (disch:=omega) only [push_cast,↓reduceIte,Nat.reduceEqDiff,reduceCtorEq,wz,hρ,hip3,hexm]), ?_⟩
                        refine wpa_app (m := 1) (news := aIx p.1) rfl (by simp [srcA, AV.cells]) rfl rfl hfk (by omega) (by omega) ht1 ?_
                        rw [hts1]
                        simp (maxSteps:=999999) -implicitDefEqProofs (disch:=omega) only [push_cast,↓reduceIte,Nat.reduceEqDiff,reduceCtorEq,wz,hρ]
                        refine ⟨aholds_x (by simp (maxSteps:=999999) -implicitDefEqProofs (disch:=omega) only [push_cast,↓reduceIte,Nat.reduceEqDiff,reduceCtorEq,wz,hρ,hip4,hexm]), ?_⟩
                        refine wpa_st1 rfl rfl hK5 (by simp [hts]) ?_
                        rw [hset]
                        simp (maxSteps:=999999) -implicitDefEqProofs (disch:=omega) only [push_cast,↓reduceIte,Nat.reduceEqDiff,reduceCtorEq,wz,hρ]
                        exact hN (k + 1) _ _ ⟨by simp (maxSteps:=999999) -implicitDefEqProofs (disch:=omega) only [push_cast,↓reduceIte,Nat.reduceEqDiff,reduceCtorEq,wz,hρ], by omega, ⟨(hstay 0 (by decide) (by decide)).trans h02, (hstay 1 (by decide) (by decide)).trans h12⟩, .inr ⟨by simp (maxSteps:=999999) -implicitDefEqProofs (disch:=omega) only [push_cast,↓reduceIte,Nat.reduceEqDiff,reduceCtorEq,wz,h7], m, _, fin, hbd2, hr⟩⟩ (by omega)
                    · refine wpa_bsl (sz := 4) (by intro a ha; simp at ha; subst ha; rfl) (by simp) ?_
                      simp (maxSteps:=999999) -implicitDefEqProofs (disch:=omega) only [push_cast,↓reduceIte,Nat.reduceEqDiff,reduceCtorEq,wz,hρ]
                      refine ⟨aholds_x (by simp (maxSteps:=999999) -implicitDefEqProofs (disch:=omega) only [push_cast,↓reduceIte,Nat.reduceEqDiff,reduceCtorEq,wz,hρ,hip2,hK3,hla,hexk]), aholds_x (by simp (maxSteps:=999999) -implicitDefEqProofs (disch:=omega) only [push_cast,↓reduceIte,Nat.reduceEqDiff,reduceCtorEq,wz,hρ,hip2,hexm]), aholds_x (by simp (maxSteps:=999999) -implicitDefEqProofs (disch:=omega) only [push_cast,↓reduceIte,Nat.reduceEqDiff,reduceCtorEq,wz,hρ,hip2,hexm]), ?_⟩
                      refine wpa_bsl (sz := 4) (by intro a ha; simp at ha) (by simp) ?_
                      simp (maxSteps:=999999) -implicitDefEqProofs (disch:=omega) only [push_cast,↓reduceIte,Nat.reduceEqDiff,reduceCtorEq,wz,hρ]
                      refine ⟨aholds_x (by simp (maxSteps:=999999) -implicitDefEqProofs (disch:=omega) only [push_cast,↓reduceIte,Nat.reduceEqDiff,reduceCtorEq,wz,hρ,hip2,hK3,hla,hexk]), aholds_x (by simp (maxSteps:=999999) -implicitDefEqProofs (disch:=omega) only [push_cast,↓reduceIte,Nat.reduceEqDiff,reduceCtorEq,wz,hρ,hip2,hexm]), aholds_x (by simp (maxSteps:=999999) -implicitDefEqProofs (disch:=omega) only [push_cast,↓reduceIte,Nat.reduceEqDiff,reduceCtorEq,wz,hρ,hip2,hexm]), ?_⟩
                      refine wpa_app_full (n := 0) (cs := []) (m := k'.length) (news := k'.flatMap aIx) rfl rfl hfk hone rfl (by omega) (by omega) ?_
                      simp (maxSteps:=999999) -implicitDefEqProofs (disch:=omega) only [push_cast,↓reduceIte,Nat.reduceEqDiff,reduceCtorEq,wz,hρ]
                      refine ⟨aholds_x (by simp (maxSteps:=999999) -implicitDefEqProofs (disch:=omega) only [push_cast,↓reduceIte,Nat.reduceEqDiff,reduceCtorEq,wz,hρ,hip3,hexm]), ?_⟩
                      refine wpa_app (m := 1) (news := aIx p.1) rfl (by simp [srcA, AV.cells]) rfl rfl hfk (by omega) (by omega) ht1 ?_
                      rw [hts1]
                      simp (maxSteps:=999999) -implicitDefEqProofs (disch:=omega) only [push_cast,↓reduceIte,Nat.reduceEqDiff,reduceCtorEq,wz,hρ]
                      refine ⟨aholds_x (by simp (maxSteps:=999999) -implicitDefEqProofs (disch:=omega) only [push_cast,↓reduceIte,Nat.reduceEqDiff,reduceCtorEq,wz,hρ,hip4,hexm]), ?_⟩
                      refine wpa_st1 rfl rfl hK5 (by simp [hts]) ?_
                      rw [hset]
                      simp (maxSteps:=999999) -implicitDefEqProofs (disch:=omega) only [push_cast,↓reduceIte,Nat.reduceEqDiff,reduceCtorEq,wz,hρ]
                      exact hN (k + 1) _ _ ⟨by simp (maxSteps:=999999) -implicitDefEqProofs (disch:=omega) only [push_cast,↓reduceIte,Nat.reduceEqDiff,reduceCtorEq,wz,hρ], by omega, ⟨(hstay 0 (by decide) (by decide)).trans h02, (hstay 1 (by decide) (by decide)).trans h12⟩, .inr ⟨by simp (maxSteps:=999999) -implicitDefEqProofs (disch:=omega) only [push_cast,↓reduceIte,Nat.reduceEqDiff,reduceCtorEq,wz,h7], m, _, fin, hbd2, hr⟩⟩ (by omega)
                · rw [if_neg hp0] at hA
                  rw [hA] at hr
                  simp only [if_neg hp0] at hr
                  have h02 := get_app (τ := [Res.obj 0 (aIx p.1)]) h0
                  have h12 := get_app (τ := [Res.obj 0 (aIx p.1)]) h1
                  generalize σ ++ [Res.obj 0 (aIx p.1)] = S at h02 h12 ⊢
                  simp (maxSteps:=999999) -implicitDefEqProofs (disch:=omega) only [push_cast,↓reduceIte,Nat.reduceEqDiff,reduceCtorEq,wz,hρ,hp0,h12,pr0_cells]
                  refine wpa_stn (cs := pr0) (l := pr0) rfl rfl h02 (off := 0) (by decide) ?_
                  have hse := get_set_eq (o := Res.obj 0 pr0) h02
                  simp (maxSteps:=999999) -implicitDefEqProofs (disch:=omega) only [push_cast,↓reduceIte,Nat.reduceEqDiff,reduceCtorEq,wz,hρ,hse,hst0,pr0_cells]
                  rw [hr]
                  exact fin_res [] (fin_none _ _) (aRd_pure _)
              · have hi0 : ([w] : List (List UInt8))[Int.toNat 0]? = some w := rfl
                simp (maxSteps:=999999) -implicitDefEqProofs (disch:=omega) only [push_cast,↓reduceIte,Nat.reduceEqDiff,reduceCtorEq,wz,hρ,aSl,hz0,h7,hW,hi0,hf,hx]
                refine wpa_call hpr ?_
                rintro a rfl
                simp (maxSteps:=999999) -implicitDefEqProofs (disch:=omega) only [push_cast,↓reduceIte,Nat.reduceEqDiff,reduceCtorEq,wz,hρ,aInt]
                refine wpa_new ?_
                simp (maxSteps:=999999) -implicitDefEqProofs (disch:=omega) only [push_cast,↓reduceIte,Nat.reduceEqDiff,reduceCtorEq,wz,hρ]
                refine wpa_stn (cs := aIx ix0) rfl rfl (snoc_get _ _) (off := 0) (by decide) ?_
                rw [hS]
                by_cases hp0 : p.2 = 0
                · rw [if_pos hp0] at hA
                  rcases i3 with ⟨rfl, hip⟩ | ⟨gs, k', ver, K, ts, t', rfl, hK, hip, hK2, hts, hres, htok⟩
                  · rw [if_pos rfl] at hA
                    rw [hA] at hr
                    simp only [if_neg (show ¬ ((8 : Int) = 0) by decide)] at hr
                    have hip2 := get_app (τ := [Res.obj 0 (aIx p.1)]) hip
                    have h02 := get_app (τ := [Res.obj 0 (aIx p.1)]) h0
                    have h12 := get_app (τ := [Res.obj 0 (aIx p.1)]) h1
                    generalize σ ++ [Res.obj 0 (aIx p.1)] = S at hip2 h02 h12 ⊢
                    simp (maxSteps:=999999) -implicitDefEqProofs (disch:=omega) only [push_cast,↓reduceIte,Nat.reduceEqDiff,reduceCtorEq,wz,hρ,hp0,hip2,h12,pr0_cells]
                    refine wpa_stn (cs := pr0) (l := pr0) rfl rfl h02 (off := 0) (by decide) ?_
                    have hse := get_set_eq (o := Res.obj 0 pr0) h02
                    simp (maxSteps:=999999) -implicitDefEqProofs (disch:=omega) only [push_cast,↓reduceIte,Nat.reduceEqDiff,reduceCtorEq,wz,hρ,hse,hst0,pr0_cells]
                    rw [hr]
                    exact fin_res [] (fin_none _ _) (aRd_pure _)
                  · rw [if_neg (by simp)] at hA
                    have hdl : (gs ++ [k']).dropLast ++ [(gs ++ [k']).getLastD [] ++ [p.1]] = gs ++ [k' ++ [p.1]] := by simp
                    rw [hdl] at hA
                    rw [hA] at hr hbd2
                    simp only [if_true] at hr hbd2
                    have hlen : gs.length + 1 ≤ 60000 := by have := hbd.1; simp at this; omega
                    have hkl' : k'.length ≤ 60000 := by have := hbd.2 k' (by simp); omega
                    have hx2 := snoc_get σ (Res.obj 0 (aIx p.1))
                    have hip2 := get_app (τ := [Res.obj 0 (aIx p.1)]) hip
                    have h02 := get_app (τ := [Res.obj 0 (aIx p.1)]) h0
                    have h12 := get_app (τ := [Res.obj 0 (aIx p.1)]) h1
                    have hK3 := get_app (τ := [Res.obj 0 (aIx p.1)]) hK2
                    have htok2 : TokL (σ ++ [Res.obj 0 (aIx p.1)]) 3 k' t' := by
                      rcases htok with g | ⟨j, w, g1, g2, g3⟩
                      · exact .inl g
                      · exact .inr ⟨j, w, g1, g2, get_app g3⟩
                    have hne : K ≠ 2 := by omega
                    have i2' : 3 ≤ (σ ++ [Res.obj 0 (aIx p.1)]).length := by simp; omega
                    generalize σ ++ [Res.obj 0 (aIx p.1)] = S at hx2 hip2 h02 h12 hK3 htok2 i2' ⊢
                    generalize σ.length = ix at hx2 ⊢
                    have hgm : (gs.length : Int) + 1 - 1 = gs.length := by omega
                    have hg0 : ¬ ((gs.length : Int) + 1 = 0) := by omega
                    have hfk := flat_len aIx_len k'
                    have hla := last_at ts (.sl k'.length (k'.flatMap aIx) t')
                    rw [hts] at hla
                    have hexk := htok2.exact k'.length (k'.flatMap aIx)
                    have hexm := ex_ms1 K ver 0 (gs.length + 1)
                    have hset := last_set ts (.sl k'.length (k'.flatMap aIx) t')
                    rw [hts] at hset
                    have hap : aIx p.1 ++ [] = aIx p.1 := List.append_nil _
                    have hone : ((k'.flatMap aIx).all AV.one) = true := by rw [List.all_flatMap]; simp only [show ∀ x, (aIx x).all AV.one = true from fun x => rfl]; simp
                    have hres2 : ∀ t : Tok, AV.sl (k'.length + 1) (k'.flatMap aIx ++ aIx p.1) t = .sl (k' ++ [p.1]).length ((k' ++ [p.1]).flatMap aIx) t := fun t => by simp
                    have fin : FsAt ((S ++ [Res.tail 2]).set K (Res.obj ver (ts ++ [AV.sl (k'.length + 1) (k'.flatMap aIx ++ aIx p.1) (.id S.length 2 4)]))) 2 3 m (gs ++ [k' ++ [p.1]]) := by
                      refine ⟨by decide, by simp; omega, .inr ⟨gs, k' ++ [p.1], ver, K, ts, .id S.length 2 4, rfl, hK, get_set_ne hne (get_app hip2), ?_, hts, hres, .inr ⟨S.length, 2, rfl, i2', get_set_ne (by have := lt_at hK3; omega) (snoc_get _ _)⟩⟩⟩
                      rw [get_set_eq (get_app hK3), hres2]
                    have hstay : StayB S ((S ++ [Res.tail 2]).set K (Res.obj ver (ts ++ [AV.sl (k'.length + 1) (k'.flatMap aIx ++ aIx p.1) (.id S.length 2 4)]))) 2 3 := (stay_app i2' _).trans (stay_set (.inl hK) _)
                    have hip3 := get_app (τ := [Res.tail 1]) hip2
                    have hK4 := get_app (τ := [Res.tail 1]) hK3
                    have hx3 := get_app (τ := [Res.tail 1]) hx2
                    have hip4 := get_app (τ := [Res.tail 2]) hip2
                    have hK5 := get_app (τ := [Res.tail 2]) hK3
                    have ht1 := snoc_get S (Res.tail 1)
                    have hts1 : (S ++ [Res.tail 1]).set S.length (Res.tail 2) = S ++ [Res.tail 2] := by simp
                    have hcx : (AV.agg (aIx p.1)).cells = aIx p.1 := rfl
                    have hexx : (AV.agg (aIx p.1)).exact = true := rfl
                    simp (maxSteps:=999999) -implicitDefEqProofs (disch:=omega) only [push_cast,↓reduceIte,Nat.reduceEqDiff,reduceCtorEq,wz,hρ,hp0,hip2,hK3,hgm,hg0,hla,hx2,cellsIx']
                    refine ⟨?_, ?_⟩
                    · refine wpa_bsl (sz := 4) (by intro a ha; simp at ha) (by simp) ?_
                      simp (maxSteps:=999999) -implicitDefEqProofs (disch:=omega) only [push_cast,↓reduceIte,Nat.reduceEqDiff,reduceCtorEq,wz,hρ]
                      refine ⟨aholds_x (by simp (maxSteps:=999999) -implicitDefEqProofs (disch:=omega) only [push_cast,↓reduceIte,Nat.reduceEqDiff,reduceCtorEq,wz,hρ,hx2,cellsIx',hexx]), aholds_x (by simp (maxSteps:=999999) -implicitDefEqProofs (disch:=omega) only [push_cast,↓reduceIte,Nat.reduceEqDiff,reduceCtorEq,wz,hρ,hip2,hK3,hla,hexk]), aholds_x (by simp (maxSteps:=999999) -implicitDefEqProofs (disch:=omega) only [push_cast,↓reduceIte,Nat.reduceEqDiff,reduceCtorEq,wz,hρ,hip2,hexm]), aholds_x (by simp (maxSteps:=999999) -implicitDefEqProofs (disch:=omega) only [push_cast,↓reduceIte,Nat.reduceEqDiff,reduceCtorEq,wz,hρ,hip2,hexm]), ?_⟩
                      refine ⟨?_, ?_⟩
                      · refine wpa_app_full (n := 0) (cs := []) (m := k'.length) (news := k'.flatMap aIx) rfl rfl hfk hone rfl (by omega) (by omega) ?_
                        simp (maxSteps:=999999) -implicitDefEqProofs (disch:=omega) only [push_cast,↓reduceIte,Nat.reduceEqDiff,reduceCtorEq,wz,hρ]
                        refine ⟨aholds_x (by simp (maxSteps:=999999) -implicitDefEqProofs (disch:=omega) only [push_cast,↓reduceIte,Nat.reduceEqDiff,reduceCtorEq,wz,hρ,hx3,cellsIx',hexx]), aholds_x (by simp (maxSteps:=999999) -implicitDefEqProofs (disch:=omega) only [push_cast,↓reduceIte,Nat.reduceEqDiff,reduceCtorEq,wz,hρ,hip3,hexm]), ?_⟩
                        refine wpa_bsl (sz := 4) (by intro a ha; simp at ha; subst ha; rfl) (by simp) ?_
                        simp (maxSteps:=999999) -implicitDefEqProofs (disch:=omega) only [push_cast,↓reduceIte,Nat.reduceEqDiff,reduceCtorEq,wz,hρ]
                        refine ⟨aholds_x (by simp (maxSteps:=999999) -implicitDefEqProofs (disch:=omega) only [push_cast,↓reduceIte,Nat.reduceEqDiff,reduceCtorEq,wz,hρ,hip3,hexm]), ?_⟩
                        refine wpa_app (m := 1) (news := aIx p.1) rfl (by simp [srcA, AV.cells]) rfl rfl hfk (by omega) (by omega) ht1 ?_
                        rw [hts1]
                        simp (maxSteps:=999999) -implicitDefEqProofs (disch:=omega) only [push_cast,↓reduceIte,Nat.reduceEqDiff,reduceCtorEq,wz,hρ]
                        refine ⟨aholds_x (by simp (maxSteps:=999999) -implicitDefEqProofs (disch:=omega) only [push_cast,↓reduceIte,Nat.reduceEqDiff,reduceCtorEq,wz,hρ,hip4,hexm]), ?_⟩
                        refine wpa_st1 rfl rfl hK5 (by simp [hts]) ?_
                        rw [hset]
                        simp (maxSteps:=999999) -implicitDefEqProofs (disch:=omega) only [push_cast,↓reduceIte,Nat.reduceEqDiff,reduceCtorEq,wz,hρ]
                        exact hN (k + 1) _ _ ⟨by simp (maxSteps:=999999) -implicitDefEqProofs (disch:=omega) only [push_cast,↓reduceIte,Nat.reduceEqDiff,reduceCtorEq,wz,hρ], by omega, ⟨(hstay 0 (by decide) (by decide)).trans h02, (hstay 1 (by decide) (by decide)).trans h12⟩, .inr ⟨by simp (maxSteps:=999999) -implicitDefEqProofs (disch:=omega) only [push_cast,↓reduceIte,Nat.reduceEqDiff,reduceCtorEq,wz,h7], m, _, fin, hbd2, hr⟩⟩ (by omega)
                      · refine wpa_bsl (sz := 4) (by intro a ha; simp at ha; subst ha; rfl) (by simp) ?_
                        simp (maxSteps:=999999) -implicitDefEqProofs (disch:=omega) only [push_cast,↓reduceIte,Nat.reduceEqDiff,reduceCtorEq,wz,hρ]
                        refine ⟨aholds_x (by simp (maxSteps:=999999) -implicitDefEqProofs (disch:=omega) only [push_cast,↓reduceIte,Nat.reduceEqDiff,reduceCtorEq,wz,hρ,hip2,hK3,hla,hexk]), aholds_x (by simp (maxSteps:=999999) -implicitDefEqProofs (disch:=omega) only [push_cast,↓reduceIte,Nat.reduceEqDiff,reduceCtorEq,wz,hρ,hip2,hexm]), aholds_x (by simp (maxSteps:=999999) -implicitDefEqProofs (disch:=omega) only [push_cast,↓reduceIte,Nat.reduceEqDiff,reduceCtorEq,wz,hρ,hip2,hexm]), ?_⟩
                        refine wpa_app_full (n := 0) (cs := []) (m := k'.length) (news := k'.flatMap aIx) rfl rfl hfk hone rfl (by omega) (by omega) ?_
                        simp (maxSteps:=999999) -implicitDefEqProofs (disch:=omega) only [push_cast,↓reduceIte,Nat.reduceEqDiff,reduceCtorEq,wz,hρ]
                        refine ⟨aholds_x (by simp (maxSteps:=999999) -implicitDefEqProofs (disch:=omega) only [push_cast,↓reduceIte,Nat.reduceEqDiff,reduceCtorEq,wz,hρ,hip3,hexm]), ?_⟩
                        refine wpa_app (m := 1) (news := aIx p.1) rfl (by simp [srcA, AV.cells]) rfl rfl hfk (by omega) (by omega) ht1 ?_
                        rw [hts1]
                        simp (maxSteps:=999999) -implicitDefEqProofs (disch:=omega) only [push_cast,↓reduceIte,Nat.reduceEqDiff,reduceCtorEq,wz,hρ]
                        refine ⟨aholds_x (by simp (maxSteps:=999999) -implicitDefEqProofs (disch:=omega) only [push_cast,↓reduceIte,Nat.reduceEqDiff,reduceCtorEq,wz,hρ,hip4,hexm]), ?_⟩
                        refine wpa_st1 rfl rfl hK5 (by simp [hts]) ?_
                        rw [hset]
                        simp (maxSteps:=999999) -implicitDefEqProofs (disch:=omega) only [push_cast,↓reduceIte,Nat.reduceEqDiff,reduceCtorEq,wz,hρ]
                        exact hN (k + 1) _ _ ⟨by simp (maxSteps:=999999) -implicitDefEqProofs (disch:=omega) only [push_cast,↓reduceIte,Nat.reduceEqDiff,reduceCtorEq,wz,hρ], by omega, ⟨(hstay 0 (by decide) (by decide)).trans h02, (hstay 1 (by decide) (by decide)).trans h12⟩, .inr ⟨by simp (maxSteps:=999999) -implicitDefEqProofs (disch:=omega) only [push_cast,↓reduceIte,Nat.reduceEqDiff,reduceCtorEq,wz,h7], m, _, fin, hbd2, hr⟩⟩ (by omega)
                    · refine wpa_bsl (sz := 4) (by intro a ha; simp at ha; subst ha; rfl) (by simp) ?_
                      simp (maxSteps:=999999) -implicitDefEqProofs (disch:=omega) only [push_cast,↓reduceIte,Nat.reduceEqDiff,reduceCtorEq,wz,hρ]
                      refine ⟨aholds_x (by simp (maxSteps:=999999) -implicitDefEqProofs (disch:=omega) only [push_cast,↓reduceIte,Nat.reduceEqDiff,reduceCtorEq,wz,hρ,hip2,hK3,hla,hexk]), aholds_x (by simp (maxSteps:=999999) -implicitDefEqProofs (disch:=omega) only [push_cast,↓reduceIte,Nat.reduceEqDiff,reduceCtorEq,wz,hρ,hip2,hexm]), aholds_x (by simp (maxSteps:=999999) -implicitDefEqProofs (disch:=omega) only [push_cast,↓reduceIte,Nat.reduceEqDiff,reduceCtorEq,wz,hρ,hip2,hexm]), ?_⟩
                      refine wpa_bsl (sz := 4) (by intro a ha; simp at ha) (by simp) ?_
                      simp (maxSteps:=999999) -implicitDefEqProofs (disch:=omega) only [push_cast,↓reduceIte,Nat.reduceEqDiff,reduceCtorEq,wz,hρ]
                      refine ⟨aholds_x (by simp (maxSteps:=999999) -implicitDefEqProofs (disch:=omega) only [push_cast,↓reduceIte,Nat.reduceEqDiff,reduceCtorEq,wz,hρ,hip2,hK3,hla,hexk]), aholds_x (by simp (maxSteps:=999999) -implicitDefEqProofs (disch:=omega) only [push_cast,↓reduceIte,Nat.reduceEqDiff,reduceCtorEq,wz,hρ,hip2,hexm]), aholds_x (by simp (maxSteps:=999999) -implicitDefEqProofs (disch:=omega) only [push_cast,↓reduceIte,Nat.reduceEqDiff,reduceCtorEq,wz,hρ,hip2,hexm]), ?_⟩
                      refine wpa_app_full (n := 0) (cs := []) (m := k'.length) (news := k'.flatMap aIx) rfl rfl hfk hone rfl (by omega) (by omega) ?_
                      simp (maxSteps:=999999) -implicitDefEqProofs (disch:=omega) only [push_cast,↓reduceIte,Nat.reduceEqDiff,reduceCtorEq,wz,hρ]
                      refine ⟨aholds_x (by simp (maxSteps:=999999) -implicitDefEqProofs (disch:=omega) only [push_cast,↓reduceIte,Nat.reduceEqDiff,reduceCtorEq,wz,hρ,hip3,hexm]), ?_⟩
                      refine wpa_app (m := 1) (news := aIx p.1) rfl (by simp [srcA, AV.cells]) rfl rfl hfk (by omega) (by omega) ht1 ?_
                      rw [hts1]
                      simp (maxSteps:=999999) -implicitDefEqProofs (disch:=omega) only [push_cast,↓reduceIte,Nat.reduceEqDiff,reduceCtorEq,wz,hρ]
                      refine ⟨aholds_x (by simp (maxSteps:=999999) -implicitDefEqProofs (disch:=omega) only [push_cast,↓reduceIte,Nat.reduceEqDiff,reduceCtorEq,wz,hρ,hip4,hexm]), ?_⟩
                      refine wpa_st1 rfl rfl hK5 (by simp [hts]) ?_
                      rw [hset]
                      simp (maxSteps:=999999) -implicitDefEqProofs (disch:=omega) only [push_cast,↓reduceIte,Nat.reduceEqDiff,reduceCtorEq,wz,hρ]
                      exact hN (k + 1) _ _ ⟨by simp (maxSteps:=999999) -implicitDefEqProofs (disch:=omega) only [push_cast,↓reduceIte,Nat.reduceEqDiff,reduceCtorEq,wz,hρ], by omega, ⟨(hstay 0 (by decide) (by decide)).trans h02, (hstay 1 (by decide) (by decide)).trans h12⟩, .inr ⟨by simp (maxSteps:=999999) -implicitDefEqProofs (disch:=omega) only [push_cast,↓reduceIte,Nat.reduceEqDiff,reduceCtorEq,wz,h7], m, _, fin, hbd2, hr⟩⟩ (by omega)
                · rw [if_neg hp0] at hA
                  rw [hA] at hr
                  simp only [if_neg hp0] at hr
                  have h02 := get_app (τ := [Res.obj 0 (aIx p.1)]) h0
                  have h12 := get_app (τ := [Res.obj 0 (aIx p.1)]) h1
                  generalize σ ++ [Res.obj 0 (aIx p.1)] = S at h02 h12 ⊢
                  simp (maxSteps:=999999) -implicitDefEqProofs (disch:=omega) only [push_cast,↓reduceIte,Nat.reduceEqDiff,reduceCtorEq,wz,hρ,hp0,h12,pr0_cells]
                  refine wpa_stn (cs := pr0) (l := pr0) rfl rfl h02 (off := 0) (by decide) ?_
                  have hse := get_set_eq (o := Res.obj 0 pr0) h02
                  simp (maxSteps:=999999) -implicitDefEqProofs (disch:=omega) only [push_cast,↓reduceIte,Nat.reduceEqDiff,reduceCtorEq,wz,hρ,hse,hst0,pr0_cells]
                  rw [hr]
                  exact fin_res [] (fin_none _ _) (aRd_pure _)
      · have hle : ¬ (k : Int) < L.length := by omega
        simp (maxSteps:=999999) -implicitDefEqProofs (disch:=omega) only [push_cast,↓reduceIte,Nat.reduceEqDiff,reduceCtorEq,wz,hρ,hle]
        obtain rfl : k = L.length := by omega
        refine hE _ _ ⟨by simp (maxSteps:=999999) -implicitDefEqProofs (disch:=omega) only [push_cast,↓reduceIte,Nat.reduceEqDiff,reduceCtorEq,wz,hρ], ⟨h0, h1⟩, ?_⟩
        rw [List.drop_length] at hI
        rcases hI with ⟨h7, h2, hr⟩ | ⟨h7, m, fs, hfs, hbd, hr⟩
        · exact .inl ⟨by simp (maxSteps:=999999) -implicitDefEqProofs (disch:=omega) only [push_cast,↓reduceIte,Nat.reduceEqDiff,reduceCtorEq,wz,h7], hr⟩
        · exact .inr ⟨by simp (maxSteps:=999999) -implicitDefEqProofs (disch:=omega) only [push_cast,↓reduceIte,Nat.reduceEqDiff,reduceCtorEq,wz,h7], m, fs, hfs, ⟨by omega, fun f hf => by have := hbd.2 f hf; omega⟩, hr⟩
  clear hρ ε
  rintro ε σ ⟨hρ, ⟨h0, h1⟩, ⟨h7, hr⟩ | ⟨h7, m, fs, hfs, hok, hr⟩⟩
  · rw [hr]
    refine wpa_seq (fun ε σ => False) ?_ (fun _ _ h => h.elim)
    intro N hN
    simp (maxSteps:=999999) -implicitDefEqProofs (disch:=omega) only [push_cast,↓reduceIte,Nat.reduceEqDiff,reduceCtorEq,wz,hρ,h7,h1,pr0_cells]
    refine wpa_stn (cs := pr0) (l := pr0) rfl rfl h0 (off := 0) (by decide) ?_
    have hse := get_set_eq (o := Res.obj 0 pr0) h0
    simp (maxSteps:=999999) -implicitDefEqProofs (disch:=omega) only [push_cast,↓reduceIte,Nat.reduceEqDiff,reduceCtorEq,wz,hρ,hse,hst0,pr0_cells]
    exact fin_res [] (fin_none _ _) (aRd_pure _)
  · rw [hr]
    unfold contR
    rw [if_pos rfl]
    obtain ⟨is, cs, ⟨⟨ca, cb, hcs⟩, hone⟩, hip, hfr⟩ := hfs.read
    obtain ⟨r1, r2, r3, r4, r5⟩ := hfr _ rfl
    have hc2 : cellsA (some 2) cs = some (.agg cs) := by rw [hcs]; rfl
    have hw : weak (Go.Kx.freeze is σ) [true] [.agg cs] = [.agg (aPr m fs)] := by
      show [AV.res _ (.agg cs)] = _
      simp only [AV.res, r1]
    have h0' := (r4 0 (by decide) (by decide)).trans h0
    have h1' := (r4 1 (by decide) (by decide)).trans h1
    refine wpa_seqx (fun ε σ' => (ε 2 = .ref 0 0 0 ∧ ε 4 = .ref 1 0 0 ∧ ε 6 = .ref 2 0 0) ∧ σ = σ') ?_ ?_
    · intro N X R hN
      simp (maxSteps:=999999) -implicitDefEqProofs (disch:=omega) only [push_cast,↓reduceIte,Nat.reduceEqDiff,reduceCtorEq,wz,hρ,h7]
      exact hN _ _ ⟨by simp (maxSteps:=999999) -implicitDefEqProofs (disch:=omega) only [push_cast,↓reduceIte,Nat.reduceEqDiff,reduceCtorEq,wz,hρ], rfl⟩
    clear hρ h7 ε
    rintro ε _ ⟨hρ, rfl⟩
    refine wpa_seqx (fun ε σ' => (ε 2 = .ref 0 0 0 ∧ ε 4 = .ref 1 0 0 ∧ ε 6 = .ref 2 0 0 ∧ ε 15 = .v (.int .i64 (prgE m fs))) ∧ σ' = Go.Kx.freeze is σ) ?_ ?_
    · intro N X R hN
      simp (maxSteps:=999999) -implicitDefEqProofs (disch:=omega) only [push_cast,↓reduceIte,Nat.reduceEqDiff,reduceCtorEq,wz,hρ,hip,hc2]
      refine wpa_callw is [true] (ref04_Check_a m fs hok) hw ?_
      rintro a rfl
      simp (maxSteps:=999999) -implicitDefEqProofs (disch:=omega) only [push_cast,↓reduceIte,Nat.reduceEqDiff,reduceCtorEq,wz,hρ,aInt]
      exact hN _ _ ⟨by simp (maxSteps:=999999) -implicitDefEqProofs (disch:=omega) only [push_cast,↓reduceIte,Nat.reduceEqDiff,reduceCtorEq,wz,hρ], rfl⟩
    clear hρ hw ε
    rintro ε σ' ⟨hρ, rfl⟩
    generalize Go.Kx.freeze is σ = τ at r1 r2 r3 r4 r5 h0' h1' ⊢
    by_cases hP : prgE m fs = 0
    · rw [if_pos hP]
      simp (maxSteps:=999999) -implicitDefEqProofs (disch:=omega) only [push_cast,↓reduceIte,Nat.reduceEqDiff,reduceCtorEq,wz,hρ,hP,r3,hc2]
      refine wpa_stn (cs := pr0) (l := cs) (by rw [hcs]; rfl) hone h0' (off := 0) (by decide) ?_
      have hse := get_set_eq (o := Res.obj 0 cs) h0'
      have hstc := pr0_st cs ca cb hcs
      simp (maxSteps:=999999) -implicitDefEqProofs (disch:=omega) only [push_cast,↓reduceIte,Nat.reduceEqDiff,reduceCtorEq,wz,hρ,hse,hstc,hc2]
      refine fin_res [] ?_ (aRd_pure _)
      have h5 := r5 (.obj 0 cs) 0 (by decide)
      show AV.res (τ.set 0 (Res.obj 0 cs)) _ = _
      simp only [AV.res, AV.resL, h5]
      rfl
    · rw [if_neg hP]
      simp (maxSteps:=999999) -implicitDefEqProofs (disch:=omega) only [push_cast,↓reduceIte,Nat.reduceEqDiff,reduceCtorEq,wz,hρ,hP,h1',pr0_cells]
      refine wpa_stn (cs := pr0) (l := pr0) rfl rfl h0' (off := 0) (by decide) ?_
      have hse := get_set_eq (o := Res.obj 0 pr0) h0'
      simp (maxSteps:=999999) -implicitDefEqProofs (disch:=omega) only [push_cast,↓reduceIte,Nat.reduceEqDiff,reduceCtorEq,wz,hρ,hse,hst0,pr0_cells]
      exact fin_res [] (fin_none _ _) (aRd_pure _)
end Go.Proofs.YtjdpejggafefjaaDoor
