/- Own small program logic, part e: a compiled pure operation gives what the model's operation gives. -/
import Derived.Test.YtjdpejggafefjaaDoorKea
import Derived.Test.YtjdpejggafefjaaDoorKeb
namespace Go.Kx
set_option linter.unusedVariables false
set_option linter.unusedSimpArgs false
open Go

set_option maxHeartbeats 2000000 in
theorem pur_run {P : Program} {op : Op} {f : PF} {xs : List Operand} (hc : compileOp P op = some (.pur f xs)) (ρ : Operand → Value) (hρ : ∀ c, ρ (.const c) = c) {v : Value} (hv : f.val (xs.map ρ) = some v)
    (dst : Option Tmp) (type : TypeId) (pos : String) (after : Array Edge) (guard : Option (Nat × Bool)) (w : World) : (execOp ρ ⟨dst, op, type, pos, after, guard⟩).run P w = .ok (.value v) w := by
  cases op with
  | move x => simp [compileOp] at hc; obtain ⟨rfl, rfl⟩ := hc; simp [PF.val] at hv; simp [execOp, hv]
  | assign x => simp [compileOp] at hc; obtain ⟨rfl, rfl⟩ := hc; simp [PF.val] at hv; simp [execOp, hv]
  | pick c a b =>
    simp [compileOp] at hc; obtain ⟨rfl, rfl⟩ := hc
    simp only [List.map_cons, List.map_nil] at hv
    unfold PF.val at hv
    split at hv <;> simp_all [execOp, asBool]
  | build t parts =>
    simp only [compileOp] at hc
    split at hc
    · rename_i i ps hi hps
      split at hc
      · rename_i z hz
        simp at hc; obtain ⟨rfl, rfl⟩ := hc
        simp only [PF.val, Option.map_eq_some_iff] at hv
        obtain ⟨l, hl, rfl⟩ := hv
        have := places_fill (w := w) (parts := (parts.toList.map fun (i, x) => (i, ρ x))) hi hz (ps := ps) (l := l) (by simpa [Function.comp_def] using hps) (by simpa [Function.comp_def] using hl)
        have e : (parts.toList.map fun (i, x) => (i, ρ x)).toArray = parts.map fun (i, x) => (i, ρ x) := by apply Array.ext'; simp
        rw [e] at this
        simp [execOp, this]
      · cases hc
    · cases hc
  | nilCheck x =>
    simp [compileOp] at hc; obtain ⟨rfl, rfl⟩ := hc
    simp only [List.map_cons, List.map_nil] at hv
    unfold PF.val at hv
    split at hv <;> simp_all [execOp]
    subst hv
    rfl
  | binOp op t x y yt => exact pur_bin hc ρ hρ hv dst type pos after guard w
  | unOp u t x =>
    cases u <;> simp [compileOp] at hc <;> obtain ⟨rfl, rfl⟩ := hc <;> simp only [List.map_cons, List.map_nil] at hv <;> unfold PF.val at hv <;> split at hv <;> simp_all [execOp, Op.unary, Op.intArith, Op.intBits]
  | convert s t x =>
    simp only [compileOp] at hc
    split at hc <;> (try (split at hc)) <;> (try cases hc) <;> simp only [List.map_cons, List.map_nil] at hv <;> unfold PF.val at hv <;> split at hv <;> simp_all [execOp, convert, run_underlying, Conv.intToInt, Conv.intToFloat]
    · split at hv
      · split at hv
        · simp at hv
          subst hv
          simp [Conv.floatToInt, *]
        · cases hv
      · cases hv
    · subst hv; simp
  | makeInterface t x =>
    simp only [compileOp] at hc
    split at hc <;> (try cases hc)
    rename_i u hu hn
    simp [PF.val] at hv
    subst hv
    simp only [execOp, Instr.makeInterface, Sem.run_bind, run_underlying hn, Result.andThen_ok]
    cases u <;> simp_all
  | makeFunc fn first captured =>
    simp [compileOp] at hc; obtain ⟨rfl, rfl⟩ := hc
    simp [PF.val] at hv
    subst hv
    simp [execOp, Instr.makeFunc]
    constructor <;> apply Array.ext' <;> simp
  | slice t x lo hi mx =>
    cases mx with
    | some m => simp [compileOp] at hc
    | none =>
      simp only [compileOp] at hc
      split at hc
      · rename_i e hu
        split at hc
        · rename_i ii hii
          simp at hc; obtain ⟨rfl, rfl⟩ := hc
          have hm : ∀ o : Option Operand, (o.toList.map ρ) = (o.map ρ).toList := by intro o; cases o <;> rfl
          have hms : ∀ o : Option Operand, (o.map ρ).isSome = o.isSome := by intro o; cases o <;> rfl
          simp only [List.map_cons, List.map_append, hm] at hv
          cases hx : ρ x <;> simp only [hx, PF.val] at hv <;> try cases hv
          simp only [Option.map_eq_some_iff] at hv
          obtain ⟨⟨l, h⟩, hlh, rfl⟩ := hv
          rw [← hms lo, ← hms hi] at hlh
          have := loHi_run (P := P) (w := w) (b := true) hlh
          have hci : P.cellsOf e = ii.size := by simp [Program.cellsOf, hii]
          simp [execOp, Instr.sliceAt, Instr.slice, run_underlying hu, hx, this, run_sizeOf w hii, hci]
        · cases hc
      · rename_i hu
        simp at hc; obtain ⟨rfl, rfl⟩ := hc
        have hm : ∀ o : Option Operand, (o.toList.map ρ) = (o.map ρ).toList := by intro o; cases o <;> rfl
        have hms : ∀ o : Option Operand, (o.map ρ).isSome = o.isSome := by intro o; cases o <;> rfl
        simp only [List.map_cons, List.map_append, hm] at hv
        cases hx : ρ x <;> simp only [hx, PF.val] at hv <;> try cases hv
        simp only [Option.map_eq_some_iff] at hv
        obtain ⟨⟨l, h⟩, hlh, rfl⟩ := hv
        rw [← hms lo, ← hms hi] at hlh
        have := loHi_run (P := P) (w := w) (b := false) hlh
        simp [execOp, Instr.sliceAt, Instr.slice, run_underlying hu, hx, this]
      · rename_i n e hu
        split at hc
        · rename_i ii hii
          simp at hc; obtain ⟨rfl, rfl⟩ := hc
          have hm : ∀ o : Option Operand, (o.toList.map ρ) = (o.map ρ).toList := by intro o; cases o <;> rfl
          have hms : ∀ o : Option Operand, (o.map ρ).isSome = o.isSome := by intro o; cases o <;> rfl
          simp only [List.map_cons, List.map_append, hm] at hv
          cases hx : ρ x <;> simp only [hx, PF.val] at hv <;> try cases hv
          rename_i ad
          cases ad with
          | none => cases hv
          | some ad =>
            simp only [Option.map_eq_some_iff] at hv
            obtain ⟨⟨l, h⟩, hlh, rfl⟩ := hv
            rw [← hms lo, ← hms hi] at hlh
            have := loHi_run (P := P) (w := w) (b := false) hlh
            have hci : P.cellsOf e = ii.size := by simp [Program.cellsOf, hii]
            simp [execOp, Instr.sliceAt, Instr.sureAddr, run_underlying hu, hx, this, run_sizeOf w hii, hci]
        · cases hc
      · cases hc
  | fieldAddr s x f =>
    simp only [compileOp] at hc
    split at hc <;> (try cases hc)
    rename_i fs hu
    split at hc <;> (try cases hc)
    rename_i fd hf
    split at hc <;> (try cases hc)
    rename_i i hi
    split at hc <;> (try cases hc)
    simp only [List.map_cons, List.map_nil] at hv
    unfold PF.val at hv
    split at hv <;> simp_all [execOp, Instr.fieldAt, run_underlying hu, Instr.sureAddr, fieldPlace, run_sizeOf w hi, Program.cellsOf]
  | field t x f =>
    simp only [compileOp] at hc
    split at hc <;> (try cases hc)
    rename_i fs hu
    split at hc <;> (try cases hc)
    rename_i fd hf
    simp at hc
    obtain ⟨n, hn, rfl, rfl⟩ := hc
    simp only [List.map_cons, List.map_nil] at hv
    cases hx : ρ x <;> simp [hx, PF.val] at hv
    rename_i cs
    have := part_run (w := w) (cs := cs) hn (v := v) (by cases n <;> simpa [PF.val] using hv)
    simp [execOp, Instr.field, run_underlying hu, hf, asAgg, hx, this]
  | indexAddr t x i =>
    simp only [compileOp] at hc
    split at hc
    · rename_i e hu
      simp at hc
      obtain ⟨j, hj, rfl, rfl⟩ := hc
      simp only [List.map_cons, List.map_nil] at hv
      unfold PF.val at hv
      have hcj : P.cellsOf e = j.size := by simp [Program.cellsOf, hj]
      split at hv <;> simp_all [execOp, Instr.indexAt, run_underlying hu, asIntOf, run_sizeOf w hj]
    · rename_i n e hu
      simp at hc
      obtain ⟨j, hj, rfl, rfl⟩ := hc
      simp only [List.map_cons, List.map_nil] at hv
      unfold PF.val at hv
      have hcj : P.cellsOf e = j.size := by simp [Program.cellsOf, hj]
      split at hv <;> simp_all [execOp, Instr.indexAt, run_underlying hu, asIntOf, run_sizeOf w hj, Instr.sureAddr]
    · cases hc
  | index t x i =>
    simp only [compileOp] at hc
    split at hc
    · rename_i n e hu
      split at hc
      · rename_i a j ha hj
        simp at hc
        obtain ⟨rfl, rfl⟩ := hc
        have hcj : P.cellsOf e = j.size := by simp [Program.cellsOf, hj]
        simp only [List.map_cons, List.map_nil] at hv
        cases hx : ρ x <;> cases a <;> simp only [hx, PF.val] at hv <;> (try cases hv) <;> cases hi : ρ i <;> simp only [hi] at hv <;> (try cases hv) <;> split at hv <;> (try cases hv)
        · rename_i cs k q hq
          have := part_run (w := w) (cs := cs) ha (v := v) (off := q.toNat * j.size) (by simpa [PF.val] using hv)
          simp [execOp, Instr.index, run_underlying hu, asIntOf, hx, hi, hq, run_sizeOf w hj, hcj, this]
        · rename_i cs m k q hq
          have := part_run (w := w) (cs := cs) ha (off := q.toNat * j.size) rfl
          simp [execOp, Instr.index, run_underlying hu, asIntOf, hx, hi, hq, run_sizeOf w hj, hcj, this]
      · cases hc
    · rename_i hu
      simp at hc
      obtain ⟨rfl, rfl⟩ := hc
      simp only [List.map_cons, List.map_nil] at hv
      cases hx : ρ x <;> simp only [hx, PF.val] at hv <;> (try cases hv) <;> cases hi : ρ i <;> simp only [hi] at hv <;> (try cases hv) <;> split at hv <;> (try cases hv)
      rename_i s k q hq
      simp only [Option.map_eq_some_iff] at hv
      obtain ⟨b, hb, rfl⟩ := hv
      have hb' : s[q.toNat]? = some b := by rw [ba_get]; simpa using hb
      simp [execOp, Instr.index, run_underlying hu, asIntOf, hx, hi, hq, hb']
    · cases hc
  | extract t i =>
    simp [compileOp] at hc; obtain ⟨rfl, rfl⟩ := hc
    simp only [List.map_cons, List.map_nil] at hv
    cases hx : ρ t <;> simp only [hx, PF.val] at hv <;> (try cases hv)
    rename_i vs
    simp only [Array.getElem?_toList] at hv
    simp [execOp, Instr.extract, hx, hv]
  | call c => exact pur_call hc ρ hv dst type pos after guard w
  | alloc T =>
    cases hi : P.info? T with
    | none => simp [compileOp, hi] at hc
    | some i => cases hz : i.zero <;> simp [compileOp, hi, hz] at hc
  | box T x => simp [compileOp] at hc
  | buildSlice t len parts => simp only [compileOp] at hc; repeat' (split at hc); all_goals simp at hc
  | load t a => simp [compileOp] at hc
  | store t a x => simp only [compileOp] at hc; repeat' (split at hc); all_goals simp at hc
  | makeSlice t l c => simp [compileOp] at hc
  | makeMap t r => cases r <;> simp [compileOp] at hc
  | mapUpdate t m k x => simp only [compileOp] at hc; repeat' (split at hc); all_goals simp at hc
  | insert t m k x => simp only [compileOp] at hc; repeat' (split at hc); all_goals simp at hc
  | lookup t x i ok => cases ok <;> simp only [compileOp] at hc <;> (repeat' (split at hc)) <;> simp at hc
  | range t x => simp only [compileOp] at hc; repeat' (split at hc); all_goals simp at hc
  | next x b => cases b <;> simp [compileOp] at hc
  | _ => simp [compileOp] at hc

end Go.Kx
