/- Log: events, and what is read of a log. -/
import Derived.Test.YthgmfjkbgacfaaaVm
import Derived.Test.YthgmfjkbgacfaaaCLog
namespace Go.Proofs.Ythgmfjkbgacfaaa
set_option linter.unusedVariables false
set_option linter.unusedSimpArgs false
open Go Go.Kx Go.Proofs
theorem mixed : Try.prog.follows .mixedOrders = true := by kernel_rfl

structure Ev where
  k : Int
  lp : Int
  it : Int
  st : Int
  deriving DecidableEq
def aEv (e : Ev) : List AV := [.v (.int .i64 e.k), .v (.int .i64 e.lp), .v (.int .i64 e.it), .v (.int .i64 e.st)]
theorem aEv_len (e : Ev) : (aEv e).length = 4 := rfl
theorem aEv_one (e : Ev) : (aEv e).all AV.one = true := rfl
theorem aEv_res (σ : Kx.St) (e : Ev) : AV.resL σ (aEv e) = aEv e := by simp [aEv, AV.resL, AV.res]
def aEvs (l : List Ev) : AV := aSlN aEv l
theorem aEvs_pure (l : List Ev) : (aEvs l).pure = true := aSlN_pure (fun e => rfl) l
theorem aEvs_res (σ : Kx.St) (l : List Ev) (t : Tok) : (AV.sl l.length (l.flatMap aEv) t).res σ = aEvs l := aSlN_res (aEv_res σ) l t
def aLg (l : List Ev) : AV := .ep [aEvs l]
theorem aLg_pure (l : List Ev) : (aLg l).pure = true := by simp [aLg, AV.pure, AV.pureL, aEvs_pure]
theorem aLg_res (σ : Kx.St) (l : List Ev) : AV.res σ (aLg l) = aLg l := by
  show AV.ep (AV.resL σ [aEvs l]) = _
  rw [resL_map, List.map_singleton, show AV.res σ (aEvs l) = aEvs l from aEvs_res σ l .none]
  rfl
theorem log_all_a (l : List Ev) : FnP Try.prog 46 [aLg l] fun a => a = aEvs l := by
  refine fnP_in K_log_Log_all mixed rfl (by simp [AV.pureL, aLg_pure]) ?_
  simp only [S_log_Log_all, aLg]
  simp (maxSteps := 1000000) (implicitDefEqProofs := false) (disch := omega) only [push_cast, ↓reduceIte, Nat.reduceEqDiff, reduceCtorEq, wz]
  exact fin_res [] (aEvs_res _ l _) (aEvs_pure l)
theorem log_Len_a (l : List Ev) (hl : l.length ≤ 9223372036854775807) : FnP Try.prog 43 [aLg l] fun a => a = aInt l.length := by
  refine fnP_in K_log_Log_Len mixed rfl (by simp [AV.pureL, aLg_pure]) ?_
  simp only [S_log_Log_Len]
  simp (maxSteps := 1000000) (implicitDefEqProofs := false) (disch := omega) only [push_cast, ↓reduceIte, Nat.reduceEqDiff, reduceCtorEq, wz]
  refine wpa_call (log_all_a l) ?_
  rintro a rfl
  simp (maxSteps := 1000000) (implicitDefEqProofs := false) (disch := omega) only [push_cast, ↓reduceIte, Nat.reduceEqDiff, reduceCtorEq, wz, aEvs, aSlN]
  exact fin_v rfl
/-- The two functions that tell which events. -/
theorem log_Of1_a (e : Ev) (n : Int) : FnP Try.prog 81 [.agg (aEv e), .ep [aInt n]] fun a => a = aBool (decide (e.lp = n)) := by
  refine fnP_in K_log_Log_Of_1 mixed rfl (by simp [AV.pureL, AV.pure, aEv, aInt]) ?_
  simp only [S_log_Log_Of_1]
  simp (maxSteps := 1000000) (implicitDefEqProofs := false) (disch := omega) only [push_cast, ↓reduceIte, Nat.reduceEqDiff, reduceCtorEq, wz]
  refine wpa_box ?_
  simp (maxSteps := 1000000) (implicitDefEqProofs := false) (disch := omega) only [push_cast, ↓reduceIte, Nat.reduceEqDiff, reduceCtorEq, wz, aEv, AV.cells, aInt]
  exact fin_v rfl
theorem log_Count1_a (e : Ev) (n : Int) : FnP Try.prog 79 [.agg (aEv e), .ep [aInt n]] fun a => a = aBool (decide (e.k = n)) := by
  refine fnP_in K_log_Log_Count_1 mixed rfl (by simp [AV.pureL, AV.pure, aEv, aInt]) ?_
  simp only [S_log_Log_Count_1]
  simp (maxSteps := 1000000) (implicitDefEqProofs := false) (disch := omega) only [push_cast, ↓reduceIte, Nat.reduceEqDiff, reduceCtorEq, wz]
  refine wpa_box ?_
  simp (maxSteps := 1000000) (implicitDefEqProofs := false) (disch := omega) only [push_cast, ↓reduceIte, Nat.reduceEqDiff, reduceCtorEq, wz, aEv, AV.cells, aInt]
  exact fin_v rfl
def aLike (f : FuncId) (n : Int) : AV := .fn (.func f) 0 [.ep [aInt n]]
/-- The events that are told. -/
def aThose (l : List Ev) (like : AV) : AV := .fn (.func 111) 0 [.ep [aLg l], .ep [like]]
theorem log_those_a (l : List Ev) (like : AV) (hp : like.pure = true) (hr : ∀ σ, like.res σ = like) (hc : like.cells = [like]) : FnP Try.prog 78 [aLg l, like] fun a => a = aThose l like := by
  refine fnP_in K_log_Log_those mixed rfl (by simp [AV.pureL, aLg_pure, hp]) ?_
  simp only [S_log_Log_those]
  simp (maxSteps := 1000000) (implicitDefEqProofs := false) (disch := omega) only [push_cast, ↓reduceIte, Nat.reduceEqDiff, reduceCtorEq, wz]
  refine wpa_box ?_
  simp (maxSteps := 1000000) (implicitDefEqProofs := false) (disch := omega) only [push_cast, ↓reduceIte, Nat.reduceEqDiff, reduceCtorEq, wz]
  refine wpa_box ?_
  simp (maxSteps := 1000000) (implicitDefEqProofs := false) (disch := omega) only [push_cast, ↓reduceIte, Nat.reduceEqDiff, reduceCtorEq, wz]
  have hres : (AV.fn (.func 111) 0 [AV.ref 0 0 0, AV.ref 1 0 0]).res (Go.Kx.freeze [0, 1] [Res.obj 0 (aLg l).cells, Res.obj 0 like.cells]) = aThose l like := by
    have hl : (aLg l).cells = [aLg l] := rfl
    rw [hl, hc]
    simp [AV.res, AV.resL, Go.Kx.freeze, freeze1, aLg_res, hr, aThose]
  refine fin_res [0, 1] hres ?_
  simp [aThose, AV.pure, AV.pureL, aLg_pure, hp]
theorem aThose_pure (l : List Ev) {like : AV} (hp : like.pure = true) : (aThose l like).pure = true := by simp [aThose, AV.pure, AV.pureL, aLg_pure, hp]
theorem aThose_res (σ : Kx.St) (l : List Ev) {like : AV} (hr : like.res σ = like) : (aThose l like).res σ = aThose l like := by simp [aThose, AV.res, AV.resL, aLg_res, hr]
theorem aLike_pure (f : FuncId) (n : Int) : (aLike f n).pure = true := rfl
theorem aLike_res (f : FuncId) (n : Int) (σ : Kx.St) : (aLike f n).res σ = aLike f n := by simp [aLike, AV.res, AV.resL, aInt]
theorem log_Of_a (l : List Ev) (n : Int) : FnP Try.prog 48 [aLg l, aInt n] fun a => a = aThose l (aLike 81 n) := by
  refine fnP_in K_log_Log_Of mixed rfl (by simp [AV.pureL, aLg_pure, AV.pure, aInt]) ?_
  simp only [S_log_Log_Of]
  simp (maxSteps := 1000000) (implicitDefEqProofs := false) (disch := omega) only [push_cast, ↓reduceIte, Nat.reduceEqDiff, reduceCtorEq, wz]
  refine wpa_box ?_
  simp (maxSteps := 1000000) (implicitDefEqProofs := false) (disch := omega) only [push_cast, ↓reduceIte, Nat.reduceEqDiff, reduceCtorEq, wz]
  refine wpa_callw [0] [true, true] (log_those_a l (aLike 81 n) (aLike_pure _ _) (aLike_res _ _) rfl) ?_ ?_
  · simp [weak, aLg_res, AV.res, AV.resL, Go.Kx.freeze, freeze1, aInt, AV.cells, Value.cells, aLike]
  · rintro a rfl
    simp (maxSteps := 1000000) (implicitDefEqProofs := false) (disch := omega) only [push_cast, ↓reduceIte, Nat.reduceEqDiff, reduceCtorEq, wz]
    exact fin_res [] (aThose_res _ l (aLike_res _ _ _)) (aThose_pure l (aLike_pure _ _))
end Go.Proofs.Ythgmfjkbgacfaaa
