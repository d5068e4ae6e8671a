/- Instructions and programs, checked (Tdz, Ap). -/
import Derived.Test.YtjdpejggafefjaaDoorWz
import Derived.Test.YtjdpejggafefjaaDoorVn
import Derived.Test.YtjdpejggafefjaaDoorCAp
/- Instructions; their targets; right functions. -/
namespace Go.Proofs.YtjdpejggafefjaaDoor
set_option linter.unusedVariables false
set_option linter.unusedSimpArgs false
open Go Go.Kx Go.Proofs

structure Ix where
  op : Int
  a : Int
  b : Int
  c : Int
  deriving DecidableEq
def tgtX (x : Ix) : Option Int := if x.op = 18 then some x.a else if x.op = 19 then some x.b else none
def endsX (x : Ix) : Bool := decide (x.op = 0 ∨ x.op = 18 ∨ x.op = 25)
theorem tgt_jump {x : Ix} (h : x.op = 18) : tgtX x = some x.a := by unfold tgtX; rw [if_pos h]

/-- All targets are places. -/
structure Rt (l : List Ix) : Prop where
  pos : 0 < l.length
  tg : ∀ (i : Nat) (x : Ix) (t : Int), l[i]? = some x → tgtX x = some t → 0 ≤ t ∧ t < l.length
  last : ∀ x : Ix, l[l.length - 1]? = some x → endsX x = true

end Go.Proofs.YtjdpejggafefjaaDoor
/- Instructions and programs: what is wrong with them, by the program and by the document; their own copies; great ones; the same. Out of the Tidy texts, by tools/mkap.py. -/
namespace Go.Proofs.YtjdpejggafefjaaDoor
set_option linter.unusedVariables false
set_option linter.unusedSimpArgs false
open Go Go.Kx Go.Proofs
def aIx (x : Ix) : List AV := [.v (.int .i64 x.op), .v (.int .i64 x.a), .v (.int .i64 x.b), .v (.int .i64 x.c)]
theorem aIx_len (x : Ix) : (aIx x).length = 4 := rfl
theorem aIx_pure (x : Ix) : AV.pureL (aIx x) = true := by simp [aIx, AV.pureL, AV.pure]
theorem aIx_res (σ : St) (x : Ix) : AV.resL σ (aIx x) = aIx x := by simp [aIx, AV.resL, AV.res]
def aIxs (l : List Ix) : AV := aSlN aIx l
theorem aIxs_pure (l : List Ix) : (aIxs l).pure = true := aSlN_pure aIx_pure l
theorem aIxs_res (σ : St) (l : List Ix) (t : Tok) : (AV.sl l.length (l.flatMap aIx) t).res σ = aIxs l := aSlN_res (aIx_res σ) l t
def fmS (op : Int) : ByteArray :=
  if op = 1 then ⟨#[114, 110]⟩
  else if op = 2 ∨ op = 13 ∨ op = 14 then ⟨#[114, 114]⟩
  else if (3 ≤ op ∧ op ≤ 12) ∨ op = 15 ∨ op = 16 then ⟨#[114, 114, 114]⟩
  else if op = 17 ∨ op = 23 ∨ op = 24 then ⟨#[114]⟩
  else if op = 18 then ⟨#[116]⟩
  else if op = 19 then ⟨#[114, 116]⟩
  else if op = 20 ∨ op = 22 then ⟨#[102]⟩
  else ⟨#[]⟩
theorem fmS_sz (op : Int) : (fmS op).size ≤ 3 := by
  unfold fmS
  repeat' split
  all_goals decide
theorem add1 : PF.val (.bin .add) [.string ⟨#[114]⟩, .string ⟨#[114]⟩] = some (.string ⟨#[114, 114]⟩) := by rfl
theorem add2 : PF.val (.bin .add) [.string ⟨#[114, 114]⟩, .string ⟨#[114]⟩] = some (.string ⟨#[114, 114, 114]⟩) := by rfl
theorem add0 : PF.val (.bin .add) [.string ⟨#[]⟩, .string ⟨#[114]⟩] = some (.string ⟨#[114]⟩) := by rfl
set_option maxHeartbeats 4000000 in
theorem ins_Form_a (op : Int) : FnP Tryd.prog 69 [aInt op] fun a => a = .v (.string (fmS op)) := by
  refine fnP_in K_ins_Form mixed rfl (by simp [AV.pureL, aInt_pure]) ?_
  simp only [S_ins_Form, aInt]
  refine wpa_seqx (fun ε σ => ε 0 = .v (.int .i64 op) ∧ σ = []) (fun N X' R' hN => by simp (maxSteps:=999999) -implicitDefEqProofs (disch:=omega) only [push_cast,↓reduceIte,Nat.reduceEqDiff,reduceCtorEq,wz]; exact hN _ _ (by simp (maxSteps:=999999) -implicitDefEqProofs (disch:=omega) only [push_cast,↓reduceIte,Nat.reduceEqDiff,reduceCtorEq,wz])) ?_
  rintro ε σ ⟨hρ, rfl⟩
  refine wpa_seqx (fun ε σ => (ε 0 = .v (.int .i64 op) ∧ ε 3 = .v (.string ⟨#[]⟩)) ∧ σ = []) (fun N X' R' hN => by simp (maxSteps:=999999) -implicitDefEqProofs (disch:=omega) only [push_cast,↓reduceIte,Nat.reduceEqDiff,reduceCtorEq,wz,hρ]; exact hN _ _ (by simp (maxSteps:=999999) -implicitDefEqProofs (disch:=omega) only [push_cast,↓reduceIte,Nat.reduceEqDiff,reduceCtorEq,wz,hρ])) ?_
  clear hρ ε
  rintro ε σ ⟨hρ, rfl⟩
  refine wpa_seqx (fun ε σ => ε 3 = .v (.string (fmS op)) ∧ σ = []) ?_ ?_
  · intro N X R hN
    refine wpa_blk fun x0 e0 => ?_
    refine wpa_sq fun m7 d7 => ?_
    refine wpa_blk fun x7 e7 => ?_
    refine wpa_sq fun m6 d6 => ?_
    refine wpa_blk fun x6 e6 => ?_
    refine wpa_sq fun m5 d5 => ?_
    refine wpa_blk fun x5 e5 => ?_
    refine wpa_sq fun m4 d4 => ?_
    refine wpa_blk fun x4 e4 => ?_
    refine wpa_sq fun m3 d3 => ?_
    refine wpa_blk fun x3 e3 => ?_
    refine wpa_sq fun m2 d2 => ?_
    refine wpa_blk fun x2 e2 => ?_
    refine wpa_sq fun m1 d1 => ?_
    refine wpa_blk fun x1 e1 => ?_
    have f0 : ∀ ε σ, x0 0 ε σ = N ε σ := fun ε σ => by rw [e0]; rfl
    have f7 : ∀ ε σ, x7 7 ε σ = m7 ε σ := fun ε σ => by rw [e7]; rfl
    have g7 : ∀ j ε σ, j ≠ 7 → x7 j ε σ = x0 j ε σ := fun j ε σ h => by rw [e7]; exact if_neg h
    have f6 : ∀ ε σ, x6 6 ε σ = m6 ε σ := fun ε σ => by rw [e6]; rfl
    have g6 : ∀ j ε σ, j ≠ 6 → x6 j ε σ = x7 j ε σ := fun j ε σ h => by rw [e6]; exact if_neg h
    have f5 : ∀ ε σ, x5 5 ε σ = m5 ε σ := fun ε σ => by rw [e5]; rfl
    have g5 : ∀ j ε σ, j ≠ 5 → x5 j ε σ = x6 j ε σ := fun j ε σ h => by rw [e5]; exact if_neg h
    have f4 : ∀ ε σ, x4 4 ε σ = m4 ε σ := fun ε σ => by rw [e4]; rfl
    have g4 : ∀ j ε σ, j ≠ 4 → x4 j ε σ = x5 j ε σ := fun j ε σ h => by rw [e4]; exact if_neg h
    have f3 : ∀ ε σ, x3 3 ε σ = m3 ε σ := fun ε σ => by rw [e3]; rfl
    have g3 : ∀ j ε σ, j ≠ 3 → x3 j ε σ = x4 j ε σ := fun j ε σ h => by rw [e3]; exact if_neg h
    have f2 : ∀ ε σ, x2 2 ε σ = m2 ε σ := fun ε σ => by rw [e2]; rfl
    have g2 : ∀ j ε σ, j ≠ 2 → x2 j ε σ = x3 j ε σ := fun j ε σ h => by rw [e2]; exact if_neg h
    have f1 : ∀ ε σ, x1 1 ε σ = m1 ε σ := fun ε σ => by rw [e1]; rfl
    have g1 : ∀ j ε σ, j ≠ 1 → x1 j ε σ = x2 j ε σ := fun j ε σ h => by rw [e1]; exact if_neg h
    have t1 : ∀ ε σ, x1 1 ε σ = m1 ε σ := fun ε σ => by rw [f1]
    have t2 : ∀ ε σ, x1 2 ε σ = m2 ε σ := fun ε σ => by rw [g1 _ _ _ (by decide), f2]
    have t3 : ∀ ε σ, x1 3 ε σ = m3 ε σ := fun ε σ => by rw [g1 _ _ _ (by decide), g2 _ _ _ (by decide), f3]
    have t4 : ∀ ε σ, x1 4 ε σ = m4 ε σ := fun ε σ => by rw [g1 _ _ _ (by decide), g2 _ _ _ (by decide), g3 _ _ _ (by decide), f4]
    have t5 : ∀ ε σ, x1 5 ε σ = m5 ε σ := fun ε σ => by rw [g1 _ _ _ (by decide), g2 _ _ _ (by decide), g3 _ _ _ (by decide), g4 _ _ _ (by decide), f5]
    have t6 : ∀ ε σ, x1 6 ε σ = m6 ε σ := fun ε σ => by rw [g1 _ _ _ (by decide), g2 _ _ _ (by decide), g3 _ _ _ (by decide), g4 _ _ _ (by decide), g5 _ _ _ (by decide), f6]
    have t7 : ∀ ε σ, x1 7 ε σ = m7 ε σ := fun ε σ => by rw [g1 _ _ _ (by decide), g2 _ _ _ (by decide), g3 _ _ _ (by decide), g4 _ _ _ (by decide), g5 _ _ _ (by decide), g6 _ _ _ (by decide), f7]
    have t0 : ∀ ε σ, x1 0 ε σ = N ε σ := fun ε σ => by rw [g1 _ _ _ (by decide), g2 _ _ _ (by decide), g3 _ _ _ (by decide), g4 _ _ _ (by decide), g5 _ _ _ (by decide), g6 _ _ _ (by decide), g7 _ _ _ (by decide), f0]
    have z1 : ∀ ε σ, x2 0 ε σ = N ε σ := fun ε σ => by rw [g2 _ _ _ (by decide), g3 _ _ _ (by decide), g4 _ _ _ (by decide), g5 _ _ _ (by decide), g6 _ _ _ (by decide), g7 _ _ _ (by decide), f0]
    have z2 : ∀ ε σ, x3 0 ε σ = N ε σ := fun ε σ => by rw [g3 _ _ _ (by decide), g4 _ _ _ (by decide), g5 _ _ _ (by decide), g6 _ _ _ (by decide), g7 _ _ _ (by decide), f0]
    have z3 : ∀ ε σ, x4 0 ε σ = N ε σ := fun ε σ => by rw [g4 _ _ _ (by decide), g5 _ _ _ (by decide), g6 _ _ _ (by decide), g7 _ _ _ (by decide), f0]
    have z4 : ∀ ε σ, x5 0 ε σ = N ε σ := fun ε σ => by rw [g5 _ _ _ (by decide), g6 _ _ _ (by decide), g7 _ _ _ (by decide), f0]
    have z5 : ∀ ε σ, x6 0 ε σ = N ε σ := fun ε σ => by rw [g6 _ _ _ (by decide), g7 _ _ _ (by decide), f0]
    have z6 : ∀ ε σ, x7 0 ε σ = N ε σ := fun ε σ => by rw [g7 _ _ _ (by decide), f0]
    have z7 : ∀ ε σ, x0 0 ε σ = N ε σ := fun ε σ => by rw [f0]
    clear e0 e1 e2 e3 e4 e5 e6 e7
    by_cases c0 : 3 ≤ op ∧ op ≤ 12
    · have e : fmS op = ⟨#[114, 114, 114]⟩ := by unfold fmS; rw [if_neg (by omega), if_neg (by omega), if_pos (.inl c0)]
      obtain ⟨c1, c2⟩ := c0
      rw [e] at hN
      simp (maxSteps:=999999) -implicitDefEqProofs (disch:=omega) only [push_cast,↓reduceIte,Nat.reduceEqDiff,reduceCtorEq,wz,hρ,c1,c2,t1]
      subst d1
      simp (maxSteps:=999999) -implicitDefEqProofs (disch:=omega) only [push_cast,↓reduceIte,Nat.reduceEqDiff,reduceCtorEq,wz,hρ,add0,add1,add2,z1]
      subst d2
      simp (maxSteps:=999999) -implicitDefEqProofs (disch:=omega) only [push_cast,↓reduceIte,Nat.reduceEqDiff,reduceCtorEq,wz,hρ,add0,add1,add2,z2]
      subst d3
      simp (maxSteps:=999999) -implicitDefEqProofs (disch:=omega) only [push_cast,↓reduceIte,Nat.reduceEqDiff,reduceCtorEq,wz,hρ,add0,add1,add2,z3]
      exact hN _ _ (by simp (maxSteps:=999999) -implicitDefEqProofs (disch:=omega) only [push_cast,↓reduceIte,Nat.reduceEqDiff,reduceCtorEq,wz,hρ]; try rfl)
    by_cases o15 : op = 15
    · subst o15
      simp (maxSteps:=999999) -implicitDefEqProofs (disch:=omega) only [push_cast,↓reduceIte,Nat.reduceEqDiff,reduceCtorEq,wz,hρ,t1]
      subst d1
      simp (maxSteps:=999999) -implicitDefEqProofs (disch:=omega) only [push_cast,↓reduceIte,Nat.reduceEqDiff,reduceCtorEq,wz,hρ,add0,add1,add2,z1]
      subst d2
      simp (maxSteps:=999999) -implicitDefEqProofs (disch:=omega) only [push_cast,↓reduceIte,Nat.reduceEqDiff,reduceCtorEq,wz,hρ,add0,add1,add2,z2]
      subst d3
      simp (maxSteps:=999999) -implicitDefEqProofs (disch:=omega) only [push_cast,↓reduceIte,Nat.reduceEqDiff,reduceCtorEq,wz,hρ,add0,add1,add2,z3]
      exact hN _ _ (by simp (maxSteps:=999999) -implicitDefEqProofs (disch:=omega) only [push_cast,↓reduceIte,Nat.reduceEqDiff,reduceCtorEq,wz,hρ]; try rfl)
    by_cases o16 : op = 16
    · subst o16
      simp (maxSteps:=999999) -implicitDefEqProofs (disch:=omega) only [push_cast,↓reduceIte,Nat.reduceEqDiff,reduceCtorEq,wz,hρ,t1]
      subst d1
      simp (maxSteps:=999999) -implicitDefEqProofs (disch:=omega) only [push_cast,↓reduceIte,Nat.reduceEqDiff,reduceCtorEq,wz,hρ,add0,add1,add2,z1]
      subst d2
      simp (maxSteps:=999999) -implicitDefEqProofs (disch:=omega) only [push_cast,↓reduceIte,Nat.reduceEqDiff,reduceCtorEq,wz,hρ,add0,add1,add2,z2]
      subst d3
      simp (maxSteps:=999999) -implicitDefEqProofs (disch:=omega) only [push_cast,↓reduceIte,Nat.reduceEqDiff,reduceCtorEq,wz,hρ,add0,add1,add2,z3]
      exact hN _ _ (by simp (maxSteps:=999999) -implicitDefEqProofs (disch:=omega) only [push_cast,↓reduceIte,Nat.reduceEqDiff,reduceCtorEq,wz,hρ]; try rfl)
    by_cases o2 : op = 2
    · subst o2
      simp (maxSteps:=999999) -implicitDefEqProofs (disch:=omega) only [push_cast,↓reduceIte,Nat.reduceEqDiff,reduceCtorEq,wz,hρ,t2]
      subst d2
      simp (maxSteps:=999999) -implicitDefEqProofs (disch:=omega) only [push_cast,↓reduceIte,Nat.reduceEqDiff,reduceCtorEq,wz,hρ,add0,add1,add2,z2]
      subst d3
      simp (maxSteps:=999999) -implicitDefEqProofs (disch:=omega) only [push_cast,↓reduceIte,Nat.reduceEqDiff,reduceCtorEq,wz,hρ,add0,add1,add2,z3]
      exact hN _ _ (by simp (maxSteps:=999999) -implicitDefEqProofs (disch:=omega) only [push_cast,↓reduceIte,Nat.reduceEqDiff,reduceCtorEq,wz,hρ]; try rfl)
    by_cases o13 : op = 13
    · subst o13
      simp (maxSteps:=999999) -implicitDefEqProofs (disch:=omega) only [push_cast,↓reduceIte,Nat.reduceEqDiff,reduceCtorEq,wz,hρ,t2]
      subst d2
      simp (maxSteps:=999999) -implicitDefEqProofs (disch:=omega) only [push_cast,↓reduceIte,Nat.reduceEqDiff,reduceCtorEq,wz,hρ,add0,add1,add2,z2]
      subst d3
      simp (maxSteps:=999999) -implicitDefEqProofs (disch:=omega) only [push_cast,↓reduceIte,Nat.reduceEqDiff,reduceCtorEq,wz,hρ,add0,add1,add2,z3]
      exact hN _ _ (by simp (maxSteps:=999999) -implicitDefEqProofs (disch:=omega) only [push_cast,↓reduceIte,Nat.reduceEqDiff,reduceCtorEq,wz,hρ]; try rfl)
    by_cases o14 : op = 14
    · subst o14
      simp (maxSteps:=999999) -implicitDefEqProofs (disch:=omega) only [push_cast,↓reduceIte,Nat.reduceEqDiff,reduceCtorEq,wz,hρ,t2]
      subst d2
      simp (maxSteps:=999999) -implicitDefEqProofs (disch:=omega) only [push_cast,↓reduceIte,Nat.reduceEqDiff,reduceCtorEq,wz,hρ,add0,add1,add2,z2]
      subst d3
      simp (maxSteps:=999999) -implicitDefEqProofs (disch:=omega) only [push_cast,↓reduceIte,Nat.reduceEqDiff,reduceCtorEq,wz,hρ,add0,add1,add2,z3]
      exact hN _ _ (by simp (maxSteps:=999999) -implicitDefEqProofs (disch:=omega) only [push_cast,↓reduceIte,Nat.reduceEqDiff,reduceCtorEq,wz,hρ]; try rfl)
    by_cases o17 : op = 17
    · subst o17
      simp (maxSteps:=999999) -implicitDefEqProofs (disch:=omega) only [push_cast,↓reduceIte,Nat.reduceEqDiff,reduceCtorEq,wz,hρ,t3]
      subst d3
      simp (maxSteps:=999999) -implicitDefEqProofs (disch:=omega) only [push_cast,↓reduceIte,Nat.reduceEqDiff,reduceCtorEq,wz,hρ,add0,add1,add2,z3]
      exact hN _ _ (by simp (maxSteps:=999999) -implicitDefEqProofs (disch:=omega) only [push_cast,↓reduceIte,Nat.reduceEqDiff,reduceCtorEq,wz,hρ]; try rfl)
    by_cases o23 : op = 23
    · subst o23
      simp (maxSteps:=999999) -implicitDefEqProofs (disch:=omega) only [push_cast,↓reduceIte,Nat.reduceEqDiff,reduceCtorEq,wz,hρ,t3]
      subst d3
      simp (maxSteps:=999999) -implicitDefEqProofs (disch:=omega) only [push_cast,↓reduceIte,Nat.reduceEqDiff,reduceCtorEq,wz,hρ,add0,add1,add2,z3]
      exact hN _ _ (by simp (maxSteps:=999999) -implicitDefEqProofs (disch:=omega) only [push_cast,↓reduceIte,Nat.reduceEqDiff,reduceCtorEq,wz,hρ]; try rfl)
    by_cases o24 : op = 24
    · subst o24
      simp (maxSteps:=999999) -implicitDefEqProofs (disch:=omega) only [push_cast,↓reduceIte,Nat.reduceEqDiff,reduceCtorEq,wz,hρ,t3]
      subst d3
      simp (maxSteps:=999999) -implicitDefEqProofs (disch:=omega) only [push_cast,↓reduceIte,Nat.reduceEqDiff,reduceCtorEq,wz,hρ,add0,add1,add2,z3]
      exact hN _ _ (by simp (maxSteps:=999999) -implicitDefEqProofs (disch:=omega) only [push_cast,↓reduceIte,Nat.reduceEqDiff,reduceCtorEq,wz,hρ]; try rfl)
    by_cases o1 : op = 1
    · subst o1
      simp (maxSteps:=999999) -implicitDefEqProofs (disch:=omega) only [push_cast,↓reduceIte,Nat.reduceEqDiff,reduceCtorEq,wz,hρ,t4]
      subst d4
      simp (maxSteps:=999999) -implicitDefEqProofs (disch:=omega) only [push_cast,↓reduceIte,Nat.reduceEqDiff,reduceCtorEq,wz,hρ,add0,add1,add2,z4]
      exact hN _ _ (by simp (maxSteps:=999999) -implicitDefEqProofs (disch:=omega) only [push_cast,↓reduceIte,Nat.reduceEqDiff,reduceCtorEq,wz,hρ]; try rfl)
    by_cases o19 : op = 19
    · subst o19
      simp (maxSteps:=999999) -implicitDefEqProofs (disch:=omega) only [push_cast,↓reduceIte,Nat.reduceEqDiff,reduceCtorEq,wz,hρ,t5]
      subst d5
      simp (maxSteps:=999999) -implicitDefEqProofs (disch:=omega) only [push_cast,↓reduceIte,Nat.reduceEqDiff,reduceCtorEq,wz,hρ,add0,add1,add2,z5]
      exact hN _ _ (by simp (maxSteps:=999999) -implicitDefEqProofs (disch:=omega) only [push_cast,↓reduceIte,Nat.reduceEqDiff,reduceCtorEq,wz,hρ]; try rfl)
    by_cases o18 : op = 18
    · subst o18
      simp (maxSteps:=999999) -implicitDefEqProofs (disch:=omega) only [push_cast,↓reduceIte,Nat.reduceEqDiff,reduceCtorEq,wz,hρ,t6]
      subst d6
      simp (maxSteps:=999999) -implicitDefEqProofs (disch:=omega) only [push_cast,↓reduceIte,Nat.reduceEqDiff,reduceCtorEq,wz,hρ,add0,add1,add2,z6]
      exact hN _ _ (by simp (maxSteps:=999999) -implicitDefEqProofs (disch:=omega) only [push_cast,↓reduceIte,Nat.reduceEqDiff,reduceCtorEq,wz,hρ]; try rfl)
    by_cases o20 : op = 20
    · subst o20
      simp (maxSteps:=999999) -implicitDefEqProofs (disch:=omega) only [push_cast,↓reduceIte,Nat.reduceEqDiff,reduceCtorEq,wz,hρ,t7]
      subst d7
      simp (maxSteps:=999999) -implicitDefEqProofs (disch:=omega) only [push_cast,↓reduceIte,Nat.reduceEqDiff,reduceCtorEq,wz,hρ,add0,add1,add2,z7]
      exact hN _ _ (by simp (maxSteps:=999999) -implicitDefEqProofs (disch:=omega) only [push_cast,↓reduceIte,Nat.reduceEqDiff,reduceCtorEq,wz,hρ]; try rfl)
    by_cases o22 : op = 22
    · subst o22
      simp (maxSteps:=999999) -implicitDefEqProofs (disch:=omega) only [push_cast,↓reduceIte,Nat.reduceEqDiff,reduceCtorEq,wz,hρ,t7]
      subst d7
      simp (maxSteps:=999999) -implicitDefEqProofs (disch:=omega) only [push_cast,↓reduceIte,Nat.reduceEqDiff,reduceCtorEq,wz,hρ,add0,add1,add2,z7]
      exact hN _ _ (by simp (maxSteps:=999999) -implicitDefEqProofs (disch:=omega) only [push_cast,↓reduceIte,Nat.reduceEqDiff,reduceCtorEq,wz,hρ]; try rfl)
    have e : fmS op = ⟨#[]⟩ := by
      unfold fmS
      rw [if_neg o1, if_neg (by omega), if_neg (by omega), if_neg (by omega), if_neg o18, if_neg o19, if_neg (by omega)]
    rw [e] at hN
    by_cases c1 : 3 ≤ op
    · have c2 : ¬ op ≤ 12 := by omega
      simp (maxSteps:=999999) -implicitDefEqProofs (disch:=omega) only [push_cast,↓reduceIte,Nat.reduceEqDiff,reduceCtorEq,wz,hρ,c1,c2,o15,o16,o2,o13,o14,o17,o23,o24,o1,o19,o18,o20,o22,t0]
      exact hN _ _ (by simp (maxSteps:=999999) -implicitDefEqProofs (disch:=omega) only [push_cast,↓reduceIte,Nat.reduceEqDiff,reduceCtorEq,wz,hρ])
    · simp (maxSteps:=999999) -implicitDefEqProofs (disch:=omega) only [push_cast,↓reduceIte,Nat.reduceEqDiff,reduceCtorEq,wz,hρ,c1,o15,o16,o2,o13,o14,o17,o23,o24,o1,o19,o18,o20,o22,t0]
      exact hN _ _ (by simp (maxSteps:=999999) -implicitDefEqProofs (disch:=omega) only [push_cast,↓reduceIte,Nat.reduceEqDiff,reduceCtorEq,wz,hρ])
  clear hρ ε
  rintro ε σ ⟨hρ, rfl⟩
  simp (maxSteps:=999999) -implicitDefEqProofs (disch:=omega) only [push_cast,↓reduceIte,Nat.reduceEqDiff,reduceCtorEq,wz,hρ]
  exact ⟨[], rfl⟩
def endsB (b : UInt8) : Int × Int := if b = 114 then (0, 7) else if b = 102 then (0, 15) else if b = 116 then (0, 199) else (-32768, 32767)
def fitB (b : UInt8) (n : Int) : Bool := decide ((endsB b).1 ≤ n ∧ n ≤ (endsB b).2)
theorem u8_lit (b : UInt8) (k : Nat) (hk : k < 256) : ((b.toNat : Int) = (k : Int)) ↔ b = UInt8.ofNat k := by
  rw [← UInt8.toNat_inj]
  simp only [UInt8.toNat_ofNat']
  omega
set_option maxHeartbeats 4000000 in
theorem ins_fits_a (b : UInt8) (n : Int) : FnP Tryd.prog 94 [.v (.int .u8 b.toNat), aInt n] fun a => a = aBool (fitB b n) := by
  refine fnP_in K_ins_fits mixed rfl (by simp [AV.pureL, aInt_pure, AV.pure]) ?_
  simp only [S_ins_fits, aInt]
  have e1 := u8_lit b 114 (by omega)
  have e2 := u8_lit b 102 (by omega)
  have e3 := u8_lit b 116 (by omega)
  simp only [Int.cast_ofNat_Int] at e1 e2 e3
  by_cases h1 : b = 114
  · have hf : fitB b n = (decide (0 ≤ n) && decide (n ≤ 7)) := by subst h1; simp [fitB, endsB]
    have n1 : ((b.toNat : Int) = 114) := e1.2 h1
    rw [hf]
    by_cases c : 0 ≤ n <;> (simp (maxSteps:=999999) -implicitDefEqProofs (disch:=omega) only [push_cast,↓reduceIte,Nat.reduceEqDiff,reduceCtorEq,wz,n1,c]; exact ⟨[], rfl, by simp [AV.res, aBool]⟩)
  have n1 : ¬ ((b.toNat : Int) = 114) := fun h => h1 (e1.1 h)
  by_cases h2 : b = 102
  · have hf : fitB b n = (decide (0 ≤ n) && decide (n ≤ 15)) := by subst h2; simp [fitB, endsB]
    have n2 : ((b.toNat : Int) = 102) := e2.2 h2
    rw [hf]
    by_cases c : 0 ≤ n <;> (simp (maxSteps:=999999) -implicitDefEqProofs (disch:=omega) only [push_cast,↓reduceIte,Nat.reduceEqDiff,reduceCtorEq,wz,n1,n2,c]; exact ⟨[], rfl, by simp [AV.res, aBool]⟩)
  have n2 : ¬ ((b.toNat : Int) = 102) := fun h => h2 (e2.1 h)
  by_cases h3 : b = 116
  · have hf : fitB b n = (decide (0 ≤ n) && decide (n ≤ 199)) := by subst h3; simp [fitB, endsB]
    have n3 : ((b.toNat : Int) = 116) := e3.2 h3
    rw [hf]
    by_cases c : 0 ≤ n <;> (simp (maxSteps:=999999) -implicitDefEqProofs (disch:=omega) only [push_cast,↓reduceIte,Nat.reduceEqDiff,reduceCtorEq,wz,n1,n2,n3,c]; exact ⟨[], rfl, by simp [AV.res, aBool]⟩)
  have n3 : ¬ ((b.toNat : Int) = 116) := fun h => h3 (e3.1 h)
  have hf : fitB b n = (decide (-32768 ≤ n) && decide (n ≤ 32767)) := by simp [fitB, endsB, h1, h2, h3]
  rw [hf]
  by_cases c : -32768 ≤ n <;> (simp (maxSteps:=999999) -implicitDefEqProofs (disch:=omega) only [push_cast,↓reduceIte,Nat.reduceEqDiff,reduceCtorEq,wz,n1,n2,n3,c]; exact ⟨[], rfl, by simp [AV.res, aBool]⟩)
def aI3 (x : Ix) : List AV := [.v (.int .i64 x.a), .v (.int .i64 x.b), .v (.int .i64 x.c)]
theorem cellsIx (x : Ix) (t : List AV) : cellsA (some 4) (aIx x ++ t) = some (.agg (aIx x)) := by simp [cellsA, aIx]
theorem cellsIx' (x : Ix) : cellsA (some 4) (aIx x) = some (.agg (aIx x)) := rfl
set_option maxHeartbeats 4000000 in
theorem ins_fields_a (x : Ix) : FnP Tryd.prog 93 [.agg (aIx x)] fun a => a = .agg (aI3 x) := by
  refine fnP_in K_ins_fields mixed rfl (by simp [AV.pureL, AV.pure, aIx_pure]) ?_
  simp only [S_ins_fields]
  have hac : (AV.agg (aIx x)).cells = aIx x := rfl
  have g1 : (aIx x)[1]? = some (.v (.int .i64 x.a)) := rfl
  have g2 : (aIx x)[2]? = some (.v (.int .i64 x.b)) := rfl
  have g3 : (aIx x)[3]? = some (.v (.int .i64 x.c)) := rfl
  have hb3 : fillA [AV.v (.int .i64 0), AV.v (.int .i64 0), AV.v (.int .i64 0)] [(0, 1), (1, 1), (2, 1)] [AV.v (.int .i64 x.a), AV.v (.int .i64 x.b), AV.v (.int .i64 x.c)] = some (aI3 x) := by simp [fillA, AV.cells, Value.cells, setAtA, aI3]
  simp (maxSteps:=999999) -implicitDefEqProofs (disch:=omega) only [push_cast,↓reduceIte,Nat.reduceEqDiff,reduceCtorEq,wz]
  refine wpa_box ?_
  simp (maxSteps:=999999) -implicitDefEqProofs (disch:=omega) only [push_cast,↓reduceIte,Nat.reduceEqDiff,reduceCtorEq,wz,hac]
  refine wpa_new ?_
  simp (maxSteps:=999999) -implicitDefEqProofs (disch:=omega) only [push_cast,↓reduceIte,Nat.reduceEqDiff,reduceCtorEq,wz,hac,g1,g2,g3,hb3]
  refine wpa_stn (cs := [AV.v (.int .i64 0), AV.v (.int .i64 0), AV.v (.int .i64 0)]) rfl rfl rfl (by decide) ?_
  have hset : setAtA [AV.v (.int .i64 0), AV.v (.int .i64 0), AV.v (.int .i64 0)] 0 (aI3 x) = aI3 x := rfl
  have hc3 : cellsA (some 3) (aI3 x) = some (.agg (aI3 x)) := rfl
  rw [hset]
  simp (maxSteps:=999999) -implicitDefEqProofs (disch:=omega) only [push_cast,↓reduceIte,Nat.reduceEqDiff,reduceCtorEq,wz,hc3]
  exact fin_res [] (by simp [AV.res, aI3, AV.resL]) (by simp [AV.pure, aI3, AV.pureL])
def opsX (x : Ix) : List Int := [x.a, x.b, x.c]
def letX (x : Ix) : List UInt8 := (fmS x.op).data.toList
def insE (x : Ix) : Int := if x.op < 0 ∨ 26 ≤ x.op then 5 else if ((letX x).zip (opsX x)).all (fun p => fitB p.1 p.2) then (if ((opsX x).drop (letX x).length).all (fun n => decide (n = 0)) then 0 else 4) else 3
theorem letX_len (x : Ix) : (letX x).length ≤ 3 := by
  have := fmS_sz x.op
  rw [str_size] at this
  exact this
theorem letX_size (x : Ix) : (fmS x.op).size = (letX x).length := str_size _
theorem aI3_map (x : Ix) : aI3 x = (opsX x).map aInt := rfl
theorem aholds_x {d : Nat} {n : Option Nat} {x : Operand} {ε : AEnv} {σ : Kx.St} (h : ldA n (evA ε x) σ = some (ε d) ∧ (ε d).exact = true) : SItem.aholds ⟨some d, none, .ld n x⟩ ε σ := .inl ⟨trivial, ε d, h.1, h.2, fun e h' => by cases h'; rfl⟩
theorem ex_Ix (x : Ix) : (AV.agg (aIx x)).exact = true := rfl
theorem ex_In (n : Int) : (AV.v (.int .i64 n)).exact = true := rfl
theorem zip_all {α β : Type} {f : α × β → Bool} {xs : List α} {ys : List β} {k : Nat} {a : α} {b : β} (ha : xs[k]? = some a) (hb : ys[k]? = some b) : (xs.zip ys)[k]? = some (a, b) := by
  rw [List.getElem?_zip_eq_some]; exact ⟨ha, hb⟩
set_option maxHeartbeats 8000000 in
theorem ins_Check_a (x : Ix) : FnP Tryd.prog 70 [.agg (aIx x)] fun a => a = aInt (insE x) := by
  refine fnP_in K_ins_Check mixed rfl (by simp [AV.pureL, AV.pure, aIx_pure]) ?_
  simp only [S_ins_Check]
  have hac : (AV.agg (aIx x)).cells = aIx x := rfl
  have g0 : (aIx x)[0]? = some (.v (.int .i64 x.op)) := rfl
  refine wpa_seqx (fun ε σ => ε 1 = .ref 0 0 0 ∧ σ = [.obj 0 (aIx x)]) ?_ ?_
  · intro N X R hN
    simp (maxSteps:=999999) -implicitDefEqProofs (disch:=omega) only [push_cast,↓reduceIte,Nat.reduceEqDiff,reduceCtorEq,wz]
    refine wpa_box ?_
    simp (maxSteps:=999999) -implicitDefEqProofs (disch:=omega) only [push_cast,↓reduceIte,Nat.reduceEqDiff,reduceCtorEq,wz,hac]
    exact hN _ _ (by simp (maxSteps:=999999) -implicitDefEqProofs (disch:=omega) only [push_cast,↓reduceIte,Nat.reduceEqDiff,reduceCtorEq,wz])
  rintro ε σ ⟨hρ, rfl⟩
  refine wpa_seq (fun ε σ => ε 1 = .ref 0 0 0 ∧ (0 ≤ x.op ∧ x.op < 26) ∧ σ = [.obj 0 (aIx x)]) ?_ ?_
  · intro N hN
    by_cases c1 : x.op < 0
    · have e : insE x = 5 := by unfold insE; rw [if_pos (.inl c1)]
      simp (maxSteps:=999999) -implicitDefEqProofs (disch:=omega) only [push_cast,↓reduceIte,Nat.reduceEqDiff,reduceCtorEq,wz,hρ,g0,c1,e]
      exact ⟨[], rfl, rfl⟩
    by_cases c2 : 26 ≤ x.op
    · have e : insE x = 5 := by unfold insE; rw [if_pos (.inr c2)]
      simp (maxSteps:=999999) -implicitDefEqProofs (disch:=omega) only [push_cast,↓reduceIte,Nat.reduceEqDiff,reduceCtorEq,wz,hρ,g0,c1,c2,e]
      exact ⟨[], rfl, rfl⟩
    simp (maxSteps:=999999) -implicitDefEqProofs (disch:=omega) only [push_cast,↓reduceIte,Nat.reduceEqDiff,reduceCtorEq,wz,hρ,g0,c1,c2]
    exact hN _ _ (by simp (maxSteps:=999999) -implicitDefEqProofs (disch:=omega) only [push_cast,↓reduceIte,Nat.reduceEqDiff,reduceCtorEq,wz,hρ]; omega)
  clear hρ ε
  rintro ε σ ⟨hρ, hop, rfl⟩
  have hE : insE x = if ((letX x).zip (opsX x)).all (fun p => fitB p.1 p.2) then (if ((opsX x).drop (letX x).length).all (fun n => decide (n = 0)) then 0 else 4) else 3 := by unfold insE; rw [if_neg (by omega)]
  refine wpa_seqx (fun ε σ => (ε 3 = .v (.string (fmS x.op)) ∧ ε 4 = .ref 1 0 0) ∧ σ = [.obj 0 (aIx x), .obj 0 (aI3 x)]) ?_ ?_
  · intro N X R hN
    have hset : setAtA [AV.v (.int .i64 0), AV.v (.int .i64 0), AV.v (.int .i64 0)] 0 (aI3 x) = aI3 x := rfl
    simp (maxSteps:=999999) -implicitDefEqProofs (disch:=omega) only [push_cast,↓reduceIte,Nat.reduceEqDiff,reduceCtorEq,wz,hρ,g0,cellsIx']
    refine ⟨?_, ?_⟩
    · refine wpa_call (ins_Form_a x.op) ?_
      rintro a rfl
      simp (maxSteps:=999999) -implicitDefEqProofs (disch:=omega) only [push_cast,↓reduceIte,Nat.reduceEqDiff,reduceCtorEq,wz]
      refine ⟨aholds_x (by simp (maxSteps:=999999) -implicitDefEqProofs (disch:=omega) only [push_cast,↓reduceIte,Nat.reduceEqDiff,reduceCtorEq,wz,hρ,cellsIx',ex_Ix]), ?_, ?_⟩
      · refine wpa_call (ins_fields_a x) ?_
        rintro a rfl
        simp (maxSteps:=999999) -implicitDefEqProofs (disch:=omega) only [push_cast,↓reduceIte,Nat.reduceEqDiff,reduceCtorEq,wz]
        refine wpa_new ?_
        simp (maxSteps:=999999) -implicitDefEqProofs (disch:=omega) only [push_cast,↓reduceIte,Nat.reduceEqDiff,reduceCtorEq,wz]
        refine wpa_stn (cs := [AV.v (.int .i64 0), AV.v (.int .i64 0), AV.v (.int .i64 0)]) rfl rfl rfl (by decide) ?_
        rw [hset]
        simp (maxSteps:=999999) -implicitDefEqProofs (disch:=omega) only [push_cast,↓reduceIte,Nat.reduceEqDiff,reduceCtorEq,wz]
        exact hN _ _ (by simp (maxSteps:=999999) -implicitDefEqProofs (disch:=omega) only [push_cast,↓reduceIte,Nat.reduceEqDiff,reduceCtorEq,wz,hρ]; try rfl)
      · refine wpa_new ?_
        simp (maxSteps:=999999) -implicitDefEqProofs (disch:=omega) only [push_cast,↓reduceIte,Nat.reduceEqDiff,reduceCtorEq,wz]
        refine ⟨aholds_x (by simp (maxSteps:=999999) -implicitDefEqProofs (disch:=omega) only [push_cast,↓reduceIte,Nat.reduceEqDiff,reduceCtorEq,wz,hρ,cellsIx',ex_Ix]), ?_⟩
        refine wpa_call (ins_fields_a x) ?_
        rintro a rfl
        simp (maxSteps:=999999) -implicitDefEqProofs (disch:=omega) only [push_cast,↓reduceIte,Nat.reduceEqDiff,reduceCtorEq,wz]
        refine wpa_stn (cs := [AV.v (.int .i64 0), AV.v (.int .i64 0), AV.v (.int .i64 0)]) rfl rfl rfl (by decide) ?_
        rw [hset]
        simp (maxSteps:=999999) -implicitDefEqProofs (disch:=omega) only [push_cast,↓reduceIte,Nat.reduceEqDiff,reduceCtorEq,wz]
        exact hN _ _ (by simp (maxSteps:=999999) -implicitDefEqProofs (disch:=omega) only [push_cast,↓reduceIte,Nat.reduceEqDiff,reduceCtorEq,wz,hρ]; try rfl)
    · refine wpa_new ?_
      simp (maxSteps:=999999) -implicitDefEqProofs (disch:=omega) only [push_cast,↓reduceIte,Nat.reduceEqDiff,reduceCtorEq,wz]
      refine ⟨aholds_x (by simp (maxSteps:=999999) -implicitDefEqProofs (disch:=omega) only [push_cast,↓reduceIte,Nat.reduceEqDiff,reduceCtorEq,wz,hρ,cellsIx',ex_Ix]), aholds_x (by simp (maxSteps:=999999) -implicitDefEqProofs (disch:=omega) only [push_cast,↓reduceIte,Nat.reduceEqDiff,reduceCtorEq,wz,hρ,g0,ex_In]), ?_⟩
      refine wpa_call (ins_Form_a x.op) ?_
      rintro a rfl
      simp (maxSteps:=999999) -implicitDefEqProofs (disch:=omega) only [push_cast,↓reduceIte,Nat.reduceEqDiff,reduceCtorEq,wz]
      refine ⟨aholds_x (by simp (maxSteps:=999999) -implicitDefEqProofs (disch:=omega) only [push_cast,↓reduceIte,Nat.reduceEqDiff,reduceCtorEq,wz,hρ,cellsIx',ex_Ix]), ?_⟩
      refine wpa_call (ins_fields_a x) ?_
      rintro a rfl
      simp (maxSteps:=999999) -implicitDefEqProofs (disch:=omega) only [push_cast,↓reduceIte,Nat.reduceEqDiff,reduceCtorEq,wz]
      refine wpa_stn (cs := [AV.v (.int .i64 0), AV.v (.int .i64 0), AV.v (.int .i64 0)]) rfl rfl rfl (by decide) ?_
      rw [hset]
      simp (maxSteps:=999999) -implicitDefEqProofs (disch:=omega) only [push_cast,↓reduceIte,Nat.reduceEqDiff,reduceCtorEq,wz]
      exact hN _ _ (by simp (maxSteps:=999999) -implicitDefEqProofs (disch:=omega) only [push_cast,↓reduceIte,Nat.reduceEqDiff,reduceCtorEq,wz,hρ]; try rfl)
  clear hρ ε
  rintro ε σ ⟨hρ, rfl⟩
  have hL3 := letX_len x
  have hsz := letX_size x
  refine wpa_seq (fun ε σ => (ε 3 = .v (.string (fmS x.op)) ∧ ε 4 = .ep (aI3 x)) ∧ ((letX x).zip (opsX x)).all (fun p => fitB p.1 p.2) = true) ?_ ?_
  · intro N hN
    have hfz : (ε 4).res (Go.Kx.freeze [1] [.obj 0 (aIx x), .obj 0 (aI3 x)]) = .ep (aI3 x) := by
      rw [hρ.2]
      simp [Go.Kx.freeze, freeze1, AV.res, AV.resL, aI3]
    simp (maxSteps:=999999) -implicitDefEqProofs (disch:=omega) only [push_cast,↓reduceIte,Nat.reduceEqDiff,reduceCtorEq,wz,hρ,hsz]
    refine wpa_blg (GU.frz [1] 4) (α := Nat) (I := fun k ε σ => (ε 3 = .v (.string (fmS x.op)) ∧ ε 4 = .ep (aI3 x) ∧ ε 22 = .v (.int .i64 (letX x).length) ∧ ε 23 = .v (.int .i64 k)) ∧ k ≤ (letX x).length ∧ (((letX x).zip (opsX x)).take k).all (fun p => fitB p.1 p.2) = true)
      (μ := fun k => (letX x).length - k) (Q := fun ε σ => (ε 3 = .v (.string (fmS x.op)) ∧ ε 4 = .ep (aI3 x)) ∧ ((letX x).zip (opsX x)).all (fun p => fitB p.1 p.2) = true) (x := 0) ?_ ?_ hN
    · simp (maxSteps:=999999) -implicitDefEqProofs (disch:=omega) only [push_cast,↓reduceIte,Nat.reduceEqDiff,reduceCtorEq,wz,hρ]
      refine ⟨?_, by omega, rfl⟩
      rw [← hρ.2]
      exact hfz
    · clear hN N hρ hfz ε
      rintro k ε σ N E ⟨hρ, hk, hall⟩ hN hE'
      simp only [S_ins_Check_L1]
      by_cases hlt : k < (letX x).length
      · obtain ⟨b, hb⟩ := at_lt hlt
        obtain ⟨n, hn⟩ := at_lt (l := opsX x) (k := k) (by show k < 3; omega)
        have hix : PF.val .ixs [.string (fmS x.op), .int .i64 k] = some (.int .u8 b.toNat) := pv_str_ix (by omega) (by show (letX x)[k]? = some b; exact hb)
        have hn' : (aI3 x)[k]? = some (.v (.int .i64 n)) := by rw [aI3_map, List.getElem?_map, hn]; rfl
        have hz := zip_all (f := fun _ => true) hb hn
        have hsu := take_succ_at hz
        simp (maxSteps:=999999) -implicitDefEqProofs (disch:=omega) only [push_cast,↓reduceIte,Nat.reduceEqDiff,reduceCtorEq,wz,hρ,hix,hn']
        refine wpa_call (ins_fits_a b n) ?_
        rintro a rfl
        by_cases hf : fitB b n = true
        · rw [hf]
          simp (maxSteps:=999999) -implicitDefEqProofs (disch:=omega) only [push_cast,↓reduceIte,Nat.reduceEqDiff,reduceCtorEq,wz,hρ,aBool]
          exact hN (k + 1) _ _ ⟨by simp (maxSteps:=999999) -implicitDefEqProofs (disch:=omega) only [push_cast,↓reduceIte,Nat.reduceEqDiff,reduceCtorEq,wz,hρ], by omega, by rw [hsu, List.all_append, hall]; simp [hf]⟩ (by omega)
        · have hf' : fitB b n = false := by simpa using hf
          rw [hf']
          have e : insE x = 3 := by
            rw [hE, if_neg]
            rw [List.all_eq_true]
            intro h
            exact hf (h (b, n) (List.mem_of_getElem? hz))
          rw [e]
          simp (maxSteps:=999999) -implicitDefEqProofs (disch:=omega) only [push_cast,↓reduceIte,Nat.reduceEqDiff,reduceCtorEq,wz,hρ,aBool]
          exact ⟨[], rfl, rfl⟩
      · simp (maxSteps:=999999) -implicitDefEqProofs (disch:=omega) only [push_cast,↓reduceIte,Nat.reduceEqDiff,reduceCtorEq,wz,hρ]
        refine hE' _ _ ⟨by simp (maxSteps:=999999) -implicitDefEqProofs (disch:=omega) only [push_cast,↓reduceIte,Nat.reduceEqDiff,reduceCtorEq,wz,hρ], ?_⟩
        rw [List.take_of_length_le] at hall
        · exact hall
        · rw [List.length_zip]; omega
  clear hρ ε
  rintro ε σ ⟨hρ, hall⟩
  rw [hE, if_pos hall]
  have hdl : ((opsX x).drop (letX x).length).length = 3 - (letX x).length := by rw [List.length_drop]; rfl
  refine wpa_seq (fun ε σ => ((opsX x).drop (letX x).length).all (fun n => decide (n = 0)) = true) ?_ ?_
  · intro N hN
    have hsub : subA (aI3 x) (letX x).length (3 - (letX x).length) = ((opsX x).drop (letX x).length).map aInt := by
      unfold subA
      rw [aI3_map, List.map_drop, List.take_of_length_le]
      simp [opsX]
    have tn : (((letX x).length : Nat) : Int).toNat = (letX x).length := by omega
    simp (maxSteps:=999999) -implicitDefEqProofs (disch:=omega) only [push_cast,↓reduceIte,Nat.reduceEqDiff,reduceCtorEq,wz,hρ,hsz,tn,hsub]
    generalize hO : (opsX x).drop (letX x).length = O at hdl hN ⊢
    rw [← hdl]
    refine wpa_bl (α := Nat) (I := fun k ε σ => (ε 37 = .sl O.length (O.map aInt) .none ∧ ε 38 = .v (.int .i64 O.length) ∧ ε 39 = .v (.int .i64 k)) ∧ k ≤ O.length ∧ (O.take k).all (fun n => decide (n = 0)) = true)
      (μ := fun k => O.length - k) (Q := fun ε σ => O.all (fun n => decide (n = 0)) = true) (x := 0) ?_ ?_ (fun ε σ h => hN ε σ h)
    · simp (maxSteps:=999999) -implicitDefEqProofs (disch:=omega) only [push_cast,↓reduceIte,Nat.reduceEqDiff,reduceCtorEq,wz]
      exact ⟨congrArg (fun n => AV.v (.int .i64 n)) (by omega), by omega, rfl⟩
    · clear hρ ε hN N
      rintro k ε σ N E ⟨hρ, hk, ha⟩ hN hE'
      simp only [S_ins_Check_L2]
      by_cases hlt : k < O.length
      · obtain ⟨n, hn⟩ := at_lt hlt
        have hsu := take_succ_at hn
        by_cases h0 : n = 0
        · simp (maxSteps:=999999) -implicitDefEqProofs (disch:=omega) only [push_cast,↓reduceIte,Nat.reduceEqDiff,reduceCtorEq,wz,hρ,hn,aInt,h0]
          exact hN (k + 1) _ _ ⟨by simp (maxSteps:=999999) -implicitDefEqProofs (disch:=omega) only [push_cast,↓reduceIte,Nat.reduceEqDiff,reduceCtorEq,wz,hρ], by omega, by rw [hsu, List.all_append, ha]; simp [h0]⟩ (by omega)
        · have e : (O.all fun n => decide (n = 0)) = false := by
            rw [List.all_eq_false]
            exact ⟨n, List.mem_of_getElem? hn, by simpa using h0⟩
          rw [e]
          simp (maxSteps:=999999) -implicitDefEqProofs (disch:=omega) only [push_cast,↓reduceIte,Nat.reduceEqDiff,reduceCtorEq,wz,hρ,hn,aInt,h0]
          first | exact ⟨[], rfl, rfl⟩ | exact ⟨[], rfl⟩
      · simp (maxSteps:=999999) -implicitDefEqProofs (disch:=omega) only [push_cast,↓reduceIte,Nat.reduceEqDiff,reduceCtorEq,wz,hρ]
        rw [List.take_of_length_le (by omega)] at ha
        exact hE' _ _ ha
  rintro ε σ h
  rw [if_pos h]
  simp (maxSteps:=999999) -implicitDefEqProofs (disch:=omega) only [push_cast,↓reduceIte,Nat.reduceEqDiff,reduceCtorEq,wz]
  exact ⟨[], rfl, rfl⟩


def FL : List AV := [⟨#[]⟩, ⟨#[114, 110]⟩, ⟨#[114, 114]⟩, ⟨#[114, 114, 114]⟩, ⟨#[114, 114, 114]⟩, ⟨#[114, 114, 114]⟩, ⟨#[114, 114, 114]⟩, ⟨#[114, 114, 114]⟩, ⟨#[114, 114, 114]⟩, ⟨#[114, 114, 114]⟩, ⟨#[114, 114, 114]⟩, ⟨#[114, 114, 114]⟩, ⟨#[114, 114, 114]⟩, ⟨#[114, 114]⟩, ⟨#[114, 114]⟩, ⟨#[114, 114, 114]⟩, ⟨#[114, 114, 114]⟩, ⟨#[114]⟩, ⟨#[116]⟩, ⟨#[114, 116]⟩, ⟨#[102]⟩, ⟨#[]⟩, ⟨#[102]⟩, ⟨#[114]⟩, ⟨#[114]⟩, ⟨#[]⟩].map fun s : ByteArray => .v (.string s)
theorem FL_at (n : Nat) (h : n < 26) : FL[n]? = some (.v (.string (fmS n))) := by
  have : n = 0 ∨ n = 1 ∨ n = 2 ∨ n = 3 ∨ n = 4 ∨ n = 5 ∨ n = 6 ∨ n = 7 ∨ n = 8 ∨ n = 9 ∨ n = 10 ∨ n = 11 ∨ n = 12 ∨ n = 13 ∨ n = 14 ∨ n = 15 ∨ n = 16 ∨ n = 17 ∨ n = 18 ∨ n = 19 ∨ n = 20 ∨ n = 21 ∨ n = 22 ∨ n = 23 ∨ n = 24 ∨ n = 25 := by omega
  rcases this with rfl | rfl | rfl | rfl | rfl | rfl | rfl | rfl | rfl | rfl | rfl | rfl | rfl | rfl | rfl | rfl | rfl | rfl | rfl | rfl | rfl | rfl | rfl | rfl | rfl | rfl <;> rfl
theorem ref03_Forms_a : FnP Tryd.prog 95 [] fun a => a = .sl 26 FL .none := by
  refine fnP_in K_forebayref03_Forms mixed rfl (by simp [AV.pureL]) ?_
  simp only [S_forebayref03_Forms]
  simp (maxSteps:=999999) -implicitDefEqProofs (disch:=omega) only [push_cast,↓reduceIte,Nat.reduceEqDiff,reduceCtorEq,wz]
  refine wpa_bsl (sz := 1) (by intro a ha; have hm : a ∈ FL := ha; obtain ⟨s, _, rfl⟩ := List.mem_map.1 hm; rfl) (by simp) ?_
  simp (maxSteps:=999999) -implicitDefEqProofs (disch:=omega) only [push_cast,↓reduceIte,Nat.reduceEqDiff,reduceCtorEq,wz]
  refine ⟨[], by decide, ?_⟩
  simp [AV.res, AV.resL, FL]
theorem ref03_Form_a (op : Int) (h0 : 0 ≤ op) (h1 : op < 26) : FnP Tryd.prog 72 [aInt op] fun a => a = .v (.string (fmS op)) := by
  refine fnP_in K_forebayref03_Form mixed rfl (by simp [AV.pureL, aInt_pure]) ?_
  simp only [S_forebayref03_Form, aInt]
  have c1 : ¬ op < 0 := by omega
  have c2 : ¬ 25 < op := by omega
  have hFL : FL[op.toNat]? = some (.v (.string (fmS op))) := by
    rw [FL_at _ (by omega), show ((op.toNat : Nat) : Int) = op by omega]
  simp (maxSteps:=999999) -implicitDefEqProofs (disch:=omega) only [push_cast,↓reduceIte,Nat.reduceEqDiff,reduceCtorEq,wz,c1,c2]
  refine wpa_call ref03_Forms_a ?_
  rintro a rfl
  simp (maxSteps:=999999) -implicitDefEqProofs (disch:=omega) only [push_cast,↓reduceIte,Nat.reduceEqDiff,reduceCtorEq,wz,hFL]
  first | exact ⟨[], rfl, rfl⟩ | exact ⟨[], rfl⟩
theorem one_eq (a b : UInt8) : decide ((⟨#[a]⟩ : ByteArray) = ⟨#[b]⟩) = decide (a = b) := by
  rw [Bool.eq_iff_iff]; simp
theorem ref03_ends_a (b : UInt8) : FnP Tryd.prog 96 [.v (.string ⟨#[b]⟩)] fun a => a = .tup [aInt (endsB b).1, aInt (endsB b).2] := by
  refine fnP_in K_forebayref03_ends mixed rfl (by simp [AV.pureL, AV.pure]) ?_
  simp only [S_forebayref03_ends, aInt]
  by_cases h1 : b = 114
  · have e : endsB b = (0, 7) := by subst h1; rfl
    rw [e]
    simp (maxSteps:=999999) -implicitDefEqProofs (disch:=omega) only [push_cast,↓reduceIte,Nat.reduceEqDiff,reduceCtorEq,wz,one_eq,h1]
    first | exact ⟨[], rfl, rfl⟩ | exact ⟨[], rfl⟩
  by_cases h2 : b = 102
  · have e : endsB b = (0, 15) := by subst h2; rfl
    rw [e]
    have h1' : ((102 : UInt8) = 114) = False := by simp
    simp (maxSteps:=999999) -implicitDefEqProofs (disch:=omega) only [push_cast,↓reduceIte,Nat.reduceEqDiff,reduceCtorEq,wz,one_eq,h2,h1']
    first | exact ⟨[], rfl, rfl⟩ | exact ⟨[], rfl⟩
  by_cases h3 : b = 116
  · have e : endsB b = (0, 199) := by subst h3; rfl
    rw [e]
    have h1' : ((116 : UInt8) = 114) = False := by simp
    have h2' : ((116 : UInt8) = 102) = False := by simp
    simp (maxSteps:=999999) -implicitDefEqProofs (disch:=omega) only [push_cast,↓reduceIte,Nat.reduceEqDiff,reduceCtorEq,wz,one_eq,h3,h1',h2']
    first | exact ⟨[], rfl, rfl⟩ | exact ⟨[], rfl⟩
  have e : endsB b = (-32768, 32767) := by unfold endsB; rw [if_neg h1, if_neg h2, if_neg h3]
  rw [e]
  simp (maxSteps:=999999) -implicitDefEqProofs (disch:=omega) only [push_cast,↓reduceIte,Nat.reduceEqDiff,reduceCtorEq,wz,one_eq,h1,h2,h3]
  first | exact ⟨[], rfl, rfl⟩ | exact ⟨[], rfl⟩
set_option maxHeartbeats 8000000 in
theorem ref03_Check_a (x : Ix) : FnP Tryd.prog 73 [.agg (aIx x)] fun a => a = aInt (insE x) := by
  refine fnP_in K_forebayref03_Check mixed rfl (by simp [AV.pureL, AV.pure, aIx_pure]) ?_
  simp only [S_forebayref03_Check]
  have hac : (AV.agg (aIx x)).cells = aIx x := rfl
  have g0 : (aIx x)[0]? = some (.v (.int .i64 x.op)) := rfl
  have g1 : (aIx x)[1]? = some (.v (.int .i64 x.a)) := rfl
  have g2 : (aIx x)[2]? = some (.v (.int .i64 x.b)) := rfl
  have g3 : (aIx x)[3]? = some (.v (.int .i64 x.c)) := rfl
  refine wpa_seqx (fun ε σ => ε 1 = .ref 0 0 0 ∧ σ = [.obj 0 (aIx x)]) ?_ ?_
  · intro N X R hN
    simp (maxSteps:=999999) -implicitDefEqProofs (disch:=omega) only [push_cast,↓reduceIte,Nat.reduceEqDiff,reduceCtorEq,wz]
    refine wpa_box ?_
    simp (maxSteps:=999999) -implicitDefEqProofs (disch:=omega) only [push_cast,↓reduceIte,Nat.reduceEqDiff,reduceCtorEq,wz,hac]
    exact hN _ _ (by simp (maxSteps:=999999) -implicitDefEqProofs (disch:=omega) only [push_cast,↓reduceIte,Nat.reduceEqDiff,reduceCtorEq,wz])
  rintro ε σ ⟨hρ, rfl⟩
  refine wpa_seq (fun ε σ => ε 1 = .ref 0 0 0 ∧ (0 ≤ x.op ∧ x.op < 26) ∧ σ = [.obj 0 (aIx x)]) ?_ ?_
  · intro N hN
    by_cases c1 : x.op < 0
    · have e : insE x = 5 := by unfold insE; rw [if_pos (.inl c1)]
      simp (maxSteps:=999999) -implicitDefEqProofs (disch:=omega) only [push_cast,↓reduceIte,Nat.reduceEqDiff,reduceCtorEq,wz,hρ,g0,c1,e]
      first | exact ⟨[], rfl, rfl⟩ | exact ⟨[], rfl⟩
    by_cases c2 : 25 < x.op
    · have e : insE x = 5 := by unfold insE; rw [if_pos (.inr (by omega))]
      simp (maxSteps:=999999) -implicitDefEqProofs (disch:=omega) only [push_cast,↓reduceIte,Nat.reduceEqDiff,reduceCtorEq,wz,hρ,g0,c1,c2,e]
      first | exact ⟨[], rfl, rfl⟩ | exact ⟨[], rfl⟩
    simp (maxSteps:=999999) -implicitDefEqProofs (disch:=omega) only [push_cast,↓reduceIte,Nat.reduceEqDiff,reduceCtorEq,wz,hρ,g0,c1,c2]
    exact hN _ _ (by simp (maxSteps:=999999) -implicitDefEqProofs (disch:=omega) only [push_cast,↓reduceIte,Nat.reduceEqDiff,reduceCtorEq,wz,hρ]; omega)
  clear hρ ε
  rintro ε σ ⟨hρ, hop, rfl⟩
  have hE : insE x = if ((letX x).zip (opsX x)).all (fun p => fitB p.1 p.2) then (if ((opsX x).drop (letX x).length).all (fun n => decide (n = 0)) then 0 else 4) else 3 := by unfold insE; rw [if_neg (by omega)]
  have hL3 := letX_len x
  have hsz := letX_size x
  refine wpa_seqx (fun ε σ => (ε 1 = .ref 0 0 0 ∧ ε 3 = .v (.string (fmS x.op))) ∧ σ = [.obj 0 (aIx x)]) ?_ ?_
  · intro N X R hN
    simp (maxSteps:=999999) -implicitDefEqProofs (disch:=omega) only [push_cast,↓reduceIte,Nat.reduceEqDiff,reduceCtorEq,wz,hρ,g0]
    refine wpa_call (ref03_Form_a x.op hop.1 hop.2) ?_
    rintro a rfl
    simp (maxSteps:=999999) -implicitDefEqProofs (disch:=omega) only [push_cast,↓reduceIte,Nat.reduceEqDiff,reduceCtorEq,wz]
    exact hN _ _ (by simp (maxSteps:=999999) -implicitDefEqProofs (disch:=omega) only [push_cast,↓reduceIte,Nat.reduceEqDiff,reduceCtorEq,wz,hρ])
  clear hρ ε
  rintro ε σ ⟨hρ, rfl⟩
  refine wpa_seqx (fun ε σ => (ε 3 = .v (.string (fmS x.op)) ∧ ε 4 = .sl 3 (aI3 x) .full)) ?_ ?_
  · intro N X R hN
    simp (maxSteps:=999999) -implicitDefEqProofs (disch:=omega) only [push_cast,↓reduceIte,Nat.reduceEqDiff,reduceCtorEq,wz,hρ,g1,g2,g3]
    refine wpa_bsl (sz := 1) (by intro a ha; simp at ha; rcases ha with rfl | rfl | rfl <;> rfl) (by simp) ?_
    simp (maxSteps:=999999) -implicitDefEqProofs (disch:=omega) only [push_cast,↓reduceIte,Nat.reduceEqDiff,reduceCtorEq,wz]
    exact hN _ _ (by simp (maxSteps:=999999) -implicitDefEqProofs (disch:=omega) only [push_cast,↓reduceIte,Nat.reduceEqDiff,reduceCtorEq,wz,hρ]; rfl)
  clear hρ ε
  rintro ε σ hρ
  refine wpa_seq (fun ε σ => (ε 3 = .v (.string (fmS x.op)) ∧ ε 4 = .sl 3 (aI3 x) .full) ∧ ((letX x).zip (opsX x)).all (fun p => fitB p.1 p.2) = true) ?_ ?_
  · intro N hN
    simp (maxSteps:=999999) -implicitDefEqProofs (disch:=omega) only [push_cast,↓reduceIte,Nat.reduceEqDiff,reduceCtorEq,wz]
    refine wpa_bl (α := Nat) (I := fun k ε σ => (ε 3 = .v (.string (fmS x.op)) ∧ ε 4 = .sl 3 (aI3 x) .full ∧ ε 5 = .v (.int .i64 k)) ∧ k ≤ (letX x).length ∧ (((letX x).zip (opsX x)).take k).all (fun p => fitB p.1 p.2) = true)
      (μ := fun k => (letX x).length - k) (Q := fun ε σ => (ε 3 = .v (.string (fmS x.op)) ∧ ε 4 = .sl 3 (aI3 x) .full) ∧ ((letX x).zip (opsX x)).all (fun p => fitB p.1 p.2) = true) (x := 0) ?_ ?_ hN
    · simp (maxSteps:=999999) -implicitDefEqProofs (disch:=omega) only [push_cast,↓reduceIte,Nat.reduceEqDiff,reduceCtorEq,wz,hρ]
      exact ⟨by omega, rfl⟩
    · clear hN N hρ ε
      rintro k ε σ N E ⟨hρ, hk, hall⟩ hN hE'
      simp only [S_forebayref03_Check_L1]
      by_cases hlt : k < (letX x).length
      · obtain ⟨b, hb⟩ := at_lt hlt
        obtain ⟨n, hn⟩ := at_lt (l := opsX x) (k := k) (by show k < 3; omega)
        have hn' : (aI3 x)[k]? = some (.v (.int .i64 n)) := by rw [aI3_map, List.getElem?_map, hn]; rfl
        have hz := zip_all (f := fun _ => true) hb hn
        have hsu := take_succ_at hz
        have hex : (fmS x.op).extract k (k + 1) = ⟨#[b]⟩ := str_one (by show (letX x)[k]? = some b; exact hb)
        have hss : PF.val (.sls true true) [.string (fmS x.op), .int .i64 k, .int .i64 (k + 1)] = some (.string ⟨#[b]⟩) := by
          rw [pv_sls_lh _ _ _ _ _ (by omega) (by omega) (by omega)]
          rw [show (((k : Nat) : Int)).toNat = k by omega, show (((k : Nat) : Int) + 1).toNat = k + 1 by omega, hex]
        have hf : fitB b n = decide ((endsB b).1 ≤ n ∧ n ≤ (endsB b).2) := rfl
        simp (maxSteps:=999999) -implicitDefEqProofs (disch:=omega) only [push_cast,↓reduceIte,Nat.reduceEqDiff,reduceCtorEq,wz,hρ,hsz,hss]
        refine wpa_call (ref03_ends_a b) ?_
        rintro a rfl
        generalize endsB b = lh at hf
        by_cases d1 : n < lh.1
        · have hfn : fitB b n = false := by rw [hf]; simp; omega
          have e : insE x = 3 := by
            rw [hE, if_neg]
            rw [List.all_eq_true]
            intro h
            have := h (b, n) (List.mem_of_getElem? hz)
            simp only [hfn] at this
            cases this
          rw [e]
          simp (maxSteps:=999999) -implicitDefEqProofs (disch:=omega) only [push_cast,↓reduceIte,Nat.reduceEqDiff,reduceCtorEq,wz,hρ,aInt,hn',d1]
          first | exact ⟨[], rfl, rfl⟩ | exact ⟨[], rfl⟩
        by_cases d2 : lh.2 < n
        · have hfn : fitB b n = false := by rw [hf]; simp; omega
          have e : insE x = 3 := by
            rw [hE, if_neg]
            rw [List.all_eq_true]
            intro h
            have := h (b, n) (List.mem_of_getElem? hz)
            simp only [hfn] at this
            cases this
          rw [e]
          simp (maxSteps:=999999) -implicitDefEqProofs (disch:=omega) only [push_cast,↓reduceIte,Nat.reduceEqDiff,reduceCtorEq,wz,hρ,aInt,hn',d1,d2]
          first | exact ⟨[], rfl, rfl⟩ | exact ⟨[], rfl⟩
        have hfn : fitB b n = true := by rw [hf]; simp; omega
        simp (maxSteps:=999999) -implicitDefEqProofs (disch:=omega) only [push_cast,↓reduceIte,Nat.reduceEqDiff,reduceCtorEq,wz,hρ,aInt,hn',d1,d2]
        exact hN (k + 1) _ _ ⟨by simp (maxSteps:=999999) -implicitDefEqProofs (disch:=omega) only [push_cast,↓reduceIte,Nat.reduceEqDiff,reduceCtorEq,wz,hρ], by omega, by rw [hsu, List.all_append, hall]; simp [hfn]⟩ (by omega)
      · simp (maxSteps:=999999) -implicitDefEqProofs (disch:=omega) only [push_cast,↓reduceIte,Nat.reduceEqDiff,reduceCtorEq,wz,hρ,hsz]
        refine hE' _ _ ⟨by simp (maxSteps:=999999) -implicitDefEqProofs (disch:=omega) only [push_cast,↓reduceIte,Nat.reduceEqDiff,reduceCtorEq,wz,hρ], ?_⟩
        rw [List.take_of_length_le] at hall
        · exact hall
        · rw [List.length_zip]; omega
  clear hρ ε
  rintro ε σ ⟨hρ, hall⟩
  rw [hE, if_pos hall]
  refine wpa_seq (fun ε σ => ((opsX x).drop (letX x).length).all (fun n => decide (n = 0)) = true) ?_ ?_
  · intro N hN
    simp (maxSteps:=999999) -implicitDefEqProofs (disch:=omega) only [push_cast,↓reduceIte,Nat.reduceEqDiff,reduceCtorEq,wz,hρ,hsz]
    refine wpa_bl (α := Nat) (I := fun k ε σ => (ε 4 = .sl 3 (aI3 x) .full ∧ ε 8 = .v (.int .i64 k)) ∧ (letX x).length ≤ k ∧ k ≤ 3 ∧ (((opsX x).take k).drop (letX x).length).all (fun n => decide (n = 0)) = true)
      (μ := fun k => 3 - k) (Q := fun ε σ => ((opsX x).drop (letX x).length).all (fun n => decide (n = 0)) = true) (x := (letX x).length) ?_ ?_ hN
    · simp (maxSteps:=999999) -implicitDefEqProofs (disch:=omega) only [push_cast,↓reduceIte,Nat.reduceEqDiff,reduceCtorEq,wz,hρ]
      exact ⟨by omega, by omega, by rw [List.drop_of_length_le (by rw [List.length_take]; omega)]; rfl⟩
    · clear hρ ε hN N
      rintro k ε σ N E ⟨hρ, hLk, hk, ha⟩ hN hE'
      simp only [S_forebayref03_Check_L2]
      by_cases hlt : k < 3
      · obtain ⟨n, hn⟩ := at_lt (l := opsX x) (k := k) hlt
        have hn' : (aI3 x)[k]? = some (.v (.int .i64 n)) := by rw [aI3_map, List.getElem?_map, hn]; rfl
        have hsu := take_succ_at hn
        have hlt' : (k : Int) < 3 := by omega
        by_cases h0 : n = 0
        · rw [h0] at hn'
          simp (maxSteps:=999999) -implicitDefEqProofs (disch:=omega) only [push_cast,↓reduceIte,Nat.reduceEqDiff,reduceCtorEq,wz,hρ,hn',hlt']
          refine hN (k + 1) _ _ ⟨by simp (maxSteps:=999999) -implicitDefEqProofs (disch:=omega) only [push_cast,↓reduceIte,Nat.reduceEqDiff,reduceCtorEq,wz,hρ], by omega, by omega, ?_⟩ (by omega)
          rw [hsu, List.drop_append_of_le_length (by rw [List.length_take]; show _ ≤ min k 3; omega), List.all_append, ha]
          simp [h0]
        · have e : (((opsX x).drop (letX x).length).all fun n => decide (n = 0)) = false := by
            rw [List.all_eq_false]
            refine ⟨n, ?_, by simpa using h0⟩
            refine List.mem_of_getElem? (i := k - (letX x).length) ?_
            rw [List.getElem?_drop, show (letX x).length + (k - (letX x).length) = k by omega]
            exact hn
          rw [e]
          simp (maxSteps:=999999) -implicitDefEqProofs (disch:=omega) only [push_cast,↓reduceIte,Nat.reduceEqDiff,reduceCtorEq,wz,hρ,hn',h0,hlt']
          first | exact ⟨[], rfl, rfl⟩ | exact ⟨[], rfl⟩
      · have hlt' : ¬ (k : Int) < 3 := by omega
        simp (maxSteps:=999999) -implicitDefEqProofs (disch:=omega) only [push_cast,↓reduceIte,Nat.reduceEqDiff,reduceCtorEq,wz,hρ,hlt']
        rw [List.take_of_length_le (by show 3 ≤ k; omega)] at ha
        exact hE' _ _ ha
  rintro ε σ h
  rw [if_pos h]
  simp (maxSteps:=999999) -implicitDefEqProofs (disch:=omega) only [push_cast,↓reduceIte,Nat.reduceEqDiff,reduceCtorEq,wz]
  first | exact ⟨[], rfl, rfl⟩ | exact ⟨[], rfl⟩


def aFs (fs : List (List Ix)) : AV := aSl aIxs fs
theorem aFs_pure (fs : List (List Ix)) : (aFs fs).pure = true := aSl_pure aIxs_pure fs
theorem aIxs_res' (σ : St) (l : List Ix) : (aIxs l).res σ = aIxs l := aIxs_res σ l .none
theorem aFs_res (σ : St) (fs : List (List Ix)) (t : Tok) : (AV.sl fs.length (fs.map aIxs) t).res σ = aFs fs := aSl_res (aIxs_res' σ) fs t
def aPr (m : Int) (fs : List (List Ix)) : List AV := [.v (.int .i64 m), aFs fs]
theorem aPr_pure (m : Int) (fs : List (List Ix)) : AV.pureL (aPr m fs) = true := by simp [aPr, AV.pureL, AV.pure, aFs_pure]
def manyE (n most : Int) : Int := if n = 0 then 7 else if most < n then 9 else 0
def leadB (x : Ix) (code funcs : Int) : Bool := if x.op = 18 then decide (x.a < code) else if x.op = 19 then decide (x.b < code) else if x.op = 20 ∨ x.op = 22 then decide (x.a < funcs) else true
def scanE (code funcs : Int) : List Ix → Int
  | [] => 0
  | x :: l => if insE x ≠ 0 then insE x else if leadB x code funcs = false then 11 else scanE code funcs l
def lastE (l : List Ix) : Int := match l[l.length - 1]? with | some x => if endsX x then 0 else 12 | none => 12
def fnE (l : List Ix) (funcs : Int) : Int := if manyE l.length 200 ≠ 0 then manyE l.length 200 else if scanE l.length funcs l ≠ 0 then scanE l.length funcs l else lastE l
def fnsE (funcs : Int) : List (List Ix) → Int
  | [] => 0
  | l :: ls => if fnE l funcs ≠ 0 then fnE l funcs else fnsE funcs ls
def prgE (m : Int) (fs : List (List Ix)) : Int := if m < 0 ∨ 256 < m then 3 else if manyE fs.length 16 ≠ 0 then manyE fs.length 16 else fnsE fs.length fs
theorem prog_many_a (n most : Int) : FnP Tryd.prog 110 [aInt n, aInt most] fun a => a = aInt (manyE n most) := by
  refine fnP_in K_prog_many mixed rfl (by simp [AV.pureL, aInt_pure]) ?_
  simp only [S_prog_many, aInt]
  unfold manyE
  by_cases c1 : n = 0
  · simp (maxSteps:=999999) -implicitDefEqProofs (disch:=omega) only [push_cast,↓reduceIte,Nat.reduceEqDiff,reduceCtorEq,wz,c1]
    first | exact ⟨[], rfl, rfl⟩ | exact ⟨[], rfl⟩
  by_cases c2 : most < n
  · simp (maxSteps:=999999) -implicitDefEqProofs (disch:=omega) only [push_cast,↓reduceIte,Nat.reduceEqDiff,reduceCtorEq,wz,c1,c2]
    first | exact ⟨[], rfl, rfl⟩ | exact ⟨[], rfl⟩
  · simp (maxSteps:=999999) -implicitDefEqProofs (disch:=omega) only [push_cast,↓reduceIte,Nat.reduceEqDiff,reduceCtorEq,wz,c1,c2]
    first | exact ⟨[], rfl, rfl⟩ | exact ⟨[], rfl⟩
theorem ref04_many_a (n most : Int) : FnP Tryd.prog 99 [aInt n, aInt most] fun a => a = aInt (manyE n most) := by
  refine fnP_in K_forebayref04_many mixed rfl (by simp [AV.pureL, aInt_pure]) ?_
  simp only [S_forebayref04_many, aInt]
  unfold manyE
  by_cases c1 : n = 0
  · simp (maxSteps:=999999) -implicitDefEqProofs (disch:=omega) only [push_cast,↓reduceIte,Nat.reduceEqDiff,reduceCtorEq,wz,c1]
    first | exact ⟨[], rfl, rfl⟩ | exact ⟨[], rfl⟩
  by_cases c2 : most < n
  · simp (maxSteps:=999999) -implicitDefEqProofs (disch:=omega) only [push_cast,↓reduceIte,Nat.reduceEqDiff,reduceCtorEq,wz,c1,c2]
    first | exact ⟨[], rfl, rfl⟩ | exact ⟨[], rfl⟩
  · simp (maxSteps:=999999) -implicitDefEqProofs (disch:=omega) only [push_cast,↓reduceIte,Nat.reduceEqDiff,reduceCtorEq,wz,c1,c2]
    first | exact ⟨[], rfl, rfl⟩ | exact ⟨[], rfl⟩
theorem prog_sizes_a (m n : Int) : FnP Tryd.prog 97 [aInt m, aInt n] fun a => a = aInt (if m < 0 ∨ 256 < m then 3 else manyE n 16) := by
  refine fnP_in K_prog_sizes mixed rfl (by simp [AV.pureL, aInt_pure]) ?_
  simp only [S_prog_sizes, aInt]
  by_cases c1 : m < 0
  · rw [if_pos (.inl c1)]
    simp (maxSteps:=999999) -implicitDefEqProofs (disch:=omega) only [push_cast,↓reduceIte,Nat.reduceEqDiff,reduceCtorEq,wz,c1]
    first | exact ⟨[], rfl, rfl⟩ | exact ⟨[], rfl⟩
  by_cases c2 : 256 < m
  · rw [if_pos (.inr c2)]
    simp (maxSteps:=999999) -implicitDefEqProofs (disch:=omega) only [push_cast,↓reduceIte,Nat.reduceEqDiff,reduceCtorEq,wz,c1,c2]
    first | exact ⟨[], rfl, rfl⟩ | exact ⟨[], rfl⟩
  rw [if_neg (by omega)]
  simp (maxSteps:=999999) -implicitDefEqProofs (disch:=omega) only [push_cast,↓reduceIte,Nat.reduceEqDiff,reduceCtorEq,wz,c1,c2]
  refine wpa_call (prog_many_a n 16) ?_
  rintro a rfl
  simp (maxSteps:=999999) -implicitDefEqProofs (disch:=omega) only [push_cast,↓reduceIte,Nat.reduceEqDiff,reduceCtorEq,wz,aInt]
  first | exact ⟨[], rfl, rfl⟩ | exact ⟨[], rfl⟩
set_option maxHeartbeats 4000000 in
theorem prog_leads_a (x : Ix) (code funcs : Int) : FnP Tryd.prog 111 [.agg (aIx x), aInt code, aInt funcs] fun a => a = aBool (leadB x code funcs) := by
  refine fnP_in K_prog_leads mixed rfl (by simp [AV.pureL, aInt_pure, AV.pure, aIx_pure]) ?_
  simp only [S_prog_leads, aInt]
  have hac : (AV.agg (aIx x)).cells = aIx x := rfl
  have g0 : (aIx x)[0]? = some (.v (.int .i64 x.op)) := rfl
  have g1 : (aIx x)[1]? = some (.v (.int .i64 x.a)) := rfl
  have g2 : (aIx x)[2]? = some (.v (.int .i64 x.b)) := rfl
  unfold leadB
  simp (maxSteps:=999999) -implicitDefEqProofs (disch:=omega) only [push_cast,↓reduceIte,Nat.reduceEqDiff,reduceCtorEq,wz]
  refine wpa_box ?_
  by_cases c1 : x.op = 18
  · simp (maxSteps:=999999) -implicitDefEqProofs (disch:=omega) only [push_cast,↓reduceIte,Nat.reduceEqDiff,reduceCtorEq,wz,hac,g0,g1,g2,c1]
    first | exact ⟨[], rfl, rfl⟩ | exact ⟨[], rfl⟩
  by_cases c2 : x.op = 19
  · simp (maxSteps:=999999) -implicitDefEqProofs (disch:=omega) only [push_cast,↓reduceIte,Nat.reduceEqDiff,reduceCtorEq,wz,hac,g0,g1,g2,c1,c2]
    first | exact ⟨[], rfl, rfl⟩ | exact ⟨[], rfl⟩
  by_cases c3 : x.op = 20
  · rw [if_neg c1, if_neg c2, if_pos (.inl c3)]
    simp (maxSteps:=999999) -implicitDefEqProofs (disch:=omega) only [push_cast,↓reduceIte,Nat.reduceEqDiff,reduceCtorEq,wz,hac,g0,g1,g2,c1,c2,c3]
    first | exact ⟨[], rfl, rfl⟩ | exact ⟨[], rfl⟩
  by_cases c4 : x.op = 22
  · rw [if_neg c1, if_neg c2, if_pos (.inr c4)]
    simp (maxSteps:=999999) -implicitDefEqProofs (disch:=omega) only [push_cast,↓reduceIte,Nat.reduceEqDiff,reduceCtorEq,wz,hac,g0,g1,g2,c1,c2,c3,c4]
    first | exact ⟨[], rfl, rfl⟩ | exact ⟨[], rfl⟩
  rw [if_neg c1, if_neg c2, if_neg (by omega)]
  simp (maxSteps:=999999) -implicitDefEqProofs (disch:=omega) only [push_cast,↓reduceIte,Nat.reduceEqDiff,reduceCtorEq,wz,hac,g0,g1,g2,c1,c2,c3,c4]
  first | exact ⟨[], rfl, rfl⟩ | exact ⟨[], rfl⟩
set_option maxHeartbeats 8000000 in
theorem prog_function_a (l : List Ix) (funcs : Int) (hl : l.length ≤ 100000) : FnP Tryd.prog 98 [aIxs l, aInt funcs] fun a => a = aInt (fnE l funcs) := by
  refine fnP_in K_prog_function mixed rfl (by simp [AV.pureL, aInt_pure, aIxs_pure]) ?_
  simp only [S_prog_function, aInt]
  have hIL : aIxs l = .sl l.length (l.flatMap aIx) .none := rfl
  refine wpa_seqx (fun ε σ => (ε 0 = aIxs l ∧ ε 1 = .v (.int .i64 funcs)) ∧ σ = []) (fun N X' R' hN => by simp (maxSteps:=999999) -implicitDefEqProofs (disch:=omega) only [push_cast,↓reduceIte,Nat.reduceEqDiff,reduceCtorEq,wz]; exact hN _ _ (by simp (maxSteps:=999999) -implicitDefEqProofs (disch:=omega) only [push_cast,↓reduceIte,Nat.reduceEqDiff,reduceCtorEq,wz])) ?_
  rintro ε σ ⟨hρ, rfl⟩
  refine wpa_seq (fun ε σ => (ε 0 = aIxs l ∧ ε 1 = .v (.int .i64 funcs)) ∧ manyE l.length 200 = 0) ?_ ?_
  · intro N hN
    simp (maxSteps:=999999) -implicitDefEqProofs (disch:=omega) only [push_cast,↓reduceIte,Nat.reduceEqDiff,reduceCtorEq,wz,hρ,hIL]
    refine wpa_call (prog_many_a l.length 200) ?_
    rintro a rfl
    by_cases hz : manyE l.length 200 = 0
    · simp (maxSteps:=999999) -implicitDefEqProofs (disch:=omega) only [push_cast,↓reduceIte,Nat.reduceEqDiff,reduceCtorEq,wz,hρ,aInt,hz]
      exact hN _ _ ⟨by simp (maxSteps:=999999) -implicitDefEqProofs (disch:=omega) only [push_cast,↓reduceIte,Nat.reduceEqDiff,reduceCtorEq,wz,hρ], hz⟩
    · have e : fnE l funcs = manyE l.length 200 := by unfold fnE; rw [if_pos hz]
      rw [e]
      simp (maxSteps:=999999) -implicitDefEqProofs (disch:=omega) only [push_cast,↓reduceIte,Nat.reduceEqDiff,reduceCtorEq,wz,hρ,aInt,hz]
      first | exact ⟨[], rfl, rfl⟩ | exact ⟨[], rfl⟩
  clear hρ ε
  rintro ε σ ⟨hρ, hz⟩
  have hpos : 0 < l.length := by
    unfold manyE at hz
    rcases Nat.eq_zero_or_pos l.length with h | h
    · rw [h] at hz; simp at hz
    · exact h
  have hF : fnE l funcs = if scanE l.length funcs l ≠ 0 then scanE l.length funcs l else lastE l := by unfold fnE; rw [if_neg (by simp [hz])]
  refine wpa_seq (fun ε σ => (ε 0 = aIxs l ∧ ε 1 = .v (.int .i64 funcs)) ∧ scanE l.length funcs l = 0) ?_ ?_
  · intro N hN
    simp (maxSteps:=999999) -implicitDefEqProofs (disch:=omega) only [push_cast,↓reduceIte,Nat.reduceEqDiff,reduceCtorEq,wz,hρ,hIL]
    refine wpa_bl (α := Nat) (I := fun k ε σ => (ε 0 = aIxs l ∧ ε 1 = .v (.int .i64 funcs) ∧ ε 15 = aIxs l ∧ ε 16 = .v (.int .i64 l.length) ∧ ε 17 = .v (.int .i64 k)) ∧ k ≤ l.length ∧ scanE l.length funcs l = scanE l.length funcs (l.drop k))
      (μ := fun k => l.length - k) (Q := fun ε σ => (ε 0 = aIxs l ∧ ε 1 = .v (.int .i64 funcs)) ∧ scanE l.length funcs l = 0) (x := 0) ?_ ?_ hN
    · simp (maxSteps:=999999) -implicitDefEqProofs (disch:=omega) only [push_cast,↓reduceIte,Nat.reduceEqDiff,reduceCtorEq,wz,hρ,hIL]
      omega
    · clear hN N hρ ε
      rintro k ε σ N E ⟨hρ, hk, hs⟩ hN hE
      simp only [S_prog_function_L1]
      by_cases hlt : k < l.length
      · obtain ⟨x, hx⟩ := at_lt hlt
        have hd := flat_drop aIx_len hx
        have hset : setAtA [AV.v (.int .i64 0), AV.v (.int .i64 0), AV.v (.int .i64 0), AV.v (.int .i64 0)] 0 (aIx x) = aIx x := rfl
        rw [drop_at hx] at hs
        simp only [scanE] at hs
        simp (maxSteps:=999999) -implicitDefEqProofs (disch:=omega) only [push_cast,↓reduceIte,Nat.reduceEqDiff,reduceCtorEq,wz,hρ,hIL,hd,cellsIx]
        refine wpa_new ?_
        simp (maxSteps:=999999) -implicitDefEqProofs (disch:=omega) only [push_cast,↓reduceIte,Nat.reduceEqDiff,reduceCtorEq,wz]
        refine wpa_stn (cs := [AV.v (.int .i64 0), AV.v (.int .i64 0), AV.v (.int .i64 0), AV.v (.int .i64 0)]) rfl rfl (at_snoc _ _) (by simp) ?_
        rw [hset, set_snoc]
        have hb : (σ ++ [Res.obj 0 (aIx x)])[σ.length]? = some (.obj 0 (aIx x)) := at_snoc _ _
        generalize σ ++ [Res.obj 0 (aIx x)] = S at hb ⊢
        generalize σ.length = i0 at hb ⊢
        simp (maxSteps:=999999) -implicitDefEqProofs (disch:=omega) only [push_cast,↓reduceIte,Nat.reduceEqDiff,reduceCtorEq,wz,hb,cellsIx']
        refine wpa_call (ins_Check_a x) ?_
        rintro a rfl
        by_cases hi : insE x = 0
        · rw [if_neg (by simp [hi])] at hs
          simp (maxSteps:=999999) -implicitDefEqProofs (disch:=omega) only [push_cast,↓reduceIte,Nat.reduceEqDiff,reduceCtorEq,wz,hρ,aInt,hi,hb,cellsIx',hIL]
          refine wpa_call (prog_leads_a x l.length funcs) ?_
          rintro a rfl
          by_cases hb2 : leadB x l.length funcs = true
          · rw [if_neg (by simp [hb2])] at hs
            simp (maxSteps:=999999) -implicitDefEqProofs (disch:=omega) only [push_cast,↓reduceIte,Nat.reduceEqDiff,reduceCtorEq,wz,hρ,aBool,hb2]
            exact hN (k + 1) _ _ ⟨by simp (maxSteps:=999999) -implicitDefEqProofs (disch:=omega) only [push_cast,↓reduceIte,Nat.reduceEqDiff,reduceCtorEq,wz,hρ], by omega, hs⟩ (by omega)
          · have hb3 : leadB x l.length funcs = false := by simpa using hb2
            rw [if_pos hb3] at hs
            rw [hF, hs]
            simp (maxSteps:=999999) -implicitDefEqProofs (disch:=omega) only [push_cast,↓reduceIte,Nat.reduceEqDiff,reduceCtorEq,wz,hρ,aBool,hb3]
            first | exact ⟨[], rfl, rfl⟩ | exact ⟨[], rfl⟩
        · rw [if_pos hi] at hs
          rw [hF, hs, if_pos hi]
          simp (maxSteps:=999999) -implicitDefEqProofs (disch:=omega) only [push_cast,↓reduceIte,Nat.reduceEqDiff,reduceCtorEq,wz,hρ,aInt,hi]
          first | exact ⟨[], rfl, rfl⟩ | exact ⟨[], rfl⟩
      · simp (maxSteps:=999999) -implicitDefEqProofs (disch:=omega) only [push_cast,↓reduceIte,Nat.reduceEqDiff,reduceCtorEq,wz,hρ]
        obtain rfl : k = l.length := by omega
        rw [List.drop_length] at hs
        exact hE _ _ ⟨by simp (maxSteps:=999999) -implicitDefEqProofs (disch:=omega) only [push_cast,↓reduceIte,Nat.reduceEqDiff,reduceCtorEq,wz,hρ], hs⟩
  clear hρ ε
  rintro ε σ ⟨hρ, hs⟩
  rw [hF, hs]
  obtain ⟨x, hx⟩ := at_lt (l := l) (k := l.length - 1) (by omega)
  have hL : lastE l = if endsX x then 0 else 12 := by unfold lastE; rw [hx]
  have hd := flat_drop aIx_len hx
  have hc0 : (l.flatMap aIx)[(l.length - 1) * 4]? = some (.v (.int .i64 x.op)) := by
    have : ((l.flatMap aIx).drop ((l.length - 1) * 4))[0]? = some (.v (.int .i64 x.op)) := by rw [hd]; rfl
    rwa [List.getElem?_drop, Nat.add_zero] at this
  have tn : ((l.length : Int) - 1).toNat = l.length - 1 := by omega
  simp only [ne_eq, not_true_eq_false, if_false]
  rw [hL]
  by_cases c1 : x.op = 0
  · have e : endsX x = true := by unfold endsX; simp [c1]
    simp (maxSteps:=999999) -implicitDefEqProofs (disch:=omega) only [push_cast,↓reduceIte,Nat.reduceEqDiff,reduceCtorEq,wz,hρ,hIL,tn,hc0,c1,e]
    first | exact ⟨[], rfl, rfl⟩ | exact ⟨[], rfl⟩
  by_cases c2 : x.op = 18
  · have e : endsX x = true := by unfold endsX; simp [c2]
    simp (maxSteps:=999999) -implicitDefEqProofs (disch:=omega) only [push_cast,↓reduceIte,Nat.reduceEqDiff,reduceCtorEq,wz,hρ,hIL,tn,hc0,c1,c2,e]
    first | exact ⟨[], rfl, rfl⟩ | exact ⟨[], rfl⟩
  by_cases c3 : x.op = 25
  · have e : endsX x = true := by unfold endsX; simp [c3]
    simp (maxSteps:=999999) -implicitDefEqProofs (disch:=omega) only [push_cast,↓reduceIte,Nat.reduceEqDiff,reduceCtorEq,wz,hρ,hIL,tn,hc0,c1,c2,c3,e]
    first | exact ⟨[], rfl, rfl⟩ | exact ⟨[], rfl⟩
  have e : endsX x = false := by unfold endsX; simp [c1, c2, c3]
  simp (maxSteps:=999999) -implicitDefEqProofs (disch:=omega) only [push_cast,↓reduceIte,Nat.reduceEqDiff,reduceCtorEq,wz,hρ,hIL,tn,hc0,c1,c2,c3,e]
  first | exact ⟨[], rfl, rfl⟩ | exact ⟨[], rfl⟩
def S2_forebaylaw04_Own_L1 : SCode :=
  .seq (.seq (.reg (straight [⟨some 8, none, .pur .mov [.tmp 4]⟩, ⟨some 9, none, .pur (.fla 1) [.tmp 1]⟩, ⟨some 10, none, .ld none (.tmp 9)⟩, ⟨some 11, none, .pur (.len false) [.tmp 10]⟩, ⟨some 12, none, .pur (.bin .lss) [.tmp 8, .tmp 11]⟩]) [12])
  (.cond (.tmp 12) (.skip) (.exit 0)))
  (.seq (.block 1 (.reg (.run ⟨some 15, none, .pur (.fla 1) [.tmp 3]⟩ (.run ⟨some 16, none, .ld none (.tmp 15)⟩ (.run ⟨some 18, none, .pur (.fla 1) [.tmp 1]⟩ (.run ⟨some 19, none, .ld none (.tmp 18)⟩ (.run ⟨some 20, none, .pur .mov [.tmp 4]⟩ (.run ⟨some 21, none, .pur (.ixa 1) [.tmp 19, .tmp 20]⟩ (.run ⟨some 22, none, .ld none (.tmp 21)⟩ (.eff ⟨some 17, none, .eff (.bsl 50 4) []⟩ [] (.eff ⟨some 23, none, .eff (.app 50 4 32 [.int .i64 0, .int .i64 0, .int .i64 0, .int .i64 0]) [.tmp 17, .tmp 22]⟩ [⟨some 16, none, .ld none (.tmp 15)⟩] (.eff ⟨some 24, none, .eff (.bsl 70 1) [.tmp 23]⟩ [⟨some 16, none, .ld none (.tmp 15)⟩] (.eff ⟨some 25, none, .eff (.app 70 1 24 [.slice none 0 0]) [.tmp 16, .tmp 24]⟩ [] (.run ⟨some 26, none, .pur (.fla 1) [.tmp 3]⟩ (.eff ⟨none, none, .eff (.st 1) [.tmp 26, .tmp 25]⟩ [] .done))))))))))))) []))
  (.reg (straight [⟨some 13, none, .pur .mov [.tmp 4]⟩, ⟨some 14, none, .pur (.bin .add) [.tmp 13, .const (.int .i64 1)]⟩, ⟨some 4, none, .pur .mov [.tmp 14]⟩]) [4]))
def S2_forebaylaw04_Own : Fun := ⟨28, [2, 0, 1, 4, 12, 3], [.cell 2 (some 2)],
  .seq (.reg (straight [⟨some 1, none, .eff (.box 57) [.tmp 0]⟩, ⟨some 2, none, .eff (.new 57 [.int .i64 0, .slice none 0 0]) []⟩]) [1, 2])
  (.seq (.reg (straight [⟨some 5, none, .pur (.fla 0) [.tmp 1]⟩, ⟨some 6, none, .ld none (.tmp 5)⟩, ⟨some 7, none, .pur (.bld [.int .i64 0, .slice none 0 0] [(0, 1)]) [.tmp 6]⟩, ⟨some 3, none, .eff (.new 57 [.int .i64 0, .slice none 0 0]) []⟩, ⟨none, none, .eff (.st 2) [.tmp 3, .tmp 7]⟩]) [3])
  (.seq (.seq (.reg (straight [⟨some 4, none, .pur .mov [.const (.int .i64 0)]⟩]) [4])
  (.block 0 (.loop S2_forebaylaw04_Own_L1)))
  (.seq (.reg (straight [⟨some 27, none, .ld (some 2) (.tmp 3)⟩, ⟨none, none, .eff (.st 2) [.tmp 2, .tmp 27]⟩]) [])
  (.ret))))⟩
theorem K2_forebaylaw04_Own : (compF Tryd.prog 53).map Fun.slim = some S2_forebaylaw04_Own := by kernel_rfl
/-- Small enough to be walked. -/
def okF (fs : List (List Ix)) : Prop := fs.length ≤ 100000 ∧ ∀ l ∈ fs, l.length ≤ 100000
/-- Not great. -/
def okS (fs : List (List Ix)) : Prop := fs.length ≤ 40 ∧ ∀ l ∈ fs, l.length ≤ 300
theorem okS.ok {fs : List (List Ix)} (h : okS fs) : okF fs := ⟨by have := h.1; omega, fun l hl => by have := h.2 l hl; omega⟩
theorem cellsPr (m : Int) (fs : List (List Ix)) : cellsA (some 2) (aPr m fs) = some (.agg (aPr m fs)) := rfl
set_option maxHeartbeats 4000000 in
theorem prog_Check_a (m : Int) (fs : List (List Ix)) (hf : okF fs) : FnP Tryd.prog 78 [.agg (aPr m fs)] fun a => a = aInt (prgE m fs) := by
  refine fnP_in K_prog_Check mixed rfl (by simp [AV.pureL, AV.pure, aPr_pure]) ?_
  simp only [S_prog_Check]
  obtain ⟨hf1, hf2⟩ := hf
  have hac : (AV.agg (aPr m fs)).cells = aPr m fs := rfl
  have g0 : (aPr m fs)[0]? = some (.v (.int .i64 m)) := rfl
  have g1 : (aPr m fs)[1]? = some (.sl fs.length (fs.map aIxs) .none) := rfl
  refine wpa_seqx (fun ε σ => ε 1 = .ref 0 0 0 ∧ σ[0]? = some (.obj 0 (aPr m fs))) ?_ ?_
  · intro N X R hN
    simp (maxSteps:=999999) -implicitDefEqProofs (disch:=omega) only [push_cast,↓reduceIte,Nat.reduceEqDiff,reduceCtorEq,wz]
    refine wpa_box ?_
    simp (maxSteps:=999999) -implicitDefEqProofs (disch:=omega) only [push_cast,↓reduceIte,Nat.reduceEqDiff,reduceCtorEq,wz,hac]
    exact hN _ _ ⟨by simp (maxSteps:=999999) -implicitDefEqProofs (disch:=omega) only [push_cast,↓reduceIte,Nat.reduceEqDiff,reduceCtorEq,wz], rfl⟩
  rintro ε σ ⟨hρ, hs⟩
  refine wpa_seq (fun ε σ => ε 1 = .ref 0 0 0 ∧ σ[0]? = some (.obj 0 (aPr m fs)) ∧ prgE m fs = fnsE fs.length fs) ?_ ?_
  · intro N hN
    simp (maxSteps:=999999) -implicitDefEqProofs (disch:=omega) only [push_cast,↓reduceIte,Nat.reduceEqDiff,reduceCtorEq,wz,hρ,hs,g0,g1]
    refine wpa_call (prog_sizes_a m fs.length) ?_
    rintro a rfl
    by_cases hm : m < 0 ∨ 256 < m
    · have e : prgE m fs = 3 := by unfold prgE; rw [if_pos hm]
      rw [if_pos hm, e]
      simp (maxSteps:=999999) -implicitDefEqProofs (disch:=omega) only [push_cast,↓reduceIte,Nat.reduceEqDiff,reduceCtorEq,wz,aInt]
      first | exact ⟨[], rfl, rfl⟩ | exact ⟨[], rfl⟩
    · rw [if_neg hm]
      by_cases hz : manyE fs.length 16 = 0
      · have e : prgE m fs = fnsE fs.length fs := by unfold prgE; rw [if_neg hm, if_neg (by simp [hz])]
        simp (maxSteps:=999999) -implicitDefEqProofs (disch:=omega) only [push_cast,↓reduceIte,Nat.reduceEqDiff,reduceCtorEq,wz,aInt,hz]
        exact hN _ _ ⟨by simp (maxSteps:=999999) -implicitDefEqProofs (disch:=omega) only [push_cast,↓reduceIte,Nat.reduceEqDiff,reduceCtorEq,wz,hρ], hs, e⟩
      · have e : prgE m fs = manyE fs.length 16 := by unfold prgE; rw [if_neg hm, if_pos hz]
        rw [e]
        simp (maxSteps:=999999) -implicitDefEqProofs (disch:=omega) only [push_cast,↓reduceIte,Nat.reduceEqDiff,reduceCtorEq,wz,aInt,hz]
        first | exact ⟨[], rfl, rfl⟩ | exact ⟨[], rfl⟩
  clear hρ hs ε σ
  rintro ε σ ⟨hρ, hs, hP⟩
  rw [hP]
  refine wpa_seq (fun ε σ => fnsE fs.length fs = 0) ?_ ?_
  · intro N hN
    simp (maxSteps:=999999) -implicitDefEqProofs (disch:=omega) only [push_cast,↓reduceIte,Nat.reduceEqDiff,reduceCtorEq,wz,hρ,hs,g1]
    refine wpa_bl (α := Nat) (I := fun k ε σ => (ε 1 = .ref 0 0 0 ∧ ε 17 = .sl fs.length (fs.map aIxs) .none ∧ ε 18 = .v (.int .i64 fs.length) ∧ ε 19 = .v (.int .i64 k)) ∧ k ≤ fs.length ∧ σ[0]? = some (.obj 0 (aPr m fs)) ∧ fnsE fs.length fs = fnsE fs.length (fs.drop k))
      (μ := fun k => fs.length - k) (Q := fun ε σ => fnsE fs.length fs = 0) (x := 0) ?_ ?_ hN
    · simp (maxSteps:=999999) -implicitDefEqProofs (disch:=omega) only [push_cast,↓reduceIte,Nat.reduceEqDiff,reduceCtorEq,wz,hρ]
      exact ⟨by omega, hs⟩
    · clear hN N hρ hs ε σ
      rintro k ε σ N E ⟨hρ, hk, hs, hd⟩ hN hE
      simp only [S_prog_Check_L1]
      by_cases hlt : k < fs.length
      · obtain ⟨l, hl⟩ := at_lt hlt
        rw [drop_at hl] at hd
        simp only [fnsE] at hd
        simp (maxSteps:=999999) -implicitDefEqProofs (disch:=omega) only [push_cast,↓reduceIte,Nat.reduceEqDiff,reduceCtorEq,wz,hρ,hl,hs,g1]
        refine wpa_call (prog_function_a l fs.length (hf2 l (List.mem_of_getElem? hl))) ?_
        rintro a rfl
        by_cases hz : fnE l fs.length = 0
        · rw [if_neg (by simp [hz])] at hd
          simp (maxSteps:=999999) -implicitDefEqProofs (disch:=omega) only [push_cast,↓reduceIte,Nat.reduceEqDiff,reduceCtorEq,wz,hρ,aInt,hz]
          exact hN (k + 1) _ _ ⟨by simp (maxSteps:=999999) -implicitDefEqProofs (disch:=omega) only [push_cast,↓reduceIte,Nat.reduceEqDiff,reduceCtorEq,wz,hρ], by omega, hs, hd⟩ (by omega)
        · rw [if_pos hz] at hd
          rw [hd]
          simp (maxSteps:=999999) -implicitDefEqProofs (disch:=omega) only [push_cast,↓reduceIte,Nat.reduceEqDiff,reduceCtorEq,wz,hρ,aInt,hz]
          first | exact ⟨[], rfl, rfl⟩ | exact ⟨[], rfl⟩
      · simp (maxSteps:=999999) -implicitDefEqProofs (disch:=omega) only [push_cast,↓reduceIte,Nat.reduceEqDiff,reduceCtorEq,wz,hρ]
        obtain rfl : k = fs.length := by omega
        rw [List.drop_length] at hd
        exact hE _ _ hd
  rintro ε σ h
  rw [h]
  simp (maxSteps:=999999) -implicitDefEqProofs (disch:=omega) only [push_cast,↓reduceIte,Nat.reduceEqDiff,reduceCtorEq,wz]
  first | exact ⟨[], rfl, rfl⟩ | exact ⟨[], rfl⟩
set_option maxHeartbeats 16000000 in
theorem ref04_Check_a (m : Int) (fs : List (List Ix)) (hf : okF fs) : FnP Tryd.prog 79 [.agg (aPr m fs)] fun a => a = aInt (prgE m fs) := by
  refine fnP_in K_forebayref04_Check mixed rfl (by simp [AV.pureL, AV.pure, aPr_pure]) ?_
  simp only [S_forebayref04_Check]
  obtain ⟨hf1, hf2⟩ := hf
  have hac : (AV.agg (aPr m fs)).cells = aPr m fs := rfl
  have g0 : (aPr m fs)[0]? = some (.v (.int .i64 m)) := rfl
  have g1 : (aPr m fs)[1]? = some (.sl fs.length (fs.map aIxs) .none) := rfl
  refine wpa_seqx (fun ε σ => ε 1 = .ref 0 0 0 ∧ σ[0]? = some (.obj 0 (aPr m fs))) ?_ ?_
  · intro N X R hN
    simp (maxSteps:=999999) -implicitDefEqProofs (disch:=omega) only [push_cast,↓reduceIte,Nat.reduceEqDiff,reduceCtorEq,wz]
    refine wpa_box ?_
    simp (maxSteps:=999999) -implicitDefEqProofs (disch:=omega) only [push_cast,↓reduceIte,Nat.reduceEqDiff,reduceCtorEq,wz,hac]
    exact hN _ _ ⟨by simp (maxSteps:=999999) -implicitDefEqProofs (disch:=omega) only [push_cast,↓reduceIte,Nat.reduceEqDiff,reduceCtorEq,wz], rfl⟩
  rintro ε σ ⟨hρ, hs⟩
  refine wpa_seq (fun ε σ => ε 1 = .ref 0 0 0 ∧ σ[0]? = some (.obj 0 (aPr m fs)) ∧ ¬ (m < 0 ∨ 256 < m)) ?_ ?_
  · intro N hN
    by_cases c1 : m < 0
    · have e : prgE m fs = 3 := by unfold prgE; rw [if_pos (.inl c1)]
      rw [e]
      simp (maxSteps:=999999) -implicitDefEqProofs (disch:=omega) only [push_cast,↓reduceIte,Nat.reduceEqDiff,reduceCtorEq,wz,hρ,hs,g0,c1]
      first | exact ⟨[], rfl, rfl⟩ | exact ⟨[], rfl⟩
    by_cases c2 : 256 < m
    · have e : prgE m fs = 3 := by unfold prgE; rw [if_pos (.inr c2)]
      rw [e]
      simp (maxSteps:=999999) -implicitDefEqProofs (disch:=omega) only [push_cast,↓reduceIte,Nat.reduceEqDiff,reduceCtorEq,wz,hρ,hs,g0,c1,c2]
      first | exact ⟨[], rfl, rfl⟩ | exact ⟨[], rfl⟩
    simp (maxSteps:=999999) -implicitDefEqProofs (disch:=omega) only [push_cast,↓reduceIte,Nat.reduceEqDiff,reduceCtorEq,wz,hρ,hs,g0,c1,c2]
    exact hN _ _ ⟨by simp (maxSteps:=999999) -implicitDefEqProofs (disch:=omega) only [push_cast,↓reduceIte,Nat.reduceEqDiff,reduceCtorEq,wz,hρ], hs, by omega⟩
  clear hρ hs ε σ
  rintro ε σ ⟨hρ, hs, hm⟩
  refine wpa_seqx (fun ε σ => (ε 1 = .ref 0 0 0 ∧ ε 3 = aInt (manyE fs.length 16)) ∧ σ[0]? = some (.obj 0 (aPr m fs))) ?_ ?_
  · intro N X R hN
    simp (maxSteps:=999999) -implicitDefEqProofs (disch:=omega) only [push_cast,↓reduceIte,Nat.reduceEqDiff,reduceCtorEq,wz,hρ,hs,g1]
    refine wpa_call (ref04_many_a fs.length 16) ?_
    rintro a rfl
    simp (maxSteps:=999999) -implicitDefEqProofs (disch:=omega) only [push_cast,↓reduceIte,Nat.reduceEqDiff,reduceCtorEq,wz,aInt]
    exact hN _ _ ⟨by simp (maxSteps:=999999) -implicitDefEqProofs (disch:=omega) only [push_cast,↓reduceIte,Nat.reduceEqDiff,reduceCtorEq,wz,hρ,aInt], hs⟩
  clear hρ hs ε σ
  rintro ε σ ⟨hρ, hs⟩
  refine wpa_seq (fun ε σ => ε 1 = .ref 0 0 0 ∧ σ[0]? = some (.obj 0 (aPr m fs)) ∧ prgE m fs = fnsE fs.length fs) ?_ ?_
  · intro N hN
    by_cases hz : manyE fs.length 16 = 0
    · have e : prgE m fs = fnsE fs.length fs := by unfold prgE; rw [if_neg hm, if_neg (by simp [hz])]
      simp (maxSteps:=999999) -implicitDefEqProofs (disch:=omega) only [push_cast,↓reduceIte,Nat.reduceEqDiff,reduceCtorEq,wz,hρ,aInt,hz]
      exact hN _ _ ⟨by simp (maxSteps:=999999) -implicitDefEqProofs (disch:=omega) only [push_cast,↓reduceIte,Nat.reduceEqDiff,reduceCtorEq,wz,hρ], hs, e⟩
    · have e : prgE m fs = manyE fs.length 16 := by unfold prgE; rw [if_neg hm, if_pos hz]
      rw [e]
      simp (maxSteps:=999999) -implicitDefEqProofs (disch:=omega) only [push_cast,↓reduceIte,Nat.reduceEqDiff,reduceCtorEq,wz,hρ,aInt,hz]
      first | exact ⟨[], rfl, rfl⟩ | exact ⟨[], rfl⟩
  clear hρ hs ε σ
  rintro ε σ ⟨hρ, hs, hP⟩
  rw [hP]
  refine wpa_seq (fun ε σ => fnsE fs.length fs = 0) ?_ ?_
  · intro N hN
    simp (maxSteps:=999999) -implicitDefEqProofs (disch:=omega) only [push_cast,↓reduceIte,Nat.reduceEqDiff,reduceCtorEq,wz]
    refine wpa_bl (α := Nat) (I := fun k ε σ => (ε 1 = .ref 0 0 0 ∧ ε 4 = .v (.int .i64 k)) ∧ k ≤ fs.length ∧ σ[0]? = some (.obj 0 (aPr m fs)) ∧ fnsE fs.length fs = fnsE fs.length (fs.drop k))
      (μ := fun k => fs.length - k) (Q := fun ε σ => fnsE fs.length fs = 0) (x := 0) ?_ ?_ hN
    · simp (maxSteps:=999999) -implicitDefEqProofs (disch:=omega) only [push_cast,↓reduceIte,Nat.reduceEqDiff,reduceCtorEq,wz,hρ]
      exact ⟨by omega, hs⟩
    · clear hN N hρ hs ε σ
      rintro k ε σ N E ⟨hρ, hk, hs, hd⟩ hN hE
      simp only [S_forebayref04_Check_L1]
      by_cases hlt : k < fs.length
      · obtain ⟨l, hl⟩ := at_lt hlt
        have hll := hf2 l (List.mem_of_getElem? hl)
        have hIL : aIxs l = .sl l.length (l.flatMap aIx) .none := rfl
        rw [drop_at hl] at hd
        simp only [fnsE] at hd
        have hnext : fnE l fs.length = 0 → ∀ ε' σ', (ε' 1 = .ref 0 0 0 ∧ ε' 4 = .v (.int .i64 (k + 1 : Nat))) → σ'[0]? = some (.obj 0 (aPr m fs)) → act (N ε' σ') := by
          intro hz ε' σ' h1 h2
          rw [if_neg (by simp [hz])] at hd
          exact hN (k + 1) ε' σ' ⟨h1, by omega, h2, hd⟩ (by omega)
        have hbad : ∀ v : Int, v ≠ 0 → fnE l fs.length = v → fnsE fs.length fs = v := by
          intro v hv e
          rw [hd, e, if_pos hv]
        clear hN hE hd
        refine wpa_seq (fun ε σ => (ε 1 = .ref 0 0 0 ∧ ε 4 = .v (.int .i64 k)) ∧ σ[0]? = some (.obj 0 (aPr m fs))) ?_ ?_
        · intro N2 hN2
          simp (maxSteps:=999999) -implicitDefEqProofs (disch:=omega) only [push_cast,↓reduceIte,Nat.reduceEqDiff,reduceCtorEq,wz,hρ,hs,g1]
          exact hN2 _ _ ⟨by simp (maxSteps:=999999) -implicitDefEqProofs (disch:=omega) only [push_cast,↓reduceIte,Nat.reduceEqDiff,reduceCtorEq,wz,hρ], hs⟩
        clear hρ hs ε σ
        rintro ε σ ⟨hρ, hs⟩
        refine wpa_seq (fun ε σ => (ε 1 = .ref 0 0 0 ∧ ε 4 = .v (.int .i64 k)) ∧ σ[0]? = some (.obj 0 (aPr m fs)) ∧ fnE l fs.length = 0) ?_ ?_
        · intro N2 hN2
          refine wpa_blk fun X' _ => ?_
          refine wpa_seqx (fun ε σ => (ε 1 = .ref 0 0 0 ∧ ε 4 = .v (.int .i64 k) ∧ ε 5 = aIxs l) ∧ σ[0]? = some (.obj 0 (aPr m fs))) ?_ ?_
          · intro N3 X3 R3 hN3
            simp (maxSteps:=999999) -implicitDefEqProofs (disch:=omega) only [push_cast,↓reduceIte,Nat.reduceEqDiff,reduceCtorEq,wz,hρ,hs,g1,hl]
            exact hN3 _ _ ⟨by simp (maxSteps:=999999) -implicitDefEqProofs (disch:=omega) only [push_cast,↓reduceIte,Nat.reduceEqDiff,reduceCtorEq,wz,hρ], hs⟩
          clear hρ hs ε σ
          rintro ε σ ⟨hρ, hs⟩
          refine wpa_seqx (fun ε σ => (ε 1 = .ref 0 0 0 ∧ ε 4 = .v (.int .i64 k) ∧ ε 5 = aIxs l ∧ ε 6 = .v (.int .i64 (manyE l.length 200))) ∧ σ[0]? = some (.obj 0 (aPr m fs))) ?_ ?_
          · intro N3 X3 R3 hN3
            simp (maxSteps:=999999) -implicitDefEqProofs (disch:=omega) only [push_cast,↓reduceIte,Nat.reduceEqDiff,reduceCtorEq,wz,hρ,hIL]
            refine wpa_call (ref04_many_a l.length 200) ?_
            rintro a rfl
            simp (maxSteps:=999999) -implicitDefEqProofs (disch:=omega) only [push_cast,↓reduceIte,Nat.reduceEqDiff,reduceCtorEq,wz,aInt]
            exact hN3 _ _ ⟨by simp (maxSteps:=999999) -implicitDefEqProofs (disch:=omega) only [push_cast,↓reduceIte,Nat.reduceEqDiff,reduceCtorEq,wz,hρ,hIL], hs⟩
          clear hρ hs ε σ
          rintro ε σ ⟨hρ, hs⟩
          refine wpa_seq (fun ε σ => (ε 1 = .ref 0 0 0 ∧ ε 4 = .v (.int .i64 k) ∧ ε 5 = aIxs l) ∧ σ[0]? = some (.obj 0 (aPr m fs)) ∧ manyE l.length 200 = 0) ?_ ?_
          · intro N3 hN3
            by_cases hz : manyE l.length 200 = 0
            · simp (maxSteps:=999999) -implicitDefEqProofs (disch:=omega) only [push_cast,↓reduceIte,Nat.reduceEqDiff,reduceCtorEq,wz,hρ,hz]
              exact hN3 _ _ ⟨by simp (maxSteps:=999999) -implicitDefEqProofs (disch:=omega) only [push_cast,↓reduceIte,Nat.reduceEqDiff,reduceCtorEq,wz,hρ], hs, hz⟩
            · rw [hbad (manyE l.length 200) hz (by unfold fnE; rw [if_pos hz])]
              simp (maxSteps:=999999) -implicitDefEqProofs (disch:=omega) only [push_cast,↓reduceIte,Nat.reduceEqDiff,reduceCtorEq,wz,hρ,hz]
              first | exact ⟨[], rfl, rfl⟩ | exact ⟨[], rfl⟩
          clear hρ hs ε σ
          rintro ε σ ⟨hρ, hs, hz⟩
          have hpos : 0 < l.length := by
            unfold manyE at hz
            rcases Nat.eq_zero_or_pos l.length with h | h
            · rw [h] at hz; simp at hz
            · exact h
          have hF : fnE l fs.length = if scanE l.length fs.length l ≠ 0 then scanE l.length fs.length l else lastE l := by unfold fnE; rw [if_neg (by simp [hz])]
          refine wpa_seq (fun ε σ => (ε 1 = .ref 0 0 0 ∧ ε 4 = .v (.int .i64 k) ∧ ε 5 = aIxs l) ∧ σ[0]? = some (.obj 0 (aPr m fs)) ∧ scanE l.length fs.length l = 0) ?_ ?_
          · intro N3 hN3
            simp (maxSteps:=999999) -implicitDefEqProofs (disch:=omega) only [push_cast,↓reduceIte,Nat.reduceEqDiff,reduceCtorEq,wz]
            refine wpa_bl (α := Nat) (I := fun j ε σ => (ε 1 = .ref 0 0 0 ∧ ε 4 = .v (.int .i64 k) ∧ ε 5 = aIxs l ∧ ε 7 = .v (.int .i64 j)) ∧ j ≤ l.length ∧ σ[0]? = some (.obj 0 (aPr m fs)) ∧ scanE l.length fs.length l = scanE l.length fs.length (l.drop j))
              (μ := fun j => l.length - j) (Q := fun ε σ => (ε 1 = .ref 0 0 0 ∧ ε 4 = .v (.int .i64 k) ∧ ε 5 = aIxs l) ∧ σ[0]? = some (.obj 0 (aPr m fs)) ∧ scanE l.length fs.length l = 0) (x := 0) ?_ ?_ hN3
            · simp (maxSteps:=999999) -implicitDefEqProofs (disch:=omega) only [push_cast,↓reduceIte,Nat.reduceEqDiff,reduceCtorEq,wz,hρ,hIL]
              exact ⟨by omega, hs⟩
            · clear hN3 N3 hρ hs ε σ
              rintro j ε σ N E ⟨hρ, hj, hs, hsc⟩ hN hE
              simp only [S_forebayref04_Check_L2]
              by_cases hlj : j < l.length
              · obtain ⟨x, hx⟩ := at_lt hlj
                have hd := flat_drop aIx_len hx
                have hc0 : (l.flatMap aIx)[j * 4]? = some (.v (.int .i64 x.op)) := by
                  have : ((l.flatMap aIx).drop (j * 4))[0]? = some (.v (.int .i64 x.op)) := by rw [hd]; rfl
                  rwa [List.getElem?_drop, Nat.add_zero] at this
                have hc1 : (l.flatMap aIx)[j * 4 + 1]? = some (.v (.int .i64 x.a)) := by rw [← List.getElem?_drop, hd]; rfl
                have hc2 : (l.flatMap aIx)[j * 4 + 2]? = some (.v (.int .i64 x.b)) := by rw [← List.getElem?_drop, hd]; rfl
                rw [drop_at hx] at hsc
                simp only [scanE] at hsc
                refine wpa_seq (fun ε σ => (ε 1 = .ref 0 0 0 ∧ ε 4 = .v (.int .i64 k) ∧ ε 5 = aIxs l ∧ ε 7 = .v (.int .i64 j)) ∧ σ[0]? = some (.obj 0 (aPr m fs))) ?_ ?_
                · intro N4 hN4
                  simp (maxSteps:=999999) -implicitDefEqProofs (disch:=omega) only [push_cast,↓reduceIte,Nat.reduceEqDiff,reduceCtorEq,wz,hρ,hIL]
                  exact hN4 _ _ ⟨by simp (maxSteps:=999999) -implicitDefEqProofs (disch:=omega) only [push_cast,↓reduceIte,Nat.reduceEqDiff,reduceCtorEq,wz,hρ,hIL], hs⟩
                clear hρ hs ε σ
                rintro ε σ ⟨hρ, hs⟩
                refine wpa_seq (fun ε σ => (ε 1 = .ref 0 0 0 ∧ ε 4 = .v (.int .i64 k) ∧ ε 5 = aIxs l ∧ ε 7 = .v (.int .i64 j)) ∧ σ[0]? = some (.obj 0 (aPr m fs)) ∧ scanE l.length fs.length l = scanE l.length fs.length (l.drop (j + 1))) ?_ ?_
                · intro N4 hN4
                  refine wpa_blk fun X'' _ => ?_
                  refine wpa_seqx (fun ε σ => (ε 1 = .ref 0 0 0 ∧ ε 4 = .v (.int .i64 k) ∧ ε 5 = aIxs l ∧ ε 7 = .v (.int .i64 j) ∧ ε 8 = .v (.int .i64 (insE x))) ∧ σ[0]? = some (.obj 0 (aPr m fs))) ?_ ?_
                  · intro N3 X3 R3 hN3
                    simp (maxSteps:=999999) -implicitDefEqProofs (disch:=omega) only [push_cast,↓reduceIte,Nat.reduceEqDiff,reduceCtorEq,wz,hρ,hIL,hd,cellsIx]
                    refine wpa_call (ref03_Check_a x) ?_
                    rintro a rfl
                    simp (maxSteps:=999999) -implicitDefEqProofs (disch:=omega) only [push_cast,↓reduceIte,Nat.reduceEqDiff,reduceCtorEq,wz,aInt]
                    exact hN3 _ _ ⟨by simp (maxSteps:=999999) -implicitDefEqProofs (disch:=omega) only [push_cast,↓reduceIte,Nat.reduceEqDiff,reduceCtorEq,wz,hρ,hIL], hs⟩
                  clear hρ hs ε σ
                  rintro ε σ ⟨hρ, hs⟩
                  refine wpa_seq (fun ε σ => (ε 1 = .ref 0 0 0 ∧ ε 4 = .v (.int .i64 k) ∧ ε 5 = aIxs l ∧ ε 7 = .v (.int .i64 j)) ∧ σ[0]? = some (.obj 0 (aPr m fs)) ∧ insE x = 0) ?_ ?_
                  · intro N5 hN5
                    by_cases hi : insE x = 0
                    · simp (maxSteps:=999999) -implicitDefEqProofs (disch:=omega) only [push_cast,↓reduceIte,Nat.reduceEqDiff,reduceCtorEq,wz,hρ,hi]
                      exact hN5 _ _ ⟨by simp (maxSteps:=999999) -implicitDefEqProofs (disch:=omega) only [push_cast,↓reduceIte,Nat.reduceEqDiff,reduceCtorEq,wz,hρ], hs, hi⟩
                    · rw [if_pos hi] at hsc
                      rw [hbad (insE x) hi (by rw [hF, hsc, if_pos hi])]
                      simp (maxSteps:=999999) -implicitDefEqProofs (disch:=omega) only [push_cast,↓reduceIte,Nat.reduceEqDiff,reduceCtorEq,wz,hρ,hi]
                      first | exact ⟨[], rfl, rfl⟩ | exact ⟨[], rfl⟩
                  clear hρ hs ε σ
                  rintro ε σ ⟨hρ, hs, hi⟩
                  rw [if_neg (by simp [hi])] at hsc
                  have hbad2 : leadB x l.length fs.length = false → fnsE fs.length fs = 11 := fun hb => by
                    rw [if_pos hb] at hsc
                    exact hbad 11 (by decide) (by rw [hF, hsc, if_pos (by decide)])
                  have hgood : leadB x l.length fs.length = true → scanE l.length fs.length l = scanE l.length fs.length (l.drop (j + 1)) := fun hb => by
                    rw [if_neg (by simp [hb])] at hsc
                    exact hsc
                  clear hsc
                  by_cases c1 : x.op = 18
                  · have hL : leadB x l.length fs.length = decide (x.a < l.length) := by unfold leadB; rw [if_pos c1]
                    by_cases d : x.a < l.length
                    · simp (maxSteps:=999999) -implicitDefEqProofs (disch:=omega) only [push_cast,↓reduceIte,Nat.reduceEqDiff,reduceCtorEq,wz,hρ,hIL,hc0,hc1,c1,d]
                      exact hN4 _ _ ⟨by simp (maxSteps:=999999) -implicitDefEqProofs (disch:=omega) only [push_cast,↓reduceIte,Nat.reduceEqDiff,reduceCtorEq,wz,hρ,hIL], hs, hgood (by rw [hL]; simpa using d)⟩
                    · rw [hbad2 (by rw [hL]; simpa using d)]
                      simp (maxSteps:=999999) -implicitDefEqProofs (disch:=omega) only [push_cast,↓reduceIte,Nat.reduceEqDiff,reduceCtorEq,wz,hρ,hIL,hc0,hc1,c1,d]
                      first | exact ⟨[], rfl, rfl⟩ | exact ⟨[], rfl⟩
                  by_cases c2 : x.op = 19
                  · have hL : leadB x l.length fs.length = decide (x.b < l.length) := by unfold leadB; rw [if_neg c1, if_pos c2]
                    by_cases d : x.b < l.length
                    · simp (maxSteps:=999999) -implicitDefEqProofs (disch:=omega) only [push_cast,↓reduceIte,Nat.reduceEqDiff,reduceCtorEq,wz,hρ,hIL,hc0,hc1,hc2,c1,c2,d]
                      exact hN4 _ _ ⟨by simp (maxSteps:=999999) -implicitDefEqProofs (disch:=omega) only [push_cast,↓reduceIte,Nat.reduceEqDiff,reduceCtorEq,wz,hρ,hIL], hs, hgood (by rw [hL]; simpa using d)⟩
                    · rw [hbad2 (by rw [hL]; simpa using d)]
                      simp (maxSteps:=999999) -implicitDefEqProofs (disch:=omega) only [push_cast,↓reduceIte,Nat.reduceEqDiff,reduceCtorEq,wz,hρ,hIL,hc0,hc1,hc2,c1,c2,d]
                      first | exact ⟨[], rfl, rfl⟩ | exact ⟨[], rfl⟩
                  by_cases c3 : x.op = 20
                  · have hL : leadB x l.length fs.length = decide (x.a < fs.length) := by unfold leadB; rw [if_neg c1, if_neg c2, if_pos (.inl c3)]
                    by_cases d : x.a < fs.length
                    · simp (maxSteps:=999999) -implicitDefEqProofs (disch:=omega) only [push_cast,↓reduceIte,Nat.reduceEqDiff,reduceCtorEq,wz,hρ,hIL,hc0,hc1,hc2,c1,c2,c3,d,hs,g1]
                      exact hN4 _ _ ⟨by simp (maxSteps:=999999) -implicitDefEqProofs (disch:=omega) only [push_cast,↓reduceIte,Nat.reduceEqDiff,reduceCtorEq,wz,hρ,hIL], hs, hgood (by rw [hL]; simpa using d)⟩
                    · rw [hbad2 (by rw [hL]; simpa using d)]
                      simp (maxSteps:=999999) -implicitDefEqProofs (disch:=omega) only [push_cast,↓reduceIte,Nat.reduceEqDiff,reduceCtorEq,wz,hρ,hIL,hc0,hc1,hc2,c1,c2,c3,d,hs,g1]
                      first | exact ⟨[], rfl, rfl⟩ | exact ⟨[], rfl⟩
                  by_cases c4 : x.op = 22
                  · have hL : leadB x l.length fs.length = decide (x.a < fs.length) := by unfold leadB; rw [if_neg c1, if_neg c2, if_pos (.inr c4)]
                    by_cases d : x.a < fs.length
                    · simp (maxSteps:=999999) -implicitDefEqProofs (disch:=omega) only [push_cast,↓reduceIte,Nat.reduceEqDiff,reduceCtorEq,wz,hρ,hIL,hc0,hc1,hc2,c1,c2,c3,c4,d,hs,g1]
                      exact hN4 _ _ ⟨by simp (maxSteps:=999999) -implicitDefEqProofs (disch:=omega) only [push_cast,↓reduceIte,Nat.reduceEqDiff,reduceCtorEq,wz,hρ,hIL], hs, hgood (by rw [hL]; simpa using d)⟩
                    · rw [hbad2 (by rw [hL]; simpa using d)]
                      simp (maxSteps:=999999) -implicitDefEqProofs (disch:=omega) only [push_cast,↓reduceIte,Nat.reduceEqDiff,reduceCtorEq,wz,hρ,hIL,hc0,hc1,hc2,c1,c2,c3,c4,d,hs,g1]
                      first | exact ⟨[], rfl, rfl⟩ | exact ⟨[], rfl⟩
                  have hL : leadB x l.length fs.length = true := by unfold leadB; rw [if_neg c1, if_neg c2, if_neg (by omega)]
                  simp (maxSteps:=999999) -implicitDefEqProofs (disch:=omega) only [push_cast,↓reduceIte,Nat.reduceEqDiff,reduceCtorEq,wz,hρ,hIL,hc0,hc1,hc2,c1,c2,c3,c4,hs,g1]
                  exact hN4 _ _ ⟨by simp (maxSteps:=999999) -implicitDefEqProofs (disch:=omega) only [push_cast,↓reduceIte,Nat.reduceEqDiff,reduceCtorEq,wz,hρ,hIL], hs, hgood hL⟩
                clear hρ hs ε σ
                rintro ε σ ⟨hρ, hs, hsc2⟩
                simp (maxSteps:=999999) -implicitDefEqProofs (disch:=omega) only [push_cast,↓reduceIte,Nat.reduceEqDiff,reduceCtorEq,wz,hρ]
                exact hN (j + 1) _ _ ⟨by simp (maxSteps:=999999) -implicitDefEqProofs (disch:=omega) only [push_cast,↓reduceIte,Nat.reduceEqDiff,reduceCtorEq,wz,hρ], by omega, hs, hsc2⟩ (by omega)
              · simp (maxSteps:=999999) -implicitDefEqProofs (disch:=omega) only [push_cast,↓reduceIte,Nat.reduceEqDiff,reduceCtorEq,wz,hρ,hIL]
                obtain rfl : j = l.length := by omega
                rw [List.drop_length] at hsc
                exact hE _ _ ⟨by simp (maxSteps:=999999) -implicitDefEqProofs (disch:=omega) only [push_cast,↓reduceIte,Nat.reduceEqDiff,reduceCtorEq,wz,hρ,hIL], hs, hsc⟩
          clear hρ hs ε σ
          rintro ε σ ⟨hρ, hs, hsc⟩
          rw [hsc] at hF
          simp only [ne_eq, not_true_eq_false, if_false] at hF
          obtain ⟨x, hx⟩ := at_lt (l := l) (k := l.length - 1) (by omega)
          have hL : lastE l = if endsX x then 0 else 12 := by unfold lastE; rw [hx]
          have hd := flat_drop aIx_len hx
          have hc0 : (l.flatMap aIx)[(l.length - 1) * 4]? = some (.v (.int .i64 x.op)) := by
            have : ((l.flatMap aIx).drop ((l.length - 1) * 4))[0]? = some (.v (.int .i64 x.op)) := by rw [hd]; rfl
            rwa [List.getElem?_drop, Nat.add_zero] at this
          have tn : ((l.length : Int) - 1).toNat = l.length - 1 := by omega
          by_cases c1 : x.op = 0
          · have e : endsX x = true := by unfold endsX; simp [c1]
            simp (maxSteps:=999999) -implicitDefEqProofs (disch:=omega) only [push_cast,↓reduceIte,Nat.reduceEqDiff,reduceCtorEq,wz,hρ,hIL,tn,hc0,c1]
            exact hN2 _ _ ⟨by simp (maxSteps:=999999) -implicitDefEqProofs (disch:=omega) only [push_cast,↓reduceIte,Nat.reduceEqDiff,reduceCtorEq,wz,hρ], hs, by rw [hF, hL, e]; rfl⟩
          by_cases c2 : x.op = 18
          · have e : endsX x = true := by unfold endsX; simp [c2]
            simp (maxSteps:=999999) -implicitDefEqProofs (disch:=omega) only [push_cast,↓reduceIte,Nat.reduceEqDiff,reduceCtorEq,wz,hρ,hIL,tn,hc0,c1,c2]
            exact hN2 _ _ ⟨by simp (maxSteps:=999999) -implicitDefEqProofs (disch:=omega) only [push_cast,↓reduceIte,Nat.reduceEqDiff,reduceCtorEq,wz,hρ], hs, by rw [hF, hL, e]; rfl⟩
          by_cases c3 : x.op = 25
          · have e : endsX x = true := by unfold endsX; simp [c3]
            simp (maxSteps:=999999) -implicitDefEqProofs (disch:=omega) only [push_cast,↓reduceIte,Nat.reduceEqDiff,reduceCtorEq,wz,hρ,hIL,tn,hc0,c1,c2,c3]
            exact hN2 _ _ ⟨by simp (maxSteps:=999999) -implicitDefEqProofs (disch:=omega) only [push_cast,↓reduceIte,Nat.reduceEqDiff,reduceCtorEq,wz,hρ], hs, by rw [hF, hL, e]; rfl⟩
          have e : endsX x = false := by unfold endsX; simp [c1, c2, c3]
          rw [hbad 12 (by decide) (by rw [hF, hL, e]; rfl)]
          simp (maxSteps:=999999) -implicitDefEqProofs (disch:=omega) only [push_cast,↓reduceIte,Nat.reduceEqDiff,reduceCtorEq,wz,hρ,hIL,tn,hc0,c1,c2,c3]
          first | exact ⟨[], rfl, rfl⟩ | exact ⟨[], rfl⟩
        clear hρ hs ε σ
        rintro ε σ ⟨hρ, hs, hz⟩
        simp (maxSteps:=999999) -implicitDefEqProofs (disch:=omega) only [push_cast,↓reduceIte,Nat.reduceEqDiff,reduceCtorEq,wz,hρ]
        exact hnext hz _ _ (by simp (maxSteps:=999999) -implicitDefEqProofs (disch:=omega) only [push_cast,↓reduceIte,Nat.reduceEqDiff,reduceCtorEq,wz,hρ]) hs
      · simp (maxSteps:=999999) -implicitDefEqProofs (disch:=omega) only [push_cast,↓reduceIte,Nat.reduceEqDiff,reduceCtorEq,wz,hρ,hs,g1]
        obtain rfl : k = fs.length := by omega
        rw [List.drop_length] at hd
        exact hE _ _ hd
  rintro ε σ h
  rw [h]
  simp (maxSteps:=999999) -implicitDefEqProofs (disch:=omega) only [push_cast,↓reduceIte,Nat.reduceEqDiff,reduceCtorEq,wz]
  first | exact ⟨[], rfl, rfl⟩ | exact ⟨[], rfl⟩


theorem eqsIx (n : Bool) (x y : Ix) : PF.av (.eqs n [.int .i64, .int .i64, .int .i64, .int .i64]) [.agg (aIx x), .agg (aIx y)] = some (.v (.bool (n != decide (x = y)))) := by
  show ((PF.val (.eqs n [.int .i64, .int .i64, .int .i64, .int .i64]) [.agg [.int .i64 x.op, .int .i64 x.a, .int .i64 x.b, .int .i64 x.c].toArray, .agg [.int .i64 y.op, .int .i64 y.a, .int .i64 y.b, .int .i64 y.c].toArray]).map AV.v) = _
  obtain ⟨p, a, b, c⟩ := x
  obtain ⟨p', a', b', c'⟩ := y
  have h : (decide ((⟨p, a, b, c⟩ : Ix) = ⟨p', a', b', c'⟩)) = (decide (p = p') && (decide (a = a') && (decide (b = b') && decide (c = c')))) := by rw [Bool.eq_iff_iff]; simp
  rw [h]
  simp only [PF.val, eqCs, eqC]
  have k (u v : Int) : (u == v) = decide (u = v) := by rw [Bool.eq_iff_iff]; simp
  simp only [k]
  by_cases h1 : p = p' <;> by_cases h2 : a = a' <;> by_cases h3 : b = b' <;> by_cases h4 : c = c' <;> cases n <;> simp [h1, h2, h3, h4]
set_option maxHeartbeats 8000000 in
theorem law04_Great_a (m : Int) (fs : List (List Ix)) (hl : fs.length ≤ 9223372036854775807) : FnP Tryd.prog 51 [.agg (aPr m fs)] fun a => ∃ b, a = aBool b ∧ (b = false → okS fs) := by
  refine fnP_in K_forebaylaw04_Great mixed rfl (by simp [AV.pureL, AV.pure, aPr_pure]) ?_
  simp only [S_forebaylaw04_Great]
  have hac : (AV.agg (aPr m fs)).cells = aPr m fs := rfl
  have g1 : (aPr m fs)[1]? = some (.sl fs.length (fs.map aIxs) .none) := rfl
  simp (maxSteps:=999999) -implicitDefEqProofs (disch:=omega) only [push_cast,↓reduceIte,Nat.reduceEqDiff,reduceCtorEq,wz]
  refine wpa_box ?_
  by_cases h40 : 40 < fs.length
  · simp (maxSteps:=999999) -implicitDefEqProofs (disch:=omega) only [push_cast,↓reduceIte,Nat.reduceEqDiff,reduceCtorEq,wz,hac,g1,h40]
    exact ⟨[], rfl, true, rfl, by simp⟩
  simp (maxSteps:=999999) -implicitDefEqProofs (disch:=omega) only [push_cast,↓reduceIte,Nat.reduceEqDiff,reduceCtorEq,wz,hac,g1,h40]
  refine wpa_bl (α := Nat) (I := fun k ε σ => (ε 1 = .ref 0 0 0 ∧ ε 3 = .v (.int .i64 k)) ∧ k ≤ fs.length ∧ σ[0]? = some (.obj 0 (aPr m fs)) ∧ ∀ l ∈ fs.take k, l.length ≤ 300)
    (μ := fun k => fs.length - k) (Q := fun ε σ => ∀ l ∈ fs, l.length ≤ 300) (x := 0) ?_ ?_ ?_
  · simp (maxSteps:=999999) -implicitDefEqProofs (disch:=omega) only [push_cast,↓reduceIte,Nat.reduceEqDiff,reduceCtorEq,wz]
    first | exact ⟨by omega, rfl, fun l hl => by simp at hl⟩ | exact ⟨by omega, fun l hl => by simp at hl⟩ | exact fun l hl => by simp at hl
  · rintro k ε σ N E ⟨hρ, hk, hs, hall⟩ hN hE
    simp only [S_forebaylaw04_Great_L1]
    by_cases hlt : k < fs.length
    · obtain ⟨l, hl'⟩ := at_lt hlt
      have hIL : aIxs l = .sl l.length (l.flatMap aIx) .none := rfl
      by_cases h300 : 300 < l.length
      · simp (maxSteps:=999999) -implicitDefEqProofs (disch:=omega) only [push_cast,↓reduceIte,Nat.reduceEqDiff,reduceCtorEq,wz,hρ,hs,g1,hl',hIL,h300]
        exact ⟨[], rfl, true, rfl, by simp⟩
      · simp (maxSteps:=999999) -implicitDefEqProofs (disch:=omega) only [push_cast,↓reduceIte,Nat.reduceEqDiff,reduceCtorEq,wz,hρ,hs,g1,hl',hIL,h300]
        refine hN (k + 1) _ _ ⟨by simp (maxSteps:=999999) -implicitDefEqProofs (disch:=omega) only [push_cast,↓reduceIte,Nat.reduceEqDiff,reduceCtorEq,wz,hρ], by omega, hs, fun x hx => ?_⟩ (by omega)
        rw [take_succ_at hl'] at hx
        rcases List.mem_append.1 hx with hx | hx
        · exact hall x hx
        · simp at hx; subst hx; omega
    · simp (maxSteps:=999999) -implicitDefEqProofs (disch:=omega) only [push_cast,↓reduceIte,Nat.reduceEqDiff,reduceCtorEq,wz,hρ,hs,g1]
      refine hE _ _ ?_
      rw [List.take_of_length_le (by omega)] at hall
      exact hall
  · intro ε σ hall
    simp (maxSteps:=999999) -implicitDefEqProofs (disch:=omega) only [push_cast,↓reduceIte,Nat.reduceEqDiff,reduceCtorEq,wz]
    exact ⟨[], rfl, false, rfl, fun _ => ⟨by omega, hall⟩⟩
set_option maxHeartbeats 8000000 in
theorem law04_Own_a (m : Int) (fs : List (List Ix)) (hf : okF fs) : FnP Tryd.prog 53 [.agg (aPr m fs)] fun a => a = .agg (aPr m fs) := by
  refine ⟨by simp [AV.pureL, AV.pure, aPr_pure], FnG.fz ?_⟩
  refine fnG_in2 K2_forebaylaw04_Own mixed rfl ?_
  simp only [S2_forebaylaw04_Own]
  obtain ⟨hf1, hf2⟩ := hf
  have hac : (AV.agg (aPr m fs)).cells = aPr m fs := rfl
  have g0 : (aPr m fs)[0]? = some (.v (.int .i64 m)) := rfl
  have g1 : (aPr m fs)[1]? = some (.sl fs.length (fs.map aIxs) .none) := rfl
  have hb : fillA [AV.v (.int .i64 0), AV.sl 0 [] .nil] [(0, 1)] [AV.v (.int .i64 m)] = some [AV.v (.int .i64 m), AV.sl 0 [] .nil] := by simp [fillA, AV.cells, Value.cells, setAtA]
  refine wpa_seqx (fun ε σ => (ε 1 = .ref 0 0 0 ∧ ε 2 = .ref 1 0 0) ∧ σ = [.obj 0 (aPr m fs), .obj 0 [.v (.int .i64 0), .sl 0 [] .nil]]) ?_ ?_
  · intro N X R hN
    simp (maxSteps:=999999) -implicitDefEqProofs (disch:=omega) only [push_cast,↓reduceIte,Nat.reduceEqDiff,reduceCtorEq,wz]
    refine wpa_box ?_
    simp (maxSteps:=999999) -implicitDefEqProofs (disch:=omega) only [push_cast,↓reduceIte,Nat.reduceEqDiff,reduceCtorEq,wz,hac]
    refine wpa_new ?_
    simp (maxSteps:=999999) -implicitDefEqProofs (disch:=omega) only [push_cast,↓reduceIte,Nat.reduceEqDiff,reduceCtorEq,wz]
    exact hN _ _ (by simp (maxSteps:=999999) -implicitDefEqProofs (disch:=omega) only [push_cast,↓reduceIte,Nat.reduceEqDiff,reduceCtorEq,wz])
  rintro ε σ ⟨hρ, rfl⟩
  refine wpa_seqx (fun ε σ => (ε 1 = .ref 0 0 0 ∧ ε 2 = .ref 1 0 0 ∧ ε 3 = .ref 2 0 0) ∧ σ = [.obj 0 (aPr m fs), .obj 0 [.v (.int .i64 0), .sl 0 [] .nil], .obj 0 [.v (.int .i64 m), .sl 0 [] .nil]]) ?_ ?_
  · intro N X R hN
    simp (maxSteps:=999999) -implicitDefEqProofs (disch:=omega) only [push_cast,↓reduceIte,Nat.reduceEqDiff,reduceCtorEq,wz,hρ,g0,hb]
    refine wpa_new ?_
    simp (maxSteps:=999999) -implicitDefEqProofs (disch:=omega) only [push_cast,↓reduceIte,Nat.reduceEqDiff,reduceCtorEq,wz]
    refine wpa_stn (cs := [AV.v (.int .i64 0), AV.sl 0 [] .nil]) rfl rfl rfl (by decide) ?_
    have hset : setAtA [AV.v (.int .i64 0), AV.sl 0 [] .nil] 0 [AV.v (.int .i64 m), AV.sl 0 [] .nil] = [AV.v (.int .i64 m), AV.sl 0 [] .nil] := rfl
    rw [hset]
    simp (maxSteps:=999999) -implicitDefEqProofs (disch:=omega) only [push_cast,↓reduceIte,Nat.reduceEqDiff,reduceCtorEq,wz]
    exact hN _ _ (by simp (maxSteps:=999999) -implicitDefEqProofs (disch:=omega) only [push_cast,↓reduceIte,Nat.reduceEqDiff,reduceCtorEq,wz,hρ])
  clear hρ ε
  rintro ε σ ⟨hρ, rfl⟩
  refine wpa_seqx (fun ε σ => (ε 2 = .ref 1 0 0 ∧ ε 3 = .ref 2 0 0) ∧ ∃ w, σ = [.obj 0 (aPr m fs), .obj 0 [.v (.int .i64 0), .sl 0 [] .nil], .obj 0 [.v (.int .i64 m), .sl fs.length (fs.map aIxs) (.id 3 w 1)], .tail w]) ?_ ?_
  · intro N X R hN
    simp (maxSteps:=999999) -implicitDefEqProofs (disch:=omega) only [push_cast,↓reduceIte,Nat.reduceEqDiff,reduceCtorEq,wz,hρ]
    refine wpa_blgx (GU.tokO (i := 2) (j := 1) 1 rfl rfl) (α := Nat) (I := fun k ε σ => (ε 1 = .ref 0 0 0 ∧ ε 2 = .ref 1 0 0 ∧ ε 3 = .ref 2 0 0 ∧ ε 4 = .v (.int .i64 k)) ∧ k ≤ fs.length ∧ ∃ w, σ = [.obj 0 (aPr m fs), .obj 0 [.v (.int .i64 0), .sl 0 [] .nil], .obj 0 [.v (.int .i64 m), .sl k ((fs.take k).map aIxs) (.id 3 w 1)], .tail w])
      (μ := fun k => fs.length - k) (Q := fun ε σ => (ε 2 = .ref 1 0 0 ∧ ε 3 = .ref 2 0 0) ∧ ∃ w, σ = [.obj 0 (aPr m fs), .obj 0 [.v (.int .i64 0), .sl 0 [] .nil], .obj 0 [.v (.int .i64 m), .sl fs.length (fs.map aIxs) (.id 3 w 1)], .tail w]) (x := 0) ?_ ?_ hN
    · simp (maxSteps:=999999) -implicitDefEqProofs (disch:=omega) only [push_cast,↓reduceIte,Nat.reduceEqDiff,reduceCtorEq,wz,hρ]
      exact ⟨by omega, 0, rfl⟩
    · clear hN N X R hρ ε
      rintro k ε σ N E X R ⟨hρ, hk, w, rfl⟩ hN hE
      simp only [S2_forebaylaw04_Own_L1]
      by_cases hlt : k < fs.length
      · obtain ⟨l, hl⟩ := at_lt hlt
        have hll := hf2 l (List.mem_of_getElem? hl)
        have hIL : aIxs l = .sl l.length (l.flatMap aIx) .none := rfl
        have hfl := flat_len aIx_len l
        have hex : (AV.sl k ((fs.take k).map aIxs) (.id 3 w 1)).exact = true := rfl
        have hlk : (fs.take k).length = k := by rw [List.length_take]; omega
        simp (maxSteps:=999999) -implicitDefEqProofs (disch:=omega) only [push_cast,↓reduceIte,Nat.reduceEqDiff,reduceCtorEq,wz,hρ,g1,hl]
        refine wpa_bsl (sz := 4) (by intro a ha; simp at ha) (by simp) ?_
        simp (maxSteps:=999999) -implicitDefEqProofs (disch:=omega) only [push_cast,↓reduceIte,Nat.reduceEqDiff,reduceCtorEq,wz,hIL]
        refine wpa_app_full0 (m := l.length) rfl rfl hfl (by rw [List.all_flatMap]; simp only [show ∀ x, (aIx x).all AV.one = true from fun x => rfl]; simp) rfl (by omega) (by omega) ?_
        simp (maxSteps:=999999) -implicitDefEqProofs (disch:=omega) only [push_cast,↓reduceIte,Nat.reduceEqDiff,reduceCtorEq,wz,hρ]
        refine ⟨aholds_x (by simp (maxSteps:=999999) -implicitDefEqProofs (disch:=omega) only [push_cast,↓reduceIte,Nat.reduceEqDiff,reduceCtorEq,wz,hρ,hex]), ?_⟩
        refine wpa_bsl (sz := 1) (by intro a ha; simp at ha; subst ha; rfl) (by simp) ?_
        simp (maxSteps:=999999) -implicitDefEqProofs (disch:=omega) only [push_cast,↓reduceIte,Nat.reduceEqDiff,reduceCtorEq,wz]
        refine ⟨aholds_x (by simp (maxSteps:=999999) -implicitDefEqProofs (disch:=omega) only [push_cast,↓reduceIte,Nat.reduceEqDiff,reduceCtorEq,wz,hρ,hex]), ?_⟩
        refine wpa_app (m := 1) rfl rfl rfl rfl (by simp; omega) (by omega) (by omega) rfl ?_
        simp (maxSteps:=999999) -implicitDefEqProofs (disch:=omega) only [push_cast,↓reduceIte,Nat.reduceEqDiff,reduceCtorEq,wz,hρ]
        refine wpa_st1 rfl rfl rfl (by simp) ?_
        simp (maxSteps:=999999) -implicitDefEqProofs (disch:=omega) only [push_cast,↓reduceIte,Nat.reduceEqDiff,reduceCtorEq,wz,hρ]
        refine hN (k + 1) _ _ ⟨by simp (maxSteps:=999999) -implicitDefEqProofs (disch:=omega) only [push_cast,↓reduceIte,Nat.reduceEqDiff,reduceCtorEq,wz,hρ], by omega, w + 1, ?_⟩ (by omega)
        rw [take_succ_at hl]
        simp [AV.cells, aIxs, aSlN]
      · simp (maxSteps:=999999) -implicitDefEqProofs (disch:=omega) only [push_cast,↓reduceIte,Nat.reduceEqDiff,reduceCtorEq,wz,hρ,g1]
        obtain rfl : k = fs.length := by omega
        rw [List.take_length]
        exact hE _ _ ⟨by simp (maxSteps:=999999) -implicitDefEqProofs (disch:=omega) only [push_cast,↓reduceIte,Nat.reduceEqDiff,reduceCtorEq,wz,hρ], w, rfl⟩
  clear hρ ε
  rintro ε σ ⟨hρ, w, rfl⟩
  have hc2 : cellsA (some 2) [AV.v (.int .i64 m), .sl fs.length (fs.map aIxs) (.id 3 w 1)] = some (.agg [AV.v (.int .i64 m), .sl fs.length (fs.map aIxs) (.id 3 w 1)]) := rfl
  simp (maxSteps:=999999) -implicitDefEqProofs (disch:=omega) only [push_cast,↓reduceIte,Nat.reduceEqDiff,reduceCtorEq,wz,hρ,hc2]
  refine wpa_stn (cs := [AV.v (.int .i64 0), AV.sl 0 [] .nil]) rfl rfl rfl (by decide) ?_
  have hset : setAtA [AV.v (.int .i64 0), AV.sl 0 [] .nil] 0 [AV.v (.int .i64 m), .sl fs.length (fs.map aIxs) (.id 3 w 1)] = [AV.v (.int .i64 m), .sl fs.length (fs.map aIxs) (.id 3 w 1)] := rfl
  rw [hset]
  simp (maxSteps:=999999) -implicitDefEqProofs (disch:=omega) only [push_cast,↓reduceIte,Nat.reduceEqDiff,reduceCtorEq,wz,hρ,hc2]
  have hr : ∀ σ, (AV.agg [AV.v (.int .i64 m), .sl fs.length (fs.map aIxs) (.id 3 w 1)]).res σ = .agg (aPr m fs) := fun σ => by
    have h1 := aFs_res σ fs (.id 3 w 1)
    simp only [AV.res, AV.resL] at h1 ⊢
    rw [h1]
    rfl
  refine ⟨[], ?_, ?_⟩
  · rw [hr]; simp [AV.pure, aPr_pure]
  · rw [hr]
set_option maxHeartbeats 8000000 in
theorem ref04_Same_a (m : Int) (fs : List (List Ix)) (hf : okF fs) : FnP Tryd.prog 45 [.agg (aPr m fs), .agg (aPr m fs)] fun a => a = aBool true := by
  refine fnP_in K_forebayref04_Same mixed rfl (by simp [AV.pureL, AV.pure, aPr_pure]) ?_
  simp only [S_forebayref04_Same]
  obtain ⟨hf1, hf2⟩ := hf
  have hac : (AV.agg (aPr m fs)).cells = aPr m fs := rfl
  have g0 : (aPr m fs)[0]? = some (.v (.int .i64 m)) := rfl
  have g1 : (aPr m fs)[1]? = some (.sl fs.length (fs.map aIxs) .none) := rfl
  simp (maxSteps:=999999) -implicitDefEqProofs (disch:=omega) only [push_cast,↓reduceIte,Nat.reduceEqDiff,reduceCtorEq,wz]
  refine wpa_box ?_
  simp (maxSteps:=999999) -implicitDefEqProofs (disch:=omega) only [push_cast,↓reduceIte,Nat.reduceEqDiff,reduceCtorEq,wz]
  refine wpa_box ?_
  simp (maxSteps:=999999) -implicitDefEqProofs (disch:=omega) only [push_cast,↓reduceIte,Nat.reduceEqDiff,reduceCtorEq,wz,hac,g0,g1]
  refine wpa_bl (α := Nat) (I := fun k ε σ => (ε 2 = .ref 0 0 0 ∧ ε 3 = .ref 1 0 0 ∧ ε 5 = .v (.int .i64 k)) ∧ k ≤ fs.length ∧ σ = [.obj 0 (aPr m fs), .obj 0 (aPr m fs)])
    (μ := fun k => fs.length - k) (Q := fun ε σ => True) (x := 0) ?_ ?_ ?_
  · simp (maxSteps:=999999) -implicitDefEqProofs (disch:=omega) only [push_cast,↓reduceIte,Nat.reduceEqDiff,reduceCtorEq,wz]
    omega
  · rintro k ε σ N E ⟨hρ, hk, rfl⟩ hN hE
    simp only [S_forebayref04_Same_L1]
    by_cases hlt : k < fs.length
    · obtain ⟨l, hl⟩ := at_lt hlt
      have hll := hf2 l (List.mem_of_getElem? hl)
      have hIL : aIxs l = .sl l.length (l.flatMap aIx) .none := rfl
      simp (maxSteps:=999999) -implicitDefEqProofs (disch:=omega) only [push_cast,↓reduceIte,Nat.reduceEqDiff,reduceCtorEq,wz,hρ,g1,hl,hIL]
      refine wpa_bl (α := Nat) (I := fun j ε σ => (ε 2 = .ref 0 0 0 ∧ ε 3 = .ref 1 0 0 ∧ ε 5 = .v (.int .i64 k) ∧ ε 6 = .v (.int .i64 j)) ∧ j ≤ l.length ∧ σ = [.obj 0 (aPr m fs), .obj 0 (aPr m fs)])
        (μ := fun j => l.length - j) (Q := fun ε σ => (ε 2 = .ref 0 0 0 ∧ ε 3 = .ref 1 0 0 ∧ ε 5 = .v (.int .i64 k)) ∧ σ = [.obj 0 (aPr m fs), .obj 0 (aPr m fs)]) (x := 0) ?_ ?_ ?_
      · simp (maxSteps:=999999) -implicitDefEqProofs (disch:=omega) only [push_cast,↓reduceIte,Nat.reduceEqDiff,reduceCtorEq,wz,hρ]
        omega
      · rintro j ε σ N E ⟨hρ, hj, rfl⟩ hN hE
        simp only [S_forebayref04_Same_L2]
        by_cases hlj : j < l.length
        · obtain ⟨x, hx⟩ := at_lt hlj
          have hd := flat_drop aIx_len hx
          have hq := eqsIx true x x
          rw [show (true != decide (x = x)) = false by simp] at hq
          simp (maxSteps:=999999) -implicitDefEqProofs (disch:=omega) only [push_cast,↓reduceIte,Nat.reduceEqDiff,reduceCtorEq,wz,hρ,g1,hl,hIL,hd,cellsIx,hq]
          exact hN (j + 1) _ _ ⟨by simp (maxSteps:=999999) -implicitDefEqProofs (disch:=omega) only [push_cast,↓reduceIte,Nat.reduceEqDiff,reduceCtorEq,wz,hρ], by omega, rfl⟩ (by omega)
        · simp (maxSteps:=999999) -implicitDefEqProofs (disch:=omega) only [push_cast,↓reduceIte,Nat.reduceEqDiff,reduceCtorEq,wz,hρ,g1,hl,hIL]
          exact hE _ _ ⟨by simp (maxSteps:=999999) -implicitDefEqProofs (disch:=omega) only [push_cast,↓reduceIte,Nat.reduceEqDiff,reduceCtorEq,wz,hρ], rfl⟩
      · rintro ε σ ⟨hρ, rfl⟩
        simp (maxSteps:=999999) -implicitDefEqProofs (disch:=omega) only [push_cast,↓reduceIte,Nat.reduceEqDiff,reduceCtorEq,wz,hρ]
        exact hN (k + 1) _ _ ⟨by simp (maxSteps:=999999) -implicitDefEqProofs (disch:=omega) only [push_cast,↓reduceIte,Nat.reduceEqDiff,reduceCtorEq,wz,hρ], by omega, rfl⟩ (by omega)
    · simp (maxSteps:=999999) -implicitDefEqProofs (disch:=omega) only [push_cast,↓reduceIte,Nat.reduceEqDiff,reduceCtorEq,wz,hρ,g1]
      exact hE _ _ trivial
  · rintro ε σ -
    simp (maxSteps:=999999) -implicitDefEqProofs (disch:=omega) only [push_cast,↓reduceIte,Nat.reduceEqDiff,reduceCtorEq,wz]
    exact ⟨[], rfl, rfl⟩
end Go.Proofs.YtjdpejggafefjaaDoor
