/- The document's evaluator against the machine: what a frame's run, and a loop's, comes to (plain). -/
import Derived.Test.YtncdnegdlkmicaaGreatQEkc
namespace Go.Proofs.YtncdnegdlkmicaaGreat.Sr
set_option linter.unusedVariables false
set_option linter.unusedSimpArgs false
open Go Go.Kx Go.Proofs
theorem iterate_l {s:Sv} {q:Sf} {r:List Sf} (hl:s.l=q::r):s.iterate.l=⟨2,q.fn,0,q.regs,false,q.index,0,0⟩::{ q with index:=IntKind.i64.wrap (q.index+1) }::r:=by
 unfold Sv.iterate
 rw[XY hl]
 show _::(s.setTop _).l=_
 rw[Q54 hl]
theorem Z57 {s:Sv} (g:Sf→Sf):(s.setTop g).l.length=s.l.length:=by
 unfold Sv.setTop
 split
 ·rename_i f r e;rw[e];rfl
 ·rfl
theorem iterate_e {s:Sv} {q:Sf} {r:List Sf} (hl:s.l=q::r):s.iterate.e=({ s.mark 9 q.index with frames:=IntKind.i64.wrap (s.frames+1),deepest:=max s.deepest ((s.l.length+1:Nat):Int) }:Sv).e:=by
 unfold Sv.iterate
 rw[XY hl]
 have h:=Q24 s fun f=>{ f with index:=IntKind.i64.wrap (f.index+1) }
 have hlen:=Z57 (s:=s) fun f=>{ f with index:=IntKind.i64.wrap (f.index+1) }
 generalize s.setTop (fun f=>{ f with index:=IntKind.i64.wrap (f.index+1) })=u at h hlen
 have h1:u.data=s.data:=by have:=congrArg Sv.data h;exact this
 have h2:u.out=s.out:=by have:=congrArg Sv.out h;exact this
 have h3:u.marks=s.marks:=by have:=congrArg Sv.marks h;exact this
 have h4:u.serial=s.serial:=by have:=congrArg Sv.serial h;exact this
 have h5:u.steps=s.steps:=by have:=congrArg Sv.steps h;exact this
 have h6:u.frames=s.frames:=by have:=congrArg Sv.frames h;exact this
 have h7:u.deepest=s.deepest:=by have:=congrArg Sv.deepest h;exact this
 have h8:u.status=s.status:=by have:=congrArg Sv.status h;exact this
 have h9:u.why=s.why:=by have:=congrArg Sv.why h;exact this
 have hl2:(u.mark 9 q.index).l.length=s.l.length:=hlen
 unfold Sv.push Sv.e
 rw[hl2]
 simp only[Sv.mark,h1,h2,h3,h4,h5,h6,h7,h8,h9]
theorem X76 (s:Sv):s.iterate.status=s.status:=by
 unfold Sv.iterate
 show (s.setTop _).status=_
 have h:=Q24 s fun f=>{ f with index:=IntKind.i64.wrap (f.index+1) }
 have:=congrArg Sv.status h
 exact this
def KR (F:Sf) (K K':List Sf) (lp:List Int):Prop:=(F.kind=1∧K'=K)∨(F.kind=2∧∃(q:Sf) (r:List Sf),K=q::r∧q.kind=3∧K'={ q with regs:=lp }::r)
def Ended (fs:List (List Ix)) (d N n:Nat) (s:Sv) (F:Sf) (K:List Sf) (s':Sv) (lp':List Int) (br:Bool):Prop:=
 s'.status=0∧∃n' k' T,n' < n∧k'+n'=N∧Lx fs n s=Lx fs n' T∧Iv fs d k' T ∧
  ((F.kind=1∧K≠[]∧T.status=0∧T.l=K∧T.e=(s'.mark 5 0).e) ∨
   (F.kind=1∧K=[]∧T.status≠0∧T.e=(s'.stop 1 0).e) ∨
   (F.kind=2∧br=false∧∃(q:Sf) (r:List Sf) (u:Sv),K=q::r∧q.kind=3∧T=u.iterate∧u.status=0∧u.e=s'.e∧u.l={ q with regs:=lp' }::r) ∨
   (F.kind=2∧br=true∧∃(q p:Sf) (r:List Sf),K=q::p::r∧T.status=0∧T.e=(s'.mark 8 q.serial).e∧T.l={ p with regs:=lp' }::r))
def SR (m:Int) (fs:List (List Ix)) (d N n:Nat):Prop:=
 ∀(σ:Kx.St) (iv fi:Nat) (t:DvT) (s:Sv) (F:Sf) (K:List Sf) (lp:List Int) (f0 d0 deep:Int) (k:Nat),
  DvAt σ iv m fs N t { s with frames:=f0,deepest:=d0 }→s.frames=IntKind.i64.wrap (f0+1)→s.deepest=max d0 deep→deep=s.l.length →
  σ[fi]?=some (.obj 0 (frC F lp false))→fi≠iv→fi≠t.j→s.l=F::K→s.status=0→Iv fs d k s→k+n=N→KR F K K lp →
  FnG Tryz.prog 24 [.ref iv 0 0,.ref fi 0 0,.v (.int .i64 deep)] σ fun r σ'=>r=.tup []∧∃t' s',t'.j=t.j∧Kp σ σ' (fun k=>k=iv∨k=fi∨k=t.j)∧DvAt σ' iv m fs N t' s' ∧
   ((s'.status≠0∧s'.e=(Lx fs n s).e∧∃F' lp',σ'[fi]?=some (.obj 0 (frC F' lp' false)))∨∃F' lp' br,σ'[fi]?=some (.obj 0 (frC F' lp' br))∧Ended fs d N n s F K s' lp' br)
def SP (m:Int) (fs:List (List Ix)) (d N n:Nat):Prop:=
 ∀(σ:Kx.St) (iv fi:Nat) (t:DvT) (s:Sv) (F:Sf) (K:List Sf) (lp:List Int) (br:Bool) (e:Ef) (deep:Int) (k:Nat),
  DvAt σ iv m fs N t s→deep=s.l.length+1→σ[fi]?=some (.obj 0 (frC F lp br))→fi≠iv→fi≠t.j→s.l=F::K→s.status=0→e.k=8→s.marks.length≤900000 →
  Iv fs d k (s.begins e)→k+n=N →
  FnG Tryz.prog 49 [.ref iv 0 0,.ref fi 0 0,.v (.int .i64 e.v),.v (.int .i64 deep)] σ fun r σ'=>r=.tup []∧∃t' s',t'.j=t.j∧Kp σ σ' (fun k=>k=iv∨k=fi∨k=t.j)∧DvAt σ' iv m fs N t' s' ∧
   ((s'.status≠0∧s'.e=(Lx fs n (s.begins e)).e∧σ'[fi]?=some (.obj 0 (frC F lp br)))∨(s'.status=0∧∃n' k' L,n' < n∧k'+n'=N∧Lx fs n (s.begins e)=Lx fs n' s'∧Iv fs d k' s'∧s'.l={ F with regs:=L }::K∧σ'[fi]?=some (.obj 0 (frC { F with regs:=L } lp br))))
theorem back_task {s:Sv} {f q:Sf} {r:List Sf} (hl:s.l=f::q::r) (hk:f.kind=1):s.back=(s.mark 5 0).pop:=by
 unfold Sv.back
 rw[XY hl,if_neg (by omega),if_neg (by rw[hl];simp)]
theorem back_root {s:Sv} {f:Sf} (hl:s.l=[f]) (hk:f.kind=1):s.back=s.stop 1 0:=by
 unfold Sv.back
 rw[XY hl,if_neg (by omega),if_pos (by rw[hl];rfl)]
theorem back_iter {s:Sv} {f q:Sf} {r:List Sf} (hl:s.l=f::q::r) (hk:f.kind=2):∃u:Sv,s.back=u.iterate∧u.e=(s.mark 10 f.index).e∧u.l={ q with regs:=endL f q.regs }::r:=by
 refine ⟨(s.keep.mark 10 f.index).pop,?_,?_,?_⟩
 ·unfold Sv.back
  rw[XY hl,if_pos hk]
 ·rw[e_pop,Z20,e_keep,Z20]
 ·show s.keep.l.tail=_
  rw[Sv.XD hl]
  unfold endL
  by_cases hz:f.stage=0
  ·rw[if_pos hz,if_pos ⟨hk,hz⟩];rfl
  ·rw[if_neg hz,if_neg (fun c=>hz c.2)];rfl
theorem leave_iter {s:Sv} {f q p:Sf} {r:List Sf} (hl:s.l=f::q::p::r) (hk:f.kind=2) (hz:f.stage=0):s.leave.e=((s.mark 10 f.index).mark 8 q.serial).e∧s.leave.l={ p with regs:=endL f q.regs }::r∧s.leave.status=s.status:=by
 have hkl:=Sv.XD hl
 have hL:endL f q.regs=f.regs:=by unfold endL;rw[if_pos ⟨hk,hz⟩]
 rw[if_pos hz] at hkl
 have htop:s.keep.pop.top={ q with regs:=f.regs }:=by
  unfold Sv.top Sv.pop
  simp only[hkl,List.tail_cons,List.headD_cons]
 have e0:s.leave=(((s.keep.mark 10 f.index).pop.pop).mark 8 q.serial).setTop fun x=>{ x with regs:=f.regs }:=by
  unfold Sv.leave
  rw[XY hl,if_neg (by simpa using hk),if_neg (by simpa using hz),htop]
 have hl2:(((s.keep.mark 10 f.index).pop.pop).mark 8 q.serial).l=p::r:=by
  show s.keep.l.tail.tail=_
  rw[hkl];rfl
 have he:s.leave.e=((s.mark 10 f.index).mark 8 q.serial).e:=by
  rw[e0,Q24,Z20,e_pop,e_pop,Z20,e_keep,Z20,Z20]
 refine ⟨he,?_,?_⟩
 ·rw[e0,Q54 hl2,hL]
 ·have:=congrArg Sv.status he
  exact this
end Go.Proofs.YtncdnegdlkmicaaGreat.Sr
