/- Serial: what a program does, step by step; what is kept; with more fuel. Plain. Serial: what an instruction does: the walks. Serial: Do and Took: the walks. Serial: the machine's state in memory; memory's walks. -/
import Derived.Test.YtelibaobkcokdaaGreatQU2Pra
namespace Go.Proofs.YtelibaobkcokdaaGreat
set_option linter.unusedVariables false
set_option linter.unusedSimpArgs false
open Go Go.Kx Go.Proofs
theorem w64_id {n:Int} (h0:0≤n) (h1:n≤9223372036854775807):IntKind.i64.wrap n=n:=wrap_in n (by omega) h1
def bAnd (a b:Int):Int:=IntKind.i64.wrap (BitVec.ofInt IntKind.i64.bits a &&& BitVec.ofInt IntKind.i64.bits b).toNat
def bOr (a b:Int):Int:=IntKind.i64.wrap (BitVec.ofInt IntKind.i64.bits a ||| BitVec.ofInt IntKind.i64.bits b).toNat
def bXor (a b:Int):Int:=IntKind.i64.wrap (BitVec.ofInt IntKind.i64.bits a ^^^ BitVec.ofInt IntKind.i64.bits b).toNat
def wrapD (op a b:Int):Int×Int:=
 if op=3 then (IntKind.i64.wrap (a+b),0)
 else if op=4 then (IntKind.i64.wrap (a - b),0)
 else if op=5 then (IntKind.i64.wrap (a * b),0)
 else if op=6∨op=7 then (if b=0 then (0,1) else if op=6 then (IntKind.i64.wrap (a.tdiv b),0) else (a.tmod b,0))
 else if op=8 then (if a < b then 1 else 0,0)
 else if op=9 then (if a=b then 1 else 0,0)
 else if op=10 then (bAnd a b,0)
 else if op=11 then (bOr a b,0)
 else if op=12 then (bXor a b,0)
 else (0,0)
structure Ef where
 k:Int
 at_:Int
 v:Int
 o:Int
 r:Int
def ef0:Ef:=⟨0,0,0,0,0⟩
def heldN (n:Int):Int:=min (max n 0) 7
def rg (rs:List Int) (n:Int):Int:=rs.getD (heldN n).toNat 0
def knownB (op:Int):Bool:=decide (3≤op∧op≤12)
def ofE (x:Ix) (rs:List Int):Ef:=
 let a:=rg rs x.a;let b:=rg rs x.b;let c:=rg rs x.c
 if x.op=13 then ⟨1,b,0,0,heldN x.a⟩
 else if x.op=14 then ⟨2,a,b,0,0⟩
 else if x.op=15 then ⟨3,b,c,0,heldN x.a⟩
 else if x.op=16 then ⟨4,b,a,c,heldN x.a⟩
 else if x.op=17 then ⟨5,0,a,0,0⟩
 else if x.op=20 then ⟨6,0,x.a,0,0⟩
 else if x.op=21 then ⟨7,0,0,0,0⟩
 else if x.op=22 then ⟨8,0,x.a,0,0⟩
 else if x.op=23 then ⟨9,0,a,0,0⟩
 else if x.op=24 then ⟨10,0,a,0,0⟩
 else if x.op=25 then ⟨11,0,0,0,0⟩
 else if x.op=0 then ⟨12,0,0,0,0⟩
 else ef0
def setR (rs:List Int) (n v:Int):List Int:=rs.set (heldN n).toNat v
def doF (x:Ix) (pc:Int) (rs:List Int):Int×List Int×Ef×Int:=
 if x.op=1 then (IntKind.i64.wrap (pc+1),setR rs x.a x.b,ofE x rs,0)
 else if x.op=2 then (IntKind.i64.wrap (pc+1),setR rs x.a (rg rs x.b),ofE x rs,0)
 else if knownB x.op then
  if (wrapD x.op (rg rs x.b) (rg rs x.c)).2≠0 then (pc,rs,ef0,(wrapD x.op (rg rs x.b) (rg rs x.c)).2)
  else (IntKind.i64.wrap (pc+1),setR rs x.a (wrapD x.op (rg rs x.b) (rg rs x.c)).1,ofE x rs,0)
 else if x.op=18 then (x.a,rs,ofE x rs,0)
 else if x.op=19∧rg rs x.a=0 then (x.b,rs,ofE x rs,0)
 else (IntKind.i64.wrap (pc+1),rs,ofE x rs,0)
def tookR (rs:List Int) (e:Ef) (got:Int):List Int:=
 if e.k=4 then setR rs e.r (if got=e.v then 1 else 0)
 else if e.k=1∨e.k=3 then setR rs e.r got
 else rs
structure Sf where
 kind:Int
 fn:Int
 pc:Int
 regs:List Int
 dirty:Bool
 index:Int
 stage:Int
 serial:Int
structure Sv where
 l:List Sf
 data:List Int
 marks:List (Int×Int)
 serial:Int
 status:Int
 why:Int
 out:List Int
 steps:Int
 frames:Int
 deepest:Int
def z8:List Int:=[0,0,0,0,0,0,0,0]
def Sv.mark (s:Sv) (k a:Int):Sv:={ s with marks:=s.marks++[(k,a)] }
def Sv.push (s:Sv) (f:Sf):Sv:={ s with l:=f::s.l,frames:=IntKind.i64.wrap (s.frames+1),deepest:=max s.deepest (s.l.length+1:Nat) }
def Sv.pop (s:Sv):Sv:={ s with l:=s.l.tail }
def Sv.setTop (s:Sv) (g:Sf→Sf):Sv:=match s.l with|f::r=>{ s with l:=g f::r }|[]=>s
def Sv.set2 (s:Sv) (g:Sf→Sf):Sv:=match s.l with|f::q::r=>{ s with l:=f::g q::r }|_=>s
def Sv.stop (s:Sv) (st why:Int):Sv:={ s with status:=st,why:=why }
def Sv.top (s:Sv):Sf:=s.l.headD ⟨0,0,0,z8,false,0,0,0⟩
def Sv.iterate (s:Sv):Sv:=
 ((s.setTop fun f=>{ f with index:=IntKind.i64.wrap (f.index+1) }).mark 9 s.top.index).push ⟨2,s.top.fn,0,s.top.regs,false,s.top.index,0,0⟩
def askD (d:List Int) (e:Ef):Int×Bool×List Int:=
 if e.at_ < 0∨(d.length:Int)≤e.at_ then (0,false,d)
 else if e.k=1 then (d.getD e.at_.toNat 0,true,d)
 else if e.k=2 then (0,true,d.set e.at_.toNat e.v)
 else if e.k=3 then (d.getD e.at_.toNat 0,true,d.set e.at_.toNat (IntKind.i64.wrap (d.getD e.at_.toNat 0+e.v)))
 else if e.k=4 then (d.getD e.at_.toNat 0,true,if d.getD e.at_.toNat 0=e.v then d.set e.at_.toNat e.o else d)
 else (0,false,d)
def Sv.ask (s:Sv) (pc:Int) (rs:List Int) (e:Ef):Sv:=
 if (askD s.data e).2.1 then (({ s with data:=(askD s.data e).2.2 }).mark (if e.k=1 then 1 else 2) e.at_).setTop fun f=>{ f with pc:=pc,regs:=tookR rs e (askD s.data e).1 }
 else s.stop 4 2
def Sv.keep (s:Sv):Sv:=if s.top.stage=0 then s.set2 fun q=>{ q with regs:=s.top.regs } else s
def Sv.begins (s:Sv) (e:Ef):Sv:=
 if e.k=5 then ({ s with out:=s.out++[e.v] }).mark 3 e.v
 else if e.k=6 then ((s.setTop fun f=>{ f with dirty:=true }).mark 4 0).push ⟨1,e.v,0,s.top.regs,false,0,0,0⟩
 else if e.k=8 then ((({ s with serial:=IntKind.i64.wrap (s.serial+1) }).mark 7 (IntKind.i64.wrap (s.serial+1))).push ⟨3,e.v,0,s.top.regs,false,0,0,IntKind.i64.wrap (s.serial+1)⟩).iterate
 else s
def goE (st to:Int):Int:=if to≤st∨1048575 < to then 3 else 0
def Sv.goOn (s:Sv) (pc:Int) (e:Ef):Sv:=
 if s.top.kind≠2 then s.stop 4 4
 else if goE s.top.stage e.v≠0 then s.stop 4 (goE s.top.stage e.v)
 else (s.keep.setTop fun f=>{ f with pc:=pc,stage:=e.v }).mark (if e.k=9 then 11 else 12) e.v
def Sv.leave (s:Sv):Sv:=
 if s.top.kind≠2 then s.stop 4 4
 else if s.top.stage≠0 then s.stop 4 5
 else (((s.keep.mark 10 s.top.index).pop.pop).mark 8 (s.keep.pop.top.serial)).setTop fun f=>{ f with regs:=s.keep.pop.top.regs }
def Sv.back (s:Sv):Sv:=
 if s.top.kind=2 then ((s.keep.mark 10 s.top.index).pop).iterate
 else if s.l.length=1 then s.stop 1 0
 else (s.mark 5 0).pop
def endsE (e:Ef):Bool:=decide (7≤e.k∧e.k≤12)
def Sv.act (s:Sv) (r:Int×List Int×Ef×Int):Sv:=
 if r.2.2.2≠0 then s.stop 4 r.2.2.2
 else if 1≤r.2.2.1.k∧r.2.2.1.k≤4 then s.ask r.1 r.2.1 r.2.2.1
 else if r.2.2.1.k=9∨r.2.2.1.k=10 then s.goOn r.1 r.2.2.1
 else if r.2.2.1.k=11 then s.leave
 else if r.2.2.1.k=12 then s.back
 else (s.setTop fun f=>{ f with pc:=r.1,regs:=r.2.1 }).begins r.2.2.1
def stk:List Sf→Prop
 | []=>False
 | [f]=>f.kind=1
 | f::q::r=>(f.kind=1∧stk (q::r))∨(f.kind=2∧q.kind=3∧stk r)
theorem stk.kind {f:Sf} {r:List Sf} (h:stk (f::r)):f.kind=1∨f.kind=2:=by
 cases r with
 | nil=>exact .inl h
 | cons q r=>rcases h with h|h;exact .inl h.1;exact .inr h.1
theorem stk.ne {l:List Sf} (h:stk l):∃f r,l=f::r:=by
 cases l with
 | nil=>exact h.elim
 | cons f r=>exact ⟨f,r,rfl⟩
theorem stk.turn {f g:Sf} {r:List Sf} (h:stk (f::r)) (hk:g.kind=f.kind):stk (g::r):=by
 cases r with
 | nil=>exact hk.trans h
 | cons q r=>
  rcases h with h|h
  ·exact .inl ⟨hk.trans h.1,h.2⟩
  ·exact .inr ⟨hk.trans h.1,h.2⟩
theorem stk.iter {l:List Sf} {f q:Sf} (h:stk l) (hk:f.kind=2) (hq:q.kind=3):stk (f::q::l):=.inr ⟨hk,hq,h⟩
theorem stk.loop {f:Sf} {r:List Sf} (h:stk (f::r)) (hk:f.kind=2):∃q r',r=q::r'∧q.kind=3∧stk r':=by
 cases r with
 | nil=>have:f.kind=1:=h;omega
 | cons q r=>
  rcases h with h|h
  ·have:=h.1;omega
  ·exact ⟨q,r,rfl,h.2⟩
structure SfOk (fs:List (List Ix)) (f:Sf):Prop where
 at_:∃l,fs[f.fn.toNat]?=some l∧0≤f.fn∧0≤f.pc∧f.pc < l.length
 regs:f.regs.length=8
structure Wf (fs:List (List Ix)) (s:Sv):Prop where
 st:stk s.l
 ok:∀f∈s.l,SfOk fs f
theorem J7 (rs:List Int) (n v:Int):(setR rs n v).length=rs.length:=by simp[setR]
theorem JE (rs:List Int) (e:Ef) (g:Int):(tookR rs e g).length=rs.length:=by
 unfold tookR
 split
 ·exact J7 _ _ _
 ·split
  ·exact J7 _ _ _
  ·rfl
structure Fns (fs:List (List Ix)):Prop where
 fo:∀l∈fs,Fo l fs.length
 le:fs.length≤40
theorem Wf.turn {fs:List (List Ix)} {s s':Sv} {f g:Sf} {r:List Sf} (h:Wf fs s) (hl:s.l=f::r) (hl':s'.l=g::r) (hk:g.kind=f.kind) (hg:SfOk fs g):Wf fs s':=by
 refine ⟨?_,fun x hx=>?_⟩
 ·rw[hl'];have:=h.st;rw[hl] at this;exact this.turn hk
 ·rw[hl'] at hx
  rcases List.mem_cons.1 hx with rfl|hx
  ·exact hg
  ·exact h.ok x (by rw[hl];simp[hx])
theorem Wf.same {fs:List (List Ix)} {s s':Sv} (h:Wf fs s) (hl:s'.l=s.l):Wf fs s':=⟨by rw[hl];exact h.st,fun x hx=>h.ok x (by rw[←hl];exact hx)⟩
theorem fn_ok {fs:List (List Ix)} (hF:Fns fs) {v:Int} (h0:0≤v) (h1:v < fs.length) {f:Sf} (hf:f.fn=v) (hp:f.pc=0) (hr:f.regs.length=8):SfOk fs f:=by
 obtain ⟨l,hl⟩:=Q09 (l:=fs) (k:=v.toNat) (by omega)
 have:=(hF.fo l (List.mem_of_getElem? hl)).rt.pos
 exact ⟨⟨l,by rw[hf];exact hl,by omega,by omega,by omega⟩,hr⟩
theorem Wf.iterate {fs:List (List Ix)} (hF:Fns fs) {s:Sv} {q:Sf} {r:List Sf} (hl:s.l=q::r) (hq:q.kind=3) (hr:stk r) (hok:∀f∈q::r,SfOk fs f):Wf fs s.iterate:=by
 have hqo:=hok q (by simp)
 obtain ⟨l,h1,h2,h3,h4⟩:=hqo.at_
 have hlt:=Qe h1
 have e:s.iterate.l=⟨2,q.fn,0,q.regs,false,q.index,0,0⟩::{ q with index:=IntKind.i64.wrap (q.index+1) }::r:=by
  simp[Sv.iterate,Sv.push,Sv.mark,Sv.setTop,Sv.top,hl]
 refine ⟨?_,fun f hf=>?_⟩
 ·rw[e];exact hr.iter rfl hq
 ·rw[e] at hf
  rcases List.mem_cons.1 hf with rfl|hf
  ·exact fn_ok hF h2 (by omega) rfl rfl hqo.regs
  ·rcases List.mem_cons.1 hf with rfl|hf
   ·exact ⟨⟨l,h1,h2,h3,h4⟩,hqo.regs⟩
   ·exact hok f (by simp[hf])
structure Ext (n:Nat) (s s':Sv):Prop where
 marks:∃m,s'.marks=s.marks++m∧m.length≤n
 out:∃o,s'.out=s.out++o∧o.length≤n
 steps:s'.steps=s.steps
 frames:0≤s.frames→s.frames+n≤1000000000→s.frames≤s'.frames∧s'.frames≤s.frames+n
 deepest:s.deepest≤s'.deepest
 len:s'.l.length≤s.l.length+n
 data:s'.data.length=s.data.length
theorem Ext.refl (s:Sv):Ext 0 s s:=⟨⟨[],by simp⟩,⟨[],by simp⟩,rfl,fun h1 h2=>⟨Int.le_refl _,by omega⟩,Int.le_refl _,Nat.le_refl _,rfl⟩
theorem Ext.trans {n m:Nat} {a b c:Sv} (h:Ext n a b) (k:Ext m b c):Ext (n+m) a c:=by
 obtain ⟨m1,h1,h2⟩:=h.marks
 obtain ⟨m2,k1,k2⟩:=k.marks
 obtain ⟨o1,p1,p2⟩:=h.out
 obtain ⟨o2,q1,q2⟩:=k.out
 refine ⟨⟨m1++m2,by rw[k1,h1,List.append_assoc],by simp;omega⟩,⟨o1++o2,by rw[q1,p1,List.append_assoc],by simp;omega⟩,k.steps.trans h.steps,fun a1 a2=>?_,Int.le_trans h.deepest k.deepest,by have:=h.len;have:=k.len;omega,k.data.trans h.data⟩
 have b1:=h.frames a1 (by omega)
 have b2:=k.frames (by omega) (by omega)
 omega
structure Lim (k:Nat) (d:Nat) (s:Sv):Prop where
 steps:s.steps=k
 frames:0≤s.frames∧s.frames≤5 * k+1
 marks:s.marks.length≤5 * k
 out:s.out.length≤5 * k
 len:s.l.length≤5 * k+1
 data:s.data.length=d
structure Ge (s s':Sv):Prop where
 marks:∃m,s'.marks=s.marks++m
 out:∃o,s'.out=s.out++o
 steps:s.steps≤s'.steps
 frames:s.frames≤s'.frames
 deepest:s.deepest≤s'.deepest
theorem Ge.refl (s:Sv):Ge s s:=⟨⟨[],by simp⟩,⟨[],by simp⟩,Int.le_refl _,Int.le_refl _,Int.le_refl _⟩
theorem Ge.trans {a b c:Sv} (h:Ge a b) (k:Ge b c):Ge a c:=by
 obtain ⟨m1,h1⟩:=h.marks
 obtain ⟨m2,k1⟩:=k.marks
 obtain ⟨o1,p1⟩:=h.out
 obtain ⟨o2,q1⟩:=k.out
 exact ⟨⟨m1++m2,by rw[k1,h1,List.append_assoc]⟩,⟨o1++o2,by rw[q1,p1,List.append_assoc]⟩,Int.le_trans h.steps k.steps,Int.le_trans h.frames k.frames,Int.le_trans h.deepest k.deepest⟩
def aR1 (rs:List Int) (i:Nat):AV:=.v (.int .i64 (rs.getD i 0))
def aRg (rs:List Int):List AV:=[aR1 rs 0,aR1 rs 1,aR1 rs 2,aR1 rs 3,aR1 rs 4,aR1 rs 5,aR1 rs 6,aR1 rs 7]
theorem Q18 (rs:List Int):(aRg rs).length=8:=rfl
theorem X24 (rs:List Int):AV.pureL (aRg rs)=true:=by simp[aRg,aR1,AV.pureL,AV.pure]
theorem aRg_res (σ:St) (rs:List Int):AV.resL σ (aRg rs)=aRg rs:=by simp[aRg,aR1,AV.resL,AV.res]
theorem k8 {k:Nat} (h:k < 8):k=0∨k=1∨k=2∨k=3∨k=4∨k=5∨k=6∨k=7:=by omega
theorem aRg_at (rs:List Int) {k:Nat} (h:k < 8):(aRg rs)[k]?=some (.v (.int .i64 (rs.getD k 0))):=by
 rcases k8 h with rfl|rfl|rfl|rfl|rfl|rfl|rfl|rfl<;>rfl
theorem aRg_set {rs:List Int} (hr:rs.length=8) {k:Nat} (h:k < 8) (v:Int):(aRg rs).set k (.v (.int .i64 v))=aRg (rs.set k v):=by
 match rs,hr with
 | [a0,a1,a2,a3,a4,a5,a6,a7],_=>rcases k8 h with rfl|rfl|rfl|rfl|rfl|rfl|rfl|rfl<;>rfl
theorem J85 (n:Int):(heldN n).toNat < 8:=by unfold heldN;omega
theorem held_in (n:Int):0≤heldN n∧heldN n < 8:=by unfold heldN;omega
theorem rg_at (rs:List Int) (n:Int):(aRg rs)[(heldN n).toNat]?=some (.v (.int .i64 (rg rs n))):=aRg_at rs (J85 n)
theorem rg_set {rs:List Int} (hr:rs.length=8) (n v:Int):(aRg rs).set (heldN n).toNat (.v (.int .i64 v))=aRg (setR rs n v):=aRg_set hr (J85 n) v
def aEf (e:Ef):List AV:=[.v (.int .i64 e.k),.v (.int .i64 e.at_),.v (.int .i64 e.v),.v (.int .i64 e.o),.v (.int .i64 e.r)]
theorem Yh (e:Ef):AV.pureL (aEf e)=true:=by simp[aEf,AV.pureL,AV.pure]
theorem aEf_res (σ:St) (e:Ef):AV.resL σ (aEf e)=aEf e:=by simp[aEf,AV.resL,AV.res]
theorem cells8 (rs:List Int):cellsA (some 8) (aRg rs)=some (.agg (aRg rs)):=rfl
theorem cells5 (e:Ef):cellsA (some 5) (aEf e)=some (.agg (aEf e)):=rfl
theorem QB (n:Int):FnP Tryz.prog 220 [aInt n] fun a=>a=aInt (heldN n):=by
 refine Qg K_step_held mixed rfl (by simp[AV.pureL,Qh]) ?_
 simp only[Jz,aInt]
 push_cast (disch:=omega)
 first|exact ⟨[],rfl,rfl⟩|exact ⟨[],rfl⟩
theorem ZK (rs:List Int) (n:Int):FnP Tryz.prog 221 [.agg (aRg rs),aInt n] fun a=>a=aInt (rg rs n):=by
 refine Qg J20 mixed rfl (by simp[AV.pureL,AV.pure,Qh,X24]) ?_
 simp only[X69,aInt]
 have hac:(AV.agg (aRg rs)).cells=aRg rs:=rfl
 obtain ⟨h0,h1⟩:=held_in n
 push_cast (disch:=omega)
 refine Qn ?_
 push_cast (disch:=omega)[hac]
 refine Q1 (QB n) ?_
 rintro a rfl
 push_cast (disch:=omega)[aInt,rg_at]
 first|exact ⟨[],rfl,rfl⟩|exact ⟨[],rfl⟩
theorem JF (e:Ef):FnP Tryz.prog 155 [.agg (aEf e)] fun a=>a=aBool (decide (1≤e.k∧e.k≤4)):=by
 refine Qg K_step_Asks mixed rfl (by simp[AV.pureL,AV.pure,Yh]) ?_
 simp only[Jw]
 have hac:(AV.agg (aEf e)).cells=aEf e:=rfl
 have g0:(aEf e)[0]?=some (.v (.int .i64 e.k)):=rfl
 have hd:decide (1≤e.k∧e.k≤4)=(decide (1≤e.k)&&decide (e.k≤4)):=by rw[Bool.eq_iff_iff];simp
 rw[hd]
 push_cast (disch:=omega)
 refine Qn ?_
 by_cases c:1≤e.k<;>(push_cast (disch:=omega)[hac,g0,c];first|exact ⟨[],rfl,rfl⟩|exact ⟨[],rfl,by simp[AV.res,aBool]⟩)
theorem step_Ends_a (e:Ef):FnP Tryz.prog 152 [.agg (aEf e)] fun a=>a=aBool (endsE e):=by
 refine Qg K_step_Ends mixed rfl (by simp[AV.pureL,AV.pure,Yh]) ?_
 simp only[Jv]
 have hac:(AV.agg (aEf e)).cells=aEf e:=rfl
 have g0:(aEf e)[0]?=some (.v (.int .i64 e.k)):=rfl
 have hd:endsE e=(decide (7≤e.k)&&decide (e.k≤12)):=by unfold endsE;rw[Bool.eq_iff_iff];simp
 rw[hd]
 push_cast (disch:=omega)
 refine Qn ?_
 by_cases c:7≤e.k<;>(push_cast (disch:=omega)[hac,g0,c];first|exact ⟨[],rfl,rfl⟩|exact ⟨[],rfl,by simp[AV.res,aBool]⟩)
theorem Z12 (op:Int):FnP Tryz.prog 222 [aInt op] fun a=>a=aBool (knownB op):=by
 refine Qg K_wrap_Known mixed rfl (by simp[AV.pureL,Qh]) ?_
 simp only[Y48,aInt]
 have hd:knownB op=(decide (3≤op)&&decide (op≤12)):=by unfold knownB;rw[Bool.eq_iff_iff];simp
 rw[hd]
 by_cases c:3≤op<;>(push_cast (disch:=omega)[c];first|exact ⟨[],rfl,rfl⟩|exact ⟨[],rfl,by simp[AV.res,aBool]⟩)
theorem J52 (b:Bool):FnP Tryz.prog 272 [aBool b] fun a=>a=aInt (if b then 1 else 0):=by
 refine Qg K_wrap_yes mixed rfl (by cases b<;>simp[AV.pureL,aBool,AV.pure]) ?_
 simp only[J48,aBool]
 cases b<;>(push_cast (disch:=omega);exact ⟨[],rfl,rfl⟩)
theorem Yi (op a b:Int):FnP Tryz.prog 271 [aInt op,aInt a,aInt b] fun r=>r=if b=0 then .tup [aInt 0,aInt 1] else if op=6 then .tup [aInt (IntKind.i64.wrap (a.tdiv b)),aInt 0] else .tup [aInt (a.tmod b),aInt 0]:=by
 refine Qg J82 mixed rfl (by simp[AV.pureL,Qh]) ?_
 simp only[Yf,aInt]
 by_cases c0:b=0
 ·rw[if_pos c0]
  push_cast (disch:=omega)[c0]
  first|exact ⟨[],rfl,rfl⟩|exact ⟨[],rfl⟩
 rw[if_neg c0]
 by_cases c1:op=6
 ·rw[if_pos c1]
  have hq:=v_quo .i64 a b c0
  push_cast (disch:=omega)[c0,c1,hq]
  first|exact ⟨[],rfl,rfl⟩|exact ⟨[],rfl⟩
 ·rw[if_neg c1]
  have hq:=v_rem .i64 a b c0
  push_cast (disch:=omega)[c0,c1,hq]
  first|exact ⟨[],rfl,rfl⟩|exact ⟨[],rfl⟩
theorem pv_and (a b:Int):PF.val (.bin .and) [.int .i64 a,.int .i64 b]=some (.int .i64 (bAnd a b)):=by simp[PF.val,binV,isSh,binI,bAnd]
theorem pv_or (a b:Int):PF.val (.bin .or) [.int .i64 a,.int .i64 b]=some (.int .i64 (bOr a b)):=by simp[PF.val,binV,isSh,binI,bOr]
theorem pv_xor (a b:Int):PF.val (.bin .xor) [.int .i64 a,.int .i64 b]=some (.int .i64 (bXor a b)):=by simp[PF.val,binV,isSh,binI,bXor]
set_option maxHeartbeats 4000000 in
theorem wrap_Do_a (op a b:Int):FnP Tryz.prog 223 [aInt op,aInt a,aInt b] fun r=>r=.tup [aInt (wrapD op a b).1,aInt (wrapD op a b).2]:=by
 refine Qg K_wrap_Do mixed rfl (by simp[AV.pureL,Qh]) ?_
 simp only[S_wrap_Do,aInt]
 by_cases c3:op=3
 ·have e:wrapD op a b=(IntKind.i64.wrap (a+b),0):=by unfold wrapD;rw[if_pos c3]
  rw[e]
  push_cast (disch:=omega)[c3]
  first|exact ⟨[],rfl,rfl⟩|exact ⟨[],rfl⟩
 by_cases c4:op=4
 ·have e:wrapD op a b=(IntKind.i64.wrap (a - b),0):=by unfold wrapD;rw[if_neg c3,if_pos c4]
  rw[e]
  push_cast (disch:=omega)[c3,c4]
  first|exact ⟨[],rfl,rfl⟩|exact ⟨[],rfl⟩
 by_cases c5:op=5
 ·have e:wrapD op a b=(IntKind.i64.wrap (a * b),0):=by unfold wrapD;rw[if_neg c3,if_neg c4,if_pos c5]
  rw[e]
  push_cast (disch:=omega)[c3,c4,c5]
  first|exact ⟨[],rfl,rfl⟩|exact ⟨[],rfl⟩
 by_cases c6:op=6
 ·have e:wrapD op a b=if b=0 then (0,1) else (IntKind.i64.wrap (a.tdiv b),0):=by unfold wrapD;rw[if_neg c3,if_neg c4,if_neg c5,if_pos (.inl c6),if_pos c6]
  rw[e]
  push_cast (disch:=omega)[c3,c4,c5,c6]
  refine Q1 (Yi 6 a b) ?_
  rintro r rfl
  by_cases cb:b=0
  ·rw[if_pos cb,if_pos cb]
   push_cast (disch:=omega)[aInt]
   first|exact ⟨[],rfl,rfl⟩|exact ⟨[],rfl⟩
  ·rw[if_neg cb,if_neg cb,if_pos rfl]
   push_cast (disch:=omega)[aInt]
   first|exact ⟨[],rfl,rfl⟩|exact ⟨[],rfl⟩
 by_cases c7:op=7
 ·have e:wrapD op a b=if b=0 then (0,1) else (a.tmod b,0):=by unfold wrapD;rw[if_neg c3,if_neg c4,if_neg c5,if_pos (.inr c7),if_neg c6]
  rw[e]
  push_cast (disch:=omega)[c3,c4,c5,c6,c7]
  refine Q1 (Yi 7 a b) ?_
  rintro r rfl
  by_cases cb:b=0
  ·rw[if_pos cb,if_pos cb]
   push_cast (disch:=omega)[aInt]
   first|exact ⟨[],rfl,rfl⟩|exact ⟨[],rfl⟩
  ·rw[if_neg cb,if_neg cb,if_neg (by decide)]
   push_cast (disch:=omega)[aInt]
   first|exact ⟨[],rfl,rfl⟩|exact ⟨[],rfl⟩
 by_cases c8:op=8
 ·have e:wrapD op a b=(if a < b then 1 else 0,0):=by unfold wrapD;rw[if_neg c3,if_neg c4,if_neg c5,if_neg (by omega),if_pos c8]
  rw[e]
  push_cast (disch:=omega)[c3,c4,c5,c6,c7,c8]
  refine Q1 (J52 (decide (a < b))) ?_
  rintro r rfl
  push_cast (disch:=omega)[aInt]
  exact ⟨[],rfl,by simp[AV.res,AV.resL]⟩
 by_cases c9:op=9
 ·have e:wrapD op a b=(if a=b then 1 else 0,0):=by unfold wrapD;rw[if_neg c3,if_neg c4,if_neg c5,if_neg (by omega),if_neg c8,if_pos c9]
  rw[e]
  push_cast (disch:=omega)[c3,c4,c5,c6,c7,c8,c9]
  refine Q1 (J52 (decide (a=b))) ?_
  rintro r rfl
  push_cast (disch:=omega)[aInt]
  exact ⟨[],rfl,by simp[AV.res,AV.resL]⟩
 by_cases c10:op=10
 ·have e:wrapD op a b=(bAnd a b,0):=by unfold wrapD;rw[if_neg c3,if_neg c4,if_neg c5,if_neg (by omega),if_neg c8,if_neg c9,if_pos c10]
  rw[e]
  push_cast (disch:=omega)[c3,c4,c5,c6,c7,c8,c9,c10,pv_and]
  first|exact ⟨[],rfl,rfl⟩|exact ⟨[],rfl⟩
 by_cases c11:op=11
 ·have e:wrapD op a b=(bOr a b,0):=by unfold wrapD;rw[if_neg c3,if_neg c4,if_neg c5,if_neg (by omega),if_neg c8,if_neg c9,if_neg c10,if_pos c11]
  rw[e]
  push_cast (disch:=omega)[c3,c4,c5,c6,c7,c8,c9,c10,c11,pv_or]
  first|exact ⟨[],rfl,rfl⟩|exact ⟨[],rfl⟩
 by_cases c12:op=12
 ·have e:wrapD op a b=(bXor a b,0):=by unfold wrapD;rw[if_neg c3,if_neg c4,if_neg c5,if_neg (by omega),if_neg c8,if_neg c9,if_neg c10,if_neg c11,if_pos c12]
  rw[e]
  push_cast (disch:=omega)[c3,c4,c5,c6,c7,c8,c9,c10,c11,c12,pv_xor]
  first|exact ⟨[],rfl,rfl⟩|exact ⟨[],rfl⟩
 have e:wrapD op a b=(0,0):=by unfold wrapD;rw[if_neg c3,if_neg c4,if_neg c5,if_neg (by omega),if_neg c8,if_neg c9,if_neg c10,if_neg c11,if_neg c12]
 rw[e]
 push_cast (disch:=omega)[c3,c4,c5,c6,c7,c8,c9,c10,c11,c12]
 first|exact ⟨[],rfl,rfl⟩|exact ⟨[],rfl⟩
theorem stage_Go_a (st to:Int):FnP Tryz.prog 263 [aInt st,aInt to] fun a=>a=aInt (goE st to):=by
 refine Qg K_stage_Go mixed rfl (by simp[AV.pureL,Qh]) ?_
 simp only[J47,aInt]
 unfold goE
 by_cases c1:to≤st
 ·rw[if_pos (.inl c1)]
  push_cast (disch:=omega)[c1]
  first|exact ⟨[],rfl,rfl⟩|exact ⟨[],rfl⟩
 by_cases c2:1048575 < to
 ·rw[if_pos (.inr c2)]
  push_cast (disch:=omega)[c1,c2]
  first|exact ⟨[],rfl,rfl⟩|exact ⟨[],rfl⟩
 rw[if_neg (by omega)]
 push_cast (disch:=omega)[c1,c2]
 first|exact ⟨[],rfl,rfl⟩|exact ⟨[],rfl⟩
set_option maxHeartbeats 8000000 in
theorem step_of_a (x:Ix) (rs:List Int):FnP Tryz.prog 224 [.agg (aIx x),.agg (aRg rs)] fun a=>a=.agg (aEf (ofE x rs)):=by
 refine Qg K_step_of mixed rfl (by simp[AV.pureL,AV.pure,Z87,X24]) ?_
 simp only[S_step_of]
 have hax:(AV.agg (aIx x)).cells=aIx x:=rfl
 have har:(AV.agg (aRg rs)).cells=aRg rs:=rfl
 have g0:(aIx x)[0]?=some (.v (.int .i64 x.op)):=rfl
 have g1:(aIx x)[1]?=some (.v (.int .i64 x.a)):=rfl
 have g2:(aIx x)[2]?=some (.v (.int .i64 x.b)):=rfl
 have g3:(aIx x)[3]?=some (.v (.int .i64 x.c)):=rfl
 have ex8:(AV.agg (aRg rs)).exact=true:=rfl
 refine Q9 (fun ε σ=>(ε 2=.ref 0 0 0∧ε 3=.ref 1 0 0∧ε 4=.ref 2 0 0)∧σ=[.obj 0 (aIx x),.obj 0 (aRg rs),.obj 0 (aEf ef0)]) ?_ ?_
 ·intro N X R hN
  push_cast (disch:=omega)
  refine Qn ?_
  push_cast (disch:=omega)[hax]
  refine Qn ?_
  push_cast (disch:=omega)[har]
  refine Qb ?_
  push_cast (disch:=omega)
  exact hN _ _ ⟨by push_cast (disch:=omega),rfl⟩
 rintro ε σ ⟨hρ,rfl⟩
 refine Q9 (fun ε σ=>(ε 2=.ref 0 0 0∧ε 4=.ref 2 0 0∧ε 5=.v (.int .i64 (rg rs x.a))∧ε 6=.v (.int .i64 (rg rs x.b))∧ε 7=.v (.int .i64 (rg rs x.c)))∧σ=[.obj 0 (aIx x),.obj 0 (aRg rs),.obj 0 (aEf ef0)]) ?_ ?_
 ·intro N X R hN
  push_cast (disch:=omega)[hρ,cells8,g1,g2,g3]
  refine Q1 (ZK rs x.a) ?_
  rintro a rfl
  push_cast (disch:=omega)[hρ]
  refine ⟨Qy (by push_cast (disch:=omega)[hρ,g3,J84]),Qy (by push_cast (disch:=omega)[hρ,cells8,ex8]),Qy (by push_cast (disch:=omega)[hρ,g2,J84]),Qy (by push_cast (disch:=omega)[hρ,cells8,ex8]),?_⟩
  refine Q1 (ZK rs x.b) ?_
  rintro a rfl
  push_cast (disch:=omega)[hρ]
  refine ⟨Qy (by push_cast (disch:=omega)[hρ,g3,J84]),Qy (by push_cast (disch:=omega)[hρ,cells8,ex8]),?_⟩
  refine Q1 (ZK rs x.c) ?_
  rintro a rfl
  push_cast (disch:=omega)[aInt]
  exact hN _ _ ⟨by push_cast (disch:=omega)[hρ,aInt],rfl⟩
 clear hρ ε
 rintro ε σ ⟨hρ,rfl⟩
 have hset:∀e:Ef,setAtA (aEf ef0) 0 (aEf e)=aEf e:=fun e=>rfl
 have fin:∀(e:Ef) (σ:Kx.St),e=ofE x rs→∃is,((AV.agg (aEf e)).res (Go.Kx.freeze is σ)).pure=true∧(AV.agg (aEf e)).res (Go.Kx.freeze is σ)=.agg (aEf (ofE x rs)):=fun e σ h=>by rw[h];exact J79 [] (by simp[AV.res,aEf_res]) (by simp[AV.pure,Yh])
 generalize hA:rg rs x.a=ra at hρ
 generalize hB:rg rs x.b=rb at hρ
 generalize hC:rg rs x.c=rc at hρ
 by_cases c13:x.op=13
 ·have hb:fillA [AV.v (.int .i64 0),AV.v (.int .i64 0),AV.v (.int .i64 0),AV.v (.int .i64 0),AV.v (.int .i64 0)] [(0,1),(1,1),(4,1)] [AV.v (.int .i64 1),AV.v (.int .i64 (rb)),AV.v (.int .i64 (heldN x.a))]=some (aEf ⟨1,rb,0,0,heldN x.a⟩):=by simp[fillA,AV.cells,Value.cells,setAtA,aEf]
  have he:(⟨1,rb,0,0,heldN x.a⟩:Ef)=ofE x rs:=by unfold ofE;simp only[hA,hB,hC];rw[if_pos c13]
  push_cast (disch:=omega)[hρ,g0,g1,c13,hb]
  refine Q1 (QB x.a) ?_
  rintro a rfl
  push_cast (disch:=omega)[hρ,aInt,hb]
  refine Q8 (cs:=aEf ef0) rfl rfl rfl (by decide) ?_
  rw[hset]
  push_cast (disch:=omega)[hρ,cells5]
  exact fin _ _ he
 by_cases c14:x.op=14
 ·have hb:fillA [AV.v (.int .i64 0),AV.v (.int .i64 0),AV.v (.int .i64 0),AV.v (.int .i64 0),AV.v (.int .i64 0)] [(0,1),(1,1),(2,1)] [AV.v (.int .i64 2),AV.v (.int .i64 (ra)),AV.v (.int .i64 (rb))]=some (aEf ⟨2,ra,rb,0,0⟩):=by simp[fillA,AV.cells,Value.cells,setAtA,aEf]
  have he:(⟨2,ra,rb,0,0⟩:Ef)=ofE x rs:=by unfold ofE;simp only[hA,hB,hC];rw[if_neg c13];rw[if_pos c14]
  push_cast (disch:=omega)[hρ,g0,g1,c13,c14,hb]
  refine Q8 (cs:=aEf ef0) rfl rfl rfl (by decide) ?_
  rw[hset]
  push_cast (disch:=omega)[hρ,cells5]
  exact fin _ _ he
 by_cases c15:x.op=15
 ·have hb:fillA [AV.v (.int .i64 0),AV.v (.int .i64 0),AV.v (.int .i64 0),AV.v (.int .i64 0),AV.v (.int .i64 0)] [(0,1),(1,1),(2,1),(4,1)] [AV.v (.int .i64 3),AV.v (.int .i64 (rb)),AV.v (.int .i64 (rc)),AV.v (.int .i64 (heldN x.a))]=some (aEf ⟨3,rb,rc,0,heldN x.a⟩):=by simp[fillA,AV.cells,Value.cells,setAtA,aEf]
  have he:(⟨3,rb,rc,0,heldN x.a⟩:Ef)=ofE x rs:=by unfold ofE;simp only[hA,hB,hC];rw[if_neg c13];rw[if_neg c14];rw[if_pos c15]
  push_cast (disch:=omega)[hρ,g0,g1,c13,c14,c15,hb]
  refine Q1 (QB x.a) ?_
  rintro a rfl
  push_cast (disch:=omega)[hρ,aInt,hb]
  refine Q8 (cs:=aEf ef0) rfl rfl rfl (by decide) ?_
  rw[hset]
  push_cast (disch:=omega)[hρ,cells5]
  exact fin _ _ he
 by_cases c16:x.op=16
 ·have hb:fillA [AV.v (.int .i64 0),AV.v (.int .i64 0),AV.v (.int .i64 0),AV.v (.int .i64 0),AV.v (.int .i64 0)] [(0,1),(1,1),(2,1),(3,1),(4,1)] [AV.v (.int .i64 4),AV.v (.int .i64 (rb)),AV.v (.int .i64 (ra)),AV.v (.int .i64 (rc)),AV.v (.int .i64 (heldN x.a))]=some (aEf ⟨4,rb,ra,rc,heldN x.a⟩):=by simp[fillA,AV.cells,Value.cells,setAtA,aEf]
  have he:(⟨4,rb,ra,rc,heldN x.a⟩:Ef)=ofE x rs:=by unfold ofE;simp only[hA,hB,hC];rw[if_neg c13];rw[if_neg c14];rw[if_neg c15];rw[if_pos c16]
  push_cast (disch:=omega)[hρ,g0,g1,c13,c14,c15,c16,hb]
  refine Q1 (QB x.a) ?_
  rintro a rfl
  push_cast (disch:=omega)[hρ,aInt,hb]
  refine Q8 (cs:=aEf ef0) rfl rfl rfl (by decide) ?_
  rw[hset]
  push_cast (disch:=omega)[hρ,cells5]
  exact fin _ _ he
 by_cases c17:x.op=17
 ·have hb:fillA [AV.v (.int .i64 0),AV.v (.int .i64 0),AV.v (.int .i64 0),AV.v (.int .i64 0),AV.v (.int .i64 0)] [(0,1),(2,1)] [AV.v (.int .i64 5),AV.v (.int .i64 (ra))]=some (aEf ⟨5,0,ra,0,0⟩):=by simp[fillA,AV.cells,Value.cells,setAtA,aEf]
  have he:(⟨5,0,ra,0,0⟩:Ef)=ofE x rs:=by unfold ofE;simp only[hA,hB,hC];rw[if_neg c13];rw[if_neg c14];rw[if_neg c15];rw[if_neg c16];rw[if_pos c17]
  push_cast (disch:=omega)[hρ,g0,g1,c13,c14,c15,c16,c17,hb]
  refine Q8 (cs:=aEf ef0) rfl rfl rfl (by decide) ?_
  rw[hset]
  push_cast (disch:=omega)[hρ,cells5]
  exact fin _ _ he
 by_cases c20:x.op=20
 ·have hb:fillA [AV.v (.int .i64 0),AV.v (.int .i64 0),AV.v (.int .i64 0),AV.v (.int .i64 0),AV.v (.int .i64 0)] [(0,1),(2,1)] [AV.v (.int .i64 6),AV.v (.int .i64 (x.a))]=some (aEf ⟨6,0,x.a,0,0⟩):=by simp[fillA,AV.cells,Value.cells,setAtA,aEf]
  have he:(⟨6,0,x.a,0,0⟩:Ef)=ofE x rs:=by unfold ofE;simp only[hA,hB,hC];rw[if_neg c13];rw[if_neg c14];rw[if_neg c15];rw[if_neg c16];rw[if_neg c17];rw[if_pos c20]
  push_cast (disch:=omega)[hρ,g0,g1,c13,c14,c15,c16,c17,c20,hb]
  refine Q8 (cs:=aEf ef0) rfl rfl rfl (by decide) ?_
  rw[hset]
  push_cast (disch:=omega)[hρ,cells5]
  exact fin _ _ he
 by_cases c21:x.op=21
 ·have hb:fillA [AV.v (.int .i64 0),AV.v (.int .i64 0),AV.v (.int .i64 0),AV.v (.int .i64 0),AV.v (.int .i64 0)] [(0,1)] [AV.v (.int .i64 7)]=some (aEf ⟨7,0,0,0,0⟩):=by simp[fillA,AV.cells,Value.cells,setAtA,aEf]
  have he:(⟨7,0,0,0,0⟩:Ef)=ofE x rs:=by unfold ofE;simp only[hA,hB,hC];rw[if_neg c13];rw[if_neg c14];rw[if_neg c15];rw[if_neg c16];rw[if_neg c17];rw[if_neg c20];rw[if_pos c21]
  push_cast (disch:=omega)[hρ,g0,g1,c13,c14,c15,c16,c17,c20,c21,hb]
  refine Q8 (cs:=aEf ef0) rfl rfl rfl (by decide) ?_
  rw[hset]
  push_cast (disch:=omega)[hρ,cells5]
  exact fin _ _ he
 by_cases c22:x.op=22
 ·have hb:fillA [AV.v (.int .i64 0),AV.v (.int .i64 0),AV.v (.int .i64 0),AV.v (.int .i64 0),AV.v (.int .i64 0)] [(0,1),(2,1)] [AV.v (.int .i64 8),AV.v (.int .i64 (x.a))]=some (aEf ⟨8,0,x.a,0,0⟩):=by simp[fillA,AV.cells,Value.cells,setAtA,aEf]
  have he:(⟨8,0,x.a,0,0⟩:Ef)=ofE x rs:=by unfold ofE;simp only[hA,hB,hC];rw[if_neg c13];rw[if_neg c14];rw[if_neg c15];rw[if_neg c16];rw[if_neg c17];rw[if_neg c20];rw[if_neg c21];rw[if_pos c22]
  push_cast (disch:=omega)[hρ,g0,g1,c13,c14,c15,c16,c17,c20,c21,c22,hb]
  refine Q8 (cs:=aEf ef0) rfl rfl rfl (by decide) ?_
  rw[hset]
  push_cast (disch:=omega)[hρ,cells5]
  exact fin _ _ he
 by_cases c23:x.op=23
 ·have hb:fillA [AV.v (.int .i64 0),AV.v (.int .i64 0),AV.v (.int .i64 0),AV.v (.int .i64 0),AV.v (.int .i64 0)] [(0,1),(2,1)] [AV.v (.int .i64 9),AV.v (.int .i64 (ra))]=some (aEf ⟨9,0,ra,0,0⟩):=by simp[fillA,AV.cells,Value.cells,setAtA,aEf]
  have he:(⟨9,0,ra,0,0⟩:Ef)=ofE x rs:=by unfold ofE;simp only[hA,hB,hC];rw[if_neg c13];rw[if_neg c14];rw[if_neg c15];rw[if_neg c16];rw[if_neg c17];rw[if_neg c20];rw[if_neg c21];rw[if_neg c22];rw[if_pos c23]
  push_cast (disch:=omega)[hρ,g0,g1,c13,c14,c15,c16,c17,c20,c21,c22,c23,hb]
  refine Q8 (cs:=aEf ef0) rfl rfl rfl (by decide) ?_
  rw[hset]
  push_cast (disch:=omega)[hρ,cells5]
  exact fin _ _ he
 by_cases c24:x.op=24
 ·have hb:fillA [AV.v (.int .i64 0),AV.v (.int .i64 0),AV.v (.int .i64 0),AV.v (.int .i64 0),AV.v (.int .i64 0)] [(0,1),(2,1)] [AV.v (.int .i64 10),AV.v (.int .i64 (ra))]=some (aEf ⟨10,0,ra,0,0⟩):=by simp[fillA,AV.cells,Value.cells,setAtA,aEf]
  have he:(⟨10,0,ra,0,0⟩:Ef)=ofE x rs:=by unfold ofE;simp only[hA,hB,hC];rw[if_neg c13];rw[if_neg c14];rw[if_neg c15];rw[if_neg c16];rw[if_neg c17];rw[if_neg c20];rw[if_neg c21];rw[if_neg c22];rw[if_neg c23];rw[if_pos c24]
  push_cast (disch:=omega)[hρ,g0,g1,c13,c14,c15,c16,c17,c20,c21,c22,c23,c24,hb]
  refine Q8 (cs:=aEf ef0) rfl rfl rfl (by decide) ?_
  rw[hset]
  push_cast (disch:=omega)[hρ,cells5]
  exact fin _ _ he
 by_cases c25:x.op=25
 ·have hb:fillA [AV.v (.int .i64 0),AV.v (.int .i64 0),AV.v (.int .i64 0),AV.v (.int .i64 0),AV.v (.int .i64 0)] [(0,1)] [AV.v (.int .i64 11)]=some (aEf ⟨11,0,0,0,0⟩):=by simp[fillA,AV.cells,Value.cells,setAtA,aEf]
  have he:(⟨11,0,0,0,0⟩:Ef)=ofE x rs:=by unfold ofE;simp only[hA,hB,hC];rw[if_neg c13];rw[if_neg c14];rw[if_neg c15];rw[if_neg c16];rw[if_neg c17];rw[if_neg c20];rw[if_neg c21];rw[if_neg c22];rw[if_neg c23];rw[if_neg c24];rw[if_pos c25]
  push_cast (disch:=omega)[hρ,g0,g1,c13,c14,c15,c16,c17,c20,c21,c22,c23,c24,c25,hb]
  refine Q8 (cs:=aEf ef0) rfl rfl rfl (by decide) ?_
  rw[hset]
  push_cast (disch:=omega)[hρ,cells5]
  exact fin _ _ he
 by_cases c0:x.op=0
 ·have hb:fillA [AV.v (.int .i64 0),AV.v (.int .i64 0),AV.v (.int .i64 0),AV.v (.int .i64 0),AV.v (.int .i64 0)] [(0,1)] [AV.v (.int .i64 12)]=some (aEf ⟨12,0,0,0,0⟩):=by simp[fillA,AV.cells,Value.cells,setAtA,aEf]
  have he:(⟨12,0,0,0,0⟩:Ef)=ofE x rs:=by unfold ofE;simp only[hA,hB,hC];rw[if_neg c13];rw[if_neg c14];rw[if_neg c15];rw[if_neg c16];rw[if_neg c17];rw[if_neg c20];rw[if_neg c21];rw[if_neg c22];rw[if_neg c23];rw[if_neg c24];rw[if_neg c25];rw[if_pos c0]
  push_cast (disch:=omega)[hρ,g0,g1,c13,c14,c15,c16,c17,c20,c21,c22,c23,c24,c25,c0,hb]
  refine Q8 (cs:=aEf ef0) rfl rfl rfl (by decide) ?_
  rw[hset]
  push_cast (disch:=omega)[hρ,cells5]
  exact fin _ _ he
 have hb:fillA [AV.v (.int .i64 0),AV.v (.int .i64 0),AV.v (.int .i64 0),AV.v (.int .i64 0),AV.v (.int .i64 0)] [] []=some (aEf ef0):=by simp[fillA,aEf,ef0]
 have he:ef0=ofE x rs:=by unfold ofE;simp only[];rw[if_neg c13];rw[if_neg c14];rw[if_neg c15];rw[if_neg c16];rw[if_neg c17];rw[if_neg c20];rw[if_neg c21];rw[if_neg c22];rw[if_neg c23];rw[if_neg c24];rw[if_neg c25];rw[if_neg c0]
 push_cast (disch:=omega)[hρ,g0,g1,c13,c14,c15,c16,c17,c20,c21,c22,c23,c24,c25,c0,hb]
 refine Q8 (cs:=aEf ef0) rfl rfl rfl (by decide) ?_
 rw[hset]
 push_cast (disch:=omega)[hρ,cells5]
 exact fin _ _ he
theorem ex_Rg (rs:List Int):(AV.agg (aRg rs)).exact=true:=rfl
def aDo (r:Int×List Int×Ef×Int):AV:=.tup [aInt r.1,.agg (aRg r.2.1),.agg (aEf r.2.2.1),aInt r.2.2.2]
theorem aDo_pure (r:Int×List Int×Ef×Int):(aDo r).pure=true:=by simp[aDo,AV.pure,AV.pureL,X24,Yh,aInt]
theorem aDo_res (σ:St) (r:Int×List Int×Ef×Int):(aDo r).res σ=aDo r:=by simp[aDo,AV.res,AV.resL,aRg_res,aEf_res,aInt]
set_option maxHeartbeats 16000000 in
theorem step_Do_a (x:Ix) (pc:Int) (rs:List Int) (hr:rs.length=8):FnP Tryz.prog 150 [.agg (aIx x),aInt pc,.agg (aRg rs)] fun a=>a=aDo (doF x pc rs):=by
 refine Qg K_step_Do mixed rfl (by simp[AV.pureL,AV.pure,Z87,X24,aInt]) ?_
 simp only[S_step_Do,aInt]
 have hax:(AV.agg (aIx x)).cells=aIx x:=rfl
 have har:(AV.agg (aRg rs)).cells=aRg rs:=rfl
 have g0:(aIx x)[0]?=some (.v (.int .i64 x.op)):=rfl
 have g1:(aIx x)[1]?=some (.v (.int .i64 x.a)):=rfl
 have g2:(aIx x)[2]?=some (.v (.int .i64 x.b)):=rfl
 have g3:(aIx x)[3]?=some (.v (.int .i64 x.c)):=rfl
 have hh:=held_in x.a
 have hhl:=J85 x.a
 have hset8:∀r:List Int,setAtA (aRg z8) 0 (aRg r)=aRg r:=fun r=>rfl
 have hset5:∀e:Ef,setAtA (aEf ef0) 0 (aEf e)=aEf e:=fun e=>rfl
 have fin:∀(r:Int×List Int×Ef×Int) (σ:Kx.St),doF x pc rs=r→∃is,((aDo r).res (Go.Kx.freeze is σ)).pure=true∧(aDo r).res (Go.Kx.freeze is σ)=aDo (doF x pc rs):=fun r σ h=>by rw[h];exact J79 [] (aDo_res _ _) (aDo_pure _)
 refine Q9 (fun ε σ=>(ε 1=.v (.int .i64 pc)∧ε 3=.ref 0 0 0∧ε 5=.ref 1 0 0∧ε 7=.ref 2 0 0∧ε 8=.ref 3 0 0)∧σ=[.obj 0 (aIx x),.obj 0 (aRg rs),.obj 0 (aRg z8),.obj 0 (aEf ef0)]) ?_ ?_
 ·intro N X R hN
  push_cast (disch:=omega)
  refine Qn ?_
  push_cast (disch:=omega)[hax]
  refine Qn ?_
  push_cast (disch:=omega)[har]
  refine Qb ?_
  push_cast (disch:=omega)
  refine Qb ?_
  push_cast (disch:=omega)
  exact hN _ _ ⟨by push_cast (disch:=omega),rfl⟩
 rintro ε σ ⟨hρ,rfl⟩
 refine Q9 (fun ε σ=>(ε 1=.v (.int .i64 pc)∧ε 3=.ref 0 0 0∧ε 5=.ref 1 0 0∧ε 7=.ref 2 0 0∧ε 8=.ref 3 0 0∧ε 10=.ref 4 0 0∧ε 11=.v (.int .i64 (IntKind.i64.wrap (pc+1))))∧σ=[.obj 0 (aIx x),.obj 0 (aRg rs),.obj 0 (aRg z8),.obj 0 (aEf ef0),.obj 0 (aRg rs)]) ?_ ?_
 ·intro N X R hN
  push_cast (disch:=omega)[hρ,cells8]
  refine Qb ?_
  push_cast (disch:=omega)
  refine Q8 (cs:=aRg z8) rfl rfl rfl (by decide) ?_
  rw[hset8]
  push_cast (disch:=omega)
  exact hN _ _ ⟨by push_cast (disch:=omega)[hρ],rfl⟩
 clear hρ ε
 rintro ε σ ⟨hρ,rfl⟩
 refine Qm (fun ε σ=>∃nx rs',(ε 3=.ref 0 0 0∧ε 5=.ref 1 0 0∧ε 7=.ref 2 0 0∧ε 8=.ref 3 0 0∧ε 10=.ref 4 0 0∧ε 11=.v (.int .i64 nx))∧σ=[.obj 0 (aIx x),.obj 0 (aRg rs),.obj 0 (aRg z8),.obj 0 (aEf ef0),.obj 0 (aRg rs')]∧doF x pc rs=(nx,rs',ofE x rs,0)) ?_ ?_
 ·intro N hN
  refine Q89 fun X' _=>?_
  have hse:=fun v=>rg_set hr x.a v
  have hlen:(heldN x.a).toNat < (aRg rs).length:=hhl
  obtain ⟨hh0,hh1⟩:=hh
  by_cases c1:x.op=1
  ·push_cast (disch:=omega)[hρ,g0,c1,g1,g2]
   refine Q1 (QB x.a) ?_
   rintro a rfl
   push_cast (disch:=omega)[hρ,aInt]
   refine ⟨Qy (by push_cast (disch:=omega)[hρ,g2,J84]),?_⟩
   refine Q6 rfl rfl rfl hlen ?_
   rw[hse]
   push_cast (disch:=omega)
   exact hN _ _ ⟨IntKind.i64.wrap (pc+1),_,by push_cast (disch:=omega)[hρ],rfl,by unfold doF;rw[if_pos c1]⟩
  by_cases c2:x.op=2
  ·push_cast (disch:=omega)[hρ,g0,c1,c2,g1,g2,cells8]
   refine Q1 (QB x.a) ?_
   rintro a rfl
   push_cast (disch:=omega)[hρ,aInt]
   refine ⟨Qy (by push_cast (disch:=omega)[hρ,g2,J84]),Qy (by push_cast (disch:=omega)[hρ,cells8,ex_Rg]),?_⟩
   refine Q1 (ZK rs x.b) ?_
   rintro a rfl
   push_cast (disch:=omega)[hρ,aInt]
   refine Q6 rfl rfl rfl hlen ?_
   rw[hse]
   push_cast (disch:=omega)
   exact hN _ _ ⟨IntKind.i64.wrap (pc+1),_,by push_cast (disch:=omega)[hρ],rfl,by unfold doF;rw[if_neg c1,if_pos c2]⟩
  by_cases c3:knownB x.op=true
  ·have e1:doF x pc rs=if (wrapD x.op (rg rs x.b) (rg rs x.c)).2≠0 then (pc,rs,ef0,(wrapD x.op (rg rs x.b) (rg rs x.c)).2) else (IntKind.i64.wrap (pc+1),setR rs x.a (wrapD x.op (rg rs x.b) (rg rs x.c)).1,ofE x rs,0):=by unfold doF;rw[if_neg c1,if_neg c2,if_pos c3]
   push_cast (disch:=omega)[hρ,g0,c1,c2]
   refine Q1 (Z12 x.op) ?_
   rintro a rfl
   rw[c3]
   push_cast (disch:=omega)[hρ,aBool,g0,g2,g3,cells8]
   refine Q1 (ZK rs x.b) ?_
   rintro a rfl
   push_cast (disch:=omega)[hρ]
   refine ⟨Qy (by push_cast (disch:=omega)[hρ,g3,J84]),Qy (by push_cast (disch:=omega)[hρ,cells8,ex_Rg]),Qy (by push_cast (disch:=omega)[hρ,g0,J84]),?_⟩
   refine Q1 (ZK rs x.c) ?_
   rintro a rfl
   push_cast (disch:=omega)[hρ]
   refine ⟨Qy (by push_cast (disch:=omega)[hρ,g0,J84]),?_⟩
   refine Q1 (wrap_Do_a x.op (rg rs x.b) (rg rs x.c)) ?_
   rintro a rfl
   generalize wrapD x.op (rg rs x.b) (rg rs x.c)=wd at e1
   by_cases c4:wd.2≠0
   ·rw[if_pos c4] at e1
    have c4':¬wd.2=0:=c4
    have hb0:fillA [AV.v (.int .i64 0),AV.v (.int .i64 0),AV.v (.int .i64 0),AV.v (.int .i64 0),AV.v (.int .i64 0)] [] []=some (aEf ef0):=by simp[fillA,aEf,ef0]
    push_cast (disch:=omega)[hρ,aInt,c4',cells8,hb0]
    refine Q8 (cs:=aRg z8) rfl rfl rfl (by decide) ?_
    rw[hset8]
    push_cast (disch:=omega)[hρ]
    refine Q8 (cs:=aEf ef0) rfl rfl rfl (by decide) ?_
    rw[hset5]
    push_cast (disch:=omega)[hρ,cells8,cells5]
    exact fin _ _ e1
   ·rw[if_neg c4] at e1
    have c4':wd.2=0:=by simpa using c4
    push_cast (disch:=omega)[hρ,aInt,c4',g1]
    refine Q1 (QB x.a) ?_
    rintro a rfl
    push_cast (disch:=omega)[hρ,aInt]
    refine Q6 rfl rfl rfl hlen ?_
    rw[hse]
    push_cast (disch:=omega)
    exact hN _ _ ⟨IntKind.i64.wrap (pc+1),_,by push_cast (disch:=omega)[hρ],rfl,e1⟩
  have c3':knownB x.op=false:=by simpa using c3
  by_cases c5:x.op=18
  ·push_cast (disch:=omega)[hρ,g0,c1,c2]
   refine Q1 (Z12 x.op) ?_
   rintro a rfl
   rw[c3']
   push_cast (disch:=omega)[hρ,aBool,g0,g1,c5]
   exact hN _ _ ⟨x.a,_,by push_cast (disch:=omega)[hρ],rfl,by unfold doF;rw[if_neg c1,if_neg c2,if_neg c3,if_pos c5]⟩
  by_cases c6:x.op=19
  ·push_cast (disch:=omega)[hρ,g0,c1,c2]
   refine Q1 (Z12 x.op) ?_
   rintro a rfl
   rw[c3']
   push_cast (disch:=omega)[hρ,aBool,g0,g1,c5,c6,cells8]
   refine Q1 (ZK rs x.a) ?_
   rintro a rfl
   by_cases c7:rg rs x.a=0
   ·push_cast (disch:=omega)[hρ,aInt,c7,g2]
    exact hN _ _ ⟨x.b,_,by push_cast (disch:=omega)[hρ],rfl,by unfold doF;rw[if_neg c1,if_neg c2,if_neg c3,if_neg c5,if_pos ⟨c6,c7⟩]⟩
   ·push_cast (disch:=omega)[hρ,aInt,c7,g2]
    exact hN _ _ ⟨IntKind.i64.wrap (pc+1),_,by push_cast (disch:=omega)[hρ],rfl,by unfold doF;rw[if_neg c1,if_neg c2,if_neg c3,if_neg c5,if_neg fun h=>c7 h.2]⟩
  ·push_cast (disch:=omega)[hρ,g0,c1,c2]
   refine Q1 (Z12 x.op) ?_
   rintro a rfl
   rw[c3']
   push_cast (disch:=omega)[hρ,aBool,g0,g1,c5,c6]
   exact hN _ _ ⟨IntKind.i64.wrap (pc+1),_,by push_cast (disch:=omega)[hρ],rfl,by unfold doF;rw[if_neg c1,if_neg c2,if_neg c3,if_neg c5,if_neg fun h=>c6 h.1]⟩
 clear hρ ε
 rintro ε σ ⟨nx,rs',hρ,rfl,hD⟩
 push_cast (disch:=omega)[hρ,cells8,cellsIx']
 refine Q1 (step_of_a x rs) ?_
 rintro a rfl
 push_cast (disch:=omega)[hρ]
 refine ⟨Qy (by push_cast (disch:=omega)[hρ,cells8,ex_Rg]),?_⟩
 refine Q8 (cs:=aRg z8) rfl rfl rfl (by decide) ?_
 rw[hset8]
 push_cast (disch:=omega)[hρ]
 refine Q8 (cs:=aEf ef0) rfl rfl rfl (by decide) ?_
 rw[hset5]
 push_cast (disch:=omega)[hρ,cells8,cells5]
 exact fin _ _ hD
set_option maxHeartbeats 8000000 in
theorem JG (rs:List Int) (e:Ef) (got:Int) (hr:rs.length=8):FnP Tryz.prog 157 [.agg (aRg rs),.agg (aEf e),aInt got] fun a=>a=.agg (aRg (tookR rs e got)):=by
 refine Qg K_step_Took mixed rfl (by simp[AV.pureL,AV.pure,Yh,X24,aInt]) ?_
 simp only[Jx,aInt]
 have hae:(AV.agg (aEf e)).cells=aEf e:=rfl
 have har:(AV.agg (aRg rs)).cells=aRg rs:=rfl
 have g0:(aEf e)[0]?=some (.v (.int .i64 e.k)):=rfl
 have g2:(aEf e)[2]?=some (.v (.int .i64 e.v)):=rfl
 have g4:(aEf e)[4]?=some (.v (.int .i64 e.r)):=rfl
 obtain ⟨hh0,hh1⟩:=held_in e.r
 have hse:=fun v=>rg_set hr e.r v
 have hlen:(heldN e.r).toNat < (aRg rs).length:=J85 e.r
 have hset8:∀r:List Int,setAtA (aRg z8) 0 (aRg r)=aRg r:=fun r=>rfl
 have fin:∀(r:List Int) (σ:Kx.St),tookR rs e got=r→∃is,((AV.agg (aRg r)).res (Go.Kx.freeze is σ)).pure=true∧(AV.agg (aRg r)).res (Go.Kx.freeze is σ)=.agg (aRg (tookR rs e got)):=fun r σ h=>by rw[h];exact J79 [] (by simp[AV.res,aRg_res]) (by simp[AV.pure,X24])
 refine Q9 (fun ε σ=>(ε 2=.v (.int .i64 got)∧ε 3=.ref 0 0 0∧ε 4=.ref 1 0 0∧ε 6=.ref 2 0 0)∧σ=[.obj 0 (aRg rs),.obj 0 (aEf e),.obj 0 (aRg z8)]) ?_ ?_
 ·intro N X R hN
  push_cast (maxSteps:=999999) (disch:=omega)
  refine Qn ?_
  push_cast (maxSteps:=999999) (disch:=omega)[har]
  refine Qn ?_
  push_cast (maxSteps:=999999) (disch:=omega)[hae]
  refine Qb ?_
  push_cast (maxSteps:=999999) (disch:=omega)
  exact hN _ _ ⟨by push_cast (maxSteps:=999999) (disch:=omega),rfl⟩
 rintro ε σ ⟨hρ,rfl⟩
 refine Q9 (fun ε σ=>(ε 3=.ref 0 0 0∧ε 6=.ref 2 0 0)∧σ=[.obj 0 (aRg (tookR rs e got)),.obj 0 (aEf e),.obj 0 (aRg z8)]) ?_ ?_
 ·intro N X R hN
  by_cases c4:e.k=4
  ·have ht:∀v,v=(if got=e.v then 1 else 0)→tookR rs e got=setR rs e.r v:=fun v h=>by unfold tookR;rw[if_pos c4,h]
   by_cases cg:got=e.v
   ·rw[ht 1 (by rw[if_pos cg])] at hN
    push_cast (maxSteps:=999999) (disch:=omega)[hρ,g0,c4,g2,cg,g4]
    refine Q1 (QB e.r) ?_
    rintro a rfl
    push_cast (maxSteps:=999999) (disch:=omega)[hρ,aInt]
    refine Q6 rfl rfl rfl hlen ?_
    rw[hse]
    push_cast (maxSteps:=999999) (disch:=omega)
    exact hN _ _ ⟨by push_cast (maxSteps:=999999) (disch:=omega)[hρ],rfl⟩
   ·rw[ht 0 (by rw[if_neg cg])] at hN
    push_cast (maxSteps:=999999) (disch:=omega)[hρ,g0,c4,g2,cg,g4]
    refine Q1 (QB e.r) ?_
    rintro a rfl
    push_cast (maxSteps:=999999) (disch:=omega)[hρ,aInt]
    refine Q6 rfl rfl rfl hlen ?_
    rw[hse]
    push_cast (maxSteps:=999999) (disch:=omega)
    exact hN _ _ ⟨by push_cast (maxSteps:=999999) (disch:=omega)[hρ],rfl⟩
  by_cases c1:e.k=1
  ·have ht:tookR rs e got=setR rs e.r got:=by unfold tookR;rw[if_neg c4,if_pos (.inl c1)]
   rw[ht] at hN
   push_cast (maxSteps:=999999) (disch:=omega)[hρ,g0,c4,c1,g4]
   refine Q1 (QB e.r) ?_
   rintro a rfl
   push_cast (maxSteps:=999999) (disch:=omega)[hρ,aInt]
   refine Q6 rfl rfl rfl hlen ?_
   rw[hse]
   push_cast (maxSteps:=999999) (disch:=omega)
   exact hN _ _ ⟨by push_cast (maxSteps:=999999) (disch:=omega)[hρ],rfl⟩
  by_cases c3:e.k=3
  ·have ht:tookR rs e got=setR rs e.r got:=by unfold tookR;rw[if_neg c4,if_pos (.inr c3)]
   rw[ht] at hN
   push_cast (maxSteps:=999999) (disch:=omega)[hρ,g0,c4,c1,c3,g4]
   refine Q1 (QB e.r) ?_
   rintro a rfl
   push_cast (maxSteps:=999999) (disch:=omega)[hρ,aInt]
   refine Q6 rfl rfl rfl hlen ?_
   rw[hse]
   push_cast (maxSteps:=999999) (disch:=omega)
   exact hN _ _ ⟨by push_cast (maxSteps:=999999) (disch:=omega)[hρ],rfl⟩
  have ht:tookR rs e got=rs:=by unfold tookR;rw[if_neg c4,if_neg (by omega)]
  rw[ht] at hN
  push_cast (maxSteps:=999999) (disch:=omega)[hρ,g0,c4,c1,c3]
  exact hN _ _ ⟨by push_cast (maxSteps:=999999) (disch:=omega)[hρ],rfl⟩
 clear hρ ε
 rintro ε σ ⟨hρ,rfl⟩
 push_cast (maxSteps:=999999) (disch:=omega)[hρ,cells8]
 refine Q8 (cs:=aRg z8) rfl rfl rfl (by decide) ?_
 rw[hset8]
 push_cast (maxSteps:=999999) (disch:=omega)[hρ,cells8]
 exact fin _ _ rfl
end Go.Proofs.YtelibaobkcokdaaGreat
namespace Go.Proofs.YtelibaobkcokdaaGreat
set_option linter.unusedSectionVars false
set_option linter.unusedVariables false
set_option linter.unusedSimpArgs false
open Go Go.Kx Go.Proofs
def aSf (f:Sf):List AV:=[.v (.int .i64 f.kind),.v (.int .i64 f.fn),.v (.int .i64 f.pc),aR1 f.regs 0,aR1 f.regs 1,aR1 f.regs 2,aR1 f.regs 3,aR1 f.regs 4,aR1 f.regs 5,aR1 f.regs 6,aR1 f.regs 7,.v (.bool f.dirty),.v (.int .i64 f.index),.v (.int .i64 f.stage),.v (.int .i64 f.serial)]
theorem Y22 (f:Sf):(aSf f).length=15:=rfl
def aMk (p:Int×Int):List AV:=[.v (.int .i64 p.1),.v (.int .i64 p.2),.v (.int .i64 0)]
def evC (m:Int) (n w wm wo:Nat) (s:Sv):List AV:=
 [.v (.int .i64 m),.ms 0 0 0 n 1,.ms 6 w 0 s.l.length 15,.ref 3 0 0,.sl s.marks.length (s.marks.flatMap aMk) (.id 7 wm 3),.v (.int .i64 s.serial),.v (.int .i64 s.status),.v (.int .i64 s.why),
  .sl s.out.length (s.out.map aInt) (.id 8 wo 1),.sl 0 [] .nil,.v (.int .i64 s.steps),.v (.int .i64 s.frames),.v (.int .i64 s.deepest)]
def FrAt (cs:List AV) (l:List Sf):Prop:=l.length * 15≤cs.length∧cs.take (l.length * 15)=l.reverse.flatMap aSf
structure MA (m:Int) (fs:List (List Ix)) (σ:Kx.St) (w:Nat) (s:Sv):Prop where
 fz:σ[0]?=some (.frz 0 (fs.map aIxs))
 wd:σ[2]?=some (.obj 0 (s.data.map aInt))
 st:σ[3]?=some (.obj 0 [.ms 2 0 0 s.data.length 1,.v .nilFunc])
 ev:∃wm wo,σ[4]?=some (.obj 0 (evC m fs.length w wm wo s))∧σ[7]?=some (.tail wm)∧σ[8]?=some (.tail wo)
 fr:∃cs,σ[6]?=some (.obj w cs)∧FrAt cs s.l
theorem MA.app {m:Int} {fs:List (List Ix)} {σ τ:Kx.St} {w:Nat} {s:Sv} (h:MA m fs σ w s):MA m fs (σ++τ) w s:=by
 obtain ⟨wm,wo,h1,h2,h3⟩:=h.ev
 obtain ⟨cs,h4,h5⟩:=h.fr
 exact ⟨Qj h.fz,Qj h.wd,Qj h.st,⟨wm,wo,Qj h1,Qj h2,Qj h3⟩,⟨cs,Qj h4,h5⟩⟩
theorem MA.len {m:Int} {fs:List (List Ix)} {σ:Kx.St} {w:Nat} {s:Sv} (h:MA m fs σ w s):8 < σ.length:=by
 obtain ⟨wm,wo,h1,h2,h3⟩:=h.ev
 exact Qe h3
theorem MA.set {m:Int} {fs:List (List Ix)} {σ:Kx.St} {w:Nat} {s:Sv} (h:MA m fs σ w s) {j:Nat} (hj:8 < j) (o:Res):MA m fs (σ.set j o) w s:=by
 obtain ⟨wm,wo,h1,h2,h3⟩:=h.ev
 obtain ⟨cs,h4,h5⟩:=h.fr
 exact ⟨Q4 (by omega) h.fz,Q4 (by omega) h.wd,Q4 (by omega) h.st,⟨wm,wo,Q4 (by omega) h1,Q4 (by omega) h2,Q4 (by omega) h3⟩,⟨cs,Q4 (by omega) h4,h5⟩⟩
theorem X25 (A B:List AV) (off:Nat):∀(l:List AV) (B:List AV) (off:Nat),setAtA (A++B) (A.length+off) l=A++setAtA B off l:=by
 intro l
 induction l with
 | nil=>intro B off;rfl
 | cons a l ih=>
  intro B off
  show setAtA ((A++B).set (A.length+off) a) (A.length+off+1) l=A++setAtA (B.set off a) (off+1) l
  rw[List.set_append_right _ _ (by omega),show A.length+off - A.length=off by omega,show A.length+off+1=A.length+(off+1) by omega,ih]
theorem flat_setN {α:Type} {f:α→List AV} {n:Nat} (hn:∀a,(f a).length=n) {x:AV} {j:Nat} (hj:j < n):∀{L:List α} {k:Nat} {g g':α},L[k]?=some g→(f g).set j x=f g'→(L.flatMap f).set (k * n+j) x=(L.set k g').flatMap f:=by
 intro L
 induction L with
 | nil=>intro k g g' h;simp at h
 | cons y L ih=>
  intro k g g' h hs
  cases k with
  | zero=>
   simp at h;subst h
   simp only[Nat.zero_mul,Nat.zero_add,List.set_cons_zero,List.flatMap_cons]
   rw[List.set_append_left _ _ (by rw[hn];exact hj),hs]
  | succ k=>
   rw[List.getElem?_cons_succ] at h
   simp only[List.set_cons_succ,List.flatMap_cons]
   rw[List.set_append_right _ _ (by rw[hn];rw[Nat.succ_mul];omega),hn,show (k+1) * n+j - n=k * n+j by rw[Nat.succ_mul];omega,ih h hs]
theorem FrAt.split {cs:List AV} {l:List Sf} (h:FrAt cs l):cs=l.reverse.flatMap aSf++cs.drop (l.length * 15):=by
 rw[←h.2,List.take_append_drop]
theorem FrAt.of {A B:List AV} {l:List Sf} (h:A=l.reverse.flatMap aSf):FrAt (A++B) l:=by
 subst h
 have hl:=Q28 Y22 l.reverse
 rw[List.length_reverse] at hl
 refine ⟨by rw[List.length_append,hl];omega,?_⟩
 rw[List.take_append_of_le_length (by omega),List.take_of_length_le (by omega)]
theorem FrAt.drop {cs:List AV} {l:List Sf} (h:FrAt cs l) {k:Nat} {g:Sf} (hg:l.reverse[k]?=some g):∃t,cs.drop (k * 15)=aSf g++t:=by
 have hk:=Qe hg
 have hl:=Q28 Y22 l.reverse
 rw[h.split,List.drop_append_of_le_length (by rw[hl];omega),QH Y22 hg,List.append_assoc]
 exact ⟨_,rfl⟩
theorem FrAt.get {cs:List AV} {l:List Sf} (h:FrAt cs l) {k:Nat} {g:Sf} (hg:l.reverse[k]?=some g) {j:Nat} {x:AV} (hx:(aSf g)[j]?=some x):cs[k * 15+j]?=some x:=by
 obtain ⟨t,ht⟩:=h.drop hg
 rw[←List.getElem?_drop,ht,List.getElem?_append_left (Qe hx)]
 exact hx
theorem FrAt.regs {cs:List AV} {l:List Sf} (h:FrAt cs l) {k:Nat} {g:Sf} (hg:l.reverse[k]?=some g):∃t,cs.drop (k * 15+3)=aRg g.regs++t:=by
 obtain ⟨t,ht⟩:=h.drop hg
 rw[←List.drop_drop,ht]
 exact ⟨_,rfl⟩
theorem FrAt.set {cs:List AV} {l:List Sf} (h:FrAt cs l) {k:Nat} {g g':Sf} (hg:l.reverse[k]?=some g) {j:Nat} (hj:j < 15) {x:AV} (hx:(aSf g).set j x=aSf g') {l':List Sf} (hl':l.reverse.set k g'=l'.reverse):FrAt (cs.set (k * 15+j) x) l':=by
 have hk:=Qe hg
 have hl:=Q28 Y22 l.reverse
 rw[h.split,List.set_append_left _ _ (by rw[hl];omega)]
 exact FrAt.of (by rw[flat_setN Y22 hj hg hx,hl'])
theorem setAtA_left (A B:List AV):∀(l:List AV) (A:List AV) (off:Nat),off+l.length≤A.length→setAtA (A++B) off l=setAtA A off l++B:=by
 intro l
 induction l with
 | nil=>intro A off _;rfl
 | cons a l ih=>
  intro A off h
  simp only[List.length_cons] at h
  show setAtA ((A++B).set off a) (off+1) l=setAtA (A.set off a) (off+1) l++B
  rw[List.set_append_left _ _ (by omega),ih _ _ (by simp;omega)]
theorem FrAt.pop {cs:List AV} {f:Sf} {r:List Sf} (h:FrAt cs (f::r)):FrAt cs r:=by
 have hl:=Q28 Y22 r.reverse
 rw[List.length_reverse] at hl
 rw[h.split,List.reverse_cons,List.flatMap_append,List.append_assoc]
 exact FrAt.of rfl
theorem FrAt.push {cs:List AV} {l:List Sf} (h:FrAt cs l) (f:Sf):FrAt (cs.take (l.length * 15)++aSf f) (f::l):=by
 rw[h.2]
 have:l.reverse.flatMap aSf++aSf f=(f::l).reverse.flatMap aSf:=by simp
 rw[this,←List.append_nil ((f::l).reverse.flatMap aSf)]
 exact FrAt.of rfl
theorem J9 {d:List Int} {at_:Int} (h:¬(at_ < 0∨(d.length:Int)≤at_)):(d.map aInt)[at_.toNat]?=some (.v (.int .i64 (d.getD at_.toNat 0))):=by
 obtain ⟨x,hx⟩:=Q09 (l:=d) (k:=at_.toNat) (by omega)
 rw[List.getElem?_map,List.getD_eq_getElem?_getD,hx]
 rfl
theorem Q06 {α:Type} {l:List α} {i:Nat} {x:α} (h:l[i]?=some x):l.set i x=l:=by
 refine List.ext_getElem? fun j=>?_
 by_cases e:i=j
 ·subst e;rw[List.getElem?_set_self (Qe h),h]
 ·rw[List.getElem?_set_ne e]
theorem Ja (d:List Int) (k:Nat) (v:Int):(d.map aInt).set k (.v (.int .i64 v))=(d.set k v).map aInt:=by rw[List.map_set];rfl
section
variable {σ:Kx.St} {d:List Int} (hst:σ[3]?=some (.obj 0 [.ms 2 0 0 d.length 1,.v .nilFunc])) (hwd:σ[2]?=some (.obj 0 (d.map aInt)))
include hst hwd
end
end Go.Proofs.YtelibaobkcokdaaGreat
