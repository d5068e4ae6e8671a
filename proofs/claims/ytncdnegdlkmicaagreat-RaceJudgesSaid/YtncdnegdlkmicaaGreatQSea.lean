/- Serial: what a program does, step by step; what is kept; with more fuel. Plain. -/
import Derived.Test.YtncdnegdlkmicaaGreatQPra
namespace Go.Proofs.YtncdnegdlkmicaaGreat
set_option linter.unusedVariables false
set_option linter.unusedSimpArgs false
open Go Go.Kx Go.Proofs
theorem w64_id {n:Int} (h0:0≤n) (h1:n≤9223372036854775807):IntKind.i64.wrap n=n:=Z90 n (by omega) h1
def bAnd (a b:Int):Int:=IntKind.i64.wrap (BitVec.ofInt IntKind.i64.bits a &&& BitVec.ofInt IntKind.i64.bits b).toNat
def bOr (a b:Int):Int:=IntKind.i64.wrap (BitVec.ofInt IntKind.i64.bits a ||| BitVec.ofInt IntKind.i64.bits b).toNat
def bXor (a b:Int):Int:=IntKind.i64.wrap (BitVec.ofInt IntKind.i64.bits a ^^^ BitVec.ofInt IntKind.i64.bits b).toNat
def wrapD (op a b:Int):Int×Int:=
 if op=3 then (IntKind.i64.wrap (a+b),0)
 else if op=4 then (IntKind.i64.wrap (a - b),0)
 else if op=5 then (IntKind.i64.wrap (a * b),0)
 else if op=6∨op=7 then (if b=0 then (0,1) else if op=6 then (IntKind.i64.wrap (a.tdiv b),0) else (a.tmod b,0))
 else if op=8 then (if a < b then 1 else 0,0)
 else if op=9 then (if a=b then 1 else 0,0)
 else if op=10 then (bAnd a b,0)
 else if op=11 then (bOr a b,0)
 else if op=12 then (bXor a b,0)
 else (0,0)
theorem let20 {x:Ix} (h:x.op=20∨x.op=22):letX x=[102]:=by unfold letX;rcases h with h|h<;>(rw[h];rfl)
theorem ins2x {x:Ix} (h:insE x=0) (c:x.op=20∨x.op=22):0≤x.a∧x.a≤15:=by
 have:=(X25 h).1
 rw[let20 c] at this
 have e:fitB 102 x.a=decide (0≤x.a∧x.a≤15):=rfl
 simpa[opsX,e] using this
structure Ef where
 k:Int
 at_:Int
 v:Int
 o:Int
 r:Int
def ef0:Ef:=⟨0,0,0,0,0⟩
def heldN (n:Int):Int:=min (max n 0) 7
def rg (rs:List Int) (n:Int):Int:=rs.getD (heldN n).toNat 0
def knownB (op:Int):Bool:=decide (3≤op∧op≤12)
def ofE (x:Ix) (rs:List Int):Ef:=
 let a:=rg rs x.a;let b:=rg rs x.b;let c:=rg rs x.c
 if x.op=13 then ⟨1,b,0,0,heldN x.a⟩
 else if x.op=14 then ⟨2,a,b,0,0⟩
 else if x.op=15 then ⟨3,b,c,0,heldN x.a⟩
 else if x.op=16 then ⟨4,b,a,c,heldN x.a⟩
 else if x.op=17 then ⟨5,0,a,0,0⟩
 else if x.op=20 then ⟨6,0,x.a,0,0⟩
 else if x.op=21 then ⟨7,0,0,0,0⟩
 else if x.op=22 then ⟨8,0,x.a,0,0⟩
 else if x.op=23 then ⟨9,0,a,0,0⟩
 else if x.op=24 then ⟨10,0,a,0,0⟩
 else if x.op=25 then ⟨11,0,0,0,0⟩
 else if x.op=0 then ⟨12,0,0,0,0⟩
 else ef0
def setR (rs:List Int) (n v:Int):List Int:=rs.set (heldN n).toNat v
def doF (x:Ix) (pc:Int) (rs:List Int):Int×List Int×Ef×Int:=
 if x.op=1 then (IntKind.i64.wrap (pc+1),setR rs x.a x.b,ofE x rs,0)
 else if x.op=2 then (IntKind.i64.wrap (pc+1),setR rs x.a (rg rs x.b),ofE x rs,0)
 else if knownB x.op then
  if (wrapD x.op (rg rs x.b) (rg rs x.c)).2≠0 then (pc,rs,ef0,(wrapD x.op (rg rs x.b) (rg rs x.c)).2)
  else (IntKind.i64.wrap (pc+1),setR rs x.a (wrapD x.op (rg rs x.b) (rg rs x.c)).1,ofE x rs,0)
 else if x.op=18 then (x.a,rs,ofE x rs,0)
 else if x.op=19∧rg rs x.a=0 then (x.b,rs,ofE x rs,0)
 else (IntKind.i64.wrap (pc+1),rs,ofE x rs,0)
def tookR (rs:List Int) (e:Ef) (got:Int):List Int:=
 if e.k=4 then setR rs e.r (if got=e.v then 1 else 0)
 else if e.k=1∨e.k=3 then setR rs e.r got
 else rs
structure Sf where
 kind:Int
 fn:Int
 pc:Int
 regs:List Int
 dirty:Bool
 index:Int
 stage:Int
 serial:Int
structure Sv where
 l:List Sf
 data:List Int
 marks:List (Int×Int)
 serial:Int
 status:Int
 why:Int
 out:List Int
 steps:Int
 frames:Int
 deepest:Int
def z8:List Int:=[0,0,0,0,0,0,0,0]
def Sv.mark (s:Sv) (k a:Int):Sv:={ s with marks:=s.marks++[(k,a)] }
def Sv.push (s:Sv) (f:Sf):Sv:={ s with l:=f::s.l,frames:=IntKind.i64.wrap (s.frames+1),deepest:=max s.deepest (s.l.length+1:Nat) }
def Sv.pop (s:Sv):Sv:={ s with l:=s.l.tail }
def Sv.setTop (s:Sv) (g:Sf→Sf):Sv:=match s.l with|f::r=>{ s with l:=g f::r }|[]=>s
def Sv.set2 (s:Sv) (g:Sf→Sf):Sv:=match s.l with|f::q::r=>{ s with l:=f::g q::r }|_=>s
def Sv.stop (s:Sv) (st why:Int):Sv:={ s with status:=st,why:=why }
def Sv.top (s:Sv):Sf:=s.l.headD ⟨0,0,0,z8,false,0,0,0⟩
def Sv.iterate (s:Sv):Sv:=
 ((s.setTop fun f=>{ f with index:=IntKind.i64.wrap (f.index+1) }).mark 9 s.top.index).push ⟨2,s.top.fn,0,s.top.regs,false,s.top.index,0,0⟩
def askD (d:List Int) (e:Ef):Int×Bool×List Int:=
 if e.at_ < 0∨(d.length:Int)≤e.at_ then (0,false,d)
 else if e.k=1 then (d.getD e.at_.toNat 0,true,d)
 else if e.k=2 then (0,true,d.set e.at_.toNat e.v)
 else if e.k=3 then (d.getD e.at_.toNat 0,true,d.set e.at_.toNat (IntKind.i64.wrap (d.getD e.at_.toNat 0+e.v)))
 else if e.k=4 then (d.getD e.at_.toNat 0,true,if d.getD e.at_.toNat 0=e.v then d.set e.at_.toNat e.o else d)
 else (0,false,d)
def Sv.ask (s:Sv) (pc:Int) (rs:List Int) (e:Ef):Sv:=
 if (askD s.data e).2.1 then (({ s with data:=(askD s.data e).2.2 }).mark (if e.k=1 then 1 else 2) e.at_).setTop fun f=>{ f with pc:=pc,regs:=tookR rs e (askD s.data e).1 }
 else s.stop 4 2
def Sv.keep (s:Sv):Sv:=if s.top.stage=0 then s.set2 fun q=>{ q with regs:=s.top.regs } else s
def Sv.begins (s:Sv) (e:Ef):Sv:=
 if e.k=5 then ({ s with out:=s.out++[e.v] }).mark 3 e.v
 else if e.k=6 then ((s.setTop fun f=>{ f with dirty:=true }).mark 4 0).push ⟨1,e.v,0,s.top.regs,false,0,0,0⟩
 else if e.k=8 then ((({ s with serial:=IntKind.i64.wrap (s.serial+1) }).mark 7 (IntKind.i64.wrap (s.serial+1))).push ⟨3,e.v,0,s.top.regs,false,0,0,IntKind.i64.wrap (s.serial+1)⟩).iterate
 else s
def goE (st to:Int):Int:=if to≤st∨1048575 < to then 3 else 0
def Sv.goOn (s:Sv) (pc:Int) (e:Ef):Sv:=
 if s.top.kind≠2 then s.stop 4 4
 else if goE s.top.stage e.v≠0 then s.stop 4 (goE s.top.stage e.v)
 else (s.keep.setTop fun f=>{ f with pc:=pc,stage:=e.v }).mark (if e.k=9 then 11 else 12) e.v
def Sv.leave (s:Sv):Sv:=
 if s.top.kind≠2 then s.stop 4 4
 else if s.top.stage≠0 then s.stop 4 5
 else (((s.keep.mark 10 s.top.index).pop.pop).mark 8 (s.keep.pop.top.serial)).setTop fun f=>{ f with regs:=s.keep.pop.top.regs }
def Sv.back (s:Sv):Sv:=
 if s.top.kind=2 then ((s.keep.mark 10 s.top.index).pop).iterate
 else if s.l.length=1 then s.stop 1 0
 else (s.mark 5 0).pop
def endsE (e:Ef):Bool:=decide (7≤e.k∧e.k≤12)
def Sv.meet (s:Sv) (e:Ef):Sv:=if endsE e&&s.top.dirty then (s.setTop fun f=>{ f with dirty:=false }).mark 6 0 else s
def Sv.act (s:Sv) (r:Int×List Int×Ef×Int):Sv:=
 if r.2.2.2≠0 then s.stop 4 r.2.2.2
 else if 1≤r.2.2.1.k∧r.2.2.1.k≤4 then s.ask r.1 r.2.1 r.2.2.1
 else if r.2.2.1.k=9∨r.2.2.1.k=10 then s.goOn r.1 r.2.2.1
 else if r.2.2.1.k=11 then s.leave
 else if r.2.2.1.k=12 then s.back
 else (s.setTop fun f=>{ f with pc:=r.1,regs:=r.2.1 }).begins r.2.2.1
def insAt (fs:List (List Ix)) (f:Sf):Ix:=(fs.getD f.fn.toNat []).getD f.pc.toNat ⟨0,0,0,0⟩
def doS (fs:List (List Ix)) (s:Sv):Int×List Int×Ef×Int:=doF (insAt fs s.top) s.top.pc s.top.regs
def oneS (fs:List (List Ix)) (s:Sv):Sv:=(({ s with steps:=IntKind.i64.wrap (s.steps+1) }).meet (doS fs s).2.2.1).act (doS fs s)
def loopS (fs:List (List Ix)):Nat→Sv→Sv
 | 0,s=>s
 | n+1,s=>if (oneS fs s).status≠0 then oneS fs s else loopS fs n (oneS fs s)
def initS (m:Int) (inp:List Int):Sv:=(⟨[],inp++List.replicate (m.toNat - inp.length) 0,[],0,0,0,[],0,0,0⟩:Sv).push ⟨1,0,0,z8,false,0,0,0⟩
def finS (s:Sv):Sv:=if s.status=0 then s.stop 6 0 else s
def runS (m:Int) (fs:List (List Ix)) (inp:List Int) (fuel:Nat):Sv:=finS (loopS fs fuel (initS m inp))
def runE (m:Int) (fs:List (List Ix)) (inp:List Int):Int:=if prgE m fs≠0 then prgE m fs else if m < inp.length then 9 else 0
def stk:List Sf→Prop
 | []=>False
 | [f]=>f.kind=1
 | f::q::r=>(f.kind=1∧stk (q::r))∨(f.kind=2∧q.kind=3∧stk r)
theorem stk.kind {f:Sf} {r:List Sf} (h:stk (f::r)):f.kind=1∨f.kind=2:=by
 cases r with
 | nil=>exact .inl h
 | cons q r=>rcases h with h|h;exact .inl h.1;exact .inr h.1
theorem stk.ne {l:List Sf} (h:stk l):∃f r,l=f::r:=by
 cases l with
 | nil=>exact h.elim
 | cons f r=>exact ⟨f,r,rfl⟩
theorem stk.turn {f g:Sf} {r:List Sf} (h:stk (f::r)) (hk:g.kind=f.kind):stk (g::r):=by
 cases r with
 | nil=>exact hk.trans h
 | cons q r=>
  rcases h with h|h
  ·exact .inl ⟨hk.trans h.1,h.2⟩
  ·exact .inr ⟨hk.trans h.1,h.2⟩
theorem stk.task {l:List Sf} {f:Sf} (h:stk l) (hk:f.kind=1):stk (f::l):=by
 obtain ⟨q,r,rfl⟩:=h.ne
 exact .inl ⟨hk,h⟩
theorem stk.iter {l:List Sf} {f q:Sf} (h:stk l) (hk:f.kind=2) (hq:q.kind=3):stk (f::q::l):=.inr ⟨hk,hq,h⟩
theorem stk.loop {f:Sf} {r:List Sf} (h:stk (f::r)) (hk:f.kind=2):∃q r',r=q::r'∧q.kind=3∧stk r':=by
 cases r with
 | nil=>have:f.kind=1:=h;omega
 | cons q r=>
  rcases h with h|h
  ·have:=h.1;omega
  ·exact ⟨q,r,rfl,h.2⟩
theorem stk.under {f q:Sf} {r:List Sf} (h:stk (f::q::r)) (hk:f.kind=1):stk (q::r):=by
 rcases h with h|h
 ·exact h.2
 ·have:=h.1;omega
structure SfOk (fs:List (List Ix)) (f:Sf):Prop where
 at_:∃l,fs[f.fn.toNat]?=some l∧0≤f.fn∧0≤f.pc∧f.pc < l.length
 regs:f.regs.length=8
structure Wf (fs:List (List Ix)) (s:Sv):Prop where
 st:stk s.l
 ok:∀f∈s.l,SfOk fs f
theorem Z53 (rs:List Int) (n v:Int):(setR rs n v).length=rs.length:=by simp[setR]
theorem tookR_len (rs:List Int) (e:Ef) (g:Int):(tookR rs e g).length=rs.length:=by
 unfold tookR
 split
 ·exact Z53 _ _ _
 ·split
  ·exact Z53 _ _ _
  ·rfl
structure Fns (fs:List (List Ix)):Prop where
 fo:∀l∈fs,Fo l fs.length
 le:fs.length≤40
theorem ofE_k (x:Ix) (rs:List Int):((ofE x rs).k=11→x.op=25)∧((ofE x rs).k=12→x.op=0)∧((ofE x rs).k=6→x.op=20∧(ofE x rs).v=x.a)∧((ofE x rs).k=8→x.op=22∧(ofE x rs).v=x.a)∧(x.op=25→(ofE x rs).k=11)∧(x.op=0→(ofE x rs).k=12):=by
 unfold ofE
 simp only
 by_cases h13:x.op=13
 ·simp[h13]
 by_cases h14:x.op=14
 ·simp[h14]
 by_cases h15:x.op=15
 ·simp[h15]
 by_cases h16:x.op=16
 ·simp[h16]
 by_cases h17:x.op=17
 ·simp[h17]
 by_cases h20:x.op=20
 ·simp[h20]
 by_cases h21:x.op=21
 ·simp[h21]
 by_cases h22:x.op=22
 ·simp[h22]
 by_cases h23:x.op=23
 ·simp[h23]
 by_cases h24:x.op=24
 ·simp[h24]
 by_cases h25:x.op=25
 ·simp[h25]
 by_cases h0:x.op=0
 ·simp[h0]
 simp[h13,h14,h15,h16,h17,h20,h21,h22,h23,h24,h25,h0,ef0]
theorem do_ok {fs:List (List Ix)} (hF:Fns fs) {l:List Ix} (hl:l∈fs) {x:Ix} {pc:Int} (h0:0≤pc) (hx:l[pc.toNat]?=some x) {rs:List Int} (hr:rs.length=8):
  (doF x pc rs).2.1.length=8∧((doF x pc rs).2.2.2=0→(doF x pc rs).2.2.1.k≠11→(doF x pc rs).2.2.1.k≠12→0≤(doF x pc rs).1∧(doF x pc rs).1 < l.length) ∧
   ((doF x pc rs).2.2.1.k=6∨(doF x pc rs).2.2.1.k=8→0≤(doF x pc rs).2.2.1.v∧(doF x pc rs).2.2.1.v < fs.length):=by
 have hfo:=hF.fo l hl
 obtain ⟨hi,hle⟩:=hfo.al x (List.mem_of_getElem? hx)
 have hlt:=Qm hx
 have h200:=hfo.le
 have hw:IntKind.i64.wrap (pc+1)=pc+1:=w64_id (by omega) (by omega)
 have hnext:endsX x=false→0≤IntKind.i64.wrap (pc+1)∧IntKind.i64.wrap (pc+1) < l.length:=by
  intro he
  rw[hw]
  by_cases e:pc.toNat=l.length - 1
  ·rw[e] at hx
   rw[hfo.rt.last x hx] at he;cases he
  ·omega
 obtain ⟨k11,k12,k6,k8,_,_⟩:=ofE_k x rs
 have hfn:(ofE x rs).k=6∨(ofE x rs).k=8→0≤(ofE x rs).v∧(ofE x rs).v < fs.length:=by
  intro h
  have hop:x.op=20∨x.op=22:=by rcases h with h|h;exact .inl (k6 h).1;exact .inr (k8 h).1
  have hv:(ofE x rs).v=x.a:=by rcases h with h|h;exact (k6 h).2;exact (k8 h).2
  rw[hv]
  unfold leadB at hle
  rw[if_neg (by omega),if_neg (by omega),if_pos hop] at hle
  have:=ins2x hi hop
  simp at hle
  omega
 have hkk:∀e:Ef,e=ofE x rs→(e.k≠11→e.k≠12→¬x.op=18→endsX x=false):=by
  rintro e rfl h1 h2 h3
  obtain ⟨_,_,_,_,b25,b0⟩:=ofE_k x rs
  unfold endsX
  simp only[decide_eq_false_iff_not]
  rintro (h|h|h)
  ·exact h2 (b0 h)
  ·exact h3 h
  ·exact h1 (b25 h)
 unfold doF
 by_cases c1:x.op=1
 ·rw[if_pos c1]
  exact ⟨by simp[Z53,hr],fun _ a b=>hnext (hkk _ rfl a b (by omega)),hfn⟩
 rw[if_neg c1]
 by_cases c2:x.op=2
 ·rw[if_pos c2]
  exact ⟨by simp[Z53,hr],fun _ a b=>hnext (hkk _ rfl a b (by omega)),hfn⟩
 rw[if_neg c2]
 by_cases c3:knownB x.op=true
 ·rw[if_pos c3]
  have c3':¬x.op=18:=by unfold knownB at c3;simp at c3;omega
  by_cases c4:(wrapD x.op (rg rs x.b) (rg rs x.c)).2≠0
  ·rw[if_pos c4]
   exact ⟨hr,fun h=>absurd h c4,fun h=>by simp[ef0] at h⟩
  ·rw[if_neg c4]
   exact ⟨by simp[Z53,hr],fun _ a b=>hnext (hkk _ rfl a b c3'),hfn⟩
 rw[if_neg c3]
 by_cases c5:x.op=18
 ·rw[if_pos c5]
  exact ⟨hr,fun _ _ _=>hfo.rt.tg _ x x.a hx (tgt_jump c5),hfn⟩
 rw[if_neg c5]
 by_cases c6:x.op=19∧rg rs x.a=0
 ·rw[if_pos c6]
  exact ⟨hr,fun _ _ _=>hfo.rt.tg _ x x.b hx (by unfold tgtX;rw[if_neg c5,if_pos c6.1]),hfn⟩
 rw[if_neg c6]
 exact ⟨hr,fun _ a b=>hnext (hkk _ rfl a b c5),hfn⟩
theorem Wf.turn {fs:List (List Ix)} {s s':Sv} {f g:Sf} {r:List Sf} (h:Wf fs s) (hl:s.l=f::r) (hl':s'.l=g::r) (hk:g.kind=f.kind) (hg:SfOk fs g):Wf fs s':=by
 refine ⟨?_,fun x hx=>?_⟩
 ·rw[hl'];have:=h.st;rw[hl] at this;exact this.turn hk
 ·rw[hl'] at hx
  rcases List.mem_cons.1 hx with rfl|hx
  ·exact hg
  ·exact h.ok x (by rw[hl];simp[hx])
theorem Wf.same {fs:List (List Ix)} {s s':Sv} (h:Wf fs s) (hl:s'.l=s.l):Wf fs s':=⟨by rw[hl];exact h.st,fun x hx=>h.ok x (by rw[←hl];exact hx)⟩
theorem fn_ok {fs:List (List Ix)} (hF:Fns fs) {v:Int} (h0:0≤v) (h1:v < fs.length) {f:Sf} (hf:f.fn=v) (hp:f.pc=0) (hr:f.regs.length=8):SfOk fs f:=by
 obtain ⟨l,hl⟩:=Ql (l:=fs) (k:=v.toNat) (by omega)
 have:=(hF.fo l (List.mem_of_getElem? hl)).rt.pos
 exact ⟨⟨l,by rw[hf];exact hl,by omega,by omega,by omega⟩,hr⟩
theorem Wf.iterate {fs:List (List Ix)} (hF:Fns fs) {s:Sv} {q:Sf} {r:List Sf} (hl:s.l=q::r) (hq:q.kind=3) (hr:stk r) (hok:∀f∈q::r,SfOk fs f):Wf fs s.iterate:=by
 have hqo:=hok q (by simp)
 obtain ⟨l,h1,h2,h3,h4⟩:=hqo.at_
 have hlt:=Qm h1
 have e:s.iterate.l=⟨2,q.fn,0,q.regs,false,q.index,0,0⟩::{ q with index:=IntKind.i64.wrap (q.index+1) }::r:=by
  simp[Sv.iterate,Sv.push,Sv.mark,Sv.setTop,Sv.top,hl]
 refine ⟨?_,fun f hf=>?_⟩
 ·rw[e];exact hr.iter rfl hq
 ·rw[e] at hf
  rcases List.mem_cons.1 hf with rfl|hf
  ·exact fn_ok hF h2 (by omega) rfl rfl hqo.regs
  ·rcases List.mem_cons.1 hf with rfl|hf
   ·exact ⟨⟨l,h1,h2,h3,h4⟩,hqo.regs⟩
   ·exact hok f (by simp[hf])
theorem Sv.XD {s:Sv} {f q:Sf} {r:List Sf} (hl:s.l=f::q::r):s.keep.l=f::{ q with regs:=if f.stage=0 then f.regs else q.regs }::r:=by
 unfold Sv.keep
 have:s.top=f:=by simp[Sv.top,hl]
 rw[this]
 split
 ·simp[Sv.set2,hl]
 ·simp[hl]
theorem wf_act {fs:List (List Ix)} (hF:Fns fs) {s:Sv} (h:Wf fs s) {f:Sf} {r:List Sf} (hl:s.l=f::r) {l:List Ix} (hfl:fs[f.fn.toNat]?=some l) {p:Int×List Int×Ef×Int}
  (hreg:p.2.1.length=8) (hpc:p.2.2.2=0→p.2.2.1.k≠11→p.2.2.1.k≠12→0≤p.1∧p.1 < l.length) (hfn:p.2.2.1.k=6∨p.2.2.1.k=8→0≤p.2.2.1.v∧p.2.2.1.v < fs.length):Wf fs (s.act p):=by
 have hst:=h.st
 rw[hl] at hst
 have hok:=h.ok
 rw[hl] at hok
 have hfo:=hok f (by simp)
 obtain ⟨l',g1,g2,g3,g4⟩:=hfo.at_
 have htop:s.top=f:=by simp[Sv.top,hl]
 obtain ⟨pc,rs,e,ft⟩:=p
 simp only at hreg hpc hfn
 unfold Sv.act
 simp only
 by_cases c0:ft≠0
 ·rw[if_pos c0];exact h.same rfl
 rw[if_neg c0]
 have c0':ft=0:=by omega
 by_cases c1:1≤e.k∧e.k≤4
 ·rw[if_pos c1]
  unfold Sv.ask
  split
  ·have hp:=hpc c0' (by omega) (by omega)
   refine h.turn (g:={ f with pc:=pc,regs:=tookR rs e (askD s.data e).1 }) hl (by simp[Sv.mark,Sv.setTop,hl]) rfl ⟨⟨l,hfl,g2,hp⟩,by simp[tookR_len,hreg]⟩
  ·exact h.same rfl
 rw[if_neg c1]
 by_cases c2:e.k=9∨e.k=10
 ·rw[if_pos c2]
  unfold Sv.goOn
  rw[htop]
  by_cases d1:f.kind≠2
  ·rw[if_pos d1];exact h.same rfl
  rw[if_neg d1]
  split
  ·exact h.same rfl
  ·obtain ⟨q,r',rfl,hq,hr'⟩:=hst.loop (by simpa using d1)
   have hp:=hpc c0' (by omega) (by omega)
   have hkl:=Sv.XD hl
   have el:((s.keep.setTop fun f=>{ f with pc:=pc,stage:=e.v }).mark (if e.k=9 then 11 else 12) e.v).l={ f with pc:=pc,stage:=e.v }::{ q with regs:=if f.stage=0 then f.regs else q.regs }::r':=by
    simp[Sv.setTop,hkl,Sv.mark]
   refine ⟨?_,fun x hx=>?_⟩
   ·rw[el];exact hr'.iter (by simpa using d1) hq
   ·rw[el] at hx
    rcases List.mem_cons.1 hx with rfl|hx
    ·exact ⟨⟨l,hfl,g2,hp⟩,hfo.regs⟩
    ·rcases List.mem_cons.1 hx with rfl|hx
     ·have hqo:=hok q (by simp)
      exact ⟨hqo.at_,by simp only;split;exact hfo.regs;exact hqo.regs⟩
     ·exact hok x (by simp[hx])
 rw[if_neg c2]
 by_cases c3:e.k=11
 ·rw[if_pos c3]
  unfold Sv.leave
  rw[htop]
  by_cases d1:f.kind≠2
  ·rw[if_pos d1];exact h.same rfl
  rw[if_neg d1]
  split
  ·exact h.same rfl
  ·obtain ⟨q,r',rfl,hq,hr'⟩:=hst.loop (by simpa using d1)
   have hkl:=Sv.XD hl
   obtain ⟨t,r2,rfl⟩:=hr'.ne
   have htk:=hok t (by simp)
   have hqo:=hok q (by simp)
   have el:((((s.keep.mark 10 f.index).pop.pop).mark 8 (s.keep.pop.top.serial)).setTop fun f=>{ f with regs:=s.keep.pop.top.regs }).l={ t with regs:=if f.stage=0 then f.regs else q.regs }::r2:=by
    simp[Sv.setTop,hkl,Sv.mark,Sv.pop,Sv.top]
   refine ⟨?_,fun x hx=>?_⟩
   ·rw[el];exact hr'.turn rfl
   ·rw[el] at hx
    rcases List.mem_cons.1 hx with rfl|hx
    ·exact ⟨htk.at_,by simp only;split;exact hfo.regs;exact hqo.regs⟩
    ·exact hok x (by simp[hx])
 rw[if_neg c3]
 by_cases c4:e.k=12
 ·rw[if_pos c4]
  unfold Sv.back
  rw[htop]
  by_cases d1:f.kind=2
  ·rw[if_pos d1]
   obtain ⟨q,r',rfl,hq,hr'⟩:=hst.loop d1
   have hkl:=Sv.XD hl
   have hqo:=hok q (by simp)
   refine Wf.iterate hF (q:={ q with regs:=if f.stage=0 then f.regs else q.regs }) (r:=r') (by simp[Sv.mark,Sv.pop,hkl]) hq hr' fun x hx=>?_
   rcases List.mem_cons.1 hx with rfl|hx
   ·exact ⟨hqo.at_,by simp only;split;exact hfo.regs;exact hqo.regs⟩
   ·exact hok x (by simp[hx])
  rw[if_neg d1]
  split
  ·exact h.same rfl
  ·rename_i hlen
   have hk1:f.kind=1:=by rcases hst.kind with h|h;exact h;exact absurd h d1
   cases r with
   | nil=>rw[hl] at hlen;simp at hlen
   | cons q r=>
    refine ⟨?_,fun x hx=>?_⟩
    ·simp only[Sv.mark,Sv.pop,hl,List.tail_cons];exact hst.under hk1
    ·simp only[Sv.mark,Sv.pop,hl,List.tail_cons] at hx
     exact hok x (by simp at hx ⊢;exact .inr hx)
 rw[if_neg c4]
 have hp:=hpc c0' c3 c4
 have hW1:Wf fs (s.setTop fun f=>{ f with pc:=pc,regs:=rs }):=h.turn (g:={ f with pc:=pc,regs:=rs }) hl (by simp[Sv.setTop,hl]) rfl ⟨⟨l,hfl,g2,hp⟩,hreg⟩
 have hl1:(s.setTop fun f=>{ f with pc:=pc,regs:=rs }).l={ f with pc:=pc,regs:=rs }::r:=by simp[Sv.setTop,hl]
 generalize (s.setTop fun f=>{ f with pc:=pc,regs:=rs })=s1 at hW1 hl1
 have htop1:s1.top={ f with pc:=pc,regs:=rs }:=by simp[Sv.top,hl1]
 unfold Sv.begins
 by_cases b5:e.k=5
 ·rw[if_pos b5];exact hW1.same rfl
 rw[if_neg b5]
 by_cases b6:e.k=6
 ·rw[if_pos b6]
  obtain ⟨v0,v1⟩:=hfn (.inl b6)
  have hst1:=hW1.st
  have hok1:=hW1.ok
  rw[hl1] at hst1 hok1
  have el:(((s1.setTop fun f=>{ f with dirty:=true }).mark 4 0).push ⟨1,e.v,0,s1.top.regs,false,0,0,0⟩).l=⟨1,e.v,0,rs,false,0,0,0⟩::{ ({ f with pc:=pc,regs:=rs }:Sf) with dirty:=true }::r:=by
   simp[Sv.push,Sv.mark,Sv.setTop,hl1,htop1]
  refine ⟨?_,fun x hx=>?_⟩
  ·rw[el];exact (hst1.turn (g:={ ({ f with pc:=pc,regs:=rs }:Sf) with dirty:=true }) rfl).task rfl
  ·rw[el] at hx
   rcases List.mem_cons.1 hx with rfl|hx
   ·exact fn_ok hF v0 v1 rfl rfl hreg
   ·rcases List.mem_cons.1 hx with rfl|hx
    ·exact ⟨⟨l,hfl,g2,hp⟩,hreg⟩
    ·exact hok x (by simp[hx])
 rw[if_neg b6]
 by_cases b8:e.k=8
 ·rw[if_pos b8]
  obtain ⟨v0,v1⟩:=hfn (.inr b8)
  refine Wf.iterate hF (q:=⟨3,e.v,0,rs,false,0,0,IntKind.i64.wrap (s1.serial+1)⟩) (r:=s1.l) (by simp[Sv.push,Sv.mark,htop1]) rfl hW1.st fun x hx=>?_
  rcases List.mem_cons.1 hx with rfl|hx
  ·exact fn_ok hF v0 v1 rfl rfl hreg
  ·exact hW1.ok x hx
 rw[if_neg b8]
 exact hW1
theorem meet_l (s:Sv) (e:Ef) {f:Sf} {r:List Sf} (hl:s.l=f::r):∃b,(s.meet e).l={ f with dirty:=b }::r:=by
 unfold Sv.meet
 split
 ·exact ⟨false,by simp[Sv.setTop,Sv.mark,hl]⟩
 ·exact ⟨f.dirty,by simp[hl]⟩
theorem wf_one {fs:List (List Ix)} (hF:Fns fs) {s:Sv} (h:Wf fs s):Wf fs (oneS fs s):=by
 obtain ⟨f,r,hl⟩:=h.st.ne
 have hfo:=h.ok f (by rw[hl];simp)
 obtain ⟨l,h1,h2,h3,h4⟩:=hfo.at_
 have htop:s.top=f:=by simp[Sv.top,hl]
 obtain ⟨x,hx⟩:=Ql (l:=l) (k:=f.pc.toNat) (by omega)
 have e1:fs.getD f.fn.toNat []=l:=by rw[List.getD_eq_getElem?_getD,h1];rfl
 have hins:insAt fs f=x:=by unfold insAt;rw[e1,List.getD_eq_getElem?_getD,hx];rfl
 have hdo:=do_ok hF (List.mem_of_getElem? h1) h3 hx hfo.regs
 unfold oneS
 have hds:doS fs s=doF x f.pc f.regs:=by unfold doS;rw[htop,hins]
 rw[hds]
 generalize doF x f.pc f.regs=p at hdo
 have hl0:({ s with steps:=IntKind.i64.wrap (s.steps+1) }:Sv).l=f::r:=hl
 obtain ⟨b,hm⟩:=meet_l { s with steps:=IntKind.i64.wrap (s.steps+1) } p.2.2.1 hl0
 have hW:Wf fs (({ s with steps:=IntKind.i64.wrap (s.steps+1) }:Sv).meet p.2.2.1):=(h.same (s':={ s with steps:=IntKind.i64.wrap (s.steps+1) }) rfl).turn hl0 hm rfl ⟨hfo.at_,hfo.regs⟩
 exact wf_act hF hW hm h1 hdo.1 hdo.2.1 hdo.2.2
structure Ext (n:Nat) (s s':Sv):Prop where
 marks:∃m,s'.marks=s.marks++m∧m.length≤n
 out:∃o,s'.out=s.out++o∧o.length≤n
 steps:s'.steps=s.steps
 frames:0≤s.frames→s.frames+n≤1000000000→s.frames≤s'.frames∧s'.frames≤s.frames+n
 deepest:s.deepest≤s'.deepest
 len:s'.l.length≤s.l.length+n
 data:s'.data.length=s.data.length
theorem Ext.refl (s:Sv):Ext 0 s s:=⟨⟨[],by simp⟩,⟨[],by simp⟩,rfl,fun h1 h2=>⟨Int.le_refl _,by omega⟩,Int.le_refl _,Nat.le_refl _,rfl⟩
theorem Ext.trans {n m:Nat} {a b c:Sv} (h:Ext n a b) (k:Ext m b c):Ext (n+m) a c:=by
 obtain ⟨m1,h1,h2⟩:=h.marks
 obtain ⟨m2,k1,k2⟩:=k.marks
 obtain ⟨o1,p1,p2⟩:=h.out
 obtain ⟨o2,q1,q2⟩:=k.out
 refine ⟨⟨m1++m2,by rw[k1,h1,List.append_assoc],by simp;omega⟩,⟨o1++o2,by rw[q1,p1,List.append_assoc],by simp;omega⟩,k.steps.trans h.steps,fun a1 a2=>?_,Int.le_trans h.deepest k.deepest,by have:=h.len;have:=k.len;omega,k.data.trans h.data⟩
 have b1:=h.frames a1 (by omega)
 have b2:=k.frames (by omega) (by omega)
 omega
theorem Ext.weak {n m:Nat} {a b:Sv} (h:Ext n a b) (hm:n≤m):Ext m a b:=by
 obtain ⟨m1,h1,h2⟩:=h.marks
 obtain ⟨o1,p1,p2⟩:=h.out
 refine ⟨⟨m1,h1,by omega⟩,⟨o1,p1,by omega⟩,h.steps,fun a1 a2=>?_,h.deepest,by have:=h.len;omega,h.data⟩
 have b1:=h.frames a1 (by omega)
 omega
theorem Q21 (s:Sv) (k a:Int):Ext 1 s (s.mark k a):=⟨⟨[(k,a)],rfl,by simp⟩,⟨[],by simp[Sv.mark],by simp⟩,rfl,fun h1 h2=>⟨Int.le_refl _,by simp only[Sv.mark];omega⟩,Int.le_refl _,by simp[Sv.mark],rfl⟩
theorem Yf (s:Sv) (f:Sf):Ext 1 s (s.push f):=by
 refine ⟨⟨[],by simp[Sv.push],by simp⟩,⟨[],by simp[Sv.push],by simp⟩,rfl,fun h1 h2=>?_,?_,by simp[Sv.push],rfl⟩
 ·have:IntKind.i64.wrap (s.frames+1)=s.frames+1:=w64_id (by omega) (by omega)
  simp only[Sv.push,this]
  omega
 ·simp only[Sv.push];exact Int.le_max_left _ _
theorem Q51 (s:Sv) (g:Sf→Sf):Ext 0 s (s.setTop g):=by
 unfold Sv.setTop
 split
 ·rename_i f r hl
  exact ⟨⟨[],by simp⟩,⟨[],by simp⟩,rfl,fun h1 h2=>⟨Int.le_refl _,by simp only;omega⟩,Int.le_refl _,by simp[hl],rfl⟩
 ·exact .refl s
theorem ext_set2 (s:Sv) (g:Sf→Sf):Ext 0 s (s.set2 g):=by
 unfold Sv.set2
 split
 ·rename_i f q r hl
  exact ⟨⟨[],by simp⟩,⟨[],by simp⟩,rfl,fun h1 h2=>⟨Int.le_refl _,by simp only;omega⟩,Int.le_refl _,by simp[hl],rfl⟩
 ·exact .refl s
theorem Yg (s:Sv):Ext 0 s s.pop:=⟨⟨[],by simp[Sv.pop]⟩,⟨[],by simp[Sv.pop]⟩,rfl,fun h1 h2=>⟨Int.le_refl _,by simp only[Sv.pop];omega⟩,Int.le_refl _,by simp[Sv.pop],rfl⟩
theorem Z12 (s:Sv) (a b:Int):Ext 0 s (s.stop a b):=⟨⟨[],by simp[Sv.stop]⟩,⟨[],by simp[Sv.stop]⟩,rfl,fun h1 h2=>⟨Int.le_refl _,by simp only[Sv.stop];omega⟩,Int.le_refl _,by simp[Sv.stop],rfl⟩
theorem Yh (s:Sv):Ext 0 s s.keep:=by
 unfold Sv.keep
 split
 ·exact ext_set2 _ _
 ·exact .refl s
theorem X55 (s:Sv):Ext 2 s s.iterate:=by
 unfold Sv.iterate
 exact ((Q51 s _).trans (Q21 _ _ _)).trans (Yf _ _)
theorem X26 (d:List Int) (e:Ef):(askD d e).2.2.length=d.length:=by
 unfold askD
 split
 ·rfl
 ·split
  ·rfl
  ·split
   ·simp
   ·split
    ·simp
    ·split
     ·simp only;split<;>simp
     ·rfl
theorem ext_ask (s:Sv) (pc:Int) (rs:List Int) (e:Ef):Ext 1 s (s.ask pc rs e):=by
 unfold Sv.ask
 split
 ·have h0:Ext 0 s { s with data:=(askD s.data e).2.2 }:=⟨⟨[],by simp⟩,⟨[],by simp⟩,rfl,fun h1 h2=>⟨Int.le_refl _,by simp only;omega⟩,Int.le_refl _,by simp,X26 _ _⟩
  exact (h0.trans (Q21 _ _ _)).trans (Q51 _ _)
 ·exact (Z12 s _ _).weak (by omega)
theorem ext_begins (s:Sv) (e:Ef):Ext 4 s (s.begins e):=by
 unfold Sv.begins
 split
 ·have h0:Ext 1 s { s with out:=s.out++[e.v] }:=⟨⟨[],by simp⟩,⟨[e.v],rfl,by simp⟩,rfl,fun h1 h2=>⟨Int.le_refl _,by simp only;omega⟩,Int.le_refl _,by simp,rfl⟩
  exact (h0.trans (Q21 _ _ _)).weak (by omega)
 ·split
  ·exact (((Q51 s _).trans (Q21 _ _ _)).trans (Yf _ _)).weak (by omega)
  ·split
   ·have h0:Ext 0 s { s with serial:=IntKind.i64.wrap (s.serial+1) }:=⟨⟨[],by simp⟩,⟨[],by simp⟩,rfl,fun h1 h2=>⟨Int.le_refl _,by simp only;omega⟩,Int.le_refl _,by simp,rfl⟩
    exact ((h0.trans (Q21 _ _ _)).trans (Yf _ _)).trans (X55 _)
   ·exact (Ext.refl s).weak (by omega)
theorem ext_act (s:Sv) (r:Int×List Int×Ef×Int):Ext 4 s (s.act r):=by
 unfold Sv.act
 split
 ·exact (Z12 s _ _).weak (by omega)
 ·split
  ·exact (ext_ask s _ _ _).weak (by omega)
  ·split
   ·unfold Sv.goOn
    split
    ·exact (Z12 s _ _).weak (by omega)
    ·split
     ·exact (Z12 s _ _).weak (by omega)
     ·exact (((Yh s).trans (Q51 _ _)).trans (Q21 _ _ _)).weak (by omega)
   ·split
    ·unfold Sv.leave
     split
     ·exact (Z12 s _ _).weak (by omega)
     ·split
      ·exact (Z12 s _ _).weak (by omega)
      ·exact ((((((Yh s).trans (Q21 _ _ _)).trans (Yg _)).trans (Yg _)).trans (Q21 _ _ _)).trans (Q51 _ _)).weak (by omega)
    ·split
     ·unfold Sv.back
      split
      ·exact ((((Yh s).trans (Q21 _ _ _)).trans (Yg _)).trans (X55 _)).weak (by omega)
      ·split
       ·exact (Z12 s _ _).weak (by omega)
       ·exact ((Q21 s _ _).trans (Yg _)).weak (by omega)
     ·exact ((Q51 s _).trans (ext_begins _ _)).weak (by omega)
theorem Yi (s:Sv) (e:Ef):Ext 1 s (s.meet e):=by
 unfold Sv.meet
 split
 ·exact (Q51 s _).trans (Q21 _ _ _)
 ·exact (Ext.refl s).weak (by omega)
structure Lim (k:Nat) (d:Nat) (s:Sv):Prop where
 steps:s.steps=k
 frames:0≤s.frames∧s.frames≤5 * k+1
 marks:s.marks.length≤5 * k
 out:s.out.length≤5 * k
 len:s.l.length≤5 * k+1
 data:s.data.length=d
structure Ge (s s':Sv):Prop where
 marks:∃m,s'.marks=s.marks++m
 out:∃o,s'.out=s.out++o
 steps:s.steps≤s'.steps
 frames:s.frames≤s'.frames
 deepest:s.deepest≤s'.deepest
theorem Ge.refl (s:Sv):Ge s s:=⟨⟨[],by simp⟩,⟨[],by simp⟩,Int.le_refl _,Int.le_refl _,Int.le_refl _⟩
theorem Ge.trans {a b c:Sv} (h:Ge a b) (k:Ge b c):Ge a c:=by
 obtain ⟨m1,h1⟩:=h.marks
 obtain ⟨m2,k1⟩:=k.marks
 obtain ⟨o1,p1⟩:=h.out
 obtain ⟨o2,q1⟩:=k.out
 exact ⟨⟨m1++m2,by rw[k1,h1,List.append_assoc]⟩,⟨o1++o2,by rw[q1,p1,List.append_assoc]⟩,Int.le_trans h.steps k.steps,Int.le_trans h.frames k.frames,Int.le_trans h.deepest k.deepest⟩
theorem one_lim {fs:List (List Ix)} {k d:Nat} {s:Sv} (h:Lim k d s) (hk:k≤1000000):Lim (k+1) d (oneS fs s)∧Ge s (oneS fs s):=by
 have hw:IntKind.i64.wrap (s.steps+1)=(k:Int)+1:=by rw[h.steps];exact w64_id (by omega) (by omega)
 have hE:=(Yi { s with steps:=IntKind.i64.wrap (s.steps+1) } (doS fs s).2.2.1).trans (ext_act _ (doS fs s))
 have hf:=hE.frames h.frames.1 (by have:=h.frames.2;simp only;omega)
 obtain ⟨m,hm1,hm2⟩:=hE.marks
 obtain ⟨o,ho1,ho2⟩:=hE.out
 have hst:=hE.steps
 have hln:=hE.len
 have hda:=hE.data
 have hde:=hE.deepest
 have hone:oneS fs s=(({ s with steps:=IntKind.i64.wrap (s.steps+1) }:Sv).meet (doS fs s).2.2.1).act (doS fs s):=rfl
 rw[←hone] at hf hm1 ho1 hst hln hda hde
 simp only at hf hm1 ho1 hst hln hda hde
 have:=h.marks
 have:=h.out
 have:=h.len
 have:=h.frames
 refine ⟨⟨by rw[hst,hw];push_cast<;>rfl,by omega,by rw[hm1,List.length_append];omega,by rw[ho1,List.length_append];omega,by omega,hda.trans h.data⟩,⟨⟨m,hm1⟩,⟨o,ho1⟩,by rw[hst,hw,h.steps];omega,hf.1,hde⟩⟩
theorem loop_lim {fs:List (List Ix)} {d:Nat}:∀(n k:Nat) (s:Sv),Lim k d s→k+n≤1000000→∃k',k'≤k+n∧Lim k' d (loopS fs n s):=by
 intro n
 induction n with
 | zero=>intro k s h _;exact ⟨k,by omega,h⟩
 | succ n ih=>
  intro k s h hk
  obtain ⟨h1,h2⟩:=one_lim (fs:=fs) h (by omega)
  simp only[loopS]
  split
  ·exact ⟨k+1,by omega,h1⟩
  ·obtain ⟨k',h3,h4⟩:=ih (k+1) _ h1 (by omega)
   exact ⟨k',by omega,h4⟩
theorem Yj (m:Int) (inp:List Int) (h:(inp.length:Int)≤m):Lim 0 m.toNat (initS m inp):=by
 have hw:IntKind.i64.wrap (0+1)=1:=w64_id (by omega) (by omega)
 refine ⟨rfl,?_,by simp[initS,Sv.push],by simp[initS,Sv.push],by simp[initS,Sv.push],?_⟩
 ·simp only[initS,Sv.push,hw];omega
 ·simp only[initS,Sv.push,List.length_append,List.length_replicate];omega
theorem init_wf {fs:List (List Ix)} (hF:Fns fs) (h0:0 < fs.length) (m:Int) (inp:List Int):Wf fs (initS m inp):=by
 refine ⟨rfl,fun f hf=>?_⟩
 have:f=⟨1,0,0,z8,false,0,0,0⟩:=by simpa[initS,Sv.push] using hf
 subst this
 exact fn_ok hF (Int.le_refl 0) (by omega) rfl rfl rfl
end Go.Proofs.YtncdnegdlkmicaaGreat
