/- The document's evaluator in memory; mark, stop: the walks. -/
import Derived.Test.YtncdnegdlkmicaaGreatQAry
import Derived.Test.YtncdnegdlkmicaaGreatQSel
namespace Go.Proofs.YtncdnegdlkmicaaGreat.Sr
set_option linter.unusedVariables false
set_option linter.unusedSimpArgs false
open Go Go.Kx Go.Proofs
structure DvT where
 p:Tok
 j:Nat
 o:Tok
 m:Tok
def dvC (m:Int) (fs:List (List Ix)) (fuel:Int) (t:DvT) (s:Sv):List AV:=
 [.v (.int .i64 m),.sl fs.length (fs.map aIxs) t.p,.ms t.j 0 0 s.data.length 1,.sl s.out.length (s.out.map aInt) t.o,.sl s.marks.length (s.marks.flatMap aMk) t.m,
  .v (.int .i64 s.serial),.v (.int .i64 fuel),.v (.int .i64 s.steps),.v (.int .i64 s.frames),.v (.int .i64 s.deepest),.v (.int .i64 s.status),.v (.int .i64 s.why)]
def TkOk (σ:Kx.St) (t:Tok) (n sz:Nat):Prop:=(n=0∧t=.nil)∨∃j w,t=.id j w sz∧σ[j]?=some (.tail w)
def TkDis (a b:Tok):Prop:=∀j w s k v u,a=.id j w s→b=.id k v u→j≠k
structure DvAt (σ:Kx.St) (iv:Nat) (m:Int) (fs:List (List Ix)) (fuel:Int) (t:DvT) (s:Sv):Prop where
 obj:σ[iv]?=some (.obj 0 (dvC m fs fuel t s))
 dat:σ[t.j]?=some (.obj 0 (s.data.map aInt))
 nj:t.j≠iv
 o:TkOk σ t.o s.out.length 1
 m:TkOk σ t.m s.marks.length 3
 d:TkDis t.o t.m
theorem TkOk.app {σ:Kx.St} {t:Tok} {n sz:Nat} (h:TkOk σ t n sz) (r:Res):TkOk (σ++[r]) t n sz:=by
 rcases h with h|⟨j,w,h1,h2⟩
 ·exact .inl h
 ·exact .inr ⟨j,w,h1,Q7 h2⟩
theorem TkOk.set {σ:Kx.St} {t:Tok} {n sz k v:Nat} {cs:List AV} {r:Res} (h:TkOk σ t n sz) (hk:σ[k]?=some (.obj v cs)):TkOk (σ.set k r) t n sz:=by
 rcases h with h|⟨j,w,h1,h2⟩
 ·exact .inl h
 ·exact .inr ⟨j,w,h1,Q0 (by rintro rfl;rw[hk] at h2;cases h2) h2⟩
theorem dvC_e (m:Int) (fs:List (List Ix)) (fuel:Int) (t:DvT) {s s':Sv} (h:s'.e=s.e):dvC m fs fuel t s'=dvC m fs fuel t s:=by
 have h1:s'.data=s.data:=by have:=congrArg Sv.data h;exact this
 have h2:s'.out=s.out:=by have:=congrArg Sv.out h;exact this
 have h3:s'.marks=s.marks:=by have:=congrArg Sv.marks h;exact this
 have h4:s'.serial=s.serial:=by have:=congrArg Sv.serial h;exact this
 have h5:s'.steps=s.steps:=by have:=congrArg Sv.steps h;exact this
 have h6:s'.frames=s.frames:=by have:=congrArg Sv.frames h;exact this
 have h7:s'.deepest=s.deepest:=by have:=congrArg Sv.deepest h;exact this
 have h8:s'.status=s.status:=by have:=congrArg Sv.status h;exact this
 have h9:s'.why=s.why:=by have:=congrArg Sv.why h;exact this
 unfold dvC
 rw[h1,h2,h3,h4,h5,h6,h7,h8,h9]
theorem DvAt.e {σ:Kx.St} {iv:Nat} {m:Int} {fs:List (List Ix)} {fuel:Int} {t:DvT} {s s':Sv} (h:DvAt σ iv m fs fuel t s) (he:s'.e=s.e):DvAt σ iv m fs fuel t s':=by
 have h1:s'.data=s.data:=by have:=congrArg Sv.data he;exact this
 have h2:s'.out=s.out:=by have:=congrArg Sv.out he;exact this
 have h3:s'.marks=s.marks:=by have:=congrArg Sv.marks he;exact this
 exact ⟨by rw[dvC_e m fs fuel t he];exact h.obj,by rw[h1];exact h.dat,h.nj,by rw[h2];exact h.o,by rw[h3];exact h.m,h.d⟩
theorem DvAt.app {σ:Kx.St} {iv:Nat} {m:Int} {fs:List (List Ix)} {fuel:Int} {t:DvT} {s:Sv} (h:DvAt σ iv m fs fuel t s) (r:Res):DvAt (σ++[r]) iv m fs fuel t s:=
 ⟨Q7 h.obj,Q7 h.dat,h.nj,h.o.app r,h.m.app r,h.d⟩
theorem DvAt.setO {σ:Kx.St} {iv:Nat} {m:Int} {fs:List (List Ix)} {fuel:Int} {t:DvT} {s:Sv} (h:DvAt σ iv m fs fuel t s) {k v:Nat} {cs:List AV} {r:Res} (hk:σ[k]?=some (.obj v cs)) (h1:k≠iv) (h2:k≠t.j):DvAt (σ.set k r) iv m fs fuel t s:=
 ⟨Q0 h1 h.obj,Q0 h2 h.dat,h.nj,h.o.set hk,h.m.set hk,h.d⟩
theorem DvAt.upd {σ:Kx.St} {iv:Nat} {m:Int} {fs:List (List Ix)} {fuel:Int} {t:DvT} {s s':Sv} (h:DvAt σ iv m fs fuel t s) (h1:s'.data=s.data) (h2:s'.out=s.out) (h3:s'.marks=s.marks):DvAt (σ.set iv (.obj 0 (dvC m fs fuel t s'))) iv m fs fuel t s':=
 ⟨Q4 h.obj,by rw[h1];exact Q0 (Ne.symm h.nj) h.dat,h.nj,by rw[h2];exact h.o.set h.obj,by rw[h3];exact h.m.set h.obj,h.d⟩
def Kp (σ σ':Kx.St) (S:Nat→Prop):Prop:=σ.length≤σ'.length∧∀k cs,¬S k→σ[k]?=some (.obj 0 cs)→σ'[k]?=some (.obj 0 cs)
theorem Kp.refl (σ:Kx.St) (S:Nat→Prop):Kp σ σ S:=⟨Nat.le_refl _,fun _ _ _ h=>h⟩
theorem Kp.trans {a b c:Kx.St} {S:Nat→Prop} (h:Kp a b S) (k:Kp b c S):Kp a c S:=⟨Nat.le_trans h.1 k.1,fun j cs hj hc=>k.2 j cs hj (h.2 j cs hj hc)⟩
theorem Kp.weak {a b:Kx.St} {S T:Nat→Prop} (h:Kp a b S) (hS:∀k,S k→T k):Kp a b T:=⟨h.1,fun j cs hj hc=>h.2 j cs (fun c=>hj (hS j c)) hc⟩
theorem Kp.app (σ:Kx.St) (r:Res) (S:Nat→Prop):Kp σ (σ++[r]) S:=⟨by simp,fun _ _ _ h=>Q7 h⟩
theorem Kp.set {σ:Kx.St} {S:Nat→Prop} {k:Nat} (hk:S k) (r:Res):Kp σ (σ.set k r) S:=⟨by simp,fun j cs hj hc=>Q0 (by rintro rfl;exact hj hk) hc⟩
theorem Kp.one {σ:Kx.St} {i:Nat} (r:Res):Kp σ (σ.set i r) (·=i):=Kp.set (S:=(·=i)) rfl r
theorem Kp.tail {σ:Kx.St} {k w:Nat} (hk:σ[k]?=some (.tail w)) (r:Res) (S:Nat→Prop):Kp σ (σ.set k r) S:=⟨by simp,fun j cs hj hc=>Q0 (by rintro rfl;rw[hk] at hc;cases hc) hc⟩
theorem Kp.drop {a b c:Kx.St} {S:Nat→Prop} (h:Kp a b S) {T:Nat→Prop} (k:Kp b c T) (hT:∀j,T j→S j∨a.length≤j):Kp a c S:=
 ⟨Nat.le_trans h.1 k.1,fun j cs hj hc=>k.2 j cs (fun c=>by rcases hT j c with c|c;exact hj c;have:=Qm hc;omega) (h.2 j cs hj hc)⟩
theorem Qn (σ:Kx.St) (r:Res):(σ++[r])[σ.length]?=some r:=by simp
theorem mk_len (l:List (Int×Int)):(l.flatMap aMk).length=l.length * 3:=by
 induction l with
 | nil=>rfl
 | cons p l ih=>rw[List.flatMap_cons,List.length_append,ih,List.length_cons,Nat.succ_mul];show 3+_=_;omega
section
variable {m:Int} {fs:List (List Ix)} {fuel:Int} {σ:Kx.St} {iv:Nat} {t:DvT} {s:Sv}
set_option maxHeartbeats 8000000 in
theorem QP (h:DvAt σ iv m fs fuel t s) (hm:s.marks.length≤1000000) (k a:Int):
  FnG Tryz.prog 47 [.ref iv 0 0,.v (.int .i64 k),.v (.int .i64 a)] σ fun r σ'=>r=.tup []∧∃t',t'.j=t.j∧DvAt σ' iv m fs fuel t' (s.mark k a)∧Kp σ σ' (·=iv):=by
 refine Qk ZO mixed rfl ?_
 simp only[Q09]
 have ho:=h.obj
 have d4:(dvC m fs fuel t s)[4]?=some (.sl s.marks.length (s.marks.flatMap aMk) t.m):=rfl
 have hb:fillA [AV.v (.int .i64 0),AV.v (.int .i64 0),AV.v (.int .i64 0)] [(0,1),(1,1),(2,1)] [AV.v (.int .i64 k),AV.v (.int .i64 a),AV.v (.int .i64 0)]=some (aMk (k,a)):=by simp[fillA,AV.cells,Value.cells,setAtA,aMk]
 have hlen:=mk_len s.marks
 have hcl:(AV.agg (aMk (k,a))).cells=aMk (k,a):=rfl
 push_cast (disch:=omega)[ho,d4,hb]
 refine Qf (sz:=3) (by intro x hx;simp at hx;subst hx;rfl) (by simp) ?_
 have hmk:s.marks.flatMap aMk++aMk (k,a)=(s.marks++[(k,a)]).flatMap aMk:=by simp
 have hml:s.marks.length+1=(s.marks++[(k,a)]).length:=by simp
 rcases h.m with ⟨h0,ht⟩|⟨j,w,ht,hj⟩
 ·have hnil:s.marks=[]:=List.eq_nil_of_length_eq_zero h0
  rw[hnil,ht]
  push_cast (disch:=omega)
  refine Q87 (m:=1) (news:=aMk (k,a)) rfl rfl rfl rfl (by omega) (by omega) ?_
  push_cast (disch:=omega)
  refine Q6 rfl rfl (Q7 ho) (by simp[dvC]) ?_
  push_cast (disch:=omega)
  refine ⟨⟨t.p,t.j,t.o,.id σ.length 1 3⟩,rfl,?_,(Kp.app σ _ _).trans (Kp.one _)⟩
  have e:(dvC m fs fuel t s).set 4 (.sl 1 (aMk (k,a)) (.id σ.length 1 3))=dvC m fs fuel ⟨t.p,t.j,t.o,.id σ.length 1 3⟩ (s.mark k a):=by
   simp only[dvC,Sv.mark,hnil]
   rfl
  rw[e]
  have hoa:=Q7 (τ:=[Res.tail 1]) ho
  refine ⟨Q4 hoa,Q0 (Ne.symm h.nj) (Q7 h.dat),h.nj,(h.o.app _).set hoa,.inr ⟨σ.length,1,rfl,Q0 (by have:=Qm ho;omega) (Qn _ _)⟩,?_⟩
  rintro j w z j' w' z' h1 h2
  cases h2
  rcases h.o with ⟨_,c⟩|⟨_,_,c,hh⟩
  ·have h1:t.o=.id j w z:=h1
   rw[c] at h1;cases h1
  ·have h1:t.o=.id j w z:=h1
   rw[c] at h1;cases h1
   have:=Qm hh
   omega
 ·rw[ht]
  have hji:j≠iv:=by rintro rfl;rw[ho] at hj;cases hj
  push_cast (disch:=omega)
  refine Z08 (m:=1) (news:=aMk (k,a)) rfl rfl rfl rfl hlen (by omega) (by omega) hj ?_
  push_cast (disch:=omega)
  refine Q6 rfl rfl (Q0 hji ho) (by simp[dvC]) ?_
  push_cast (disch:=omega)
  refine ⟨⟨t.p,t.j,t.o,.id j (w+1) 3⟩,rfl,?_,(Kp.tail hj _ _).trans (Kp.one _)⟩
  have e:(dvC m fs fuel t s).set 4 (.sl (s.marks.length+1) (s.marks.flatMap aMk++aMk (k,a)) (.id j (w+1) 3))=dvC m fs fuel ⟨t.p,t.j,t.o,.id j (w+1) 3⟩ (s.mark k a):=by
   rw[hmk,hml]
   rfl
  rw[e]
  have hoa:(σ.set j (Res.tail (w+1)))[iv]?=some (.obj 0 (dvC m fs fuel t s)):=Q0 hji ho
  have hjd:j≠t.j:=by rintro rfl;rw[h.dat] at hj;cases hj
  refine ⟨Q4 hoa,Q0 (Ne.symm h.nj) (Q0 hjd h.dat),h.nj,?_,.inr ⟨j,w+1,rfl,Q0 (Ne.symm hji) (Q4 hj)⟩,?_⟩
  ·rcases h.o with c|⟨j',w',c,hh⟩
   ·exact .inl c
   ·have hne:=h.d j' w' 1 j w 3 c ht
    exact .inr ⟨j',w',c,Q0 (by rintro rfl;rw[ho] at hh;cases hh) (Q0 (Ne.symm hne) hh)⟩
  ·rintro j1 w1 z1 j' w' z' h1 h2
   cases h2
   exact h.d j1 w1 z1 j w 3 h1 ht
set_option maxHeartbeats 8000000 in
theorem Z39 (h:DvAt σ iv m fs fuel t s) (hs:s.status=0) (a b:Int):
  FnG Tryz.prog 25 [.ref iv 0 0,.v (.int .i64 a),.v (.int .i64 b)] σ fun r σ'=>r=.tup []∧DvAt σ' iv m fs fuel t (s.stop a b)∧Kp σ σ' (·=iv):=by
 refine Qk Q08 mixed rfl ?_
 simp only[QE]
 have ho:=h.obj
 have d10:(dvC m fs fuel t s)[10]?=some (.v (.int .i64 s.status)):=rfl
 push_cast (disch:=omega)[ho,d10,hs]
 refine Q6 rfl rfl ho (by simp[dvC]) ?_
 have e1:(dvC m fs fuel t s).set 10 (.v (.int .i64 a))=dvC m fs fuel t { s with status:=a }:=rfl
 rw[e1]
 have h1:DvAt (σ.set iv (.obj 0 (dvC m fs fuel t { s with status:=a }))) iv m fs fuel t { s with status:=a }:=h.upd rfl rfl rfl
 have k1:Kp σ (σ.set iv (.obj 0 (dvC m fs fuel t { s with status:=a }))) (·=iv):=Kp.one _
 generalize σ.set iv (.obj 0 (dvC m fs fuel t { s with status:=a }))=σ1 at h1 k1 ⊢
 have ho1:=h1.obj
 push_cast (disch:=omega)
 refine Q6 rfl rfl ho1 (by simp[dvC]) ?_
 have e2:(dvC m fs fuel t { s with status:=a }).set 11 (.v (.int .i64 b))=dvC m fs fuel t (s.stop a b):=rfl
 rw[e2]
 push_cast (disch:=omega)
 exact ⟨h1.upd rfl rfl rfl,k1.trans (Kp.one _)⟩
set_option maxHeartbeats 4000000 in
theorem ev_stop_no (h:DvAt σ iv m fs fuel t s) (hs:s.status≠0) (a b:Int):
  FnG Tryz.prog 25 [.ref iv 0 0,.v (.int .i64 a),.v (.int .i64 b)] σ fun r σ'=>r=.tup []∧σ'=σ:=by
 refine Qk Q08 mixed rfl ?_
 simp only[QE]
 have ho:=h.obj
 have d10:(dvC m fs fuel t s)[10]?=some (.v (.int .i64 s.status)):=rfl
 have hs':¬s.status=0:=hs
 push_cast (disch:=omega)[ho,d10,hs']
 first|exact ⟨rfl,rfl⟩|exact trivial
end
end Go.Proofs.YtncdnegdlkmicaaGreat.Sr
