/- Serial: the machine's state in memory; memory's walks. -/
import Derived.Test.YtncdnegdlkmicaaGreatQSec
namespace Go.Proofs.YtncdnegdlkmicaaGreat
set_option linter.unusedVariables false
set_option linter.unusedSimpArgs false
open Go Go.Kx Go.Proofs
def aSf (f:Sf):List AV:=[.v (.int .i64 f.kind),.v (.int .i64 f.fn),.v (.int .i64 f.pc),aR1 f.regs 0,aR1 f.regs 1,aR1 f.regs 2,aR1 f.regs 3,aR1 f.regs 4,aR1 f.regs 5,aR1 f.regs 6,aR1 f.regs 7,.v (.bool f.dirty),.v (.int .i64 f.index),.v (.int .i64 f.stage),.v (.int .i64 f.serial)]
theorem Q96 (f:Sf):(aSf f).length=15:=rfl
theorem aSf_one (f:Sf):(aSf f).all AV.one=true:=rfl
def aMk (p:Int×Int):List AV:=[.v (.int .i64 p.1),.v (.int .i64 p.2),.v (.int .i64 0)]
theorem QD (p:Int×Int):(aMk p).length=3:=rfl
def evC (m:Int) (n w wm wo:Nat) (s:Sv):List AV:=
 [.v (.int .i64 m),.ms 0 0 0 n 1,.ms 6 w 0 s.l.length 15,.ref 3 0 0,.sl s.marks.length (s.marks.flatMap aMk) (.id 7 wm 3),.v (.int .i64 s.serial),.v (.int .i64 s.status),.v (.int .i64 s.why),
  .sl s.out.length (s.out.map aInt) (.id 8 wo 1),.sl 0 [] .nil,.v (.int .i64 s.steps),.v (.int .i64 s.frames),.v (.int .i64 s.deepest)]
def FrAt (cs:List AV) (l:List Sf):Prop:=l.length * 15≤cs.length∧cs.take (l.length * 15)=l.reverse.flatMap aSf
structure MA (m:Int) (fs:List (List Ix)) (σ:Kx.St) (w:Nat) (s:Sv):Prop where
 fz:σ[0]?=some (.frz 0 (fs.map aIxs))
 wd:σ[2]?=some (.obj 0 (s.data.map aInt))
 st:σ[3]?=some (.obj 0 [.ms 2 0 0 s.data.length 1,.v .nilFunc])
 ev:∃wm wo,σ[4]?=some (.obj 0 (evC m fs.length w wm wo s))∧σ[7]?=some (.tail wm)∧σ[8]?=some (.tail wo)
 fr:∃cs,σ[6]?=some (.obj w cs)∧FrAt cs s.l
theorem MA.app {m:Int} {fs:List (List Ix)} {σ τ:Kx.St} {w:Nat} {s:Sv} (h:MA m fs σ w s):MA m fs (σ++τ) w s:=by
 obtain ⟨wm,wo,h1,h2,h3⟩:=h.ev
 obtain ⟨cs,h4,h5⟩:=h.fr
 exact ⟨Q7 h.fz,Q7 h.wd,Q7 h.st,⟨wm,wo,Q7 h1,Q7 h2,Q7 h3⟩,⟨cs,Q7 h4,h5⟩⟩
theorem MA.len {m:Int} {fs:List (List Ix)} {σ:Kx.St} {w:Nat} {s:Sv} (h:MA m fs σ w s):8 < σ.length:=by
 obtain ⟨wm,wo,h1,h2,h3⟩:=h.ev
 exact Qm h3
theorem MA.set {m:Int} {fs:List (List Ix)} {σ:Kx.St} {w:Nat} {s:Sv} (h:MA m fs σ w s) {j:Nat} (hj:8 < j) (o:Res):MA m fs (σ.set j o) w s:=by
 obtain ⟨wm,wo,h1,h2,h3⟩:=h.ev
 obtain ⟨cs,h4,h5⟩:=h.fr
 exact ⟨Q0 (by omega) h.fz,Q0 (by omega) h.wd,Q0 (by omega) h.st,⟨wm,wo,Q0 (by omega) h1,Q0 (by omega) h2,Q0 (by omega) h3⟩,⟨cs,Q0 (by omega) h4,h5⟩⟩
theorem setAtA_app (A B:List AV) (off:Nat):∀(l:List AV) (B:List AV) (off:Nat),setAtA (A++B) (A.length+off) l=A++setAtA B off l:=by
 intro l
 induction l with
 | nil=>intro B off;rfl
 | cons a l ih=>
  intro B off
  show setAtA ((A++B).set (A.length+off) a) (A.length+off+1) l=A++setAtA (B.set off a) (off+1) l
  rw[List.set_append_right _ _ (by omega),show A.length+off - A.length=off by omega,show A.length+off+1=A.length+(off+1) by omega,ih]
theorem flat_setN {α:Type} {f:α→List AV} {n:Nat} (hn:∀a,(f a).length=n) {x:AV} {j:Nat} (hj:j < n):∀{L:List α} {k:Nat} {g g':α},L[k]?=some g→(f g).set j x=f g'→(L.flatMap f).set (k * n+j) x=(L.set k g').flatMap f:=by
 intro L
 induction L with
 | nil=>intro k g g' h;simp at h
 | cons y L ih=>
  intro k g g' h hs
  cases k with
  | zero=>
   simp at h;subst h
   simp only[Nat.zero_mul,Nat.zero_add,List.set_cons_zero,List.flatMap_cons]
   rw[List.set_append_left _ _ (by rw[hn];exact hj),hs]
  | succ k=>
   rw[List.getElem?_cons_succ] at h
   simp only[List.set_cons_succ,List.flatMap_cons]
   rw[List.set_append_right _ _ (by rw[hn];rw[Nat.succ_mul];omega),hn,show (k+1) * n+j - n=k * n+j by rw[Nat.succ_mul];omega,ih h hs]
theorem flat_setR {rs:List Int}:∀{L:List Sf} {k:Nat} {g:Sf},L[k]?=some g→setAtA (L.flatMap aSf) (k * 15+3) (aRg rs)=(L.set k { g with regs:=rs }).flatMap aSf:=by
 intro L
 induction L with
 | nil=>intro k g h;simp at h
 | cons y L ih=>
  intro k g h
  cases k with
  | zero=>simp at h;subst h;rfl
  | succ k=>
   rw[List.getElem?_cons_succ] at h
   simp only[List.set_cons_succ,List.flatMap_cons]
   rw[show (k+1) * 15+3=(aSf y).length+(k * 15+3) by rw[Q96];omega,setAtA_app (aSf y) [] 0,ih h]
theorem FrAt.split {cs:List AV} {l:List Sf} (h:FrAt cs l):cs=l.reverse.flatMap aSf++cs.drop (l.length * 15):=by
 rw[←h.2,List.take_append_drop]
theorem FrAt.of {A B:List AV} {l:List Sf} (h:A=l.reverse.flatMap aSf):FrAt (A++B) l:=by
 subst h
 have hl:=Qy Q96 l.reverse
 rw[List.length_reverse] at hl
 refine ⟨by rw[List.length_append,hl];omega,?_⟩
 rw[List.take_append_of_le_length (by omega),List.take_of_length_le (by omega)]
theorem FrAt.drop {cs:List AV} {l:List Sf} (h:FrAt cs l) {k:Nat} {g:Sf} (hg:l.reverse[k]?=some g):∃t,cs.drop (k * 15)=aSf g++t:=by
 have hk:=Qm hg
 have hl:=Qy Q96 l.reverse
 rw[h.split,List.drop_append_of_le_length (by rw[hl];omega),Qp Q96 hg,List.append_assoc]
 exact ⟨_,rfl⟩
theorem FrAt.get {cs:List AV} {l:List Sf} (h:FrAt cs l) {k:Nat} {g:Sf} (hg:l.reverse[k]?=some g) {j:Nat} {x:AV} (hx:(aSf g)[j]?=some x):cs[k * 15+j]?=some x:=by
 obtain ⟨t,ht⟩:=h.drop hg
 rw[←List.getElem?_drop,ht,List.getElem?_append_left (Qm hx)]
 exact hx
theorem FrAt.regs {cs:List AV} {l:List Sf} (h:FrAt cs l) {k:Nat} {g:Sf} (hg:l.reverse[k]?=some g):∃t,cs.drop (k * 15+3)=aRg g.regs++t:=by
 obtain ⟨t,ht⟩:=h.drop hg
 rw[←List.drop_drop,ht]
 exact ⟨_,rfl⟩
theorem FrAt.set {cs:List AV} {l:List Sf} (h:FrAt cs l) {k:Nat} {g g':Sf} (hg:l.reverse[k]?=some g) {j:Nat} (hj:j < 15) {x:AV} (hx:(aSf g).set j x=aSf g') {l':List Sf} (hl':l.reverse.set k g'=l'.reverse):FrAt (cs.set (k * 15+j) x) l':=by
 have hk:=Qm hg
 have hl:=Qy Q96 l.reverse
 rw[h.split,List.set_append_left _ _ (by rw[hl];omega)]
 exact FrAt.of (by rw[flat_setN Q96 hj hg hx,hl'])
theorem setAtA_left (A B:List AV):∀(l:List AV) (A:List AV) (off:Nat),off+l.length≤A.length→setAtA (A++B) off l=setAtA A off l++B:=by
 intro l
 induction l with
 | nil=>intro A off _;rfl
 | cons a l ih=>
  intro A off h
  simp only[List.length_cons] at h
  show setAtA ((A++B).set off a) (off+1) l=setAtA (A.set off a) (off+1) l++B
  rw[List.set_append_left _ _ (by omega),ih _ _ (by simp;omega)]
theorem FrAt.setR {cs:List AV} {l:List Sf} (h:FrAt cs l) {k:Nat} {g:Sf} (hg:l.reverse[k]?=some g) {rs:List Int} {l':List Sf} (hl':l.reverse.set k { g with regs:=rs }=l'.reverse):FrAt (setAtA cs (k * 15+3) (aRg rs)) l':=by
 have hk:=Qm hg
 have hl:=Qy Q96 l.reverse
 rw[h.split,setAtA_left [] _ _ _ _ (by rw[hl,Q62];omega)]
 exact FrAt.of (by rw[flat_setR hg,hl'])
theorem QV (f:Sf) (r:List Sf):(f::r).reverse[r.length]?=some f:=by
 rw[List.reverse_cons,List.getElem?_append_right (by simp)];simp
theorem top_set (f g:Sf) (r:List Sf):(f::r).reverse.set r.length g=(g::r).reverse:=by
 rw[List.reverse_cons,List.reverse_cons,List.set_append_right _ _ (by simp)];simp
theorem sec_at (f q:Sf) (r:List Sf):(f::q::r).reverse[r.length]?=some q:=by
 rw[List.reverse_cons,List.getElem?_append_left (by simp)]
 exact QV q r
theorem sec_set (f q g:Sf) (r:List Sf):(f::q::r).reverse.set r.length g=(f::g::r).reverse:=by
 have h:=top_set q g r
 simp only[List.reverse_cons] at h ⊢
 rw[List.set_append_left _ _ (by simp),h]
theorem FrAt.pop {cs:List AV} {f:Sf} {r:List Sf} (h:FrAt cs (f::r)):FrAt cs r:=by
 have hl:=Qy Q96 r.reverse
 rw[List.length_reverse] at hl
 rw[h.split,List.reverse_cons,List.flatMap_append,List.append_assoc]
 exact FrAt.of rfl
theorem FrAt.push {cs:List AV} {l:List Sf} (h:FrAt cs l) (f:Sf):FrAt (cs.take (l.length * 15)++aSf f) (f::l):=by
 rw[h.2]
 have:l.reverse.flatMap aSf++aSf f=(f::l).reverse.flatMap aSf:=by simp
 rw[this,←List.append_nil ((f::l).reverse.flatMap aSf)]
 exact FrAt.of rfl
theorem store_New_o (m:Int) (h0:0≤m) (h1:m≤256) (σ:Kx.St):FnG Tryz.prog 34 [aInt m] σ fun a σ'=>a=.ref (σ.length+1) 0 0∧σ'=σ++[.obj 0 ((List.replicate m.toNat (0:Int)).map aInt),.obj 0 [.ms σ.length 0 0 m.toNat 1,.v .nilFunc]]:=by
 refine Qk K_store_New mixed rfl ?_
 simp only[X45,aInt]
 obtain ⟨n,rfl⟩:∃n:Nat,m=n:=⟨m.toNat,by omega⟩
 have hm:min (max (n:Int) 0) 1048576=(n:Int):=by omega
 have hb:fillA [AV.sl 0 [] .nil,.v .nilFunc] [(0,1)] [.ms σ.length 0 0 n 1]=some [.ms σ.length 0 0 n 1,.v .nilFunc]:=by simp[fillA,setAtA,AV.cells]
 have hac:(AV.agg [.ms σ.length 0 0 n 1,.v .nilFunc]).cells=[.ms σ.length 0 0 n 1,.v .nilFunc]:=rfl
 push_cast (disch:=omega)[hm]
 refine Y9 rfl (by omega) (by omega) ?_
 push_cast (disch:=omega)[hb]
 refine Qd ?_
 push_cast (disch:=omega)[hac]
 refine ⟨?_,?_⟩
 ·simp
 ·simp[X23,List.append_assoc,aInt]
theorem X13 {σ:Kx.St} {d:List Int} (hst:σ[3]?=some (.obj 0 [.ms 2 0 0 d.length 1,.v .nilFunc])):FnG Tryz.prog 83 [.ref 3 0 0] σ fun a σ'=>a=.v (.int .i64 d.length)∧σ'=σ:=by
 refine Qk Xu mixed rfl ?_
 simp only[Zk]
 push_cast (disch:=omega)[hst]
 exact trivial
def wordA (d:List Int) (at_:Int):AV:=if at_ < 0∨(d.length:Int)≤at_ then .v (.pointer none) else .ref 2 0 at_.toNat
theorem Zs {σ:Kx.St} {d:List Int} (hst:σ[3]?=some (.obj 0 [.ms 2 0 0 d.length 1,.v .nilFunc])) (at_:Int) (b:Bool):
  FnG Tryz.prog 57 [.ref 3 0 0,aInt at_,aBool b] σ fun a σ'=>a=wordA d at_∧σ'=σ:=by
 refine Qk Xq mixed rfl ?_
 simp only[Zg,aInt,aBool]
 by_cases c1:at_ < 0
 ·have e:wordA d at_=.v (.pointer none):=if_pos (.inl c1)
  rw[e]
  push_cast (disch:=omega)[c1]
  exact trivial
 by_cases c2:(d.length:Int)≤at_
 ·have e:wordA d at_=.v (.pointer none):=if_pos (.inr c2)
  rw[e]
  push_cast (disch:=omega)[c1]
  refine Q2 (X13 hst) ?_
  rintro a σ' ⟨rfl,rfl⟩
  push_cast (disch:=omega)[c2]
  exact trivial
 have e:wordA d at_=.ref 2 0 at_.toNat:=if_neg (by omega)
 rw[e]
 push_cast (disch:=omega)[c1]
 refine Q2 (X13 hst) ?_
 rintro a σ' ⟨rfl,rfl⟩
 push_cast (disch:=omega)[c2,hst]
 exact trivial
theorem X30 {d:List Int} {at_:Int} (h:at_ < 0∨(d.length:Int)≤at_):wordA d at_=.v (.pointer none):=if_pos h
theorem X31 {d:List Int} {at_:Int} (h:¬(at_ < 0∨(d.length:Int)≤at_)):wordA d at_=.ref 2 0 at_.toNat:=if_neg h
theorem X32 {d:List Int} {at_:Int} (h:¬(at_ < 0∨(d.length:Int)≤at_)):(d.map aInt)[at_.toNat]?=some (.v (.int .i64 (d.getD at_.toNat 0))):=by
 obtain ⟨x,hx⟩:=Ql (l:=d) (k:=at_.toNat) (by omega)
 rw[List.getElem?_map,List.getD_eq_getElem?_getD,hx]
 rfl
theorem Xm {α:Type} {l:List α} {i:Nat} {x:α} (h:l[i]?=some x):l.set i x=l:=by
 refine List.ext_getElem? fun j=>?_
 by_cases e:i=j
 ·subst e;rw[List.getElem?_set_self (Qm h),h]
 ·rw[List.getElem?_set_ne e]
theorem Yq (d:List Int) (k:Nat) (v:Int):(d.map aInt).set k (.v (.int .i64 v))=(d.set k v).map aInt:=by rw[List.map_set];rfl
section
variable {σ:Kx.St} {d:List Int} (hst:σ[3]?=some (.obj 0 [.ms 2 0 0 d.length 1,.v .nilFunc])) (hwd:σ[2]?=some (.obj 0 (d.map aInt)))
include hst hwd
theorem store_Load_a (at_:Int):FnG Tryz.prog 89 [.ref 3 0 0,aInt at_] σ fun a σ'=>a=.tup [aInt (askD d ⟨1,at_,0,0,0⟩).1,aBool (askD d ⟨1,at_,0,0,0⟩).2.1]∧σ'=σ:=by
 refine Qk Xv mixed rfl ?_
 simp only[Zl,aInt]
 push_cast (disch:=omega)
 refine Q2 (Zs hst at_ false) ?_
 rintro a σ' ⟨rfl,rfl⟩
 by_cases c:at_ < 0∨(d.length:Int)≤at_
 ·have e:askD d ⟨1,at_,0,0,0⟩=(0,false,d):=if_pos c
  rw[X30 c,e]
  push_cast (disch:=omega)[Option.isNone_none,aBool]
  exact trivial
 ·have e:askD d ⟨1,at_,0,0,0⟩=(d.getD at_.toNat 0,true,d):=by simp only[askD];rw[if_neg c];simp
  rw[X31 c,e]
  have hg:=X32 c
  push_cast (disch:=omega)[hwd,hg,aBool]
  exact trivial
theorem XC (at_ v:Int):FnG Tryz.prog 35 [.ref 3 0 0,aInt at_,aInt v] σ fun a σ'=>a=aBool (askD d ⟨2,at_,v,0,0⟩).2.1∧σ'=σ.set 2 (.obj 0 ((askD d ⟨2,at_,v,0,0⟩).2.2.map aInt)):=by
 refine Qk Z91 mixed rfl ?_
 simp only[Q88,aInt]
 push_cast (disch:=omega)
 refine Q2 (Zs hst at_ true) ?_
 rintro a σ' ⟨rfl,rfl⟩
 by_cases c:at_ < 0∨(d.length:Int)≤at_
 ·have e:askD d ⟨2,at_,v,0,0⟩=(0,false,d):=if_pos c
  rw[X30 c,e]
  push_cast (disch:=omega)[Option.isNone_none,aBool]
  exact (Xm hwd).symm
 ·have e:askD d ⟨2,at_,v,0,0⟩=(0,true,d.set at_.toNat v):=by simp only[askD];rw[if_neg c];simp
  rw[X31 c,e]
  have hlt:=Qm (X32 c)
  push_cast (disch:=omega)
  refine Q6 rfl rfl hwd hlt ?_
  rw[Yq]
  push_cast (disch:=omega)[aBool]
  exact trivial
theorem store_Add_a (at_ v:Int):FnG Tryz.prog 90 [.ref 3 0 0,aInt at_,aInt v] σ fun a σ'=>a=.tup [aInt (askD d ⟨3,at_,v,0,0⟩).1,aBool (askD d ⟨3,at_,v,0,0⟩).2.1]∧σ'=σ.set 2 (.obj 0 ((askD d ⟨3,at_,v,0,0⟩).2.2.map aInt)):=by
 refine Qk XV mixed rfl ?_
 simp only[ZJ,aInt]
 push_cast (disch:=omega)
 refine Q2 (Zs hst at_ true) ?_
 rintro a σ' ⟨rfl,rfl⟩
 by_cases c:at_ < 0∨(d.length:Int)≤at_
 ·have e:askD d ⟨3,at_,v,0,0⟩=(0,false,d):=if_pos c
  rw[X30 c,e]
  push_cast (disch:=omega)[Option.isNone_none,aBool]
  exact (Xm hwd).symm
 ·have e:askD d ⟨3,at_,v,0,0⟩=(d.getD at_.toNat 0,true,d.set at_.toNat (IntKind.i64.wrap (d.getD at_.toNat 0+v))):=by simp only[askD];rw[if_neg c];simp
  rw[X31 c,e]
  have hg:=X32 c
  have hlt:=Qm hg
  push_cast (disch:=omega)[hwd,hg]
  refine Q6 rfl rfl hwd hlt ?_
  rw[Yq]
  push_cast (disch:=omega)[aBool]
  exact trivial
theorem store_Swap_a (at_ v o:Int):FnG Tryz.prog 91 [.ref 3 0 0,aInt at_,aInt v,aInt o] σ fun a σ'=>a=.tup [aInt (askD d ⟨4,at_,v,o,0⟩).1,aBool (askD d ⟨4,at_,v,o,0⟩).2.1]∧σ'=σ.set 2 (.obj 0 ((askD d ⟨4,at_,v,o,0⟩).2.2.map aInt)):=by
 refine Qk Xw mixed rfl ?_
 simp only[Zm,aInt]
 push_cast (disch:=omega)
 refine Q2 (Zs hst at_ true) ?_
 rintro a σ' ⟨rfl,rfl⟩
 by_cases c:at_ < 0∨(d.length:Int)≤at_
 ·have e:askD d ⟨4,at_,v,o,0⟩=(0,false,d):=if_pos c
  rw[X30 c,e]
  push_cast (disch:=omega)[Option.isNone_none,aBool]
  exact (Xm hwd).symm
 ·have e:askD d ⟨4,at_,v,o,0⟩=(d.getD at_.toNat 0,true,if d.getD at_.toNat 0=v then d.set at_.toNat o else d):=by simp only[askD];rw[if_neg c];simp
  rw[X31 c,e]
  have hg:=X32 c
  have hlt:=Qm hg
  by_cases cv:d.getD at_.toNat 0=v
  ·rw[if_pos cv]
   push_cast (disch:=omega)[hwd,hg,cv,aBool]
   refine Q6 rfl rfl hwd hlt ?_
   rw[Yq]
   push_cast (disch:=omega)[aBool]
   exact trivial
  ·rw[if_neg cv]
   push_cast (disch:=omega)[hwd,hg,cv,aBool]
   exact (Xm hwd).symm
end
end Go.Proofs.YtncdnegdlkmicaaGreat
