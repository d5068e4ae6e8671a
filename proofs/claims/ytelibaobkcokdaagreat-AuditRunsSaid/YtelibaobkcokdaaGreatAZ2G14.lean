/- Serial: the machine's state in memory; memory's walks. -/
import Derived.Test.YtelibaobkcokdaaGreatAZ2G12
import Derived.Test.YtelibaobkcokdaaGreatProg
import Derived.KernelRfl
namespace Go.Proofs.YtelibaobkcokdaaGreat
set_option linter.unusedSectionVars false
set_option linter.unusedVariables false
set_option linter.unusedSimpArgs false
open Go Go.Kx Go.Proofs
def aSf (f:Sf):List AV:=[.v (.int .i64 f.kind),.v (.int .i64 f.fn),.v (.int .i64 f.pc),aR1 f.regs 0,aR1 f.regs 1,aR1 f.regs 2,aR1 f.regs 3,aR1 f.regs 4,aR1 f.regs 5,aR1 f.regs 6,aR1 f.regs 7,.v (.bool f.dirty),.v (.int .i64 f.index),.v (.int .i64 f.stage),.v (.int .i64 f.serial)]
theorem X64 (f:Sf):(aSf f).length=15:=rfl
def aMk (p:Int×Int):List AV:=[.v (.int .i64 p.1),.v (.int .i64 p.2),.v (.int .i64 0)]
def evC (m:Int) (n w wm wo:Nat) (s:Sv):List AV:=
 [.v (.int .i64 m),.ms 0 0 0 n 1,.ms 6 w 0 s.l.length 15,.ref 3 0 0,.sl s.marks.length (s.marks.flatMap aMk) (.id 7 wm 3),.v (.int .i64 s.serial),.v (.int .i64 s.status),.v (.int .i64 s.why),
  .sl s.out.length (s.out.map aInt) (.id 8 wo 1),.sl 0 [] .nil,.v (.int .i64 s.steps),.v (.int .i64 s.frames),.v (.int .i64 s.deepest)]
def FrAt (cs:List AV) (l:List Sf):Prop:=l.length * 15≤cs.length∧cs.take (l.length * 15)=l.reverse.flatMap aSf
structure MA (m:Int) (fs:List (List Ix)) (σ:Kx.St) (w:Nat) (s:Sv):Prop where
 fz:σ[0]?=some (.frz 0 (fs.map aIxs))
 wd:σ[2]?=some (.obj 0 (s.data.map aInt))
 st:σ[3]?=some (.obj 0 [.ms 2 0 0 s.data.length 1,.v .nilFunc])
 ev:∃wm wo,σ[4]?=some (.obj 0 (evC m fs.length w wm wo s))∧σ[7]?=some (.tail wm)∧σ[8]?=some (.tail wo)
 fr:∃cs,σ[6]?=some (.obj w cs)∧FrAt cs s.l
theorem MA.app {m:Int} {fs:List (List Ix)} {σ τ:Kx.St} {w:Nat} {s:Sv} (h:MA m fs σ w s):MA m fs (σ++τ) w s:=by obtain ⟨wm,wo,h1,h2,h3⟩:=h.ev;obtain ⟨cs,h4,h5⟩:=h.fr;exact ⟨Qn h.fz,Qn h.wd,Qn h.st,⟨wm,wo,Qn h1,Qn h2,Qn h3⟩,⟨cs,Qn h4,h5⟩⟩
theorem MA.len {m:Int} {fs:List (List Ix)} {σ:Kx.St} {w:Nat} {s:Sv} (h:MA m fs σ w s):8 < σ.length:=by obtain ⟨wm,wo,h1,h2,h3⟩:=h.ev;exact Qh h3
theorem MA.set {m:Int} {fs:List (List Ix)} {σ:Kx.St} {w:Nat} {s:Sv} (h:MA m fs σ w s) {j:Nat} (hj:8 < j) (o:Res):MA m fs (σ.set j o) w s:=by obtain ⟨wm,wo,h1,h2,h3⟩:=h.ev;obtain ⟨cs,h4,h5⟩:=h.fr;exact ⟨Qa ke h.fz,Qa ke h.wd,Qa ke h.st,⟨wm,wo,Qa ke h1,Qa ke h2,Qa ke h3⟩,⟨cs,Qa ke h4,h5⟩⟩
theorem XT (A B:List AV) (off:Nat):∀(l:List AV) (B:List AV) (off:Nat),setAtA (A++B) (A.length+off) l=A++setAtA B off l:=by
 intro l
 induction l with
 | nil=>intro B off;rfl
 | cons a l ih=>intro B off;show setAtA ((A++B).set (A.length+off) a) (A.length+off+1) l=A++setAtA (B.set off a) (off+1) l;rw[List.set_append_right _ _ ke,show A.length+off - A.length=off by omega,show A.length+off+1=A.length+(off+1) by omega,ih]
theorem flat_setN {α:Type} {f:α→List AV} {n:Nat} (hn:∀a,(f a).length=n) {x:AV} {j:Nat} (hj:j < n):∀{L:List α} {k:Nat} {g g':α},L[k]?=some g→(f g).set j x=f g'→(L.flatMap f).set (k * n+j) x=(L.set k g').flatMap f:=by
 intro L
 induction L with
 | nil=>intro k g g' h;simp at h
 | cons y L ih=>
  intro k g g' h hs
  cases k with
  | zero=>simp at h;subst h;simp only[Nat.zero_mul,Nat.zero_add,List.set_cons_zero,List.flatMap_cons];rw[List.set_append_left _ _ (by rw[hn];exact hj),hs]
  | succ k=>rw[List.getElem?_cons_succ] at h;simp only[List.set_cons_succ,List.flatMap_cons];rw[List.set_append_right _ _ (by rw[hn];rw[Nat.succ_mul];omega),hn,show (k+1) * n+j - n=k * n+j by rw[Nat.succ_mul];omega,ih h hs]
theorem FrAt.split {cs:List AV} {l:List Sf} (h:FrAt cs l):cs=l.reverse.flatMap aSf++cs.drop (l.length * 15):=by rw[←h.2,List.take_append_drop]
theorem FrAt.of {A B:List AV} {l:List Sf} (h:A=l.reverse.flatMap aSf):FrAt (A++B) l:=by subst h;have hl:=Q38 X64 l.reverse;rw[List.length_reverse] at hl;refine ⟨by rw[List.length_append,hl];omega,?_⟩;rw[List.take_append_of_le_length ke,List.take_of_length_le ke]
theorem FrAt.drop {cs:List AV} {l:List Sf} (h:FrAt cs l) {k:Nat} {g:Sf} (hg:l.reverse[k]?=some g):∃t,cs.drop (k * 15)=aSf g++t:=by have hk:=Qh hg;have hl:=Q38 X64 l.reverse;rw[h.split,List.drop_append_of_le_length (by rw[hl];omega),QQ X64 hg,List.append_assoc];exact ⟨_,rfl⟩
theorem FrAt.get {cs:List AV} {l:List Sf} (h:FrAt cs l) {k:Nat} {g:Sf} (hg:l.reverse[k]?=some g) {j:Nat} {x:AV} (hx:(aSf g)[j]?=some x):cs[k * 15+j]?=some x:=by obtain ⟨t,ht⟩:=h.drop hg;rw[←List.getElem?_drop,ht,List.getElem?_append_left (Qh hx)];exact hx
theorem FrAt.regs {cs:List AV} {l:List Sf} (h:FrAt cs l) {k:Nat} {g:Sf} (hg:l.reverse[k]?=some g):∃t,cs.drop (k * 15+3)=aRg g.regs++t:=by obtain ⟨t,ht⟩:=h.drop hg;rw[←List.drop_drop,ht];exact ⟨_,rfl⟩
theorem FrAt.set {cs:List AV} {l:List Sf} (h:FrAt cs l) {k:Nat} {g g':Sf} (hg:l.reverse[k]?=some g) {j:Nat} (hj:j < 15) {x:AV} (hx:(aSf g).set j x=aSf g') {l':List Sf} (hl':l.reverse.set k g'=l'.reverse):FrAt (cs.set (k * 15+j) x) l':=by have hk:=Qh hg;have hl:=Q38 X64 l.reverse;rw[h.split,List.set_append_left _ _ (by rw[hl];omega)];exact FrAt.of (by rw[flat_setN X64 hj hg hx,hl'])
theorem setAtA_left (A B:List AV):∀(l:List AV) (A:List AV) (off:Nat),off+l.length≤A.length→setAtA (A++B) off l=setAtA A off l++B:=by
 intro l
 induction l with
 | nil=>intro A off _;rfl
 | cons a l ih=>intro A off h;simp only[List.length_cons] at h;show setAtA ((A++B).set off a) (off+1) l=setAtA (A.set off a) (off+1) l++B;rw[List.set_append_left _ _ ke,ih _ _ eJ]
theorem FrAt.pop {cs:List AV} {f:Sf} {r:List Sf} (h:FrAt cs (f::r)):FrAt cs r:=by have hl:=Q38 X64 r.reverse;rw[List.length_reverse] at hl;rw[h.split,List.reverse_cons,List.flatMap_append,List.append_assoc];exact FrAt.of rfl
theorem FrAt.push {cs:List AV} {l:List Sf} (h:FrAt cs l) (f:Sf):FrAt (cs.take (l.length * 15)++aSf f) (f::l):=by
 rw[h.2];have:l.reverse.flatMap aSf++aSf f=(f::l).reverse.flatMap aSf:=by simp
 rw[this,←List.append_nil ((f::l).reverse.flatMap aSf)];exact FrAt.of rfl
theorem Yv {d:List Int} {at_:Int} (h:¬(at_ < 0∨(d.length:Int)≤at_)):(d.map aInt)[at_.toNat]?=some (.v (.int .i64 (d.getD at_.toNat 0))):=by obtain ⟨x,hx⟩:=Q14 (l:=d) (k:=at_.toNat) ke;rw[List.getElem?_map,List.getD_eq_getElem?_getD,hx];rfl
theorem Q21 {α:Type} {l:List α} {i:Nat} {x:α} (h:l[i]?=some x):l.set i x=l:=by
 refine List.ext_getElem? fun j=>?_;by_cases e:i=j
 ·subst e;rw[List.getElem?_set_self (Qh h),h]
 ·rw[List.getElem?_set_ne e]
theorem Yw (d:List Int) (k:Nat) (v:Int):(d.map aInt).set k (.v (.int .i64 v))=(d.set k v).map aInt:=by rw[List.map_set];rfl
section
variable {σ:Kx.St} {d:List Int} (hst:σ[3]?=some (.obj 0 [.ms 2 0 0 d.length 1,.v .nilFunc])) (hwd:σ[2]?=some (.obj 0 (d.map aInt)))
include hst hwd
end
end Go.Proofs.YtelibaobkcokdaaGreat
namespace Go.Proofs.YtelibaobkcokdaaGreat
open Go Go.Kx Go.Proofs
set_option linter.unusedVariables false
set_option maxRecDepth 100000
set_option maxHeartbeats 16000000
noncomputable def X41:=qH Tryz.prog 91
noncomputable def Z73:=qH Tryz.prog 92
noncomputable def X96:=qH Tryz.prog 138
noncomputable def Z74:=qH Tryz.prog 139
noncomputable def Z25:=qH Tryz.prog 140
noncomputable def Z26:=qH Tryz.prog 141
noncomputable def Xi:=qH Tryz.prog 142
noncomputable def Z75:=qH Tryz.prog 144
noncomputable def Z76:=qH Tryz.prog 145
noncomputable def ZR:=qH Tryz.prog 213
noncomputable def X97:=qH Tryz.prog 214
noncomputable def Q77:=qH Tryz.prog 215
noncomputable def Z27:=qH Tryz.prog 216
noncomputable def Z77:=qH Tryz.prog 217
noncomputable def ZS:=qH Tryz.prog 218
noncomputable def Y03:=qH Tryz.prog 226
noncomputable def X98:=qH Tryz.prog 233
noncomputable def Xj:=qH Tryz.prog 269
noncomputable def Z28:=qH Tryz.prog 270
noncomputable def Z78:=qH Tryz.prog 273
noncomputable def Z79:=qH Tryz.prog 277
noncomputable def Q98:=qH Tryz.prog 298
noncomputable def Q99:=qH Tryz.prog 299
noncomputable def ZT:=qH Tryz.prog 300
noncomputable def Z29:=qH Tryz.prog 301
noncomputable def Xk:=qH Tryz.prog 302
noncomputable def Xl:=qH Tryz.prog 303
noncomputable def Q78:=qH Tryz.prog 310
noncomputable def ZU:=qH Tryz.prog 311
noncomputable def Z30:=qH Tryz.prog 312
noncomputable def Q79:=qH Tryz.prog 313
noncomputable def Z80:=qH Tryz.prog 314
noncomputable def Q55:=qH Tryz.prog 316
noncomputable def Q39:=qH Tryz.prog 317
noncomputable def Q23:=qH Tryz.prog 318
end Go.Proofs.YtelibaobkcokdaaGreat
namespace Go.Kx
set_option linter.unusedVariables false
set_option linter.unusedSimpArgs false
open Go
mutual
def AV.low (n:Nat):AV→Bool
 | .v _=>true
 | .agg xs=>AV.lowL n xs
 | .tup xs=>AV.lowL n xs
 | .sl _ cs t=>(match t with|.id i _ _=>decide (i < n)|_=>true)&&AV.lowL n cs
 | .ep cs=>AV.lowL n cs
 | .ref i _ _=>decide (i < n)
 | .ms i _ _ _ _=>decide (i < n)
 | .fn _ _ xs=>AV.lowL n xs
 | .ifc _ x=>AV.low n x
 | .mp i=>decide (i < n)
def AV.lowL (n:Nat):List AV→Bool
 | []=>true
 | x::xs=>AV.low n x&&AV.lowL n xs
end
theorem lowL_all (n:Nat) (xs:List AV):AV.lowL n xs=xs.all (AV.low n):=by
 induction xs with
 | nil=>rfl
 | cons x xs ih=>simp[AV.lowL,ih]
theorem Z91 {n:Nat} {xs:List AV} (h:AV.lowL n xs=true) {i:Nat} {a:AV} (ha:xs[i]?=some a):a.low n=true:=by rw[lowL_all,List.all_eq_true] at h;exact h a (List.mem_of_getElem? ha)
theorem lowL_of {n:Nat} {xs:List AV} (h:∀(i:Nat) (a:AV),xs[i]?=some a→a.low n=true):AV.lowL n xs=true:=by rw[lowL_all,List.all_eq_true];intro a ha;obtain ⟨i,hi⟩:=List.mem_iff_getElem?.1 ha;exact h i a hi
def Gh.cut (G:Gh) (n:Nat):Gh:=⟨G.g,fun i w=>if i < n then G.T i w else none⟩
theorem Gh.cut_T {G:Gh} {n i w:Nat} (h:i < n):(G.cut n).T i w=G.T i w:=if_pos h
def Res.low (n:Nat):Res→Bool
 | .obj _ cs=>AV.lowL n cs
 | .frz _ cs=>AV.lowL n cs
 | .map es=>es.all fun p=>p.2.low n
 | _=>true
theorem RelV.low {G:Gh} {n:Nat} (hT:∀i w l,G.T i w=some l→i < n) {a:AV} {u:Value} (h:RelV G a u):a.low n=true:=by
 have lst:∀{xs:List AV} {vs:List Value},vs.length=xs.length→(∀(i:Nat) (a:AV) (u:Value),xs[i]?=some a→vs[i]?=some u→a.low n=true)→AV.lowL n xs=true:=by
  intro xs vs hl ih;refine lowL_of fun i a ha=>?_;have hlt:i < vs.length:=by rw[hl];exact (List.getElem?_eq_some_iff.1 ha).1
  exact ih i a _ ha (List.getElem?_eq_getElem hlt)
 induction h with
 | v x=>rfl
 | agg xs vs h1 h2 ih=>exact lst h1 ih
 | tup xs vs h1 h2 ih=>exact lst h1 ih
 | sl m cs t a cap vs h1 h2 h3 h4 h5 h6 ih=>
  unfold AV.low;rw[lst h1 ih]
  cases t with
  | id i ver sz=>obtain ⟨l,k1,_⟩:=h6;simpa using hT _ _ _ k1
  | _=>rfl
 | ep cs vs b off h1 h2 h3 ih=>exact lst h1 ih
 | ref i ver off l h1 h2=>simpa[AV.low] using hT _ _ _ h1
 | ms i ver off n sz l cap h1 h2 h3 h4 h5=>simpa[AV.low] using hT _ _ _ h1
 | fn f k xs vs h1 h2 ih=>exact lst h1 ih
 | ifc t x u h ih=>exact ih
 | mp i l h1 h2=>simpa[AV.low] using hT _ _ _ h1
theorem RelV.cut {G:Gh} {n:Nat} {a:AV} {u:Value} (h:RelV G a u) (hl:a.low n=true):RelV (G.cut n) a u:=by
 induction h with
 | v x=>exact .v x
 | agg xs vs h1 h2 ih=>exact .agg xs vs h1 fun i a u ha hu=>ih i a u ha hu (Z91 hl ha)
 | tup xs vs h1 h2 ih=>exact .tup xs vs h1 fun i a u ha hu=>ih i a u ha hu (Z91 hl ha)
 | sl m cs t a cap vs h1 h2 h3 h4 h5 h6 ih=>
  unfold AV.low at hl;rw[Bool.and_eq_true] at hl;refine .sl m cs t a cap vs h1 (fun i a u ha hu=>ih i a u ha hu (Z91 hl.2 ha)) h3 h4 h5 ?_
  cases t with
  | id i ver sz=>
   obtain ⟨l,k1,k2⟩:=h6;have hi:i < n:=by simpa using hl.1
   exact ⟨l,by rw[Gh.cut_T hi];exact k1,k2⟩
  | _=>exact h6
 | ep cs vs b off h1 h2 h3 ih=>exact .ep cs vs b off h1 (fun i a u ha hu=>ih i a u ha hu (Z91 hl ha)) h3
 | ref i ver off l h1 h2=>exact .ref i ver off l oC h2
 | ms i ver off n sz l cap h1 h2 h3 h4 h5=>exact .ms i ver off n sz l cap oC h2 h3 h4 h5
 | fn f k xs vs h1 h2 ih=>exact .fn f k xs vs h1 fun i a u ha hu=>ih i a u ha hu (Z91 hl ha)
 | ifc t x u h ih=>exact .ifc t x u (ih hl)
 | mp i l h1 h2=>exact .mp i l oC h2
theorem KvRel.lows {G:Gh} {n:Nat} (hT:∀i w l,G.T i w=some l→i < n):∀{en:List MapEntry} {es:List (Value×AV)},KvRel G en es→es.all (fun p=>p.2.low n)=true
 | [],[],_=>rfl
 | e::en,p::es,h=>by rw[List.all_cons,Bool.and_eq_true];exact ⟨h.2.1.low hT,KvRel.lows hT h.2.2⟩
 | [],_::_,h=>h.elim
 | _::_,[],h=>h.elim
theorem KvRel.cut {G:Gh} {n:Nat}:∀{en:List MapEntry} {es:List (Value×AV)},KvRel G en es→es.all (fun p=>p.2.low n)=true→KvRel (G.cut n) en es
 | [],[],_,_=>trivial
 | e::en,p::es,h,hl=>by rw[List.all_cons,Bool.and_eq_true] at hl;exact ⟨h.1,h.2.1.cut hl.1,KvRel.cut h.2.2 hl.2⟩
 | [],_::_,h,_=>h.elim
 | _::_,[],h,_=>h.elim
theorem XU {α:Type} {l m:List α} {i:Nat} {a:α} (h:l[i]?=some a):(l++m)[i]?=some a:=by rw[List.getElem?_append_left (List.getElem?_eq_some_iff.1 h).1];exact h
theorem RelH.cut {base:Heap} {G0 G:Gh} {h0 h:Heap} {σ0 σ1 τ:St} (H0:RelH base G0 h0 σ0) (H:RelH base G h (σ1++τ)) (hle:Gh.le base.size G0 G) (hn:σ0.length≤σ1.length)
  (hc:∀(i:Nat) (r:Res),σ1[i]?=some r→σ0[i]?=some r∨r.low σ1.length=true):Gh.le base.size G0 (G.cut σ1.length)∧RelH base (G.cut σ1.length) h σ1:=by
 have hT0:∀i w l,G0.T i w=some l→i < σ1.length:=fun i w l hl=>by have:=(H0.bd i w l hl).1;omega
 have hloc:∀i l,locOf (G.cut σ1.length) σ1 i=some l→locOf G (σ1++τ) i=some l:=by intro i l hl;have hi:=Q26 hl;unfold locOf at hl ⊢;rw[List.getElem?_append_left hi];have e:∀w,(G.cut σ1.length).T i w=G.T i w:=fun w=>Gh.cut_T hi;simp only[e] at hl;exact hl
 refine ⟨⟨hle.g,fun i w l hl=>by rw[Gh.cut_T (hT0 _ _ _ hl)];exact hle.T _ _ _ hl,hle.old⟩,H.tab,H.size,H.keep,H.st,?_,?_,?_,?_,?_,?_⟩
 ·intro i w cs hi;have hlt:=(List.getElem?_eq_some_iff.1 hi).1;obtain ⟨l,h1,h2,h3,h4,h5⟩:=H.obj i w cs (XU hi);refine ⟨l,by rw[Gh.cut_T hlt];exact h1,h2,h3,h4,fun j a ha=>?_⟩;obtain ⟨u,k1,k2⟩:=h5 j a ha;refine ⟨u,k1,k2.cut ?_⟩;rcases hc i _ hi with h|h
  ·obtain ⟨l0,_,_,_,_,e5⟩:=H0.obj i w cs h;obtain ⟨u0,_,f2⟩:=e5 j a ha;exact f2.low hT0
  ·exact Z91 h ha
 ·intro i w cs hi;have hlt:=(List.getElem?_eq_some_iff.1 hi).1;obtain ⟨l,h1,h2,h5⟩:=H.frz i w cs (XU hi);refine ⟨l,by rw[Gh.cut_T hlt];exact h1,h2,fun j a ha=>?_⟩;obtain ⟨u,k1,k2⟩:=h5 j a ha;refine ⟨u,k1,k2.cut ?_⟩;rcases hc i _ hi with h|h
  ·obtain ⟨l0,_,_,e5⟩:=H0.frz i w cs h;obtain ⟨u0,_,f2⟩:=e5 j a ha;exact f2.low hT0
  ·exact Z91 h ha
 ·intro i l hl;exact H.own i l (hloc i l hl)
 ·intro i j l m hij hl hm;exact H.disj i j l m hij (hloc i l hl) (hloc j m hm)
 ·intro i w l hl
  have hlt:i < σ1.length:=by
   by_cases hi:i < σ1.length
   ·exact hi
   ·simp[Gh.cut,hi] at hl
  rw[Gh.cut_T hlt] at hl;refine ⟨hlt,fun r w' hr hw=>(H.bd i w l hl).2 r w' (XU hr) hw⟩
 ·refine ⟨fun i r hr hi=>?_,fun i j r r' l m hij hr hr' hi hj hl hm=>?_⟩
  ·have hlt:=(List.getElem?_eq_some_iff.1 hi).1;obtain ⟨l,h1,h2,h3,h4,o,h5,h6⟩:=H.maps.mp i r hr (XU hi);refine ⟨l,by rw[Gh.cut_T hlt];exact h1,h2,h3,h4,o,h5,?_⟩
   cases r with
   | map es=>
    obtain ⟨en,c,rfl,h7⟩:=h6.ofMap;refine KvRel.cut h7 ?_;rcases hc i _ hi with h|h
    ·obtain ⟨l0,_,_,_,_,o0,_,f6⟩:=H0.maps.mp i _ hr h;obtain ⟨en0,c0,_,f7⟩:=f6.ofMap;exact f7.lows hT0
    ·exact h
   | itr s pos=>cases h6.ofItr;exact ⟨rfl,rfl⟩
   | _=>cases hr
  ·have hi1:=(List.getElem?_eq_some_iff.1 hi).1;have hj1:=(List.getElem?_eq_some_iff.1 hj).1;rw[Gh.cut_T hi1] at hl;rw[Gh.cut_T hj1] at hm;exact H.maps.dj i j r r' l m hij hr hr' (XU hi) (XU hj) hl hm
theorem FnG.drop {P:Program} {f:FuncId} {aS:List AV} {σ:St} {R R':AV→St→Prop} (H:FnG P f aS σ R)
  (hr:∀a σ',R a σ'→∃σ1 τ,σ'=σ1++τ∧σ.length≤σ1.length∧a.low σ1.length=true∧(∀(i:Nat) (r:Res),σ1[i]?=some r→σ[i]?=some r∨r.low σ1.length=true)∧R' a σ1):FnG P f aS σ R':=by
 intro base G h vs h1 h2;refine (H base G h vs h1 h2).mono ?_;rintro v h' ⟨G',a,σ',k1,k2,k3,k4⟩;obtain ⟨σ1,τ,rfl,e1,e2,e3,e4⟩:=hr a σ' k4;obtain ⟨f1,f2⟩:=h1.cut k2 k1 e1 e3;exact ⟨_,a,σ1,f1,f2,k3.cut e2,e4⟩
theorem low_set {σ:St} {j n:Nat} {x:Res} (hx:x.low n=true):∀(i:Nat) (r:Res),(σ.set j x)[i]?=some r→σ[i]?=some r∨r.low n=true:=by
 intro i r h;rw[List.getElem?_set] at h;split at h
 ·split at h
  ·cases h;exact .inr hx
  ·cases h
 ·exact .inl h
theorem low_ints (n:Nat) (l:List Int):AV.lowL n (l.map fun x=>AV.v (.int .i64 x))=true:=by
 induction l with
 | nil=>rfl
 | cons x l ih=>simp only[List.map_cons,AV.lowL,ih];rfl
theorem FnG.drop0 {P:Program} {f:FuncId} {aS:List AV} {σ:St} {Q:AV→Prop} (hq:∀a,Q a→a.low σ.length=true) (H:FnG P f aS σ fun a σ'=>Q a∧∃τ,σ'=σ++τ):FnG P f aS σ fun a σ'=>Q a∧σ'=σ:=
 H.drop fun a σ' ⟨h1,τ,h2⟩=>⟨σ,τ,h2,Nat.le_refl _,hq a h1,fun _ _ h=>.inl h,h1,rfl⟩
theorem FnG.drop1 {P:Program} {f:FuncId} {aS:List AV} {σ:St} {Q:AV→Prop} {j:Nat} {x:Res} (hx:x.low σ.length=true) (hq:∀a,Q a→a.low σ.length=true) (H:FnG P f aS σ fun a σ'=>Q a∧∃τ,σ'=σ.set j x++τ):
  FnG P f aS σ fun a σ'=>Q a∧σ'=σ.set j x:=
 H.drop fun a σ' ⟨h1,τ,h2⟩=>⟨σ.set j x,τ,h2,by simp,by simpa using hq a h1,by simpa using low_set (σ:=σ) hx,h1,rfl⟩
theorem set_app {α:Type} {σ τ:List α} {j:Nat} {x:α} (h:j < σ.length):(σ++τ).set j x=σ.set j x++τ:=List.set_append_left _ _ h
end Go.Kx
namespace Go.Proofs.YtelibaobkcokdaaGreat.Mx
set_option linter.unusedSectionVars false
set_option linter.unusedVariables false
set_option linter.unusedSimpArgs false
open Go Go.Kx Go.Proofs Go.Proofs.YtelibaobkcokdaaGreat
set_option maxRecDepth 8000
theorem or_add {x y:Int} (hx:0≤x) (hx2:x < 1099511627776) (hy:0≤y) (hy2:y < 1048576):bOr (x * 1048576) y=x * 1048576+y:=by
 obtain ⟨a,rfl⟩:=Int.eq_ofNat_of_zero_le hx;obtain ⟨b,rfl⟩:=Int.eq_ofNat_of_zero_le hy;have h1:(BitVec.ofInt IntKind.i64.bits ((a:Int) * 1048576)).toNat=a * 1048576:=by rw[BitVec.toNat_ofInt];show (((a:Int) * 1048576) % ((2 ^ 64:Nat):Int)).toNat=_;omega
 have h2:(BitVec.ofInt IntKind.i64.bits (b:Int)).toNat=b:=by rw[BitVec.toNat_ofInt];show ((b:Int) % ((2 ^ 64:Nat):Int)).toNat=_;omega
 unfold bOr;rw[BitVec.toNat_or,h1,h2];have h3:a * 1048576 ||| b=a * 1048576+b:=by have:=Nat.two_pow_add_eq_or_of_lt (i:=20) (b:=b) ke a;rw[Nat.mul_comm];exact this.symm
 rw[h3,Q30 ke ke];omega
theorem and_mod {x:Int} (hx:0≤x) (hx2:x≤9223372036854775807):bAnd x 1048575=x % 1048576:=by
 obtain ⟨a,rfl⟩:=Int.eq_ofNat_of_zero_le hx;have h1:(BitVec.ofInt IntKind.i64.bits (a:Int)).toNat=a:=by rw[BitVec.toNat_ofInt];show ((a:Int) % ((2 ^ 64:Nat):Int)).toNat=_;omega
 have h2:(BitVec.ofInt IntKind.i64.bits (1048575:Int)).toNat=1048575:=by decide
 unfold bAnd;rw[BitVec.toNat_and,h1,h2];have h3:a &&& 1048575=a % 1048576:=Nat.and_two_pow_sub_one_eq_mod a 20;rw[h3,Q30 ke ke];omega
theorem J3 (a:Int):PF.val (.bin .shl) [.int .i64 a,.int .u64 20]=some (.int .i64 (IntKind.i64.wrap (a * 1048576))):=by simp[PF.val,binV,isSh,shI,IntKind.bits]
theorem pv_shr20 (a:Int):PF.val (.bin .shr) [.int .i64 a,.int .u64 20]=some (.int .i64 (a.fdiv 1048576)):=by simp[PF.val,binV,isSh,shI,IntKind.bits]
theorem J4 (n:Int):0≤heldT n∧heldT n≤1048575:=by unfold heldT;omega
theorem XB (n:Int):FnP Tryz.prog 315 [aInt n] fun r=>r=aInt (heldT n):=by refine Qg X95.2 mixed rfl eo ?_;simp only[X95,aInt,qH];push_cast;exact oo
theorem token_Of_a (a b c:Int):FnP Tryz.prog 307 [aInt a,aInt b,aInt c] fun r=>r=aInt (tokF a b c):=by
 refine Qg Y65.2 mixed rfl eo ?_;simp only[Y65,aInt,qH];have ⟨a1,a2⟩:=J4 a;have ⟨b1,b2⟩:=J4 b;have ⟨c1,c2⟩:=J4 c;have e1:=Q30 (n:=heldT a * 1048576) ke ke;have e2:=or_add (x:=heldT a) (y:=heldT b) a1 ke b1 ke;have e3:=Q30 (n:=(heldT a * 1048576+heldT b) * 1048576) ke ke;have e4:=or_add (x:=heldT a * 1048576+heldT b) (y:=heldT c) ke ke c1 ke;have e5:(heldT a * 1048576+heldT b) * 1048576+heldT c=tokF a b c:=by unfold tokF;omega
 push_cast;refine Qw (XB a) ?_;rintro r rfl;push_cast[aInt,J3,e1];refine Qw (XB b) ?_;rintro r rfl;push_cast[aInt,J3,pv_or,e1,e2,e3];refine Qw (XB c) ?_;rintro r rfl;push_cast[aInt,J3,pv_or,e1,e2,e3,e4,e5];exact oo
theorem X42 (n:Int):FnP Tryz.prog 304 [aInt n] fun r=>r=aInt (wholeT n):=by refine Qg X35.2 mixed rfl eo ?_;simp only[X35,aInt,qH];push_cast;exact oo
theorem wholeT_in (n:Int):0≤wholeT n∧wholeT n≤1152921504606846975:=by unfold wholeT;omega
theorem X43 (n:Int):FnP Tryz.prog 279 [aInt n] fun r=>r=aInt (tokStage n):=by refine Qg X34.2 mixed rfl eo ?_;simp only[X34,aInt,qH];have ⟨a1,a2⟩:=wholeT_in n;have e:=and_mod a1 ke;push_cast;refine Qw (X42 n) ?_;rintro r rfl;push_cast[aInt,pv_and,e];exact oo
theorem token_Is_a (n:Int):FnP Tryz.prog 305 [aInt n] fun r=>r=aBool (tokIs n):=by
 refine Qg Y64.2 mixed rfl eo ?_;simp only[Y64,aInt,qH];have hd:tokIs n=(decide (1099511627776≤n)&&decide (n≤1152921504606846975)):=by unfold tokIs;rw[Bool.eq_iff_iff];simp
 rw[hd];push_cast;by_cases c:1099511627776≤n<;>(push_cast[c,aBool];first|exact ⟨[],rfl,rfl⟩|exact ⟨[],rfl⟩|exact ⟨[],rfl,by simp⟩)
theorem token_Iter_a (n:Int):FnP Tryz.prog 306 [aInt n] fun r=>∃k,r=aInt k:=by refine Qg X94.2 mixed rfl eo ?_;simp only[X94,aInt,qH];push_cast;refine Qw (X42 n) ?_;rintro r rfl;push_cast[aInt,pv_and,pv_shr20];exact ⟨[],rfl,_,rfl⟩
theorem token_Next_a (t c:Int):FnP Tryz.prog 280 [aInt t,aInt c] fun r=>∃k,r=.tup [aInt k,aBool (tokIs t&&decide (tokStage t < c))]:=by
 refine Qg X92.2 mixed rfl eo ?_;simp only[X92,aInt,qH];push_cast;refine Qw (token_Is_a t) ?_;rintro r rfl
 cases hI:tokIs t with
 | false=>push_cast[aBool];exact ⟨[],rfl,0,by simp[AV.res,AV.resL]⟩
 | true=>
  push_cast[aBool];refine Qw (X43 t) ?_;rintro r rfl;by_cases hc:c≤tokStage t
  ·push_cast[aInt,hc];refine ⟨[],rfl,0,?_⟩;have:¬tokStage t < c:=by omega
   simp[AV.res,AV.resL,this]
  ·push_cast[aInt,hc];refine Qw (token_Iter_a t) ?_;rintro r ⟨k,rfl⟩;push_cast[aInt];refine ⟨[],rfl,k,?_⟩;have:tokStage t < c:=by omega
   simp[AV.res,AV.resL,this]
theorem snoc_set {α:Type} {A:List α} {x y:α} {n:Nat} (h:A.length=n):(A++[x]).set n y=A++[y]:=by subst h;simp
theorem snoc_at {α:Type} {A:List α} {x:α} {n:Nat} (h:A.length=n):(A++[x])[n]?=some x:=by subst h;simp
theorem res_low_ints (v n:Nat) (l:List Int):(Res.obj v (l.map aInt)).low n=true:=low_ints n l
structure Wd (σ:Kx.St) (js jw:Nat) (ws:List Int):Prop where
 st:σ[js]?=some (.obj 0 [.ms jw 0 0 ws.length 1,.v .nilFunc])
 wd:σ[jw]?=some (.obj 0 (ws.map aInt))
 ne:js≠jw
theorem Wd.app {σ τ:Kx.St} {js jw:Nat} {ws:List Int} (h:Wd σ js jw ws):Wd (σ++τ) js jw ws:=⟨Qn h.st,Qn h.wd,h.ne⟩
theorem Wd.setOther {σ:Kx.St} {js jw:Nat} {ws:List Int} (h:Wd σ js jw ws) {j:Nat} {r:Res} (h1:j≠js) (h2:j≠jw):Wd (σ.set j r) js jw ws:=⟨Qa h1 h.st,Qa h2 h.wd,h.ne⟩
theorem Wd.set {σ:Kx.St} {js jw:Nat} {ws ws':List Int} (h:Wd σ js jw ws) (hl:ws'.length=ws.length):Wd (σ.set jw (.obj 0 (ws'.map aInt))) js jw ws':=⟨by rw[hl];exact Qa h.ne.symm h.st,Qc h.wd,h.ne⟩
theorem Wd.self {σ:Kx.St} {js jw:Nat} {ws:List Int} (h:Wd σ js jw ws):σ.set jw (.obj 0 (ws.map aInt))=σ:=Q21 h.wd
theorem Qm (ws:List Int) (a v:Int):(stW ws a v).length=ws.length:=List.length_set
theorem Z92 (ws:List Int) (a v:Int):(addW ws a v).length=ws.length:=List.length_set
theorem Z55 (ws:List Int) (a v:Int):(swW ws a v).2.length=ws.length:=by unfold swW;split<;>simp[Qm]
def wordJ (jw:Nat) (d:List Int) (at_:Int):AV:=if at_ < 0∨(d.length:Int)≤at_ then .v (.pointer none) else .ref jw 0 at_.toNat
theorem Y04 {σ:Kx.St} {js jw:Nat} {d:List Int} (hst:σ[js]?=some (.obj 0 [.ms jw 0 0 d.length 1,.v .nilFunc])):FnG Tryz.prog 196 [.ref js 0 0] σ fun a σ'=>a=.v (.int .i64 d.length)∧σ'=σ:=by refine Q3 Z12.2 mixed rfl ?_;simp only[Z12,qH];push_cast[hst];exact trivial
theorem X44 {σ:Kx.St} {js jw:Nat} {d:List Int} (hst:σ[js]?=some (.obj 0 [.ms jw 0 0 d.length 1,.v .nilFunc])) (at_:Int) (b:Bool):
  FnG Tryz.prog 116 [.ref js 0 0,aInt at_,aBool b] σ fun a σ'=>a=wordJ jw d at_∧σ'=σ:=by
 refine Q3 Z10.2 mixed rfl ?_;simp only[Z10,aInt,aBool,qH];by_cases c1:at_ < 0
 ·have e:wordJ jw d at_=.v (.pointer none):=if_pos (.inl c1);rw[e];push_cast (disch:=omega)[c1];exact trivial
 by_cases c2:(d.length:Int)≤at_
 ·have e:wordJ jw d at_=.v (.pointer none):=if_pos (.inr c2);rw[e];push_cast (disch:=omega)[c1];refine Q4 (Y04 hst) ?_;push_cast (disch:=omega)[c2];exact trivial
 have e:wordJ jw d at_=.ref jw 0 at_.toNat:=if_neg ke;rw[e];push_cast (disch:=omega)[c1];refine Q4 (Y04 hst) ?_;push_cast (disch:=omega)[c2,hst];exact trivial
theorem Yx {jw:Nat} {d:List Int} {at_:Int} (h:at_ < 0∨(d.length:Int)≤at_):wordJ jw d at_=.v (.pointer none):=if_pos h
theorem Yy {jw:Nat} {d:List Int} {at_:Int} (h:¬(at_ < 0∨(d.length:Int)≤at_)):wordJ jw d at_=.ref jw 0 at_.toNat:=if_neg h
section
variable {σ:Kx.St} {js jw:Nat} {d:List Int} (hst:σ[js]?=some (.obj 0 [.ms jw 0 0 d.length 1,.v .nilFunc])) (hwd:σ[jw]?=some (.obj 0 (d.map aInt)))
include hst hwd
theorem st_Load_x (at_:Int):FnG Tryz.prog 68 [.ref js 0 0,aInt at_] σ fun a σ'=>a=.tup [aInt (askD d ⟨1,at_,0,0,0⟩).1,aBool (askD d ⟨1,at_,0,0,0⟩).2.1]∧σ'=σ:=by
 refine Q3 Z09.2 mixed rfl ?_;simp only[Z09,aInt,qH];push_cast;refine Q4 (X44 hst at_ false) ?_;by_cases c:at_ < 0∨(d.length:Int)≤at_
 ·have e:askD d ⟨1,at_,0,0,0⟩=(0,false,d):=if_pos c;rw[Yx c,e];push_cast[Option.isNone_none,aBool];exact trivial
 ·have e:askD d ⟨1,at_,0,0,0⟩=(d.getD at_.toNat 0,true,d):=by simp only[askD];rw[if_neg c];simp
  rw[Yy c,e];have hg:=Yv c;push_cast[hwd,hg,aBool];exact trivial
theorem X65 (at_ v:Int):FnG Tryz.prog 85 [.ref js 0 0,aInt at_,aInt v] σ fun a σ'=>a=aBool (askD d ⟨2,at_,v,0,0⟩).2.1∧σ'=σ.set jw (.obj 0 ((askD d ⟨2,at_,v,0,0⟩).2.2.map aInt)):=by
 refine Q3 ZK.2 mixed rfl ?_;simp only[ZK,aInt,qH];push_cast;refine Q4 (X44 hst at_ true) ?_;by_cases c:at_ < 0∨(d.length:Int)≤at_
 ·have e:askD d ⟨2,at_,v,0,0⟩=(0,false,d):=if_pos c;rw[Yx c,e];push_cast[Option.isNone_none,aBool];exact (Q21 hwd).symm
 ·have e:askD d ⟨2,at_,v,0,0⟩=(0,true,d.set at_.toNat v):=by simp only[askD];rw[if_neg c];simp
  rw[Yy c,e];have hlt:=Qh (Yv c);push_cast;refine Q8 rfl rfl hwd hlt ?_;rw[Yw];push_cast[aBool];exact trivial
theorem st_Add_x (at_ v:Int):FnG Tryz.prog 225 [.ref js 0 0,aInt at_,aInt v] σ fun a σ'=>a=.tup [aInt (askD d ⟨3,at_,v,0,0⟩).1,aBool (askD d ⟨3,at_,v,0,0⟩).2.1]∧σ'=σ.set jw (.obj 0 ((askD d ⟨3,at_,v,0,0⟩).2.2.map aInt)):=by
 refine Q3 Z61.2 mixed rfl ?_;simp only[Z61,aInt,qH];push_cast;refine Q4 (X44 hst at_ true) ?_;by_cases c:at_ < 0∨(d.length:Int)≤at_
 ·have e:askD d ⟨3,at_,v,0,0⟩=(0,false,d):=if_pos c;rw[Yx c,e];push_cast[Option.isNone_none,aBool];exact (Q21 hwd).symm
 ·have e:askD d ⟨3,at_,v,0,0⟩=(d.getD at_.toNat 0,true,d.set at_.toNat (IntKind.i64.wrap (d.getD at_.toNat 0+v))):=by simp only[askD];rw[if_neg c];simp
  rw[Yy c,e];have hg:=Yv c;have hlt:=Qh hg;push_cast[hwd,hg];refine Q8 rfl rfl hwd hlt ?_;rw[Yw];push_cast[aBool];exact trivial
theorem st_Swap_x (at_ v o:Int):FnG Tryz.prog 227 [.ref js 0 0,aInt at_,aInt v,aInt o] σ fun a σ'=>a=.tup [aInt (askD d ⟨4,at_,v,o,0⟩).1,aBool (askD d ⟨4,at_,v,o,0⟩).2.1]∧σ'=σ.set jw (.obj 0 ((askD d ⟨4,at_,v,o,0⟩).2.2.map aInt)):=by
 refine Q3 Z13.2 mixed rfl ?_;simp only[Z13,aInt,qH];push_cast;refine Q4 (X44 hst at_ true) ?_;by_cases c:at_ < 0∨(d.length:Int)≤at_
 ·have e:askD d ⟨4,at_,v,o,0⟩=(0,false,d):=if_pos c;rw[Yx c,e];push_cast[Option.isNone_none,aBool];exact (Q21 hwd).symm
 ·have e:askD d ⟨4,at_,v,o,0⟩=(d.getD at_.toNat 0,true,if d.getD at_.toNat 0=v then d.set at_.toNat o else d):=by simp only[askD];rw[if_neg c];simp
  rw[Yy c,e];have hg:=Yv c;have hlt:=Qh hg;by_cases cv:d.getD at_.toNat 0=v
  ·rw[if_pos cv];push_cast[hwd,hg,cv,aBool];refine Q8 rfl rfl hwd hlt ?_;rw[Yw];push_cast[aBool];exact trivial
  ·rw[if_neg cv];push_cast[hwd,hg,cv,aBool];exact (Q21 hwd).symm
end
section
variable {σ:Kx.St} {js jw:Nat} {ws:List Int} (h:Wd σ js jw ws)
include h
theorem ZV {a:Int} (h0:0≤a) (h1:a < ws.length):FnG Tryz.prog 68 [.ref js 0 0,aInt a] σ fun r σ'=>r=.tup [aInt (ldW ws a),aBool true]∧σ'=σ:=
 FnG.mono (st_Load_x h.st h.wd a) fun r σ' ⟨e1,e2⟩=>⟨by rw[e1];unfold askD;rw[if_neg ek];rfl,e2⟩
theorem ZB {a:Int} (h0:0≤a) (h1:a < ws.length) (v:Int):FnG Tryz.prog 85 [.ref js 0 0,aInt a,aInt v] σ fun r σ'=>r=aBool true∧σ'=σ.set jw (.obj 0 ((stW ws a v).map aInt)):=
 FnG.mono (X65 h.st h.wd a v) fun r σ' ⟨e1,e2⟩=>by
  have e:askD ws ⟨2,a,v,0,0⟩=(0,true,stW ws a v):=by unfold askD;rw[if_neg ek];rfl
  rw[e] at e1 e2;exact ⟨e1,e2⟩
theorem wAdd_a {a:Int} (h0:0≤a) (h1:a < ws.length) (v:Int):FnG Tryz.prog 225 [.ref js 0 0,aInt a,aInt v] σ fun r σ'=>r=.tup [aInt (ldW ws a),aBool true]∧σ'=σ.set jw (.obj 0 ((addW ws a v).map aInt)):=
 FnG.mono (st_Add_x h.st h.wd a v) fun r σ' ⟨e1,e2⟩=>by
  have e:askD ws ⟨3,a,v,0,0⟩=(ldW ws a,true,addW ws a v):=by unfold askD;rw[if_neg ek];rfl
  rw[e] at e1 e2;exact ⟨e1,e2⟩
theorem X19 {a:Int} (h0:0≤a) (h1:a < ws.length):FnG Tryz.prog 243 [.ref js 0 0,aInt a] σ fun r σ'=>r=aInt (ldW ws a)∧σ'=σ:=by refine Q3 Y00.2 mixed rfl ?_;simp only[Y00,aInt,qH];push_cast;refine Q0 (ZV h h0 h1) ?_;rintro r σ' ⟨rfl,rfl⟩;push_cast[aInt,aBool];exact trivial
theorem X99 {a:Int} (h0:0≤a) (h1:a < ws.length) (n:Int):FnG Tryz.prog 283 [.ref js 0 0,aInt a,aInt n] σ fun r σ'=>r=aBool (swW ws a n).1∧σ'=σ.set jw (.obj 0 ((swW ws a n).2.map aInt)):=by
 refine Q3 X93.2 mixed rfl ?_;simp only[X93,aInt,qH]
 have e:askD ws ⟨4,a,n,0,0⟩=(ldW ws a,true,(swW ws a n).2):=by
  unfold askD;rw[if_neg ek];have hk:¬((4:Int)=1)∧¬((4:Int)=2)∧¬((4:Int)=3):=by decide
  simp only[hk.1,hk.2.1,hk.2.2,if_false,if_true,swW,ldW,stW];split<;>(rename_i hc;simp only[hc,if_true,if_false])
 push_cast;refine Q0 (st_Swap_x h.st h.wd a n 0) ?_;rw[e];rintro r σ' ⟨rfl,rfl⟩;by_cases c:ldW ws a=n
 ·have e1:(swW ws a n).1=true:=by simp[swW,c]
  rw[e1];push_cast[aInt,aBool,c];exact trivial
 ·have e1:(swW ws a n).1=false:=by simp[swW,c]
  rw[e1];push_cast[aInt,aBool,c];exact trivial
theorem Y0 {a:Int} (h0:0≤a) (h1:a < ws.length):FnG Tryz.prog 161 [.ref js 0 0,aInt a] σ fun _ σ'=>σ'=σ.set jw (.obj 0 ((addW ws a 1).map aInt)):=by refine Q3 X88.2 mixed rfl ?_;simp only[X88,aInt,qH];push_cast;refine Q0 (wAdd_a h h0 h1 1) ?_;rintro r σ' ⟨rfl,rfl⟩;push_cast;exact trivial
theorem Y1 {a:Int} (h0:0≤a) (h1:a < ws.length):FnG Tryz.prog 160 [.ref js 0 0,aInt a] σ fun _ σ'=>σ'=σ.set jw (.obj 0 ((stW ws a 1).map aInt)):=by refine Q3 X87.2 mixed rfl ?_;simp only[X87,aInt,qH];push_cast;refine Q0 (ZB h h0 h1 1) ?_;rintro r σ' ⟨rfl,rfl⟩;push_cast;exact trivial
theorem Z31 {a:Int} (h0:0≤a) (h1:a < ws.length):FnG Tryz.prog 153 [.ref js 0 0,aInt a] σ fun r σ'=>r=aBool (joinLeave ws a).1∧σ'=σ.set jw (.obj 0 ((joinLeave ws a).2.map aInt)):=by
 refine Q3 X86.2 mixed rfl ?_;simp only[X86,aInt,qH];push_cast;refine Q0 (wAdd_a h h0 h1 (-1)) ?_;rintro r σ' ⟨rfl,rfl⟩;push_cast[aInt,aBool]
 first|exact ⟨rfl,rfl⟩|exact trivial
def aTn (at_ n:Int):AV:=.agg [.v (.int .i64 at_),.v (.int .i64 n)]
theorem ticket_Ask_a {a:Int} (h0:0≤a) (h1:a < ws.length):FnG Tryz.prog 214 [.ref js 0 0,aInt a] σ fun r σ'=>r=aTn a (ldW ws a)∧σ'=σ.set jw (.obj 0 ((addW ws a 1).map aInt)):=by
 refine FnG.drop1 (res_low_ints _ _ _) (fun a h=>by subst h;rfl) ?_;refine Q3 X97.2 mixed rfl ?_;simp only[X97,aInt,qH];have hb:fillA [AV.v (.int .i64 0),AV.v (.int .i64 0)] [(0,1),(1,1)] [.v (.int .i64 a),.v (.int .i64 (ldW ws a))]=some [.v (.int .i64 a),.v (.int .i64 (ldW ws a))]:=by simp[fillA,AV.cells,Value.cells,setAtA]
 push_cast;refine Ql ?_;push_cast;refine Q0 (wAdd_a h.app h0 h1 1) ?_;rintro r σ' ⟨rfl,rfl⟩;rw[set_app (Qh h.wd)];have e:=Qe (σ.set jw (.obj 0 ((addW ws a 1).map aInt))) (Res.obj 0 [AV.v (.int .i64 0),AV.v (.int .i64 0)]);rw[List.length_set] at e;push_cast[aInt,aBool,hb];refine Qd (cs:=[AV.v (.int .i64 0),.v (.int .i64 0)]) rfl rfl e ki ?_;have hs2:setAtA [AV.v (.int .i64 0),AV.v (.int .i64 0)] 0 [.v (.int .i64 a),.v (.int .i64 (ldW ws a))]=[.v (.int .i64 a),.v (.int .i64 (ldW ws a))]:=rfl;have c2:cellsA (some 2) [AV.v (.int .i64 a),.v (.int .i64 (ldW ws a))]=some (aTn a (ldW ws a)):=rfl;rw[hs2,snoc_set ki];have e':=snoc_at (A:=σ.set jw (.obj 0 ((addW ws a 1).map aInt))) (n:=σ.length) (x:=Res.obj 0 [AV.v (.int .i64 a),.v (.int .i64 (ldW ws a))]) ki;push_cast[e',c2];exact ⟨_,rfl⟩
theorem J5 {a n:Int} (h0:0≤a+1) (h1:a+1 < ws.length) (ha:a≤1000000):FnG Tryz.prog 216 [aTn a n,.ref js 0 0] σ fun r σ'=>r=aBool (decide (ldW ws (a+1)=n))∧σ'=σ:=by refine Q3 Z27.2 mixed rfl ?_;simp only[Z27,aTn,qH];push_cast (disch:=omega);refine Q6 ?_;push_cast (disch:=omega);refine Q0 (ZV h h0 h1) ?_;rintro r σ' ⟨rfl,rfl⟩;by_cases c:ldW ws (a+1)=n<;>(push_cast (disch:=omega)[aInt,aBool,c];exact trivial)
theorem Y39 {a n:Int} (h0:0≤a+1) (h1:a+1 < ws.length) (ha:a≤1000000):FnG Tryz.prog 311 [aTn a n,.ref js 0 0] σ fun r σ'=>r=aBool true∧σ'=σ.set jw (.obj 0 ((stW ws (a+1) (w64 (n+1))).map aInt)):=by refine Q3 ZU.2 mixed rfl ?_;simp only[ZU,aTn,qH];push_cast (disch:=omega);refine Q6 ?_;push_cast (disch:=omega);refine Q0 (ZB h h0 h1 _) ?_;rintro r σ' ⟨rfl,rfl⟩;push_cast (disch:=omega)[aBool];exact trivial
end
end Go.Proofs.YtelibaobkcokdaaGreat.Mx
