/- Programs: what is wrong with them; their own copies; great ones. Taken out of th -/
import Derived.Test.YtelibaobkcokdaaGreatTH2G09
namespace Go.Proofs.YtelibaobkcokdaaGreat
set_option linter.unusedVariables false
set_option linter.unusedSimpArgs false
open Go Go.Kx Go.Proofs
theorem mixed:Tryz.prog.follows .mixedOrders=true:=by kernel_rfl
def aIx (x:Ix):List AV:=[.v (.int .i64 x.op),.v (.int .i64 x.a),.v (.int .i64 x.b),.v (.int .i64 x.c)]
theorem X04 (x:Ix):(aIx x).length=4:=rfl
theorem Z76 (x:Ix):AV.pureL (aIx x)=true:=by simp[aIx,AV.pureL,AV.pure]
theorem aIx_res (σ:St) (x:Ix):AV.resL σ (aIx x)=aIx x:=by simp[aIx,AV.resL,AV.res]
def aIxs (l:List Ix):AV:=aSlN aIx l
theorem X16 (l:List Ix):(aIxs l).pure=true:=aSlN_pure Z76 l
theorem aIxs_res (σ:St) (l:List Ix) (t:Tok):(AV.sl l.length (l.flatMap aIx) t).res σ=aIxs l:=aSlN_res (aIx_res σ) l t
def fmS (op:Int):ByteArray:=
 if op=1 then ⟨#[114,110]⟩
 else if op=2∨op=13∨op=14 then ⟨#[114,114]⟩
 else if (3≤op∧op≤12)∨op=15∨op=16 then ⟨#[114,114,114]⟩
 else if op=17∨op=23∨op=24 then ⟨#[114]⟩
 else if op=18 then ⟨#[116]⟩
 else if op=19 then ⟨#[114,116]⟩
 else if op=20∨op=22 then ⟨#[102]⟩
 else ⟨#[]⟩
theorem fmS_sz (op:Int):(fmS op).size≤3:=by
 unfold fmS
 repeat' split
 all_goals decide
theorem add1:PF.val (.bin .add) [.string ⟨#[114]⟩,.string ⟨#[114]⟩]=some (.string ⟨#[114,114]⟩):=by rfl
theorem add2:PF.val (.bin .add) [.string ⟨#[114,114]⟩,.string ⟨#[114]⟩]=some (.string ⟨#[114,114,114]⟩):=by rfl
theorem add0:PF.val (.bin .add) [.string ⟨#[]⟩,.string ⟨#[114]⟩]=some (.string ⟨#[114]⟩):=by rfl
set_option maxHeartbeats 4000000 in
theorem Y41 (op:Int):FnP Tryz.prog 294 [aInt op] fun a=>a=.v (.string (fmS op)):=by
 refine Qj Y39.2 mixed rfl o7 ?_;simp only[Y39,aInt,qH];refine Qc (fun ε σ=>ε 0=.v (.int .i64 op)∧σ=[]) (fun N X' R' hN=>by push_cast;exact hN _ _ (by push_cast)) ?_;rintro ε σ ⟨hρ,rfl⟩;refine Qc (fun ε σ=>(ε 0=.v (.int .i64 op)∧ε 3=.v (.string ⟨#[]⟩))∧σ=[]) (fun N X' R' hN=>by push_cast[hρ];exact hN _ _ (by push_cast[hρ])) ?_;clear hρ ε;rintro ε σ ⟨hρ,rfl⟩;refine Qc (fun ε σ=>ε 3=.v (.string (fmS op))∧σ=[]) ?_ ?_
 ·intro N X R hN;refine ZF fun x0 e0=>?_;refine Ys fun m7 d7=>?_;refine ZF fun x7 e7=>?_;refine Ys fun m6 d6=>?_;refine ZF fun x6 e6=>?_;refine Ys fun m5 d5=>?_;refine ZF fun x5 e5=>?_;refine Ys fun m4 d4=>?_;refine ZF fun x4 e4=>?_;refine Ys fun m3 d3=>?_;refine ZF fun x3 e3=>?_;refine Ys fun m2 d2=>?_;refine ZF fun x2 e2=>?_;refine Ys fun m1 d1=>?_;refine ZF fun x1 e1=>?_;have t1:∀ε σ,x1 1 ε σ=m1 ε σ:=fun ε σ=>by rw[e1];rfl
  have t2:∀ε σ,x1 2 ε σ=m2 ε σ:=fun ε σ=>by rw[e1,e2];rfl
  have t3:∀ε σ,x1 3 ε σ=m3 ε σ:=fun ε σ=>by rw[e1,e2,e3];rfl
  have t4:∀ε σ,x1 4 ε σ=m4 ε σ:=fun ε σ=>by rw[e1,e2,e3,e4];rfl
  have t5:∀ε σ,x1 5 ε σ=m5 ε σ:=fun ε σ=>by rw[e1,e2,e3,e4,e5];rfl
  have t6:∀ε σ,x1 6 ε σ=m6 ε σ:=fun ε σ=>by rw[e1,e2,e3,e4,e5,e6];rfl
  have t7:∀ε σ,x1 7 ε σ=m7 ε σ:=fun ε σ=>by rw[e1,e2,e3,e4,e5,e6,e7];rfl
  have t0:∀ε σ,x1 0 ε σ=N ε σ:=fun ε σ=>by rw[e1,e2,e3,e4,e5,e6,e7,e0];rfl
  have z1:∀ε σ,x2 0 ε σ=N ε σ:=fun ε σ=>by rw[e2,e3,e4,e5,e6,e7,e0];rfl
  have z2:∀ε σ,x3 0 ε σ=N ε σ:=fun ε σ=>by rw[e3,e4,e5,e6,e7,e0];rfl
  have z3:∀ε σ,x4 0 ε σ=N ε σ:=fun ε σ=>by rw[e4,e5,e6,e7,e0];rfl
  have z4:∀ε σ,x5 0 ε σ=N ε σ:=fun ε σ=>by rw[e5,e6,e7,e0];rfl
  have z5:∀ε σ,x6 0 ε σ=N ε σ:=fun ε σ=>by rw[e6,e7,e0];rfl
  have z6:∀ε σ,x7 0 ε σ=N ε σ:=fun ε σ=>by rw[e7,e0];rfl
  have z7:∀ε σ,x0 0 ε σ=N ε σ:=fun ε σ=>by rw[e0];rfl
  clear e0 e1 e2 e3 e4 e5 e6 e7;by_cases c0:3≤op∧op≤12
  ·have e:fmS op=⟨#[114,114,114]⟩:=by unfold fmS;rw[if_neg ka,if_neg ka,if_pos (.inl c0)]
   obtain ⟨c1,c2⟩:=c0;rw[e] at hN;push_cast[hρ,c1,c2,t1];subst d1;push_cast[hρ,add0,add1,add2,z1];subst d2;push_cast[hρ,add0,add1,add2,z2];subst d3;push_cast[hρ,add0,add1,add2,z3];exact hN _ _ (by push_cast[hρ];try rfl)
  by_cases o:op=15∨op=16∨op=2∨op=13∨op=14∨op=17∨op=23∨op=24∨op=1∨op=19∨op=18∨op=20∨op=22
  ·rcases o with rfl|rfl|rfl|rfl|rfl|rfl|rfl|rfl|rfl|rfl|rfl|rfl|rfl
   all_goals
    push_cast[hρ,t1,t2,t3,t4,t5,t6,t7]
    (try (subst d1;push_cast[hρ,add0,add1,add2,z1]));(try (subst d2;push_cast[hρ,add0,add1,add2,z2]));(try (subst d3;push_cast[hρ,add0,add1,add2,z3]));(try (subst d4;push_cast[hρ,add0,z4]));(try (subst d5;push_cast[hρ,add0,z5]));(try (subst d6;push_cast[hρ,add0,z6]));(try (subst d7;push_cast[hρ,add0,z7]))
    exact hN _ _ (by push_cast[hρ];try rfl)
  simp only[not_or] at o;obtain ⟨o15,o16,o2,o13,o14,o17,o23,o24,o1,o19,o18,o20,o22⟩:=o;have e:fmS op=⟨#[]⟩:=by unfold fmS;rw[if_neg o1,if_neg ka,if_neg ka,if_neg ka,if_neg o18,if_neg o19,if_neg ka]
  rw[e] at hN;by_cases c1:3≤op
  ·have c2:¬op≤12:=by omega
   push_cast[hρ,c1,c2,o15,o16,o2,o13,o14,o17,o23,o24,o1,o19,o18,o20,o22,t0];exact hN _ _ (by push_cast[hρ])
  ·push_cast[hρ,c1,o15,o16,o2,o13,o14,o17,o23,o24,o1,o19,o18,o20,o22,t0];exact hN _ _ (by push_cast[hρ])
 clear hρ ε;rintro ε σ ⟨hρ,rfl⟩;push_cast[hρ];exact ⟨[],rfl⟩
def endsB (b:UInt8):Int×Int:=if b=114 then (0,7) else if b=102 then (0,15) else if b=116 then (0,199) else (-32768,32767)
def fitB (b:UInt8) (n:Int):Bool:=decide ((endsB b).1≤n∧n≤(endsB b).2)
theorem u8_lit (b:UInt8) (k:Nat) (hk:k < 256):((b.toNat:Int)=(k:Int))↔b=UInt8.ofNat k:=by rw[←UInt8.toNat_inj];simp only[UInt8.toNat_ofNat'];omega
set_option maxHeartbeats 4000000 in
theorem ins_fits_a (b:UInt8) (n:Int):FnP Tryz.prog 296 [.v (.int .u8 b.toNat),aInt n] fun a=>a=aBool (fitB b n):=by
 refine Qj Y40.2 mixed rfl (by simp[AV.pureL,Ql,AV.pure]) ?_;simp only[Y40,aInt,qH];have e1:=u8_lit b 114 ka;have e2:=u8_lit b 102 ka;have e3:=u8_lit b 116 ka;simp only[Int.cast_ofNat_Int] at e1 e2 e3;by_cases h1:b=114
 ·have hf:fitB b n=(decide (0≤n)&&decide (n≤7)):=by subst h1;simp[fitB,endsB]
  have n1:((b.toNat:Int)=114):=e1.2 h1;rw[hf];by_cases c:0≤n<;>(push_cast[n1,c];exact ⟨[],rfl,by simp[AV.res,aBool]⟩)
 have n1:¬((b.toNat:Int)=114):=fun h=>h1 (e1.1 h);by_cases h2:b=102
 ·have hf:fitB b n=(decide (0≤n)&&decide (n≤15)):=by subst h2;simp[fitB,endsB]
  have n2:((b.toNat:Int)=102):=e2.2 h2;rw[hf];by_cases c:0≤n<;>(push_cast[n1,n2,c];exact ⟨[],rfl,by simp[AV.res,aBool]⟩)
 have n2:¬((b.toNat:Int)=102):=fun h=>h2 (e2.1 h);by_cases h3:b=116
 ·have hf:fitB b n=(decide (0≤n)&&decide (n≤199)):=by subst h3;simp[fitB,endsB]
  have n3:((b.toNat:Int)=116):=e3.2 h3;rw[hf];by_cases c:0≤n<;>(push_cast[n1,n2,n3,c];exact ⟨[],rfl,by simp[AV.res,aBool]⟩)
 have n3:¬((b.toNat:Int)=116):=fun h=>h3 (e3.1 h);have hf:fitB b n=(decide (-32768≤n)&&decide (n≤32767)):=by simp[fitB,endsB,h1,h2,h3]
 rw[hf];by_cases c:-32768≤n<;>(push_cast[n1,n2,n3,c];exact ⟨[],rfl,by simp[AV.res,aBool]⟩)
def aI3 (x:Ix):List AV:=[.v (.int .i64 x.a),.v (.int .i64 x.b),.v (.int .i64 x.c)]
theorem cellsIx (x:Ix) (t:List AV):cellsA (some 4) (aIx x++t)=some (.agg (aIx x)):=by simp[cellsA,aIx]
theorem cellsIx' (x:Ix):cellsA (some 4) (aIx x)=some (.agg (aIx x)):=rfl
set_option maxHeartbeats 4000000 in
theorem Xo (x:Ix):FnP Tryz.prog 295 [.agg (aIx x)] fun a=>a=.agg (aI3 x):=by
 refine Qj X72.2 mixed rfl (by simp[AV.pureL,AV.pure,Z76]) ?_;simp only[X72,qH];have hac:(AV.agg (aIx x)).cells=aIx x:=rfl;have g1:(aIx x)[1]?=some (.v (.int .i64 x.a)):=rfl;have g2:(aIx x)[2]?=some (.v (.int .i64 x.b)):=rfl;have g3:(aIx x)[3]?=some (.v (.int .i64 x.c)):=rfl;have hb3:fillA [AV.v (.int .i64 0),AV.v (.int .i64 0),AV.v (.int .i64 0)] [(0,1),(1,1),(2,1)] [AV.v (.int .i64 x.a),AV.v (.int .i64 x.b),AV.v (.int .i64 x.c)]=some (aI3 x):=by simp[fillA,AV.cells,Value.cells,setAtA,aI3]
 push_cast;refine Qs ?_;push_cast[hac];refine Qm ?_;push_cast[hac,g1,g2,g3,hb3];refine Qd (cs:=[AV.v (.int .i64 0),AV.v (.int .i64 0),AV.v (.int .i64 0)]) rfl rfl rfl ko ?_;have hset:setAtA [AV.v (.int .i64 0),AV.v (.int .i64 0),AV.v (.int .i64 0)] 0 (aI3 x)=aI3 x:=rfl;have hc3:cellsA (some 3) (aI3 x)=some (.agg (aI3 x)):=rfl;rw[hset];push_cast[hc3];exact Y67 [] (by simp[AV.res,aI3,AV.resL]) (by simp[AV.pure,aI3,AV.pureL])
def opsX (x:Ix):List Int:=[x.a,x.b,x.c]
def letX (x:Ix):List UInt8:=(fmS x.op).data.toList
def insE (x:Ix):Int:=if x.op < 0∨26≤x.op then 5 else if ((letX x).zip (opsX x)).all (fun p=>fitB p.1 p.2) then (if ((opsX x).drop (letX x).length).all (fun n=>decide (n=0)) then 0 else 4) else 3
theorem letX_len (x:Ix):(letX x).length≤3:=by have:=fmS_sz x.op;rw[str_size] at this;exact this
theorem letX_size (x:Ix):(fmS x.op).size=(letX x).length:=str_size _
theorem Y72 (x:Ix):aI3 x=(opsX x).map aInt:=rfl
theorem Qw {d:Nat} {n:Option Nat} {x:Operand} {ε:AEnv} {σ:Kx.St} (h:ldA n (evA ε x) σ=some (ε d)∧(ε d).exact=true):SItem.aholds ⟨some d,none,.ld n x⟩ ε σ:=.inl ⟨trivial,ε d,h.1,h.2,fun e h'=>by cases h';rfl⟩
theorem ex_Ix (x:Ix):(AV.agg (aIx x)).exact=true:=rfl
theorem Y73 (n:Int):(AV.v (.int .i64 n)).exact=true:=rfl
theorem zip_all {α β:Type} {f:α×β→Bool} {xs:List α} {ys:List β} {k:Nat} {a:α} {b:β} (ha:xs[k]?=some a) (hb:ys[k]?=some b):(xs.zip ys)[k]?=some (a,b):=by rw[List.getElem?_zip_eq_some];exact ⟨ha,hb⟩
set_option maxHeartbeats 8000000 in
theorem ins_Check_a (x:Ix):FnP Tryz.prog 261 [.agg (aIx x)] fun a=>a=aInt (insE x):=by
 refine Qj Yz.2 mixed rfl (by simp[AV.pureL,AV.pure,Z76]) ?_;simp only[Yz,qH];have hac:(AV.agg (aIx x)).cells=aIx x:=rfl;have g0:(aIx x)[0]?=some (.v (.int .i64 x.op)):=rfl;refine Qc (fun ε σ=>ε 1=.ref 0 0 0∧σ=[.obj 0 (aIx x)]) ?_ ?_
 ·intro N X R hN;push_cast (disch:=omega);refine Qs ?_;push_cast (disch:=omega)[hac];exact hN _ _ (by push_cast (disch:=omega))
 rintro ε σ ⟨hρ,rfl⟩;refine Qt (fun ε σ=>ε 1=.ref 0 0 0∧(0≤x.op∧x.op < 26)∧σ=[.obj 0 (aIx x)]) ?_ ?_
 ·intro N hN;by_cases c1:x.op < 0
  ·have e:insE x=5:=by unfold insE;rw[if_pos (.inl c1)]
   push_cast (disch:=omega)[hρ,g0,c1,e];exact ⟨[],rfl,rfl⟩
  by_cases c2:26≤x.op
  ·have e:insE x=5:=by unfold insE;rw[if_pos (.inr c2)]
   push_cast (disch:=omega)[hρ,g0,c1,c2,e];exact ⟨[],rfl,rfl⟩
  push_cast (disch:=omega)[hρ,g0,c1,c2];exact hN _ _ (by push_cast (disch:=omega)[hρ];omega)
 clear hρ ε;rintro ε σ ⟨hρ,hop,rfl⟩;have hE:insE x=if ((letX x).zip (opsX x)).all (fun p=>fitB p.1 p.2) then (if ((opsX x).drop (letX x).length).all (fun n=>decide (n=0)) then 0 else 4) else 3:=by unfold insE;rw[if_neg ka]
 refine Qc (fun ε σ=>(ε 3=.v (.string (fmS x.op))∧ε 4=.ref 1 0 0)∧σ=[.obj 0 (aIx x),.obj 0 (aI3 x)]) ?_ ?_
 ·intro N X R hN;have hset:setAtA [AV.v (.int .i64 0),AV.v (.int .i64 0),AV.v (.int .i64 0)] 0 (aI3 x)=aI3 x:=rfl;push_cast (disch:=omega)[hρ,g0,cellsIx'];refine ⟨?_,?_⟩
  ·refine Q5 (Y41 x.op) ?_;push_cast (disch:=omega);refine ⟨Qw oD,?_,?_⟩
   ·refine Q5 (Xo x) ?_;push_cast (disch:=omega);refine Qm ?_;push_cast (disch:=omega);refine Qd (cs:=[AV.v (.int .i64 0),AV.v (.int .i64 0),AV.v (.int .i64 0)]) rfl rfl rfl ko ?_;rw[hset];push_cast (disch:=omega);exact hN _ _ (by push_cast (disch:=omega)[hρ];try rfl)
   ·refine Qm ?_;push_cast (disch:=omega);refine ⟨Qw oD,?_⟩;refine Q5 (Xo x) ?_;push_cast (disch:=omega);refine Qd (cs:=[AV.v (.int .i64 0),AV.v (.int .i64 0),AV.v (.int .i64 0)]) rfl rfl rfl ko ?_;rw[hset];push_cast (disch:=omega);exact hN _ _ (by push_cast (disch:=omega)[hρ];try rfl)
  ·refine Qm ?_;push_cast (disch:=omega);refine ⟨Qw oD,Qw (by push_cast (disch:=omega)[hρ,g0,Y73]),?_⟩;refine Q5 (Y41 x.op) ?_;push_cast (disch:=omega);refine ⟨Qw oD,?_⟩;refine Q5 (Xo x) ?_;push_cast (disch:=omega);refine Qd (cs:=[AV.v (.int .i64 0),AV.v (.int .i64 0),AV.v (.int .i64 0)]) rfl rfl rfl ko ?_;rw[hset];push_cast (disch:=omega);exact hN _ _ (by push_cast (disch:=omega)[hρ];try rfl)
 clear hρ ε;rintro ε σ ⟨hρ,rfl⟩;have hL3:=letX_len x;have hsz:=letX_size x;refine Qt (fun ε σ=>(ε 3=.v (.string (fmS x.op))∧ε 4=.ep (aI3 x))∧((letX x).zip (opsX x)).all (fun p=>fitB p.1 p.2)=true) ?_ ?_
 ·intro N hN;have hfz:(ε 4).res (Go.Kx.freeze [1] [.obj 0 (aIx x),.obj 0 (aI3 x)])=.ep (aI3 x):=by rw[hρ.2];simp[Go.Kx.freeze,freeze1,AV.res,AV.resL,aI3]
  push_cast (disch:=omega)[hρ,hsz]
  refine wpa_blg (GU.frz [1] 4) (α:=Nat) (I:=fun k ε σ=>(ε 3=.v (.string (fmS x.op))∧ε 4=.ep (aI3 x)∧ε 22=.v (.int .i64 (letX x).length)∧ε 23=.v (.int .i64 k))∧k≤(letX x).length∧(((letX x).zip (opsX x)).take k).all (fun p=>fitB p.1 p.2)=true)
   (μ:=fun k=>(letX x).length - k) (Q:=fun ε σ=>(ε 3=.v (.string (fmS x.op))∧ε 4=.ep (aI3 x))∧((letX x).zip (opsX x)).all (fun p=>fitB p.1 p.2)=true) (x:=0) ?_ ?_ hN
  ·push_cast (disch:=omega)[hρ];refine ⟨?_,by omega,rfl⟩;rw[←hρ.2];exact hfz
  ·clear hN N hρ hfz ε;rintro k ε σ N E ⟨hρ,hk,hall⟩ hN hE';by_cases hlt:k < (letX x).length
   ·obtain ⟨b,hb⟩:=Q23 hlt;obtain ⟨n,hn⟩:=Q23 (l:=opsX x) (k:=k) (by show k < 3;omega);have hix:PF.val .ixs [.string (fmS x.op),.int .i64 k]=some (.int .u8 b.toNat):=pv_str_ix ka (by show (letX x)[k]?=some b;exact hb);have hn':(aI3 x)[k]?=some (.v (.int .i64 n)):=by rw[Y72,List.getElem?_map,hn];rfl
    have hz:=zip_all (f:=fun _=>true) hb hn;have hsu:=Qp hz;push_cast (disch:=omega)[hρ,hix,hn'];refine Q5 (ins_fits_a b n) ?_;by_cases hf:fitB b n=true
    ·rw[hf];push_cast (disch:=omega)[hρ,aBool];exact hN (k+1) _ _ ⟨by push_cast (disch:=omega)[hρ],by omega,by rw[hsu,List.all_append,hall];simp[hf]⟩ ka
    ·have hf':fitB b n=false:=by simpa using hf
     rw[hf'];have e:insE x=3:=by rw[hE,if_neg];rw[List.all_eq_true];intro h;exact hf (h (b,n) (List.mem_of_getElem? hz))
     rw[e];push_cast (disch:=omega)[hρ,aBool];exact ⟨[],rfl,rfl⟩
   ·push_cast (disch:=omega)[hρ];refine hE' _ _ ⟨by push_cast (disch:=omega)[hρ],?_⟩;rw[List.take_of_length_le] at hall
    ·exact hall
    ·rw[List.length_zip];omega
 clear hρ ε;rintro ε σ ⟨hρ,hall⟩;rw[hE,if_pos hall];have hdl:((opsX x).drop (letX x).length).length=3 - (letX x).length:=by rw[List.length_drop];rfl
 refine Qt (fun ε σ=>((opsX x).drop (letX x).length).all (fun n=>decide (n=0))=true) ?_ ?_
 ·intro N hN;have hsub:subA (aI3 x) (letX x).length (3 - (letX x).length)=((opsX x).drop (letX x).length).map aInt:=by unfold subA;rw[Y72,List.map_drop,List.take_of_length_le];simp[opsX]
  have tn:(((letX x).length:Nat):Int).toNat=(letX x).length:=by omega
  push_cast (disch:=omega)[hρ,hsz,tn,hsub];generalize hO:(opsX x).drop (letX x).length=O at hdl hN ⊢;rw[←hdl]
  refine ZE (α:=Nat) (I:=fun k ε σ=>(ε 37=.sl O.length (O.map aInt) .none∧ε 38=.v (.int .i64 O.length)∧ε 39=.v (.int .i64 k))∧k≤O.length∧(O.take k).all (fun n=>decide (n=0))=true)
   (μ:=fun k=>O.length - k) (Q:=fun ε σ=>O.all (fun n=>decide (n=0))=true) (x:=0) ?_ ?_ (fun ε σ h=>hN ε σ h)
  ·push_cast (disch:=omega);exact ⟨congrArg (fun n=>AV.v (.int .i64 n)) ka,by omega,rfl⟩
  ·clear hρ ε hN N;rintro k ε σ N E ⟨hρ,hk,ha⟩ hN hE';by_cases hlt:k < O.length
   ·obtain ⟨n,hn⟩:=Q23 hlt;have hsu:=Qp hn;by_cases h0:n=0
    ·push_cast (disch:=omega)[hρ,hn,aInt,h0];exact hN (k+1) _ _ ⟨by push_cast (disch:=omega)[hρ],by omega,by rw[hsu,List.all_append,ha];simp[h0]⟩ ka
    ·have e:(O.all fun n=>decide (n=0))=false:=by rw[List.all_eq_false];exact ⟨n,List.mem_of_getElem? hn,by simpa using h0⟩
     rw[e];push_cast (disch:=omega)[hρ,hn,aInt,h0];exact oo
   ·push_cast (disch:=omega)[hρ];rw[List.take_of_length_le ka] at ha;exact hE' _ _ ha
 rintro ε σ h;rw[if_pos h];push_cast (disch:=omega);exact ⟨[],rfl,rfl⟩
def aFs (fs:List (List Ix)):AV:=aSl aIxs fs
theorem aFs_pure (fs:List (List Ix)):(aFs fs).pure=true:=aSl_pure X16 fs
theorem aIxs_res' (σ:St) (l:List Ix):(aIxs l).res σ=aIxs l:=aIxs_res σ l .none
theorem aFs_res (σ:St) (fs:List (List Ix)) (t:Tok):(AV.sl fs.length (fs.map aIxs) t).res σ=aFs fs:=aSl_res (aIxs_res' σ) fs t
def aPr (m:Int) (fs:List (List Ix)):List AV:=[.v (.int .i64 m),aFs fs]
theorem Zv (m:Int) (fs:List (List Ix)):AV.pureL (aPr m fs)=true:=by simp[aPr,AV.pureL,AV.pure,aFs_pure]
def manyE (n most:Int):Int:=if n=0 then 7 else if most < n then 9 else 0
def leadB (x:Ix) (code funcs:Int):Bool:=if x.op=18 then decide (x.a < code) else if x.op=19 then decide (x.b < code) else if x.op=20∨x.op=22 then decide (x.a < funcs) else true
def scanE (code funcs:Int):List Ix→Int
 | []=>0
 | x::l=>if insE x≠0 then insE x else if leadB x code funcs=false then 11 else scanE code funcs l
def lastE (l:List Ix):Int:=match l[l.length - 1]? with|some x=>if endsX x then 0 else 12|none=>12
def fnE (l:List Ix) (funcs:Int):Int:=if manyE l.length 200≠0 then manyE l.length 200 else if scanE l.length funcs l≠0 then scanE l.length funcs l else lastE l
def fnsE (funcs:Int):List (List Ix)→Int
 | []=>0
 | l::ls=>if fnE l funcs≠0 then fnE l funcs else fnsE funcs ls
def prgE (m:Int) (fs:List (List Ix)):Int:=if m < 0∨256 < m then 3 else if manyE fs.length 16≠0 then manyE fs.length 16 else fnsE fs.length fs
theorem YA (n most:Int):FnP Tryz.prog 260 [aInt n,aInt most] fun a=>a=aInt (manyE n most):=by
 refine Qj Yy.2 mixed rfl o7 ?_;simp only[Yy,aInt,qH];unfold manyE;by_cases c1:n=0
 ·push_cast[c1];exact oo
 by_cases c2:most < n
 ·push_cast[c1,c2];exact oo
 ·push_cast[c1,c2];exact oo
theorem prog_sizes_a (m n:Int):FnP Tryz.prog 197 [aInt m,aInt n] fun a=>a=aInt (if m < 0∨256 < m then 3 else manyE n 16):=by
 refine Qj X69.2 mixed rfl o7 ?_;simp only[X69,aInt,qH];by_cases c1:m < 0
 ·rw[if_pos (.inl c1)];push_cast[c1];exact oo
 by_cases c2:256 < m
 ·rw[if_pos (.inr c2)];push_cast[c1,c2];exact oo
 rw[if_neg ka];push_cast[c1,c2];refine Q5 (YA n 16) ?_;push_cast[aInt];exact oo
set_option maxHeartbeats 4000000 in
theorem prog_leads_a (x:Ix) (code funcs:Int):FnP Tryz.prog 262 [.agg (aIx x),aInt code,aInt funcs] fun a=>a=aBool (leadB x code funcs):=by
 refine Qj X71.2 mixed rfl (by simp[AV.pureL,Ql,AV.pure,Z76]) ?_;simp only[X71,aInt,qH];have hac:(AV.agg (aIx x)).cells=aIx x:=rfl;have g0:(aIx x)[0]?=some (.v (.int .i64 x.op)):=rfl;have g1:(aIx x)[1]?=some (.v (.int .i64 x.a)):=rfl;have g2:(aIx x)[2]?=some (.v (.int .i64 x.b)):=rfl;unfold leadB;push_cast;refine Qs ?_;by_cases c1:x.op=18
 ·push_cast[hac,g0,g1,g2,c1];exact oo
 by_cases c2:x.op=19
 ·push_cast[hac,g0,g1,g2,c1,c2];exact oo
 by_cases c3:x.op=20
 ·rw[if_neg c1,if_neg c2,if_pos (.inl c3)];push_cast[hac,g0,g1,g2,c1,c2,c3];exact oo
 by_cases c4:x.op=22
 ·rw[if_neg c1,if_neg c2,if_pos (.inr c4)];push_cast[hac,g0,g1,g2,c1,c2,c3,c4];exact oo
 rw[if_neg c1,if_neg c2,if_neg ka];push_cast[hac,g0,g1,g2,c1,c2,c3,c4];exact oo
set_option maxHeartbeats 8000000 in
theorem YB (l:List Ix) (funcs:Int) (hl:l.length≤300):FnP Tryz.prog 198 [aIxs l,aInt funcs] fun a=>a=aInt (fnE l funcs):=by
 refine Qj Xn.2 mixed rfl (by simp[AV.pureL,Ql,X16]) ?_;simp only[Xn,aInt,qH];have hIL:aIxs l=.sl l.length (l.flatMap aIx) .none:=rfl;refine Qc (fun ε σ=>(ε 0=aIxs l∧ε 1=.v (.int .i64 funcs))∧σ=[]) (fun N X' R' hN=>by push_cast (disch:=omega);exact hN _ _ (by push_cast (disch:=omega))) ?_;rintro ε σ ⟨hρ,rfl⟩;refine Qt (fun ε σ=>(ε 0=aIxs l∧ε 1=.v (.int .i64 funcs))∧manyE l.length 200=0) ?_ ?_
 ·intro N hN;push_cast (disch:=omega)[hρ,hIL];refine Q5 (YA l.length 200) ?_;by_cases hz:manyE l.length 200=0
  ·push_cast (disch:=omega)[hρ,aInt,hz];exact hN _ _ ⟨by push_cast (disch:=omega)[hρ],hz⟩
  ·have e:fnE l funcs=manyE l.length 200:=by unfold fnE;rw[if_pos hz]
   rw[e];push_cast (disch:=omega)[hρ,aInt,hz];exact oo
 clear hρ ε;rintro ε σ ⟨hρ,hz⟩
 have hpos:0 < l.length:=by
  unfold manyE at hz;rcases Nat.eq_zero_or_pos l.length with h|h
  ·rw[h] at hz;simp at hz
  ·exact h
 have hF:fnE l funcs=if scanE l.length funcs l≠0 then scanE l.length funcs l else lastE l:=by unfold fnE;rw[if_neg (by simp[hz])]
 refine Qt (fun ε σ=>(ε 0=aIxs l∧ε 1=.v (.int .i64 funcs))∧scanE l.length funcs l=0) ?_ ?_
 ·intro N hN;push_cast (disch:=omega)[hρ,hIL]
  refine ZE (α:=Nat) (I:=fun k ε σ=>(ε 0=aIxs l∧ε 1=.v (.int .i64 funcs)∧ε 15=aIxs l∧ε 16=.v (.int .i64 l.length)∧ε 17=.v (.int .i64 k))∧k≤l.length∧scanE l.length funcs l=scanE l.length funcs (l.drop k))
   (μ:=fun k=>l.length - k) (Q:=fun ε σ=>(ε 0=aIxs l∧ε 1=.v (.int .i64 funcs))∧scanE l.length funcs l=0) (x:=0) ?_ ?_ hN
  ·push_cast (disch:=omega)[hρ,hIL];omega
  ·clear hN N hρ ε;rintro k ε σ N E ⟨hρ,hk,hs⟩ hN hE;by_cases hlt:k < l.length
   ·obtain ⟨x,hx⟩:=Q23 hlt;have hd:=QQ X04 hx;have hset:setAtA [AV.v (.int .i64 0),AV.v (.int .i64 0),AV.v (.int .i64 0),AV.v (.int .i64 0)] 0 (aIx x)=aIx x:=rfl;rw[Yr hx] at hs;simp only[scanE] at hs;push_cast (disch:=omega)[hρ,hIL,hd,cellsIx];refine Qm ?_;push_cast (disch:=omega);refine Qd (cs:=[AV.v (.int .i64 0),AV.v (.int .i64 0),AV.v (.int .i64 0),AV.v (.int .i64 0)]) rfl rfl (Qe _ _) ke ?_;rw[hset,Qu];have hb:(σ++[Res.obj 0 (aIx x)])[σ.length]?=some (.obj 0 (aIx x)):=Qe _ _;generalize σ++[Res.obj 0 (aIx x)]=S at hb ⊢;generalize σ.length=i0 at hb ⊢;push_cast (disch:=omega)[hb,cellsIx'];refine Q5 (ins_Check_a x) ?_;by_cases hi:insE x=0
    ·rw[if_neg (by simp[hi])] at hs;push_cast (disch:=omega)[hρ,aInt,hi,hb,cellsIx',hIL];refine Q5 (prog_leads_a x l.length funcs) ?_;by_cases hb2:leadB x l.length funcs=true
     ·rw[if_neg (by simp[hb2])] at hs;push_cast (disch:=omega)[hρ,aBool,hb2];exact hN (k+1) _ _ ⟨by push_cast (disch:=omega)[hρ],by omega,hs⟩ ka
     ·have hb3:leadB x l.length funcs=false:=by simpa using hb2
      rw[if_pos hb3] at hs;rw[hF,hs];push_cast (disch:=omega)[hρ,aBool,hb3];exact oo
    ·rw[if_pos hi] at hs;rw[hF,hs,if_pos hi];push_cast (disch:=omega)[hρ,aInt,hi];exact oo
   ·push_cast (disch:=omega)[hρ];obtain rfl:k=l.length:=by omega
    rw[List.drop_length] at hs;exact hE _ _ ⟨by push_cast (disch:=omega)[hρ],hs⟩
 clear hρ ε;rintro ε σ ⟨hρ,hs⟩;rw[hF,hs];obtain ⟨x,hx⟩:=Q23 (l:=l) (k:=l.length - 1) ka;have hL:lastE l=if endsX x then 0 else 12:=by unfold lastE;rw[hx]
 have hd:=QQ X04 hx
 have hc0:(l.flatMap aIx)[(l.length - 1) * 4]?=some (.v (.int .i64 x.op)):=by
  have:((l.flatMap aIx).drop ((l.length - 1) * 4))[0]?=some (.v (.int .i64 x.op)):=by rw[hd];rfl
  rwa [List.getElem?_drop,Nat.add_zero] at this
 have tn:((l.length:Int) - 1).toNat=l.length - 1:=by omega
 simp only[ne_eq,not_true_eq_false,if_false];rw[hL];by_cases c1:x.op=0
 ·have e:endsX x=true:=by unfold endsX;simp[c1]
  push_cast (disch:=omega)[hρ,hIL,tn,hc0,c1,e];exact oo
 by_cases c2:x.op=18
 ·have e:endsX x=true:=by unfold endsX;simp[c2]
  push_cast (disch:=omega)[hρ,hIL,tn,hc0,c1,c2,e];exact oo
 by_cases c3:x.op=25
 ·have e:endsX x=true:=by unfold endsX;simp[c3]
  push_cast (disch:=omega)[hρ,hIL,tn,hc0,c1,c2,c3,e];exact oo
 have e:endsX x=false:=by unfold endsX;simp[c1,c2,c3]
 push_cast (disch:=omega)[hρ,hIL,tn,hc0,c1,c2,c3,e];exact oo
def okF (fs:List (List Ix)):Prop:=fs.length≤40∧∀l∈fs,l.length≤300
set_option maxHeartbeats 4000000 in
theorem prog_Check_a (m:Int) (fs:List (List Ix)) (hf:okF fs):FnP Tryz.prog 120 [.agg (aPr m fs)] fun a=>a=aInt (prgE m fs):=by
 refine Qj X67.2 mixed rfl (by simp[AV.pureL,AV.pure,Zv]) ?_;simp only[X67,qH];obtain ⟨hf1,hf2⟩:=hf;have hac:(AV.agg (aPr m fs)).cells=aPr m fs:=rfl;have g0:(aPr m fs)[0]?=some (.v (.int .i64 m)):=rfl;have g1:(aPr m fs)[1]?=some (.sl fs.length (fs.map aIxs) .none):=rfl;refine Qc (fun ε σ=>ε 1=.ref 0 0 0∧σ[0]?=some (.obj 0 (aPr m fs))) ?_ ?_
 ·intro N X R hN;push_cast (disch:=omega);refine Qs ?_;push_cast (disch:=omega)[hac];exact hN _ _ ⟨by push_cast (disch:=omega),rfl⟩
 rintro ε σ ⟨hρ,hs⟩;refine Qt (fun ε σ=>ε 1=.ref 0 0 0∧σ[0]?=some (.obj 0 (aPr m fs))∧prgE m fs=fnsE fs.length fs) ?_ ?_
 ·intro N hN;push_cast (disch:=omega)[hρ,hs,g0,g1];refine Q5 (prog_sizes_a m fs.length) ?_;by_cases hm:m < 0∨256 < m
  ·have e:prgE m fs=3:=by unfold prgE;rw[if_pos hm]
   rw[if_pos hm,e];push_cast (disch:=omega)[aInt];exact oo
  ·rw[if_neg hm];by_cases hz:manyE fs.length 16=0
   ·have e:prgE m fs=fnsE fs.length fs:=by unfold prgE;rw[if_neg hm,if_neg (by simp[hz])]
    push_cast (disch:=omega)[aInt,hz];exact hN _ _ ⟨by push_cast (disch:=omega)[hρ],hs,e⟩
   ·have e:prgE m fs=manyE fs.length 16:=by unfold prgE;rw[if_neg hm,if_pos hz]
    rw[e];push_cast (disch:=omega)[aInt,hz];exact oo
 clear hρ hs ε σ;rintro ε σ ⟨hρ,hs,hP⟩;rw[hP];refine Qt (fun ε σ=>fnsE fs.length fs=0) ?_ ?_
 ·intro N hN;push_cast (disch:=omega)[hρ,hs,g1]
  refine ZE (α:=Nat) (I:=fun k ε σ=>(ε 1=.ref 0 0 0∧ε 17=.sl fs.length (fs.map aIxs) .none∧ε 18=.v (.int .i64 fs.length)∧ε 19=.v (.int .i64 k))∧k≤fs.length∧σ[0]?=some (.obj 0 (aPr m fs))∧fnsE fs.length fs=fnsE fs.length (fs.drop k))
   (μ:=fun k=>fs.length - k) (Q:=fun ε σ=>fnsE fs.length fs=0) (x:=0) ?_ ?_ hN
  ·push_cast (disch:=omega)[hρ];exact ⟨by omega,hs⟩
  ·clear hN N hρ hs ε σ;rintro k ε σ N E ⟨hρ,hk,hs,hd⟩ hN hE;by_cases hlt:k < fs.length
   ·obtain ⟨l,hl⟩:=Q23 hlt;rw[Yr hl] at hd;simp only[fnsE] at hd;push_cast (disch:=omega)[hρ,hl,hs,g1];refine Q5 (YB l fs.length (hf2 l (List.mem_of_getElem? hl))) ?_;by_cases hz:fnE l fs.length=0
    ·rw[if_neg (by simp[hz])] at hd;push_cast (disch:=omega)[hρ,aInt,hz];exact hN (k+1) _ _ ⟨by push_cast (disch:=omega)[hρ],by omega,hs,hd⟩ ka
    ·rw[if_pos hz] at hd;rw[hd];push_cast (disch:=omega)[hρ,aInt,hz];exact oo
   ·push_cast (disch:=omega)[hρ];obtain rfl:k=fs.length:=by omega
    rw[List.drop_length] at hd;exact hE _ _ hd
 rintro ε σ h;rw[h];push_cast (disch:=omega);exact oo
theorem insE_op {x:Ix} (h:insE x=0):0≤x.op∧x.op < 26:=by
 unfold insE at h;by_cases c:x.op < 0∨26≤x.op
 ·rw[if_pos c] at h;cases h
 ·omega
theorem insE_fit {x:Ix} (h:insE x=0):(((letX x).zip (opsX x)).all fun p=>fitB p.1 p.2)=true∧((opsX x).drop (letX x).length).all (fun n=>decide (n=0))=true:=by
 have hop:=insE_op h;unfold insE at h;rw[if_neg ka] at h;split at h
 ·rename_i h1;split at h
  ·rename_i h2;exact ⟨h1,h2⟩
  ·cases h
 ·cases h
theorem let18 {x:Ix} (h:x.op=18):letX x=[116]:=by unfold letX;rw[h];rfl
theorem let19 {x:Ix} (h:x.op=19):letX x=[114,116]:=by unfold letX;rw[h];rfl
theorem fit_t (n:Int):fitB 116 n=decide (0≤n∧n≤199):=rfl
theorem ins18 {x:Ix} (h:insE x=0) (c:x.op=18):0≤x.a∧x.a≤199:=by have:=(insE_fit h).1;rw[let18 c] at this;simpa[opsX,fit_t] using this
theorem ins19 {x:Ix} (h:insE x=0) (c:x.op=19):0≤x.b∧x.b≤199:=by have:=(insE_fit h).1;rw[let19 c] at this;simp only[opsX,List.zip_cons_cons,List.all_cons,fit_t,Bool.and_eq_true,decide_eq_true_eq] at this;exact this.2.1
theorem scan0 {code funcs:Int}:∀{l:List Ix},scanE code funcs l=0→∀x∈l,insE x=0∧leadB x code funcs=true:=by
 intro l
 induction l with
 | nil=>intro _ x hx;simp at hx
 | cons y l ih=>
  intro h x hx;simp only[scanE] at h;by_cases h1:insE y≠0
  ·rw[if_pos h1] at h;exact absurd h h1
  rw[if_neg h1] at h;by_cases h2:leadB y code funcs=false
  ·rw[if_pos h2] at h;cases h
  rw[if_neg h2] at h;rcases List.mem_cons.1 hx with rfl|hx
  ·exact ⟨by simpa using h1,by simpa using h2⟩
  ·exact ih h x hx
structure Fo (l:List Ix) (funcs:Int):Prop where
 rt:Rt l
 le:l.length≤200
 al:∀x∈l,insE x=0∧leadB x l.length funcs=true
theorem fnE_ok {l:List Ix} {funcs:Int} (h:fnE l funcs=0):Fo l funcs:=by
 unfold fnE at h;by_cases h1:manyE l.length 200≠0
 ·rw[if_pos h1] at h;exact absurd h h1
 rw[if_neg h1] at h;by_cases h2:scanE l.length funcs l≠0
 ·rw[if_pos h2] at h;exact absurd h h2
 rw[if_neg h2] at h
 have hm:0 < l.length∧l.length≤200:=by
  simp only[ne_eq,Decidable.not_not] at h1;unfold manyE at h1;split at h1
  ·cases h1
  ·split at h1
   ·cases h1
   ·omega
 have hal:=scan0 (by simpa using h2);refine ⟨⟨hm.1,fun i x t hx ht=>?_,fun x hx=>?_⟩,hm.2,hal⟩
 ·obtain ⟨a1,a2⟩:=hal x (List.mem_of_getElem? hx);unfold leadB at a2;unfold tgtX at ht;by_cases c1:x.op=18
  ·rw[if_pos c1] at a2 ht;cases ht;have:=ins18 a1 c1;simp at a2;omega
  ·rw[if_neg c1] at a2 ht;by_cases c2:x.op=19
   ·rw[if_pos c2] at a2 ht;cases ht;have:=ins19 a1 c2;simp at a2;omega
   ·rw[if_neg c2] at ht;cases ht
 ·unfold lastE at h;rw[hx] at h;simp only at h;by_cases he:endsX x=true
  ·exact he
  ·rw[if_neg he] at h;cases h
theorem fns0 {funcs:Int}:∀{fs:List (List Ix)},fnsE funcs fs=0→∀l∈fs,fnE l funcs=0:=by
 intro fs
 induction fs with
 | nil=>intro _ x hx;simp at hx
 | cons y l ih=>
  intro h x hx;simp only[fnsE] at h;by_cases h1:fnE y funcs≠0
  ·rw[if_pos h1] at h;exact absurd h h1
  rw[if_neg h1] at h;rcases List.mem_cons.1 hx with rfl|hx
  ·simpa using h1
  ·exact ih h x hx
theorem prg_ok {m:Int} {fs:List (List Ix)} (h:prgE m fs=0):(0≤m∧m≤256)∧manyE fs.length 16=0∧∀l∈fs,Fo l fs.length:=by
 unfold prgE at h;by_cases h0:m < 0∨256 < m
 ·rw[if_pos h0] at h;cases h
 rw[if_neg h0] at h;by_cases h1:manyE fs.length 16≠0
 ·rw[if_pos h1] at h;exact absurd h h1
 rw[if_neg h1] at h;exact ⟨by omega,by simpa using h1,fun l hl=>fnE_ok (fns0 h l hl)⟩
theorem w64_id {n:Int} (h0:0≤n) (h1:n≤9223372036854775807):IntKind.i64.wrap n=n:=wrap_in n ka h1
def bAnd (a b:Int):Int:=IntKind.i64.wrap (BitVec.ofInt IntKind.i64.bits a &&& BitVec.ofInt IntKind.i64.bits b).toNat
def bOr (a b:Int):Int:=IntKind.i64.wrap (BitVec.ofInt IntKind.i64.bits a ||| BitVec.ofInt IntKind.i64.bits b).toNat
def bXor (a b:Int):Int:=IntKind.i64.wrap (BitVec.ofInt IntKind.i64.bits a ^^^ BitVec.ofInt IntKind.i64.bits b).toNat
def wrapD (op a b:Int):Int×Int:=
 if op=3 then (IntKind.i64.wrap (a+b),0)
 else if op=4 then (IntKind.i64.wrap (a - b),0)
 else if op=5 then (IntKind.i64.wrap (a * b),0)
 else if op=6∨op=7 then (if b=0 then (0,1) else if op=6 then (IntKind.i64.wrap (a.tdiv b),0) else (a.tmod b,0))
 else if op=8 then (if a < b then 1 else 0,0)
 else if op=9 then (if a=b then 1 else 0,0)
 else if op=10 then (bAnd a b,0)
 else if op=11 then (bOr a b,0)
 else if op=12 then (bXor a b,0)
 else (0,0)
structure Ef where
 k:Int
 at_:Int
 v:Int
 o:Int
 r:Int
def ef0:Ef:=⟨0,0,0,0,0⟩
def heldN (n:Int):Int:=min (max n 0) 7
def rg (rs:List Int) (n:Int):Int:=rs.getD (heldN n).toNat 0
def knownB (op:Int):Bool:=decide (3≤op∧op≤12)
def ofE (x:Ix) (rs:List Int):Ef:=
 let a:=rg rs x.a;let b:=rg rs x.b;let c:=rg rs x.c
 if x.op=13 then ⟨1,b,0,0,heldN x.a⟩
 else if x.op=14 then ⟨2,a,b,0,0⟩
 else if x.op=15 then ⟨3,b,c,0,heldN x.a⟩
 else if x.op=16 then ⟨4,b,a,c,heldN x.a⟩
 else if x.op=17 then ⟨5,0,a,0,0⟩
 else if x.op=20 then ⟨6,0,x.a,0,0⟩
 else if x.op=21 then ⟨7,0,0,0,0⟩
 else if x.op=22 then ⟨8,0,x.a,0,0⟩
 else if x.op=23 then ⟨9,0,a,0,0⟩
 else if x.op=24 then ⟨10,0,a,0,0⟩
 else if x.op=25 then ⟨11,0,0,0,0⟩
 else if x.op=0 then ⟨12,0,0,0,0⟩
 else ef0
def setR (rs:List Int) (n v:Int):List Int:=rs.set (heldN n).toNat v
def doF (x:Ix) (pc:Int) (rs:List Int):Int×List Int×Ef×Int:=
 if x.op=1 then (IntKind.i64.wrap (pc+1),setR rs x.a x.b,ofE x rs,0)
 else if x.op=2 then (IntKind.i64.wrap (pc+1),setR rs x.a (rg rs x.b),ofE x rs,0)
 else if knownB x.op then
  if (wrapD x.op (rg rs x.b) (rg rs x.c)).2≠0 then (pc,rs,ef0,(wrapD x.op (rg rs x.b) (rg rs x.c)).2)
  else (IntKind.i64.wrap (pc+1),setR rs x.a (wrapD x.op (rg rs x.b) (rg rs x.c)).1,ofE x rs,0)
 else if x.op=18 then (x.a,rs,ofE x rs,0)
 else if x.op=19∧rg rs x.a=0 then (x.b,rs,ofE x rs,0)
 else (IntKind.i64.wrap (pc+1),rs,ofE x rs,0)
def tookR (rs:List Int) (e:Ef) (got:Int):List Int:=
 if e.k=4 then setR rs e.r (if got=e.v then 1 else 0)
 else if e.k=1∨e.k=3 then setR rs e.r got
 else rs
structure Sf where
 kind:Int
 fn:Int
 pc:Int
 regs:List Int
 dirty:Bool
 index:Int
 stage:Int
 serial:Int
structure Sv where
 l:List Sf
 data:List Int
 marks:List (Int×Int)
 serial:Int
 status:Int
 why:Int
 out:List Int
 steps:Int
 frames:Int
 deepest:Int
def z8:List Int:=[0,0,0,0,0,0,0,0]
def Sv.mark (s:Sv) (k a:Int):Sv:={ s with marks:=s.marks++[(k,a)] }
def Sv.push (s:Sv) (f:Sf):Sv:={ s with l:=f::s.l,frames:=IntKind.i64.wrap (s.frames+1),deepest:=max s.deepest (s.l.length+1:Nat) }
def Sv.pop (s:Sv):Sv:={ s with l:=s.l.tail }
def Sv.setTop (s:Sv) (g:Sf→Sf):Sv:=match s.l with|f::r=>{ s with l:=g f::r }|[]=>s
def Sv.set2 (s:Sv) (g:Sf→Sf):Sv:=match s.l with|f::q::r=>{ s with l:=f::g q::r }|_=>s
def Sv.stop (s:Sv) (st why:Int):Sv:={ s with status:=st,why:=why }
def Sv.top (s:Sv):Sf:=s.l.headD ⟨0,0,0,z8,false,0,0,0⟩
def Sv.iterate (s:Sv):Sv:=
 ((s.setTop fun f=>{ f with index:=IntKind.i64.wrap (f.index+1) }).mark 9 s.top.index).push ⟨2,s.top.fn,0,s.top.regs,false,s.top.index,0,0⟩
def askD (d:List Int) (e:Ef):Int×Bool×List Int:=
 if e.at_ < 0∨(d.length:Int)≤e.at_ then (0,false,d)
 else if e.k=1 then (d.getD e.at_.toNat 0,true,d)
 else if e.k=2 then (0,true,d.set e.at_.toNat e.v)
 else if e.k=3 then (d.getD e.at_.toNat 0,true,d.set e.at_.toNat (IntKind.i64.wrap (d.getD e.at_.toNat 0+e.v)))
 else if e.k=4 then (d.getD e.at_.toNat 0,true,if d.getD e.at_.toNat 0=e.v then d.set e.at_.toNat e.o else d)
 else (0,false,d)
def Sv.ask (s:Sv) (pc:Int) (rs:List Int) (e:Ef):Sv:=
 if (askD s.data e).2.1 then (({ s with data:=(askD s.data e).2.2 }).mark (if e.k=1 then 1 else 2) e.at_).setTop fun f=>{ f with pc:=pc,regs:=tookR rs e (askD s.data e).1 }
 else s.stop 4 2
def Sv.keep (s:Sv):Sv:=if s.top.stage=0 then s.set2 fun q=>{ q with regs:=s.top.regs } else s
def Sv.begins (s:Sv) (e:Ef):Sv:=
 if e.k=5 then ({ s with out:=s.out++[e.v] }).mark 3 e.v
 else if e.k=6 then ((s.setTop fun f=>{ f with dirty:=true }).mark 4 0).push ⟨1,e.v,0,s.top.regs,false,0,0,0⟩
 else if e.k=8 then ((({ s with serial:=IntKind.i64.wrap (s.serial+1) }).mark 7 (IntKind.i64.wrap (s.serial+1))).push ⟨3,e.v,0,s.top.regs,false,0,0,IntKind.i64.wrap (s.serial+1)⟩).iterate
 else s
def goE (st to:Int):Int:=if to≤st∨1048575 < to then 3 else 0
def Sv.goOn (s:Sv) (pc:Int) (e:Ef):Sv:=
 if s.top.kind≠2 then s.stop 4 4
 else if goE s.top.stage e.v≠0 then s.stop 4 (goE s.top.stage e.v)
 else (s.keep.setTop fun f=>{ f with pc:=pc,stage:=e.v }).mark (if e.k=9 then 11 else 12) e.v
def Sv.leave (s:Sv):Sv:=
 if s.top.kind≠2 then s.stop 4 4
 else if s.top.stage≠0 then s.stop 4 5
 else (((s.keep.mark 10 s.top.index).pop.pop).mark 8 (s.keep.pop.top.serial)).setTop fun f=>{ f with regs:=s.keep.pop.top.regs }
def Sv.back (s:Sv):Sv:=
 if s.top.kind=2 then ((s.keep.mark 10 s.top.index).pop).iterate
 else if s.l.length=1 then s.stop 1 0
 else (s.mark 5 0).pop
def endsE (e:Ef):Bool:=decide (7≤e.k∧e.k≤12)
def Sv.act (s:Sv) (r:Int×List Int×Ef×Int):Sv:=
 if r.2.2.2≠0 then s.stop 4 r.2.2.2
 else if 1≤r.2.2.1.k∧r.2.2.1.k≤4 then s.ask r.1 r.2.1 r.2.2.1
 else if r.2.2.1.k=9∨r.2.2.1.k=10 then s.goOn r.1 r.2.2.1
 else if r.2.2.1.k=11 then s.leave
 else if r.2.2.1.k=12 then s.back
 else (s.setTop fun f=>{ f with pc:=r.1,regs:=r.2.1 }).begins r.2.2.1
def stk:List Sf→Prop
 | []=>False
 | [f]=>f.kind=1
 | f::q::r=>(f.kind=1∧stk (q::r))∨(f.kind=2∧q.kind=3∧stk r)
theorem stk.kind {f:Sf} {r:List Sf} (h:stk (f::r)):f.kind=1∨f.kind=2:=by
 cases r with
 | nil=>exact .inl h
 | cons q r=>rcases h with h|h;exact .inl h.1;exact .inr h.1
theorem stk.ne {l:List Sf} (h:stk l):∃f r,l=f::r:=by
 cases l with
 | nil=>exact h.elim
 | cons f r=>exact ⟨f,r,rfl⟩
theorem stk.turn {f g:Sf} {r:List Sf} (h:stk (f::r)) (hk:g.kind=f.kind):stk (g::r):=by
 cases r with
 | nil=>exact hk.trans h
 | cons q r=>
  rcases h with h|h
  ·exact .inl ⟨hk.trans h.1,h.2⟩
  ·exact .inr ⟨hk.trans h.1,h.2⟩
theorem stk.iter {l:List Sf} {f q:Sf} (h:stk l) (hk:f.kind=2) (hq:q.kind=3):stk (f::q::l):=.inr ⟨hk,hq,h⟩
theorem stk.loop {f:Sf} {r:List Sf} (h:stk (f::r)) (hk:f.kind=2):∃q r',r=q::r'∧q.kind=3∧stk r':=by
 cases r with
 | nil=>have:f.kind=1:=h;omega
 | cons q r=>
  rcases h with h|h
  ·have:=h.1;omega
  ·exact ⟨q,r,rfl,h.2⟩
structure SfOk (fs:List (List Ix)) (f:Sf):Prop where
 at_:∃l,fs[f.fn.toNat]?=some l∧0≤f.fn∧0≤f.pc∧f.pc < l.length
 regs:f.regs.length=8
structure Wf (fs:List (List Ix)) (s:Sv):Prop where
 st:stk s.l
 ok:∀f∈s.l,SfOk fs f
theorem Y9 (rs:List Int) (n v:Int):(setR rs n v).length=rs.length:=by simp[setR]
theorem YC (rs:List Int) (e:Ef) (g:Int):(tookR rs e g).length=rs.length:=by
 unfold tookR;split
 ·exact Y9 _ _ _
 ·split
  ·exact Y9 _ _ _
  ·rfl
structure Fns (fs:List (List Ix)):Prop where
 fo:∀l∈fs,Fo l fs.length
 le:fs.length≤40
theorem Wf.turn {fs:List (List Ix)} {s s':Sv} {f g:Sf} {r:List Sf} (h:Wf fs s) (hl:s.l=f::r) (hl':s'.l=g::r) (hk:g.kind=f.kind) (hg:SfOk fs g):Wf fs s':=by
 refine ⟨?_,fun x hx=>?_⟩
 ·rw[hl'];have:=h.st;rw[hl] at this;exact this.turn hk
 ·rw[hl'] at hx;rcases List.mem_cons.1 hx with rfl|hx
  ·exact hg
  ·exact h.ok x (by rw[hl];simp[hx])
theorem Wf.same {fs:List (List Ix)} {s s':Sv} (h:Wf fs s) (hl:s'.l=s.l):Wf fs s':=⟨by rw[hl];exact h.st,fun x hx=>h.ok x (by rw[←hl];exact hx)⟩
theorem fn_ok {fs:List (List Ix)} (hF:Fns fs) {v:Int} (h0:0≤v) (h1:v < fs.length) {f:Sf} (hf:f.fn=v) (hp:f.pc=0) (hr:f.regs.length=8):SfOk fs f:=by obtain ⟨l,hl⟩:=Q23 (l:=fs) (k:=v.toNat) ka;have:=(hF.fo l (List.mem_of_getElem? hl)).rt.pos;exact ⟨⟨l,by rw[hf];exact hl,by omega,by omega,by omega⟩,hr⟩
theorem Wf.iterate {fs:List (List Ix)} (hF:Fns fs) {s:Sv} {q:Sf} {r:List Sf} (hl:s.l=q::r) (hq:q.kind=3) (hr:stk r) (hok:∀f∈q::r,SfOk fs f):Wf fs s.iterate:=by
 have hqo:=hok q ke;obtain ⟨l,h1,h2,h3,h4⟩:=hqo.at_;have hlt:=Qh h1;have e:s.iterate.l=⟨2,q.fn,0,q.regs,false,q.index,0,0⟩::{ q with index:=IntKind.i64.wrap (q.index+1) }::r:=by simp[Sv.iterate,Sv.push,Sv.mark,Sv.setTop,Sv.top,hl]
 refine ⟨?_,fun f hf=>?_⟩
 ·rw[e];exact hr.iter rfl hq
 ·rw[e] at hf;rcases List.mem_cons.1 hf with rfl|hf
  ·exact fn_ok hF h2 ka rfl rfl hqo.regs
  ·rcases List.mem_cons.1 hf with rfl|hf
   ·exact ⟨⟨l,h1,h2,h3,h4⟩,hqo.regs⟩
   ·exact hok f (by simp[hf])
structure Ext (n:Nat) (s s':Sv):Prop where
 marks:∃m,s'.marks=s.marks++m∧m.length≤n
 out:∃o,s'.out=s.out++o∧o.length≤n
 steps:s'.steps=s.steps
 frames:0≤s.frames→s.frames+n≤1000000000→s.frames≤s'.frames∧s'.frames≤s.frames+n
 deepest:s.deepest≤s'.deepest
 len:s'.l.length≤s.l.length+n
 data:s'.data.length=s.data.length
theorem Ext.refl (s:Sv):Ext 0 s s:=⟨⟨[],by simp⟩,⟨[],by simp⟩,rfl,fun h1 h2=>⟨Int.le_refl _,by omega⟩,Int.le_refl _,Nat.le_refl _,rfl⟩
theorem Ext.trans {n m:Nat} {a b c:Sv} (h:Ext n a b) (k:Ext m b c):Ext (n+m) a c:=by obtain ⟨m1,h1,h2⟩:=h.marks;obtain ⟨m2,k1,k2⟩:=k.marks;obtain ⟨o1,p1,p2⟩:=h.out;obtain ⟨o2,q1,q2⟩:=k.out;refine ⟨⟨m1++m2,by rw[k1,h1,List.append_assoc],by simp;omega⟩,⟨o1++o2,by rw[q1,p1,List.append_assoc],by simp;omega⟩,k.steps.trans h.steps,fun a1 a2=>?_,Int.le_trans h.deepest k.deepest,by have:=h.len;have:=k.len;omega,k.data.trans h.data⟩;have b1:=h.frames a1 ka;have b2:=k.frames ka ka;omega
structure Lim (k:Nat) (d:Nat) (s:Sv):Prop where
 steps:s.steps=k
 frames:0≤s.frames∧s.frames≤5 * k+1
 marks:s.marks.length≤5 * k
 out:s.out.length≤5 * k
 len:s.l.length≤5 * k+1
 data:s.data.length=d
structure Ge (s s':Sv):Prop where
 marks:∃m,s'.marks=s.marks++m
 out:∃o,s'.out=s.out++o
 steps:s.steps≤s'.steps
 frames:s.frames≤s'.frames
 deepest:s.deepest≤s'.deepest
theorem Ge.refl (s:Sv):Ge s s:=⟨⟨[],by simp⟩,⟨[],by simp⟩,Int.le_refl _,Int.le_refl _,Int.le_refl _⟩
theorem Ge.trans {a b c:Sv} (h:Ge a b) (k:Ge b c):Ge a c:=by obtain ⟨m1,h1⟩:=h.marks;obtain ⟨m2,k1⟩:=k.marks;obtain ⟨o1,p1⟩:=h.out;obtain ⟨o2,q1⟩:=k.out;exact ⟨⟨m1++m2,by rw[k1,h1,List.append_assoc]⟩,⟨o1++o2,by rw[q1,p1,List.append_assoc]⟩,Int.le_trans h.steps k.steps,Int.le_trans h.frames k.frames,Int.le_trans h.deepest k.deepest⟩
end Go.Proofs.YtelibaobkcokdaaGreat
