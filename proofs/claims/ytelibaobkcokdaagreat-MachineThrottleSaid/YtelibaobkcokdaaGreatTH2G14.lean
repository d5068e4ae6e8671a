/- Annotated values, part o: what a call has made, and nobody names, is forgotten. -/
import Derived.Test.YtelibaobkcokdaaGreatTH2G13
namespace Go.Kx
set_option linter.unusedVariables false
set_option linter.unusedSimpArgs false
open Go
mutual
def AV.low (n:Nat):AV→Bool
 | .v _=>true
 | .agg xs=>AV.lowL n xs
 | .tup xs=>AV.lowL n xs
 | .sl _ cs t=>(match t with|.id i _ _=>decide (i < n)|_=>true)&&AV.lowL n cs
 | .ep cs=>AV.lowL n cs
 | .ref i _ _=>decide (i < n)
 | .ms i _ _ _ _=>decide (i < n)
 | .fn _ _ xs=>AV.lowL n xs
 | .ifc _ x=>AV.low n x
 | .mp i=>decide (i < n)
def AV.lowL (n:Nat):List AV→Bool
 | []=>true
 | x::xs=>AV.low n x&&AV.lowL n xs
end
theorem lowL_all (n:Nat) (xs:List AV):AV.lowL n xs=xs.all (AV.low n):=by
 induction xs with
 | nil=>rfl
 | cons x xs ih=>simp[AV.lowL,ih]
theorem Z80 {n:Nat} {xs:List AV} (h:AV.lowL n xs=true) {i:Nat} {a:AV} (ha:xs[i]?=some a):a.low n=true:=by rw[lowL_all,List.all_eq_true] at h;exact h a (List.mem_of_getElem? ha)
theorem lowL_of {n:Nat} {xs:List AV} (h:∀(i:Nat) (a:AV),xs[i]?=some a→a.low n=true):AV.lowL n xs=true:=by rw[lowL_all,List.all_eq_true];intro a ha;obtain ⟨i,hi⟩:=List.mem_iff_getElem?.1 ha;exact h i a hi
def Gh.cut (G:Gh) (n:Nat):Gh:=⟨G.g,fun i w=>if i < n then G.T i w else none⟩
theorem Gh.cut_T {G:Gh} {n i w:Nat} (h:i < n):(G.cut n).T i w=G.T i w:=if_pos h
def Res.low (n:Nat):Res→Bool
 | .obj _ cs=>AV.lowL n cs
 | .frz _ cs=>AV.lowL n cs
 | .map es=>es.all fun p=>p.2.low n
 | _=>true
theorem RelV.low {G:Gh} {n:Nat} (hT:∀i w l,G.T i w=some l→i < n) {a:AV} {u:Value} (h:RelV G a u):a.low n=true:=by
 have lst:∀{xs:List AV} {vs:List Value},vs.length=xs.length→(∀(i:Nat) (a:AV) (u:Value),xs[i]?=some a→vs[i]?=some u→a.low n=true)→AV.lowL n xs=true:=by
  intro xs vs hl ih;refine lowL_of fun i a ha=>?_;have hlt:i < vs.length:=by rw[hl];exact (List.getElem?_eq_some_iff.1 ha).1
  exact ih i a _ ha (List.getElem?_eq_getElem hlt)
 induction h with
 | v x=>rfl
 | agg xs vs h1 h2 ih=>exact lst h1 ih
 | tup xs vs h1 h2 ih=>exact lst h1 ih
 | sl m cs t a cap vs h1 h2 h3 h4 h5 h6 ih=>
  unfold AV.low;rw[lst h1 ih]
  cases t with
  | id i ver sz=>obtain ⟨l,k1,_⟩:=h6;simpa using hT _ _ _ k1
  | _=>rfl
 | ep cs vs b off h1 h2 h3 ih=>exact lst h1 ih
 | ref i ver off l h1 h2=>simpa[AV.low] using hT _ _ _ h1
 | ms i ver off n sz l cap h1 h2 h3 h4 h5=>simpa[AV.low] using hT _ _ _ h1
 | fn f k xs vs h1 h2 ih=>exact lst h1 ih
 | ifc t x u h ih=>exact ih
 | mp i l h1 h2=>simpa[AV.low] using hT _ _ _ h1
theorem RelV.cut {G:Gh} {n:Nat} {a:AV} {u:Value} (h:RelV G a u) (hl:a.low n=true):RelV (G.cut n) a u:=by
 induction h with
 | v x=>exact .v x
 | agg xs vs h1 h2 ih=>exact .agg xs vs h1 fun i a u ha hu=>ih i a u ha hu (Z80 hl ha)
 | tup xs vs h1 h2 ih=>exact .tup xs vs h1 fun i a u ha hu=>ih i a u ha hu (Z80 hl ha)
 | sl m cs t a cap vs h1 h2 h3 h4 h5 h6 ih=>
  unfold AV.low at hl;rw[Bool.and_eq_true] at hl;refine .sl m cs t a cap vs h1 (fun i a u ha hu=>ih i a u ha hu (Z80 hl.2 ha)) h3 h4 h5 ?_
  cases t with
  | id i ver sz=>
   obtain ⟨l,k1,k2⟩:=h6;have hi:i < n:=by simpa using hl.1
   exact ⟨l,by rw[Gh.cut_T hi];exact k1,k2⟩
  | _=>exact h6
 | ep cs vs b off h1 h2 h3 ih=>exact .ep cs vs b off h1 (fun i a u ha hu=>ih i a u ha hu (Z80 hl ha)) h3
 | ref i ver off l h1 h2=>exact .ref i ver off l oB h2
 | ms i ver off n sz l cap h1 h2 h3 h4 h5=>exact .ms i ver off n sz l cap oB h2 h3 h4 h5
 | fn f k xs vs h1 h2 ih=>exact .fn f k xs vs h1 fun i a u ha hu=>ih i a u ha hu (Z80 hl ha)
 | ifc t x u h ih=>exact .ifc t x u (ih hl)
 | mp i l h1 h2=>exact .mp i l oB h2
theorem KvRel.lows {G:Gh} {n:Nat} (hT:∀i w l,G.T i w=some l→i < n):∀{en:List MapEntry} {es:List (Value×AV)},KvRel G en es→es.all (fun p=>p.2.low n)=true
 | [],[],_=>rfl
 | e::en,p::es,h=>by rw[List.all_cons,Bool.and_eq_true];exact ⟨h.2.1.low hT,KvRel.lows hT h.2.2⟩
 | [],_::_,h=>h.elim
 | _::_,[],h=>h.elim
theorem KvRel.cut {G:Gh} {n:Nat}:∀{en:List MapEntry} {es:List (Value×AV)},KvRel G en es→es.all (fun p=>p.2.low n)=true→KvRel (G.cut n) en es
 | [],[],_,_=>trivial
 | e::en,p::es,h,hl=>by rw[List.all_cons,Bool.and_eq_true] at hl;exact ⟨h.1,h.2.1.cut hl.1,KvRel.cut h.2.2 hl.2⟩
 | [],_::_,h,_=>h.elim
 | _::_,[],h,_=>h.elim
theorem XJ {α:Type} {l m:List α} {i:Nat} {a:α} (h:l[i]?=some a):(l++m)[i]?=some a:=by rw[List.getElem?_append_left (List.getElem?_eq_some_iff.1 h).1];exact h
theorem RelH.cut {base:Heap} {G0 G:Gh} {h0 h:Heap} {σ0 σ1 τ:St} (H0:RelH base G0 h0 σ0) (H:RelH base G h (σ1++τ)) (hle:Gh.le base.size G0 G) (hn:σ0.length≤σ1.length)
  (hc:∀(i:Nat) (r:Res),σ1[i]?=some r→σ0[i]?=some r∨r.low σ1.length=true):Gh.le base.size G0 (G.cut σ1.length)∧RelH base (G.cut σ1.length) h σ1:=by
 have hT0:∀i w l,G0.T i w=some l→i < σ1.length:=fun i w l hl=>by have:=(H0.bd i w l hl).1;omega
 have hloc:∀i l,locOf (G.cut σ1.length) σ1 i=some l→locOf G (σ1++τ) i=some l:=by intro i l hl;have hi:=Q26 hl;unfold locOf at hl ⊢;rw[List.getElem?_append_left hi];have e:∀w,(G.cut σ1.length).T i w=G.T i w:=fun w=>Gh.cut_T hi;simp only[e] at hl;exact hl
 refine ⟨⟨hle.g,fun i w l hl=>by rw[Gh.cut_T (hT0 _ _ _ hl)];exact hle.T _ _ _ hl,hle.old⟩,H.tab,H.size,H.keep,H.st,?_,?_,?_,?_,?_,?_⟩
 ·intro i w cs hi;have hlt:=(List.getElem?_eq_some_iff.1 hi).1;obtain ⟨l,h1,h2,h3,h4,h5⟩:=H.obj i w cs (XJ hi);refine ⟨l,by rw[Gh.cut_T hlt];exact h1,h2,h3,h4,fun j a ha=>?_⟩;obtain ⟨u,k1,k2⟩:=h5 j a ha;refine ⟨u,k1,k2.cut ?_⟩;rcases hc i _ hi with h|h
  ·obtain ⟨l0,_,_,_,_,e5⟩:=H0.obj i w cs h;obtain ⟨u0,_,f2⟩:=e5 j a ha;exact f2.low hT0
  ·exact Z80 h ha
 ·intro i w cs hi;have hlt:=(List.getElem?_eq_some_iff.1 hi).1;obtain ⟨l,h1,h2,h5⟩:=H.frz i w cs (XJ hi);refine ⟨l,by rw[Gh.cut_T hlt];exact h1,h2,fun j a ha=>?_⟩;obtain ⟨u,k1,k2⟩:=h5 j a ha;refine ⟨u,k1,k2.cut ?_⟩;rcases hc i _ hi with h|h
  ·obtain ⟨l0,_,_,e5⟩:=H0.frz i w cs h;obtain ⟨u0,_,f2⟩:=e5 j a ha;exact f2.low hT0
  ·exact Z80 h ha
 ·intro i l hl;exact H.own i l (hloc i l hl)
 ·intro i j l m hij hl hm;exact H.disj i j l m hij (hloc i l hl) (hloc j m hm)
 ·intro i w l hl
  have hlt:i < σ1.length:=by
   by_cases hi:i < σ1.length
   ·exact hi
   ·simp[Gh.cut,hi] at hl
  rw[Gh.cut_T hlt] at hl;refine ⟨hlt,fun r w' hr hw=>(H.bd i w l hl).2 r w' (XJ hr) hw⟩
 ·refine ⟨fun i r hr hi=>?_,fun i j r r' l m hij hr hr' hi hj hl hm=>?_⟩
  ·have hlt:=(List.getElem?_eq_some_iff.1 hi).1;obtain ⟨l,h1,h2,h3,h4,o,h5,h6⟩:=H.maps.mp i r hr (XJ hi);refine ⟨l,by rw[Gh.cut_T hlt];exact h1,h2,h3,h4,o,h5,?_⟩
   cases r with
   | map es=>
    obtain ⟨en,c,rfl,h7⟩:=h6.ofMap;refine KvRel.cut h7 ?_;rcases hc i _ hi with h|h
    ·obtain ⟨l0,_,_,_,_,o0,_,f6⟩:=H0.maps.mp i _ hr h;obtain ⟨en0,c0,_,f7⟩:=f6.ofMap;exact f7.lows hT0
    ·exact h
   | itr s pos=>cases h6.ofItr;exact ⟨rfl,rfl⟩
   | _=>cases hr
  ·have hi1:=(List.getElem?_eq_some_iff.1 hi).1;have hj1:=(List.getElem?_eq_some_iff.1 hj).1;rw[Gh.cut_T hi1] at hl;rw[Gh.cut_T hj1] at hm;exact H.maps.dj i j r r' l m hij hr hr' (XJ hi) (XJ hj) hl hm
theorem FnG.drop {P:Program} {f:FuncId} {aS:List AV} {σ:St} {R R':AV→St→Prop} (H:FnG P f aS σ R)
  (hr:∀a σ',R a σ'→∃σ1 τ,σ'=σ1++τ∧σ.length≤σ1.length∧a.low σ1.length=true∧(∀(i:Nat) (r:Res),σ1[i]?=some r→σ[i]?=some r∨r.low σ1.length=true)∧R' a σ1):FnG P f aS σ R':=by
 intro base G h vs h1 h2;refine (H base G h vs h1 h2).mono ?_;rintro v h' ⟨G',a,σ',k1,k2,k3,k4⟩;obtain ⟨σ1,τ,rfl,e1,e2,e3,e4⟩:=hr a σ' k4;obtain ⟨f1,f2⟩:=h1.cut k2 k1 e1 e3;exact ⟨_,a,σ1,f1,f2,k3.cut e2,e4⟩
theorem low_set {σ:St} {j n:Nat} {x:Res} (hx:x.low n=true):∀(i:Nat) (r:Res),(σ.set j x)[i]?=some r→σ[i]?=some r∨r.low n=true:=by
 intro i r h;rw[List.getElem?_set] at h;split at h
 ·split at h
  ·cases h;exact .inr hx
  ·cases h
 ·exact .inl h
theorem low_ints (n:Nat) (l:List Int):AV.lowL n (l.map fun x=>AV.v (.int .i64 x))=true:=by
 induction l with
 | nil=>rfl
 | cons x l ih=>simp only[List.map_cons,AV.lowL,ih];rfl
theorem FnG.drop0 {P:Program} {f:FuncId} {aS:List AV} {σ:St} {Q:AV→Prop} (hq:∀a,Q a→a.low σ.length=true) (H:FnG P f aS σ fun a σ'=>Q a∧∃τ,σ'=σ++τ):FnG P f aS σ fun a σ'=>Q a∧σ'=σ:=
 H.drop fun a σ' ⟨h1,τ,h2⟩=>⟨σ,τ,h2,Nat.le_refl _,hq a h1,fun _ _ h=>.inl h,h1,rfl⟩
theorem FnG.drop1 {P:Program} {f:FuncId} {aS:List AV} {σ:St} {Q:AV→Prop} {j:Nat} {x:Res} (hx:x.low σ.length=true) (hq:∀a,Q a→a.low σ.length=true) (H:FnG P f aS σ fun a σ'=>Q a∧∃τ,σ'=σ.set j x++τ):
  FnG P f aS σ fun a σ'=>Q a∧σ'=σ.set j x:=
 H.drop fun a σ' ⟨h1,τ,h2⟩=>⟨σ.set j x,τ,h2,by simp,by simpa using hq a h1,by simpa using low_set (σ:=σ) hx,h1,rfl⟩
theorem set_app {α:Type} {σ τ:List α} {j:Nat} {x:α} (h:j < σ.length):(σ++τ).set j x=σ.set j x++τ:=List.set_append_left _ _ h
end Go.Kx
namespace Go.Proofs.YtelibaobkcokdaaGreat.Mx
set_option linter.unusedSectionVars false
set_option linter.unusedVariables false
set_option linter.unusedSimpArgs false
open Go Go.Kx Go.Proofs Go.Proofs.YtelibaobkcokdaaGreat
set_option maxRecDepth 8000
theorem or_add {x y:Int} (hx:0≤x) (hx2:x < 1099511627776) (hy:0≤y) (hy2:y < 1048576):bOr (x * 1048576) y=x * 1048576+y:=by
 obtain ⟨a,rfl⟩:=Int.eq_ofNat_of_zero_le hx;obtain ⟨b,rfl⟩:=Int.eq_ofNat_of_zero_le hy;have h1:(BitVec.ofInt IntKind.i64.bits ((a:Int) * 1048576)).toNat=a * 1048576:=by rw[BitVec.toNat_ofInt];show (((a:Int) * 1048576) % ((2 ^ 64:Nat):Int)).toNat=_;omega
 have h2:(BitVec.ofInt IntKind.i64.bits (b:Int)).toNat=b:=by rw[BitVec.toNat_ofInt];show ((b:Int) % ((2 ^ 64:Nat):Int)).toNat=_;omega
 unfold bOr;rw[BitVec.toNat_or,h1,h2];have h3:a * 1048576 ||| b=a * 1048576+b:=by have:=Nat.two_pow_add_eq_or_of_lt (i:=20) (b:=b) ka a;rw[Nat.mul_comm];exact this.symm
 rw[h3,Q22 ka ka];omega
theorem and_mod {x:Int} (hx:0≤x) (hx2:x≤9223372036854775807):bAnd x 1048575=x % 1048576:=by
 obtain ⟨a,rfl⟩:=Int.eq_ofNat_of_zero_le hx;have h1:(BitVec.ofInt IntKind.i64.bits (a:Int)).toNat=a:=by rw[BitVec.toNat_ofInt];show ((a:Int) % ((2 ^ 64:Nat):Int)).toNat=_;omega
 have h2:(BitVec.ofInt IntKind.i64.bits (1048575:Int)).toNat=1048575:=by decide
 unfold bAnd;rw[BitVec.toNat_and,h1,h2];have h3:a &&& 1048575=a % 1048576:=Nat.and_two_pow_sub_one_eq_mod a 20;rw[h3,Q22 ka ka];omega
theorem Y81 (a:Int):PF.val (.bin .shl) [.int .i64 a,.int .u64 20]=some (.int .i64 (IntKind.i64.wrap (a * 1048576))):=by simp[PF.val,binV,isSh,shI,IntKind.bits]
theorem pv_shr20 (a:Int):PF.val (.bin .shr) [.int .i64 a,.int .u64 20]=some (.int .i64 (a.fdiv 1048576)):=by simp[PF.val,binV,isSh,shI,IntKind.bits]
theorem Y82 (n:Int):0≤heldT n∧heldT n≤1048575:=by unfold heldT;omega
theorem Xs (n:Int):FnP Tryz.prog 315 [aInt n] fun r=>r=aInt (heldT n):=by refine Qj X82.2 mixed rfl o7 ?_;simp only[X82,aInt,qH];push_cast;exact oo
theorem token_Of_a (a b c:Int):FnP Tryz.prog 307 [aInt a,aInt b,aInt c] fun r=>r=aInt (tokF a b c):=by
 refine Qj Y45.2 mixed rfl o7 ?_;simp only[Y45,aInt,qH];have ⟨a1,a2⟩:=Y82 a;have ⟨b1,b2⟩:=Y82 b;have ⟨c1,c2⟩:=Y82 c;have e1:=Q22 (n:=heldT a * 1048576) ka ka;have e2:=or_add (x:=heldT a) (y:=heldT b) a1 ka b1 ka;have e3:=Q22 (n:=(heldT a * 1048576+heldT b) * 1048576) ka ka;have e4:=or_add (x:=heldT a * 1048576+heldT b) (y:=heldT c) ka ka c1 ka;have e5:(heldT a * 1048576+heldT b) * 1048576+heldT c=tokF a b c:=by unfold tokF;omega
 push_cast;refine Qv (Xs a) ?_;rintro r rfl;push_cast[aInt,Y81,e1];refine Qv (Xs b) ?_;rintro r rfl;push_cast[aInt,Y81,pv_or,e1,e2,e3];refine Qv (Xs c) ?_;rintro r rfl;push_cast[aInt,Y81,pv_or,e1,e2,e3,e4,e5];exact oo
theorem X25 (n:Int):FnP Tryz.prog 304 [aInt n] fun r=>r=aInt (wholeT n):=by refine Qj X20.2 mixed rfl o7 ?_;simp only[X20,aInt,qH];push_cast;exact oo
theorem wholeT_in (n:Int):0≤wholeT n∧wholeT n≤1152921504606846975:=by unfold wholeT;omega
theorem X26 (n:Int):FnP Tryz.prog 279 [aInt n] fun r=>r=aInt (tokStage n):=by refine Qj X19.2 mixed rfl o7 ?_;simp only[X19,aInt,qH];have ⟨a1,a2⟩:=wholeT_in n;have e:=and_mod a1 ka;push_cast;refine Qv (X25 n) ?_;rintro r rfl;push_cast[aInt,pv_and,e];exact oo
theorem token_Is_a (n:Int):FnP Tryz.prog 305 [aInt n] fun r=>r=aBool (tokIs n):=by
 refine Qj Y44.2 mixed rfl o7 ?_;simp only[Y44,aInt,qH];have hd:tokIs n=(decide (1099511627776≤n)&&decide (n≤1152921504606846975)):=by unfold tokIs;rw[Bool.eq_iff_iff];simp
 rw[hd];push_cast;by_cases c:1099511627776≤n<;>(push_cast[c,aBool];first|exact ⟨[],rfl,rfl⟩|exact ⟨[],rfl⟩|exact ⟨[],rfl,by simp⟩)
theorem token_Iter_a (n:Int):FnP Tryz.prog 306 [aInt n] fun r=>∃k,r=aInt k:=by refine Qj X81.2 mixed rfl o7 ?_;simp only[X81,aInt,qH];push_cast;refine Qv (X25 n) ?_;rintro r rfl;push_cast[aInt,pv_and,pv_shr20];exact ⟨[],rfl,_,rfl⟩
theorem token_Next_a (t c:Int):FnP Tryz.prog 280 [aInt t,aInt c] fun r=>∃k,r=.tup [aInt k,aBool (tokIs t&&decide (tokStage t < c))]:=by
 refine Qj X79.2 mixed rfl o7 ?_;simp only[X79,aInt,qH];push_cast;refine Qv (token_Is_a t) ?_;rintro r rfl
 cases hI:tokIs t with
 | false=>push_cast[aBool];exact ⟨[],rfl,0,by simp[AV.res,AV.resL]⟩
 | true=>
  push_cast[aBool];refine Qv (X26 t) ?_;rintro r rfl;by_cases hc:c≤tokStage t
  ·push_cast[aInt,hc];refine ⟨[],rfl,0,?_⟩;have:¬tokStage t < c:=by omega
   simp[AV.res,AV.resL,this]
  ·push_cast[aInt,hc];refine Qv (token_Iter_a t) ?_;rintro r ⟨k,rfl⟩;push_cast[aInt];refine ⟨[],rfl,k,?_⟩;have:tokStage t < c:=by omega
   simp[AV.res,AV.resL,this]
theorem snoc_set {α:Type} {A:List α} {x y:α} {n:Nat} (h:A.length=n):(A++[x]).set n y=A++[y]:=by subst h;simp
theorem snoc_at {α:Type} {A:List α} {x:α} {n:Nat} (h:A.length=n):(A++[x])[n]?=some x:=by subst h;simp
theorem res_low_ints (v n:Nat) (l:List Int):(Res.obj v (l.map aInt)).low n=true:=low_ints n l
structure Wd (σ:Kx.St) (js jw:Nat) (ws:List Int):Prop where
 st:σ[js]?=some (.obj 0 [.ms jw 0 0 ws.length 1,.v .nilFunc])
 wd:σ[jw]?=some (.obj 0 (ws.map aInt))
 ne:js≠jw
theorem Wd.app {σ τ:Kx.St} {js jw:Nat} {ws:List Int} (h:Wd σ js jw ws):Wd (σ++τ) js jw ws:=⟨Qn h.st,Qn h.wd,h.ne⟩
theorem Wd.setOther {σ:Kx.St} {js jw:Nat} {ws:List Int} (h:Wd σ js jw ws) {j:Nat} {r:Res} (h1:j≠js) (h2:j≠jw):Wd (σ.set j r) js jw ws:=⟨Qa h1 h.st,Qa h2 h.wd,h.ne⟩
theorem Wd.set {σ:Kx.St} {js jw:Nat} {ws ws':List Int} (h:Wd σ js jw ws) (hl:ws'.length=ws.length):Wd (σ.set jw (.obj 0 (ws'.map aInt))) js jw ws':=⟨by rw[hl];exact Qa h.ne.symm h.st,Qb h.wd,h.ne⟩
theorem Wd.self {σ:Kx.St} {js jw:Nat} {ws:List Int} (h:Wd σ js jw ws):σ.set jw (.obj 0 (ws.map aInt))=σ:=Q20 h.wd
theorem Qk (ws:List Int) (a v:Int):(stW ws a v).length=ws.length:=List.length_set
theorem Z81 (ws:List Int) (a v:Int):(addW ws a v).length=ws.length:=List.length_set
theorem Z44 (ws:List Int) (a v:Int):(swW ws a v).2.length=ws.length:=by unfold swW;split<;>simp[Qk]
def wordJ (jw:Nat) (d:List Int) (at_:Int):AV:=if at_ < 0∨(d.length:Int)≤at_ then .v (.pointer none) else .ref jw 0 at_.toNat
theorem YK {σ:Kx.St} {js jw:Nat} {d:List Int} (hst:σ[js]?=some (.obj 0 [.ms jw 0 0 d.length 1,.v .nilFunc])):FnG Tryz.prog 196 [.ref js 0 0] σ fun a σ'=>a=.v (.int .i64 d.length)∧σ'=σ:=by refine Q3 Z06.2 mixed rfl ?_;simp only[Z06,qH];push_cast[hst];exact trivial
theorem X27 {σ:Kx.St} {js jw:Nat} {d:List Int} (hst:σ[js]?=some (.obj 0 [.ms jw 0 0 d.length 1,.v .nilFunc])) (at_:Int) (b:Bool):
  FnG Tryz.prog 116 [.ref js 0 0,aInt at_,aBool b] σ fun a σ'=>a=wordJ jw d at_∧σ'=σ:=by
 refine Q3 Z04.2 mixed rfl ?_;simp only[Z04,aInt,aBool,qH];by_cases c1:at_ < 0
 ·have e:wordJ jw d at_=.v (.pointer none):=if_pos (.inl c1);rw[e];push_cast (disch:=omega)[c1];exact trivial
 by_cases c2:(d.length:Int)≤at_
 ·have e:wordJ jw d at_=.v (.pointer none):=if_pos (.inr c2);rw[e];push_cast (disch:=omega)[c1];refine Q4 (YK hst) ?_;push_cast (disch:=omega)[c2];exact trivial
 have e:wordJ jw d at_=.ref jw 0 at_.toNat:=if_neg ka;rw[e];push_cast (disch:=omega)[c1];refine Q4 (YK hst) ?_;push_cast (disch:=omega)[c2,hst];exact trivial
theorem Yd {jw:Nat} {d:List Int} {at_:Int} (h:at_ < 0∨(d.length:Int)≤at_):wordJ jw d at_=.v (.pointer none):=if_pos h
theorem Ye {jw:Nat} {d:List Int} {at_:Int} (h:¬(at_ < 0∨(d.length:Int)≤at_)):wordJ jw d at_=.ref jw 0 at_.toNat:=if_neg h
section
variable {σ:Kx.St} {js jw:Nat} {d:List Int} (hst:σ[js]?=some (.obj 0 [.ms jw 0 0 d.length 1,.v .nilFunc])) (hwd:σ[jw]?=some (.obj 0 (d.map aInt)))
include hst hwd
theorem st_Load_x (at_:Int):FnG Tryz.prog 68 [.ref js 0 0,aInt at_] σ fun a σ'=>a=.tup [aInt (askD d ⟨1,at_,0,0,0⟩).1,aBool (askD d ⟨1,at_,0,0,0⟩).2.1]∧σ'=σ:=by
 refine Q3 Z03.2 mixed rfl ?_;simp only[Z03,aInt,qH];push_cast;refine Q4 (X27 hst at_ false) ?_;by_cases c:at_ < 0∨(d.length:Int)≤at_
 ·have e:askD d ⟨1,at_,0,0,0⟩=(0,false,d):=if_pos c;rw[Yd c,e];push_cast[Option.isNone_none,aBool];exact trivial
 ·have e:askD d ⟨1,at_,0,0,0⟩=(d.getD at_.toNat 0,true,d):=by simp only[askD];rw[if_neg c];simp
  rw[Ye c,e];have hg:=Yb c;push_cast[hwd,hg,aBool];exact trivial
theorem X49 (at_ v:Int):FnG Tryz.prog 85 [.ref js 0 0,aInt at_,aInt v] σ fun a σ'=>a=aBool (askD d ⟨2,at_,v,0,0⟩).2.1∧σ'=σ.set jw (.obj 0 ((askD d ⟨2,at_,v,0,0⟩).2.2.map aInt)):=by
 refine Q3 ZG.2 mixed rfl ?_;simp only[ZG,aInt,qH];push_cast;refine Q4 (X27 hst at_ true) ?_;by_cases c:at_ < 0∨(d.length:Int)≤at_
 ·have e:askD d ⟨2,at_,v,0,0⟩=(0,false,d):=if_pos c;rw[Yd c,e];push_cast[Option.isNone_none,aBool];exact (Q20 hwd).symm
 ·have e:askD d ⟨2,at_,v,0,0⟩=(0,true,d.set at_.toNat v):=by simp only[askD];rw[if_neg c];simp
  rw[Ye c,e];have hlt:=Qh (Yb c);push_cast;refine Q9 rfl rfl hwd hlt ?_;rw[Yc];push_cast[aBool];exact trivial
theorem st_Add_x (at_ v:Int):FnG Tryz.prog 225 [.ref js 0 0,aInt at_,aInt v] σ fun a σ'=>a=.tup [aInt (askD d ⟨3,at_,v,0,0⟩).1,aBool (askD d ⟨3,at_,v,0,0⟩).2.1]∧σ'=σ.set jw (.obj 0 ((askD d ⟨3,at_,v,0,0⟩).2.2.map aInt)):=by
 refine Q3 Z51.2 mixed rfl ?_;simp only[Z51,aInt,qH];push_cast;refine Q4 (X27 hst at_ true) ?_;by_cases c:at_ < 0∨(d.length:Int)≤at_
 ·have e:askD d ⟨3,at_,v,0,0⟩=(0,false,d):=if_pos c;rw[Yd c,e];push_cast[Option.isNone_none,aBool];exact (Q20 hwd).symm
 ·have e:askD d ⟨3,at_,v,0,0⟩=(d.getD at_.toNat 0,true,d.set at_.toNat (IntKind.i64.wrap (d.getD at_.toNat 0+v))):=by simp only[askD];rw[if_neg c];simp
  rw[Ye c,e];have hg:=Yb c;have hlt:=Qh hg;push_cast[hwd,hg];refine Q9 rfl rfl hwd hlt ?_;rw[Yc];push_cast[aBool];exact trivial
theorem st_Swap_x (at_ v o:Int):FnG Tryz.prog 227 [.ref js 0 0,aInt at_,aInt v,aInt o] σ fun a σ'=>a=.tup [aInt (askD d ⟨4,at_,v,o,0⟩).1,aBool (askD d ⟨4,at_,v,o,0⟩).2.1]∧σ'=σ.set jw (.obj 0 ((askD d ⟨4,at_,v,o,0⟩).2.2.map aInt)):=by
 refine Q3 Z07.2 mixed rfl ?_;simp only[Z07,aInt,qH];push_cast;refine Q4 (X27 hst at_ true) ?_;by_cases c:at_ < 0∨(d.length:Int)≤at_
 ·have e:askD d ⟨4,at_,v,o,0⟩=(0,false,d):=if_pos c;rw[Yd c,e];push_cast[Option.isNone_none,aBool];exact (Q20 hwd).symm
 ·have e:askD d ⟨4,at_,v,o,0⟩=(d.getD at_.toNat 0,true,if d.getD at_.toNat 0=v then d.set at_.toNat o else d):=by simp only[askD];rw[if_neg c];simp
  rw[Ye c,e];have hg:=Yb c;have hlt:=Qh hg;by_cases cv:d.getD at_.toNat 0=v
  ·rw[if_pos cv];push_cast[hwd,hg,cv,aBool];refine Q9 rfl rfl hwd hlt ?_;rw[Yc];push_cast[aBool];exact trivial
  ·rw[if_neg cv];push_cast[hwd,hg,cv,aBool];exact (Q20 hwd).symm
end
section
variable {σ:Kx.St} {js jw:Nat} {ws:List Int} (h:Wd σ js jw ws)
include h
theorem Xt {a:Int} (h0:0≤a) (h1:a < ws.length):FnG Tryz.prog 68 [.ref js 0 0,aInt a] σ fun r σ'=>r=.tup [aInt (ldW ws a),aBool true]∧σ'=σ:=
 FnG.mono (st_Load_x h.st h.wd a) fun r σ' ⟨e1,e2⟩=>⟨by rw[e1];unfold askD;rw[if_neg (by simp only;omega)];rfl,e2⟩
theorem Zx {a:Int} (h0:0≤a) (h1:a < ws.length) (v:Int):FnG Tryz.prog 85 [.ref js 0 0,aInt a,aInt v] σ fun r σ'=>r=aBool true∧σ'=σ.set jw (.obj 0 ((stW ws a v).map aInt)):=
 FnG.mono (X49 h.st h.wd a v) fun r σ' ⟨e1,e2⟩=>by
  have e:askD ws ⟨2,a,v,0,0⟩=(0,true,stW ws a v):=by unfold askD;rw[if_neg (by simp only;omega)];rfl
  rw[e] at e1 e2;exact ⟨e1,e2⟩
theorem wAdd_a {a:Int} (h0:0≤a) (h1:a < ws.length) (v:Int):FnG Tryz.prog 225 [.ref js 0 0,aInt a,aInt v] σ fun r σ'=>r=.tup [aInt (ldW ws a),aBool true]∧σ'=σ.set jw (.obj 0 ((addW ws a v).map aInt)):=
 FnG.mono (st_Add_x h.st h.wd a v) fun r σ' ⟨e1,e2⟩=>by
  have e:askD ws ⟨3,a,v,0,0⟩=(ldW ws a,true,addW ws a v):=by unfold askD;rw[if_neg (by simp only;omega)];rfl
  rw[e] at e1 e2;exact ⟨e1,e2⟩
theorem X05 {a:Int} (h0:0≤a) (h1:a < ws.length):FnG Tryz.prog 243 [.ref js 0 0,aInt a] σ fun r σ'=>r=aInt (ldW ws a)∧σ'=σ:=by refine Q3 YG.2 mixed rfl ?_;simp only[YG,aInt,qH];push_cast;refine Q0 (Xt h h0 h1) ?_;rintro r σ' ⟨rfl,rfl⟩;push_cast[aInt,aBool];exact trivial
theorem X86 {a:Int} (h0:0≤a) (h1:a < ws.length) (n:Int):FnG Tryz.prog 283 [.ref js 0 0,aInt a,aInt n] σ fun r σ'=>r=aBool (swW ws a n).1∧σ'=σ.set jw (.obj 0 ((swW ws a n).2.map aInt)):=by
 refine Q3 X80.2 mixed rfl ?_;simp only[X80,aInt,qH]
 have e:askD ws ⟨4,a,n,0,0⟩=(ldW ws a,true,(swW ws a n).2):=by
  unfold askD;rw[if_neg (by simp only;omega)];have hk:¬((4:Int)=1)∧¬((4:Int)=2)∧¬((4:Int)=3):=by decide
  simp only[hk.1,hk.2.1,hk.2.2,if_false,if_true,swW,ldW,stW];split<;>(rename_i hc;simp only[hc,if_true,if_false])
 push_cast;refine Q0 (st_Swap_x h.st h.wd a n 0) ?_;rw[e];rintro r σ' ⟨rfl,rfl⟩;by_cases c:ldW ws a=n
 ·have e1:(swW ws a n).1=true:=by simp[swW,c]
  rw[e1];push_cast[aInt,aBool,c];exact trivial
 ·have e1:(swW ws a n).1=false:=by simp[swW,c]
  rw[e1];push_cast[aInt,aBool,c];exact trivial
theorem X87 {a:Int} (h0:0≤a) (h1:a < ws.length):FnG Tryz.prog 161 [.ref js 0 0,aInt a] σ fun _ σ'=>σ'=σ.set jw (.obj 0 ((addW ws a 1).map aInt)):=by refine Q3 X75.2 mixed rfl ?_;simp only[X75,aInt,qH];push_cast;refine Q0 (wAdd_a h h0 h1 1) ?_;rintro r σ' ⟨rfl,rfl⟩;push_cast;exact trivial
theorem X88 {a:Int} (h0:0≤a) (h1:a < ws.length):FnG Tryz.prog 160 [.ref js 0 0,aInt a] σ fun _ σ'=>σ'=σ.set jw (.obj 0 ((stW ws a 1).map aInt)):=by refine Q3 X74.2 mixed rfl ?_;simp only[X74,aInt,qH];push_cast;refine Q0 (Zx h h0 h1 1) ?_;rintro r σ' ⟨rfl,rfl⟩;push_cast;exact trivial
theorem Z25 {a:Int} (h0:0≤a) (h1:a < ws.length):FnG Tryz.prog 153 [.ref js 0 0,aInt a] σ fun r σ'=>r=aBool (joinLeave ws a).1∧σ'=σ.set jw (.obj 0 ((joinLeave ws a).2.map aInt)):=by
 refine Q3 X73.2 mixed rfl ?_;simp only[X73,aInt,qH];push_cast;refine Q0 (wAdd_a h h0 h1 (-1)) ?_;rintro r σ' ⟨rfl,rfl⟩;push_cast[aInt,aBool]
 first|exact ⟨rfl,rfl⟩|exact trivial
def aTn (at_ n:Int):AV:=.agg [.v (.int .i64 at_),.v (.int .i64 n)]
theorem ticket_Ask_a {a:Int} (h0:0≤a) (h1:a < ws.length):FnG Tryz.prog 214 [.ref js 0 0,aInt a] σ fun r σ'=>r=aTn a (ldW ws a)∧σ'=σ.set jw (.obj 0 ((addW ws a 1).map aInt)):=by
 refine FnG.drop1 (res_low_ints _ _ _) (fun a h=>by subst h;rfl) ?_;refine Q3 X84.2 mixed rfl ?_;simp only[X84,aInt,qH];have hb:fillA [AV.v (.int .i64 0),AV.v (.int .i64 0)] [(0,1),(1,1)] [.v (.int .i64 a),.v (.int .i64 (ldW ws a))]=some [.v (.int .i64 a),.v (.int .i64 (ldW ws a))]:=by simp[fillA,AV.cells,Value.cells,setAtA]
 push_cast;refine Qm ?_;push_cast;refine Q0 (wAdd_a h.app h0 h1 1) ?_;rintro r σ' ⟨rfl,rfl⟩;rw[set_app (Qh h.wd)];have e:=Qe (σ.set jw (.obj 0 ((addW ws a 1).map aInt))) (Res.obj 0 [AV.v (.int .i64 0),AV.v (.int .i64 0)]);rw[List.length_set] at e;push_cast[aInt,aBool,hb];refine Qd (cs:=[AV.v (.int .i64 0),.v (.int .i64 0)]) rfl rfl e ke ?_;have hs2:setAtA [AV.v (.int .i64 0),AV.v (.int .i64 0)] 0 [.v (.int .i64 a),.v (.int .i64 (ldW ws a))]=[.v (.int .i64 a),.v (.int .i64 (ldW ws a))]:=rfl;have c2:cellsA (some 2) [AV.v (.int .i64 a),.v (.int .i64 (ldW ws a))]=some (aTn a (ldW ws a)):=rfl;rw[hs2,snoc_set ke];have e':=snoc_at (A:=σ.set jw (.obj 0 ((addW ws a 1).map aInt))) (n:=σ.length) (x:=Res.obj 0 [AV.v (.int .i64 a),.v (.int .i64 (ldW ws a))]) ke;push_cast[e',c2];exact ⟨_,rfl⟩
theorem Y83 {a n:Int} (h0:0≤a+1) (h1:a+1 < ws.length) (ha:a≤1000000):FnG Tryz.prog 216 [aTn a n,.ref js 0 0] σ fun r σ'=>r=aBool (decide (ldW ws (a+1)=n))∧σ'=σ:=by refine Q3 Z21.2 mixed rfl ?_;simp only[Z21,aTn,qH];push_cast (disch:=omega);refine Q6 ?_;push_cast (disch:=omega);refine Q0 (Xt h h0 h1) ?_;rintro r σ' ⟨rfl,rfl⟩;by_cases c:ldW ws (a+1)=n<;>(push_cast (disch:=omega)[aInt,aBool,c];exact trivial)
theorem Y21 {a n:Int} (h0:0≤a+1) (h1:a+1 < ws.length) (ha:a≤1000000):FnG Tryz.prog 311 [aTn a n,.ref js 0 0] σ fun r σ'=>r=aBool true∧σ'=σ.set jw (.obj 0 ((stW ws (a+1) (w64 (n+1))).map aInt)):=by refine Q3 ZQ.2 mixed rfl ?_;simp only[ZQ,aTn,qH];push_cast (disch:=omega);refine Q6 ?_;push_cast (disch:=omega);refine Q0 (Zx h h0 h1 _) ?_;rintro r σ' ⟨rfl,rfl⟩;push_cast (disch:=omega)[aBool];exact trivial
end
end Go.Proofs.YtelibaobkcokdaaGreat.Mx
