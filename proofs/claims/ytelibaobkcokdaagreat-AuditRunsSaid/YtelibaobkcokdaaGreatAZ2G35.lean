/- The machine: a frame's kind, what stands in deques, audit's look at it all. -/
import Derived.Test.YtelibaobkcokdaaGreatAZ2G34
import Derived.Test.YtelibaobkcokdaaGreatProg
import Derived.KernelRfl
namespace Go.Proofs.YtelibaobkcokdaaGreat.Mx
set_option linter.unusedSectionVars false
set_option linter.unusedVariables false
set_option linter.unusedSimpArgs false
open Go Go.Kx Go.Proofs Go.Proofs.YtelibaobkcokdaaGreat
set_option maxRecDepth 8000
section
variable {jm:Nat} {q:Pm} {pl:Pl} {σ:Kx.St} {m:Mc}
theorem Y48 (h:MaM jm q pl σ m) (id:Int):FnG Tryz.prog 65 [.ref jm 0 0,.v (.int .i64 id)] σ fun a σ'=>a=aInt (m.c.at id).kind∧σ'=σ:=by
 refine Q3 Q66.2 mixed rfl ?_;simp only[Q66,qH];obtain ⟨t,ht⟩:=h.mo;push_cast -implicitDefEqProofs[ht];refine Q4 (Q41 h.mm) ?_;push_cast -implicitDefEqProofs;refine Q4 (X68 h.mm id) ?_
 cases c:m.c.isHeld id with
 | true=>
  obtain ⟨cs,h1,h2,_,_,h5⟩:=(h.mm.fp 0 c).get;have g0:cs[id.toNat * 19]?=some (.v (.int .i64 (m.c.at id).kind)):=h2 0 _ rfl;push_cast -implicitDefEqProofs[h1,g0]
  first|exact rfl|exact ⟨rfl,rfl⟩|exact trivial
 | false=>
  have e:m.c.at id=fm0:=by unfold Cs.at;rw[c];rfl
  rw[e];push_cast -implicitDefEqProofs
  first|exact rfl|exact ⟨rfl,rfl⟩|exact trivial
theorem deq_snoc {q:Pm} {ws:List Int} {j h:Int} {c:Nat}:((List.range (c+1)).map fun i:Nat=>ldW ws (q.slot j (h+(i:Nat))))=((List.range c).map fun i:Nat=>ldW ws (q.slot j (h+(i:Nat))))++[ldW ws (q.slot j (h+c))]:=by rw[List.range_succ,List.map_append];rfl
set_option maxHeartbeats 8000000 in
theorem Yn (h:MaM jm q pl σ m) (hb:∀j:Nat,j < m.l.length→(-1≤ldW m.c.ws (q.base (j:Nat))∧ldW m.c.ws (q.base (j:Nat))≤1000000)∧-1≤ldW m.c.ws (q.base (j:Nat)+1)∧ldW m.c.ws (q.base (j:Nat)+1)≤1000000):
  FnG Tryz.prog 37 [.ref jm 0 0] σ fun a σ'=>a=aInts2 (m.deqs q)∧σ'=σ:=by
 have hlow:∀n,(aInts2 (m.deqs q)).low n=true:=fun n=>by
  have e1:∀l:List Int,AV.lowL n (l.map aInt)=true:=fun l=>by
   induction l with
   | nil=>rfl
   | cons x l ih=>rw[List.map_cons];simp[AV.lowL,ih,aInt,AV.low]
  have e2:∀l:List (List Int),AV.lowL n (l.map aInts)=true:=fun l=>by
   induction l with
   | nil=>rfl
   | cons x l ih=>rw[List.map_cons];simp[AV.lowL,ih,aInts,aSl,AV.low,e1]
  simp[aInts2,aSl,AV.low,e2]
 refine FnG.drop0 (fun a ha=>by subst ha;exact hlow _) (FnG.fz ?_);refine Q3 Q37.2 mixed rfl ?_;simp only[Q37,qH];obtain ⟨t,ht⟩:=h.mo;have hln:=h.ln;have hok:=h.mm.sd.ok;have hW:=hok.1;have hmt:∀τ:Kx.St,(σ++τ)[jm]?=_:=fun τ=>Qn ht;generalize hRL:(List.range m.l.length).map (fun k=>AV.ref (pl.p (.wk k)) 0 0)=RL at ht hmt;have hRl:RL.length=m.l.length:=by rw[←hRL];simp
 refine Qb (fun ε σ'=>ε 0=.ref jm 0 0∧σ'=σ) ?_ ?_
 ·intro N X R hN;push_cast -implicitDefEqProofs (disch:=omega);exact hN _ _ ⟨by push_cast -implicitDefEqProofs (disch:=omega),rfl⟩
 rintro ε σ' ⟨hρ,e⟩;rw[e];clear e σ';refine Qv (fun ε σ'=>ε 0=.ref jm 0 0∧σ'=σ) ?_ ?_
 ·intro N hN;push_cast -implicitDefEqProofs (disch:=omega)[hρ];exact hN _ _ ⟨by push_cast -implicitDefEqProofs (disch:=omega)[hρ],rfl⟩
 clear hρ ε;rintro ε σ' ⟨hρ,e⟩;rw[e];clear e σ';refine Qb (fun ε σ'=>(ε 0=.ref jm 0 0∧ε 3=.sl 0 [] .nil)∧σ'=σ) ?_ ?_
 ·intro N X R hN;push_cast -implicitDefEqProofs (disch:=omega)[hρ];exact hN _ _ ⟨by push_cast -implicitDefEqProofs (disch:=omega)[hρ],rfl⟩
 clear hρ ε;rintro ε σ' ⟨hρ,e⟩;rw[e];clear e σ';have hcl:(AV.agg (aPl q)).cells=aPl q:=rfl;have hset:setAtA [AV.v (.int .i64 0),AV.v (.int .i64 0),AV.v (.int .i64 0),AV.v (.int .i64 0)] 0 (aPl q)=aPl q:=rfl;refine Qb (fun ε σ'=>(ε 0=.ref jm 0 0∧ε 3=.sl 0 [] .nil∧ε 4=.ref σ.length 0 0∧ε 5=.ref (pl.p .sw) 0 0)∧σ'=σ++[.obj 0 (aPl q)]) ?_ ?_
 ·intro N X R hN;push_cast -implicitDefEqProofs (disch:=omega)[hρ,ht];have hm1:=hmt [.obj 0 [AV.v (.int .i64 0),AV.v (.int .i64 0),AV.v (.int .i64 0),AV.v (.int .i64 0)]];have hM1:=h.mm.app [.obj 0 [AV.v (.int .i64 0),AV.v (.int .i64 0),AV.v (.int .i64 0),AV.v (.int .i64 0)]];refine both2 ?_ ?_
  ·refine Q0 (X20 h.mm) ?_;rintro a σ' ⟨rfl,hs⟩;rw[hs];clear hs σ';push_cast -implicitDefEqProofs (disch:=omega)[hρ,ht];refine both2 ?_ ?_
   ·refine Q0 (Z47 h.mm) ?_;rintro a σ' ⟨rfl,hs⟩;rw[hs];clear hs σ';push_cast -implicitDefEqProofs (disch:=omega)[hρ,ht];refine Ql ?_;push_cast -implicitDefEqProofs (disch:=omega)[hcl];refine Qd (cs:=[AV.v (.int .i64 0),AV.v (.int .i64 0),AV.v (.int .i64 0),AV.v (.int .i64 0)]) rfl rfl (Qe _ _) ka ?_;rw[hset,Qr];push_cast -implicitDefEqProofs (disch:=omega)[hρ];exact hN _ _ ⟨by push_cast -implicitDefEqProofs (disch:=omega)[hρ],rfl⟩
   ·refine Ql ?_;push_cast -implicitDefEqProofs (disch:=omega)[hρ,hm1];refine Q0 (Z47 hM1) ?_;rintro a σ' ⟨rfl,hs⟩;rw[hs];clear hs σ';push_cast -implicitDefEqProofs (disch:=omega)[hcl];refine Qd (cs:=[AV.v (.int .i64 0),AV.v (.int .i64 0),AV.v (.int .i64 0),AV.v (.int .i64 0)]) rfl rfl (Qe _ _) ka ?_;rw[hset,Qr];push_cast -implicitDefEqProofs (disch:=omega)[hρ];exact hN _ _ ⟨by push_cast -implicitDefEqProofs (disch:=omega)[hρ],rfl⟩
  ·refine Ql ?_;push_cast -implicitDefEqProofs (disch:=omega)[hρ,hm1];refine Q0 (X20 hM1) ?_;rintro a σ' ⟨rfl,hs⟩;rw[hs];clear hs σ';push_cast -implicitDefEqProofs (disch:=omega)[hρ,hm1];refine Q0 (Z47 hM1) ?_;rintro a σ' ⟨rfl,hs⟩;rw[hs];clear hs σ';push_cast -implicitDefEqProofs (disch:=omega)[hcl];refine Qd (cs:=[AV.v (.int .i64 0),AV.v (.int .i64 0),AV.v (.int .i64 0),AV.v (.int .i64 0)]) rfl rfl (Qe _ _) ka ?_;rw[hset,Qr];push_cast -implicitDefEqProofs (disch:=omega)[hρ];exact hN _ _ ⟨by push_cast -implicitDefEqProofs (disch:=omega)[hρ],rfl⟩
 clear hρ ε;rintro ε σ' ⟨hρ,e⟩;rw[e];clear e σ';have hP:∀τ:Kx.St,((σ++[Res.obj 0 (aPl q)])++τ)[σ.length]?=some (.obj 0 (aPl q)):=fun τ=>Qn (Qe _ _);have hMM:∀τ:Kx.St,MM q pl ((σ++[Res.obj 0 (aPl q)])++τ) m.l m.c:=fun τ=>(h.mm.app _).app _;generalize hS0:σ++[Res.obj 0 (aPl q)]=S0 at hP hMM;have hS0l:S0.length=σ.length+1:=by rw[←hS0];simp
 have hmt0:∀τ:Kx.St,(S0++τ)[jm]?=some (.obj 0 [.ref (pl.p .c) 0 0,.sl m.l.length RL t]):=fun τ=>by rw[←hS0,List.append_assoc];exact hmt _
 have hok':=hok;have hbi:=fun j:Nat=>hok.base_in (j:Int);have hsz:(m.c.ws.length:Int)=q.size:=h.mm.sd.ws;have hWW:q.W * q.wide≤q.size:=by have:=hok.FF;unfold Pm.size;omega
 have hwi:=hok.wide_in;have c4:cellsA (some 4) (aPl q)=some (.agg (aPl q)):=rfl;have hdl:(m.deqs q).length=m.l.length:=by unfold Mc.deqs;simp
 have hda:∀k,k < m.l.length→(m.deqs q)[k]?=some (deqL q m.c.ws (k:Nat)):=fun k hk=>by unfold Mc.deqs;rw[List.getElem?_map,List.getElem?_range hk];rfl
 refine Qb (fun ε σ'=>∃w,ε 3=.sl m.l.length ((m.deqs q).map aInts) (.id S0.length w 1)∧∃τ,σ'=S0++τ) ?_ ?_
 ·intro N X R hN;have hm0:=hmt0 [];rw[List.append_nil] at hm0;push_cast -implicitDefEqProofs (disch:=omega)[hρ,hm0]
  refine XR (GU.tok 3 1 oB) (α:=Nat) (I:=fun k ε σ'=>(ε 4=.ref σ.length 0 0∧ε 5=.ref (pl.p .sw) 0 0∧ε 31=.v (.int .i64 m.l.length)∧ε 32=.v (.int .i64 k))∧k≤m.l.length∧∃w τ,ε 3=.sl k (((m.deqs q).take k).map aInts) (.id S0.length w 1)∧σ'=S0++(.tail w::τ))
   (μ:=fun k=>m.l.length - k) (Q:=fun ε σ'=>∃w,ε 3=.sl m.l.length ((m.deqs q).map aInts) (.id S0.length w 1)∧∃τ,σ'=S0++τ) (x:=0) ?_ ?_ hN
  ·push_cast -implicitDefEqProofs (disch:=omega)[hρ];exact ⟨by omega,0,[],rfl,rfl⟩
  ·clear hN N X R hρ ε;rintro k ε σ' N E X R ⟨hρ,hk,w,τ,h3,rfl⟩ hN hE;by_cases hlt:k < m.l.length
   ·have hPS:=hP (.tail w::τ);have hMS:=hMM (.tail w::τ);have htl:(S0++(Res.tail w::τ))[S0.length]?=some (.tail w):=by simp
    have hkW:(k:Int) < q.W:=by omega
    have hb0:=hbi k;have hbk:=hb k hlt;have hsi:=hok.size_in;have hw1:IntKind.i64.wrap (q.base (k:Nat)+1)=q.base (k:Nat)+1:=Q30 ke ke;generalize hS:S0++(Res.tail w::τ)=S at hPS hMS htl;push_cast -implicitDefEqProofs (disch:=omega)[hρ,hPS,c4];refine Q5 (Q09 hok (k:Nat)) ?_;push_cast -implicitDefEqProofs (disch:=omega)[hρ];refine Q0 (ZV hMS.words ke ke) ?_;rintro a σ' ⟨rfl,hs⟩;rw[hs];clear hs σ';push_cast -implicitDefEqProofs (disch:=omega)[hρ,hPS,c4];refine Q5 (Q09 hok (k:Nat)) ?_;push_cast -implicitDefEqProofs (disch:=omega)[hρ,aInt,hw1];refine Q0 (ZV hMS.words ke ke) ?_;rintro a σ' ⟨rfl,hs⟩;rw[hs];clear hs σ';push_cast -implicitDefEqProofs (disch:=omega)[hρ,hPS,c4,aInt];obtain ⟨c,hc⟩:∃c:Nat,c=(ldW m.c.ws (q.base (k:Nat)+1) - ldW m.c.ws (q.base (k:Nat))).toNat:=⟨_,rfl⟩;have hdq:deqL q m.c.ws (k:Nat)=(List.range c).map fun i:Nat=>ldW m.c.ws (q.slot (k:Nat) (ldW m.c.ws (q.base (k:Nat))+(i:Nat))):=by rw[hc];rfl
    refine XR (GU.tok 7 1 oB) (α:=Nat) (I:=fun x ε σ'=>(ε 3=.sl k (((m.deqs q).take k).map aInts) (.id S0.length w 1)∧ε 4=.ref σ.length 0 0∧ε 5=.ref (pl.p .sw) 0 0∧ε 6=.v (.int .i64 k)∧ε 10=.v (.int .i64 (ldW m.c.ws (q.base (k:Nat)+1)))∧ε 12=.v (.int .i64 (ldW m.c.ws (q.base (k:Nat))+x))∧ε 31=.v (.int .i64 m.l.length)∧ε 32=.v (.int .i64 k))∧x≤c ∧
      ∃w',ε 7=.sl x (((List.range x).map fun i:Nat=>ldW m.c.ws (q.slot (k:Nat) (ldW m.c.ws (q.base (k:Nat))+(i:Nat)))).map aInt) (.id S.length w' 1)∧σ'=S++[.tail w'])
     (μ:=fun x=>c - x) (Q:=fun ε σ'=>(ε 3=.sl k (((m.deqs q).take k).map aInts) (.id S0.length w 1)∧ε 4=.ref σ.length 0 0∧ε 5=.ref (pl.p .sw) 0 0∧ε 31=.v (.int .i64 m.l.length)∧ε 32=.v (.int .i64 k)) ∧
      ∃w',ε 7=.sl c ((deqL q m.c.ws (k:Nat)).map aInt) (.id S.length w' 1)∧σ'=S++[.tail w']) (x:=0) ?_ ?_ ?_
    ·push_cast -implicitDefEqProofs (disch:=omega)[hρ,h3,Int.add_zero]
     first|exact ⟨by omega,0,rfl,rfl⟩|exact ⟨0,rfl,rfl⟩
    ·clear hN hE N E X R hρ h3 ε;rintro x ε σ' N E X R ⟨hρ,hx,w',h7,rfl⟩ hN hE;have hMT:=hMS.app [.tail w'];have hPT:(S++[Res.tail w'])[σ.length]?=some (.obj 0 (aPl q)):=Qn hPS;have hsl:=hok.slot_in (k:Nat) (ldW m.c.ws (q.base (k:Nat))+x);by_cases hlt2:x < c
     ·have hlc:ldW m.c.ws (q.base (k:Nat))+x < ldW m.c.ws (q.base (k:Nat)+1):=by omega
      push_cast -implicitDefEqProofs (disch:=omega)[hρ,hPT,c4,hlc];refine Q5 (Zz hok (k:Nat) (ldW m.c.ws (q.base (k:Nat))+x)) ?_;push_cast -implicitDefEqProofs (disch:=omega)[hρ];refine Q0 (ZV hMT.words ke ke) ?_;rintro a σ' ⟨rfl,hs⟩;rw[hs];clear hs σ';push_cast -implicitDefEqProofs (disch:=omega)[aInt];refine Qp oM ki ?_;push_cast -implicitDefEqProofs (disch:=omega)[h7];refine Xt (m:=1) rfl rfl oM ku ki ke ke (Qe _ _) ?_;push_cast -implicitDefEqProofs (disch:=omega)[hρ,Qr];refine hN (x+1) _ _ ⟨by push_cast -implicitDefEqProofs (disch:=omega)[hρ,Int.add_assoc],by omega,w'+1,?_,rfl⟩ ke;rw[deq_snoc,List.map_append];push_cast -implicitDefEqProofs (disch:=omega)[List.map_cons,List.map_nil,aInt]
     ·have hlc:¬ldW m.c.ws (q.base (k:Nat))+x < ldW m.c.ws (q.base (k:Nat)+1):=by omega
      push_cast -implicitDefEqProofs (disch:=omega)[hρ,hlc];obtain rfl:x=c:=by omega
      exact hE _ _ ⟨by push_cast -implicitDefEqProofs (disch:=omega)[hρ],w',by rw[hdq];push_cast -implicitDefEqProofs (disch:=omega)[h7],rfl⟩
    ·clear hρ;rintro ε σ' ⟨hρ,w',h7,rfl⟩;push_cast -implicitDefEqProofs (disch:=omega)[hρ,h7];refine Qp (by simp[AV.cells]) ki ?_;push_cast -implicitDefEqProofs (disch:=omega)[hρ,h7];have hdl2:(deqL q m.c.ws (k:Nat)).length=c:=by rw[hdq];simp
     have hres:AV.res (Go.Kx.freeze [] (S++[Res.tail w'])) (.sl 1 [.sl c ((deqL q m.c.ws (k:Nat)).map aInt) (.id S.length w' 1)] .full)=.sl 1 [aInts (deqL q m.c.ws (k:Nat))] .none:=by have e:=X59 (f:=aInt) (σ:=Go.Kx.freeze [] (S++[Res.tail w'])) (Yr _) (deqL q m.c.ws (k:Nat)) (.id S.length w' 1);rw[hdl2] at e;show AV.sl 1 [AV.res _ _] _=_;rw[e];rfl
     refine Y85 [] [false,true] ?_;simp only[weak,if_true,if_false,Bool.false_eq_true,AV.cells];rw[hres];have htl2:(S++[Res.tail w'])[S0.length]?=some (.tail w):=Qn htl;refine Xt (m:=1) rfl rfl ki ku eJ ke ke htl2 ?_;push_cast -implicitDefEqProofs (disch:=omega)[hρ];refine hN (k+1) _ _ ⟨by push_cast -implicitDefEqProofs (disch:=omega)[hρ],by omega,w+1,τ++[.tail w'],?_,?_⟩ ke
     ·rw[Qt (hda k hlt),List.map_append];push_cast -implicitDefEqProofs (disch:=omega)[List.map_cons,List.map_nil]
     ·rw[fzn,←hS];simp
   ·push_cast -implicitDefEqProofs (disch:=omega)[hρ];obtain rfl:k=m.l.length:=by omega
    rw[List.take_of_length_le ke] at h3;exact hE _ _ ⟨w,by push_cast -implicitDefEqProofs (disch:=omega)[h3],_,rfl⟩
 clear hρ ε;rintro ε σ' ⟨w,hρ,τ,rfl⟩;push_cast -implicitDefEqProofs (disch:=omega)[hρ];refine ⟨[],?_,[.obj 0 (aPl q)]++τ,by rw[←hS0,List.append_assoc];rfl⟩;have:=X59 (f:=aInts) (σ:=Go.Kx.freeze [] (S0++τ)) (aInts_res _) (m.deqs q) (.id S0.length w 1);rw[hdl] at this;exact this
def kdA (c:Cs) (k:Nat):List Int:=(List.range 256).map fun i:Nat=>if i < k then (c.at ((i:Nat)+1)).kind else 0
theorem kdA_len (c:Cs) (k:Nat):(kdA c k).length=256:=by unfold kdA;simp
theorem kdA_zero (c:Cs):(kdA c 0).map aInt=List.replicate 256 (.v (.int .i64 0)):=by
 apply List.ext_getElem?;intro i;unfold kdA;rw[List.getElem?_map,List.getElem?_map,List.getElem?_replicate];by_cases h:i < 256
 ·rw[List.getElem?_range h,if_pos h];rfl
 ·rw[List.getElem?_eq_none (by rw[List.length_range];omega),if_neg h];rfl
theorem kdA_set (c:Cs) {k:Nat} (hk:k < 256):(kdA c k).set k (c.at ((k:Nat)+1)).kind=kdA c (k+1):=by
 apply List.ext_getElem?;intro i;rw[List.getElem?_set,kdA_len];unfold kdA;by_cases h:i < 256
 ·by_cases e:k=i
  ·subst e;simp[h]
  ·rw[if_neg e];simp only[List.getElem?_map,List.getElem?_range h,Option.map_some];congr 1;by_cases h2:i < k
   ·rw[if_pos h2,if_pos ke]
   ·rw[if_neg h2,if_neg ke]
 ·rw[if_neg ke];simp[h]
theorem kdA_all (m:Mc):kdA m.c 256=m.kinds:=by unfold kdA Mc.kinds;refine List.map_congr_left fun i hi=>?_;rw[if_pos (List.mem_range.1 hi)]
set_option maxHeartbeats 8000000 in
theorem JI (h:MaM jm q pl σ m) (hb:∀j:Nat,j < m.l.length→(-1≤ldW m.c.ws (q.base (j:Nat))∧ldW m.c.ws (q.base (j:Nat))≤1000000)∧-1≤ldW m.c.ws (q.base (j:Nat)+1)∧ldW m.c.ws (q.base (j:Nat)+1)≤900000):
  FnG Tryz.prog 34 [.ref jm 0 0] σ fun a σ'=>a=aInt (lookE m.views (m.deqs q) m.kinds)∧σ'=σ:=by
 refine FnG.drop0 (fun a ha=>by subst ha;rfl) ?_;refine Q3 ZE.2 mixed rfl ?_;simp only[ZE,qH];have hln:=h.ln;have hok:=h.mm.sd.ok;have hW:=hok.1;refine Qb (fun ε σ'=>ε 0=.ref jm 0 0∧σ'=σ) ?_ ?_
 ·intro N X R hN;simp (maxSteps:=999999) -implicitDefEqProofs (disch:=omega) only[push_cast,↓reduceIte,Nat.reduceEqDiff,reduceCtorEq,wz];exact hN _ _ ⟨by simp (maxSteps:=999999) -implicitDefEqProofs (disch:=omega) only[push_cast,↓reduceIte,Nat.reduceEqDiff,reduceCtorEq,wz],rfl⟩
 rintro ε σ' ⟨hρ,e⟩;rw[e];clear e σ';refine Qv (fun ε σ'=>ε 0=.ref jm 0 0∧σ'=σ) ?_ ?_
 ·intro N hN;simp (maxSteps:=999999) -implicitDefEqProofs (disch:=omega) only[push_cast,↓reduceIte,Nat.reduceEqDiff,reduceCtorEq,wz,hρ];exact hN _ _ ⟨by simp (maxSteps:=999999) -implicitDefEqProofs (disch:=omega) only[push_cast,↓reduceIte,Nat.reduceEqDiff,reduceCtorEq,wz,hρ],rfl⟩
 clear hρ ε;rintro ε σ' ⟨hρ,e⟩;rw[e];clear e σ';refine Qb (fun ε σ'=>(ε 0=.ref jm 0 0∧ε 3=.ms σ.length 0 0 256 1)∧σ'=σ++[.obj 0 ((kdA m.c 0).map aInt)]) ?_ ?_
 ·intro N X R hN;simp (maxSteps:=999999) -implicitDefEqProofs (disch:=omega) only[push_cast,↓reduceIte,Nat.reduceEqDiff,reduceCtorEq,wz,hρ];refine X58 (k:=.i64) (k':=.i64) (n:=256) rfl ka ka ?_;simp (maxSteps:=999999) -implicitDefEqProofs (disch:=omega) only[push_cast,↓reduceIte,Nat.reduceEqDiff,reduceCtorEq,wz,hρ];exact hN _ _ ⟨by simp (maxSteps:=999999) -implicitDefEqProofs (disch:=omega) only[push_cast,↓reduceIte,Nat.reduceEqDiff,reduceCtorEq,wz,hρ],by rw[kdA_zero];rfl⟩
 clear hρ ε;rintro ε σ' ⟨hρ,e⟩;rw[e];clear e σ';refine Qb (fun ε σ'=>(ε 0=.ref jm 0 0∧ε 3=.ms σ.length 0 0 256 1)∧σ'=σ++[.obj 0 (m.kinds.map aInt)]) ?_ ?_
 ·intro N X R hN;simp (maxSteps:=999999) -implicitDefEqProofs (disch:=omega) only[push_cast,↓reduceIte,Nat.reduceEqDiff,reduceCtorEq,wz,hρ]
  refine Y88 (α:=Nat) (I:=fun k ε σ'=>(ε 0=.ref jm 0 0∧ε 3=.ms σ.length 0 0 256 1∧ε 9=.v (.int .i64 (256:Nat))∧ε 10=.v (.int .i64 k))∧k≤256∧σ'=σ++[.obj 0 ((kdA m.c k).map aInt)])
   (μ:=fun k=>256 - k) (Q:=fun ε σ'=>(ε 0=.ref jm 0 0∧ε 3=.ms σ.length 0 0 256 1)∧σ'=σ++[.obj 0 (m.kinds.map aInt)]) (x:=0) ?_ ?_ hN
  ·simp (maxSteps:=999999) -implicitDefEqProofs (disch:=omega) only[push_cast,↓reduceIte,Nat.reduceEqDiff,reduceCtorEq,wz,hρ]
   first|exact ⟨by omega,rfl⟩|exact ⟨rfl,by omega,rfl⟩|exact rfl|exact Nat.zero_le _|exact trivial
  ·clear hN N X R hρ ε;rintro k ε σ' N E X R ⟨hρ,hk,rfl⟩ hN hE;by_cases hlt:k < 256
   ·simp (maxSteps:=999999) -implicitDefEqProofs (disch:=omega) only[push_cast,↓reduceIte,Nat.reduceEqDiff,reduceCtorEq,wz,hρ];refine Q0 (Y48 (h.app [.obj 0 ((kdA m.c k).map aInt)]) ((k:Nat)+1)) ?_;rintro a σ' ⟨rfl,hs⟩;rw[hs];clear hs σ';simp (maxSteps:=999999) -implicitDefEqProofs (disch:=omega) only[push_cast,↓reduceIte,Nat.reduceEqDiff,reduceCtorEq,wz,hρ];refine Q8 (cs:=(kdA m.c k).map aInt) rfl rfl (Qe _ _) (by rw[List.length_map,kdA_len];omega) ?_;have es:((kdA m.c k).map aInt).set k (aInt (m.c.at ((k:Nat)+1)).kind)=(kdA m.c (k+1)).map aInt:=by rw[←kdA_set m.c hlt,List.map_set]
    simp (maxSteps:=999999) -implicitDefEqProofs (disch:=omega) only[push_cast,↓reduceIte,Nat.reduceEqDiff,reduceCtorEq,wz,hρ,es,Qr];refine hN (k+1) _ _ ⟨by simp (maxSteps:=999999) -implicitDefEqProofs (disch:=omega) only[push_cast,↓reduceIte,Nat.reduceEqDiff,reduceCtorEq,wz,hρ],by omega,rfl⟩ ke
   ·simp (maxSteps:=999999) -implicitDefEqProofs (disch:=omega) only[push_cast,↓reduceIte,Nat.reduceEqDiff,reduceCtorEq,wz,hρ];obtain rfl:k=256:=by omega
    rw[kdA_all];exact hE _ _ ⟨by simp (maxSteps:=999999) -implicitDefEqProofs (disch:=omega) only[push_cast,↓reduceIte,Nat.reduceEqDiff,reduceCtorEq,wz,hρ],rfl⟩
 clear hρ ε;rintro ε σ' ⟨hρ,e⟩;rw[e];clear e σ';have hkl:m.kinds.length=256:=by unfold Mc.kinds;simp
 have hV:(aVws m.l).pure=true:=aVws_p _;have hA:=h.app [.obj 0 (m.kinds.map aInt)];have hk1:(σ++[Res.obj 0 (m.kinds.map aInt)])[σ.length]?=some (.obj 0 (m.kinds.map aInt)):=Qe _ _;simp (maxSteps:=999999) -implicitDefEqProofs (disch:=omega) only[push_cast,↓reduceIte,Nat.reduceEqDiff,reduceCtorEq,wz,hρ];refine Q0 (Z83 hA) ?_;rintro a σ' ⟨rfl,hs⟩;rw[hs];clear hs σ';simp (maxSteps:=999999) -implicitDefEqProofs (disch:=omega) only[push_cast,↓reduceIte,Nat.reduceEqDiff,reduceCtorEq,wz,hρ];refine Q0 (Yn hA (fun j hj=>by have:=hb j hj;omega)) ?_;rintro a σ' ⟨rfl,hs⟩;rw[hs];clear hs σ';simp (maxSteps:=999999) -implicitDefEqProofs (disch:=omega) only[push_cast,↓reduceIte,Nat.reduceEqDiff,reduceCtorEq,wz,hρ]
 have hr0:∀(σ:Kx.St) (l:List Int),AV.resL σ (l.map aInt)=l.map aInt:=fun σ l=>by
  induction l with
  | nil=>rfl
  | cons x l ih=>rw[List.map_cons];simp[AV.resL,AV.res,ih,aInt]
 have hfr:=Y54 hk1 (hr0 _ m.kinds);rw[Qr] at hfr;have hk2:(σ++[Res.frz 0 (m.kinds.map aInt)])[σ.length]?=some (.frz 0 (m.kinds.map aInt)):=Qe _ _;have hdl:(m.deqs q).length=m.l.length:=by unfold Mc.deqs;simp
 have hdq:∀l∈m.deqs q,l.length≤1000000:=fun l hl=>by unfold Mc.deqs at hl;obtain ⟨j,hj,rfl⟩:=List.mem_map.1 hl;have:=hb j (List.mem_range.1 hj);unfold deqL;simp;omega
 refine ZI [σ.length] [false,false,true] (Z52 m.l (m.deqs q) m.kinds ke ke hdq ke) ?_ ?_
 ·rw[hfr];simp only[weak,if_true,if_false,Bool.false_eq_true];rw[res_ms hk2 (by rw[List.length_map,hkl])];rw[show aInts m.kinds=.sl m.kinds.length (m.kinds.map aInt) .none from rfl,hkl]
 ·rintro a rfl;rw[hfr,lookW_eq];simp (maxSteps:=999999) -implicitDefEqProofs (disch:=omega) only[push_cast,↓reduceIte,Nat.reduceEqDiff,reduceCtorEq,wz,hρ]
  first|exact ⟨rfl,_,rfl⟩|exact ⟨_,rfl⟩
end
end Go.Proofs.YtelibaobkcokdaaGreat.Mx
namespace Go.Proofs.YtelibaobkcokdaaGreat.Mx.In
set_option linter.unusedVariables false
set_option linter.unusedSimpArgs false
open Go Go.Kx Go.Proofs Go.Proofs.YtelibaobkcokdaaGreat Go.Proofs.YtelibaobkcokdaaGreat.Mx
set_option linter.unusedSectionVars false
def P1:Int→Pc:=fun id=>if id=1 then .own 0 .hold else .free
@[grind =] theorem P1_at (id:Int):P1 id=if id=1 then .own 0 .hold else .free:=rfl
set_option maxHeartbeats 4000000 in
theorem CI0 {T W:Int} {sI:Int→Int} {tk:Int→Int→Int→Int} {r:RC} (hst:∀k,r.st k=if k=0 then 4 else 0) (hho:∀k,r.ho k=if k=0 then 1 else 0) (hus:∀id,r.us id=decide (id=1)) (hfr:r.fr 1=⟨1,0,false,0,0,0,0⟩) (hJ:r.J 1=1)
  (hsw:∀l i,r.sw l i=0) (hnap:∀l,r.nap l=0) (hS:r.S=0):CI T W sI tk r P1 (fun _=>0) (fun _=>0) (fun _ _=>0):=by
 constructor
 all_goals grind (splits:=40)
theorem DQI0 {D:Int} (hD:0≤D) {sI:Int→Int} {W:Nat} {r:DR} {P:Int→Pc} (h1:∀k,r.st k=0∨r.st k=4) (h2:∀k,r.ta k=0) (h3:∀k,(r.dq k).nx=.nil) (h4:∀j,r.hd j=0) (h5:∀j,r.tl j=0):
  DQI D sI W r P (fun _=>0) (fun _=>0) (fun _=>0):=by
 constructor
 all_goals grind (splits:=40)
theorem cnt_zero {n:Nat} {f:Nat→Int} {p:Int} (h:∀i,i < n→f i≠p):cnt n f p=0:=by
 induction n with
 | zero=>rfl
 | succ n ih=>unfold cnt;rw[ih fun i hi=>h i ke,if_neg (h n ke)];rfl
theorem JJ (q:Pm) (n:Nat) (a:Lo):lw q (List.replicate n 0) a=0:=by
 unfold lw ldW;split
 ·rw[List.getD_eq_getElem?_getD,List.getElem?_replicate];split<;>rfl
 ·rfl
theorem mkM_IT {q:Pm} (hq:q.Ok) (M:Nat) (inp:List Int):IT q (mkM q M inp) (0:Nat):=by
 have hW:=hq.1;have hF:=hq.2.2.1;have hc:=mkM_cnt hq M inp;have hk:=mkM_ok hq M inp;have he:=mk0_eq hq M inp;have hws:((cs0 q M inp).ws.length:Int)=q.size:=by have:=hq.size_in;show ((List.replicate q.size.toNat (0:Int)).length:Int)=_;rw[List.length_replicate];omega
 have hhl:(cs0 q M inp).held.length=(cs0 q M inp).fr.length:=by simp[cs0]
 have hhF:((cs0 q M inp).held.length:Int)=q.F+1:=by simp[cs0];omega
 have hi:(1:Int)≤1∧1≤q.F:=⟨by omega,hF.1⟩
 have hwk:∀k,wkAt (mkM q M inp).l k=if k=0 then (wkNew 0).runs 1 else wkNew (wkAt (mkM q M inp).l k).own:=by
  intro k;unfold wkAt mkM;dsimp only;rw[List.getD_eq_getElem?_getD,List.getElem?_set];by_cases c:0=k
  ·subst c;rw[if_pos rfl,if_pos eJ,if_pos rfl];rfl
  ·rw[if_neg c,if_neg (fun e=>c e.symm),List.getElem?_map];by_cases hk:k < q.W.toNat
   ·rw[List.getElem?_range hk];rfl
   ·rw[List.getElem?_eq_none eJ];rfl
 have hst:∀k,(wkAt (mkM q M inp).l k).state=if k=0 then 4 else 0:=fun k=>by rw[hwk];split<;>rfl
 have hho:∀k,(wkAt (mkM q M inp).l k).holds=if k=0 then 1 else 0:=fun k=>by rw[hwk];split<;>rfl
 have hta:∀k,(wkAt (mkM q M inp).l k).tail=0:=fun k=>by rw[hwk];split<;>rfl
 have hdq:∀k,(wkAt (mkM q M inp).l k).dq=none:=fun k=>by rw[hwk];split<;>rfl
 have hat:∀(k:Nat) (w:Wk),(mkM q M inp).l[k]?=some w→w=wkAt (mkM q M inp).l k:=fun k w hw=>by unfold wkAt;rw[List.getD_eq_getElem?_getD,hw];rfl
 have hnone:∀(k:Nat) (w:Wk) (d:Dq),(mkM q M inp).l[k]?=some w→w.dq=some d→False:=fun k w d hw hd=>by have e:=hat k w hw;subst e;have:=hdq k;rw[hd] at this;cases this
 have hs4:∀(k:Nat) (w:Wk),(mkM q M inp).l[k]?=some w→w.state=0∨w.state=4:=fun k w hw=>by have e:=hat k w hw;subst e;rw[hst];split<;>omega
 have eC:=J2 (l:=(mkM q M inp).l) hq hws hhl hhF hi he;have eD:=J1 (l:=(mkM q M inp).l) hq hws hi he;obtain ⟨b,fr,hnx,hmk⟩:=X63 he;have hL:=(Len.rf (s:=cs0 q M inp)).m he;have hserial:(mk0 q M inp).serial=0:=by rw[hmk];rfl
 have hfr1:(aRC q (mk0 q M inp) (mkM q M inp).l).fr 1=⟨1,0,false,0,0,0,0⟩:=by rw[eC];rfl
 have hus:∀id,(aRC q (mk0 q M inp) (mkM q M inp).l).us id=decide (id=1):=fun id=>by
  rw[eC];show updI (aRC q (cs0 q M inp) (mkM q M inp).l).us 1 true id=_;unfold updI;by_cases c:id=1
  ·rw[if_pos c];simp[c]
  ·rw[if_neg c]
   have e:(cs0 q M inp).isHeld id=false:=by
    unfold Cs.isHeld;have:(cs0 q M inp).held.getD id.toNat false=false:=by show (List.replicate (q.F+1).toNat false).getD id.toNat false=false;rw[List.getD_eq_getElem?_getD,List.getElem?_replicate];split<;>rfl
    rw[this];simp
   show (cs0 q M inp).isHeld id=_;rw[e];simp[c]
 have hci:∀T W sI tk,CI T W sI tk (aRC q (mk0 q M inp) (mkM q M inp).l) P1 (fun _=>0) (fun _=>0) (fun _ _=>0):=fun T W sI tk=>by
  have z:∀a,lw q (cs0 q M inp).ws a=0:=fun a=>JJ q _ a;refine CI0 hst hho hus hfr1 (by rw[eC];rfl) (fun l i=>?_) (fun l=>?_) hserial
  ·rw[eC];show updZ (aRC q (cs0 q M inp) (mkM q M inp).l).sw 1 l i=0;unfold updZ;split
   ·rfl
   ·show (if 0≤i then lw q (cs0 q M inp).ws _ else 0)=0;rw[z];simp
  ·rw[eC];show updI (aRC q (cs0 q M inp) (mkM q M inp).l).nap 1 0 l=0;unfold updI;split
   ·rfl
   ·exact z _
 refine ⟨⟨P1,fun _=>0,fun _=>0,fun _=>0,fun _=>0,fun _=>0,fun _ _=>0,⟨hq,?_,?_,hc.ln,hk.wk,hc.ow,hc.ar,?_,?_,hci _ _ _ _,⟨fun p hp=>?_,fun id hid=>?_⟩,fun k w d hw hd=>(hnone k w d hw hd).elim,fun k w d hw hd=>(hnone k w d hw hd).elim,fun k w hw ha=>?_,fun k w hw=>?_,fun k w d hw _ hd=>(hnone k w d hw hd).elim⟩,fun _=>Int.le_refl _,fun j _=>?_⟩,hc.st⟩
 ·show ((mk0 q M inp).ws.length:Int)=_;rw[hL.ws];exact hws
 ·show (mk0 q M inp).held.length=(mk0 q M inp).fr.length;rw[hL.he,hL.fr];exact hhl
 ·have e:=hc.st;have e':(mk0 q M inp).steps=0:=e;refine ⟨by show 0≤(mk0 q M inp).steps;omega,by show (mk0 q M inp).steps≤_;omega,by show (mk0 q M inp).serial≤(mk0 q M inp).steps;omega,fun id=>?_⟩;show ((aRC q (mk0 q M inp) (mkM q M inp).l).fr id).started≤(mk0 q M inp).steps;rw[eC];show (updI (aRC q (cs0 q M inp) (mkM q M inp).l).fr 1 _ id).started≤_;unfold updI;split
  ·show (0:Int)≤_;omega
  ·show ((cs0 q M inp).at id).started≤_
   have e2:(cs0 q M inp).at id=fm0:=by
    unfold Cs.at
    split
    ·show (List.replicate (q.F+1).toNat fm0).getD id.toNat fm0=fm0;rw[List.getD_eq_getElem?_getD,List.getElem?_replicate];split<;>rfl
    ·rfl
   rw[e2];show (0:Int)≤_;omega
 ·show DQI q.D (sD q) (mkM q M inp).l.length (aDR q (mk0 q M inp) (mkM q M inp).l) _ _ _ _;rw[eD];refine DQI0 (by have:=hq.2.2.2.1;omega) (fun k=>by have:=hst k;show (wkAt _ k).state=0∨(wkAt _ k).state=4;split at this<;>omega) hta (fun k=>by show (dv (wkAt _ k).dq).nx=_;rw[hdq];rfl) (fun j=>JJ q _ _) (fun j=>JJ q _ _)
 ·unfold CNT;rw[cnt_zero,cnt_zero]
  ·rfl
  ·intro i _;have:chW (aRC q (mk0 q M inp) (mkM q M inp).l) i=0:=by unfold chW;have e:=hst i;have e':(aRC q (mk0 q M inp) (mkM q M inp).l).st i=if i=0 then 4 else 0:=e;rw[e',if_neg (by split<;>decide)]
   show chW (aRC q (mk0 q M inp) (mkM q M inp).l) i≠p;rw[this];exact fun e=>hp e.symm
  ·intro i _;show chF (aRC q (mk0 q M inp) (mkM q M inp).l) P1 ((i:Int)+1)≠p;unfold chF;split
   ·rename_i c
    have e1:(i:Int)+1=1:=by
     by_cases e:(i:Int)+1=1
     ·exact e
     ·exact absurd (if_neg e) c.1
    rw[e1,hfr1];exact fun e=>hp e.symm
   ·exact fun e=>hp e.symm
 ·have:id=1:=by
   by_cases e:id=1
   ·exact e
   ·exact absurd (if_neg e) hid
  omega
 ·have:=hs4 k w hw;unfold atSt at ha;rcases this with e|e<;>(rw[e] at ha;simp at ha)
 ·exact QL (s:=w.state) (by have:=hs4 k w hw;omega)
 ·show 0≤lw q (mk0 q M inp).ws (.d j 3)∧lw q (mk0 q M inp).ws (.d j 3)≤lw q (mk0 q M inp).ws (.d j 2)∧lw q (mk0 q M inp).ws (.d j 2)≤0;have e1:∀i,lw q (mk0 q M inp).ws (.d j i)=0:=fun i=>by rw[hmk];show lw q (newW q (cs0 q M inp).ws 1) (.d j i)=0;rw[lw_new hq hws hi];exact JJ q _ _
  rw[e1,e1];omega
end Go.Proofs.YtelibaobkcokdaaGreat.Mx.In
namespace Go.Proofs.YtelibaobkcokdaaGreat
open Go Go.Kx Go.Proofs
set_option linter.unusedVariables false
set_option maxRecDepth 100000
set_option maxHeartbeats 16000000
noncomputable def Q25:=qG Tryz.prog 8
end Go.Proofs.YtelibaobkcokdaaGreat
namespace Go.Proofs.YtelibaobkcokdaaGreat.Mx.In
set_option linter.unusedVariables false
set_option linter.unusedSimpArgs false
open Go Go.Kx Go.Proofs Go.Proofs.YtelibaobkcokdaaGreat Go.Proofs.YtelibaobkcokdaaGreat.Mx
set_option linter.unusedSectionVars false
theorem DQI.tlL {D:Int} {sI:Int→Int} {W:Nat} {r:DR} {P:Int→Pc} {H T:Nat→Int} {cl:Nat→Nat} (h:DQI D sI W r P H T cl):∀j,j < W→T j - 1≤r.tl j:=by
 have a0:=h.o2;have a1:=h.q0;have a2:=h.q1;have a3:=h.q3;have a4:=h.q4;intro j hj;by_cases c:r.st j=2
 ·obtain ⟨_,b⟩:=a1 j hj c;cases e:(r.dq j).nx<;>rw[e] at b<;>first|(cases b;done)|grind
 ·grind
theorem IT.words {q:Pm} {m:Mc} {n:Int} (h:IT q m n) (hn:n≤100000):∀j:Nat,j < m.l.length→(-1≤ldW m.c.ws (q.base (j:Nat))∧ldW m.c.ws (q.base (j:Nat))≤1000000)∧-1≤ldW m.c.ws (q.base (j:Nat)+1)∧ldW m.c.ws (q.base (j:Nat)+1)≤900000:=by
 obtain ⟨⟨P,H,T,cl,cn,rg,pc,g,hT,_⟩,_⟩:=h;intro j hj;have hjW:(j:Int) < q.W:=by have:=g.ln;omega
 have a1:=g.dq.rg j hj;have a2:=g.dq.hdH j hj;have a3:=g.dq.tlT j hj;have a4:=g.dq.tlL j hj;have a5:=hT j;rw[hd_ld g hjW] at a2;rw[tl_ld g hjW] at a3 a4;omega
end Go.Proofs.YtelibaobkcokdaaGreat.Mx.In
namespace Go.Proofs.YtelibaobkcokdaaGreat.Mx
set_option linter.unusedVariables false
set_option linter.unusedSimpArgs false
open Go Go.Kx Go.Proofs Go.Proofs.YtelibaobkcokdaaGreat
set_option maxRecDepth 8000
set_option maxHeartbeats 16000000 in
theorem AuditRuns_a (x:Int×List (List Ix)) (inp:List Int) (y:Pm) (sc:List (Int×Int)) (hx:x.2.length≤9223372036854775807):FnP Tryz.prog 8 [.agg (Go.Proofs.YtelibaobkcokdaaGreat.aPr x.1 x.2),aInts inp,.agg (aPr y),aPxs sc] fun a=>a=aBool true:=by
 obtain ⟨m0,fs⟩:=x;simp only at hx ⊢;obtain ⟨q,hqf,hqy⟩:∃q:Pm,q.fs=fs∧aPr y=aPr q:=⟨{ y with fs:=fs },rfl,rfl⟩;subst hqf;rw[hqy];refine ⟨by simp[AV.pureL,AV.pure,Go.Proofs.YtelibaobkcokdaaGreat.Zy,Y17,Q67,aPxs_pure],FnG.fz ?_⟩;refine Y92 Q25.2 mixed rfl ?_;simp only[Q25,qG];have hac:(AV.agg (Go.Proofs.YtelibaobkcokdaaGreat.aPr m0 q.fs)).cells=Go.Proofs.YtelibaobkcokdaaGreat.aPr m0 q.fs:=rfl;have haq:(AV.agg (aPr q)).cells=aPr q:=rfl;have c2:cellsA (some 2) (Go.Proofs.YtelibaobkcokdaaGreat.aPr m0 q.fs)=some (.agg (Go.Proofs.YtelibaobkcokdaaGreat.aPr m0 q.fs)):=rfl;have c7:cellsA (some 7) (aPr q)=some (.agg (aPr q)):=rfl;have x7:(AV.agg (aPr q)).exact=true:=rfl;have hII:aInts inp=.sl inp.length (inp.map aInt) .none:=rfl;refine Qb (fun ε σ=>(ε 1=aInts inp∧ε 3=aPxs sc∧ε 4=.ep (Go.Proofs.YtelibaobkcokdaaGreat.aPr m0 q.fs)∧ε 6=.ep (aPr q))∧σ=[]) ?_ ?_
 ·intro N X R hN;simp (maxSteps:=999999) -implicitDefEqProofs (disch:=omega) only[push_cast,↓reduceIte,Nat.reduceEqDiff,reduceCtorEq,wz];refine Q6 ?_;simp (maxSteps:=999999) -implicitDefEqProofs (disch:=omega) only[push_cast,↓reduceIte,Nat.reduceEqDiff,reduceCtorEq,wz,hac];refine Q6 ?_;simp (maxSteps:=999999) -implicitDefEqProofs (disch:=omega) only[push_cast,↓reduceIte,Nat.reduceEqDiff,reduceCtorEq,wz,haq];exact hN _ _ ⟨by simp (maxSteps:=999999) -implicitDefEqProofs (disch:=omega) only[push_cast,↓reduceIte,Nat.reduceEqDiff,reduceCtorEq,wz],rfl⟩
 rintro ε σ ⟨hρ,rfl⟩;refine Qv (fun ε σ=>(ε 1=aInts inp∧ε 3=aPxs sc∧ε 4=.ep (Go.Proofs.YtelibaobkcokdaaGreat.aPr m0 q.fs)∧ε 6=.ep (aPr q))∧σ=[]) ?_ ?_
 ·intro N hN;simp (maxSteps:=999999) -implicitDefEqProofs (disch:=omega) only[push_cast,↓reduceIte,Nat.reduceEqDiff,reduceCtorEq,wz,hρ];refine Q5 JH ?_;simp (maxSteps:=999999) -implicitDefEqProofs (disch:=omega) only[push_cast,↓reduceIte,Nat.reduceEqDiff,reduceCtorEq,wz,hρ,aBool];refine Q5 Jr ?_;simp (maxSteps:=999999) -implicitDefEqProofs (disch:=omega) only[push_cast,↓reduceIte,Nat.reduceEqDiff,reduceCtorEq,wz,aBool];exact hN _ _ ⟨by simp (maxSteps:=999999) -implicitDefEqProofs (disch:=omega) only[push_cast,↓reduceIte,Nat.reduceEqDiff,reduceCtorEq,wz,hρ],rfl⟩
 clear hρ ε;rintro ε σ ⟨hρ,rfl⟩;refine Qv (fun ε σ=>(ε 1=aInts inp∧ε 3=aPxs sc∧ε 4=.ep (Go.Proofs.YtelibaobkcokdaaGreat.aPr m0 q.fs)∧ε 6=.ep (aPr q))∧σ=[]∧okF q.fs∧inp.length≤1000∧sc.length≤20000∧sc.length≤3000) ?_ ?_
 ·intro N hN;simp (maxSteps:=999999) -implicitDefEqProofs (disch:=omega) only[push_cast,↓reduceIte,Nat.reduceEqDiff,reduceCtorEq,wz,hρ,c2,c7];refine Qw (Jy m0 q.fs hx inp q sc) ?_;rintro a ⟨b,rfl,hb⟩
  cases b with
  | true=>simp (maxSteps:=999999) -implicitDefEqProofs (disch:=omega) only[push_cast,↓reduceIte,Nat.reduceEqDiff,reduceCtorEq,wz,aBool];exact oo
  | false=>
   obtain ⟨hf,h1,h2⟩:=hb rfl;by_cases cl:3000 < sc.length
   ·simp (maxSteps:=999999) -implicitDefEqProofs (disch:=omega) only[push_cast,↓reduceIte,Nat.reduceEqDiff,reduceCtorEq,wz,aBool,hρ,show aPxs sc=.sl sc.length (sc.flatMap aPx) .none from rfl,cl];exact oo
   ·simp (maxSteps:=999999) -implicitDefEqProofs (disch:=omega) only[push_cast,↓reduceIte,Nat.reduceEqDiff,reduceCtorEq,wz,aBool,hρ,show aPxs sc=.sl sc.length (sc.flatMap aPx) .none from rfl,cl];exact hN _ _ ⟨by simp (maxSteps:=999999) -implicitDefEqProofs (disch:=omega) only[push_cast,↓reduceIte,Nat.reduceEqDiff,reduceCtorEq,wz,hρ],rfl,hf,h1,h2,by omega⟩
 clear hρ ε hx;rintro ε σ ⟨hρ,rfl,hf,hi,hsc,hal⟩;have hsrc:∀σ:Kx.St,srcA σ 1 (aInts inp)=some (inp.length,inp.map aInt):=fun _=>rfl;have h1:(inp.map aInt).all AV.one=true:=by rw[List.all_map];exact List.all_eq_true.2 fun x _=>rfl
 have hOwn:=Y31 m0 q.fs hf;by_cases he:coreE m0 q.fs inp q=0
 rotate_left
 ·simp (maxSteps:=999999) -implicitDefEqProofs (disch:=omega) only[push_cast,↓reduceIte,Nat.reduceEqDiff,reduceCtorEq,wz,hρ,c2,c7,x7];refine both2 ?_ ?_
  ·refine Q5 hOwn ?_;simp (maxSteps:=999999) -implicitDefEqProofs (disch:=omega) only[push_cast,↓reduceIte,Nat.reduceEqDiff,reduceCtorEq,wz,hρ,c2,c7,x7];refine Qp (sz:=1) ki ki ?_;simp (maxSteps:=999999) -implicitDefEqProofs (disch:=omega) only[push_cast,↓reduceIte,Nat.reduceEqDiff,reduceCtorEq,wz,hρ,c2,c7,x7];refine QP (n:=0) (cs:=[]) (m:=inp.length) rfl (hsrc _) ki h1 rfl ke ke ?_;simp (maxSteps:=999999) -implicitDefEqProofs (disch:=omega) only[push_cast,↓reduceIte,Nat.reduceEqDiff,reduceCtorEq,wz,hρ,c2,c7,x7];refine Q0 (X51 m0 q hf inp he _) ?_;rintro a σ' ⟨rfl,hs⟩;rw[hs];clear hs σ';simp (maxSteps:=999999) -implicitDefEqProofs (disch:=omega) only[push_cast,↓reduceIte,Nat.reduceEqDiff,reduceCtorEq,wz,hρ,aInt,he];exact oo
  ·refine Qp (sz:=1) ki ki ?_;simp (maxSteps:=999999) -implicitDefEqProofs (disch:=omega) only[push_cast,↓reduceIte,Nat.reduceEqDiff,reduceCtorEq,wz,hρ,c2,c7,x7];refine Q5 hOwn ?_;simp (maxSteps:=999999) -implicitDefEqProofs (disch:=omega) only[push_cast,↓reduceIte,Nat.reduceEqDiff,reduceCtorEq,wz,hρ,c2,c7,x7];refine QP (n:=0) (cs:=[]) (m:=inp.length) rfl (hsrc _) ki h1 rfl ke ke ?_;simp (maxSteps:=999999) -implicitDefEqProofs (disch:=omega) only[push_cast,↓reduceIte,Nat.reduceEqDiff,reduceCtorEq,wz,hρ,c2,c7,x7];refine Q0 (X51 m0 q hf inp he _) ?_;rintro a σ' ⟨rfl,hs⟩;rw[hs];clear hs σ';simp (maxSteps:=999999) -implicitDefEqProofs (disch:=omega) only[push_cast,↓reduceIte,Nat.reduceEqDiff,reduceCtorEq,wz,hρ,aInt,he];exact oo
 obtain ⟨M,rfl⟩:∃M:Nat,m0=M:=⟨m0.toNat,by have:=coreE_m he;omega⟩;refine Qb (fun ε σ'=>∃jm,(ε 9=.ref jm 0 0∧ε 10=.v (.int .i64 0)∧ε 3=aPxs sc)∧∃pl,MaR [] jm q pl σ' (mkM q M inp) 0) ?_ ?_
 ·intro N X R hN;simp (maxSteps:=999999) -implicitDefEqProofs (disch:=omega) only[push_cast,↓reduceIte,Nat.reduceEqDiff,reduceCtorEq,wz,hρ,c2,c7,x7];refine both2 ?_ ?_
  ·refine Q5 hOwn ?_;simp (maxSteps:=999999) -implicitDefEqProofs (disch:=omega) only[push_cast,↓reduceIte,Nat.reduceEqDiff,reduceCtorEq,wz,hρ,c2,c7,x7];refine Qp (sz:=1) ki ki ?_;simp (maxSteps:=999999) -implicitDefEqProofs (disch:=omega) only[push_cast,↓reduceIte,Nat.reduceEqDiff,reduceCtorEq,wz,hρ,c2,c7,x7];refine QP (n:=0) (cs:=[]) (m:=inp.length) rfl (hsrc _) ki h1 rfl ke ke ?_;simp (maxSteps:=999999) -implicitDefEqProofs (disch:=omega) only[push_cast,↓reduceIte,Nat.reduceEqDiff,reduceCtorEq,wz,hρ,c2,c7,x7];refine Q0 (Z99 M q hf inp he []) ?_;rintro a σ' ⟨jm,rfl,pl,h⟩;simp (maxSteps:=999999) -implicitDefEqProofs (disch:=omega) only[push_cast,↓reduceIte,Nat.reduceEqDiff,reduceCtorEq,wz,hρ,aInt];exact hN _ _ ⟨jm,by simp (maxSteps:=999999) -implicitDefEqProofs (disch:=omega) only[push_cast,↓reduceIte,Nat.reduceEqDiff,reduceCtorEq,wz,hρ],pl,h⟩
  ·refine Qp (sz:=1) ki ki ?_;simp (maxSteps:=999999) -implicitDefEqProofs (disch:=omega) only[push_cast,↓reduceIte,Nat.reduceEqDiff,reduceCtorEq,wz,hρ,c2,c7,x7];refine Q5 hOwn ?_;simp (maxSteps:=999999) -implicitDefEqProofs (disch:=omega) only[push_cast,↓reduceIte,Nat.reduceEqDiff,reduceCtorEq,wz,hρ,c2,c7,x7];refine QP (n:=0) (cs:=[]) (m:=inp.length) rfl (hsrc _) ki h1 rfl ke ke ?_;simp (maxSteps:=999999) -implicitDefEqProofs (disch:=omega) only[push_cast,↓reduceIte,Nat.reduceEqDiff,reduceCtorEq,wz,hρ,c2,c7,x7];refine Q0 (Z99 M q hf inp he []) ?_;rintro a σ' ⟨jm,rfl,pl,h⟩;simp (maxSteps:=999999) -implicitDefEqProofs (disch:=omega) only[push_cast,↓reduceIte,Nat.reduceEqDiff,reduceCtorEq,wz,hρ,aInt];exact hN _ _ ⟨jm,by simp (maxSteps:=999999) -implicitDefEqProofs (disch:=omega) only[push_cast,↓reduceIte,Nat.reduceEqDiff,reduceCtorEq,wz,hρ],pl,h⟩
 clear hρ ε;rintro ε σ ⟨jm,hρ,pl,h⟩;have hok:=h.ma.mm.sd.ok;refine Qv (fun ε σ'=>(ε 9=.ref jm 0 0∧ε 3=aPxs sc)∧σ'=σ) ?_ ?_
 ·intro N hN;simp (maxSteps:=999999) -implicitDefEqProofs (disch:=omega) only[push_cast,↓reduceIte,Nat.reduceEqDiff,reduceCtorEq,wz,hρ];exact hN _ _ ⟨by simp (maxSteps:=999999) -implicitDefEqProofs (disch:=omega) only[push_cast,↓reduceIte,Nat.reduceEqDiff,reduceCtorEq,wz,hρ],rfl⟩
 clear hρ ε;rintro ε σ' ⟨hρ,e⟩;rw[e];clear e σ';have hPP:aPxs sc=.sl sc.length (sc.flatMap aPx) .none:=rfl;refine Qb (fun ε σ=>True) ?_ ?_
 ·intro N X R hN;simp (maxSteps:=999999) -implicitDefEqProofs (disch:=omega) only[push_cast,↓reduceIte,Nat.reduceEqDiff,reduceCtorEq,wz,hρ]
  refine Y88 (α:=Nat) (I:=fun k ε σ=>∃pl m,∃n:Nat,(ε 9=.ref jm 0 0∧ε 3=aPxs sc∧ε 11=.v (.int .i64 k))∧(k≤sc.length∧n≤k)∧MaR [] jm q pl σ m k∧Cnt q m n∧In.IT q m n)
   (μ:=fun k=>sc.length - k) (Q:=fun ε σ=>True) (x:=0) ?_ ?_ (fun ε σ _=>hN _ _ trivial)
  ·exact ⟨pl,mkM q M inp,0,by simp (maxSteps:=999999) -implicitDefEqProofs (disch:=omega) only[push_cast,↓reduceIte,Nat.reduceEqDiff,reduceCtorEq,wz,hρ],by omega,h,mkM_cnt hok M inp,In.mkM_IT hok M inp⟩
  ·clear hN N X R hρ ε h pl σ;rintro k ε σ N E X R ⟨pl,m,n,hρ,hk,h,hC,hI⟩ hN hE;by_cases hlt:k < sc.length
   ·obtain ⟨o,ho⟩:=Q14 hlt;have hd:=QQ aPx_len ho;have hnn:=hC.nn;simp (maxSteps:=999999) -implicitDefEqProofs (disch:=omega) only[push_cast,↓reduceIte,Nat.reduceEqDiff,reduceCtorEq,wz,hρ,hPP,hd,c2k];refine Q0 (X16 h ke o.1 o.2) ?_;rintro a σ' ⟨rfl,pl',h'⟩;simp (maxSteps:=999999) -implicitDefEqProofs (disch:=omega) only[push_cast,↓reduceIte,Nat.reduceEqDiff,reduceCtorEq,wz,hρ]
    have key:∃n':Nat,n'≤k+1∧Cnt q (m.step q o.1 o.2) n'∧In.IT q (m.step q o.1 o.2) n':=by
     cases c:m.ended with
     | true=>rw[step_end c];exact ⟨n,by omega,hC,hI⟩
     | false=>exact ⟨n+1,by omega,hC.step (by have:=hok.1;omega) c o.1 o.2,hI.step hC h.ok c ke o.1 o.2⟩
    obtain ⟨n',hn',hC',hI'⟩:=key;refine Q0 (JI h'.ma (hI'.words ke)) ?_;rintro a σ' ⟨rfl,hs⟩;rw[hs,hI'.look];clear hs σ';simp (maxSteps:=999999) -implicitDefEqProofs (disch:=omega) only[push_cast,↓reduceIte,Nat.reduceEqDiff,reduceCtorEq,wz,hρ,aInt];exact hN (k+1) _ _ ⟨pl',_,n',by simp (maxSteps:=999999) -implicitDefEqProofs (disch:=omega) only[push_cast,↓reduceIte,Nat.reduceEqDiff,reduceCtorEq,wz,hρ,hPP],by omega,h',hC',hI'⟩ ke
   ·simp (maxSteps:=999999) -implicitDefEqProofs (disch:=omega) only[push_cast,↓reduceIte,Nat.reduceEqDiff,reduceCtorEq,wz,hρ,hPP];exact hE _ _ trivial
 clear hρ ε;rintro ε σ _;simp (maxSteps:=999999) -implicitDefEqProofs (disch:=omega) only[push_cast,↓reduceIte,Nat.reduceEqDiff,reduceCtorEq,wz];exact oo
end Go.Proofs.YtelibaobkcokdaaGreat.Mx
namespace Go.Proofs.YtelibaobkcokdaaGreat
set_option linter.unusedVariables false
set_option linter.unusedSimpArgs false
open Go Go.Kx Go.Proofs
def shIx:Sh:=.st (.fcons 1 shN (.fcons 1 shN (.fcons 1 shN (.fcons 1 shN .fnil))))
theorem shIx_read {c:List AV} (h:Enc shIx c):∃x:Ix,c=aIx x:=by simp only[shIx,Enc] at h;obtain ⟨x,y,rfl,_,hx,x2,y2,rfl,_,hy,x3,y3,rfl,_,hz,x4,y4,rfl,_,hw,rfl⟩:=h;obtain ⟨n,rfl,_⟩:=Q27 hx;obtain ⟨m,rfl,_⟩:=Q27 hy;obtain ⟨k,rfl,_⟩:=Q27 hz;obtain ⟨j,rfl,_⟩:=Q27 hw;exact ⟨⟨n,m,k,j⟩,rfl⟩
def shIxs:Sh:=.sl 4 shIx
theorem shIxs_read {cs:List AV} (h:Enc shIxs cs):∃l:List Ix,cs=[aIxs l]:=by obtain ⟨l,h,_⟩:=enc_sl (f:=aIx) (fun _ hc=>shIx_read hc) h;exact ⟨l,h⟩
def shPr:Sh:=.st (.fcons 1 shN (.fcons 1 (.sl 1 shIxs) .fnil))
theorem shPr_read {cs:List AV} (h:Enc shPr cs):∃x:Int×List (List Ix),cs=aPr x.1 x.2∧x.2.length≤9223372036854775807:=by simp only[shPr,Enc] at h;obtain ⟨x,y,rfl,_,hx,x2,y2,rfl,_,hy,rfl⟩:=h;obtain ⟨n,rfl,_⟩:=Q27 hx;obtain ⟨l,rfl,hl⟩:=enc_sl1 (f:=aIxs) (fun _ hc=>shIxs_read hc) (show Enc (.sl 1 shIxs) x2 from hy);exact ⟨(n,l),rfl,hl⟩
theorem shIx_ok:ShOk Tryz.prog shIx 126:=⟨_,Tryz.underlying126,rfl,by kernel_rfl,Tryz.underlying3,rfl,by kernel_rfl,Tryz.underlying3,rfl,by kernel_rfl,Tryz.underlying3,rfl,by kernel_rfl,Tryz.underlying3,(by show 0+1+1+1+1=Tryz.prog.cellsOf 126;kernel_rfl)⟩
theorem shIxs_ok:ShOk Tryz.prog shIxs 106:=⟨126,Tryz.underlying106,by kernel_rfl,by omega,shIx_ok⟩
theorem shPr_ok:ShOk Tryz.prog shPr 33:=⟨_,Tryz.underlying33,rfl,by kernel_rfl,Tryz.underlying3,rfl,by kernel_rfl,⟨106,Tryz.underlying31,by kernel_rfl,by omega,shIxs_ok⟩,(by show 0+1+1=Tryz.prog.cellsOf 33;kernel_rfl)⟩
theorem rel_agg {G:Gh} {cs:List AV} {xs:Array Value} (h:RelL G cs xs.toList):RelV G (.agg cs) (.agg xs):=RelV.agg cs xs.toList h.1 h.2
end Go.Proofs.YtelibaobkcokdaaGreat
namespace Go.Proofs.YtelibaobkcokdaaGreat.Mx
set_option linter.unusedVariables false
set_option linter.unusedSimpArgs false
open Go Go.Kx Go.Proofs Go.Proofs.YtelibaobkcokdaaGreat
set_option maxRecDepth 8000
def shB:Sh:=.bool
theorem shB_read {c:List AV} (h:Enc shB c):∃b:Bool,c=[.v (.bool b)]:=h
def shPa:Sh:=.st (.fcons 1 shN (.fcons 1 shN (.fcons 1 shN (.fcons 1 shN (.fcons 1 shN (.fcons 1 shB (.fcons 1 shB .fnil)))))))
theorem shPa_read {c:List AV} (h:Enc shPa c):∃x:Pm,c=aPr x∧True:=by simp only[shPa,Enc] at h;obtain ⟨x,y,rfl,_,hx,x2,y2,rfl,_,hx2,x3,y3,rfl,_,hx3,x4,y4,rfl,_,hx4,x5,y5,rfl,_,hx5,x6,y6,rfl,_,hx6,x7,y7,rfl,_,hx7,rfl⟩:=h;obtain ⟨a,rfl,_⟩:=Q27 hx;obtain ⟨b,rfl,_⟩:=Q27 hx2;obtain ⟨c,rfl,_⟩:=Q27 hx3;obtain ⟨d,rfl,_⟩:=Q27 hx4;obtain ⟨e,rfl,_⟩:=Q27 hx5;obtain ⟨f,rfl⟩:=shB_read hx6;obtain ⟨g,rfl⟩:=shB_read hx7;exact ⟨⟨a,b,c,d,e,f,g,[]⟩,rfl,trivial⟩
theorem shPa_ok:ShOk Tryz.prog shPa 36:=⟨_,Tryz.underlying36,rfl,by kernel_rfl,Tryz.underlying3,rfl,by kernel_rfl,Tryz.underlying3,rfl,by kernel_rfl,Tryz.underlying3,rfl,by kernel_rfl,Tryz.underlying3,rfl,by kernel_rfl,Tryz.underlying3,rfl,by kernel_rfl,Tryz.underlying4,rfl,by kernel_rfl,Tryz.underlying4,(by show 0+1+1+1+1+1+1+1=Tryz.prog.cellsOf 36;kernel_rfl)⟩
def shPx:Sh:=.st (.fcons 1 shN (.fcons 1 shN .fnil))
theorem shPx_read {c:List AV} (h:Enc shPx c):∃x:Int×Int,c=aPx x:=by simp only[shPx,Enc] at h;obtain ⟨x,y,rfl,_,hx,x2,y2,rfl,_,hx2,rfl⟩:=h;obtain ⟨a,rfl,_⟩:=Q27 hx;obtain ⟨b,rfl,_⟩:=Q27 hx2;exact ⟨(a,b),rfl⟩
def shPxs:Sh:=.sl 2 shPx
theorem shPxs_read {cs:List AV} (h:Enc shPxs cs):∃l:List (Int×Int),cs=[aPxs l]∧l.length≤9223372036854775807:=enc_sl (f:=aPx) (fun _ hc=>shPx_read hc) h
theorem shPxs_ok:ShOk Tryz.prog shPxs 37:=⟨46,Tryz.underlying37,by kernel_rfl,by omega,_,Tryz.underlying46,rfl,by kernel_rfl,Tryz.underlying3,rfl,by kernel_rfl,Tryz.underlying3,(by show 0+1+1=Tryz.prog.cellsOf 46;kernel_rfl)⟩
end Go.Proofs.YtelibaobkcokdaaGreat.Mx
namespace Go.Proofs.YtelibaobkcokdaaGreat.Mx
set_option linter.unusedVariables false
set_option linter.unusedSimpArgs false
open Go Go.Kx Go.Proofs Go.Proofs.YtelibaobkcokdaaGreat
theorem AuditRuns_w (x:Int×List (List Ix)) (inp:List Int) (y:Pm) (sc:List (Int×Int)) (h0:x.2.length≤9223372036854775807) (_:inp.length≤9223372036854775807) (_:True) (_:sc.length≤9223372036854775807):FnP Tryz.prog 8 [.agg (Go.Proofs.YtelibaobkcokdaaGreat.aPr x.1 x.2),aInts inp,.agg (aPr y),aPxs sc] fun a=>a=aBool true:=AuditRuns_a x inp y sc h0
end Go.Proofs.YtelibaobkcokdaaGreat.Mx
