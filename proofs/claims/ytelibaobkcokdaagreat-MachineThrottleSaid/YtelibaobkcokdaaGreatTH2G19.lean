/- The machine: what is emitted, noted, made. -/
import Derived.Test.YtelibaobkcokdaaGreatTH2G18
namespace Go.Proofs.YtelibaobkcokdaaGreat.Mx
set_option linter.unusedSectionVars false
set_option linter.unusedVariables false
set_option linter.unusedSimpArgs false
open Go Go.Kx Go.Proofs Go.Proofs.YtelibaobkcokdaaGreat
set_option maxRecDepth 8000
section
variable {q:Pm} {pl:Pl} {σ:Kx.St} {L:List Wk} {s:Cs}
theorem Y01 (h:MM q pl σ L s) (n:Int):FnG Tryz.prog 158 [.ref (pl.p .so) 0 0,.v (.int .i64 n)] σ fun a σ'=>
  match emitC q s n with
  | none=>a=aBool false∧σ'=σ
  | some s'=>a=aBool true∧Out q pl σ σ' L s':=by
 refine Q3 Xf.2 mixed rfl ?_;simp only[Xf,qH];have hs:=h.at_ .so _ rfl;have hol:=h.sd.ol;obtain ⟨_,_,_,_,⟨o1,o2⟩⟩:=h.sd.ok;by_cases c:q.O≤s.out.length
 ·have e:emitC q s n=none:=if_pos c;rw[e];push_cast[hs,c,aBool];exact trivial
 ·have e:emitC q s n=some { s with out:=s.out++[n] }:=if_neg c;rw[e];push_cast[hs,c,aBool];refine QA (sz:=1) oG ke ?_;push_cast
  cases hv:pl.ov with
  | none=>have ho:=h.sd.o0.1 hv;have hM:=h.emit0 n ka hv;simp only[ho,List.length_nil,List.map_nil,tokT,Nat.zero_add,List.nil_append] at hM ⊢;refine Yo (m:=1) (news:=[.v (.int .i64 n)]) rfl rfl rfl rfl ko ko ?_;push_cast;have hs2:=Qn (τ:=[Res.tail 1]) hs;refine Q9 rfl rfl hs2 ke ?_;push_cast[aBool];exact ⟨_,hM⟩
  | some v=>have hM:=h.emit1 n ka hv;have hlo:=h.at_ .ot (.tail v) (by simp[img,hv]);have hne:=h.ne (a:=.ot) (b:=.so) (by simp[img,hv]) rfl ko;simp only[tokT];refine X44 (m:=1) (news:=[.v (.int .i64 n)]) rfl rfl rfl rfl ke ka ka hlo ?_;push_cast;refine Q9 rfl rfl (Qa hne hs) ke ?_;push_cast[aBool];exact ⟨_,hM⟩
theorem log_Note_a (h:MM q pl σ L s) (hb:s.log.length≤1000000000) (e:Vt):FnG Tryz.prog 148 [.ref (pl.p .lo) 0 0,.agg (aVt e)] σ fun _ σ'=>Out q pl σ σ' L (s.note e):=by
 refine Q3 XY.2 mixed rfl ?_;simp only[XY,qH];have hs:=h.at_ .lo _ rfl;have hac:(AV.agg (aVt e)).cells=aVt e:=rfl;have c4:cellsA (some 4) (aVt e)=some (.agg (aVt e)):=rfl;have hfl:=Q36 YX s.log;push_cast;refine Q6 ?_;push_cast[hs,hac,c4];refine QA (sz:=4) oG ke ?_
 cases hv:pl.lv with
 | none=>have ho:=h.sd.l0.1 hv;have hM:=h.note0 e hv;simp only[ho,List.length_nil,List.flatMap_nil,tokT,Nat.zero_add,List.nil_append,hv] at hM hs ⊢;push_cast[hs,hac,List.append_nil];refine ⟨rfl,?_⟩;refine Yo (m:=1) (news:=aVt e) rfl rfl rfl rfl ko ko ?_;push_cast;have hs2:=Qn (τ:=[Res.tail 1]) hs;refine Q9 rfl rfl hs2 ke ?_;push_cast;have e2:s.note e={ s with log:=s.log++[e] }:=rfl;rw[e2,ho];exact ⟨_,hM⟩
 | some v=>have hM:=h.note1 e hv;have hlo:=h.at_ .lt (.tail v) (by simp[img,hv]);have hne:=h.ne (a:=.lt) (b:=.lo) (by simp[img,hv]) rfl ko;simp only[tokT,hv] at hs ⊢;push_cast[hs,hac,List.append_nil];refine ⟨rfl,?_⟩;refine X44 (m:=1) (news:=aVt e) rfl rfl rfl rfl hfl ka ka hlo ?_;push_cast;refine Q9 rfl rfl (Qa hne hs) ke ?_;push_cast;exact ⟨_,hM⟩
theorem take_eq (s:Cs):s.take=(takeF2 s.held s.back s.fresh s.peak).map fun x=>(x.1,{ s with held:=x.2.1,back:=x.2.2.1,fresh:=x.2.2.2.1,peak:=x.2.2.2.2 }):=by
 have e:s.nextId=nextF2 s.held s.back s.fresh:=rfl;unfold Cs.take takeF2;rw[e]
 cases nextF2 s.held s.back s.fresh with
 | none=>rfl
 | some x=>rfl
theorem MM.took (h:MM q pl σ L s) {id:Int} {l:List Bool} {b:List Int} {f p:Int} (e:takeF2 s.held s.back s.fresh s.peak=some (id,l,b,f,p)):
  MM q pl ((σ.set (pl.p .hl) (.obj 0 (l.map aBool))).set (pl.p .ar) (.obj 0 (aAr (pl.p .hl) l (aBk (bgOf pl) b) f p))) L { s with held:=l,back:=b,fresh:=f,peak:=p }∧0≤id∧id < s.held.length∧l=s.held.set id.toNat true:=by
 unfold takeF2 at e
 cases e2:nextF2 s.held s.back s.fresh with
 | none=>rw[e2] at e;cases e
 | some x=>
  obtain ⟨i,b2,f2⟩:=x;rw[e2] at e;simp only[Option.some.injEq,Prod.mk.injEq] at e;obtain ⟨rfl,rfl,rfl,rfl,rfl⟩:=e;have ⟨i0,i1,i2,i3,i4,i5⟩:=next_in h.sd.ib h.sd.f0 e2;have hf:=h.sd.f0;have hfr:=h.sd.fr;have hhl:=h.sd.hl;obtain ⟨_,_,⟨f1',f2'⟩,_⟩:=h.sd.ok
  have hf3:f2≤1000000:=by
   unfold nextF2 at e2;split at e2
   ·simp only[Option.some.injEq,Prod.mk.injEq] at e2;omega
   ·split at e2
    ·cases e2
    ·simp only[Option.some.injEq,Prod.mk.injEq] at e2;omega
  have hbk:match pl.bg with|none=>b2=[]|some (_,cs)=>b2.length≤cs.length∧cs.take b2.length=b2.map aInt:=by
   have h0:=h.sd.bk
   have hb2:b2=s.back.dropLast:=by
    unfold nextF2 at e2;split at e2
    ·simp only[Option.some.injEq,Prod.mk.injEq] at e2;exact e2.2.1.symm
    ·rename_i hn;split at e2
     ·cases e2
     ·simp only[Option.some.injEq,Prod.mk.injEq] at e2;rw[List.getLast?_eq_none_iff] at hn;rw[←e2.2.1,hn];rfl
   cases hb:pl.bg with
   | none=>rw[hb] at h0;rw[hb2,h0];rfl
   | some y=>obtain ⟨v,cs⟩:=y;rw[hb] at h0;refine ⟨by omega,?_⟩;rw[hb2,List.dropLast_eq_take,List.map_take,←h0.2,List.length_take,List.take_take]
  have h1:MM q pl (σ.set (pl.p .hl) (.obj 0 ((s.held.set i.toNat true).map aBool))) L { s with held:=s.held.set i.toNat true }:=
   h.upd1 rfl rfl rfl (fun ro hro=>by cases ro<;>first|exact absurd rfl hro|rfl|(simp only[img,aAr,List.length_set])) ⟨h.sd.ok,h.sd.ws,h.sd.fr,by simp only[List.length_set];exact h.sd.hl,h.sd.rg,h.sd.bk,by simp only[List.length_set];exact h.sd.ib,h.sd.f0,h.sd.o0,h.sd.l0,h.sd.ol,h.sd.dt,h.sd.dq,h.sd.fs⟩
  refine ⟨h1.upd1 rfl rfl rfl (fun ro hro=>by cases ro<;>first|exact absurd rfl hro|rfl) ⟨h.sd.ok,h.sd.ws,h.sd.fr,by simp only[List.length_set];exact h.sd.hl,h.sd.rg,hbk,by simp only[List.length_set];exact i2,⟨i3,hf3⟩,h.sd.o0,h.sd.l0,h.sd.ol,h.sd.dt,h.sd.dq,h.sd.fs⟩,i0,i1,rfl⟩
theorem X96 (h:MM q pl σ L s) (hb:s.back.length≤1000000000) (f:Fm) (hr:f.regs.length=8):FnG Tryz.prog 87 [.ref (pl.p .t) 0 0,.agg (aFm f)] σ fun a σ'=>
  match s.make q f with
  | none=>a=.tup [aInt 0,aBool false]∧σ'=σ
  | some (id,s')=>a=.tup [aInt id,aBool true]∧Out q pl σ σ' L s':=by
 refine Q3 Z30.2 mixed rfl ?_;simp only[Z30,qH];have hT:=h.tb;have hA:=h.arena;have hq:=h.sd.ok;push_cast (disch:=omega);refine Q6 ?_;push_cast (disch:=omega)[hT];refine Q0 (arena_Take_a hA hb) ?_;intro a σ' H;have emk:s.make q f=match s.take with|none=>none|some (id,s)=>some (id,{ s with fr:=s.fr.set id.toNat f,ws:=fillW (fillW s.ws (q.frame id) q.room 0) (q.frame id) 1 1 }):=rfl
 rw[take_eq] at emk
 cases e:takeF2 s.held s.back s.fresh s.peak with
 | none=>rw[e] at H emk;simp only[Option.map_none] at emk;obtain ⟨rfl,hs⟩:=H;rw[hs,emk];push_cast (disch:=omega)[aInt,aBool];exact trivial
 | some x=>
  obtain ⟨id,l,b,fr,p⟩:=x;rw[e] at H emk;simp only[Option.map_some] at emk;obtain ⟨rfl,hs⟩:=H;rw[emk];obtain ⟨hM,i0,i1,hl⟩:=h.took e;rw[←hs] at hM;have hX:Ext pl pl σ σ':=by rw[hs];exact (Ext.set ..).trans (Ext.set ..)
  clear hs emk;have hT1:=hM.tb;have hfl1:=hM.fl;have hhl:=h.sd.hl;push_cast (disch:=omega)[aInt,aBool,hT1];have hid:id.toNat < s.fr.length:=by omega
  refine Qd (Q16 f) (X50 f) hfl1 (by rw[fr_len];simp only;omega) ?_;rw[fm_setAll _ (by simpa using hid)]
  have hM2:MM q pl (σ'.set (pl.p .fl) (.obj 0 ((s.fr.set id.toNat f).flatMap aFm))) L { s with held:=l,back:=b,fresh:=fr,peak:=p,fr:=s.fr.set id.toNat f }:=
   hM.upd1 rfl rfl rfl (fun ro hro=>by cases ro<;>first|exact absurd rfl hro|rfl|(simp only[img,aTb,List.length_set])) ⟨hM.sd.ok,hM.sd.ws,by simp only[List.length_set];exact hM.sd.fr,by simp only[List.length_set];exact hM.sd.hl,fun g hg=>by
    rcases List.mem_or_eq_of_mem_set hg with hg|rfl
    ·exact h.sd.rg g hg
    ·exact hr,hM.sd.bk,hM.sd.ib,hM.sd.f0,hM.sd.o0,hM.sd.l0,hM.sd.ol,hM.sd.dt,hM.sd.dq,hM.sd.fs⟩
  have hX2:=hX.trans (Ext.set pl σ' .fl (.obj 0 ((s.fr.set id.toNat f).flatMap aFm)));simp only;generalize (σ'.set (pl.p .fl) (.obj 0 ((s.fr.set id.toNat f).flatMap aFm)))=σ2 at hM2 hX2;have hT2:=hM2.tb;have ⟨a1,a2⟩:=hq.frame_in id;have ⟨b1,b2⟩:=hq.WW;have ⟨c1,c2⟩:=hq.size_in;have hwl:=h.sd.ws;have ⟨d1,d2⟩:=hq.room_in;push_cast (disch:=omega)[hT2];refine Q5 (Qr hq id) ?_;push_cast (disch:=omega)[aInt,hT2];refine Q5 (Z78 hq) ?_;push_cast (disch:=omega)[aInt,hT2];refine Q0 (st_Fill_a hM2.words ka q.room 0 (by simp only;omega) ka) ?_;intro a σ3 hs3;have hM3:=hM2.setW (ws:=fillW s.ws (q.frame id) q.room 0) (by simp[YW]);rw[←hs3] at hM3;have hX3:Ext pl pl σ σ3:=by rw[hs3];exact hX2.trans (Ext.set ..)
  clear hs3;have hT3:=hM3.tb;push_cast (disch:=omega)[hT3];refine Q5 (Qr hq id) ?_;push_cast (disch:=omega)[aInt,hT3];refine Q0 (st_Fill_a hM3.words ka 1 1 (by simp only[Cs.setW,YW];omega) ka) ?_;intro a σ4 hs4;have hM4:=hM3.setW (ws:=fillW (fillW s.ws (q.frame id) q.room 0) (q.frame id) 1 1) (by simp[Cs.setW,YW]);have hs5:σ3.set (pl.p .w) (.obj 0 ((fillW (fillW s.ws (q.frame id) q.room 0) (q.frame id) 1 1).map aInt))=σ4:=hs4.symm;rw[hs5] at hM4;have hX4:Ext pl pl σ σ4:=by rw[←hs5];exact hX3.trans (Ext.set ..)
  clear hs5 hs4;push_cast (disch:=omega)[aInt,aBool];exact ⟨_,hM4,hX4⟩
end
theorem Y02 (q:Pm) (σ:Kx.St) (who t:Int):FnG Tryz.prog 138 [.agg (aPl q),.v (.int .i64 who),.v (.int .i64 t)] σ fun a σ'=>a=.ref σ.length 0 0∧σ'=σ++[.obj 0 (aDqN q ⟨who,clT t,0,0,0,0,.nil,false,false⟩ (.v .nilFunc))]:=by
 refine Q3 X83.2 mixed rfl ?_;simp only[X83,qH];have hb:fillA [AV.v (.int .i64 0),AV.v (.int .i64 0),AV.v (.int .i64 0),AV.v (.int .i64 0),AV.v (.int .i64 0),AV.v (.int .i64 0),AV.v (.int .i64 0),AV.v (.int .i64 0),AV.v (.int .i64 0),AV.v (.int .i64 0),AV.v .nilFunc,AV.v (.bool false),AV.v (.bool false)] [(0,4),(4,1),(5,1)] [.agg (aPl q),.v (.int .i64 who),.v (.int .i64 (min (max t 0) 1099511627776))]=some (aDqN q ⟨who,clT t,0,0,0,0,.nil,false,false⟩ (.v .nilFunc)):=by simp[fillA,AV.cells,Value.cells,setAtA,aPl,aDqN,clT]
 have hac:(AV.agg (aDqN q ⟨who,clT t,0,0,0,0,.nil,false,false⟩ (.v .nilFunc))).cells=aDqN q ⟨who,clT t,0,0,0,0,.nil,false,false⟩ (.v .nilFunc):=rfl;push_cast;refine Q6 ?_;push_cast[cells4,hb];refine Qs ?_;push_cast[hac];exact trivial
theorem dq_Push_a (q:Pm) (σ:Kx.St) (who t x:Int):FnG Tryz.prog 233 [.agg (aPl q),.v (.int .i64 who),.v (.int .i64 t),.v (.int .i64 x)] σ fun a σ'=>a=.ref σ.length 0 0∧σ'=σ++[.obj 0 (aDq q σ.length (dqPush who t x))]:=by refine Q3 X85.2 mixed rfl ?_;simp only[X85,qH];push_cast;refine Q6 ?_;push_cast[cells4];refine Q4 (Y02 q σ who t) ?_;push_cast;refine Q9 rfl rfl (Qe _ _) eK ?_;push_cast;refine Q9 rfl rfl (Qe _ _) eK ?_;push_cast;exact rfl
theorem dq_Pop_a (q:Pm) (σ:Kx.St) (who t:Int):FnG Tryz.prog 226 [.agg (aPl q),.v (.int .i64 who),.v (.int .i64 t)] σ fun a σ'=>a=.ref σ.length 0 0∧σ'=σ++[.obj 0 (aDq q σ.length (dqPop who t))]:=by refine Q3 YJ.2 mixed rfl ?_;simp only[YJ,qH];push_cast;refine Q6 ?_;push_cast[cells4];refine Q4 (Y02 q σ who t) ?_;push_cast;refine Q9 rfl rfl (Qe _ _) eK ?_;push_cast;exact rfl
theorem dq_Steal_a (q:Pm) (σ:Kx.St) (who:Int):FnG Tryz.prog 91 [.agg (aPl q),.v (.int .i64 who)] σ fun a σ'=>a=.ref σ.length 0 0∧σ'=σ++[.obj 0 (aDq q σ.length (dqSteal who))]:=by refine Q3 X24.2 mixed rfl ?_;simp only[X24,qH];push_cast;refine Q6 ?_;push_cast[cells4];refine Q4 (Y02 q σ who 0) ?_;push_cast;refine Q4 (dq_asks_a (σ:=σ++[.obj 0 (aDqN q ⟨who,clT 0,0,0,0,0,.nil,false,false⟩ (.v .nilFunc))]) (jd:=σ.length) (.fn (.func 140) 1 [.ref σ.length 0 0]) rfl) ?_;push_cast;refine Q9 rfl rfl (Qe _ _) eK ?_;push_cast;exact rfl
section
variable (pl:Pl) (k:Nat) (w:Wk)
theorem wi0:(aWk pl k w)[0]?=some (.v (.int .i64 w.own)):=(rfl)
theorem wst0 (x:Int):(aWk pl k w).set 0 (.v (.int .i64 x))=aWk pl k { w with own:=x }:=(rfl)
theorem wi1:(aWk pl k w)[1]?=some (.v (.int .i64 w.state)):=(rfl)
theorem wst1 (x:Int):(aWk pl k w).set 1 (.v (.int .i64 x))=aWk pl k { w with state:=x }:=(rfl)
theorem wi2:(aWk pl k w)[2]?=some (.v (.int .i64 w.holds)):=(rfl)
theorem wst2 (x:Int):(aWk pl k w).set 2 (.v (.int .i64 x))=aWk pl k { w with holds:=x }:=(rfl)
theorem wi3:(aWk pl k w)[3]?=some (.v (.int .i64 w.tail)):=(rfl)
theorem wst3 (x:Int):(aWk pl k w).set 3 (.v (.int .i64 x))=aWk pl k { w with tail:=x }:=(rfl)
theorem wi4:(aWk pl k w)[4]?=some (.v (.int .i64 w.probed)):=(rfl)
theorem wst4 (x:Int):(aWk pl k w).set 4 (.v (.int .i64 x))=aWk pl k { w with probed:=x }:=(rfl)
theorem wi7:(aWk pl k w)[7]?=some (.v (.int .i64 w.other)):=(rfl)
theorem wst7 (x:Int):(aWk pl k w).set 7 (.v (.int .i64 x))=aWk pl k { w with other:=x }:=(rfl)
theorem wi8:(aWk pl k w)[8]?=some (.v (.int .i64 w.gStage)):=(rfl)
theorem wst8 (x:Int):(aWk pl k w).set 8 (.v (.int .i64 x))=aWk pl k { w with gStage:=x }:=(rfl)
theorem wi9:(aWk pl k w)[9]?=some (.v (.bool w.gWaits)):=(rfl)
theorem wst9 (x:Bool):(aWk pl k w).set 9 (.v (.bool x))=aWk pl k { w with gWaits:=x }:=(rfl)
theorem wi10:(aWk pl k w)[10]?=some (.v (.bool w.gLooked)):=(rfl)
theorem wst10 (x:Bool):(aWk pl k w).set 10 (.v (.bool x))=aWk pl k { w with gLooked:=x }:=(rfl)
theorem wi11:(aWk pl k w)[11]?=some (.v (.int .i64 w.gWhy)):=(rfl)
theorem wst11 (x:Int):(aWk pl k w).set 11 (.v (.int .i64 x))=aWk pl k { w with gWhy:=x }:=(rfl)
theorem wi12:(aWk pl k w)[12]?=some (.v (.bool w.eHeld)):=(rfl)
theorem wst12 (x:Bool):(aWk pl k w).set 12 (.v (.bool x))=aWk pl k { w with eHeld:=x }:=(rfl)
theorem wi13:(aWk pl k w)[13]?=some (.v (.bool w.eBreaks)):=(rfl)
theorem wst13 (x:Bool):(aWk pl k w).set 13 (.v (.bool x))=aWk pl k { w with eBreaks:=x }:=(rfl)
theorem wi14:(aWk pl k w)[14]?=some (.v (.int .i64 w.eRight)):=(rfl)
theorem wst14 (x:Int):(aWk pl k w).set 14 (.v (.int .i64 x))=aWk pl k { w with eRight:=x }:=(rfl)
theorem wi15:(aWk pl k w)[15]?=some (.v (.bool w.eWoken)):=(rfl)
theorem wst15 (x:Bool):(aWk pl k w).set 15 (.v (.bool x))=aWk pl k { w with eWoken:=x }:=(rfl)
theorem wi5:(aWk pl k w)[5]?=some (aPtr w.dq (pl.p (.dq k))):=(rfl)
theorem wi16:(aWk pl k w)[16]?=some (aPtr w.right (pl.p (.rt k))):=(rfl)
theorem wi17:(aWk pl k w)[17]?=some (aPtr w.park (pl.p (.pk k))):=(rfl)
theorem wi18:(aWk pl k w)[18]?=some (aPtr w.wake (pl.p (.wa k))):=(rfl)
theorem wi19:(aWk pl k w)[19]?=some (aPtr w.nap (pl.p (.np k))):=(rfl)
theorem wi6:(aWk pl k w)[6]?=some (aTh (pl.p (.wk k)) w.th):=(rfl)
theorem X01:(aWk pl k w).length=20:=(rfl)
theorem wst8g (a:Int) (b c:Bool) (e:Int):setAtA (aWk pl k w) 8 [.v (.int .i64 a),.v (.bool b),.v (.bool c),.v (.int .i64 e)]=aWk pl k { w with gStage:=a,gWaits:=b,gLooked:=c,gWhy:=e }:=rfl
theorem wst12e (a b:Bool) (c:Int) (e:Bool):setAtA (aWk pl k w) 12 [.v (.bool a),.v (.bool b),.v (.int .i64 c),.v (.bool e)]=aWk pl k { w with eHeld:=a,eBreaks:=b,eRight:=c,eWoken:=e }:=rfl
end
attribute [push_cast] wi6 X01 wi0 wst0 wi1 wst1 wi2 wst2 wi3 wst3 wi4 wst4 wi7 wst7 wi8 wst8 wi9 wst9 wi10 wst10 wi11 wst11 wi12 wst12 wi13 wst13 wi14 wst14 wi15 wst15 wi5 wi16 wi17 wi18 wi19
section
variable {q:Pm} {pl:Pl} {σ:Kx.St} {L:List Wk} {s:Cs}
theorem MM.new_dq (h:MM q pl σ L s) {k:Nat} {w:Wk} (hk:L[k]?=some w) (d:Dq) (hok:DqOk q d):
  MM q (pl.put (.dq k) σ.length) ((σ++[Res.obj 0 (aDq q σ.length d)]).set (pl.p (.wk k)) (.obj 0 ((aWk pl k w).set 5 (.ref σ.length 0 0)))) (L.set k { w with dq:=some d }) s ∧
  Ext pl (pl.put (.dq k) σ.length) σ ((σ++[Res.obj 0 (aDq q σ.length d)]).set (pl.p (.wk k)) (.obj 0 ((aWk pl k w).set 5 (.ref σ.length 0 0)))):=by
 have hkl:=Qh hk;have hself:(L.set k { w with dq:=some d })[k]?=some { w with dq:=some d }:=List.getElem?_set_self hkl;have hp:∀ro,ro≠Ro.dq k→(pl.put (.dq k) σ.length).p ro=pl.p ro:=fun ro hr=>Q14 hr;have hpb:(pl.put (.dq k) σ.length).p (.dq k)=σ.length:=Qo pl (.dq k) σ.length;have hw:(img q pl L s (.wk k)).isSome=true:=by simp[img,hk]
 have himg:∀ro,ro≠Ro.dq k→ro≠Ro.wk k→img q (pl.put (.dq k) σ.length) (L.set k { w with dq:=some d }) s ro=img q pl L s ro:=by
  intro ro h1 h2
  cases ro with
  | wk j=>
   have hj:k≠j:=fun e=>h2 (by rw[e]);simp only[img,List.getElem?_set_ne hj,aWk]
   cases L[j]? with
   | none=>rfl
   | some v=>simp only[Option.map_some];rw[hp _ ei,hp _ ei,hp _ ei,hp _ ei,hp _ ei,hp _ ei]
  | dq j|rt j|pk j|wa j|np j=>
   by_cases hj:k=j
   ·subst hj;exact oi
   ·simp only[img,List.getElem?_set_ne hj]
    try (rw[hp _ ei])
  | _=>rfl
 have hs:∀ro,ro≠Ro.dq k→(img q (pl.put (.dq k) σ.length) (L.set k { w with dq:=some d }) s ro).isSome=true→(img q pl L s ro).isSome=true:=fun ro hr he=>by
  by_cases e2:ro=.wk k
  ·subst e2;exact hw
  ·rw[←himg ro hr e2];exact he
 refine ⟨⟨fun ro r er=>?_,fun a b ha hb hab=>?_,⟨h.sd.ok,h.sd.ws,h.sd.fr,h.sd.hl,h.sd.rg,h.sd.bk,h.sd.ib,h.sd.f0,h.sd.o0,h.sd.l0,h.sd.ol,h.sd.dt,fun j v e hv he=>?_,h.sd.fs⟩,fun ro=>?_⟩,⟨by simp,fun j hj hpj=>?_,fun ro=>?_,fun ro hf=>hp _ fun e=>by subst e;cases hf⟩⟩
 ·by_cases e1:ro=(.dq k)
  ·subst e1;rw[hpb];simp only[img,hself,Option.bind_some,Option.map_some,Option.some.injEq] at er
   try (rw[hpb] at er)
   subst er;have:=h.lt (.wk k);rw[List.getElem?_set_ne ka];exact Qe _ _
  by_cases e2:ro=.wk k
  ·subst e2;rw[hp _ e1];simp only[img,hself,Option.map_some,Option.some.injEq] at er;subst er;have:=h.lt (.wk k);rw[List.getElem?_set_self eG];simp only[aWk,hpb];rw[hp _ ke,hp _ ke,hp _ ke,hp _ ke,hp _ ke];rfl
  ·have er2:img q pl L s ro=some r:=by rw[←himg ro e1 e2];exact er
   have hs2:(img q pl L s ro).isSome=true:=by rw[er2];rfl
   rw[hp _ e1,List.getElem?_set_ne (h.ne hw hs2 (Ne.symm e2))];exact Qn (h.at_ _ _ er2)
 ·by_cases ea:a=(.dq k)
  ·by_cases eb:b=(.dq k)
   ·rw[ea,eb]
   ·subst ea;rw[hpb,hp _ eb] at hab;have:=h.lt b;omega
  ·by_cases eb:b=(.dq k)
   ·subst eb;rw[hpb,hp _ ea] at hab;have:=h.lt a;omega
   ·rw[hp _ ea,hp _ eb] at hab;exact h.inj a b (hs a ea ha) (hs b eb hb) hab
 ·by_cases hj:k=j
  ·subst hj;rw[hself] at hv;cases hv;exact (by cases he;exact hok)
  ·rw[List.getElem?_set_ne hj] at hv;exact h.sd.dq j v e hv he
 ·by_cases e1:ro=(.dq k)
  ·subst e1;rw[hpb];simp
  ·rw[hp _ e1];have:=h.lt ro;simp;omega
 ·rw[List.getElem?_set_ne (hpj _),List.getElem?_append_left hj]
 ·by_cases e1:ro=(.dq k)
  ·subst e1;rw[hpb];exact .inr (Nat.le_refl _)
  ·exact .inl (hp _ e1)
theorem MM.new_right (h:MM q pl σ L s) {k:Nat} {w:Wk} (hk:L[k]?=some w) (d:Rt):
  MM q (pl.put (.rt k) σ.length) ((σ++[Res.obj 0 (aRt q d)]).set (pl.p (.wk k)) (.obj 0 ((aWk pl k w).set 16 (.ref σ.length 0 0)))) (L.set k { w with right:=some d }) s ∧
  Ext pl (pl.put (.rt k) σ.length) σ ((σ++[Res.obj 0 (aRt q d)]).set (pl.p (.wk k)) (.obj 0 ((aWk pl k w).set 16 (.ref σ.length 0 0)))):=by
 have hkl:=Qh hk;have hself:(L.set k { w with right:=some d })[k]?=some { w with right:=some d }:=List.getElem?_set_self hkl;have hp:∀ro,ro≠Ro.rt k→(pl.put (.rt k) σ.length).p ro=pl.p ro:=fun ro hr=>Q14 hr;have hpb:(pl.put (.rt k) σ.length).p (.rt k)=σ.length:=Qo pl (.rt k) σ.length;have hw:(img q pl L s (.wk k)).isSome=true:=by simp[img,hk]
 have himg:∀ro,ro≠Ro.rt k→ro≠Ro.wk k→img q (pl.put (.rt k) σ.length) (L.set k { w with right:=some d }) s ro=img q pl L s ro:=by
  intro ro h1 h2
  cases ro with
  | wk j=>
   have hj:k≠j:=fun e=>h2 (by rw[e]);simp only[img,List.getElem?_set_ne hj,aWk]
   cases L[j]? with
   | none=>rfl
   | some v=>simp only[Option.map_some];rw[hp _ ei,hp _ ei,hp _ ei,hp _ ei,hp _ ei,hp _ ei]
  | dq j|rt j|pk j|wa j|np j=>
   by_cases hj:k=j
   ·subst hj;exact oi
   ·simp only[img,List.getElem?_set_ne hj]
    try (rw[hp _ ei])
  | _=>rfl
 have hs:∀ro,ro≠Ro.rt k→(img q (pl.put (.rt k) σ.length) (L.set k { w with right:=some d }) s ro).isSome=true→(img q pl L s ro).isSome=true:=fun ro hr he=>by
  by_cases e2:ro=.wk k
  ·subst e2;exact hw
  ·rw[←himg ro hr e2];exact he
 refine ⟨⟨fun ro r er=>?_,fun a b ha hb hab=>?_,⟨h.sd.ok,h.sd.ws,h.sd.fr,h.sd.hl,h.sd.rg,h.sd.bk,h.sd.ib,h.sd.f0,h.sd.o0,h.sd.l0,h.sd.ol,h.sd.dt,fun j v e hv he=>?_,h.sd.fs⟩,fun ro=>?_⟩,⟨by simp,fun j hj hpj=>?_,fun ro=>?_,fun ro hf=>hp _ fun e=>by subst e;cases hf⟩⟩
 ·by_cases e1:ro=(.rt k)
  ·subst e1;rw[hpb];simp only[img,hself,Option.bind_some,Option.map_some,Option.some.injEq] at er
   try (rw[hpb] at er)
   subst er;have:=h.lt (.wk k);rw[List.getElem?_set_ne ka];exact Qe _ _
  by_cases e2:ro=.wk k
  ·subst e2;rw[hp _ e1];simp only[img,hself,Option.map_some,Option.some.injEq] at er;subst er;have:=h.lt (.wk k);rw[List.getElem?_set_self eG];simp only[aWk,hpb];rw[hp _ ke,hp _ ke,hp _ ke,hp _ ke,hp _ ke];rfl
  ·have er2:img q pl L s ro=some r:=by rw[←himg ro e1 e2];exact er
   have hs2:(img q pl L s ro).isSome=true:=by rw[er2];rfl
   rw[hp _ e1,List.getElem?_set_ne (h.ne hw hs2 (Ne.symm e2))];exact Qn (h.at_ _ _ er2)
 ·by_cases ea:a=(.rt k)
  ·by_cases eb:b=(.rt k)
   ·rw[ea,eb]
   ·subst ea;rw[hpb,hp _ eb] at hab;have:=h.lt b;omega
  ·by_cases eb:b=(.rt k)
   ·subst eb;rw[hpb,hp _ ea] at hab;have:=h.lt a;omega
   ·rw[hp _ ea,hp _ eb] at hab;exact h.inj a b (hs a ea ha) (hs b eb hb) hab
 ·by_cases hj:k=j
  ·subst hj;rw[hself] at hv;cases hv;exact h.sd.dq k w e hk he
  ·rw[List.getElem?_set_ne hj] at hv;exact h.sd.dq j v e hv he
 ·by_cases e1:ro=(.rt k)
  ·subst e1;rw[hpb];simp
  ·rw[hp _ e1];have:=h.lt ro;simp;omega
 ·rw[List.getElem?_set_ne (hpj _),List.getElem?_append_left hj]
 ·by_cases e1:ro=(.rt k)
  ·subst e1;rw[hpb];exact .inr (Nat.le_refl _)
  ·exact .inl (hp _ e1)
theorem MM.new_park (h:MM q pl σ L s) {k:Nat} {w:Wk} (hk:L[k]?=some w) (d:Pk):
  MM q (pl.put (.pk k) σ.length) ((σ++[Res.obj 0 (aPk q d)]).set (pl.p (.wk k)) (.obj 0 ((aWk pl k w).set 17 (.ref σ.length 0 0)))) (L.set k { w with park:=some d }) s ∧
  Ext pl (pl.put (.pk k) σ.length) σ ((σ++[Res.obj 0 (aPk q d)]).set (pl.p (.wk k)) (.obj 0 ((aWk pl k w).set 17 (.ref σ.length 0 0)))):=by
 have hkl:=Qh hk;have hself:(L.set k { w with park:=some d })[k]?=some { w with park:=some d }:=List.getElem?_set_self hkl;have hp:∀ro,ro≠Ro.pk k→(pl.put (.pk k) σ.length).p ro=pl.p ro:=fun ro hr=>Q14 hr;have hpb:(pl.put (.pk k) σ.length).p (.pk k)=σ.length:=Qo pl (.pk k) σ.length;have hw:(img q pl L s (.wk k)).isSome=true:=by simp[img,hk]
 have himg:∀ro,ro≠Ro.pk k→ro≠Ro.wk k→img q (pl.put (.pk k) σ.length) (L.set k { w with park:=some d }) s ro=img q pl L s ro:=by
  intro ro h1 h2
  cases ro with
  | wk j=>
   have hj:k≠j:=fun e=>h2 (by rw[e]);simp only[img,List.getElem?_set_ne hj,aWk]
   cases L[j]? with
   | none=>rfl
   | some v=>simp only[Option.map_some];rw[hp _ ei,hp _ ei,hp _ ei,hp _ ei,hp _ ei,hp _ ei]
  | dq j|rt j|pk j|wa j|np j=>
   by_cases hj:k=j
   ·subst hj;exact oi
   ·simp only[img,List.getElem?_set_ne hj]
    try (rw[hp _ ei])
  | _=>rfl
 have hs:∀ro,ro≠Ro.pk k→(img q (pl.put (.pk k) σ.length) (L.set k { w with park:=some d }) s ro).isSome=true→(img q pl L s ro).isSome=true:=fun ro hr he=>by
  by_cases e2:ro=.wk k
  ·subst e2;exact hw
  ·rw[←himg ro hr e2];exact he
 refine ⟨⟨fun ro r er=>?_,fun a b ha hb hab=>?_,⟨h.sd.ok,h.sd.ws,h.sd.fr,h.sd.hl,h.sd.rg,h.sd.bk,h.sd.ib,h.sd.f0,h.sd.o0,h.sd.l0,h.sd.ol,h.sd.dt,fun j v e hv he=>?_,h.sd.fs⟩,fun ro=>?_⟩,⟨by simp,fun j hj hpj=>?_,fun ro=>?_,fun ro hf=>hp _ fun e=>by subst e;cases hf⟩⟩
 ·by_cases e1:ro=(.pk k)
  ·subst e1;rw[hpb];simp only[img,hself,Option.bind_some,Option.map_some,Option.some.injEq] at er
   try (rw[hpb] at er)
   subst er;have:=h.lt (.wk k);rw[List.getElem?_set_ne ka];exact Qe _ _
  by_cases e2:ro=.wk k
  ·subst e2;rw[hp _ e1];simp only[img,hself,Option.map_some,Option.some.injEq] at er;subst er;have:=h.lt (.wk k);rw[List.getElem?_set_self eG];simp only[aWk,hpb];rw[hp _ ke,hp _ ke,hp _ ke,hp _ ke,hp _ ke];rfl
  ·have er2:img q pl L s ro=some r:=by rw[←himg ro e1 e2];exact er
   have hs2:(img q pl L s ro).isSome=true:=by rw[er2];rfl
   rw[hp _ e1,List.getElem?_set_ne (h.ne hw hs2 (Ne.symm e2))];exact Qn (h.at_ _ _ er2)
 ·by_cases ea:a=(.pk k)
  ·by_cases eb:b=(.pk k)
   ·rw[ea,eb]
   ·subst ea;rw[hpb,hp _ eb] at hab;have:=h.lt b;omega
  ·by_cases eb:b=(.pk k)
   ·subst eb;rw[hpb,hp _ ea] at hab;have:=h.lt a;omega
   ·rw[hp _ ea,hp _ eb] at hab;exact h.inj a b (hs a ea ha) (hs b eb hb) hab
 ·by_cases hj:k=j
  ·subst hj;rw[hself] at hv;cases hv;exact h.sd.dq k w e hk he
  ·rw[List.getElem?_set_ne hj] at hv;exact h.sd.dq j v e hv he
 ·by_cases e1:ro=(.pk k)
  ·subst e1;rw[hpb];simp
  ·rw[hp _ e1];have:=h.lt ro;simp;omega
 ·rw[List.getElem?_set_ne (hpj _),List.getElem?_append_left hj]
 ·by_cases e1:ro=(.pk k)
  ·subst e1;rw[hpb];exact .inr (Nat.le_refl _)
  ·exact .inl (hp _ e1)
theorem MM.new_wake (h:MM q pl σ L s) {k:Nat} {w:Wk} (hk:L[k]?=some w) (d:Tw):
  MM q (pl.put (.wa k) σ.length) ((σ++[Res.obj 0 (aTw q d [.v (.bool d.looks)])]).set (pl.p (.wk k)) (.obj 0 ((aWk pl k w).set 18 (.ref σ.length 0 0)))) (L.set k { w with wake:=some d }) s ∧
  Ext pl (pl.put (.wa k) σ.length) σ ((σ++[Res.obj 0 (aTw q d [.v (.bool d.looks)])]).set (pl.p (.wk k)) (.obj 0 ((aWk pl k w).set 18 (.ref σ.length 0 0)))):=by
 have hkl:=Qh hk;have hself:(L.set k { w with wake:=some d })[k]?=some { w with wake:=some d }:=List.getElem?_set_self hkl;have hp:∀ro,ro≠Ro.wa k→(pl.put (.wa k) σ.length).p ro=pl.p ro:=fun ro hr=>Q14 hr;have hpb:(pl.put (.wa k) σ.length).p (.wa k)=σ.length:=Qo pl (.wa k) σ.length;have hw:(img q pl L s (.wk k)).isSome=true:=by simp[img,hk]
 have himg:∀ro,ro≠Ro.wa k→ro≠Ro.wk k→img q (pl.put (.wa k) σ.length) (L.set k { w with wake:=some d }) s ro=img q pl L s ro:=by
  intro ro h1 h2
  cases ro with
  | wk j=>
   have hj:k≠j:=fun e=>h2 (by rw[e]);simp only[img,List.getElem?_set_ne hj,aWk]
   cases L[j]? with
   | none=>rfl
   | some v=>simp only[Option.map_some];rw[hp _ ei,hp _ ei,hp _ ei,hp _ ei,hp _ ei,hp _ ei]
  | dq j|rt j|pk j|wa j|np j=>
   by_cases hj:k=j
   ·subst hj;exact oi
   ·simp only[img,List.getElem?_set_ne hj]
    try (rw[hp _ ei])
  | _=>rfl
 have hs:∀ro,ro≠Ro.wa k→(img q (pl.put (.wa k) σ.length) (L.set k { w with wake:=some d }) s ro).isSome=true→(img q pl L s ro).isSome=true:=fun ro hr he=>by
  by_cases e2:ro=.wk k
  ·subst e2;exact hw
  ·rw[←himg ro hr e2];exact he
 refine ⟨⟨fun ro r er=>?_,fun a b ha hb hab=>?_,⟨h.sd.ok,h.sd.ws,h.sd.fr,h.sd.hl,h.sd.rg,h.sd.bk,h.sd.ib,h.sd.f0,h.sd.o0,h.sd.l0,h.sd.ol,h.sd.dt,fun j v e hv he=>?_,h.sd.fs⟩,fun ro=>?_⟩,⟨by simp,fun j hj hpj=>?_,fun ro=>?_,fun ro hf=>hp _ fun e=>by subst e;cases hf⟩⟩
 ·by_cases e1:ro=(.wa k)
  ·subst e1;rw[hpb];simp only[img,hself,Option.bind_some,Option.map_some,Option.some.injEq] at er
   try (rw[hpb] at er)
   subst er;have:=h.lt (.wk k);rw[List.getElem?_set_ne ka];exact Qe _ _
  by_cases e2:ro=.wk k
  ·subst e2;rw[hp _ e1];simp only[img,hself,Option.map_some,Option.some.injEq] at er;subst er;have:=h.lt (.wk k);rw[List.getElem?_set_self eG];simp only[aWk,hpb];rw[hp _ ke,hp _ ke,hp _ ke,hp _ ke,hp _ ke];rfl
  ·have er2:img q pl L s ro=some r:=by rw[←himg ro e1 e2];exact er
   have hs2:(img q pl L s ro).isSome=true:=by rw[er2];rfl
   rw[hp _ e1,List.getElem?_set_ne (h.ne hw hs2 (Ne.symm e2))];exact Qn (h.at_ _ _ er2)
 ·by_cases ea:a=(.wa k)
  ·by_cases eb:b=(.wa k)
   ·rw[ea,eb]
   ·subst ea;rw[hpb,hp _ eb] at hab;have:=h.lt b;omega
  ·by_cases eb:b=(.wa k)
   ·subst eb;rw[hpb,hp _ ea] at hab;have:=h.lt a;omega
   ·rw[hp _ ea,hp _ eb] at hab;exact h.inj a b (hs a ea ha) (hs b eb hb) hab
 ·by_cases hj:k=j
  ·subst hj;rw[hself] at hv;cases hv;exact h.sd.dq k w e hk he
  ·rw[List.getElem?_set_ne hj] at hv;exact h.sd.dq j v e hv he
 ·by_cases e1:ro=(.wa k)
  ·subst e1;rw[hpb];simp
  ·rw[hp _ e1];have:=h.lt ro;simp;omega
 ·rw[List.getElem?_set_ne (hpj _),List.getElem?_append_left hj]
 ·by_cases e1:ro=(.wa k)
  ·subst e1;rw[hpb];exact .inr (Nat.le_refl _)
  ·exact .inl (hp _ e1)
theorem MM.new_nap (h:MM q pl σ L s) {k:Nat} {w:Wk} (hk:L[k]?=some w) (d:Tw):
  MM q (pl.put (.np k) σ.length) ((σ++[Res.obj 0 (aTw q d [])]).set (pl.p (.wk k)) (.obj 0 ((aWk pl k w).set 19 (.ref σ.length 0 0)))) (L.set k { w with nap:=some d }) s ∧
  Ext pl (pl.put (.np k) σ.length) σ ((σ++[Res.obj 0 (aTw q d [])]).set (pl.p (.wk k)) (.obj 0 ((aWk pl k w).set 19 (.ref σ.length 0 0)))):=by
 have hkl:=Qh hk;have hself:(L.set k { w with nap:=some d })[k]?=some { w with nap:=some d }:=List.getElem?_set_self hkl;have hp:∀ro,ro≠Ro.np k→(pl.put (.np k) σ.length).p ro=pl.p ro:=fun ro hr=>Q14 hr;have hpb:(pl.put (.np k) σ.length).p (.np k)=σ.length:=Qo pl (.np k) σ.length;have hw:(img q pl L s (.wk k)).isSome=true:=by simp[img,hk]
 have himg:∀ro,ro≠Ro.np k→ro≠Ro.wk k→img q (pl.put (.np k) σ.length) (L.set k { w with nap:=some d }) s ro=img q pl L s ro:=by
  intro ro h1 h2
  cases ro with
  | wk j=>
   have hj:k≠j:=fun e=>h2 (by rw[e]);simp only[img,List.getElem?_set_ne hj,aWk]
   cases L[j]? with
   | none=>rfl
   | some v=>simp only[Option.map_some];rw[hp _ ei,hp _ ei,hp _ ei,hp _ ei,hp _ ei,hp _ ei]
  | dq j|rt j|pk j|wa j|np j=>
   by_cases hj:k=j
   ·subst hj;exact oi
   ·simp only[img,List.getElem?_set_ne hj]
    try (rw[hp _ ei])
  | _=>rfl
 have hs:∀ro,ro≠Ro.np k→(img q (pl.put (.np k) σ.length) (L.set k { w with nap:=some d }) s ro).isSome=true→(img q pl L s ro).isSome=true:=fun ro hr he=>by
  by_cases e2:ro=.wk k
  ·subst e2;exact hw
  ·rw[←himg ro hr e2];exact he
 refine ⟨⟨fun ro r er=>?_,fun a b ha hb hab=>?_,⟨h.sd.ok,h.sd.ws,h.sd.fr,h.sd.hl,h.sd.rg,h.sd.bk,h.sd.ib,h.sd.f0,h.sd.o0,h.sd.l0,h.sd.ol,h.sd.dt,fun j v e hv he=>?_,h.sd.fs⟩,fun ro=>?_⟩,⟨by simp,fun j hj hpj=>?_,fun ro=>?_,fun ro hf=>hp _ fun e=>by subst e;cases hf⟩⟩
 ·by_cases e1:ro=(.np k)
  ·subst e1;rw[hpb];simp only[img,hself,Option.bind_some,Option.map_some,Option.some.injEq] at er
   try (rw[hpb] at er)
   subst er;have:=h.lt (.wk k);rw[List.getElem?_set_ne ka];exact Qe _ _
  by_cases e2:ro=.wk k
  ·subst e2;rw[hp _ e1];simp only[img,hself,Option.map_some,Option.some.injEq] at er;subst er;have:=h.lt (.wk k);rw[List.getElem?_set_self eG];simp only[aWk,hpb];rw[hp _ ke,hp _ ke,hp _ ke,hp _ ke,hp _ ke];rfl
  ·have er2:img q pl L s ro=some r:=by rw[←himg ro e1 e2];exact er
   have hs2:(img q pl L s ro).isSome=true:=by rw[er2];rfl
   rw[hp _ e1,List.getElem?_set_ne (h.ne hw hs2 (Ne.symm e2))];exact Qn (h.at_ _ _ er2)
 ·by_cases ea:a=(.np k)
  ·by_cases eb:b=(.np k)
   ·rw[ea,eb]
   ·subst ea;rw[hpb,hp _ eb] at hab;have:=h.lt b;omega
  ·by_cases eb:b=(.np k)
   ·subst eb;rw[hpb,hp _ ea] at hab;have:=h.lt a;omega
   ·rw[hp _ ea,hp _ eb] at hab;exact h.inj a b (hs a ea ha) (hs b eb hb) hab
 ·by_cases hj:k=j
  ·subst hj;rw[hself] at hv;cases hv;exact h.sd.dq k w e hk he
  ·rw[List.getElem?_set_ne hj] at hv;exact h.sd.dq j v e hv he
 ·by_cases e1:ro=(.np k)
  ·subst e1;rw[hpb];simp
  ·rw[hp _ e1];have:=h.lt ro;simp;omega
 ·rw[List.getElem?_set_ne (hpj _),List.getElem?_append_left hj]
 ·by_cases e1:ro=(.np k)
  ·subst e1;rw[hpb];exact .inr (Nat.le_refl _)
  ·exact .inl (hp _ e1)
end
structure WM (q:Pm) (L:List Wk) (k jw jc:Nat) (pl0:Pl) (σ0:Kx.St) (pl:Pl) (σ:Kx.St) (x:WC):Prop where
 mm:MM q pl σ (L.set k x.1) x.2
 kl:k < L.length
 ew:pl.p (.wk k)=jw
 ec:pl.p .c=jc
 ex:Ext pl0 pl σ0 σ
section
variable {q:Pm} {L:List Wk} {k jw jc:Nat} {pl0 pl:Pl} {σ0 σ:Kx.St} {x:WC}
theorem WM.re (h:WM q L k jw jc pl0 σ0 pl σ x):WM q L k jw jc pl σ pl σ x:=⟨h.mm,h.kl,h.ew,h.ec,.refl _ _⟩
theorem WM.hk (h:WM q L k jw jc pl0 σ0 pl σ x):(L.set k x.1)[k]?=some x.1:=List.getElem?_set_self h.kl
theorem WM.wk (h:WM q L k jw jc pl0 σ0 pl σ x):σ[jw]?=some (.obj 0 (aWk pl k x.1)):=by rw[←h.ew];exact h.mm.wk h.hk
theorem WM.c (h:WM q L k jw jc pl0 σ0 pl σ x):σ[jc]?=some (.obj 0 (aCore q pl x.2)):=by rw[←h.ec];exact h.mm.c
theorem WM.tr (h:WM q L k jw jc pl0 σ0 pl σ x) {pl':Pl} {σ':Kx.St} {y:WC} (h':WM q L k jw jc pl σ pl' σ' y):WM q L k jw jc pl0 σ0 pl' σ' y:=⟨h'.mm,h'.kl,h'.ew,h'.ec,h.ex.trans h'.ex⟩
theorem Q7 (h:WM q L k jw jc pl0 σ0 pl σ x) {P:Program} {f:FuncId} {vs:List AV} {K:AV→Kx.St→Prop} {y:WC} (H:FnG P f vs σ fun _ σ'=>∃pl',WM q L k jw jc pl σ pl' σ' y)
  (hk:∀a pl' σ',WM q L k jw jc pl0 σ0 pl' σ' y→Ext pl pl' σ σ'→act (K a σ')):act (EF.awp P (.call f) vs σ K):=
 Q0 H fun a σ' ⟨pl',h'⟩=>hk a pl' σ' (h.tr h') h'.ex
theorem WM.st (h:WM q L k jw jc pl0 σ0 pl σ x) {w':Wk} (e:w'.dq=x.1.dq∧w'.right=x.1.right∧w'.park=x.1.park∧w'.wake=x.1.wake∧w'.nap=x.1.nap):
  WM q L k jw jc pl0 σ0 pl (σ.set jw (.obj 0 (aWk pl k w'))) (w',x.2)∧Ext pl pl σ (σ.set jw (.obj 0 (aWk pl k w'))):=by
 have hm:=h.mm.setWk h.hk e;rw[List.set_set,h.ew] at hm;have hx:Ext pl pl σ (σ.set jw (.obj 0 (aWk pl k w'))):=by rw[←h.ew];exact Ext.set ..
 exact ⟨⟨hm,h.kl,h.ew,h.ec,h.ex.trans hx⟩,hx⟩
theorem Qf (h:WM q L k jw jc pl0 σ0 pl σ x) {P:Program} {K:AV→Kx.St→Prop} {j:Nat} {a:AV} {w':Wk} (ha:a.cells=[a]) (h1:a.one=true) (hj:j < 20) (hs:(aWk pl k x.1).set j a=aWk pl k w')
  (e:w'.dq=x.1.dq∧w'.right=x.1.right∧w'.park=x.1.park∧w'.wake=x.1.wake∧w'.nap=x.1.nap) (hk:∀σ',WM q L k jw jc pl0 σ0 pl σ' (w',x.2)→Ext pl pl σ σ'→act (K (.v undef) σ')):
  act (EF.awp P (.st 1) [.ref jw 0 j,a] σ K):=by
 refine Q9 ha h1 h.wk (by rw[X01];exact hj) ?_;rw[hs];obtain ⟨h2,hx⟩:=h.st e;exact hk _ h2 hx
theorem WM.core (h:WM q L k jw jc pl0 σ0 pl σ x) {s':Cs} (e:s'={ x.2 with steps:=s'.steps,probes:=s'.probes,steals:=s'.steals,parks:=s'.parks,naps:=s'.naps,folds:=s'.folds,serial:=s'.serial,status:=s'.status,why:=s'.why }):
  WM q L k jw jc pl0 σ0 pl (σ.set jc (.obj 0 (aCore q pl s'))) (x.1,s')∧Ext pl pl σ (σ.set jc (.obj 0 (aCore q pl s'))):=by
 have hm:=h.mm.core e;rw[h.ec] at hm;have hx:Ext pl pl σ (σ.set jc (.obj 0 (aCore q pl s'))):=by rw[←h.ec];exact Ext.set ..
 exact ⟨⟨hm,h.kl,h.ew,h.ec,h.ex.trans hx⟩,hx⟩
theorem X52 (h:WM q L k jw jc pl0 σ0 pl σ x) {P:Program} {K:AV→Kx.St→Prop} {j:Nat} {a:AV} {s':Cs} (ha:a.cells=[a]) (h1:a.one=true) (hj:j < 23) (hs:(aCore q pl x.2).set j a=aCore q pl s')
  (e:s'={ x.2 with steps:=s'.steps,probes:=s'.probes,steals:=s'.steals,parks:=s'.parks,naps:=s'.naps,folds:=s'.folds,serial:=s'.serial,status:=s'.status,why:=s'.why }) (hk:∀σ',WM q L k jw jc pl0 σ0 pl σ' (x.1,s')→Ext pl pl σ σ'→act (K (.v undef) σ')):
  act (EF.awp P (.st 1) [.ref jc 0 j,a] σ K):=by
 refine Q9 ha h1 h.c (by rw[Y49];exact hj) ?_;rw[hs];obtain ⟨h2,hx⟩:=h.core e;exact hk _ h2 hx
theorem WM.setW (h:WM q L k jw jc pl0 σ0 pl σ x) {ws:List Int} (hl:ws.length=x.2.ws.length):WM q L k jw jc pl0 σ0 pl (σ.set (pl.p .w) (.obj 0 (ws.map aInt))) (x.1,x.2.setW ws)∧Ext pl pl σ (σ.set (pl.p .w) (.obj 0 (ws.map aInt))):=
 ⟨⟨h.mm.setW hl,h.kl,h.ew,h.ec,h.ex.trans (Ext.set ..)⟩,Ext.set ..⟩
theorem WM.app (h:WM q L k jw jc pl0 σ0 pl σ x) (τ:Kx.St):WM q L k jw jc pl0 σ0 pl (σ++τ) x:=⟨h.mm.app τ,h.kl,h.ew,h.ec,h.ex.trans (Ext.app ..)⟩
theorem WM.out (h:WM q L k jw jc pl0 σ0 pl σ x) {σ':Kx.St} {s':Cs} (o:Out q pl σ σ' (L.set k x.1) s'):∃pl',WM q L k jw jc pl0 σ0 pl' σ' (x.1,s')∧Ext pl pl' σ σ':=by obtain ⟨pl',hm,hx⟩:=o;exact ⟨pl',⟨hm,h.kl,(hx.fix _ rfl).trans h.ew,(hx.fix _ rfl).trans h.ec,h.ex.trans hx⟩,hx⟩
theorem WM.Plan_a (h:WM q L k jw jc pl0 σ0 pl σ x):FnG Tryz.prog 66 [.ref jc 0 0] σ fun a σ'=>a=.agg (aPl q)∧σ'=σ:=by rw[←h.ec];exact core_Plan_a h.mm
theorem WM.Params_a (h:WM q L k jw jc pl0 σ0 pl σ x):FnG Tryz.prog 90 [.ref jc 0 0] σ fun a σ'=>a=.agg (aPr q)∧σ'=σ:=by rw[←h.ec];exact X32 h.mm
theorem WM.Words_a (h:WM q L k jw jc pl0 σ0 pl σ x):FnG Tryz.prog 67 [.ref jc 0 0] σ fun a σ'=>a=.ref (pl.p .sw) 0 0∧σ'=σ:=by rw[←h.ec];exact core_Words_a h.mm
theorem WM.Frames_a (h:WM q L k jw jc pl0 σ0 pl σ x):FnG Tryz.prog 56 [.ref jc 0 0] σ fun a σ'=>a=.ref (pl.p .t) 0 0∧σ'=σ:=by rw[←h.ec];exact Zz h.mm
theorem WM.Out_a (h:WM q L k jw jc pl0 σ0 pl σ x):FnG Tryz.prog 47 [.ref jc 0 0] σ fun a σ'=>a=.ref (pl.p .so) 0 0∧σ'=σ:=by rw[←h.ec];exact X51 h.mm
theorem WM.Log_a (h:WM q L k jw jc pl0 σ0 pl σ x):FnG Tryz.prog 58 [.ref jc 0 0] σ fun a σ'=>a=.ref (pl.p .lo) 0 0∧σ'=σ:=by rw[←h.ec];exact Y50 h.mm
theorem WM.Stats_a (h:WM q L k jw jc pl0 σ0 pl σ x):FnG Tryz.prog 50 [.ref jc 0 0] σ fun a σ'=>a=.ref jc 0 13∧σ'=σ:=by rw[←h.ec];exact Q08 h.mm
theorem WM.Status_a (h:WM q L k jw jc pl0 σ0 pl σ x):FnG Tryz.prog 46 [.ref jc 0 0] σ fun a σ'=>a=.tup [aInt x.2.status,aInt x.2.why]∧σ'=σ:=by rw[←h.ec];exact Z86 h.mm
theorem WM.Stop_a (h:WM q L k jw jc pl0 σ0 pl σ x) (st why:Int):FnG Tryz.prog 146 [.ref jc 0 0,.v (.int .i64 st),.v (.int .i64 why)] σ fun _ σ'=>∃pl',WM q L k jw jc pl0 σ0 pl' σ' (x.1,x.2.stop st why):=by rw[←h.ec];exact FnG.mono (core_Stop_a h.mm st why) fun _ σ' ⟨hm,hx⟩=>⟨pl,hm,h.kl,h.ew,rfl,h.ex.trans hx⟩
theorem WM.Serial_a (h:WM q L k jw jc pl0 σ0 pl σ x):FnG Tryz.prog 276 [.ref jc 0 0] σ fun a σ'=>a=aInt (w64 (x.2.serial+1))∧WM q L k jw jc pl0 σ0 pl σ' (x.1,{ x.2 with serial:=w64 (x.2.serial+1) })∧Ext pl pl σ σ':=by rw[←h.ec];exact FnG.mono (Y90 h.mm) fun _ σ' ⟨e,hm,hx⟩=>⟨e,⟨hm,h.kl,h.ew,rfl,h.ex.trans hx⟩,hx⟩
theorem WM.Code_a (h:WM q L k jw jc pl0 σ0 pl σ x) (fn pc:Int):FnG Tryz.prog 151 [.ref jc 0 0,.v (.int .i64 fn),.v (.int .i64 pc)] σ fun a σ'=>a=.agg (aIx (q.code fn pc))∧σ'=σ:=by rw[←h.ec];exact core_Code_a h.mm fn pc
theorem WM.Ask_a (h:WM q L k jw jc pl0 σ0 pl σ x) (e:Ef) (hk:1≤e.k∧e.k≤4):FnG Tryz.prog 156 [.ref jc 0 0,.agg (aEf e)] σ fun a σ'=>a=.tup [aInt (askD x.2.data e).1,aBool (askD x.2.data e).2.1]∧WM q L k jw jc pl0 σ0 pl σ' (x.1,{ x.2 with data:=(askD x.2.data e).2.2 })∧Ext pl pl σ σ':=by rw[←h.ec];exact FnG.mono (core_Ask_a h.mm e hk) fun _ σ' ⟨e,hm,hx⟩=>⟨e,⟨hm,h.kl,h.ew,rfl,h.ex.trans hx⟩,hx⟩
theorem WM.at_a (h:WM q L k jw jc pl0 σ0 pl σ x) (id:Int):FnG Tryz.prog 149 [.ref jc 0 0,.v (.int .i64 id)] σ fun a σ'=>(∃i off,a=.ref i 0 off∧FP σ0.length pl σ' x.2 id (x.2.at id) i off)∧WM q L k jw jc pl0 σ0 pl σ' x∧Ext pl pl σ σ':=by rw[←h.ec];refine FnG.mono (Y00 h.mm (.refl pl σ) id) ?_;rintro a σ' ⟨⟨i,off,rfl,hf⟩,hm,hx⟩;exact ⟨⟨i,off,rfl,hf.cs,hf.wh.imp (fun w=>w) fun ⟨a1,a2,a3⟩=>⟨a1,a2,Nat.le_trans h.ex.len a3⟩⟩,⟨hm,h.kl,h.ew,rfl,h.ex.trans hx⟩,hx⟩
theorem WM.frame_a (h:WM q L k jw jc pl0 σ0 pl σ x):FnG Tryz.prog 147 [.ref jw 0 0,.ref jc 0 0] σ fun a σ'=>(∃i off,a=.ref i 0 off∧FP σ0.length pl σ' x.2 x.1.holds (x.2.at x.1.holds) i off)∧WM q L k jw jc pl0 σ0 pl σ' x∧Ext pl pl σ σ':=by rw[←h.ec,←h.ew];refine FnG.mono (Y24 h.mm (.refl pl σ) h.hk) ?_;rintro a σ' ⟨⟨i,off,rfl,hf⟩,hm,hx⟩;exact ⟨⟨i,off,rfl,hf.cs,hf.wh.imp (fun w=>w) fun ⟨a1,a2,a3⟩=>⟨a1,a2,Nat.le_trans h.ex.len a3⟩⟩,⟨hm,h.kl,rfl,rfl,h.ex.trans hx⟩,hx⟩
theorem FP.ext {n:Nat} {s s':Cs} {id:Int} {f:Fm} {i off:Nat} (hf:FP n pl σ s id f i off) {pl':Pl} {σ':Kx.St} {L':List Wk} (X:Ext pl pl' σ σ') (M:MM q pl' σ' L' s') (hfr:s'.fr=s.fr) (hh:s'.held=s.held):FP n pl' σ' s' id f i off:=by
 have e:s'.isHeld id=s.isHeld id:=by unfold Cs.isHeld;rw[hh]
 rcases hf.wh with ⟨w1,w2,w3,w4⟩|⟨w1,w2,w3⟩
 ·have M4:s'.fr[id.toNat]?=some f:=by rw[hfr];exact w4
  refine ⟨⟨_,_,by rw[w2,←X.fix _ rfl];exact M.fl,by rw[w3];exact QQ Q16 M4,?_⟩,.inl ⟨e.trans w1,by rw[w2,X.fix _ rfl],w3,M4⟩⟩;rw[fr_len];have:=Qh M4;omega
 ·obtain ⟨cs,t,h1,h2,h3⟩:=hf.cs;refine ⟨⟨cs,t,by rw[X.keep i (Qh h1) w2];exact h1,h2,h3⟩,.inr ⟨e.trans w1,fun ro=>?_,w3⟩⟩;rcases X.new ro with e2|e2
  ·rw[e2];exact w2 ro
  ·have:=Qh h1;omega
theorem WM.turn (h:WM q L k jw jc pl0 σ0 pl σ x) {id:Int} {f f':Fm} {i off:Nat} (hf:FP σ0.length pl σ x.2 id f i off) (hr:f'.regs.length=8) {cs cs':List AV} (hcs:σ[i]?=some (.obj 0 cs)) (hl:cs'.length=cs.length)
  (hc:∀A B,A.length=off→cs=A++aFm f++B→cs'=A++aFm f'++B):WM q L k jw jc pl0 σ0 pl (σ.set i (.obj 0 cs')) (x.1,x.2.setFr id f')∧FP σ0.length pl (σ.set i (.obj 0 cs')) (x.2.setFr id f') id f' i off:=by
 obtain ⟨h1,h2,h3⟩:=FP.turn h.mm h.ex hf hr hcs hl hc;exact ⟨⟨h1,h.kl,h.ew,h.ec,h3⟩,h2⟩
theorem Q43 (h:WM q L k jw jc pl0 σ0 pl σ x) {P:Program} {K:AV→Kx.St→Prop} {id:Int} {f f':Fm} {i off j:Nat} {a:AV} (hf:FP σ0.length pl σ x.2 id f i off) (hr:f'.regs.length=8) (ha:a.cells=[a]) (h1:a.one=true) (hj:j < 19) (hs:(aFm f).set j a=aFm f')
  (hk:∀σ',WM q L k jw jc pl0 σ0 pl σ' (x.1,x.2.setFr id f')→FP σ0.length pl σ' (x.2.setFr id f') id f' i off→act (K (.v undef) σ')):act (EF.awp P (.st 1) [.ref i 0 (off+j),a] σ K):=by
 obtain ⟨cs,hcs,_,_,_,hlen⟩:=hf.get;refine Q9 ha h1 hcs ka ?_;obtain ⟨g1,g2⟩:=h.turn hf hr hcs (List.length_set) (fm_set1 hj hs);exact hk _ g1 g2
theorem XM (h:WM q L k jw jc pl0 σ0 pl σ x) {P:Program} {K:AV→Kx.St→Prop} {id:Int} {f:Fm} {i off:Nat} {rs:List Int} (hf:FP σ0.length pl σ x.2 id f i off) (hr:rs.length=8)
  (hk:∀σ',WM q L k jw jc pl0 σ0 pl σ' (x.1,x.2.setFr id { f with regs:=rs })→FP σ0.length pl σ' (x.2.setFr id { f with regs:=rs }) id { f with regs:=rs } i off→act (K (.v undef) σ')):act (EF.awp P (.st 8) [.ref i 0 (off+3),.agg (aRg rs)] σ K):=by
 obtain ⟨cs,hcs,_,_,_,hlen⟩:=hf.get;refine Qd (YD rs) rfl hcs ka ?_;obtain ⟨g1,g2⟩:=h.turn hf (f':={ f with regs:=rs }) hr hcs (X13 ..) (fm_setR rs);exact hk _ g1 g2
end
end Go.Proofs.YtelibaobkcokdaaGreat.Mx
