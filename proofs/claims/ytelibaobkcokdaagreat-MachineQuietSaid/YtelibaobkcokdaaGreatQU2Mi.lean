/- The machine: where all of it lies. -/
import Derived.Test.YtelibaobkcokdaaGreatQU2Mh
namespace Go.Proofs.YtelibaobkcokdaaGreat.Mx
set_option linter.unusedSectionVars false
set_option linter.unusedVariables false
set_option linter.unusedSimpArgs false
open Go Go.Kx Go.Proofs Go.Proofs.YtelibaobkcokdaaGreat
set_option maxRecDepth 8000
inductive Ro where
 | c|sw|w|sd|d|t|fl|ar|hl|bk|so|ot|lo|lt|wk (i:Nat)|dq (i:Nat)|rt (i:Nat)|pk (i:Nat)|wa (i:Nat)|np (i:Nat)
 deriving DecidableEq
def Ro.fix:Ro→Bool
 | .bk|.ot|.lt|.dq _|.rt _|.pk _|.wa _|.np _=>false
 | _=>true
structure Pl where
 p:Ro→Nat
 bg:Option (Nat×List AV)
 ov:Option Nat
 lv:Option Nat
 ft:Tok
def Pl.put (pl:Pl) (r:Ro) (n:Nat):Pl:={ pl with p:=fun x=>if x=r then n else pl.p x }
theorem Qi (pl:Pl) (r:Ro) (n:Nat):(pl.put r n).p r=n:=if_pos rfl
theorem Q01 {pl:Pl} {r x:Ro} {n:Nat} (h:x≠r):(pl.put r n).p x=pl.p x:=if_neg h
def aVt (e:Vt):List AV:=[.v (.int .i64 e.kind),.v (.int .i64 e.loop),.v (.int .i64 e.iter),.v (.int .i64 e.stage)]
theorem aVt_len (e:Vt):(aVt e).length=4:=rfl
def tokT (o:Option Nat) (i sz:Nat):Tok:=match o with|none=>.nil|some v=>.id i v sz
def aCore (q:Pm) (pl:Pl) (s:Cs):List AV:=
 [.sl q.fs.length (q.fs.map aIxs) pl.ft,.v (.int .i64 q.W),.v (.int .i64 q.T),.v (.int .i64 q.F),.v (.int .i64 q.D),.v (.int .i64 q.O),.v (.bool q.fold),.v (.bool q.lazy),
  .ref (pl.p .sw) 0 0,.ref (pl.p .sd) 0 0,.ref (pl.p .t) 0 0,.ref (pl.p .so) 0 0,.ref (pl.p .lo) 0 0,
  .v (.int .i64 s.steps),.v (.int .i64 s.probes),.v (.int .i64 s.steals),.v (.int .i64 s.parks),.v (.int .i64 s.naps),.v (.int .i64 s.folds),.v (.int .i64 0),.v (.int .i64 s.serial),.v (.int .i64 s.status),.v (.int .i64 s.why)]
def aTb (q:Pm) (pl:Pl) (s:Cs):List AV:=[.v (.int .i64 q.W),.v (.int .i64 q.F),.v (.int .i64 q.T),.v (.int .i64 q.D),.ref (pl.p .sw) 0 0,.ref (pl.p .ar) 0 0,.ms (pl.p .fl) 0 0 s.fr.length 19]
def aPtr {α:Type} (o:Option α) (j:Nat):AV:=match o with|none=>.v (.pointer none)|some _=>.ref j 0 0
def aTh (jw:Nat):Th→AV
 | .none=>.v .nilFunc
 | .looksOn=>.fn (.func 167) 1 [.ref jw 0 0]
 | .decide=>.fn (.func 169) 1 [.ref jw 0 0]
 | .stop=>.fn (.func 172) 1 [.ref jw 0 0]
 | .runs id=>.fn (.func 163) 0 [.ep [.ref jw 0 0],.ep [.v (.int .i64 id)]]
 | .takes id=>.fn (.func 290) 0 [.ep [.ref jw 0 0],.ep [.v (.int .i64 id)]]
theorem aTh_one (j:Nat) (t:Th):(aTh j t).cells=[aTh j t]∧(aTh j t).one=true:=by cases t<;>exact ⟨rfl,rfl⟩
def aWk (pl:Pl) (k:Nat) (w:Wk):List AV:=
 [.v (.int .i64 w.own),.v (.int .i64 w.state),.v (.int .i64 w.holds),.v (.int .i64 w.tail),.v (.int .i64 w.probed),aPtr w.dq (pl.p (.dq k)),aTh (pl.p (.wk k)) w.th,.v (.int .i64 w.other),
  .v (.int .i64 w.gStage),.v (.bool w.gWaits),.v (.bool w.gLooked),.v (.int .i64 w.gWhy),.v (.bool w.eHeld),.v (.bool w.eBreaks),.v (.int .i64 w.eRight),.v (.bool w.eWoken),
  aPtr w.right (pl.p (.rt k)),aPtr w.park (pl.p (.pk k)),aPtr w.wake (pl.p (.wa k)),aPtr w.nap (pl.p (.np k))]
def bgOf (pl:Pl):Bg:=pl.bg.map fun x=>(pl.p .bk,x.1,x.2)
def img (q:Pm) (pl:Pl) (L:List Wk) (s:Cs):Ro→Option Res
 | .c=>some (.obj 0 (aCore q pl s))
 | .sw=>some (.obj 0 [.ms (pl.p .w) 0 0 s.ws.length 1,.v .nilFunc])
 | .w=>some (.obj 0 (s.ws.map aInt))
 | .sd=>some (.obj 0 [.ms (pl.p .d) 0 0 s.data.length 1,.v .nilFunc])
 | .d=>some (.obj 0 (s.data.map aInt))
 | .t=>some (.obj 0 (aTb q pl s))
 | .fl=>some (.obj 0 (s.fr.flatMap aFm))
 | .ar=>some (.obj 0 (aAr (pl.p .hl) s.held (aBk (bgOf pl) s.back) s.fresh s.peak))
 | .hl=>some (.obj 0 (s.held.map aBool))
 | .bk=>pl.bg.map fun x=>.obj x.1 x.2
 | .so=>some (.obj 0 [.sl s.out.length (s.out.map aInt) (tokT pl.ov (pl.p .ot) 1),.v (.int .i64 q.O)])
 | .ot=>pl.ov.map .tail
 | .lo=>some (.obj 0 [.sl s.log.length (s.log.flatMap aVt) (tokT pl.lv (pl.p .lt) 4)])
 | .lt=>pl.lv.map .tail
 | .wk k=>L[k]?.map fun w=>.obj 0 (aWk pl k w)
 | .dq k=>L[k]?.bind fun w=>w.dq.map fun d=>.obj 0 (aDq q (pl.p (.dq k)) d)
 | .rt k=>L[k]?.bind fun w=>w.right.map fun d=>.obj 0 (aRt q d)
 | .pk k=>L[k]?.bind fun w=>w.park.map fun d=>.obj 0 (aPk q d)
 | .wa k=>L[k]?.bind fun w=>w.wake.map fun d=>.obj 0 (aTw q d [.v (.bool d.looks)])
 | .np k=>L[k]?.bind fun w=>w.nap.map fun d=>.obj 0 (aTw q d [])
structure Sd (q:Pm) (pl:Pl) (L:List Wk) (s:Cs):Prop where
 ok:q.Ok
 ws:(s.ws.length:Int)=q.size
 fr:(s.fr.length:Int)=q.F+1
 hl:s.held.length=s.fr.length
 rg:∀f∈s.fr,f.regs.length=8
 bk:match pl.bg with|none=>s.back=[]|some (_,cs)=>s.back.length≤cs.length∧cs.take s.back.length=s.back.map aInt
 ib:∀x∈s.back,0≤x∧x < s.held.length
 f0:0≤s.fresh∧s.fresh≤1000000
 o0:pl.ov=none↔s.out=[]
 l0:pl.lv=none↔s.log=[]
 ol:s.out.length≤1000
 dt:s.data.length≤1000
 dq:∀(k:Nat) (w:Wk) (d:Dq),L[k]?=some w→w.dq=some d→DqOk q d
 fs:q.fs.length≤1000∧∀l∈q.fs,l.length≤1000
structure MM (q:Pm) (pl:Pl) (σ:Kx.St) (L:List Wk) (s:Cs):Prop where
 at_:∀ro r,img q pl L s ro=some r→σ[pl.p ro]?=some r
 inj:∀a b,(img q pl L s a).isSome=true→(img q pl L s b).isSome=true→pl.p a=pl.p b→a=b
 sd:Sd q pl L s
 lt:∀ro,pl.p ro < σ.length
structure Ext (pl pl':Pl) (σ σ':Kx.St):Prop where
 len:σ.length≤σ'.length
 keep:∀j,j < σ.length→(∀ro,pl.p ro≠j)→σ'[j]?=σ[j]?
 new:∀ro,pl'.p ro=pl.p ro∨σ.length≤pl'.p ro
 fix:∀ro,ro.fix=true→pl'.p ro=pl.p ro
theorem Ext.refl (pl:Pl) (σ:Kx.St):Ext pl pl σ σ:=⟨Nat.le_refl _,fun _ _ _=>rfl,fun _=>.inl rfl,fun _ _=>rfl⟩
theorem Ext.trans {pl pl' pl'':Pl} {σ σ' σ'':Kx.St} (h:Ext pl pl' σ σ') (k:Ext pl' pl'' σ' σ''):Ext pl pl'' σ σ'':=by
 have h0:=h.len
 have k0:=k.len
 refine ⟨by omega,fun j hj hp=>?_,fun ro=>?_,fun ro hr=>(k.fix ro hr).trans (h.fix ro hr)⟩
 ·rw[k.keep j (by omega) fun ro=>?_,h.keep j hj hp]
  rcases h.new ro with e|e
  ·rw[e];exact hp ro
  ·omega
 ·rcases k.new ro with e|e
  ·rcases h.new ro with f|f
   ·exact .inl (e.trans f)
   ·exact .inr (by omega)
  ·exact .inr (by omega)
theorem Ext.app (pl:Pl) (σ τ:Kx.St):Ext pl pl σ (σ++τ):=⟨by simp,fun j hj _=>List.getElem?_append_left hj,fun _=>.inl rfl,fun _ _=>rfl⟩
theorem Ext.set (pl:Pl) (σ:Kx.St) (ro:Ro) (r:Res):Ext pl pl σ (σ.set (pl.p ro) r):=⟨by simp,fun j hj hp=>List.getElem?_set_ne (hp ro),fun _=>.inl rfl,fun _ _=>rfl⟩
def Out (q:Pm) (pl:Pl) (σ σ':Kx.St) (L:List Wk) (s:Cs):Prop:=∃pl',MM q pl' σ' L s∧Ext pl pl' σ σ'
section
variable {q:Pm} {pl:Pl} {σ:Kx.St} {L:List Wk} {s:Cs}
theorem Out.of (h:MM q pl σ L s):Out q pl σ σ L s:=⟨pl,h,.refl _ _⟩
theorem MM.app (h:MM q pl σ L s) (τ:Kx.St):MM q pl (σ++τ) L s:=⟨fun ro r e=>Qj (h.at_ ro r e),h.inj,h.sd,fun ro=>by have:=h.lt ro;rw[List.length_append];omega⟩
theorem MM.ne (h:MM q pl σ L s) {a b:Ro} (ha:(img q pl L s a).isSome=true) (hb:(img q pl L s b).isSome=true) (hab:a≠b):pl.p a≠pl.p b:=fun e=>hab (h.inj a b ha hb e)
theorem MM.c (h:MM q pl σ L s):σ[pl.p .c]?=some (.obj 0 (aCore q pl s)):=h.at_ .c _ rfl
theorem MM.tb (h:MM q pl σ L s):σ[pl.p .t]?=some (.obj 0 (aTb q pl s)):=h.at_ .t _ rfl
theorem MM.fl (h:MM q pl σ L s):σ[pl.p .fl]?=some (.obj 0 (s.fr.flatMap aFm)):=h.at_ .fl _ rfl
theorem MM.hl (h:MM q pl σ L s):σ[pl.p .hl]?=some (.obj 0 (s.held.map aBool)):=h.at_ .hl _ rfl
theorem MM.ar (h:MM q pl σ L s):σ[pl.p .ar]?=some (.obj 0 (aAr (pl.p .hl) s.held (aBk (bgOf pl) s.back) s.fresh s.peak)):=h.at_ .ar _ rfl
theorem MM.wk (h:MM q pl σ L s) {k:Nat} {w:Wk} (hk:L[k]?=some w):σ[pl.p (.wk k)]?=some (.obj 0 (aWk pl k w)):=h.at_ (.wk k) _ (by simp[img,hk])
theorem MM.words (h:MM q pl σ L s):Wd σ (pl.p .sw) (pl.p .w) s.ws:=⟨h.at_ .sw _ rfl,h.at_ .w _ rfl,h.ne rfl rfl (by decide)⟩
theorem MM.datas (h:MM q pl σ L s):Wd σ (pl.p .sd) (pl.p .d) s.data:=⟨h.at_ .sd _ rfl,h.at_ .d _ rfl,h.ne rfl rfl (by decide)⟩
theorem MM.arena (h:MM q pl σ L s):ArAt σ (pl.p .ar) (pl.p .hl) (bgOf pl) s.held s.back s.fresh s.peak:=by
 have hq:=h.sd.ok
 obtain ⟨_,_,⟨f1,f2⟩,_⟩:=hq
 have h1:=h.sd.fr
 have h2:=h.sd.hl
 refine ⟨h.ar,h.hl,?_,h.ne rfl rfl (by decide),by omega,h.sd.ib,h.sd.f0⟩
 have hb:=h.sd.bk
 unfold bgOf
 cases e:pl.bg with
 | none=>rw[e] at hb;exact hb
 | some x=>
  obtain ⟨v,cs⟩:=x
  rw[e] at hb
  have hs:(img q pl L s .bk).isSome=true:=by simp[img,e]
  exact ⟨h.at_ .bk _ (by simp[img,e]),hb.1,hb.2,h.ne hs rfl (by decide),h.ne hs rfl (by decide)⟩
theorem MM.upd1 (h:MM q pl σ L s) {pl':Pl} {L':List Wk} {s':Cs} {ro0:Ro} {r0:Res} (hp:pl'.p=pl.p) (h0:(img q pl L s ro0).isSome=true) (h1:img q pl' L' s' ro0=some r0)
  (h2:∀ro,ro≠ro0→img q pl' L' s' ro=img q pl L s ro) (sd:Sd q pl' L' s'):MM q pl' (σ.set (pl.p ro0) r0) L' s':=by
 have hs:∀ro,(img q pl' L' s' ro).isSome=true→(img q pl L s ro).isSome=true:=fun ro e=>by
  by_cases hr:ro=ro0
  ·subst hr;exact h0
  ·rw[←h2 ro hr];exact e
 obtain ⟨x,hx⟩:=Option.isSome_iff_exists.1 h0
 refine ⟨fun ro r e=>?_,fun a b ha hb e=>h.inj a b (hs a ha) (hs b hb) (by rw[←hp];exact e),sd,fun ro=>by rw[hp,List.length_set];exact h.lt ro⟩
 rw[hp]
 by_cases hr:ro=ro0
 ·subst hr
  rw[h1] at e;cases e
  exact Qa (h.at_ _ _ hx)
 ·have e2:img q pl L s ro=some r:=by rw[←h2 ro hr];exact e
  rw[List.getElem?_set_ne fun e3=>hr (h.inj ro ro0 (by rw[e2];rfl) h0 e3.symm)]
  exact h.at_ _ _ e2
theorem MM.core (h:MM q pl σ L s) {s':Cs} (e:s'={ s with steps:=s'.steps,probes:=s'.probes,steals:=s'.steals,parks:=s'.parks,naps:=s'.naps,folds:=s'.folds,serial:=s'.serial,status:=s'.status,why:=s'.why }):
  MM q pl (σ.set (pl.p .c) (.obj 0 (aCore q pl s'))) L s':=by
 rw[e]
 refine h.upd1 rfl rfl rfl (fun ro hro=>?_) ⟨h.sd.ok,h.sd.ws,h.sd.fr,h.sd.hl,h.sd.rg,h.sd.bk,h.sd.ib,h.sd.f0,h.sd.o0,h.sd.l0,h.sd.ol,h.sd.dt,h.sd.dq,h.sd.fs⟩
 cases ro<;>first|rfl|exact absurd rfl hro
theorem MM.setW (h:MM q pl σ L s) {ws:List Int} (hl:ws.length=s.ws.length):MM q pl (σ.set (pl.p .w) (.obj 0 (ws.map aInt))) L (s.setW ws):=by
 refine h.upd1 rfl rfl rfl (fun ro hro=>?_) ⟨h.sd.ok,by simp only[Cs.setW,hl];exact h.sd.ws,h.sd.fr,h.sd.hl,h.sd.rg,h.sd.bk,h.sd.ib,h.sd.f0,h.sd.o0,h.sd.l0,h.sd.ol,h.sd.dt,h.sd.dq,h.sd.fs⟩
 cases ro<;>first|rfl|exact absurd rfl hro|(simp only[img,Cs.setW,hl])
theorem MM.setD (h:MM q pl σ L s) {d:List Int} (hl:d.length=s.data.length):MM q pl (σ.set (pl.p .d) (.obj 0 (d.map aInt))) L { s with data:=d }:=by
 refine h.upd1 rfl rfl rfl (fun ro hro=>?_) ⟨h.sd.ok,h.sd.ws,h.sd.fr,h.sd.hl,h.sd.rg,h.sd.bk,h.sd.ib,h.sd.f0,h.sd.o0,h.sd.l0,h.sd.ol,by simp only[hl];exact h.sd.dt,h.sd.dq,h.sd.fs⟩
 cases ro<;>first|rfl|exact absurd rfl hro|(simp only[img,hl])
theorem MM.setWk (h:MM q pl σ L s) {k:Nat} {w w':Wk} (hk:L[k]?=some w) (e:w'.dq=w.dq∧w'.right=w.right∧w'.park=w.park∧w'.wake=w.wake∧w'.nap=w.nap):
  MM q pl (σ.set (pl.p (.wk k)) (.obj 0 (aWk pl k w'))) (L.set k w') s:=by
 obtain ⟨e1,e2,e3,e4,e5⟩:=e
 have hkl:=Qe hk
 have hself:(L.set k w')[k]?=some w':=List.getElem?_set_self hkl
 refine h.upd1 rfl (by simp[img,hk]) (by simp[img,hself]) (fun ro hro=>?_) ⟨h.sd.ok,h.sd.ws,h.sd.fr,h.sd.hl,h.sd.rg,h.sd.bk,h.sd.ib,h.sd.f0,h.sd.o0,h.sd.l0,h.sd.ol,h.sd.dt,fun j v d hv hd=>?_,h.sd.fs⟩
 ·cases ro with
  | wk j=>
   have hj:k≠j:=fun e=>hro (by rw[e])
   simp only[img,List.getElem?_set_ne hj]
  | dq j|rt j|pk j|wa j|np j=>
   by_cases hj:k=j
   ·subst hj;simp only[img,hself,hk,Option.bind_some,e1,e2,e3,e4,e5]
   ·simp only[img,List.getElem?_set_ne hj]
  | _=>rfl
 ·by_cases hj:k=j
  ·subst hj
   rw[hself] at hv;cases hv
   exact h.sd.dq k w d hk (by rw[←e1];exact hd)
  ·rw[List.getElem?_set_ne hj] at hv
   exact h.sd.dq j v d hv hd
end
end Go.Proofs.YtelibaobkcokdaaGreat.Mx
