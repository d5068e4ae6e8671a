/- The machine: frames that are held; what is noted, and emitted. -/
import Derived.Test.YtelibaobkcokdaaGreatQU2Mj
import Derived.Test.YtelibaobkcokdaaGreatQU2Cb
namespace Go.Proofs.YtelibaobkcokdaaGreat.Mx
set_option linter.unusedSectionVars false
set_option linter.unusedVariables false
set_option linter.unusedSimpArgs false
open Go Go.Kx Go.Proofs Go.Proofs.YtelibaobkcokdaaGreat
set_option maxRecDepth 8000
theorem cells8b (rs:List Int) (t:List AV):cellsA (some 8) (aRg rs++t)=some (.agg (aRg rs)):=by rw[Z86 _ _ (by simp[Q18])];rfl
structure FP (n:Nat) (pl:Pl) (σ:Kx.St) (s:Cs) (id:Int) (f:Fm) (i off:Nat):Prop where
 cs:∃cs t,σ[i]?=some (.obj 0 cs)∧cs.drop off=aFm f++t∧off+19≤cs.length
 wh:(s.isHeld id=true∧i=pl.p .fl∧off=id.toNat * 19∧s.fr[id.toNat]?=some f)∨(s.isHeld id=false∧(∀ro,pl.p ro≠i)∧n≤i)
theorem FP.get {n:Nat} {pl:Pl} {σ:Kx.St} {s:Cs} {id:Int} {f:Fm} {i off:Nat} (h:FP n pl σ s id f i off):∃cs,σ[i]?=some (.obj 0 cs)∧(∀j x,(aFm f)[j]?=some x→cs[off+j]?=some x)∧cellsA (some 8) (cs.drop (off+3))=some (.agg (aRg f.regs))∧cellsA (some 19) (cs.drop off)=some (.agg (aFm f))∧off+19≤cs.length:=by
 obtain ⟨cs,t,h1,h2,h3⟩:=h.cs
 refine ⟨cs,h1,fun j x hx=>?_,?_,?_,h3⟩
 ·rw[←List.getElem?_drop,h2,List.getElem?_append_left (Qe hx)];exact hx
 ·rw[←List.drop_drop,h2]
  have:(aFm f++t).drop 3=aRg f.regs++(aFm f++t).drop 11:=rfl
  rw[this]
  exact cells8b _ _
 ·rw[h2,Z86 _ _ (by simp[Q03])];rfl
theorem Q22 {s:Cs} {id:Int}:s.isHeld id=heldL s.held id:=rfl
section
variable {q:Pm} {pl:Pl} {σ:Kx.St} {L:List Wk} {s:Cs}
theorem MM.at_held (h:MM q pl σ L s) {id:Int} (hh:s.isHeld id=true):0 < id∧id < s.fr.length∧s.fr[id.toNat]?=some (s.at id):=by
 obtain ⟨h1,h2,h3⟩:=J99 (Q22 ▸ hh)
 have hl:=h.sd.hl
 obtain ⟨x,hx⟩:=Q09 (l:=s.fr) (k:=id.toNat) (by omega)
 refine ⟨h1,by omega,?_⟩
 unfold Cs.at
 rw[if_pos hh,List.getD_eq_getElem?_getD,hx];rfl
theorem MM.fp (h:MM q pl σ L s) (n:Nat) {id:Int} (hh:s.isHeld id=true):FP n pl σ s id (s.at id) (pl.p .fl) (id.toNat * 19):=by
 obtain ⟨h1,h2,h3⟩:=h.at_held hh
 refine ⟨⟨_,_,h.fl,QH Q03 h3,?_⟩,.inl ⟨hh,rfl,rfl,h3⟩⟩
 rw[fr_len]
 have:=Qe h3
 omega
theorem J28 (h:MM q pl σ L s) (id:Int):(s.at id).regs.length=8:=by
 unfold Cs.at
 split
 ·rename_i hh
  obtain ⟨h1,h2,h3⟩:=h.at_held hh
  rw[List.getD_eq_getElem?_getD,h3]
  exact h.sd.rg _ (List.mem_of_getElem? h3)
 ·rfl
theorem FP.turn (h:MM q pl σ L s) {pl0:Pl} {σ0:Kx.St} (hx:Ext pl0 pl σ0 σ) {id:Int} {f f':Fm} {i off:Nat} (hf:FP σ0.length pl σ s id f i off) (hr:f'.regs.length=8) {cs cs':List AV} (hcs:σ[i]?=some (.obj 0 cs)) (hl:cs'.length=cs.length)
  (hc:∀A B,A.length=off→cs=A++aFm f++B→cs'=A++aFm f'++B):MM q pl (σ.set i (.obj 0 cs')) L (s.setFr id f')∧FP σ0.length pl (σ.set i (.obj 0 cs')) (s.setFr id f') id f' i off∧Ext pl0 pl σ0 (σ.set i (.obj 0 cs')):=by
 obtain ⟨cs0,t,h1,h2,h3⟩:=hf.cs
 rw[hcs] at h1;cases h1
 have hsplit:cs=cs.take off++aFm f++t:=by rw[List.append_assoc,←h2,List.take_append_drop]
 have hcs':=hc (cs.take off) t (by rw[List.length_take];omega) hsplit
 have hd':cs'.drop off=aFm f'++t:=by
  rw[hcs',List.append_assoc,List.drop_append_of_le_length (by rw[List.length_take];omega),List.drop_of_length_le (by rw[List.length_take];omega),List.nil_append]
 rcases hf.wh with ⟨w1,w2,w3,w4⟩|⟨w1,w2,w3⟩
 ·subst w2
  have hfl:=h.fl
  rw[hcs] at hfl
  have ecs:cs=s.fr.flatMap aFm:=by cases hfl;rfl
  have hlt:=Qe w4
  have e:s.setFr id f'={ s with fr:=s.fr.set id.toNat f' }:=if_pos w1
  have hnew:cs'=(s.fr.set id.toNat f').flatMap aFm:=by
   rw[←fm_setAll s.fr hlt f',←ecs,hsplit,hcs',w3.symm,List.append_assoc,List.append_assoc]
   have:=X25 (cs.take off) [] 0 (aFm f') (aFm f++t) 0
   rw[Nat.add_zero,List.length_take,Nat.min_eq_left (by omega)] at this
   rw[this,X04 (aFm f') (aFm f) t rfl]
  rw[e]
  have hMM:MM q pl (σ.set (pl.p .fl) (.obj 0 cs')) L { s with fr:=s.fr.set id.toNat f' }:=by
   rw[hnew]
   refine h.upd1 rfl rfl rfl (fun ro hro=>?_) ⟨h.sd.ok,h.sd.ws,by simp only[List.length_set];exact h.sd.fr,by simp only[List.length_set];exact h.sd.hl,fun g hg=>?_,h.sd.bk,h.sd.ib,h.sd.f0,h.sd.o0,h.sd.l0,h.sd.ol,h.sd.dt,h.sd.dq,h.sd.fs⟩
   ·cases ro<;>first|rfl|exact absurd rfl hro|(simp only[img,aTb,List.length_set])
   ·rcases List.mem_or_eq_of_mem_set hg with hg|rfl
    ·exact h.sd.rg g hg
    ·exact hr
  exact ⟨hMM,⟨⟨_,_,Qa hcs,hd',by omega⟩,.inl ⟨w1,rfl,w3,by simp only[List.getElem?_set_self hlt]⟩⟩,hx.trans (Ext.set ..)⟩
 ·have e:s.setFr id f'=s:=if_neg (by rw[w1];simp)
  rw[e]
  refine ⟨⟨fun ro r er=>?_,h.inj,h.sd,fun ro=>by rw[List.length_set];exact h.lt ro⟩,⟨⟨_,_,Qa hcs,hd',by omega⟩,.inr ⟨w1,w2,w3⟩⟩,⟨by simpa using hx.len,fun j hj hp=>?_,hx.new,hx.fix⟩⟩
  ·rw[List.getElem?_set_ne fun e=>w2 ro e.symm];exact h.at_ ro r er
  ·rw[List.getElem?_set_ne (by omega)];exact hx.keep j hj hp
theorem fm_set1 {f f':Fm} {j:Nat} {x:AV} (hj:j < 19) (hx:(aFm f).set j x=aFm f') {cs:List AV} {off:Nat}:∀A B,A.length=off→cs=A++aFm f++B→cs.set (off+j) x=A++aFm f'++B:=by
 intro A B hA e
 subst hA
 rw[e,List.append_assoc,List.set_append_right _ _ (by omega),show A.length+j - A.length=j by omega,List.set_append_left _ _ (by rw[Q03];exact hj),hx,List.append_assoc]
theorem fm_setR {f:Fm} (rs:List Int) {cs:List AV} {off:Nat}:∀A B,A.length=off→cs=A++aFm f++B→setAtA cs (off+3) (aRg rs)=A++aFm { f with regs:=rs }++B:=by
 intro A B hA e
 subst hA
 rw[e,List.append_assoc,X25 A [] 3,setAtA_left [] _ _ _ _ (by rw[Q03,Q18];decide),List.append_assoc]
 rfl
theorem J62 (h:MM q pl σ L s) (id:Int):FnG Tryz.prog 115 [.ref (pl.p .t) 0 0,.v (.int .i64 id)] σ fun a σ'=>a=(if s.isHeld id then .ref (pl.p .fl) 0 (id.toNat * 19) else .v (.pointer none))∧σ'=σ:=by
 refine Q2 Y93 mixed rfl ?_
 simp only[Xs]
 have hT:=h.tb
 have hA:=h.arena
 push_cast (maxSteps:=999999) -implicitDefEqProofs (disch:=omega)[hT]
 refine Q0 (Y71 hA.ar hA.hl (by have:=hA.len;omega) id) ?_
 rintro a σ' ⟨rfl,hs⟩
 rw[hs];clear hs
 rw[←Q22]
 cases c:s.isHeld id with
 | false=>
  push_cast (maxSteps:=999999) -implicitDefEqProofs (disch:=omega)[aBool]
  exact trivial
 | true=>
  obtain ⟨h1,h2,h3⟩:=h.at_held c
  push_cast (maxSteps:=999999) -implicitDefEqProofs (disch:=omega)[aBool,hT]
  first|exact trivial|exact ⟨rfl,trivial⟩
theorem J06 (h:MM q pl σ L s) {pl0:Pl} {σ0:Kx.St} (hx:Ext pl0 pl σ0 σ) (id:Int):FnG Tryz.prog 149 [.ref (pl.p .c) 0 0,.v (.int .i64 id)] σ fun a σ'=>(∃i off,a=.ref i 0 off∧FP σ0.length pl σ' s id (s.at id) i off)∧MM q pl σ' L s∧Ext pl0 pl σ0 σ':=by
 refine Q2 K_worker_at mixed rfl ?_
 simp only[J04]
 push_cast (maxSteps:=999999) -implicitDefEqProofs (disch:=omega)
 refine Q0 (ZD h) ?_
 rintro a σ' ⟨rfl,hs⟩
 rw[hs];clear hs
 push_cast (maxSteps:=999999) -implicitDefEqProofs (disch:=omega)
 refine Q0 (J62 h id) ?_
 rintro a σ' ⟨rfl,hs⟩
 rw[hs];clear hs
 cases c:s.isHeld id with
 | true=>
  push_cast (maxSteps:=999999) -implicitDefEqProofs (disch:=omega)
  exact ⟨⟨_,_,rfl,h.fp _ c⟩,h,hx⟩
 | false=>
  have e0:s.at id=fm0:=if_neg (by rw[c];simp)
  rw[e0]
  push_cast (maxSteps:=999999) -implicitDefEqProofs (disch:=omega)
  rw[show [AV.v (.int .i64 0),AV.v (.int .i64 0),AV.v (.int .i64 0),AV.v (.int .i64 0),AV.v (.int .i64 0),AV.v (.int .i64 0),AV.v (.int .i64 0),AV.v (.int .i64 0),AV.v (.int .i64 0),AV.v (.int .i64 0),AV.v (.int .i64 0),AV.v (.int .i64 0),AV.v (.bool false),AV.v (.bool false),AV.v (.int .i64 0),AV.v (.int .i64 0),AV.v (.int .i64 0),AV.v (.int .i64 0),AV.v (.int .i64 0)]=aFm fm0 from rfl]
  refine Qn ?_
  push_cast (maxSteps:=999999) -implicitDefEqProofs (disch:=omega)
  exact ⟨⟨σ.length,0,rfl,⟨_,[],Qc _ _,by simp,by simp[Q03]⟩,.inr ⟨c,fun ro=>by have:=h.lt ro;omega,hx.len⟩⟩,h.app _,hx.trans (Ext.app ..)⟩
theorem J29 (h:MM q pl σ L s) {pl0:Pl} {σ0:Kx.St} (hx:Ext pl0 pl σ0 σ) {k:Nat} {w:Wk} (hk:L[k]?=some w):FnG Tryz.prog 147 [.ref (pl.p (.wk k)) 0 0,.ref (pl.p .c) 0 0] σ fun a σ'=>(∃i off,a=.ref i 0 off∧FP σ0.length pl σ' s w.holds (s.at w.holds) i off)∧MM q pl σ' L s∧Ext pl0 pl σ0 σ':=by
 refine Q2 X11 mixed rfl ?_
 simp only[Q82]
 have hw:=h.wk hk
 have g2:(aWk pl k w)[2]?=some (.v (.int .i64 w.holds)):=rfl
 push_cast (maxSteps:=999999) -implicitDefEqProofs (disch:=omega)[hw,g2]
 refine Q0 (J06 h hx w.holds) ?_
 rintro a σ' ⟨⟨i,off,rfl,hf⟩,hM,hX⟩
 push_cast (maxSteps:=999999) -implicitDefEqProofs (disch:=omega)
 exact ⟨⟨i,off,rfl,hf⟩,hM,hX⟩
theorem MM.give (h:MM q pl σ L s) {id:Int} (hh:s.isHeld id=true) {σ':Kx.St} {g':Bg} (A:ArAt σ' (pl.p .ar) (pl.p .hl) g' (s.held.set id.toNat false) (s.back++[id]) s.fresh s.peak) (hlen:σ.length≤σ'.length)
  (hk:∀j,j < σ.length→j≠pl.p .ar→j≠pl.p .hl→(∀p v cs,bgOf pl=some (p,v,cs)→j≠p)→σ'[j]?=σ[j]?) (hg:GivePl (bgOf pl) g' σ.length):
  Out q pl σ σ' L (s.free id):=by
 have e:s.free id={ s with held:=s.held.set id.toNat false,back:=s.back++[id] }:=if_pos hh
 rw[e]
 obtain ⟨n,v,cs,hn,rfl,hbs⟩:∃n v cs,(n=pl.p .bk∧pl.bg.isSome=true∨n=σ.length)∧g'=some (n,v,cs)∧(pl.bg.isSome=true→n=pl.p .bk):=by
  cases hb:pl.bg with
  | none=>simp only[GivePl,bgOf,hb,Option.map_none] at hg;obtain ⟨v,cs,rfl⟩:=hg;exact ⟨_,_,_,.inr rfl,rfl,fun h=>by cases h⟩
  | some x=>simp only[GivePl,bgOf,hb,Option.map_some] at hg;obtain ⟨v,cs,rfl⟩:=hg;exact ⟨_,_,_,.inl ⟨rfl,rfl⟩,rfl,fun _=>rfl⟩
 have hb:=A.bk
 have himg:∀ro,ro≠.bk→ro≠.ar→ro≠.hl→img q { pl.put .bk n with bg:=some (v,cs) } L { s with held:=s.held.set id.toNat false,back:=s.back++[id] } ro=img q pl L s ro:=by
  intro ro h1 h2 h3
  cases ro<;>first|exact absurd rfl h1|exact absurd rfl h2|exact absurd rfl h3|(simp[img,aCore,aTb,aWk,Pl.put];done)|rfl
 have hp:∀ro,ro≠.bk→({ pl.put .bk n with bg:=some (v,cs) }:Pl).p ro=pl.p ro:=fun ro hr=>Q01 hr
 have hpb:({ pl.put .bk n with bg:=some (v,cs) }:Pl).p .bk=n:=Qi pl .bk n
 have hA:=h.ne (a:=.ar) (b:=.hl) rfl rfl (by decide)
 have hnl:∀ro,ro≠.bk→(img q pl L s ro).isSome=true→pl.p ro≠n:=fun ro hr hs en=>by
  rcases hn with ⟨e2,hb2⟩|e2
  ·exact hr (h.inj ro .bk hs (by simp only[img,Option.isSome_map];exact hb2) (en.trans e2))
  ·have:=h.lt ro;omega
 refine ⟨{ pl.put .bk n with bg:=some (v,cs) },⟨fun ro r er=>?_,fun a b ha hb2 hab=>?_,⟨h.sd.ok,h.sd.ws,h.sd.fr,by simp only[List.length_set];exact h.sd.hl,h.sd.rg,⟨hb.2.1,hb.2.2.1⟩,A.inb,h.sd.f0,h.sd.o0,h.sd.l0,h.sd.ol,h.sd.dt,h.sd.dq,h.sd.fs⟩,fun ro=>?_⟩,⟨hlen,fun j hj hpj=>?_,fun ro=>?_,fun ro hf=>?_⟩⟩
 ·by_cases e1:ro=.bk
  ·subst e1
   rw[hpb]
   simp only[img,Option.map_some,Option.some.injEq] at er
   subst er
   exact hb.1
  by_cases e2:ro=.ar
  ·subst e2
   rw[hp _ e1]
   simp only[img,Option.some.injEq] at er
   subst er
   have:bgOf { pl.put .bk n with bg:=some (v,cs) }=some (n,v,cs):=by simp[bgOf,Pl.put]
   rw[this,hp _ (by decide)]
   exact A.ar
  by_cases e3:ro=.hl
  ·subst e3
   rw[hp _ e1]
   simp only[img,Option.some.injEq] at er
   subst er
   exact A.hl
  ·have er2:img q pl L s ro=some r:=by rw[←himg ro e1 e2 e3];exact er
   have hs:(img q pl L s ro).isSome=true:=by rw[er2];rfl
   rw[hp _ e1,hk _ (h.lt ro) (h.ne hs rfl e2) (h.ne hs rfl e3) fun p v' cs' eb=>?_]
   ·exact h.at_ _ _ er2
   ·unfold bgOf at eb
    cases hb:pl.bg with
    | none=>rw[hb] at eb;cases eb
    | some x=>
     rw[hb] at eb
     cases eb
     exact h.ne hs (by simp[img,hb]) e1
 ·have hs:∀ro,ro≠.bk→(img q { pl.put .bk n with bg:=some (v,cs) } L { s with held:=s.held.set id.toNat false,back:=s.back++[id] } ro).isSome=true→(img q pl L s ro).isSome=true:=fun ro hr he=>by
   by_cases e2:ro=.ar
   ·subst e2;rfl
   by_cases e3:ro=.hl
   ·subst e3;rfl
   rw[←himg ro hr e2 e3];exact he
  by_cases ea:a=.bk
  ·by_cases eb:b=.bk
   ·rw[ea,eb]
   ·subst ea
    rw[hpb,hp _ eb] at hab
    exact absurd hab.symm (hnl b eb (hs b eb hb2))
  ·by_cases eb:b=.bk
   ·subst eb
    rw[hpb,hp _ ea] at hab
    exact absurd hab (hnl a ea (hs a ea ha))
   ·rw[hp _ ea,hp _ eb] at hab
    exact h.inj a b (hs a ea ha) (hs b eb hb2) hab
 ·by_cases e1:ro=.bk
  ·subst e1;rw[hpb];exact Qe hb.1
  ·rw[hp _ e1];have:=h.lt ro;omega
 ·exact hk j hj (Ne.symm (hpj _)) (Ne.symm (hpj _)) fun p v' cs' eb=>by
   unfold bgOf at eb
   cases hb:pl.bg with
   | none=>rw[hb] at eb;cases eb
   | some x=>rw[hb] at eb;cases eb;exact Ne.symm (hpj _)
 ·by_cases e1:ro=.bk
  ·subst e1;rw[hpb]
   rcases hn with ⟨rfl,_⟩|rfl
   ·exact .inl rfl
   ·exact .inr (Nat.le_refl _)
  ·exact .inl (hp _ e1)
 ·exact hp _ fun e=>by subst e;cases hf
theorem frame_Free_a (h:MM q pl σ L s) (hb:s.back.length≤1000000000) (id:Int):FnG Tryz.prog 247 [.ref (pl.p .t) 0 0,.v (.int .i64 id)] σ fun _ σ'=>Out q pl σ σ' L (s.free id):=by
 refine Q2 YX mixed rfl ?_
 simp only[Z41]
 have hT:=h.tb
 push_cast (maxSteps:=999999) -implicitDefEqProofs (disch:=omega)[hT]
 refine Q0 (arena_Give_a h.arena hb id) ?_
 intro a σ' H
 cases c:heldL s.held id with
 | false=>
  rw[c] at H
  simp only[if_false,Bool.false_eq_true] at H
  obtain ⟨rfl,hs⟩:=H
  rw[hs]
  have e:s.free id=s:=if_neg (by rw[Q22,c];simp)
  rw[e]
  push_cast (maxSteps:=999999) -implicitDefEqProofs (disch:=omega)[aBool]
  exact Out.of h
 | true=>
  rw[c] at H
  simp only[if_true] at H
  obtain ⟨rfl,g',A,h1,h2,h3⟩:=H
  have:=h.give (by rw[Q22,c]) A h1 h2 h3
  push_cast (maxSteps:=999999) -implicitDefEqProofs (disch:=omega)[aBool]
  exact this
theorem frame_Used_a (h:MM q pl σ L s):FnG Tryz.prog 57 [.ref (pl.p .t) 0 0] σ fun a σ'=>a=aInt (usedN s.held)∧σ'=σ:=by
 refine Q2 YM mixed rfl ?_
 simp only[Z32]
 have hT:=h.tb
 have hA:=h.arena
 push_cast (maxSteps:=999999) -implicitDefEqProofs (disch:=omega)[hT]
 refine Q0 (Y70 hA.ar hA.hl (by have:=hA.len;omega)) ?_
 rintro a σ' ⟨rfl,rfl⟩
 push_cast (maxSteps:=999999) -implicitDefEqProofs (disch:=omega)[aInt]
 exact trivial
theorem arena_Peak_a (h:MM q pl σ L s):FnG Tryz.prog 112 [.ref (pl.p .ar) 0 0] σ fun a σ'=>a=aInt s.peak∧σ'=σ:=by
 refine Q2 YT mixed rfl ?_
 simp only[Z37]
 have hA:=h.ar
 push_cast (maxSteps:=999999) -implicitDefEqProofs (disch:=omega)[hA,aInt]
 exact trivial
theorem frame_Peak_a (h:MM q pl σ L s):FnG Tryz.prog 63 [.ref (pl.p .t) 0 0] σ fun a σ'=>a=aInt s.peak∧σ'=σ:=by
 refine Q2 YO mixed rfl ?_
 simp only[Z33]
 have hT:=h.tb
 push_cast (maxSteps:=999999) -implicitDefEqProofs (disch:=omega)[hT]
 refine Q0 (arena_Peak_a h) ?_
 rintro a σ' ⟨rfl,rfl⟩
 push_cast (maxSteps:=999999) -implicitDefEqProofs (disch:=omega)[aInt]
 exact trivial
theorem MM.emit0 (h:MM q pl σ L s) (e:Int) (ho:s.out.length+1≤1000) (hv:pl.ov=none):MM q { pl.put .ot σ.length with ov:=some 1 } ((σ++[Res.tail 1]).set (pl.p .so) (Res.obj 0 [AV.sl (s.out.length+1) (s.out.map aInt++[AV.v (.int .i64 e)]) (.id σ.length 1 1),.v (.int .i64 q.O)])) L { s with out:=s.out++[e] } ∧
  Ext pl { pl.put .ot σ.length with ov:=some 1 } σ ((σ++[Res.tail 1]).set (pl.p .so) (Res.obj 0 [AV.sl (s.out.length+1) (s.out.map aInt++[AV.v (.int .i64 e)]) (.id σ.length 1 1),.v (.int .i64 q.O)])):=by
 have himg:∀ro,ro≠.ot→ro≠.so→img q { pl.put .ot σ.length with ov:=some 1 } L { s with out:=s.out++[e] } ro=img q pl L s ro:=by
  intro ro h1 h2
  cases ro<;>first|exact absurd rfl h1|exact absurd rfl h2|(simp[img,aCore,aTb,aWk,Pl.put,bgOf];done)|rfl
 have hp:∀ro,ro≠.ot→({ pl.put .ot σ.length with ov:=some 1 }:Pl).p ro=pl.p ro:=fun ro hr=>Q01 hr
 have hpb:({ pl.put .ot σ.length with ov:=some 1 }:Pl).p .ot=σ.length:=Qi pl .ot σ.length
 have hso:=h.lt .so
 have hdead:(img q pl L s .ot).isSome=false:=by simp[img,hv]
 refine ⟨⟨fun ro r er=>?_,fun a b ha hb hab=>?_,⟨h.sd.ok,h.sd.ws,h.sd.fr,h.sd.hl,h.sd.rg,h.sd.bk,h.sd.ib,h.sd.f0,(by simp),h.sd.l0,(by simpa using ho),h.sd.dt,h.sd.dq,h.sd.fs⟩,fun ro=>?_⟩,⟨by simp,fun j hj hpj=>?_,fun ro=>?_,fun ro hf=>hp _ fun e=>by subst e;cases hf⟩⟩
 ·by_cases e1:ro=.ot
  ·subst e1
   rw[hpb]
   simp only[img,Option.map_some,Option.some.injEq] at er
   subst er
   rw[List.getElem?_set_ne (by omega)]
   exact Qc _ _
  by_cases e2:ro=.so
  ·subst e2
   rw[hp _ e1]
   simp only[img,Option.some.injEq] at er
   subst er
   rw[hpb,List.getElem?_set_self (by simp;omega)]
   simp[tokT,aInt]
  ·have er2:img q pl L s ro=some r:=by rw[←himg ro e1 e2];exact er
   have hs:(img q pl L s ro).isSome=true:=by rw[er2];rfl
   rw[hp _ e1,List.getElem?_set_ne (h.ne rfl hs (Ne.symm e2))]
   exact Qj (h.at_ _ _ er2)
 ·have hs:∀ro,ro≠.ot→(img q { pl.put .ot σ.length with ov:=some 1 } L { s with out:=s.out++[e] } ro).isSome=true→(img q pl L s ro).isSome=true:=fun ro hr he=>by
   by_cases e2:ro=.so
   ·subst e2;rfl
   rw[←himg ro hr e2];exact he
  by_cases ea:a=.ot
  ·by_cases eb:b=.ot
   ·rw[ea,eb]
   ·subst ea
    rw[hpb,hp _ eb] at hab
    have:=h.lt b;omega
  ·by_cases eb:b=.ot
   ·subst eb
    rw[hpb,hp _ ea] at hab
    have:=h.lt a;omega
   ·rw[hp _ ea,hp _ eb] at hab
    exact h.inj a b (hs a ea ha) (hs b eb hb) hab
 ·by_cases e1:ro=.ot
  ·subst e1;rw[hpb];simp
  ·rw[hp _ e1];have:=h.lt ro;simp;omega
 ·rw[List.getElem?_set_ne (hpj _),List.getElem?_append_left hj]
 ·by_cases e1:ro=.ot
  ·subst e1;rw[hpb];exact .inr (Nat.le_refl _)
  ·exact .inl (hp _ e1)
theorem MM.emit1 (h:MM q pl σ L s) (e:Int) (ho:s.out.length+1≤1000) {v:Nat} (hv:pl.ov=some v):MM q { pl with ov:=some (v+1) } ((σ.set (pl.p .ot) (Res.tail (v+1))).set (pl.p .so) (Res.obj 0 [AV.sl (s.out.length+1) (s.out.map aInt++[AV.v (.int .i64 e)]) (.id (pl.p .ot) (v+1) 1),.v (.int .i64 q.O)])) L { s with out:=s.out++[e] } ∧
  Ext pl { pl with ov:=some (v+1) } σ ((σ.set (pl.p .ot) (Res.tail (v+1))).set (pl.p .so) (Res.obj 0 [AV.sl (s.out.length+1) (s.out.map aInt++[AV.v (.int .i64 e)]) (.id (pl.p .ot) (v+1) 1),.v (.int .i64 q.O)])):=by
 have hlo:(img q pl L s .ot).isSome=true:=by simp[img,hv]
 have hne:=h.ne hlo (b:=.so) rfl (by decide)
 have himg:∀ro,ro≠.ot→ro≠.so→img q { pl with ov:=some (v+1) } L { s with out:=s.out++[e] } ro=img q pl L s ro:=by
  intro ro h1 h2
  cases ro<;>first|exact absurd rfl h1|exact absurd rfl h2|rfl
 have hs:∀ro,(img q { pl with ov:=some (v+1) } L { s with out:=s.out++[e] } ro).isSome=true→(img q pl L s ro).isSome=true:=fun ro he=>by
  by_cases e1:ro=.ot
  ·subst e1;exact hlo
  by_cases e2:ro=.so
  ·subst e2;rfl
  rw[←himg ro e1 e2];exact he
 refine ⟨⟨fun ro r er=>?_,fun a b ha hb hab=>h.inj a b (hs a ha) (hs b hb) hab,⟨h.sd.ok,h.sd.ws,h.sd.fr,h.sd.hl,h.sd.rg,h.sd.bk,h.sd.ib,h.sd.f0,(by simp),h.sd.l0,(by simpa using ho),h.sd.dt,h.sd.dq,h.sd.fs⟩,fun ro=>by have:=h.lt ro;simpa using this⟩,⟨by simp,fun j hj hpj=>?_,fun ro=>.inl rfl,fun ro hf=>rfl⟩⟩
 ·show ((σ.set (pl.p .ot) (Res.tail (v+1))).set (pl.p .so) _)[pl.p ro]?=some r
  by_cases e1:ro=.ot
  ·subst e1
   simp only[img,Option.map_some,Option.some.injEq] at er
   subst er
   rw[List.getElem?_set_ne hne.symm,List.getElem?_set_self (h.lt _)]
  by_cases e2:ro=.so
  ·subst e2
   simp only[img,Option.some.injEq] at er
   subst er
   rw[List.getElem?_set_self (by simpa using h.lt _)]
   simp[tokT,aInt]
  ·have er2:img q pl L s ro=some r:=by rw[←himg ro e1 e2];exact er
   have hs2:(img q pl L s ro).isSome=true:=by rw[er2];rfl
   rw[List.getElem?_set_ne (h.ne rfl hs2 (Ne.symm e2)),List.getElem?_set_ne (h.ne hlo hs2 (Ne.symm e1))]
   exact h.at_ _ _ er2
 ·rw[List.getElem?_set_ne (hpj _),List.getElem?_set_ne (hpj _)]
theorem MM.note0 (h:MM q pl σ L s) (e:Vt) (hv:pl.lv=none):MM q { pl.put .lt σ.length with lv:=some 1 } ((σ++[Res.tail 1]).set (pl.p .lo) (Res.obj 0 [AV.sl (s.log.length+1) (s.log.flatMap aVt++aVt e) (.id σ.length 1 4)])) L { s with log:=s.log++[e] } ∧
  Ext pl { pl.put .lt σ.length with lv:=some 1 } σ ((σ++[Res.tail 1]).set (pl.p .lo) (Res.obj 0 [AV.sl (s.log.length+1) (s.log.flatMap aVt++aVt e) (.id σ.length 1 4)])):=by
 have himg:∀ro,ro≠.lt→ro≠.lo→img q { pl.put .lt σ.length with lv:=some 1 } L { s with log:=s.log++[e] } ro=img q pl L s ro:=by
  intro ro h1 h2
  cases ro<;>first|exact absurd rfl h1|exact absurd rfl h2|(simp[img,aCore,aTb,aWk,Pl.put,bgOf];done)|rfl
 have hp:∀ro,ro≠.lt→({ pl.put .lt σ.length with lv:=some 1 }:Pl).p ro=pl.p ro:=fun ro hr=>Q01 hr
 have hpb:({ pl.put .lt σ.length with lv:=some 1 }:Pl).p .lt=σ.length:=Qi pl .lt σ.length
 have hso:=h.lt .lo
 have hdead:(img q pl L s .lt).isSome=false:=by simp[img,hv]
 refine ⟨⟨fun ro r er=>?_,fun a b ha hb hab=>?_,⟨h.sd.ok,h.sd.ws,h.sd.fr,h.sd.hl,h.sd.rg,h.sd.bk,h.sd.ib,h.sd.f0,h.sd.o0,(by simp),h.sd.ol,h.sd.dt,h.sd.dq,h.sd.fs⟩,fun ro=>?_⟩,⟨by simp,fun j hj hpj=>?_,fun ro=>?_,fun ro hf=>hp _ fun e=>by subst e;cases hf⟩⟩
 ·by_cases e1:ro=.lt
  ·subst e1
   rw[hpb]
   simp only[img,Option.map_some,Option.some.injEq] at er
   subst er
   rw[List.getElem?_set_ne (by omega)]
   exact Qc _ _
  by_cases e2:ro=.lo
  ·subst e2
   rw[hp _ e1]
   simp only[img,Option.some.injEq] at er
   subst er
   rw[hpb,List.getElem?_set_self (by simp;omega)]
   simp[tokT,aInt]
  ·have er2:img q pl L s ro=some r:=by rw[←himg ro e1 e2];exact er
   have hs:(img q pl L s ro).isSome=true:=by rw[er2];rfl
   rw[hp _ e1,List.getElem?_set_ne (h.ne rfl hs (Ne.symm e2))]
   exact Qj (h.at_ _ _ er2)
 ·have hs:∀ro,ro≠.lt→(img q { pl.put .lt σ.length with lv:=some 1 } L { s with log:=s.log++[e] } ro).isSome=true→(img q pl L s ro).isSome=true:=fun ro hr he=>by
   by_cases e2:ro=.lo
   ·subst e2;rfl
   rw[←himg ro hr e2];exact he
  by_cases ea:a=.lt
  ·by_cases eb:b=.lt
   ·rw[ea,eb]
   ·subst ea
    rw[hpb,hp _ eb] at hab
    have:=h.lt b;omega
  ·by_cases eb:b=.lt
   ·subst eb
    rw[hpb,hp _ ea] at hab
    have:=h.lt a;omega
   ·rw[hp _ ea,hp _ eb] at hab
    exact h.inj a b (hs a ea ha) (hs b eb hb) hab
 ·by_cases e1:ro=.lt
  ·subst e1;rw[hpb];simp
  ·rw[hp _ e1];have:=h.lt ro;simp;omega
 ·rw[List.getElem?_set_ne (hpj _),List.getElem?_append_left hj]
 ·by_cases e1:ro=.lt
  ·subst e1;rw[hpb];exact .inr (Nat.le_refl _)
  ·exact .inl (hp _ e1)
theorem MM.note1 (h:MM q pl σ L s) (e:Vt) {v:Nat} (hv:pl.lv=some v):MM q { pl with lv:=some (v+1) } ((σ.set (pl.p .lt) (Res.tail (v+1))).set (pl.p .lo) (Res.obj 0 [AV.sl (s.log.length+1) (s.log.flatMap aVt++aVt e) (.id (pl.p .lt) (v+1) 4)])) L { s with log:=s.log++[e] } ∧
  Ext pl { pl with lv:=some (v+1) } σ ((σ.set (pl.p .lt) (Res.tail (v+1))).set (pl.p .lo) (Res.obj 0 [AV.sl (s.log.length+1) (s.log.flatMap aVt++aVt e) (.id (pl.p .lt) (v+1) 4)])):=by
 have hlo:(img q pl L s .lt).isSome=true:=by simp[img,hv]
 have hne:=h.ne hlo (b:=.lo) rfl (by decide)
 have himg:∀ro,ro≠.lt→ro≠.lo→img q { pl with lv:=some (v+1) } L { s with log:=s.log++[e] } ro=img q pl L s ro:=by
  intro ro h1 h2
  cases ro<;>first|exact absurd rfl h1|exact absurd rfl h2|rfl
 have hs:∀ro,(img q { pl with lv:=some (v+1) } L { s with log:=s.log++[e] } ro).isSome=true→(img q pl L s ro).isSome=true:=fun ro he=>by
  by_cases e1:ro=.lt
  ·subst e1;exact hlo
  by_cases e2:ro=.lo
  ·subst e2;rfl
  rw[←himg ro e1 e2];exact he
 refine ⟨⟨fun ro r er=>?_,fun a b ha hb hab=>h.inj a b (hs a ha) (hs b hb) hab,⟨h.sd.ok,h.sd.ws,h.sd.fr,h.sd.hl,h.sd.rg,h.sd.bk,h.sd.ib,h.sd.f0,h.sd.o0,(by simp),h.sd.ol,h.sd.dt,h.sd.dq,h.sd.fs⟩,fun ro=>by have:=h.lt ro;simpa using this⟩,⟨by simp,fun j hj hpj=>?_,fun ro=>.inl rfl,fun ro hf=>rfl⟩⟩
 ·show ((σ.set (pl.p .lt) (Res.tail (v+1))).set (pl.p .lo) _)[pl.p ro]?=some r
  by_cases e1:ro=.lt
  ·subst e1
   simp only[img,Option.map_some,Option.some.injEq] at er
   subst er
   rw[List.getElem?_set_ne hne.symm,List.getElem?_set_self (h.lt _)]
  by_cases e2:ro=.lo
  ·subst e2
   simp only[img,Option.some.injEq] at er
   subst er
   rw[List.getElem?_set_self (by simpa using h.lt _)]
   simp[tokT,aInt]
  ·have er2:img q pl L s ro=some r:=by rw[←himg ro e1 e2];exact er
   have hs2:(img q pl L s ro).isSome=true:=by rw[er2];rfl
   rw[List.getElem?_set_ne (h.ne rfl hs2 (Ne.symm e2)),List.getElem?_set_ne (h.ne hlo hs2 (Ne.symm e1))]
   exact h.at_ _ _ er2
 ·rw[List.getElem?_set_ne (hpj _),List.getElem?_set_ne (hpj _)]
end
end Go.Proofs.YtelibaobkcokdaaGreat.Mx
