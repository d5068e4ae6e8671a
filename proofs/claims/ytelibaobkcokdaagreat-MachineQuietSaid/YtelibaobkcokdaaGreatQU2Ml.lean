/- The machine: what is emitted, noted, made. -/
import Derived.Test.YtelibaobkcokdaaGreatQU2Mk
namespace Go.Proofs.YtelibaobkcokdaaGreat.Mx
set_option linter.unusedSectionVars false
set_option linter.unusedVariables false
set_option linter.unusedSimpArgs false
open Go Go.Kx Go.Proofs Go.Proofs.YtelibaobkcokdaaGreat
set_option maxRecDepth 8000
section
variable {q:Pm} {pl:Pl} {σ:Kx.St} {L:List Wk} {s:Cs}
theorem J07 (h:MM q pl σ L s) (n:Int):FnG Tryz.prog 158 [.ref (pl.p .so) 0 0,.v (.int .i64 n)] σ fun a σ'=>
  match emitC q s n with
  | none=>a=aBool false∧σ'=σ
  | some s'=>a=aBool true∧Out q pl σ σ' L s':=by
 refine Q2 Y96 mixed rfl ?_
 simp only[Xv]
 have hs:=h.at_ .so _ rfl
 have hol:=h.sd.ol
 obtain ⟨_,_,_,_,⟨o1,o2⟩⟩:=h.sd.ok
 by_cases c:q.O≤s.out.length
 ·have e:emitC q s n=none:=if_pos c
  rw[e]
  push_cast (maxSteps:=999999) -implicitDefEqProofs (disch:=omega)[hs,c,aBool]
  exact trivial
 ·have e:emitC q s n=some { s with out:=s.out++[n] }:=if_neg c
  rw[e]
  push_cast (maxSteps:=999999) -implicitDefEqProofs (disch:=omega)[hs,c,aBool]
  refine Qt (sz:=1) (by intro a ha;simp at ha;subst ha;rfl) (by simp) ?_
  push_cast (maxSteps:=999999) -implicitDefEqProofs (disch:=omega)
  cases hv:pl.ov with
  | none=>
   have ho:=h.sd.o0.1 hv
   have hM:=h.emit0 n (by omega) hv
   simp only[ho,List.length_nil,List.map_nil,tokT,Nat.zero_add,List.nil_append] at hM ⊢
   refine Jn (m:=1) (news:=[.v (.int .i64 n)]) rfl rfl rfl rfl (by decide) (by decide) ?_
   push_cast (maxSteps:=999999) -implicitDefEqProofs (disch:=omega)
   have hs2:=Qj (τ:=[Res.tail 1]) hs
   refine Q6 rfl rfl hs2 (by simp) ?_
   push_cast (maxSteps:=999999) -implicitDefEqProofs (disch:=omega)[aBool]
   exact ⟨_,hM⟩
  | some v=>
   have hM:=h.emit1 n (by omega) hv
   have hlo:=h.at_ .ot (.tail v) (by simp[img,hv])
   have hne:=h.ne (a:=.ot) (b:=.so) (by simp[img,hv]) rfl (by decide)
   simp only[tokT]
   refine Y07 (m:=1) (news:=[.v (.int .i64 n)]) rfl rfl rfl rfl (by simp) (by omega) (by omega) hlo ?_
   push_cast (maxSteps:=999999) -implicitDefEqProofs (disch:=omega)
   refine Q6 rfl rfl (Q4 hne hs) (by simp) ?_
   push_cast (maxSteps:=999999) -implicitDefEqProofs (disch:=omega)[aBool]
   exact ⟨_,hM⟩
theorem log_Note_a (h:MM q pl σ L s) (hb:s.log.length≤1000000000) (e:Vt):FnG Tryz.prog 148 [.ref (pl.p .lo) 0 0,.agg (aVt e)] σ fun _ σ'=>Out q pl σ σ' L (s.note e):=by
 refine Q2 J25 mixed rfl ?_
 simp only[X75]
 have hs:=h.at_ .lo _ rfl
 have hac:(AV.agg (aVt e)).cells=aVt e:=rfl
 have c4:cellsA (some 4) (aVt e)=some (.agg (aVt e)):=rfl
 have hfl:=Q28 aVt_len s.log
 push_cast (maxSteps:=999999) -implicitDefEqProofs (disch:=omega)
 refine Q3 ?_
 push_cast (maxSteps:=999999) -implicitDefEqProofs (disch:=omega)[hs,hac,c4]
 refine Qt (sz:=4) (by intro a ha;simp at ha;subst ha;rfl) (by simp) ?_
 cases hv:pl.lv with
 | none=>
  have ho:=h.sd.l0.1 hv
  have hM:=h.note0 e hv
  simp only[ho,List.length_nil,List.flatMap_nil,tokT,Nat.zero_add,List.nil_append,hv] at hM hs ⊢
  push_cast (maxSteps:=999999) -implicitDefEqProofs (disch:=omega)[hs,hac,List.append_nil]
  refine ⟨rfl,?_⟩
  refine Jn (m:=1) (news:=aVt e) rfl rfl rfl rfl (by decide) (by decide) ?_
  push_cast (maxSteps:=999999) -implicitDefEqProofs (disch:=omega)
  have hs2:=Qj (τ:=[Res.tail 1]) hs
  refine Q6 rfl rfl hs2 (by simp) ?_
  push_cast (maxSteps:=999999) -implicitDefEqProofs (disch:=omega)
  have e2:s.note e={ s with log:=s.log++[e] }:=rfl
  rw[e2,ho]
  exact ⟨_,hM⟩
 | some v=>
  have hM:=h.note1 e hv
  have hlo:=h.at_ .lt (.tail v) (by simp[img,hv])
  have hne:=h.ne (a:=.lt) (b:=.lo) (by simp[img,hv]) rfl (by decide)
  simp only[tokT,hv] at hs ⊢
  push_cast (maxSteps:=999999) -implicitDefEqProofs (disch:=omega)[hs,hac,List.append_nil]
  refine ⟨rfl,?_⟩
  refine Y07 (m:=1) (news:=aVt e) rfl rfl rfl rfl hfl (by omega) (by omega) hlo ?_
  push_cast (maxSteps:=999999) -implicitDefEqProofs (disch:=omega)
  refine Q6 rfl rfl (Q4 hne hs) (by simp) ?_
  push_cast (maxSteps:=999999) -implicitDefEqProofs (disch:=omega)
  exact ⟨_,hM⟩
theorem take_eq (s:Cs):s.take=(takeF2 s.held s.back s.fresh s.peak).map fun x=>(x.1,{ s with held:=x.2.1,back:=x.2.2.1,fresh:=x.2.2.2.1,peak:=x.2.2.2.2 }):=by
 have e:s.nextId=nextF2 s.held s.back s.fresh:=rfl
 unfold Cs.take takeF2
 rw[e]
 cases nextF2 s.held s.back s.fresh with
 | none=>rfl
 | some x=>rfl
theorem MM.took (h:MM q pl σ L s) {id:Int} {l:List Bool} {b:List Int} {f p:Int} (e:takeF2 s.held s.back s.fresh s.peak=some (id,l,b,f,p)):
  MM q pl ((σ.set (pl.p .hl) (.obj 0 (l.map aBool))).set (pl.p .ar) (.obj 0 (aAr (pl.p .hl) l (aBk (bgOf pl) b) f p))) L { s with held:=l,back:=b,fresh:=f,peak:=p }∧0≤id∧id < s.held.length∧l=s.held.set id.toNat true:=by
 unfold takeF2 at e
 cases e2:nextF2 s.held s.back s.fresh with
 | none=>rw[e2] at e;cases e
 | some x=>
  obtain ⟨i,b2,f2⟩:=x
  rw[e2] at e
  simp only[Option.some.injEq,Prod.mk.injEq] at e
  obtain ⟨rfl,rfl,rfl,rfl,rfl⟩:=e
  have ⟨i0,i1,i2,i3,i4,i5⟩:=next_in h.sd.ib h.sd.f0 e2
  have hf:=h.sd.f0
  have hfr:=h.sd.fr
  have hhl:=h.sd.hl
  obtain ⟨_,_,⟨f1',f2'⟩,_⟩:=h.sd.ok
  have hf3:f2≤1000000:=by
   unfold nextF2 at e2
   split at e2
   ·simp only[Option.some.injEq,Prod.mk.injEq] at e2;omega
   ·split at e2
    ·cases e2
    ·simp only[Option.some.injEq,Prod.mk.injEq] at e2;omega
  have hbk:match pl.bg with|none=>b2=[]|some (_,cs)=>b2.length≤cs.length∧cs.take b2.length=b2.map aInt:=by
   have h0:=h.sd.bk
   have hb2:b2=s.back.dropLast:=by
    unfold nextF2 at e2
    split at e2
    ·simp only[Option.some.injEq,Prod.mk.injEq] at e2;exact e2.2.1.symm
    ·rename_i hn
     split at e2
     ·cases e2
     ·simp only[Option.some.injEq,Prod.mk.injEq] at e2
      rw[List.getLast?_eq_none_iff] at hn
      rw[←e2.2.1,hn];rfl
   cases hb:pl.bg with
   | none=>rw[hb] at h0;rw[hb2,h0];rfl
   | some y=>
    obtain ⟨v,cs⟩:=y
    rw[hb] at h0
    refine ⟨by omega,?_⟩
    rw[hb2,List.dropLast_eq_take,List.map_take,←h0.2,List.length_take,List.take_take]
  have h1:MM q pl (σ.set (pl.p .hl) (.obj 0 ((s.held.set i.toNat true).map aBool))) L { s with held:=s.held.set i.toNat true }:=
   h.upd1 rfl rfl rfl (fun ro hro=>by cases ro<;>first|exact absurd rfl hro|rfl|(simp only[img,aAr,List.length_set])) ⟨h.sd.ok,h.sd.ws,h.sd.fr,by simp only[List.length_set];exact h.sd.hl,h.sd.rg,h.sd.bk,by simp only[List.length_set];exact h.sd.ib,h.sd.f0,h.sd.o0,h.sd.l0,h.sd.ol,h.sd.dt,h.sd.dq,h.sd.fs⟩
  refine ⟨h1.upd1 rfl rfl rfl (fun ro hro=>by cases ro<;>first|exact absurd rfl hro|rfl) ⟨h.sd.ok,h.sd.ws,h.sd.fr,by simp only[List.length_set];exact h.sd.hl,h.sd.rg,hbk,by simp only[List.length_set];exact i2,⟨i3,hf3⟩,h.sd.o0,h.sd.l0,h.sd.ol,h.sd.dt,h.sd.dq,h.sd.fs⟩,i0,i1,rfl⟩
theorem Y74 (h:MM q pl σ L s) (hb:s.back.length≤1000000000) (f:Fm) (hr:f.regs.length=8):FnG Tryz.prog 87 [.ref (pl.p .t) 0 0,.agg (aFm f)] σ fun a σ'=>
  match s.make q f with
  | none=>a=.tup [aInt 0,aBool false]∧σ'=σ
  | some (id,s')=>a=.tup [aInt id,aBool true]∧Out q pl σ σ' L s':=by
 refine Q2 YP mixed rfl ?_
 simp only[Z34]
 have hT:=h.tb
 have hA:=h.arena
 have hq:=h.sd.ok
 push_cast (maxSteps:=999999) -implicitDefEqProofs (disch:=omega)
 refine Q3 ?_
 push_cast (maxSteps:=999999) -implicitDefEqProofs (disch:=omega)[hT]
 refine Q0 (arena_Take_a hA hb) ?_
 intro a σ' H
 have emk:s.make q f=match s.take with|none=>none|some (id,s)=>some (id,{ s with fr:=s.fr.set id.toNat f,ws:=fillW (fillW s.ws (q.frame id) q.room 0) (q.frame id) 1 1 }):=rfl
 rw[take_eq] at emk
 cases e:takeF2 s.held s.back s.fresh s.peak with
 | none=>
  rw[e] at H emk
  simp only[Option.map_none] at emk
  obtain ⟨rfl,hs⟩:=H
  rw[hs,emk]
  push_cast (maxSteps:=999999) -implicitDefEqProofs (disch:=omega)[aInt,aBool]
  exact trivial
 | some x=>
  obtain ⟨id,l,b,fr,p⟩:=x
  rw[e] at H emk
  simp only[Option.map_some] at emk
  obtain ⟨rfl,hs⟩:=H
  rw[emk]
  obtain ⟨hM,i0,i1,hl⟩:=h.took e
  rw[←hs] at hM
  have hX:Ext pl pl σ σ':=by rw[hs];exact (Ext.set ..).trans (Ext.set ..)
  clear hs emk
  have hT1:=hM.tb
  have hfl1:=hM.fl
  have hhl:=h.sd.hl
  push_cast (maxSteps:=999999) -implicitDefEqProofs (disch:=omega)[aInt,aBool,hT1]
  have hid:id.toNat < s.fr.length:=by omega
  refine Q8 (Q03 f) (Y36 f) hfl1 (by rw[fr_len];simp only;omega) ?_
  rw[fm_setAll _ (by simpa using hid)]
  have hM2:MM q pl (σ'.set (pl.p .fl) (.obj 0 ((s.fr.set id.toNat f).flatMap aFm))) L { s with held:=l,back:=b,fresh:=fr,peak:=p,fr:=s.fr.set id.toNat f }:=
   hM.upd1 rfl rfl rfl (fun ro hro=>by cases ro<;>first|exact absurd rfl hro|rfl|(simp only[img,aTb,List.length_set])) ⟨hM.sd.ok,hM.sd.ws,by simp only[List.length_set];exact hM.sd.fr,by simp only[List.length_set];exact hM.sd.hl,fun g hg=>by
    rcases List.mem_or_eq_of_mem_set hg with hg|rfl
    ·exact h.sd.rg g hg
    ·exact hr,hM.sd.bk,hM.sd.ib,hM.sd.f0,hM.sd.o0,hM.sd.l0,hM.sd.ol,hM.sd.dt,hM.sd.dq,hM.sd.fs⟩
  have hX2:=hX.trans (Ext.set pl σ' .fl (.obj 0 ((s.fr.set id.toNat f).flatMap aFm)))
  simp only
  generalize (σ'.set (pl.p .fl) (.obj 0 ((s.fr.set id.toNat f).flatMap aFm)))=σ2 at hM2 hX2
  have hT2:=hM2.tb
  have ⟨a1,a2⟩:=hq.frame_in id
  have ⟨b1,b2⟩:=hq.WW
  have ⟨c1,c2⟩:=hq.size_in
  have hwl:=h.sd.ws
  have ⟨d1,d2⟩:=hq.room_in
  push_cast (maxSteps:=999999) -implicitDefEqProofs (disch:=omega)[hT2]
  refine Q1 (Ql hq id) ?_
  rintro a rfl
  push_cast (maxSteps:=999999) -implicitDefEqProofs (disch:=omega)[aInt,hT2]
  refine Q1 (Z89 hq) ?_
  rintro a rfl
  push_cast (maxSteps:=999999) -implicitDefEqProofs (disch:=omega)[aInt,hT2]
  refine Q0 (st_Fill_a hM2.words (by omega) q.room 0 (by simp only;omega) (by omega)) ?_
  intro a σ3 hs3
  have hM3:=hM2.setW (ws:=fillW s.ws (q.frame id) q.room 0) (by simp[J02])
  rw[←hs3] at hM3
  have hX3:Ext pl pl σ σ3:=by rw[hs3];exact hX2.trans (Ext.set ..)
  clear hs3
  have hT3:=hM3.tb
  push_cast (maxSteps:=999999) -implicitDefEqProofs (disch:=omega)[hT3]
  refine Q1 (Ql hq id) ?_
  rintro a rfl
  push_cast (maxSteps:=999999) -implicitDefEqProofs (disch:=omega)[aInt,hT3]
  refine Q0 (st_Fill_a hM3.words (by omega) 1 1 (by simp only[Cs.setW,J02];omega) (by omega)) ?_
  intro a σ4 hs4
  have hM4:=hM3.setW (ws:=fillW (fillW s.ws (q.frame id) q.room 0) (q.frame id) 1 1) (by simp[Cs.setW,J02])
  have hs5:σ3.set (pl.p .w) (.obj 0 ((fillW (fillW s.ws (q.frame id) q.room 0) (q.frame id) 1 1).map aInt))=σ4:=hs4.symm
  rw[hs5] at hM4
  have hX4:Ext pl pl σ σ4:=by rw[←hs5];exact hX3.trans (Ext.set ..)
  clear hs5 hs4
  push_cast (maxSteps:=999999) -implicitDefEqProofs (disch:=omega)[aInt,aBool]
  exact ⟨_,hM4,hX4⟩
end
end Go.Proofs.YtelibaobkcokdaaGreat.Mx
