/- The machine: numbers that are taken and given back; frames. -/
import Derived.Test.YtelibaobkcokdaaGreatQU2Mf
namespace Go.Proofs.YtelibaobkcokdaaGreat.Mx
set_option linter.unusedSectionVars false
set_option linter.unusedVariables false
set_option linter.unusedSimpArgs false
open Go Go.Kx Go.Proofs Go.Proofs.YtelibaobkcokdaaGreat
set_option maxRecDepth 8000
abbrev Bg:=Option (Nat×Nat×List AV)
def aBk:Bg→List Int→AV
 | none,_=>.sl 0 [] .nil
 | some (p,v,_),l=>.ms p v 0 l.length 1
def BkAt (σ:Kx.St) (ja jh:Nat):Bg→List Int→Prop
 | none,l=>l=[]
 | some (p,v,cs),l=>σ[p]?=some (.obj v cs)∧l.length≤cs.length∧cs.take l.length=l.map aInt∧p≠ja∧p≠jh
def aAr (jh:Nat) (held:List Bool) (bk:AV) (fresh peak:Int):List AV:=[.ms jh 0 0 held.length 1,bk,.v (.int .i64 fresh),.v (.int .i64 peak)]
structure ArAt (σ:Kx.St) (ja jh:Nat) (g:Bg) (held:List Bool) (back:List Int) (fresh peak:Int):Prop where
 ar:σ[ja]?=some (.obj 0 (aAr jh held (aBk g back) fresh peak))
 hl:σ[jh]?=some (.obj 0 (held.map aBool))
 bk:BkAt σ ja jh g back
 ne:ja≠jh
 len:held.length≤1000
 inb:∀x∈back,0≤x∧x < held.length
 f0:0≤fresh∧fresh≤1000000
section
variable (jh:Nat) (held:List Bool) (bk:AV) (fresh peak:Int)
theorem ar0:(aAr jh held bk fresh peak)[0]?=some (.ms jh 0 0 held.length 1):=rfl
theorem ar1:(aAr jh held bk fresh peak)[1]?=some bk:=rfl
theorem ar2:(aAr jh held bk fresh peak)[2]?=some (.v (.int .i64 fresh)):=rfl
theorem ar3:(aAr jh held bk fresh peak)[3]?=some (.v (.int .i64 peak)):=rfl
theorem ars1 (x:AV):(aAr jh held bk fresh peak).set 1 x=aAr jh held x fresh peak:=rfl
theorem ars2 (x:Int):(aAr jh held bk fresh peak).set 2 (.v (.int .i64 x))=aAr jh held bk x peak:=rfl
theorem ars3 (x:Int):(aAr jh held bk fresh peak).set 3 (.v (.int .i64 x))=aAr jh held bk fresh x:=rfl
theorem ar_len:(aAr jh held bk fresh peak).length=4:=rfl
end
attribute [push_cast] ar0 ar1 ar2 ar3 ars1 ars2 ars3
def heldL (l:List Bool) (id:Int):Bool:=decide (0 < id∧id < l.length)&&l.getD id.toNat false
theorem J99 {l:List Bool} {id:Int} (h:heldL l id=true):0 < id∧id < l.length∧l[id.toNat]?=some true:=by
 unfold heldL at h
 rw[Bool.and_eq_true,decide_eq_true_eq] at h
 obtain ⟨⟨h1,h2⟩,h3⟩:=h
 obtain ⟨x,hx⟩:=Q09 (l:=l) (k:=id.toNat) (by omega)
 rw[List.getD_eq_getElem?_getD,hx] at h3
 exact ⟨h1,h2,by rw[hx];simpa using h3⟩
theorem bool_at {l:List Bool} {k:Nat} {x:Bool} (h:l[k]?=some x):(l.map aBool)[k]?=some (.v (.bool x)):=by rw[List.getElem?_map,h];rfl
theorem bool_set (l:List Bool) (k:Nat) (x:Bool):(l.map aBool).set k (.v (.bool x))=(l.set k x).map aBool:=by rw[List.map_set];rfl
theorem Y71 {σ:Kx.St} {ja jh:Nat} {l:List Bool} {t:List AV} (ha:σ[ja]?=some (.obj 0 (.ms jh 0 0 l.length 1::t))) (hh:σ[jh]?=some (.obj 0 (l.map aBool))) (hl:l.length≤1000000) (id:Int):
  FnG Tryz.prog 195 [.ref ja 0 0,.v (.int .i64 id)] σ fun a σ'=>a=aBool (heldL l id)∧σ'=σ:=by
 refine Q2 YV mixed rfl ?_
 simp only[Z39]
 by_cases c1:0 < id
 ·by_cases c2:id < l.length
  ·obtain ⟨x,hx⟩:=Q09 (l:=l) (k:=id.toNat) (by omega)
   have e:heldL l id=x:=by simp[heldL,c1,c2,List.getD_eq_getElem?_getD,hx]
   have hb:=bool_at hx
   rw[e]
   push_cast (maxSteps:=999999) -implicitDefEqProofs (disch:=omega)[ha,hh,hb,c1,c2,aBool]
   exact trivial
  ·have e:heldL l id=false:=by simp[heldL,c2]
   rw[e]
   push_cast (maxSteps:=999999) -implicitDefEqProofs (disch:=omega)[ha,c1,c2,aBool]
   exact trivial
 ·have e:heldL l id=false:=by simp[heldL,c1]
  rw[e]
  push_cast (maxSteps:=999999) -implicitDefEqProofs (disch:=omega)[ha,c1,aBool]
  exact trivial
def GivePl (g g':Bg) (n:Nat):Prop:=match g with|none=>∃v cs,g'=some (n,v,cs)|some (p,_,_)=>∃v cs,g'=some (p,v,cs)
section
variable {σ:Kx.St} {ja jh:Nat} {g:Bg} {held:List Bool} {back:List Int} {fresh peak:Int} (h:ArAt σ ja jh g held back fresh peak) (hbl:back.length≤1000000000)
include h hbl
def nextF2 (held:List Bool) (back:List Int) (fresh:Int):Option (Int×List Int×Int):=
 match back.getLast? with
 | some id=>some (id,back.dropLast,fresh)
 | none=>if (held.length:Int)≤w64 (fresh+1) then none else some (w64 (fresh+1),[],w64 (fresh+1))
theorem arena_next_a:FnG Tryz.prog 212 [.ref ja 0 0] σ fun a σ'=>
  match nextF2 held back fresh with
  | none=>a=.tup [aInt 0,aBool false]∧σ'=σ
  | some (id,b,f)=>a=.tup [aInt id,aBool true]∧σ'=σ.set ja (.obj 0 (aAr jh held (aBk g b) f peak)):=by
 refine Q2 YW mixed rfl ?_
 simp only[Z40]
 have hlt:=Qe h.ar
 have hlen:=h.len
 have hf0:=h.f0
 have har:=h.ar
 by_cases c:back=[]
 ·subst c
  have e:nextF2 held [] fresh=if (held.length:Int)≤w64 (fresh+1) then none else some (w64 (fresh+1),[],w64 (fresh+1)):=rfl
  have ew:w64 (fresh+1)=fresh+1:=Q97 (by omega) (by omega)
  rw[e,ew]
  have key:∀bk:AV,aBk g []=bk→(bk=.sl 0 [] .nil∨∃p v,bk=.ms p v 0 0 1):=by
   intro bk hbk
   subst hbk
   cases g with
   | none=>exact .inl rfl
   | some x=>obtain ⟨p,v,cs⟩:=x;exact .inr ⟨p,v,rfl⟩
  generalize hbk:aBk g []=bk at har
  by_cases c2:(held.length:Int)≤fresh+1
  ·rw[if_pos c2]
   rcases key bk hbk with rfl|⟨p,v,rfl⟩<;>(push_cast (maxSteps:=999999) -implicitDefEqProofs (disch:=omega)[har,c2,aInt,aBool];exact trivial)
  ·rw[if_neg c2]
   rcases key bk hbk with rfl|⟨p,v,rfl⟩
   all_goals
    push_cast (maxSteps:=999999) -implicitDefEqProofs (disch:=omega)[har,c2,aInt,aBool]
    refine Q6 rfl rfl har (by simp[ar_len]) ?_
    push_cast (maxSteps:=999999) -implicitDefEqProofs (disch:=omega)[aInt,aBool]
    simp only[hbk]
    exact trivial
 ·cases hg:g with
  | none=>have:=h.bk;rw[hg] at this;exact absurd this c
  | some x=>
   obtain ⟨p,v,cs⟩:=x
   have hb:=h.bk
   rw[hg] at hb har
   obtain ⟨hp,hl2,ht,n1,n2⟩:=hb
   have hpos:0 < back.length:=List.length_pos_iff.2 c
   have hla:back.getLast?=some (back.getLast c):=List.getLast?_eq_some_getLast c
   have e:nextF2 held back fresh=some (back.getLast c,back.dropLast,fresh):=by unfold nextF2;rw[hla]
   rw[e]
   have hx:cs[back.length - 1]?=some (.v (.int .i64 (back.getLast c))):=by
    have:(cs.take back.length)[back.length - 1]?=some (.v (.int .i64 (back.getLast c))):=by
     rw[ht,List.getElem?_map,←List.getLast?_eq_getElem?,hla];rfl
    rwa [List.getElem?_take_of_lt (by omega)] at this
   have tn:((back.length:Int) - 1).toNat=back.length - 1:=by omega
   have hbk2:aBk (some (p,v,cs)) back=.ms p v 0 back.length 1:=rfl
   have hbk3:aBk (some (p,v,cs)) back.dropLast=.ms p v 0 (back.length - 1) 1:=by simp[aBk]
   rw[hbk2] at har
   push_cast (maxSteps:=999999) -implicitDefEqProofs (disch:=omega)[har,hp,hx,tn,aInt,aBool]
   refine Q6 rfl rfl har (by simp[ar_len]) ?_
   push_cast (maxSteps:=999999) -implicitDefEqProofs (disch:=omega)[aInt,aBool,hbk3]
   exact trivial
def takeF2 (held:List Bool) (back:List Int) (fresh peak:Int):Option (Int×List Bool×List Int×Int×Int):=
 match nextF2 held back fresh with
 | none=>none
 | some (id,b,f)=>some (id,held.set id.toNat true,b,f,max peak (usedN (held.set id.toNat true)))
omit h hbl in
theorem next_in (hb:∀x∈back,0≤x∧x < held.length) (hf:0≤fresh∧fresh≤1000000) {id:Int} {b:List Int} {f:Int} (e:nextF2 held back fresh=some (id,b,f)):0≤id∧id < held.length∧(∀x∈b,0≤x∧x < held.length)∧0≤f∧f≤fresh+1∧b.length≤back.length:=by
 unfold nextF2 at e
 split at e
 ·rename_i x hx
  simp only[Option.some.injEq,Prod.mk.injEq] at e
  obtain ⟨rfl,rfl,rfl⟩:=e
  have:=hb x (List.mem_of_getLast? hx)
  exact ⟨this.1,this.2,fun y hy=>hb y (List.dropLast_subset _ hy),hf.1,by omega,by simp⟩
 ·have ew:w64 (fresh+1)=fresh+1:=Q97 (by omega) (by omega)
  rw[ew] at e
  split at e
  ·cases e
  ·simp only[Option.some.injEq,Prod.mk.injEq] at e
   obtain ⟨rfl,rfl,rfl⟩:=e
   exact ⟨by omega,by omega,fun x hx=>by simp at hx,by omega,by omega,by simp⟩
theorem arena_Take_a:FnG Tryz.prog 135 [.ref ja 0 0] σ fun a σ'=>
  match takeF2 held back fresh peak with
  | none=>a=.tup [aInt 0,aBool false]∧σ'=σ
  | some (id,l,b,f,p)=>a=.tup [aInt id,aBool true]∧σ'=(σ.set jh (.obj 0 (l.map aBool))).set ja (.obj 0 (aAr jh l (aBk g b) f p)):=by
 refine Q2 YU mixed rfl ?_
 simp only[Z38]
 have hlt:=Qe h.ar
 have hlh:=Qe h.hl
 have hlen:=h.len
 have hne:=h.ne
 push_cast (maxSteps:=999999) -implicitDefEqProofs (disch:=omega)
 refine Q0 (arena_next_a h hbl) ?_
 intro a σ' ha
 cases e:nextF2 held back fresh with
 | none=>
  have et:takeF2 held back fresh peak=none:=by unfold takeF2;rw[e]
  rw[e] at ha
  obtain ⟨rfl,rfl⟩:=ha
  rw[et]
  push_cast (maxSteps:=999999) -implicitDefEqProofs (disch:=omega)[aInt,aBool]
  exact trivial
 | some y=>
  obtain ⟨id,b,f⟩:=y
  have et:takeF2 held back fresh peak=some (id,held.set id.toNat true,b,f,max peak (usedN (held.set id.toNat true))):=by unfold takeF2;rw[e]
  rw[e] at ha
  obtain ⟨rfl,rfl⟩:=ha
  rw[et]
  obtain ⟨i0,i1,_⟩:=next_in h.inb h.f0 e
  have hh1:(σ.set ja (.obj 0 (aAr jh held (aBk g b) f peak)))[jh]?=some (.obj 0 (held.map aBool)):=Q4 hne h.hl
  have hus:=used_le (held.set id.toNat true)
  rw[List.length_set] at hus
  have hsl:(held.set id.toNat true).length=held.length:=List.length_set
  push_cast (maxSteps:=999999) -implicitDefEqProofs (disch:=omega)[aInt,aBool]
  refine Q6 rfl rfl hh1 (by simp;omega) ?_
  rw[bool_set]
  have hA:((σ.set ja (.obj 0 (aAr jh held (aBk g b) f peak))).set jh (.obj 0 ((held.set id.toNat true).map aBool)))[ja]?=some (.obj 0 (aAr jh (held.set id.toNat true) (aBk g b) f peak)):=by
   unfold aAr;rw[hsl];exact Q4 hne.symm (Qa h.ar)
  have hB:((σ.set ja (.obj 0 (aAr jh held (aBk g b) f peak))).set jh (.obj 0 ((held.set id.toNat true).map aBool)))[jh]?=some (.obj 0 ((held.set id.toNat true).map aBool)):=Qa hh1
  have key:∀σ2,σ2[ja]?=some (.obj 0 (aAr jh (held.set id.toNat true) (aBk g b) f peak))→σ2[jh]?=some (.obj 0 ((held.set id.toNat true).map aBool)) →
    ((σ.set ja (.obj 0 (aAr jh held (aBk g b) f peak))).set jh (.obj 0 ((held.set id.toNat true).map aBool)))=σ2→σ2.set ja (.obj 0 (aAr jh (held.set id.toNat true) (aBk g b) f (max peak (usedN (held.set id.toNat true)))))=(σ.set jh (.obj 0 ((held.set id.toNat true).map aBool))).set ja (.obj 0 (aAr jh (held.set id.toNat true) (aBk g b) f (max peak (usedN (held.set id.toNat true))))):=by
   rintro σ2 _ _ rfl
   exact set3 hne
  generalize hs2:((σ.set ja (.obj 0 (aAr jh held (aBk g b) f peak))).set jh (.obj 0 ((held.set id.toNat true).map aBool)))=σ2 at hA hB key
  push_cast (maxSteps:=999999) -implicitDefEqProofs (disch:=omega)[hA]
  refine Q0 (Y70 hA hB (by omega)) ?_
  rintro a σ3 ⟨rfl,rfl⟩
  push_cast (maxSteps:=999999) -implicitDefEqProofs (disch:=omega)[hA,aInt,aBool]
  refine Q6 rfl rfl hA (by simp[ar_len]) ?_
  rw[←key _ hA hB rfl]
  push_cast (maxSteps:=999999) -implicitDefEqProofs (disch:=omega)[aInt,aBool]
  exact trivial
theorem arena_Give_a (id:Int):FnG Tryz.prog 289 [.ref ja 0 0,.v (.int .i64 id)] σ fun a σ'=>
  if heldL held id then a=aBool true∧∃g',ArAt σ' ja jh g' (held.set id.toNat false) (back++[id]) fresh peak∧σ.length≤σ'.length ∧
    (∀j,j < σ.length→j≠ja→j≠jh→(∀p v cs,g=some (p,v,cs)→j≠p)→σ'[j]?=σ[j]?)∧GivePl g g' σ.length
  else a=aBool false∧σ'=σ:=by
 refine Q2 Y01 mixed rfl ?_
 simp only[Z45]
 have hlt:=Qe h.ar
 have hlh:=Qe h.hl
 have hlen:=h.len
 have hne:=h.ne
 push_cast (maxSteps:=999999) -implicitDefEqProofs (disch:=omega)
 refine Q0 (Y71 h.ar h.hl (by omega) id) ?_
 rintro a σ' ⟨rfl,hs⟩
 rw[hs];clear hs
 cases c:heldL held id with
 | false=>
  simp only[if_false,Bool.false_eq_true]
  push_cast (maxSteps:=999999) -implicitDefEqProofs (disch:=omega)[aBool]
  exact trivial
 | true=>
  simp only[if_true]
  obtain ⟨i0,i1,i2⟩:=J99 c
  have har:=h.ar
  have hhl:=h.hl
  push_cast (maxSteps:=999999) -implicitDefEqProofs (disch:=omega)[aBool,har,hhl]
  refine Q6 rfl rfl hhl (by simp;omega) ?_
  rw[bool_set]
  have hA:(σ.set jh (.obj 0 ((held.set id.toNat false).map aBool)))[ja]?=some (.obj 0 (aAr jh held (aBk g back) fresh peak)):=Q4 hne.symm har
  have hB:(σ.set jh (.obj 0 ((held.set id.toNat false).map aBool)))[jh]?=some (.obj 0 ((held.set id.toNat false).map aBool)):=Qa hhl
  have hL:(σ.set jh (.obj 0 ((held.set id.toNat false).map aBool))).length=σ.length:=List.length_set
  have hK:∀j,j≠jh→(σ.set jh (.obj 0 ((held.set id.toNat false).map aBool)))[j]?=σ[j]?:=fun j hj=>List.getElem?_set_ne (Ne.symm hj)
  generalize (σ.set jh (.obj 0 ((held.set id.toNat false).map aBool)))=σ2 at hA hB hL hK
  have hsl:(held.set id.toNat false).length=held.length:=List.length_set
  rcases g with _|⟨p,v,cs⟩
  ·have hb:back=[]:=h.bk
   subst hb
   have e0:aBk none ([]:List Int)=.sl 0 [] .nil:=rfl
   rw[e0] at hA
   push_cast (maxSteps:=999999) -implicitDefEqProofs (disch:=omega)[hA]
   refine Qt (sz:=1) (by intro a ha;simp at ha;subst ha;rfl) (by simp) ?_
   push_cast (maxSteps:=999999) -implicitDefEqProofs (disch:=omega)
   refine wpa_app_nilo (m:=1) (news:=[.v (.int .i64 id)]) rfl rfl rfl rfl (by decide) (by decide) (by decide) ?_
   have hA2:=Qj (τ:=[Res.obj 0 [AV.v (.int .i64 id)]]) hA
   have hB2:=Qj (τ:=[Res.obj 0 [AV.v (.int .i64 id)]]) hB
   have hC2:(σ2++[Res.obj 0 [AV.v (.int .i64 id)]])[σ.length]?=some (Res.obj 0 [AV.v (.int .i64 id)]):=snoc_at hL
   have hK2:∀j,j < σ.length→j≠jh→(σ2++[Res.obj 0 [AV.v (.int .i64 id)]])[j]?=σ[j]?:=fun j hj hj2=>by rw[List.getElem?_append_left (by omega)];exact hK j hj2
   have hL2:(σ2++[Res.obj 0 [AV.v (.int .i64 id)]]).length=σ.length+1:=by simp[hL]
   have hl0:σ2.length=σ.length:=hL
   generalize (σ2++[Res.obj 0 [AV.v (.int .i64 id)]])=σ3 at hA2 hB2 hC2 hK2 hL2
   push_cast (maxSteps:=999999) -implicitDefEqProofs (disch:=omega)[hl0]
   refine Q6 rfl rfl hA2 (by simp[ar_len]) ?_
   push_cast (maxSteps:=999999) -implicitDefEqProofs (disch:=omega)[aBool]
   refine ⟨some (σ.length,0,[.v (.int .i64 id)]),⟨?_,Q4 hne hB2,⟨Q4 (by omega) hC2,by simp,by simp[aInt],by omega,by omega⟩,hne,by rw[hsl];exact hlen,?_,h.f0⟩,by simp[hL2],?_,⟨_,_,rfl⟩⟩
   ·unfold aAr;rw[hsl];exact Qa hA2
   ·intro x hx;simp at hx;subst hx;rw[hsl];omega
   ·intro j hj j1 j2 _;rw[List.getElem?_set_ne (Ne.symm j1)];exact hK2 j hj j2
  ·obtain ⟨hp,hl2,ht,n1,n2⟩:=h.bk
   have e0:aBk (some (p,v,cs)) back=.ms p v 0 back.length 1:=rfl
   rw[e0] at hA
   have hp2:σ2[p]?=some (.obj v cs):=by rw[hK p n2];exact hp
   push_cast (maxSteps:=999999) -implicitDefEqProofs (disch:=omega)[hA]
   refine Qt (sz:=1) (by intro a ha;simp at ha;subst ha;rfl) (by simp) ?_
   push_cast (maxSteps:=999999) -implicitDefEqProofs (disch:=omega)
   refine J44 (m:=1) (news:=[.v (.int .i64 id)]) rfl rfl rfl rfl (by omega) (by omega) (by omega) hp2 ?_
   have hA2:=Q4 (o:=Res.obj (v+1) (cs.take (back.length * 1)++[.v (.int .i64 id)])) n1 hA
   have hB2:=Q4 (o:=Res.obj (v+1) (cs.take (back.length * 1)++[.v (.int .i64 id)])) n2 hB
   have hC2:=Qa (o:=Res.obj (v+1) (cs.take (back.length * 1)++[.v (.int .i64 id)])) hp2
   have hK2:∀j,j≠jh→j≠p→(σ2.set p (Res.obj (v+1) (cs.take (back.length * 1)++[.v (.int .i64 id)])))[j]?=σ[j]?:=fun j hj hj2=>by rw[List.getElem?_set_ne (Ne.symm hj2)];exact hK j hj
   have hL2:(σ2.set p (Res.obj (v+1) (cs.take (back.length * 1)++[.v (.int .i64 id)]))).length=σ.length:=by simp[hL]
   generalize (σ2.set p (Res.obj (v+1) (cs.take (back.length * 1)++[.v (.int .i64 id)])))=σ3 at hA2 hB2 hC2 hK2 hL2
   push_cast (maxSteps:=999999) -implicitDefEqProofs (disch:=omega)
   refine Q6 rfl rfl hA2 (by simp[ar_len]) ?_
   push_cast (maxSteps:=999999) -implicitDefEqProofs (disch:=omega)[aBool]
   rw[Nat.mul_one,ht] at hC2
   have hbk:aBk (some (p,v+1,back.map aInt++[.v (.int .i64 id)])) (back++[id])=.ms p (v+1) 0 (back.length+1) 1:=by simp[aBk]
   refine ⟨some (p,v+1,back.map aInt++[.v (.int .i64 id)]),⟨?_,Q4 hne hB2,⟨Q4 n1.symm hC2,by simp,by rw[List.take_of_length_le (by simp)];simp[aInt],n1,n2⟩,hne,by rw[hsl];exact hlen,?_,h.f0⟩,by simp[hL2],?_,⟨_,_,rfl⟩⟩
   ·rw[hbk];unfold aAr;rw[hsl];exact Qa hA2
   ·intro x hx;rw[hsl];rw[List.mem_append] at hx
    rcases hx with hx|hx
    ·exact h.inb x hx
    ·simp at hx;subst hx;omega
   ·intro j hj j1 j2 j3;rw[List.getElem?_set_ne (Ne.symm j1)];exact hK2 j j2 (j3 _ _ _ rfl)
end
end Go.Proofs.YtelibaobkcokdaaGreat.Mx
