/- The machine: numbers that are taken and given back; frames. -/
import Derived.Test.YtelibaobkcokdaaGreatTH2G16
namespace Go.Proofs.YtelibaobkcokdaaGreat.Mx
set_option linter.unusedSectionVars false
set_option linter.unusedVariables false
set_option linter.unusedSimpArgs false
open Go Go.Kx Go.Proofs Go.Proofs.YtelibaobkcokdaaGreat
set_option maxRecDepth 8000
abbrev Bg:=Option (Nat×Nat×List AV)
def aBk:Bg→List Int→AV
 | none,_=>.sl 0 [] .nil
 | some (p,v,_),l=>.ms p v 0 l.length 1
def BkAt (σ:Kx.St) (ja jh:Nat):Bg→List Int→Prop
 | none,l=>l=[]
 | some (p,v,cs),l=>σ[p]?=some (.obj v cs)∧l.length≤cs.length∧cs.take l.length=l.map aInt∧p≠ja∧p≠jh
def aAr (jh:Nat) (held:List Bool) (bk:AV) (fresh peak:Int):List AV:=[.ms jh 0 0 held.length 1,bk,.v (.int .i64 fresh),.v (.int .i64 peak)]
structure ArAt (σ:Kx.St) (ja jh:Nat) (g:Bg) (held:List Bool) (back:List Int) (fresh peak:Int):Prop where
 ar:σ[ja]?=some (.obj 0 (aAr jh held (aBk g back) fresh peak))
 hl:σ[jh]?=some (.obj 0 (held.map aBool))
 bk:BkAt σ ja jh g back
 ne:ja≠jh
 len:held.length≤1000
 inb:∀x∈back,0≤x∧x < held.length
 f0:0≤fresh∧fresh≤1000000
section
variable (jh:Nat) (held:List Bool) (bk:AV) (fresh peak:Int)
theorem ar0:(aAr jh held bk fresh peak)[0]?=some (.ms jh 0 0 held.length 1):=(rfl)
theorem ar1:(aAr jh held bk fresh peak)[1]?=some bk:=(rfl)
theorem ar2:(aAr jh held bk fresh peak)[2]?=some (.v (.int .i64 fresh)):=(rfl)
theorem ar3:(aAr jh held bk fresh peak)[3]?=some (.v (.int .i64 peak)):=(rfl)
theorem ars1 (x:AV):(aAr jh held bk fresh peak).set 1 x=aAr jh held x fresh peak:=(rfl)
theorem ars2 (x:Int):(aAr jh held bk fresh peak).set 2 (.v (.int .i64 x))=aAr jh held bk x peak:=(rfl)
theorem ars3 (x:Int):(aAr jh held bk fresh peak).set 3 (.v (.int .i64 x))=aAr jh held bk fresh x:=(rfl)
theorem ar_len:(aAr jh held bk fresh peak).length=4:=rfl
end
attribute [push_cast] ar0 ar1 ar2 ar3 ars1 ars2 ars3
def heldL (l:List Bool) (id:Int):Bool:=decide (0 < id∧id < l.length)&&l.getD id.toNat false
theorem Y88 {l:List Bool} {id:Int} (h:heldL l id=true):0 < id∧id < l.length∧l[id.toNat]?=some true:=by unfold heldL at h;rw[Bool.and_eq_true,decide_eq_true_eq] at h;obtain ⟨⟨h1,h2⟩,h3⟩:=h;obtain ⟨x,hx⟩:=Q23 (l:=l) (k:=id.toNat) ka;rw[List.getD_eq_getElem?_getD,hx] at h3;exact ⟨h1,h2,by rw[hx];simpa using h3⟩
theorem bool_at {l:List Bool} {k:Nat} {x:Bool} (h:l[k]?=some x):(l.map aBool)[k]?=some (.v (.bool x)):=by rw[List.getElem?_map,h];rfl
theorem bool_set (l:List Bool) (k:Nat) (x:Bool):(l.map aBool).set k (.v (.bool x))=(l.set k x).map aBool:=by rw[List.map_set];rfl
theorem X93 {σ:Kx.St} {ja jh:Nat} {l:List Bool} {t:List AV} (ha:σ[ja]?=some (.obj 0 (.ms jh 0 0 l.length 1::t))) (hh:σ[jh]?=some (.obj 0 (l.map aBool))) (hl:l.length≤1000000) (id:Int):
  FnG Tryz.prog 195 [.ref ja 0 0,.v (.int .i64 id)] σ fun a σ'=>a=aBool (heldL l id)∧σ'=σ:=by
 refine Q3 Z34.2 mixed rfl ?_;simp only[Z34,qH];by_cases c1:0 < id
 ·by_cases c2:id < l.length
  ·obtain ⟨x,hx⟩:=Q23 (l:=l) (k:=id.toNat) ka;have e:heldL l id=x:=by simp[heldL,c1,c2,List.getD_eq_getElem?_getD,hx]
   have hb:=bool_at hx;rw[e];push_cast (maxSteps:=999999) -implicitDefEqProofs (disch:=omega)[ha,hh,hb,c1,c2,aBool];exact trivial
  ·have e:heldL l id=false:=by simp[heldL,c2]
   rw[e];push_cast (maxSteps:=999999) -implicitDefEqProofs (disch:=omega)[ha,c1,c2,aBool];exact trivial
 ·have e:heldL l id=false:=by simp[heldL,c1]
  rw[e];push_cast (maxSteps:=999999) -implicitDefEqProofs (disch:=omega)[ha,c1,aBool];exact trivial
def GivePl (g g':Bg) (n:Nat):Prop:=match g with|none=>∃v cs,g'=some (n,v,cs)|some (p,_,_)=>∃v cs,g'=some (p,v,cs)
section
variable {σ:Kx.St} {ja jh:Nat} {g:Bg} {held:List Bool} {back:List Int} {fresh peak:Int} (h:ArAt σ ja jh g held back fresh peak) (hbl:back.length≤1000000000)
include h hbl
def nextF2 (held:List Bool) (back:List Int) (fresh:Int):Option (Int×List Int×Int):=
 match back.getLast? with
 | some id=>some (id,back.dropLast,fresh)
 | none=>if (held.length:Int)≤w64 (fresh+1) then none else some (w64 (fresh+1),[],w64 (fresh+1))
theorem arena_next_a:FnG Tryz.prog 212 [.ref ja 0 0] σ fun a σ'=>
  match nextF2 held back fresh with
  | none=>a=.tup [aInt 0,aBool false]∧σ'=σ
  | some (id,b,f)=>a=.tup [aInt id,aBool true]∧σ'=σ.set ja (.obj 0 (aAr jh held (aBk g b) f peak)):=by
 refine Q3 Z35.2 mixed rfl ?_;simp only[Z35,qH];have hlt:=Qh h.ar;have hlen:=h.len;have hf0:=h.f0;have har:=h.ar;by_cases c:back=[]
 ·subst c;have e:nextF2 held [] fresh=if (held.length:Int)≤w64 (fresh+1) then none else some (w64 (fresh+1),[],w64 (fresh+1)):=rfl;have ew:w64 (fresh+1)=fresh+1:=Q22 ka ka;rw[e,ew]
  have key:∀bk:AV,aBk g []=bk→(bk=.sl 0 [] .nil∨∃p v,bk=.ms p v 0 0 1):=by
   intro bk hbk;subst hbk
   cases g with
   | none=>exact .inl rfl
   | some x=>obtain ⟨p,v,cs⟩:=x;exact .inr ⟨p,v,rfl⟩
  generalize hbk:aBk g []=bk at har;by_cases c2:(held.length:Int)≤fresh+1
  ·rw[if_pos c2];rcases key bk hbk with rfl|⟨p,v,rfl⟩<;>(push_cast (disch:=omega)[har,c2,aInt,aBool];exact trivial)
  ·rw[if_neg c2];rcases key bk hbk with rfl|⟨p,v,rfl⟩
   all_goals
    push_cast (disch:=omega)[har,c2,aInt,aBool];refine Q9 rfl rfl har (by simp[ar_len]) ?_;push_cast (disch:=omega)[aInt,aBool];simp only[hbk];exact trivial
 ·cases hg:g with
  | none=>have:=h.bk;rw[hg] at this;exact absurd this c
  | some x=>
   obtain ⟨p,v,cs⟩:=x;have hb:=h.bk;rw[hg] at hb har;obtain ⟨hp,hl2,ht,n1,n2⟩:=hb;have hpos:0 < back.length:=List.length_pos_iff.2 c;have hla:back.getLast?=some (back.getLast c):=List.getLast?_eq_some_getLast c;have e:nextF2 held back fresh=some (back.getLast c,back.dropLast,fresh):=by unfold nextF2;rw[hla]
   rw[e]
   have hx:cs[back.length - 1]?=some (.v (.int .i64 (back.getLast c))):=by
    have:(cs.take back.length)[back.length - 1]?=some (.v (.int .i64 (back.getLast c))):=by rw[ht,List.getElem?_map,←List.getLast?_eq_getElem?,hla];rfl
    rwa [List.getElem?_take_of_lt ka] at this
   have tn:((back.length:Int) - 1).toNat=back.length - 1:=by omega
   have hbk2:aBk (some (p,v,cs)) back=.ms p v 0 back.length 1:=rfl;have hbk3:aBk (some (p,v,cs)) back.dropLast=.ms p v 0 (back.length - 1) 1:=by simp[aBk]
   rw[hbk2] at har;push_cast (disch:=omega)[har,hp,hx,tn,aInt,aBool];refine Q9 rfl rfl har (by simp[ar_len]) ?_;push_cast (disch:=omega)[aInt,aBool,hbk3];exact trivial
def takeF2 (held:List Bool) (back:List Int) (fresh peak:Int):Option (Int×List Bool×List Int×Int×Int):=
 match nextF2 held back fresh with
 | none=>none
 | some (id,b,f)=>some (id,held.set id.toNat true,b,f,max peak (usedN (held.set id.toNat true)))
omit h hbl in
theorem next_in (hb:∀x∈back,0≤x∧x < held.length) (hf:0≤fresh∧fresh≤1000000) {id:Int} {b:List Int} {f:Int} (e:nextF2 held back fresh=some (id,b,f)):0≤id∧id < held.length∧(∀x∈b,0≤x∧x < held.length)∧0≤f∧f≤fresh+1∧b.length≤back.length:=by
 unfold nextF2 at e;split at e
 ·rename_i x hx;simp only[Option.some.injEq,Prod.mk.injEq] at e;obtain ⟨rfl,rfl,rfl⟩:=e;have:=hb x (List.mem_of_getLast? hx);exact ⟨this.1,this.2,fun y hy=>hb y (List.dropLast_subset _ hy),hf.1,by omega,by simp⟩
 ·have ew:w64 (fresh+1)=fresh+1:=Q22 ka ka;rw[ew] at e;split at e
  ·cases e
  ·simp only[Option.some.injEq,Prod.mk.injEq] at e;obtain ⟨rfl,rfl,rfl⟩:=e;exact ⟨by omega,by omega,fun x hx=>by simp at hx,by omega,by omega,by simp⟩
theorem arena_Take_a:FnG Tryz.prog 135 [.ref ja 0 0] σ fun a σ'=>
  match takeF2 held back fresh peak with
  | none=>a=.tup [aInt 0,aBool false]∧σ'=σ
  | some (id,l,b,f,p)=>a=.tup [aInt id,aBool true]∧σ'=(σ.set jh (.obj 0 (l.map aBool))).set ja (.obj 0 (aAr jh l (aBk g b) f p)):=by
 refine Q3 Z33.2 mixed rfl ?_;simp only[Z33,qH];have hlt:=Qh h.ar;have hlh:=Qh h.hl;have hlen:=h.len;have hne:=h.ne;push_cast (disch:=omega);refine Q0 (arena_next_a h hbl) ?_;intro a σ' ha
 cases e:nextF2 held back fresh with
 | none=>
  have et:takeF2 held back fresh peak=none:=by unfold takeF2;rw[e]
  rw[e] at ha;obtain ⟨rfl,rfl⟩:=ha;rw[et];push_cast (disch:=omega)[aInt,aBool];exact trivial
 | some y=>
  obtain ⟨id,b,f⟩:=y;have et:takeF2 held back fresh peak=some (id,held.set id.toNat true,b,f,max peak (usedN (held.set id.toNat true))):=by unfold takeF2;rw[e]
  rw[e] at ha;obtain ⟨rfl,rfl⟩:=ha;rw[et];obtain ⟨i0,i1,_⟩:=next_in h.inb h.f0 e;have hh1:(σ.set ja (.obj 0 (aAr jh held (aBk g b) f peak)))[jh]?=some (.obj 0 (held.map aBool)):=Qa hne h.hl;have hus:=used_le (held.set id.toNat true);rw[List.length_set] at hus;have hsl:(held.set id.toNat true).length=held.length:=List.length_set;push_cast (disch:=omega)[aInt,aBool];refine Q9 rfl rfl hh1 eG ?_;rw[bool_set];have hA:((σ.set ja (.obj 0 (aAr jh held (aBk g b) f peak))).set jh (.obj 0 ((held.set id.toNat true).map aBool)))[ja]?=some (.obj 0 (aAr jh (held.set id.toNat true) (aBk g b) f peak)):=by unfold aAr;rw[hsl];exact Qa hne.symm (Qb h.ar)
  have hB:((σ.set ja (.obj 0 (aAr jh held (aBk g b) f peak))).set jh (.obj 0 ((held.set id.toNat true).map aBool)))[jh]?=some (.obj 0 ((held.set id.toNat true).map aBool)):=Qb hh1
  have key:∀σ2,σ2[ja]?=some (.obj 0 (aAr jh (held.set id.toNat true) (aBk g b) f peak))→σ2[jh]?=some (.obj 0 ((held.set id.toNat true).map aBool)) →
    ((σ.set ja (.obj 0 (aAr jh held (aBk g b) f peak))).set jh (.obj 0 ((held.set id.toNat true).map aBool)))=σ2→σ2.set ja (.obj 0 (aAr jh (held.set id.toNat true) (aBk g b) f (max peak (usedN (held.set id.toNat true)))))=(σ.set jh (.obj 0 ((held.set id.toNat true).map aBool))).set ja (.obj 0 (aAr jh (held.set id.toNat true) (aBk g b) f (max peak (usedN (held.set id.toNat true))))):=by
   rintro σ2 _ _ rfl;exact set3 hne
  generalize hs2:((σ.set ja (.obj 0 (aAr jh held (aBk g b) f peak))).set jh (.obj 0 ((held.set id.toNat true).map aBool)))=σ2 at hA hB key;push_cast (disch:=omega)[hA];refine Q0 (X92 hA hB ka) ?_;rintro a σ3 ⟨rfl,rfl⟩;push_cast (disch:=omega)[hA,aInt,aBool];refine Q9 rfl rfl hA (by simp[ar_len]) ?_;rw[←key _ hA hB rfl];push_cast (disch:=omega)[aInt,aBool];exact trivial
theorem arena_Give_a (id:Int):FnG Tryz.prog 289 [.ref ja 0 0,.v (.int .i64 id)] σ fun a σ'=>
  if heldL held id then a=aBool true∧∃g',ArAt σ' ja jh g' (held.set id.toNat false) (back++[id]) fresh peak∧σ.length≤σ'.length ∧
    (∀j,j < σ.length→j≠ja→j≠jh→(∀p v cs,g=some (p,v,cs)→j≠p)→σ'[j]?=σ[j]?)∧GivePl g g' σ.length
  else a=aBool false∧σ'=σ:=by
 refine Q3 Z40.2 mixed rfl ?_;simp only[Z40,qH];have hlt:=Qh h.ar;have hlh:=Qh h.hl;have hlen:=h.len;have hne:=h.ne;push_cast (maxSteps:=999999) -implicitDefEqProofs (disch:=omega);refine Q4 (X93 h.ar h.hl ka id) ?_
 cases c:heldL held id with
 | false=>simp only[if_false,Bool.false_eq_true];push_cast (maxSteps:=999999) -implicitDefEqProofs (disch:=omega)[aBool];exact trivial
 | true=>
  simp only[if_true];obtain ⟨i0,i1,i2⟩:=Y88 c;have har:=h.ar;have hhl:=h.hl;push_cast (maxSteps:=999999) -implicitDefEqProofs (disch:=omega)[aBool,har,hhl];refine Q9 rfl rfl hhl eG ?_;rw[bool_set];have hA:(σ.set jh (.obj 0 ((held.set id.toNat false).map aBool)))[ja]?=some (.obj 0 (aAr jh held (aBk g back) fresh peak)):=Qa hne.symm har;have hB:(σ.set jh (.obj 0 ((held.set id.toNat false).map aBool)))[jh]?=some (.obj 0 ((held.set id.toNat false).map aBool)):=Qb hhl;have hL:(σ.set jh (.obj 0 ((held.set id.toNat false).map aBool))).length=σ.length:=List.length_set;have hK:∀j,j≠jh→(σ.set jh (.obj 0 ((held.set id.toNat false).map aBool)))[j]?=σ[j]?:=fun j hj=>List.getElem?_set_ne (Ne.symm hj);generalize (σ.set jh (.obj 0 ((held.set id.toNat false).map aBool)))=σ2 at hA hB hL hK;have hsl:(held.set id.toNat false).length=held.length:=List.length_set;rcases g with _|⟨p,v,cs⟩
  ·have hb:back=[]:=h.bk;subst hb;have e0:aBk none ([]:List Int)=.sl 0 [] .nil:=rfl;rw[e0] at hA;push_cast (maxSteps:=999999) -implicitDefEqProofs (disch:=omega)[hA];refine QA (sz:=1) oG ke ?_;push_cast (maxSteps:=999999) -implicitDefEqProofs (disch:=omega);refine wpa_app_nilo (m:=1) (news:=[.v (.int .i64 id)]) rfl rfl rfl rfl ko ko ko ?_;have hA2:=Qn (τ:=[Res.obj 0 [AV.v (.int .i64 id)]]) hA;have hB2:=Qn (τ:=[Res.obj 0 [AV.v (.int .i64 id)]]) hB;have hC2:(σ2++[Res.obj 0 [AV.v (.int .i64 id)]])[σ.length]?=some (Res.obj 0 [AV.v (.int .i64 id)]):=snoc_at hL;have hK2:∀j,j < σ.length→j≠jh→(σ2++[Res.obj 0 [AV.v (.int .i64 id)]])[j]?=σ[j]?:=fun j hj hj2=>by rw[List.getElem?_append_left ka];exact hK j hj2
   have hL2:(σ2++[Res.obj 0 [AV.v (.int .i64 id)]]).length=σ.length+1:=by simp[hL]
   have hl0:σ2.length=σ.length:=hL;generalize (σ2++[Res.obj 0 [AV.v (.int .i64 id)]])=σ3 at hA2 hB2 hC2 hK2 hL2;push_cast (maxSteps:=999999) -implicitDefEqProofs (disch:=omega)[hl0];refine Q9 rfl rfl hA2 (by simp[ar_len]) ?_;push_cast (maxSteps:=999999) -implicitDefEqProofs (disch:=omega)[aBool];refine ⟨some (σ.length,0,[.v (.int .i64 id)]),⟨?_,Qa hne hB2,⟨Qa ka hC2,by simp,by simp[aInt],by omega,by omega⟩,hne,by rw[hsl];exact hlen,?_,h.f0⟩,by simp[hL2],?_,⟨_,_,rfl⟩⟩
   ·unfold aAr;rw[hsl];exact Qb hA2
   ·intro x hx;simp at hx;subst hx;rw[hsl];omega
   ·intro j hj j1 j2 _;rw[List.getElem?_set_ne (Ne.symm j1)];exact hK2 j hj j2
  ·obtain ⟨hp,hl2,ht,n1,n2⟩:=h.bk;have e0:aBk (some (p,v,cs)) back=.ms p v 0 back.length 1:=rfl;rw[e0] at hA;have hp2:σ2[p]?=some (.obj v cs):=by rw[hK p n2];exact hp
   push_cast (maxSteps:=999999) -implicitDefEqProofs (disch:=omega)[hA];refine QA (sz:=1) oG ke ?_;push_cast (maxSteps:=999999) -implicitDefEqProofs (disch:=omega);refine Y34 (m:=1) (news:=[.v (.int .i64 id)]) rfl rfl rfl rfl ka ka ka hp2 ?_;have hA2:=Qa (o:=Res.obj (v+1) (cs.take (back.length * 1)++[.v (.int .i64 id)])) n1 hA;have hB2:=Qa (o:=Res.obj (v+1) (cs.take (back.length * 1)++[.v (.int .i64 id)])) n2 hB;have hC2:=Qb (o:=Res.obj (v+1) (cs.take (back.length * 1)++[.v (.int .i64 id)])) hp2;have hK2:∀j,j≠jh→j≠p→(σ2.set p (Res.obj (v+1) (cs.take (back.length * 1)++[.v (.int .i64 id)])))[j]?=σ[j]?:=fun j hj hj2=>by rw[List.getElem?_set_ne (Ne.symm hj2)];exact hK j hj
   have hL2:(σ2.set p (Res.obj (v+1) (cs.take (back.length * 1)++[.v (.int .i64 id)]))).length=σ.length:=by simp[hL]
   generalize (σ2.set p (Res.obj (v+1) (cs.take (back.length * 1)++[.v (.int .i64 id)])))=σ3 at hA2 hB2 hC2 hK2 hL2;push_cast (maxSteps:=999999) -implicitDefEqProofs (disch:=omega);refine Q9 rfl rfl hA2 (by simp[ar_len]) ?_;push_cast (maxSteps:=999999) -implicitDefEqProofs (disch:=omega)[aBool];rw[Nat.mul_one,ht] at hC2;have hbk:aBk (some (p,v+1,back.map aInt++[.v (.int .i64 id)])) (back++[id])=.ms p (v+1) 0 (back.length+1) 1:=by simp[aBk]
   refine ⟨some (p,v+1,back.map aInt++[.v (.int .i64 id)]),⟨?_,Qa hne hB2,⟨Qa n1.symm hC2,by simp,by rw[List.take_of_length_le ke];simp[aInt],n1,n2⟩,hne,by rw[hsl];exact hlen,?_,h.f0⟩,by simp[hL2],?_,⟨_,_,rfl⟩⟩
   ·rw[hbk];unfold aAr;rw[hsl];exact Qb hA2
   ·intro x hx;rw[hsl];rw[List.mem_append] at hx;rcases hx with hx|hx
    ·exact h.inb x hx
    ·simp at hx;subst hx;omega
   ·intro j hj j1 j2 j3;rw[List.getElem?_set_ne (Ne.symm j1)];exact hK2 j j2 (j3 _ _ _ rfl)
end
def aFm (f:Fm):List AV:=[.v (.int .i64 f.kind),.v (.int .i64 f.fn),.v (.int .i64 f.pc),aR1 f.regs 0,aR1 f.regs 1,aR1 f.regs 2,aR1 f.regs 3,aR1 f.regs 4,aR1 f.regs 5,aR1 f.regs 6,aR1 f.regs 7,.v (.int .i64 f.parent),.v (.bool f.dirty),.v (.bool f.due),.v (.int .i64 f.index),.v (.int .i64 f.stage),.v (.int .i64 f.fold),.v (.int .i64 f.started),.v (.int .i64 f.serial)]
theorem Q16 (f:Fm):(aFm f).length=19:=rfl
theorem X50 (f:Fm):(aFm f).all AV.one=true:=rfl
section
variable (f:Fm)
theorem fmi0:(aFm f)[0]?=some (.v (.int .i64 f.kind)):=(rfl)
theorem fms0 (x:Int):(aFm f).set 0 (.v (.int .i64 x))=aFm { f with kind:=x }:=(rfl)
theorem fmi1:(aFm f)[1]?=some (.v (.int .i64 f.fn)):=(rfl)
theorem fms1 (x:Int):(aFm f).set 1 (.v (.int .i64 x))=aFm { f with fn:=x }:=(rfl)
theorem fmi2:(aFm f)[2]?=some (.v (.int .i64 f.pc)):=(rfl)
theorem fms2 (x:Int):(aFm f).set 2 (.v (.int .i64 x))=aFm { f with pc:=x }:=(rfl)
theorem fmi11:(aFm f)[11]?=some (.v (.int .i64 f.parent)):=(rfl)
theorem fms11 (x:Int):(aFm f).set 11 (.v (.int .i64 x))=aFm { f with parent:=x }:=(rfl)
theorem fmi12:(aFm f)[12]?=some (.v (.bool f.dirty)):=(rfl)
theorem fms12 (x:Bool):(aFm f).set 12 (.v (.bool x))=aFm { f with dirty:=x }:=(rfl)
theorem fmi13:(aFm f)[13]?=some (.v (.bool f.due)):=(rfl)
theorem fms13 (x:Bool):(aFm f).set 13 (.v (.bool x))=aFm { f with due:=x }:=(rfl)
theorem fmi14:(aFm f)[14]?=some (.v (.int .i64 f.index)):=(rfl)
theorem fms14 (x:Int):(aFm f).set 14 (.v (.int .i64 x))=aFm { f with index:=x }:=(rfl)
theorem fmi15:(aFm f)[15]?=some (.v (.int .i64 f.stage)):=(rfl)
theorem fms15 (x:Int):(aFm f).set 15 (.v (.int .i64 x))=aFm { f with stage:=x }:=(rfl)
theorem fmi16:(aFm f)[16]?=some (.v (.int .i64 f.fold)):=(rfl)
theorem fms16 (x:Int):(aFm f).set 16 (.v (.int .i64 x))=aFm { f with fold:=x }:=(rfl)
theorem fmi17:(aFm f)[17]?=some (.v (.int .i64 f.started)):=(rfl)
theorem fms17 (x:Int):(aFm f).set 17 (.v (.int .i64 x))=aFm { f with started:=x }:=(rfl)
theorem fmi18:(aFm f)[18]?=some (.v (.int .i64 f.serial)):=(rfl)
theorem fms18 (x:Int):(aFm f).set 18 (.v (.int .i64 x))=aFm { f with serial:=x }:=(rfl)
theorem fmc8:cellsA (some 8) ((aFm f).drop 3)=some (.agg (aRg f.regs)):=(rfl)
theorem fmc19:cellsA (some 19) (aFm f)=some (.agg (aFm f)):=(rfl)
theorem fms3 (rs:List Int):setAtA (aFm f) 3 (aRg rs)=aFm { f with regs:=rs }:=(rfl)
theorem fm_cells:(AV.agg (aFm f)).cells=aFm f:=(rfl)
theorem fm_ex:(AV.agg (aFm f)).exact=true:=(rfl)
end
theorem rg_ex (rs:List Int):(AV.agg (aRg rs)).exact=true:=(rfl)
attribute [push_cast] rg_ex fmc8 fmc19 fms3 fm_cells fm_ex fmi0 fms0 fmi1 fms1 fmi2 fms2 fmi11 fms11 fmi12 fms12 fmi13 fms13 fmi14 fms14 fmi15 fms15 fmi16 fms16 fmi17 fms17 fmi18 fms18
theorem Xz:∀(l A B:List AV),A.length=l.length→setAtA (A++B) 0 l=l++B:=by
 intro l
 induction l with
 | nil=>intro A B h;rw[List.eq_nil_of_length_eq_zero h];rfl
 | cons a l ih=>
  intro A B h
  cases A with
  | nil=>simp at h
  | cons x A=>simp only[List.length_cons,Nat.add_right_cancel_iff] at h;show setAtA (a::(A++B)) 1 l=a::(l++B);have:=XI [a] [] 0 l (A++B) 0;simp only[List.length_singleton,Nat.add_zero,List.singleton_append] at this;rw[this,ih A B h]
theorem Q30 {l A:List AV} (h:A.length=l.length):setAtA A 0 l=l:=by have:=Xz l A [] h;simpa using this
theorem flat_setAll {α:Type} {f:α→List AV} {n:Nat} (hn:∀a,(f a).length=n) {g:α} (h0:∀a B,setAtA (f a++B) 0 (f g)=f g++B):∀{L:List α} {k:Nat},k < L.length→setAtA (L.flatMap f) (k * n) (f g)=(L.set k g).flatMap f:=by
 intro L
 induction L with
 | nil=>intro k h;simp at h
 | cons y L ih=>
  intro k h
  cases k with
  | zero=>simp only[Nat.zero_mul,List.set_cons_zero,List.flatMap_cons];exact h0 y _
  | succ k=>simp only[List.length_cons] at h;simp only[List.set_cons_succ,List.flatMap_cons];rw[show (k+1) * n=(f y).length+k * n by rw[hn,Nat.succ_mul];omega,XI (f y) [] 0,ih ka]
theorem fm_setAll (fr:List Fm) {k:Nat} (h:k < fr.length) (f:Fm):setAtA (fr.flatMap aFm) (k * 19) (aFm f)=(fr.set k f).flatMap aFm:=flat_setAll Q16 (fun a B=>Xz _ _ B rfl) h
theorem fr_len (fr:List Fm):(fr.flatMap aFm).length=fr.length * 19:=Q36 Q16 fr
def fillK (ws:List Int) (a m n:Int) (k:Nat):List Int:=ws.mapIdx fun i x=>if i < k∧a≤i∧(i:Int) - a < m then n else x
theorem fillK_len (ws:List Int) (a m n:Int) (k:Nat):(fillK ws a m n k).length=ws.length:=by simp[fillK]
theorem fillK_0 (ws:List Int) (a m n:Int):fillK ws a m n 0=ws:=by apply List.ext_getElem?;intro i;simp[fillK]
theorem fillK_end (ws:List Int) (a m n:Int):fillK ws a m n ws.length=fillW ws a m n:=by
 apply List.ext_getElem?;intro i;simp only[fillK,fillW,List.getElem?_mapIdx];by_cases hi:i < ws.length
 ·simp[hi]
 ·rw[List.getElem?_eq_none ka];rfl
theorem fillK_yes {ws:List Int} {a m n:Int} {k:Nat} (h1:a≤k) (h2:(k:Int) - a < m):(fillK ws a m n k).set k n=fillK ws a m n (k+1):=by
 apply List.ext_getElem?;intro i;rw[List.getElem?_set];simp only[fillK,List.getElem?_mapIdx,List.length_mapIdx];by_cases hik:k=i
 ·subst hik;by_cases hi:k < ws.length
  ·simp[hi,h1,h2]
  ·simp[hi]
 ·have:(i < k+1)↔i < k:=by omega
  simp[hik,this]
theorem fillK_no {ws:List Int} {a m n:Int} {k:Nat} (h:¬(a≤k∧(k:Int) - a < m)):fillK ws a m n (k+1)=fillK ws a m n k:=by
 apply List.ext_getElem?;intro i;simp only[fillK,List.getElem?_mapIdx];by_cases hik:k=i
 ·subst hik;simp[h]
 ·have:(i < k+1)↔i < k:=by omega
  simp[this]
theorem YW (ws:List Int) (a m n:Int):(fillW ws a m n).length=ws.length:=by simp[fillW]
theorem st_Fill_a {σ:Kx.St} {js jw:Nat} {ws:List Int} (h:Wd σ js jw ws) {a:Int} (h0:0≤a) (m n:Int) (hb:ws.length≤1000000) (ha:a≤1000000):FnG Tryz.prog 136 [.ref js 0 0,.v (.int .i64 a),.v (.int .i64 m),.v (.int .i64 n)] σ fun _ σ'=>σ'=σ.set jw (.obj 0 ((fillW ws a m n).map aInt)):=by
 refine Q3 Z05.2 mixed rfl ?_;simp only[Z05,qH];push_cast (disch:=omega)[h0];refine Q0 (YK h.st) ?_;rintro r σ' ⟨rfl,hs⟩;rw[hs];clear hs;push_cast (disch:=omega)
 refine wpa_blx (α:=Nat) (I:=fun k ε σ1=>(ε 0=.ref js 0 0∧ε 1=.v (.int .i64 a)∧ε 2=.v (.int .i64 m)∧ε 3=.v (.int .i64 n)∧ε 19=.v (.int .i64 ws.length)∧ε 20=.v (.int .i64 k))∧k≤ws.length∧σ1=σ.set jw (.obj 0 ((fillK ws a m n k).map aInt)))
  (μ:=fun k=>ws.length - k) (Q:=fun ε σ1=>σ1=σ.set jw (.obj 0 ((fillW ws a m n).map aInt))) (x:=0) ?_ ?_ ?_
 ·refine ⟨by push_cast (disch:=omega),by omega,?_⟩;rw[fillK_0,h.self]
 ·rintro k ε σ1 N E X' R' ⟨hρ,hk,rfl⟩ hN hE;have hst:=Qa (o:=Res.obj 0 ((fillK ws a m n k).map aInt)) h.ne.symm h.st;have hwd:=Qb (o:=Res.obj 0 ((fillK ws a m n k).map aInt)) h.wd;by_cases hlt:k < ws.length
  ·by_cases c1:a≤k
   ·by_cases c2:(k:Int) - a < m
    ·push_cast (disch:=omega)[hρ,c1,c2,h0,hst];refine Q9 rfl rfl hwd (by simp[fillK_len];omega) ?_;rw[Yc,fillK_yes c1 c2];push_cast (disch:=omega)[hρ];exact hN (k+1) _ _ ⟨by push_cast (disch:=omega)[hρ],by omega,List.set_set ..⟩ ka
    ·push_cast (disch:=omega)[hρ,c1,c2,h0];refine hN (k+1) _ _ ⟨by push_cast (disch:=omega)[hρ],by omega,?_⟩ ka;rw[fillK_no fun h=>c2 h.2]
   ·push_cast (disch:=omega)[hρ,c1,h0];refine hN (k+1) _ _ ⟨by push_cast (disch:=omega)[hρ],by omega,?_⟩ ka;rw[fillK_no fun h=>c1 h.1]
  ·push_cast (disch:=omega)[hρ];obtain rfl:k=ws.length:=by omega
   exact hE _ _ (by rw[fillK_end])
 ·rintro ε σ1 rfl;push_cast (disch:=omega);exact trivial
theorem Y89 (σ:Kx.St) (f:Fm) (own fn:Int):FnG Tryz.prog 274 [.agg (aFm f),.v (.int .i64 own),.v (.int .i64 fn)] σ fun a σ'=>a=.agg (aFm ⟨1,fn,0,f.regs,own,false,false,0,0,0,0,0⟩)∧σ'=σ:=by
 refine FnG.drop0 (fun a h=>by subst h;rfl) ?_;refine Q3 ZR.2 mixed rfl ?_;simp only[ZR,qH];have hb:fillA [.v (.int .i64 0),.v (.int .i64 0),.v (.int .i64 0),.v (.int .i64 0),.v (.int .i64 0),.v (.int .i64 0),.v (.int .i64 0),.v (.int .i64 0),.v (.int .i64 0),.v (.int .i64 0),.v (.int .i64 0),.v (.int .i64 0),.v (.bool false),.v (.bool false),.v (.int .i64 0),.v (.int .i64 0),.v (.int .i64 0),.v (.int .i64 0),.v (.int .i64 0)] [(0,1),(1,1),(3,8),(11,1)] [.v (.int .i64 1),.v (.int .i64 fn),.agg (aRg f.regs),.v (.int .i64 own)]=some (aFm ⟨1,fn,0,f.regs,own,false,false,0,0,0,0,0⟩):=by simp[fillA,AV.cells,Value.cells,setAtA,aFm,aRg,z8,aR1]
 have hs:∀f,setAtA [.v (.int .i64 0),.v (.int .i64 0),.v (.int .i64 0),.v (.int .i64 0),.v (.int .i64 0),.v (.int .i64 0),.v (.int .i64 0),.v (.int .i64 0),.v (.int .i64 0),.v (.int .i64 0),.v (.int .i64 0),.v (.int .i64 0),.v (.bool false),.v (.bool false),.v (.int .i64 0),.v (.int .i64 0),.v (.int .i64 0),.v (.int .i64 0),.v (.int .i64 0)] 0 (aFm f)=aFm f:=fun f=>Q30 rfl;push_cast;refine Q6 ?_;push_cast;refine Qm ?_;push_cast[hb];refine Qd (cs:=[.v (.int .i64 0),.v (.int .i64 0),.v (.int .i64 0),.v (.int .i64 0),.v (.int .i64 0),.v (.int .i64 0),.v (.int .i64 0),.v (.int .i64 0),.v (.int .i64 0),.v (.int .i64 0),.v (.int .i64 0),.v (.int .i64 0),.v (.bool false),.v (.bool false),.v (.int .i64 0),.v (.int .i64 0),.v (.int .i64 0),.v (.int .i64 0),.v (.int .i64 0)]) (Q16 _) (X50 _) (Qe _ _) ke ?_;rw[hs,Qu];push_cast[Qe];exact ⟨_,rfl⟩
theorem frame_Loop_a (σ:Kx.St) (f:Fm) (own fn sr:Int):FnG Tryz.prog 275 [.agg (aFm f),.v (.int .i64 own),.v (.int .i64 fn),.v (.int .i64 sr)] σ fun a σ'=>a=.agg (aFm ⟨3,fn,0,f.regs,own,false,false,0,0,0,0,sr⟩)∧σ'=σ:=by
 refine FnG.drop0 (fun a h=>by subst h;rfl) ?_;refine Q3 Z38.2 mixed rfl ?_;simp only[Z38,qH];have hb:fillA [.v (.int .i64 0),.v (.int .i64 0),.v (.int .i64 0),.v (.int .i64 0),.v (.int .i64 0),.v (.int .i64 0),.v (.int .i64 0),.v (.int .i64 0),.v (.int .i64 0),.v (.int .i64 0),.v (.int .i64 0),.v (.int .i64 0),.v (.bool false),.v (.bool false),.v (.int .i64 0),.v (.int .i64 0),.v (.int .i64 0),.v (.int .i64 0),.v (.int .i64 0)] [(0,1),(1,1),(3,8),(11,1),(18,1)] [.v (.int .i64 3),.v (.int .i64 fn),.agg (aRg f.regs),.v (.int .i64 own),.v (.int .i64 sr)]=some (aFm ⟨3,fn,0,f.regs,own,false,false,0,0,0,0,sr⟩):=by simp[fillA,AV.cells,Value.cells,setAtA,aFm,aRg,z8,aR1]
 have hs:∀f,setAtA [.v (.int .i64 0),.v (.int .i64 0),.v (.int .i64 0),.v (.int .i64 0),.v (.int .i64 0),.v (.int .i64 0),.v (.int .i64 0),.v (.int .i64 0),.v (.int .i64 0),.v (.int .i64 0),.v (.int .i64 0),.v (.int .i64 0),.v (.bool false),.v (.bool false),.v (.int .i64 0),.v (.int .i64 0),.v (.int .i64 0),.v (.int .i64 0),.v (.int .i64 0)] 0 (aFm f)=aFm f:=fun f=>Q30 rfl;push_cast;refine Q6 ?_;push_cast;refine Qm ?_;push_cast[hb];refine Qd (cs:=[.v (.int .i64 0),.v (.int .i64 0),.v (.int .i64 0),.v (.int .i64 0),.v (.int .i64 0),.v (.int .i64 0),.v (.int .i64 0),.v (.int .i64 0),.v (.int .i64 0),.v (.int .i64 0),.v (.int .i64 0),.v (.int .i64 0),.v (.bool false),.v (.bool false),.v (.int .i64 0),.v (.int .i64 0),.v (.int .i64 0),.v (.int .i64 0),.v (.int .i64 0)]) (Q16 _) (X50 _) (Qe _ _) ke ?_;rw[hs,Qu];push_cast[Qe];exact ⟨_,rfl⟩
theorem frame_Iter_a (σ:Kx.St) (f:Fm) (own:Int):FnG Tryz.prog 255 [.agg (aFm f),.v (.int .i64 own)] σ fun a σ'=>a=.agg (aFm ⟨2,f.fn,0,f.regs,own,false,false,f.started,0,0,0,0⟩)∧σ'=σ:=by
 refine FnG.drop0 (fun a h=>by subst h;rfl) ?_;refine Q3 Z37.2 mixed rfl ?_;simp only[Z37,qH];have hb:fillA [.v (.int .i64 0),.v (.int .i64 0),.v (.int .i64 0),.v (.int .i64 0),.v (.int .i64 0),.v (.int .i64 0),.v (.int .i64 0),.v (.int .i64 0),.v (.int .i64 0),.v (.int .i64 0),.v (.int .i64 0),.v (.int .i64 0),.v (.bool false),.v (.bool false),.v (.int .i64 0),.v (.int .i64 0),.v (.int .i64 0),.v (.int .i64 0),.v (.int .i64 0)] [(0,1),(1,1),(3,8),(11,1),(14,1)] [.v (.int .i64 2),.v (.int .i64 f.fn),.agg (aRg f.regs),.v (.int .i64 own),.v (.int .i64 f.started)]=some (aFm ⟨2,f.fn,0,f.regs,own,false,false,f.started,0,0,0,0⟩):=by simp[fillA,AV.cells,Value.cells,setAtA,aFm,aRg,z8,aR1]
 have hs:∀f,setAtA [.v (.int .i64 0),.v (.int .i64 0),.v (.int .i64 0),.v (.int .i64 0),.v (.int .i64 0),.v (.int .i64 0),.v (.int .i64 0),.v (.int .i64 0),.v (.int .i64 0),.v (.int .i64 0),.v (.int .i64 0),.v (.int .i64 0),.v (.bool false),.v (.bool false),.v (.int .i64 0),.v (.int .i64 0),.v (.int .i64 0),.v (.int .i64 0),.v (.int .i64 0)] 0 (aFm f)=aFm f:=fun f=>Q30 rfl;push_cast;refine Q6 ?_;push_cast;refine Qm ?_;push_cast[hb];refine Qd (cs:=[.v (.int .i64 0),.v (.int .i64 0),.v (.int .i64 0),.v (.int .i64 0),.v (.int .i64 0),.v (.int .i64 0),.v (.int .i64 0),.v (.int .i64 0),.v (.int .i64 0),.v (.int .i64 0),.v (.int .i64 0),.v (.int .i64 0),.v (.bool false),.v (.bool false),.v (.int .i64 0),.v (.int .i64 0),.v (.int .i64 0),.v (.int .i64 0),.v (.int .i64 0)]) (Q16 _) (X50 _) (Qe _ _) ke ?_;rw[hs,Qu];push_cast[Qe];exact ⟨_,rfl⟩
theorem frame_Root_a (σ:Kx.St):FnG Tryz.prog 88 [] σ fun a σ'=>a=.agg (aFm { fm0 with kind:=1 })∧σ'=σ:=by
 refine FnG.drop0 (fun a h=>by subst h;rfl) ?_;refine Q3 X91.2 mixed rfl ?_;simp only[X91,qH];have hb:fillA [.v (.int .i64 0),.v (.int .i64 0),.v (.int .i64 0),.v (.int .i64 0),.v (.int .i64 0),.v (.int .i64 0),.v (.int .i64 0),.v (.int .i64 0),.v (.int .i64 0),.v (.int .i64 0),.v (.int .i64 0),.v (.int .i64 0),.v (.bool false),.v (.bool false),.v (.int .i64 0),.v (.int .i64 0),.v (.int .i64 0),.v (.int .i64 0),.v (.int .i64 0)] [(0,1)] [.v (.int .i64 1)]=some (aFm { fm0 with kind:=1 }):=by simp[fillA,AV.cells,Value.cells,setAtA,aFm,aRg,z8,aR1,fm0]
 have hs:∀f,setAtA [.v (.int .i64 0),.v (.int .i64 0),.v (.int .i64 0),.v (.int .i64 0),.v (.int .i64 0),.v (.int .i64 0),.v (.int .i64 0),.v (.int .i64 0),.v (.int .i64 0),.v (.int .i64 0),.v (.int .i64 0),.v (.int .i64 0),.v (.bool false),.v (.bool false),.v (.int .i64 0),.v (.int .i64 0),.v (.int .i64 0),.v (.int .i64 0),.v (.int .i64 0)] 0 (aFm f)=aFm f:=fun f=>Q30 rfl;push_cast;refine Qm ?_;push_cast[hb];refine Qd (cs:=[.v (.int .i64 0),.v (.int .i64 0),.v (.int .i64 0),.v (.int .i64 0),.v (.int .i64 0),.v (.int .i64 0),.v (.int .i64 0),.v (.int .i64 0),.v (.int .i64 0),.v (.int .i64 0),.v (.int .i64 0),.v (.int .i64 0),.v (.bool false),.v (.bool false),.v (.int .i64 0),.v (.int .i64 0),.v (.int .i64 0),.v (.int .i64 0),.v (.int .i64 0)]) (Q16 _) (X50 _) (Qe _ _) ke ?_;rw[hs,Qu];push_cast[Qe];exact ⟨_,rfl⟩
inductive Ro where
 | c|sw|w|sd|d|t|fl|ar|hl|bk|so|ot|lo|lt|wk (i:Nat)|dq (i:Nat)|rt (i:Nat)|pk (i:Nat)|wa (i:Nat)|np (i:Nat)
 deriving DecidableEq
def Ro.fix:Ro→Bool
 | .bk|.ot|.lt|.dq _|.rt _|.pk _|.wa _|.np _=>false
 | _=>true
structure Pl where
 p:Ro→Nat
 bg:Option (Nat×List AV)
 ov:Option Nat
 lv:Option Nat
 ft:Tok
def Pl.put (pl:Pl) (r:Ro) (n:Nat):Pl:={ pl with p:=fun x=>if x=r then n else pl.p x }
theorem Qo (pl:Pl) (r:Ro) (n:Nat):(pl.put r n).p r=n:=if_pos rfl
theorem Q14 {pl:Pl} {r x:Ro} {n:Nat} (h:x≠r):(pl.put r n).p x=pl.p x:=if_neg h
def aVt (e:Vt):List AV:=[.v (.int .i64 e.kind),.v (.int .i64 e.loop),.v (.int .i64 e.iter),.v (.int .i64 e.stage)]
theorem YX (e:Vt):(aVt e).length=4:=rfl
def tokT (o:Option Nat) (i sz:Nat):Tok:=match o with|none=>.nil|some v=>.id i v sz
def aCore (q:Pm) (pl:Pl) (s:Cs):List AV:=
 [.sl q.fs.length (q.fs.map aIxs) pl.ft,.v (.int .i64 q.W),.v (.int .i64 q.T),.v (.int .i64 q.F),.v (.int .i64 q.D),.v (.int .i64 q.O),.v (.bool q.fold),.v (.bool q.lazy),
  .ref (pl.p .sw) 0 0,.ref (pl.p .sd) 0 0,.ref (pl.p .t) 0 0,.ref (pl.p .so) 0 0,.ref (pl.p .lo) 0 0,
  .v (.int .i64 s.steps),.v (.int .i64 s.probes),.v (.int .i64 s.steals),.v (.int .i64 s.parks),.v (.int .i64 s.naps),.v (.int .i64 s.folds),.v (.int .i64 0),.v (.int .i64 s.serial),.v (.int .i64 s.status),.v (.int .i64 s.why)]
def aTb (q:Pm) (pl:Pl) (s:Cs):List AV:=[.v (.int .i64 q.W),.v (.int .i64 q.F),.v (.int .i64 q.T),.v (.int .i64 q.D),.ref (pl.p .sw) 0 0,.ref (pl.p .ar) 0 0,.ms (pl.p .fl) 0 0 s.fr.length 19]
def aPtr {α:Type} (o:Option α) (j:Nat):AV:=match o with|none=>.v (.pointer none)|some _=>.ref j 0 0
def aTh (jw:Nat):Th→AV
 | .none=>.v .nilFunc
 | .looksOn=>.fn (.func 167) 1 [.ref jw 0 0]
 | .decide=>.fn (.func 169) 1 [.ref jw 0 0]
 | .stop=>.fn (.func 172) 1 [.ref jw 0 0]
 | .runs id=>.fn (.func 163) 0 [.ep [.ref jw 0 0],.ep [.v (.int .i64 id)]]
 | .takes id=>.fn (.func 290) 0 [.ep [.ref jw 0 0],.ep [.v (.int .i64 id)]]
theorem aTh_one (j:Nat) (t:Th):(aTh j t).cells=[aTh j t]∧(aTh j t).one=true:=by cases t<;>exact ⟨rfl,rfl⟩
def aWk (pl:Pl) (k:Nat) (w:Wk):List AV:=
 [.v (.int .i64 w.own),.v (.int .i64 w.state),.v (.int .i64 w.holds),.v (.int .i64 w.tail),.v (.int .i64 w.probed),aPtr w.dq (pl.p (.dq k)),aTh (pl.p (.wk k)) w.th,.v (.int .i64 w.other),
  .v (.int .i64 w.gStage),.v (.bool w.gWaits),.v (.bool w.gLooked),.v (.int .i64 w.gWhy),.v (.bool w.eHeld),.v (.bool w.eBreaks),.v (.int .i64 w.eRight),.v (.bool w.eWoken),
  aPtr w.right (pl.p (.rt k)),aPtr w.park (pl.p (.pk k)),aPtr w.wake (pl.p (.wa k)),aPtr w.nap (pl.p (.np k))]
def bgOf (pl:Pl):Bg:=pl.bg.map fun x=>(pl.p .bk,x.1,x.2)
def img (q:Pm) (pl:Pl) (L:List Wk) (s:Cs):Ro→Option Res
 | .c=>some (.obj 0 (aCore q pl s))
 | .sw=>some (.obj 0 [.ms (pl.p .w) 0 0 s.ws.length 1,.v .nilFunc])
 | .w=>some (.obj 0 (s.ws.map aInt))
 | .sd=>some (.obj 0 [.ms (pl.p .d) 0 0 s.data.length 1,.v .nilFunc])
 | .d=>some (.obj 0 (s.data.map aInt))
 | .t=>some (.obj 0 (aTb q pl s))
 | .fl=>some (.obj 0 (s.fr.flatMap aFm))
 | .ar=>some (.obj 0 (aAr (pl.p .hl) s.held (aBk (bgOf pl) s.back) s.fresh s.peak))
 | .hl=>some (.obj 0 (s.held.map aBool))
 | .bk=>pl.bg.map fun x=>.obj x.1 x.2
 | .so=>some (.obj 0 [.sl s.out.length (s.out.map aInt) (tokT pl.ov (pl.p .ot) 1),.v (.int .i64 q.O)])
 | .ot=>pl.ov.map .tail
 | .lo=>some (.obj 0 [.sl s.log.length (s.log.flatMap aVt) (tokT pl.lv (pl.p .lt) 4)])
 | .lt=>pl.lv.map .tail
 | .wk k=>L[k]?.map fun w=>.obj 0 (aWk pl k w)
 | .dq k=>L[k]?.bind fun w=>w.dq.map fun d=>.obj 0 (aDq q (pl.p (.dq k)) d)
 | .rt k=>L[k]?.bind fun w=>w.right.map fun d=>.obj 0 (aRt q d)
 | .pk k=>L[k]?.bind fun w=>w.park.map fun d=>.obj 0 (aPk q d)
 | .wa k=>L[k]?.bind fun w=>w.wake.map fun d=>.obj 0 (aTw q d [.v (.bool d.looks)])
 | .np k=>L[k]?.bind fun w=>w.nap.map fun d=>.obj 0 (aTw q d [])
structure Sd (q:Pm) (pl:Pl) (L:List Wk) (s:Cs):Prop where
 ok:q.Ok
 ws:(s.ws.length:Int)=q.size
 fr:(s.fr.length:Int)=q.F+1
 hl:s.held.length=s.fr.length
 rg:∀f∈s.fr,f.regs.length=8
 bk:match pl.bg with|none=>s.back=[]|some (_,cs)=>s.back.length≤cs.length∧cs.take s.back.length=s.back.map aInt
 ib:∀x∈s.back,0≤x∧x < s.held.length
 f0:0≤s.fresh∧s.fresh≤1000000
 o0:pl.ov=none↔s.out=[]
 l0:pl.lv=none↔s.log=[]
 ol:s.out.length≤1000
 dt:s.data.length≤1000
 dq:∀(k:Nat) (w:Wk) (d:Dq),L[k]?=some w→w.dq=some d→DqOk q d
 fs:q.fs.length≤1000∧∀l∈q.fs,l.length≤1000
structure MM (q:Pm) (pl:Pl) (σ:Kx.St) (L:List Wk) (s:Cs):Prop where
 at_:∀ro r,img q pl L s ro=some r→σ[pl.p ro]?=some r
 inj:∀a b,(img q pl L s a).isSome=true→(img q pl L s b).isSome=true→pl.p a=pl.p b→a=b
 sd:Sd q pl L s
 lt:∀ro,pl.p ro < σ.length
structure Ext (pl pl':Pl) (σ σ':Kx.St):Prop where
 len:σ.length≤σ'.length
 keep:∀j,j < σ.length→(∀ro,pl.p ro≠j)→σ'[j]?=σ[j]?
 new:∀ro,pl'.p ro=pl.p ro∨σ.length≤pl'.p ro
 fix:∀ro,ro.fix=true→pl'.p ro=pl.p ro
theorem Ext.refl (pl:Pl) (σ:Kx.St):Ext pl pl σ σ:=⟨Nat.le_refl _,fun _ _ _=>rfl,fun _=>.inl rfl,fun _ _=>rfl⟩
theorem Ext.trans {pl pl' pl'':Pl} {σ σ' σ'':Kx.St} (h:Ext pl pl' σ σ') (k:Ext pl' pl'' σ' σ''):Ext pl pl'' σ σ'':=by
 have h0:=h.len;have k0:=k.len;refine ⟨by omega,fun j hj hp=>?_,fun ro=>?_,fun ro hr=>(k.fix ro hr).trans (h.fix ro hr)⟩
 ·rw[k.keep j ka fun ro=>?_,h.keep j hj hp];rcases h.new ro with e|e
  ·rw[e];exact hp ro
  ·omega
 ·rcases k.new ro with e|e
  ·rcases h.new ro with f|f
   ·exact .inl (e.trans f)
   ·exact .inr ka
  ·exact .inr ka
theorem Ext.app (pl:Pl) (σ τ:Kx.St):Ext pl pl σ (σ++τ):=⟨by simp,fun j hj _=>List.getElem?_append_left hj,fun _=>.inl rfl,fun _ _=>rfl⟩
theorem Ext.set (pl:Pl) (σ:Kx.St) (ro:Ro) (r:Res):Ext pl pl σ (σ.set (pl.p ro) r):=⟨by simp,fun j hj hp=>List.getElem?_set_ne (hp ro),fun _=>.inl rfl,fun _ _=>rfl⟩
def Out (q:Pm) (pl:Pl) (σ σ':Kx.St) (L:List Wk) (s:Cs):Prop:=∃pl',MM q pl' σ' L s∧Ext pl pl' σ σ'
section
variable {q:Pm} {pl:Pl} {σ:Kx.St} {L:List Wk} {s:Cs}
theorem Out.of (h:MM q pl σ L s):Out q pl σ σ L s:=⟨pl,h,.refl _ _⟩
theorem MM.app (h:MM q pl σ L s) (τ:Kx.St):MM q pl (σ++τ) L s:=⟨fun ro r e=>Qn (h.at_ ro r e),h.inj,h.sd,fun ro=>by have:=h.lt ro;rw[List.length_append];omega⟩
theorem MM.ne (h:MM q pl σ L s) {a b:Ro} (ha:(img q pl L s a).isSome=true) (hb:(img q pl L s b).isSome=true) (hab:a≠b):pl.p a≠pl.p b:=fun e=>hab (h.inj a b ha hb e)
theorem MM.c (h:MM q pl σ L s):σ[pl.p .c]?=some (.obj 0 (aCore q pl s)):=h.at_ .c _ rfl
theorem MM.tb (h:MM q pl σ L s):σ[pl.p .t]?=some (.obj 0 (aTb q pl s)):=h.at_ .t _ rfl
theorem MM.fl (h:MM q pl σ L s):σ[pl.p .fl]?=some (.obj 0 (s.fr.flatMap aFm)):=h.at_ .fl _ rfl
theorem MM.hl (h:MM q pl σ L s):σ[pl.p .hl]?=some (.obj 0 (s.held.map aBool)):=h.at_ .hl _ rfl
theorem MM.ar (h:MM q pl σ L s):σ[pl.p .ar]?=some (.obj 0 (aAr (pl.p .hl) s.held (aBk (bgOf pl) s.back) s.fresh s.peak)):=h.at_ .ar _ rfl
theorem MM.wk (h:MM q pl σ L s) {k:Nat} {w:Wk} (hk:L[k]?=some w):σ[pl.p (.wk k)]?=some (.obj 0 (aWk pl k w)):=h.at_ (.wk k) _ (by simp[img,hk])
theorem MM.words (h:MM q pl σ L s):Wd σ (pl.p .sw) (pl.p .w) s.ws:=⟨h.at_ .sw _ rfl,h.at_ .w _ rfl,h.ne rfl rfl ko⟩
theorem MM.datas (h:MM q pl σ L s):Wd σ (pl.p .sd) (pl.p .d) s.data:=⟨h.at_ .sd _ rfl,h.at_ .d _ rfl,h.ne rfl rfl ko⟩
theorem MM.arena (h:MM q pl σ L s):ArAt σ (pl.p .ar) (pl.p .hl) (bgOf pl) s.held s.back s.fresh s.peak:=by
 have hq:=h.sd.ok;obtain ⟨_,_,⟨f1,f2⟩,_⟩:=hq;have h1:=h.sd.fr;have h2:=h.sd.hl;refine ⟨h.ar,h.hl,?_,h.ne rfl rfl ko,by omega,h.sd.ib,h.sd.f0⟩;have hb:=h.sd.bk;unfold bgOf
 cases e:pl.bg with
 | none=>rw[e] at hb;exact hb
 | some x=>
  obtain ⟨v,cs⟩:=x;rw[e] at hb;have hs:(img q pl L s .bk).isSome=true:=by simp[img,e]
  exact ⟨h.at_ .bk _ (by simp[img,e]),hb.1,hb.2,h.ne hs rfl ko,h.ne hs rfl ko⟩
theorem MM.upd1 (h:MM q pl σ L s) {pl':Pl} {L':List Wk} {s':Cs} {ro0:Ro} {r0:Res} (hp:pl'.p=pl.p) (h0:(img q pl L s ro0).isSome=true) (h1:img q pl' L' s' ro0=some r0)
  (h2:∀ro,ro≠ro0→img q pl' L' s' ro=img q pl L s ro) (sd:Sd q pl' L' s'):MM q pl' (σ.set (pl.p ro0) r0) L' s':=by
 have hs:∀ro,(img q pl' L' s' ro).isSome=true→(img q pl L s ro).isSome=true:=fun ro e=>by
  by_cases hr:ro=ro0
  ·subst hr;exact h0
  ·rw[←h2 ro hr];exact e
 obtain ⟨x,hx⟩:=Option.isSome_iff_exists.1 h0;refine ⟨fun ro r e=>?_,fun a b ha hb e=>h.inj a b (hs a ha) (hs b hb) (by rw[←hp];exact e),sd,fun ro=>by rw[hp,List.length_set];exact h.lt ro⟩;rw[hp];by_cases hr:ro=ro0
 ·subst hr;rw[h1] at e;cases e;exact Qb (h.at_ _ _ hx)
 ·have e2:img q pl L s ro=some r:=by rw[←h2 ro hr];exact e
  rw[List.getElem?_set_ne fun e3=>hr (h.inj ro ro0 (by rw[e2];rfl) h0 e3.symm)];exact h.at_ _ _ e2
theorem MM.core (h:MM q pl σ L s) {s':Cs} (e:s'={ s with steps:=s'.steps,probes:=s'.probes,steals:=s'.steals,parks:=s'.parks,naps:=s'.naps,folds:=s'.folds,serial:=s'.serial,status:=s'.status,why:=s'.why }):
  MM q pl (σ.set (pl.p .c) (.obj 0 (aCore q pl s'))) L s':=by
 rw[e];refine h.upd1 rfl rfl rfl (fun ro hro=>?_) ⟨h.sd.ok,h.sd.ws,h.sd.fr,h.sd.hl,h.sd.rg,h.sd.bk,h.sd.ib,h.sd.f0,h.sd.o0,h.sd.l0,h.sd.ol,h.sd.dt,h.sd.dq,h.sd.fs⟩;cases ro<;>first|rfl|exact absurd rfl hro
theorem MM.setW (h:MM q pl σ L s) {ws:List Int} (hl:ws.length=s.ws.length):MM q pl (σ.set (pl.p .w) (.obj 0 (ws.map aInt))) L (s.setW ws):=by refine h.upd1 rfl rfl rfl (fun ro hro=>?_) ⟨h.sd.ok,by simp only[Cs.setW,hl];exact h.sd.ws,h.sd.fr,h.sd.hl,h.sd.rg,h.sd.bk,h.sd.ib,h.sd.f0,h.sd.o0,h.sd.l0,h.sd.ol,h.sd.dt,h.sd.dq,h.sd.fs⟩;cases ro<;>first|rfl|exact absurd rfl hro|(simp only[img,Cs.setW,hl])
theorem MM.setD (h:MM q pl σ L s) {d:List Int} (hl:d.length=s.data.length):MM q pl (σ.set (pl.p .d) (.obj 0 (d.map aInt))) L { s with data:=d }:=by refine h.upd1 rfl rfl rfl (fun ro hro=>?_) ⟨h.sd.ok,h.sd.ws,h.sd.fr,h.sd.hl,h.sd.rg,h.sd.bk,h.sd.ib,h.sd.f0,h.sd.o0,h.sd.l0,h.sd.ol,by simp only[hl];exact h.sd.dt,h.sd.dq,h.sd.fs⟩;cases ro<;>first|rfl|exact absurd rfl hro|(simp only[img,hl])
theorem MM.setWk (h:MM q pl σ L s) {k:Nat} {w w':Wk} (hk:L[k]?=some w) (e:w'.dq=w.dq∧w'.right=w.right∧w'.park=w.park∧w'.wake=w.wake∧w'.nap=w.nap):
  MM q pl (σ.set (pl.p (.wk k)) (.obj 0 (aWk pl k w'))) (L.set k w') s:=by
 obtain ⟨e1,e2,e3,e4,e5⟩:=e;have hkl:=Qh hk;have hself:(L.set k w')[k]?=some w':=List.getElem?_set_self hkl;refine h.upd1 rfl (by simp[img,hk]) eo (fun ro hro=>?_) ⟨h.sd.ok,h.sd.ws,h.sd.fr,h.sd.hl,h.sd.rg,h.sd.bk,h.sd.ib,h.sd.f0,h.sd.o0,h.sd.l0,h.sd.ol,h.sd.dt,fun j v d hv hd=>?_,h.sd.fs⟩
 ·cases ro with
  | wk j=>have hj:k≠j:=fun e=>hro (by rw[e]);simp only[img,List.getElem?_set_ne hj]
  | dq j|rt j|pk j|wa j|np j=>
   by_cases hj:k=j
   ·subst hj;simp only[img,hself,hk,Option.bind_some,e1,e2,e3,e4,e5]
   ·simp only[img,List.getElem?_set_ne hj]
  | _=>rfl
 ·by_cases hj:k=j
  ·subst hj;rw[hself] at hv;cases hv;exact h.sd.dq k w d hk (by rw[←e1];exact hd)
  ·rw[List.getElem?_set_ne hj] at hv;exact h.sd.dq j v d hv hd
end
end Go.Proofs.YtelibaobkcokdaaGreat.Mx
