/- The machine: a run that has not begun. -/
import Derived.Test.YtelibaobkcokdaaGreatQU2Mxc
namespace Go.Proofs.YtelibaobkcokdaaGreat.Mx
set_option linter.unusedVariables false
set_option linter.unusedSimpArgs false
open Go Go.Kx Go.Proofs Go.Proofs.YtelibaobkcokdaaGreat
set_option maxRecDepth 8000
theorem J15 (σ l:Kx.St) (i:Nat):(σ++l)[σ.length+i]?=l[i]?:=by rw[List.getElem?_append_right (by omega)];congr 1;omega
theorem app_at0 (σ l:Kx.St):(σ++l)[σ.length]?=l[0]?:=J15 σ l 0
theorem G9 (σ l:Kx.St) (i:Nat) (x:Res):(σ++l).set (σ.length+i) x=σ++l.set i x:=by rw[List.set_append_right _ _ (by omega)];congr 2;omega
def cN (q:Pm) (n:Nat) (fn:AV):List AV:=
 [fn,.v (.int .i64 q.W),.v (.int .i64 q.T),.v (.int .i64 q.F),.v (.int .i64 q.D),.v (.int .i64 q.O),.v (.bool q.fold),.v (.bool q.lazy),
  .ref (n+1) 0 0,.ref (n+3) 0 0,.v (.pointer none),.ref (n+4) 0 0,.ref (n+5) 0 0,
  .v (.int .i64 0),.v (.int .i64 0),.v (.int .i64 0),.v (.int .i64 0),.v (.int .i64 0),.v (.int .i64 0),.v (.int .i64 0),.v (.int .i64 0),.v (.int .i64 0),.v (.int .i64 0)]
def sN (q:Pm) (n:Nat) (M:Nat) (d:List Int) (fn:AV) (t:List Res):List Res:=
 .obj 0 ((List.replicate q.size.toNat (0:Int)).map aInt)::.obj 0 [.ms n 0 0 q.size.toNat 1,.v .nilFunc]::.obj 0 (d.map aInt)::.obj 0 [.ms (n+2) 0 0 M 1,.v .nilFunc] ::
  .obj 0 [.sl 0 [] .nil,.v (.int .i64 q.O)]::.obj 0 [.sl 0 [] .nil]::.obj 0 (cN q n fn)::t
theorem sN_c {σ:Kx.St} {q:Pm} {n M:Nat} {d:List Int} {fn:AV} {t:List Res}:(σ++sN q n M d fn t)[σ.length+6]?=some (.obj 0 (cN q n fn)):=by rw[J15];rfl
theorem sN_sc {σ:Kx.St} {q:Pm} {n M:Nat} {d:List Int} {fn fn':AV} {t:List Res}:(σ++sN q n M d fn t).set (σ.length+6) (.obj 0 (cN q n fn'))=σ++sN q n M d fn' t:=by rw[G9];rfl
theorem sN_t {σ:Kx.St} {q:Pm} {n M:Nat} {d:List Int} {fn:AV} {w:Nat} {t:List Res}:(σ++sN q n M d fn (.tail w::t))[σ.length+7]?=some (.tail w):=by rw[J15];rfl
theorem sN_st {σ:Kx.St} {q:Pm} {n M:Nat} {d:List Int} {fn:AV} {w w':Nat} {t:List Res}:(σ++sN q n M d fn (.tail w::t)).set (σ.length+7) (.tail w')=σ++sN q n M d fn (.tail w'::t):=by rw[G9];rfl
theorem sN_d {σ:Kx.St} {q:Pm} {n M:Nat} {d:List Int} {fn:AV} {t:List Res}:(σ++sN q n M d fn t)[σ.length+2]?=some (.obj 0 (d.map aInt)):=by rw[J15];rfl
theorem sN_sd {σ:Kx.St} {q:Pm} {n M:Nat} {d:List Int} {fn:AV} {t:List Res}:(σ++sN q n M d fn t)[σ.length+3]?=some (.obj 0 [.ms (n+2) 0 0 M 1,.v .nilFunc]):=by rw[J15];rfl
theorem sN_ssd {σ:Kx.St} {q:Pm} {n M:Nat} {d d':List Int} {fn:AV} {t:List Res}:(σ++sN q n M d fn t).set (σ.length+2) (.obj 0 (d'.map aInt))=σ++sN q n M d' fn t:=by rw[G9];rfl
theorem size_le {q:Pm} (h:q.Ok):0≤q.size∧q.size≤1048576:=by
 obtain ⟨⟨a1,a2⟩,⟨b1,b2⟩,⟨c1,c2⟩,⟨d1,d2⟩,_⟩:=h
 unfold Pm.size Pm.wide Pm.room
 have h1:0≤q.W * (4+q.D):=Int.mul_nonneg (by omega) (by omega)
 have h2:q.W * (4+q.D)≤64 * 260:=Int.mul_le_mul a2 (by omega) (by omega) (by omega)
 have h3:0≤q.F * (2+4 * (q.T+1)):=Int.mul_nonneg (by omega) (by omega)
 have h4:q.F * (2+4 * (q.T+1))≤256 * 262:=Int.mul_le_mul c2 (by omega) (by omega) (by omega)
 omega
theorem rep_fm (n:Nat):repA (aFm fm0) n=(List.replicate n fm0).flatMap aFm:=by
 unfold repA
 induction n with
 | zero=>rfl
 | succ n ih=>rw[List.replicate_succ,List.replicate_succ,List.flatten_cons,List.flatMap_cons,ih]
def aT0 (q:Pm) (js ja jf:Nat):List AV:=[.v (.int .i64 q.W),.v (.int .i64 q.F),.v (.int .i64 q.T),.v (.int .i64 q.D),.ref js 0 0,.ref ja 0 0,.ms jf 0 0 (q.F+1).toNat 19]
def rHl (q:Pm):Res:=.obj 0 ((List.replicate (q.F+1).toNat false).map aBool)
def rAr (q:Pm) (jh:Nat):Res:=.obj 0 (aAr jh (List.replicate (q.F+1).toNat false) (aBk none []) 0 0)
def rFl (q:Pm):Res:=.obj 0 ((List.replicate (q.F+1).toNat fm0).flatMap aFm)
theorem frame_New_a {q:Pm} (hq:q.Ok) (js:Nat) (σ:Kx.St):FnG Tryz.prog 86 [.agg (aPl q),.ref js 0 0] σ fun a σ'=>a=.ref (σ.length+3) 0 0 ∧
  (σ'=σ++[rHl q,rAr q σ.length,rFl q,.obj 0 (aT0 q js (σ.length+1) (σ.length+2))]∨σ'=σ++[rFl q,rHl q,rAr q (σ.length+1),.obj 0 (aT0 q js (σ.length+2) σ.length)]):=by
 refine Q2 K_frame_New mixed rfl ?_
 simp only[JY]
 have hF:q.F=((q.F.toNat:Nat):Int):=by have:=hq.2.2.1;omega
 have hF2:q.F.toNat≤256:=by have:=hq.2.2.1;omega
 have e2:IntKind.i64.wrap (q.F+1)=(((q.F+1).toNat:Nat):Int):=by have:=hq.2.2.1;rw[w64_id (by omega) (by omega)];omega
 have ez:[AV.v (.int .i64 0),AV.v (.int .i64 0),AV.v (.int .i64 0),AV.v (.int .i64 0),AV.v (.int .i64 0),AV.v (.int .i64 0),AV.v (.int .i64 0),AV.v (.int .i64 0),AV.v (.int .i64 0),AV.v (.int .i64 0),AV.v (.int .i64 0),AV.v (.int .i64 0),AV.v (.bool false),AV.v (.bool false),AV.v (.int .i64 0),AV.v (.int .i64 0),AV.v (.int .i64 0),AV.v (.int .i64 0),AV.v (.int .i64 0)]=aFm fm0:=rfl
 push_cast (maxSteps:=999999) -implicitDefEqProofs (disch:=omega)
 refine Q3 ?_
 push_cast (maxSteps:=999999) -implicitDefEqProofs (disch:=omega)[Qf,cells4,pl1]
 refine Q1 (X74 hq) ?_
 rintro a rfl
 push_cast (maxSteps:=999999) -implicitDefEqProofs (disch:=omega)[aInt,Qf,cells4,pl1]
 obtain ⟨K,hK⟩:∃K:Nat,K=(q.F+1).toNat:=⟨_,rfl⟩
 have e3:q.F+1=(K:Int):=by omega
 have hF1:q.F.toNat+1=K:=by omega
 have hF3:K≤257:=by omega
 have hbl:∀j0 j1 j2:Nat,fillA [AV.v (.int .i64 0),AV.v (.int .i64 0),AV.v (.int .i64 0),AV.v (.int .i64 0),AV.v (.pointer none),AV.v (.pointer none),.sl 0 [] .nil] [(0,4),(4,1),(5,1),(6,1)] [.agg (aPl q),.ref j0 0 0,.ref j1 0 0,.ms j2 0 0 K 19]=some (aT0 q j0 j1 j2):=fun j0 j1 j2=>by simp[fillA,AV.cells,setAtA,aPl,aT0,hK]
 have hrep:repA ([Value.int .i64 0,Value.int .i64 0,Value.int .i64 0,Value.int .i64 0,Value.int .i64 0,Value.int .i64 0,Value.int .i64 0,Value.int .i64 0,Value.int .i64 0,Value.int .i64 0,Value.int .i64 0,Value.int .i64 0,Value.bool false,Value.bool false,Value.int .i64 0,Value.int .i64 0,Value.int .i64 0,Value.int .i64 0,Value.int .i64 0].map abs1) K=(List.replicate K fm0).flatMap aFm:=rep_fm _
 have r1:rHl q=.obj 0 ((List.replicate K false).map aBool):=by rw[hK];rfl
 have r2:∀j,rAr q j=.obj 0 (aAr j (List.replicate K false) (aBk none []) 0 0):=fun j=>by rw[hK];rfl
 have r3:rFl q=.obj 0 ((List.replicate K fm0).flatMap aFm):=by rw[hK];rfl
 rw[r1,r2,r3,r2]
 clear r1 r2 r3 hK e2
 rw[e3]
 rw[hF]
 refine both2 ?_ ?_
 ·refine Q0 (J14 (n:=q.F.toNat) (by omega) σ) ?_
  rintro a σ1 ⟨rfl,rfl⟩
  rw[hF1]
  push_cast (maxSteps:=999999) -implicitDefEqProofs (disch:=omega)[Qf,cells4]
  refine J78 (n:=K) rfl (by omega) (by omega) ?_
  rw[hrep]
  push_cast (maxSteps:=999999) -implicitDefEqProofs (disch:=omega)[List.length_append,hbl,cells4]
  refine Qn ?_
  push_cast (maxSteps:=999999) -implicitDefEqProofs (disch:=omega)[List.length_append]
  exact .inl (by simp)
 ·refine J78 (n:=K) rfl (by omega) (by omega) ?_
  rw[hrep]
  push_cast (maxSteps:=999999) -implicitDefEqProofs (disch:=omega)[Qf,cells4]
  refine Q0 (J14 (n:=q.F.toNat) (by omega) _) ?_
  rintro a σ1 ⟨rfl,rfl⟩
  rw[hF1]
  push_cast (maxSteps:=999999) -implicitDefEqProofs (disch:=omega)[List.length_append,hbl,cells4]
  refine Qn ?_
  push_cast (maxSteps:=999999) -implicitDefEqProofs (disch:=omega)[List.length_append]
  exact .inr (by simp)
def dN (M:Nat) (inp:List Int) (k:Nat):List Int:=inp.take k++List.replicate (M - k) 0
def plN (n jh ja jf:Nat) (t:Tok):Pl:=⟨fun r=>match r with|.c=>n+6|.sw=>n+1|.w=>n|.sd=>n+3|.d=>n+2|.so=>n+4|.lo=>n+5|.hl=>jh|.ar=>ja|.fl=>jf|.t=>n+11|_=>n+7,none,none,none,t⟩
theorem dN_all {M:Nat} {inp:List Int} {q:Pm}:dN M inp inp.length=(cs0 q M inp).data:=by simp[dN,cs0]
def lA (q:Pm) (n:Nat):List Res:=[rHl q,rAr q (n+8),rFl q,.obj 0 (aT0 q (n+1) (n+9) (n+10))]
def lB (q:Pm) (n:Nat):List Res:=[rFl q,rHl q,rAr q (n+9),.obj 0 (aT0 q (n+1) (n+10) (n+8))]
theorem cs0_sd {q:Pm} {M:Nat} {inp:List Int} {n jh ja jf:Nat} {t:Tok} (hok:q.Ok) (hf:okF q.fs) (hM:M≤256) (hi:inp.length≤M):Sd q (plN n jh ja jf t) [] (cs0 q M inp):=by
 obtain ⟨s1,s2⟩:=size_le hok
 have hF:=hok.2.2.1
 refine ⟨hok,by simp[cs0];omega,by simp[cs0];omega,by simp[cs0],?_,rfl,by simp[cs0],by simp[cs0],⟨fun _=>rfl,fun _=>rfl⟩,⟨fun _=>rfl,fun _=>rfl⟩,by simp[cs0],by simp[cs0];omega,by simp,⟨by have:=hf.1;omega,fun l hl=>by have:=hf.2 l hl;omega⟩⟩
 intro f hfm
 rw[List.eq_of_mem_replicate hfm]
 rfl
theorem mm0 {σ:Kx.St} {q:Pm} {M:Nat} {inp:List Int} {t:Tok} {w:Nat} (hok:q.Ok) (hf:okF q.fs) (hM:M≤256) (hi:inp.length≤M) {l:List Res} {jh ja jf:Nat}
  (h:(l=lA q σ.length∧jh=σ.length+8∧ja=σ.length+9∧jf=σ.length+10)∨(l=lB q σ.length∧jh=σ.length+9∧ja=σ.length+10∧jf=σ.length+8)):
  MM q (plN σ.length jh ja jf t) ((σ++sN q σ.length M (dN M inp inp.length) (.sl q.fs.length (q.fs.map aIxs) t) (.tail w::l)).set (σ.length+6) (.obj 0 ((cN q σ.length (.sl q.fs.length (q.fs.map aIxs) t)).set 10 (.ref (σ.length+11) 0 0)))) [] (cs0 q M inp):=by
 have hdl:(cs0 q M inp).data.length=M:=by simp[cs0];omega
 have hwl:(cs0 q M inp).ws.length=q.size.toNat:=by simp[cs0]
 have hfl:(cs0 q M inp).fr.length=(q.F+1).toNat:=by simp[cs0]
 rw[dN_all (q:=q),G9]
 refine ⟨?_,?_,cs0_sd hok hf hM hi,?_⟩
 ·rcases h with ⟨rfl,rfl,rfl,rfl⟩|⟨rfl,rfl,rfl,rfl⟩
  all_goals
   intro ro r hr
   cases ro
   all_goals first
    | (cases hr;done)
    | (simp[img] at hr;done)
    | (simp only[img,aTb,hdl,hwl,hfl,Option.some.injEq] at hr;subst hr;simp only[plN];first|(rw[J15];rfl)|(rw[app_at0];rfl))
 ·rcases h with ⟨rfl,rfl,rfl,rfl⟩|⟨rfl,rfl,rfl,rfl⟩
  all_goals
   intro a b ha hb e
   cases a
   all_goals first
    | (simp[img,plN] at ha;done)
    | (cases b<;>first|rfl|(simp[img,plN] at hb;done)|(simp only[plN] at e;omega))
 ·have hlen:(σ++(sN q σ.length M (cs0 q M inp).data (.sl q.fs.length (q.fs.map aIxs) t) (.tail w::l)).set 6 (.obj 0 ((cN q σ.length (.sl q.fs.length (q.fs.map aIxs) t)).set 10 (.ref (σ.length+11) 0 0)))).length=σ.length+12:=by
   rcases h with ⟨rfl,_⟩|⟨rfl,_⟩<;>simp[sN,lA,lB]
  rw[hlen]
  rcases h with ⟨rfl,rfl,rfl,rfl⟩|⟨rfl,rfl,rfl,rfl⟩
  all_goals
   intro ro
   cases ro<;>simp only[plN]<;>omega
def mk0 (q:Pm) (M:Nat) (inp:List Int):Cs:=match (cs0 q M inp).make q { fm0 with kind:=1 } with|some (_,s)=>s|none=>cs0 q M inp
set_option maxHeartbeats 4000000 in
theorem core_New_n (M:Nat) (q:Pm) (hf:okF q.fs) (inp:List Int) (he:coreE M q.fs inp q=0) (σ:Kx.St):FnG Tryz.prog 44 [.agg (Go.Proofs.YtelibaobkcokdaaGreat.aPr M q.fs),aInts inp,.agg (aPr q)] σ fun a σ'=>∃pl,a=.tup [.ref (pl.p .c) 0 0,aInt 0]∧MM q pl σ' [] (mk0 q M inp)∧(∀j,j < σ.length→σ'[j]?=σ[j]?)∧∀ro,σ.length≤pl.p ro:=by
 refine Q2 J58 mixed rfl ?_
 simp only[Y32]
 have hac:(AV.agg (Go.Proofs.YtelibaobkcokdaaGreat.aPr M q.fs)).cells=Go.Proofs.YtelibaobkcokdaaGreat.aPr M q.fs:=rfl
 have c2:cellsA (some 2) (Go.Proofs.YtelibaobkcokdaaGreat.aPr M q.fs)=some (.agg (Go.Proofs.YtelibaobkcokdaaGreat.aPr M q.fs)):=rfl
 have p0:(Go.Proofs.YtelibaobkcokdaaGreat.aPr M q.fs)[0]?=some (.v (.int .i64 M)):=rfl
 have p1:(Go.Proofs.YtelibaobkcokdaaGreat.aPr M q.fs)[1]?=some (.sl q.fs.length (q.fs.map aIxs) .none):=rfl
 have hI:aInts inp=.sl inp.length (inp.map aInt) .none:=rfl
 have hE:prgE M q.fs=0∧planB q=true∧(0≤q.O∧q.O≤1000)∧inp.length≤M:=by
  unfold coreE at he
  split at he
  ·rename_i h;exact absurd he h
  ·rename_i h
   split at he
   ·cases he
   ·rename_i h2
    split at he
    ·cases he
    ·rename_i h3
     refine ⟨by omega,?_,by omega,by omega⟩
     cases hp:planB q with
     | true=>rfl
     | false=>exact absurd (.inl hp) h2
 obtain ⟨hE1,hE2,hE3,hE4⟩:=hE
 have hok:=plan_ok hE2 hE3
 obtain ⟨hm,hmany,hfo⟩:=prg_ok hE1
 obtain ⟨s1,s2⟩:=size_le hok
 have hf1:=hf.1
 have hsz:q.size=(q.size.toNat:Int):=by omega
 refine Q9 (fun ε σ1=>(ε 1=aInts inp∧ε 3=.ep (Go.Proofs.YtelibaobkcokdaaGreat.aPr M q.fs)∧ε 5=.ep (aPr q))∧σ1=σ) ?_ ?_
 ·intro N X R hN
  push_cast (maxSteps:=999999) -implicitDefEqProofs (disch:=omega)
  refine Q3 ?_
  push_cast (maxSteps:=999999) -implicitDefEqProofs (disch:=omega)
  refine Q3 ?_
  push_cast (maxSteps:=999999) -implicitDefEqProofs (disch:=omega)[hac,Q31]
  exact hN _ _ ⟨by push_cast (maxSteps:=999999) -implicitDefEqProofs (disch:=omega),rfl⟩
 rintro ε σ1 ⟨hρ,e1⟩
 rw[e1];clear e1 σ1
 refine Q9 (fun ε σ1=>(ε 1=aInts inp∧ε 3=.ep (Go.Proofs.YtelibaobkcokdaaGreat.aPr M q.fs)∧ε 5=.ep (aPr q))∧σ1=σ) ?_ ?_
 ·intro N X R hN
  push_cast (maxSteps:=999999) -implicitDefEqProofs (disch:=omega)[hρ,c2,prc7]
  refine Q1 (Y76 M q.fs hf inp q) ?_
  rintro a rfl
  rw[he]
  push_cast (maxSteps:=999999) -implicitDefEqProofs (disch:=omega)[aInt]
  exact hN _ _ ⟨by push_cast (maxSteps:=999999) -implicitDefEqProofs (disch:=omega)[hρ],rfl⟩
 clear hρ ε
 rintro ε σ1 ⟨hρ,e1⟩
 rw[e1];clear e1 σ1
 refine Q9 (fun ε σ1=>(ε 1=aInts inp∧ε 3=.ep (Go.Proofs.YtelibaobkcokdaaGreat.aPr M q.fs)∧ε 5=.ep (aPr q)∧ε 9=.ref (σ.length+6) 0 0)∧σ1=σ++sN q σ.length M (List.replicate M 0) (.sl 0 [] .nil) []) ?_ ?_
 ·intro N X R hN
  push_cast (maxSteps:=999999) -implicitDefEqProofs (disch:=omega)[hρ,c2,prc7,p0,pr4]
  refine Q1 (Z97 q) ?_
  rintro a rfl
  push_cast (maxSteps:=999999) -implicitDefEqProofs (disch:=omega)[hρ,c2,prc7,p0,pr4]
  refine Q1 (J88 hok) ?_
  rintro a rfl
  push_cast (maxSteps:=999999) -implicitDefEqProofs (disch:=omega)[hρ,c2,prc7,p0,pr4,aInt]
  rw[hsz]
  refine Q0 (J13 (n:=q.size.toNat) (by omega) σ) ?_
  rintro a σ1 ⟨rfl,rfl⟩
  push_cast (maxSteps:=999999) -implicitDefEqProofs (disch:=omega)[hρ,c2,prc7,p0,pr4,aInt]
  refine Q0 (J13 (n:=M) (by omega) _) ?_
  rintro a σ1 ⟨rfl,rfl⟩
  push_cast (maxSteps:=999999) -implicitDefEqProofs (disch:=omega)[hρ,c2,prc7,p0,pr4,aInt]
  refine Q0 (sink_New_a hE3.1 hE3.2 _) ?_
  rintro a σ1 ⟨rfl,rfl⟩
  push_cast (maxSteps:=999999) -implicitDefEqProofs (disch:=omega)[hρ,c2,prc7,p0,pr4,aInt]
  refine Q0 (log_New_a _) ?_
  rintro a σ1 ⟨rfl,rfl⟩
  push_cast (maxSteps:=999999) -implicitDefEqProofs (disch:=omega)[hρ,c2,prc7,p0,pr4,aInt,List.length_append]
  have hb:fillA [AV.sl 0 [] Tok.nil,AV.v (Value.int IntKind.i64 0),AV.v (Value.int IntKind.i64 0),
     AV.v (Value.int IntKind.i64 0),AV.v (Value.int IntKind.i64 0),AV.v (Value.int IntKind.i64 0),
     AV.v (Value.bool false),AV.v (Value.bool false),AV.v (Value.pointer none),AV.v (Value.pointer none),
     AV.v (Value.pointer none),AV.v (Value.pointer none),AV.v (Value.pointer none),
     AV.v (Value.int IntKind.i64 0),AV.v (Value.int IntKind.i64 0),AV.v (Value.int IntKind.i64 0),
     AV.v (Value.int IntKind.i64 0),AV.v (Value.int IntKind.i64 0),AV.v (Value.int IntKind.i64 0),
     AV.v (Value.int IntKind.i64 0),AV.v (Value.int IntKind.i64 0),AV.v (Value.int IntKind.i64 0),
     AV.v (Value.int IntKind.i64 0)]
    [(1,7),(8,1),(9,1),(11,1),(12,1)]
    [AV.agg (aPr q),AV.ref (List.length σ+1) 0 0,AV.ref (List.length σ+(1+1)+1) 0 0,
     AV.ref (List.length σ+(1+1)+(1+1)) 0 0,AV.ref (List.length σ+(1+1)+(1+1)+1) 0 0]=some (cN q σ.length (.sl 0 [] .nil)):=by simp[fillA,AV.cells,Value.cells,setAtA,cN,aPr]
  push_cast (maxSteps:=999999) -implicitDefEqProofs (disch:=omega)[hb]
  refine Qn ?_
  push_cast (maxSteps:=999999) -implicitDefEqProofs (disch:=omega)[List.length_append]
  exact hN _ _ ⟨by push_cast (maxSteps:=999999) -implicitDefEqProofs (disch:=omega)[hρ],by simp[sN]⟩
 clear hρ ε
 rintro ε σ1 ⟨hρ,e1⟩
 rw[e1];clear e1 σ1
 refine Q9 (fun ε σ1=>(ε 1=aInts inp∧ε 5=.ep (aPr q)∧ε 9=.ref (σ.length+6) 0 0)∧∃w,σ1=σ++sN q σ.length M (List.replicate M 0) (.sl q.fs.length (q.fs.map aIxs) (.id (σ.length+7) w 1)) [.tail w]) ?_ ?_
 ·intro N X R hN
  push_cast (maxSteps:=999999) -implicitDefEqProofs (disch:=omega)[hρ,p1]
  have hl7:(σ++sN q σ.length M (List.replicate M 0) (.sl 0 [] .nil) []).length=σ.length+7:=by simp[sN]
  refine J5 (GU.tokO (i:=σ.length+6) (j:=0) 1 sN_c rfl) (α:=Nat) (I:=fun k ε σ1=>(ε 1=aInts inp∧ε 5=.ep (aPr q)∧ε 9=.ref (σ.length+6) 0 0∧ε 36=.sl q.fs.length (q.fs.map aIxs) .none∧ε 37=.v (.int .i64 q.fs.length)∧ε 38=.v (.int .i64 k))∧k≤q.fs.length∧∃w,σ1=σ++sN q σ.length M (List.replicate M 0) (.sl k ((q.fs.take k).map aIxs) (.id (σ.length+7) w 1)) [.tail w])
   (μ:=fun k=>q.fs.length - k) (Q:=fun ε σ1=>(ε 1=aInts inp∧ε 5=.ep (aPr q)∧ε 9=.ref (σ.length+6) 0 0)∧∃w,σ1=σ++sN q σ.length M (List.replicate M 0) (.sl q.fs.length (q.fs.map aIxs) (.id (σ.length+7) w 1)) [.tail w]) (x:=0) ?_ ?_ hN
  ·refine ⟨by push_cast (maxSteps:=999999) -implicitDefEqProofs (disch:=omega)[hρ],by omega,0,?_⟩
   rw[hl7]
   have e0:(cN q σ.length (.sl 0 [] .nil)).set 0 (.sl 0 [] (.id (σ.length+7) 0 1))=cN q σ.length (.sl 0 [] (.id (σ.length+7) 0 1)):=rfl
   rw[e0,sN_sc,List.append_assoc]
   rfl
  ·clear hN N X R hρ ε
   rintro k ε σ1 N E X R ⟨hρ,hk,w,rfl⟩ hN hE
   simp only[YI]
   by_cases hlt:k < q.fs.length
   ·obtain ⟨l,hl⟩:=Q09 hlt
    have hll:=(hfo l (List.mem_of_getElem? hl)).le
    have hl0:0 < l.length:=(hfo l (List.mem_of_getElem? hl)).rt.pos
    have hex:(AV.sl k ((q.fs.take k).map aIxs) (.id (σ.length+7) w 1)).exact=true:=rfl
    have hlk:(q.fs.take k).length=k:=by rw[List.length_take];omega
    have c0:∀fn,(cN q σ.length fn)[0]?=some fn:=fun _=>rfl
    have hlm:(q.fs.map aIxs)[k]?=some (aIxs l):=by rw[List.getElem?_map,hl];rfl
    push_cast (maxSteps:=999999) -implicitDefEqProofs (disch:=omega)[hρ,hl,hlm,sN_c,c0,hex]
    refine Q1 (Clone_a l hl0 (by omega)) ?_
    rintro a rfl
    push_cast (maxSteps:=999999) -implicitDefEqProofs (disch:=omega)[hρ,sN_c,c0,hex]
    refine Qt (sz:=1) (by intro a ha;simp at ha;subst ha;rfl) (by simp) ?_
    push_cast (maxSteps:=999999) -implicitDefEqProofs (disch:=omega)[hρ,sN_c,c0,hex]
    refine Y07 (m:=1) rfl rfl rfl rfl (by simp;omega) (by omega) (by omega) sN_t ?_
    rw[sN_st]
    push_cast (maxSteps:=999999) -implicitDefEqProofs (disch:=omega)[hρ]
    refine Q6 rfl rfl sN_c (by simp[cN]) ?_
    have e0:∀fn fn',(cN q σ.length fn).set 0 fn'=cN q σ.length fn':=fun _ _=>rfl
    rw[Nat.add_zero,e0,sN_sc]
    push_cast (maxSteps:=999999) -implicitDefEqProofs (disch:=omega)[hρ]
    refine hN (k+1) _ _ ⟨by push_cast (maxSteps:=999999) -implicitDefEqProofs (disch:=omega)[hρ],by omega,w+1,?_⟩ (by omega)
    rw[Qs hl]
    simp[AV.cells,aIxs,aSlN]
   ·push_cast (maxSteps:=999999) -implicitDefEqProofs (disch:=omega)[hρ]
    obtain rfl:k=q.fs.length:=by omega
    rw[List.take_length]
    exact hE _ _ ⟨by push_cast (maxSteps:=999999) -implicitDefEqProofs (disch:=omega)[hρ],w,rfl⟩
 clear hρ ε
 rintro ε σ1 ⟨hρ,w,e1⟩
 rw[e1];clear e1 σ1
 obtain ⟨fn,efn⟩:∃fn,fn=AV.sl q.fs.length (q.fs.map aIxs) (.id (σ.length+7) w 1):=⟨_,rfl⟩
 rw[←efn]
 refine Q9 (fun ε σ1=>(ε 5=.ep (aPr q)∧ε 9=.ref (σ.length+6) 0 0)∧σ1=σ++sN q σ.length M (dN M inp inp.length) fn [.tail w]) ?_ ?_
 ·intro N X R hN
  push_cast (maxSteps:=999999) -implicitDefEqProofs (disch:=omega)[hρ,hI]
  refine Jq (α:=Nat) (I:=fun k ε σ1=>(ε 5=.ep (aPr q)∧ε 9=.ref (σ.length+6) 0 0∧ε 54=.sl inp.length (inp.map aInt) .none∧ε 55=.v (.int .i64 inp.length)∧ε 56=.v (.int .i64 k))∧k≤inp.length∧σ1=σ++sN q σ.length M (dN M inp k) fn [.tail w])
   (μ:=fun k=>inp.length - k) (Q:=fun ε σ1=>(ε 5=.ep (aPr q)∧ε 9=.ref (σ.length+6) 0 0)∧σ1=σ++sN q σ.length M (dN M inp inp.length) fn [.tail w]) (x:=0) ?_ ?_ hN
  ·exact ⟨by push_cast (maxSteps:=999999) -implicitDefEqProofs (disch:=omega)[hρ],by omega,by simp[dN]⟩
  ·clear hN N X R hρ ε
   rintro k ε σ1 N E X R ⟨hρ,hk,rfl⟩ hN hE
   simp only[YJ]
   by_cases hlt:k < inp.length
   ·obtain ⟨v,hv⟩:=Q09 hlt
    have hvm:(inp.map aInt)[k]?=some (aInt v):=by rw[List.getElem?_map,hv];rfl
    have c9:(cN q σ.length fn)[9]?=some (.ref (σ.length+3) 0 0):=rfl
    have hdl:(dN M inp k).length=M:=by simp[dN];omega
    have hsd:(σ++sN q σ.length M (dN M inp k) fn [.tail w])[σ.length+3]?=some (.obj 0 [.ms (σ.length+2) 0 0 (dN M inp k).length 1,.v .nilFunc]):=by rw[hdl];exact sN_sd
    push_cast (maxSteps:=999999) -implicitDefEqProofs (disch:=omega)[hρ,hvm,sN_c,c9,aInt]
    refine Q0 (Y31 hsd sN_d k v) ?_
    rintro a σ2 ⟨rfl,rfl⟩
    have hask:(askD (dN M inp k) ⟨2,k,v,0,0⟩).2.2=dN M inp (k+1):=by
     have h2:askD (dN M inp k) ⟨2,k,v,0,0⟩=(0,true,(dN M inp k).set ((k:Int)).toNat v):=by simp only[askD];rw[if_neg (by rw[hdl];omega)];simp
     rw[h2]
     simp only[dN,Int.toNat_natCast]
     rw[Qs hv]
     obtain ⟨r,hr⟩:∃r,M - k=r+1:=⟨M - k - 1,by omega⟩
     have hr2:M - (k+1)=r:=by omega
     have hlk:(inp.take k).length=k:=by rw[List.length_take];omega
     rw[hr,hr2,List.replicate_succ,List.set_append_right _ _ (by omega),hlk,Nat.sub_self,List.append_assoc]
     rfl
    rw[hask,sN_ssd]
    have hw1:IntKind.i64.wrap ((k:Int)+1)=((k+1:Nat):Int):=by rw[w64_id (by omega) (by omega)];omega
    push_cast (maxSteps:=999999) -implicitDefEqProofs (disch:=omega)[hρ,hw1]
    exact hN (k+1) _ _ ⟨by push_cast (maxSteps:=999999) -implicitDefEqProofs (disch:=omega)[hρ,hw1],by omega,rfl⟩ (by omega)
   ·push_cast (maxSteps:=999999) -implicitDefEqProofs (disch:=omega)[hρ]
    obtain rfl:k=inp.length:=by omega
    exact hE _ _ ⟨by push_cast (maxSteps:=999999) -implicitDefEqProofs (disch:=omega)[hρ],rfl⟩
 clear hρ ε
 rintro ε σ1 ⟨hρ,e1⟩
 rw[e1];clear e1 σ1
 have c8:(cN q σ.length fn)[8]?=some (.ref (σ.length+1) 0 0):=rfl
 push_cast (maxSteps:=999999) -implicitDefEqProofs (disch:=omega)[hρ,Q31,prc7,sN_c,c8]
 refine Q1 (Z97 q) ?_
 rintro a rfl
 push_cast (maxSteps:=999999) -implicitDefEqProofs (disch:=omega)[hρ,sN_c,c8]
 refine Q0 (frame_New_a hok (σ.length+1) _) ?_
 rintro a σ2 ⟨rfl,hs2⟩
 push_cast (maxSteps:=999999) -implicitDefEqProofs (disch:=omega)[hρ,List.length_append]
 have hl8:(σ++sN q σ.length M (dN M inp inp.length) fn [.tail w]).length=σ.length+8:=by simp[sN]
 rw[hl8] at hs2
 have ea:∀l,σ++sN q σ.length M (dN M inp inp.length) fn [.tail w]++l=σ++sN q σ.length M (dN M inp inp.length) fn (.tail w::l):=fun l=>by rw[List.append_assoc];rfl
 rw[ea,ea] at hs2
 have hl8':(sN q σ.length M (dN M inp inp.length) fn [.tail w]).length=8:=rfl
 have hex:∃l jh ja jf,σ2=σ++sN q σ.length M (dN M inp inp.length) fn (.tail w::l)∧((l=lA q σ.length∧jh=σ.length+8∧ja=σ.length+9∧jf=σ.length+10)∨(l=lB q σ.length∧jh=σ.length+9∧ja=σ.length+10∧jf=σ.length+8)):=by
  rcases hs2 with hs|hs
  ·exact ⟨_,_,_,_,hs,.inl ⟨rfl,rfl,rfl,rfl⟩⟩
  ·exact ⟨_,_,_,_,hs,.inr ⟨rfl,rfl,rfl,rfl⟩⟩
 clear hs2
 obtain ⟨l,jh,ja,jf,e2,hl⟩:=hex
 have h0:=mm0 (w:=w) (t:=.id (σ.length+7) w 1) hok hf (by omega) hE4 hl
 rw[←efn,←e2] at h0
 have hold:∀x j,j < σ.length→(σ2.set (σ.length+6) x)[j]?=σ[j]?:=fun x j hj=>by rw[List.getElem?_set_ne (by omega),e2,List.getElem?_append_left hj]
 have hold:=hold (.obj 0 ((cN q σ.length fn).set 10 (.ref (σ.length+11) 0 0)))
 have hge:∀ro,σ.length≤(plN σ.length jh ja jf (.id (σ.length+7) w 1)).p ro:=by
  intro ro
  rcases hl with ⟨_,rfl,rfl,rfl⟩|⟨_,rfl,rfl,rfl⟩<;>cases ro<;>simp only[plN]<;>omega
 have hc6:σ2[σ.length+6]?=some (.obj 0 (cN q σ.length fn)):=by rw[e2];exact sN_c
 rw[hl8']
 refine Q6 rfl rfl hc6 (by simp[cN]) ?_
 have e11:σ.length+8+3=σ.length+11:=rfl
 rw[e11]
 have hpc:σ.length+6=(plN σ.length jh ja jf (.id (σ.length+7) w 1)).p .c:=rfl
 generalize σ2.set (σ.length+6) (.obj 0 ((cN q σ.length fn).set 10 (.ref (σ.length+11) 0 0)))=σ3 at h0 hold
 rw[hpc] at hρ ⊢
 generalize plN σ.length jh ja jf (.id (σ.length+7) w 1)=pl at h0 hge hρ
 clear hpc hc6 e2 hl ea hl8 hl8' c8 efn e11
 have hc:=h0.c
 have g10:(aCore q pl (cs0 q M inp))[10]?=some (.ref (pl.p .t) 0 0):=rfl
 push_cast (maxSteps:=999999) -implicitDefEqProofs (disch:=omega)[hρ,hc,g10]
 refine Q0 (frame_Root_a σ3) ?_
 rintro a σ4 ⟨rfl,hs⟩
 rw[hs];clear hs
 push_cast (maxSteps:=999999) -implicitDefEqProofs (disch:=omega)[hρ,hc,g10]
 refine Q0 (Y74 h0 (by simp[cs0]) { fm0 with kind:=1 } rfl) ?_
 rintro a σ4 hmk
 cases em:(cs0 q M inp).make q { fm0 with kind:=1 } with
 | none=>
  rw[em] at hmk
  obtain ⟨rfl,hs⟩:=hmk
  rw[hs]
  have e0:mk0 q M inp=cs0 q M inp:=by unfold mk0;rw[em]
  push_cast (maxSteps:=999999) -implicitDefEqProofs (disch:=omega)[hρ]
  rw[e0]
  exact ⟨pl,rfl,h0,hold,hge⟩
 | some x=>
  obtain ⟨id,s'⟩:=x
  rw[em] at hmk
  obtain ⟨rfl,pl',h1,X1⟩:=hmk
  have e0:mk0 q M inp=s':=by unfold mk0;rw[em]
  have hcp:pl.p .c=pl'.p .c:=(X1.fix _ rfl).symm
  rw[hcp] at hρ
  push_cast (maxSteps:=999999) -implicitDefEqProofs (disch:=omega)[hρ]
  rw[e0]
  refine ⟨pl',rfl,h1,fun j hj=>?_,fun ro=>?_⟩
  ·have hj3:j < σ3.length:=by
    have:=hold j hj
    rw[List.getElem?_eq_getElem hj] at this
    exact Qe this
   rw[X1.keep j hj3 (fun ro=>by have:=hge ro;omega)]
   exact hold j hj
  ·rcases X1.new ro with e|e
   ·rw[e];exact hge ro
   ·have:pl.p .c < σ3.length:=h0.lt .c
    have:=hge .c
    omega
end Go.Proofs.YtelibaobkcokdaaGreat.Mx
