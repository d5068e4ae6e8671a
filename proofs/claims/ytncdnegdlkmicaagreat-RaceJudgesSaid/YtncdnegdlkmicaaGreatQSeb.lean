/- Serial: what an instruction does: the walks. -/
import Derived.Test.YtncdnegdlkmicaaGreatQSea
namespace Go.Proofs.YtncdnegdlkmicaaGreat
set_option linter.unusedVariables false
set_option linter.unusedSimpArgs false
open Go Go.Kx Go.Proofs
def aR1 (rs:List Int) (i:Nat):AV:=.v (.int .i64 (rs.getD i 0))
def aRg (rs:List Int):List AV:=[aR1 rs 0,aR1 rs 1,aR1 rs 2,aR1 rs 3,aR1 rs 4,aR1 rs 5,aR1 rs 6,aR1 rs 7]
theorem Q62 (rs:List Int):(aRg rs).length=8:=rfl
theorem Q84 (rs:List Int):AV.pureL (aRg rs)=true:=by simp[aRg,aR1,AV.pureL,AV.pure]
theorem aRg_res (σ:St) (rs:List Int):AV.resL σ (aRg rs)=aRg rs:=by simp[aRg,aR1,AV.resL,AV.res]
theorem k8 {k:Nat} (h:k < 8):k=0∨k=1∨k=2∨k=3∨k=4∨k=5∨k=6∨k=7:=by omega
theorem aRg_at (rs:List Int) {k:Nat} (h:k < 8):(aRg rs)[k]?=some (.v (.int .i64 (rs.getD k 0))):=by
 rcases k8 h with rfl|rfl|rfl|rfl|rfl|rfl|rfl|rfl<;>rfl
theorem aRg_set {rs:List Int} (hr:rs.length=8) {k:Nat} (h:k < 8) (v:Int):(aRg rs).set k (.v (.int .i64 v))=aRg (rs.set k v):=by
 match rs,hr with
 | [a0,a1,a2,a3,a4,a5,a6,a7],_=>rcases k8 h with rfl|rfl|rfl|rfl|rfl|rfl|rfl|rfl<;>rfl
theorem Z96 (n:Int):(heldN n).toNat < 8:=by unfold heldN;omega
theorem Z97 (n:Int):0≤heldN n∧heldN n < 8:=by unfold heldN;omega
theorem rg_at (rs:List Int) (n:Int):(aRg rs)[(heldN n).toNat]?=some (.v (.int .i64 (rg rs n))):=aRg_at rs (Z96 n)
theorem rg_set {rs:List Int} (hr:rs.length=8) (n v:Int):(aRg rs).set (heldN n).toNat (.v (.int .i64 v))=aRg (setR rs n v):=aRg_set hr (Z96 n) v
def aEf (e:Ef):List AV:=[.v (.int .i64 e.k),.v (.int .i64 e.at_),.v (.int .i64 e.v),.v (.int .i64 e.o),.v (.int .i64 e.r)]
theorem Z54 (e:Ef):AV.pureL (aEf e)=true:=by simp[aEf,AV.pureL,AV.pure]
theorem aEf_res (σ:St) (e:Ef):AV.resL σ (aEf e)=aEf e:=by simp[aEf,AV.resL,AV.res]
theorem cells8 (rs:List Int):cellsA (some 8) (aRg rs)=some (.agg (aRg rs)):=rfl
theorem cells5 (e:Ef):cellsA (some 5) (aEf e)=some (.agg (aEf e)):=rfl
theorem set8 (rs rs':List Int):setAtA (aRg rs) 0 (aRg rs')=aRg rs':=rfl
theorem Qw (n:Int):FnP Tryz.prog 84 [aInt n] fun a=>a=aInt (heldN n):=by
 refine Qh K_step_held mixed rfl (by simp[AV.pureL,Qr]) ?_
 simp only[X51,aInt]
 push_cast (disch:=omega)
 first|exact ⟨[],rfl,rfl⟩|exact ⟨[],rfl⟩
theorem Q92 (rs:List Int) (n:Int):FnP Tryz.prog 85 [.agg (aRg rs),aInt n] fun a=>a=aInt (rg rs n):=by
 refine Qh X74 mixed rfl (by simp[AV.pureL,AV.pure,Qr,Q84]) ?_
 simp only[Z80,aInt]
 have hac:(AV.agg (aRg rs)).cells=aRg rs:=rfl
 obtain ⟨h0,h1⟩:=Z97 n
 push_cast (disch:=omega)
 refine Qd ?_
 push_cast (disch:=omega)[hac]
 refine Q3 (Qw n) ?_
 rintro a rfl
 push_cast (disch:=omega)[aInt,rg_at]
 first|exact ⟨[],rfl,rfl⟩|exact ⟨[],rfl⟩
theorem Q93 (e:Ef):FnP Tryz.prog 62 [.agg (aEf e)] fun a=>a=aBool (decide (1≤e.k∧e.k≤4)):=by
 refine Qh K_step_Asks mixed rfl (by simp[AV.pureL,AV.pure,Z54]) ?_
 simp only[X48]
 have hac:(AV.agg (aEf e)).cells=aEf e:=rfl
 have g0:(aEf e)[0]?=some (.v (.int .i64 e.k)):=rfl
 have hd:decide (1≤e.k∧e.k≤4)=(decide (1≤e.k)&&decide (e.k≤4)):=by rw[Bool.eq_iff_iff];simp
 rw[hd]
 push_cast (disch:=omega)
 refine Qd ?_
 by_cases c:1≤e.k<;>(push_cast (disch:=omega)[hac,g0,c];first|exact ⟨[],rfl,rfl⟩|exact ⟨[],rfl,by simp[AV.res,aBool]⟩)
theorem step_Ends_a (e:Ef):FnP Tryz.prog 60 [.agg (aEf e)] fun a=>a=aBool (endsE e):=by
 refine Qh K_step_Ends mixed rfl (by simp[AV.pureL,AV.pure,Z54]) ?_
 simp only[X47]
 have hac:(AV.agg (aEf e)).cells=aEf e:=rfl
 have g0:(aEf e)[0]?=some (.v (.int .i64 e.k)):=rfl
 have hd:endsE e=(decide (7≤e.k)&&decide (e.k≤12)):=by unfold endsE;rw[Bool.eq_iff_iff];simp
 rw[hd]
 push_cast (disch:=omega)
 refine Qd ?_
 by_cases c:7≤e.k<;>(push_cast (disch:=omega)[hac,g0,c];first|exact ⟨[],rfl,rfl⟩|exact ⟨[],rfl,by simp[AV.res,aBool]⟩)
theorem Zr (op:Int):FnP Tryz.prog 86 [aInt op] fun a=>a=aBool (knownB op):=by
 refine Qh K_wrap_Known mixed rfl (by simp[AV.pureL,Qr]) ?_
 simp only[X10,aInt]
 have hd:knownB op=(decide (3≤op)&&decide (op≤12)):=by unfold knownB;rw[Bool.eq_iff_iff];simp
 rw[hd]
 by_cases c:3≤op<;>(push_cast (disch:=omega)[c];first|exact ⟨[],rfl,rfl⟩|exact ⟨[],rfl,by simp[AV.res,aBool]⟩)
theorem X91 (b:Bool):FnP Tryz.prog 109 [aBool b] fun a=>a=aInt (if b then 1 else 0):=by
 refine Qh K_wrap_yes mixed rfl (by cases b<;>simp[AV.pureL,aBool,AV.pure]) ?_
 simp only[X89,aBool]
 cases b<;>(push_cast (disch:=omega);exact ⟨[],rfl,rfl⟩)
theorem XB (op a b:Int):FnP Tryz.prog 108 [aInt op,aInt a,aInt b] fun r=>r=if b=0 then .tup [aInt 0,aInt 1] else if op=6 then .tup [aInt (IntKind.i64.wrap (a.tdiv b)),aInt 0] else .tup [aInt (a.tmod b),aInt 0]:=by
 refine Qh Yd mixed rfl (by simp[AV.pureL,Qr]) ?_
 simp only[Xy,aInt]
 by_cases c0:b=0
 ·rw[if_pos c0]
  push_cast (disch:=omega)[c0]
  first|exact ⟨[],rfl,rfl⟩|exact ⟨[],rfl⟩
 rw[if_neg c0]
 by_cases c1:op=6
 ·rw[if_pos c1]
  have hq:=v_quo .i64 a b c0
  push_cast (disch:=omega)[c0,c1,hq]
  first|exact ⟨[],rfl,rfl⟩|exact ⟨[],rfl⟩
 ·rw[if_neg c1]
  have hq:=v_rem .i64 a b c0
  push_cast (disch:=omega)[c0,c1,hq]
  first|exact ⟨[],rfl,rfl⟩|exact ⟨[],rfl⟩
theorem pv_and (a b:Int):PF.val (.bin .and) [.int .i64 a,.int .i64 b]=some (.int .i64 (bAnd a b)):=by simp[PF.val,binV,isSh,binI,bAnd]
theorem pv_or (a b:Int):PF.val (.bin .or) [.int .i64 a,.int .i64 b]=some (.int .i64 (bOr a b)):=by simp[PF.val,binV,isSh,binI,bOr]
theorem pv_xor (a b:Int):PF.val (.bin .xor) [.int .i64 a,.int .i64 b]=some (.int .i64 (bXor a b)):=by simp[PF.val,binV,isSh,binI,bXor]
set_option maxHeartbeats 4000000 in
theorem wrap_Do_a (op a b:Int):FnP Tryz.prog 87 [aInt op,aInt a,aInt b] fun r=>r=.tup [aInt (wrapD op a b).1,aInt (wrapD op a b).2]:=by
 refine Qh K_wrap_Do mixed rfl (by simp[AV.pureL,Qr]) ?_
 simp only[S_wrap_Do,aInt]
 by_cases c3:op=3
 ·have e:wrapD op a b=(IntKind.i64.wrap (a+b),0):=by unfold wrapD;rw[if_pos c3]
  rw[e]
  push_cast (disch:=omega)[c3]
  first|exact ⟨[],rfl,rfl⟩|exact ⟨[],rfl⟩
 by_cases c4:op=4
 ·have e:wrapD op a b=(IntKind.i64.wrap (a - b),0):=by unfold wrapD;rw[if_neg c3,if_pos c4]
  rw[e]
  push_cast (disch:=omega)[c3,c4]
  first|exact ⟨[],rfl,rfl⟩|exact ⟨[],rfl⟩
 by_cases c5:op=5
 ·have e:wrapD op a b=(IntKind.i64.wrap (a * b),0):=by unfold wrapD;rw[if_neg c3,if_neg c4,if_pos c5]
  rw[e]
  push_cast (disch:=omega)[c3,c4,c5]
  first|exact ⟨[],rfl,rfl⟩|exact ⟨[],rfl⟩
 by_cases c6:op=6
 ·have e:wrapD op a b=if b=0 then (0,1) else (IntKind.i64.wrap (a.tdiv b),0):=by unfold wrapD;rw[if_neg c3,if_neg c4,if_neg c5,if_pos (.inl c6),if_pos c6]
  rw[e]
  push_cast (disch:=omega)[c3,c4,c5,c6]
  refine Q3 (XB 6 a b) ?_
  rintro r rfl
  by_cases cb:b=0
  ·rw[if_pos cb,if_pos cb]
   push_cast (disch:=omega)[aInt]
   first|exact ⟨[],rfl,rfl⟩|exact ⟨[],rfl⟩
  ·rw[if_neg cb,if_neg cb,if_pos rfl]
   push_cast (disch:=omega)[aInt]
   first|exact ⟨[],rfl,rfl⟩|exact ⟨[],rfl⟩
 by_cases c7:op=7
 ·have e:wrapD op a b=if b=0 then (0,1) else (a.tmod b,0):=by unfold wrapD;rw[if_neg c3,if_neg c4,if_neg c5,if_pos (.inr c7),if_neg c6]
  rw[e]
  push_cast (disch:=omega)[c3,c4,c5,c6,c7]
  refine Q3 (XB 7 a b) ?_
  rintro r rfl
  by_cases cb:b=0
  ·rw[if_pos cb,if_pos cb]
   push_cast (disch:=omega)[aInt]
   first|exact ⟨[],rfl,rfl⟩|exact ⟨[],rfl⟩
  ·rw[if_neg cb,if_neg cb,if_neg (by decide)]
   push_cast (disch:=omega)[aInt]
   first|exact ⟨[],rfl,rfl⟩|exact ⟨[],rfl⟩
 by_cases c8:op=8
 ·have e:wrapD op a b=(if a < b then 1 else 0,0):=by unfold wrapD;rw[if_neg c3,if_neg c4,if_neg c5,if_neg (by omega),if_pos c8]
  rw[e]
  push_cast (disch:=omega)[c3,c4,c5,c6,c7,c8]
  refine Q3 (X91 (decide (a < b))) ?_
  rintro r rfl
  push_cast (disch:=omega)[aInt]
  exact ⟨[],rfl,by simp[AV.res,AV.resL]⟩
 by_cases c9:op=9
 ·have e:wrapD op a b=(if a=b then 1 else 0,0):=by unfold wrapD;rw[if_neg c3,if_neg c4,if_neg c5,if_neg (by omega),if_neg c8,if_pos c9]
  rw[e]
  push_cast (disch:=omega)[c3,c4,c5,c6,c7,c8,c9]
  refine Q3 (X91 (decide (a=b))) ?_
  rintro r rfl
  push_cast (disch:=omega)[aInt]
  exact ⟨[],rfl,by simp[AV.res,AV.resL]⟩
 by_cases c10:op=10
 ·have e:wrapD op a b=(bAnd a b,0):=by unfold wrapD;rw[if_neg c3,if_neg c4,if_neg c5,if_neg (by omega),if_neg c8,if_neg c9,if_pos c10]
  rw[e]
  push_cast (disch:=omega)[c3,c4,c5,c6,c7,c8,c9,c10,pv_and]
  first|exact ⟨[],rfl,rfl⟩|exact ⟨[],rfl⟩
 by_cases c11:op=11
 ·have e:wrapD op a b=(bOr a b,0):=by unfold wrapD;rw[if_neg c3,if_neg c4,if_neg c5,if_neg (by omega),if_neg c8,if_neg c9,if_neg c10,if_pos c11]
  rw[e]
  push_cast (disch:=omega)[c3,c4,c5,c6,c7,c8,c9,c10,c11,pv_or]
  first|exact ⟨[],rfl,rfl⟩|exact ⟨[],rfl⟩
 by_cases c12:op=12
 ·have e:wrapD op a b=(bXor a b,0):=by unfold wrapD;rw[if_neg c3,if_neg c4,if_neg c5,if_neg (by omega),if_neg c8,if_neg c9,if_neg c10,if_neg c11,if_pos c12]
  rw[e]
  push_cast (disch:=omega)[c3,c4,c5,c6,c7,c8,c9,c10,c11,c12,pv_xor]
  first|exact ⟨[],rfl,rfl⟩|exact ⟨[],rfl⟩
 have e:wrapD op a b=(0,0):=by unfold wrapD;rw[if_neg c3,if_neg c4,if_neg c5,if_neg (by omega),if_neg c8,if_neg c9,if_neg c10,if_neg c11,if_neg c12]
 rw[e]
 push_cast (disch:=omega)[c3,c4,c5,c6,c7,c8,c9,c10,c11,c12]
 first|exact ⟨[],rfl,rfl⟩|exact ⟨[],rfl⟩
theorem stage_Go_a (st to:Int):FnP Tryz.prog 93 [aInt st,aInt to] fun a=>a=aInt (goE st to):=by
 refine Qh K_stage_Go mixed rfl (by simp[AV.pureL,Qr]) ?_
 simp only[X86,aInt]
 unfold goE
 by_cases c1:to≤st
 ·rw[if_pos (.inl c1)]
  push_cast (disch:=omega)[c1]
  first|exact ⟨[],rfl,rfl⟩|exact ⟨[],rfl⟩
 by_cases c2:1048575 < to
 ·rw[if_pos (.inr c2)]
  push_cast (disch:=omega)[c1,c2]
  first|exact ⟨[],rfl,rfl⟩|exact ⟨[],rfl⟩
 rw[if_neg (by omega)]
 push_cast (disch:=omega)[c1,c2]
 first|exact ⟨[],rfl,rfl⟩|exact ⟨[],rfl⟩
set_option maxHeartbeats 8000000 in
theorem step_of_a (x:Ix) (rs:List Int):FnP Tryz.prog 88 [.agg (aIx x),.agg (aRg rs)] fun a=>a=.agg (aEf (ofE x rs)):=by
 refine Qh K_step_of mixed rfl (by simp[AV.pureL,AV.pure,Zo,Q84]) ?_
 simp only[S_step_of]
 have hax:(AV.agg (aIx x)).cells=aIx x:=rfl
 have har:(AV.agg (aRg rs)).cells=aRg rs:=rfl
 have g0:(aIx x)[0]?=some (.v (.int .i64 x.op)):=rfl
 have g1:(aIx x)[1]?=some (.v (.int .i64 x.a)):=rfl
 have g2:(aIx x)[2]?=some (.v (.int .i64 x.b)):=rfl
 have g3:(aIx x)[3]?=some (.v (.int .i64 x.c)):=rfl
 have ex8:(AV.agg (aRg rs)).exact=true:=rfl
 refine Q1 (fun ε σ=>(ε 2=.ref 0 0 0∧ε 3=.ref 1 0 0∧ε 4=.ref 2 0 0)∧σ=[.obj 0 (aIx x),.obj 0 (aRg rs),.obj 0 (aEf ef0)]) ?_ ?_
 ·intro N X R hN
  push_cast (disch:=omega)
  refine Qd ?_
  push_cast (disch:=omega)[hax]
  refine Qd ?_
  push_cast (disch:=omega)[har]
  refine Qb ?_
  push_cast (disch:=omega)
  exact hN _ _ ⟨by push_cast (disch:=omega),rfl⟩
 rintro ε σ ⟨hρ,rfl⟩
 refine Q1 (fun ε σ=>(ε 2=.ref 0 0 0∧ε 4=.ref 2 0 0∧ε 5=.v (.int .i64 (rg rs x.a))∧ε 6=.v (.int .i64 (rg rs x.b))∧ε 7=.v (.int .i64 (rg rs x.c)))∧σ=[.obj 0 (aIx x),.obj 0 (aRg rs),.obj 0 (aEf ef0)]) ?_ ?_
 ·intro N X R hN
  push_cast (disch:=omega)[hρ,cells8,g1,g2,g3]
  refine Q3 (Q92 rs x.a) ?_
  rintro a rfl
  push_cast (disch:=omega)[hρ]
  refine ⟨Q8 (by push_cast (disch:=omega)[hρ,g3,QC]),Q8 (by push_cast (disch:=omega)[hρ,cells8,ex8]),Q8 (by push_cast (disch:=omega)[hρ,g2,QC]),Q8 (by push_cast (disch:=omega)[hρ,cells8,ex8]),?_⟩
  refine Q3 (Q92 rs x.b) ?_
  rintro a rfl
  push_cast (disch:=omega)[hρ]
  refine ⟨Q8 (by push_cast (disch:=omega)[hρ,g3,QC]),Q8 (by push_cast (disch:=omega)[hρ,cells8,ex8]),?_⟩
  refine Q3 (Q92 rs x.c) ?_
  rintro a rfl
  push_cast (disch:=omega)[aInt]
  exact hN _ _ ⟨by push_cast (disch:=omega)[hρ,aInt],rfl⟩
 clear hρ ε
 rintro ε σ ⟨hρ,rfl⟩
 have hset:∀e:Ef,setAtA (aEf ef0) 0 (aEf e)=aEf e:=fun e=>rfl
 have fin:∀(e:Ef) (σ:Kx.St),e=ofE x rs→∃is,((AV.agg (aEf e)).res (Go.Kx.freeze is σ)).pure=true∧(AV.agg (aEf e)).res (Go.Kx.freeze is σ)=.agg (aEf (ofE x rs)):=fun e σ h=>by rw[h];exact ZA [] (by simp[AV.res,aEf_res]) (by simp[AV.pure,Z54])
 generalize hA:rg rs x.a=ra at hρ
 generalize hB:rg rs x.b=rb at hρ
 generalize hC:rg rs x.c=rc at hρ
 by_cases c13:x.op=13
 ·have hb:fillA [AV.v (.int .i64 0),AV.v (.int .i64 0),AV.v (.int .i64 0),AV.v (.int .i64 0),AV.v (.int .i64 0)] [(0,1),(1,1),(4,1)] [AV.v (.int .i64 1),AV.v (.int .i64 (rb)),AV.v (.int .i64 (heldN x.a))]=some (aEf ⟨1,rb,0,0,heldN x.a⟩):=by simp[fillA,AV.cells,Value.cells,setAtA,aEf]
  have he:(⟨1,rb,0,0,heldN x.a⟩:Ef)=ofE x rs:=by unfold ofE;simp only[hA,hB,hC];rw[if_pos c13]
  push_cast (disch:=omega)[hρ,g0,g1,c13,hb]
  refine Q3 (Qw x.a) ?_
  rintro a rfl
  push_cast (disch:=omega)[hρ,aInt,hb]
  refine Q5 (cs:=aEf ef0) rfl rfl rfl (by decide) ?_
  rw[hset]
  push_cast (disch:=omega)[hρ,cells5]
  exact fin _ _ he
 by_cases c14:x.op=14
 ·have hb:fillA [AV.v (.int .i64 0),AV.v (.int .i64 0),AV.v (.int .i64 0),AV.v (.int .i64 0),AV.v (.int .i64 0)] [(0,1),(1,1),(2,1)] [AV.v (.int .i64 2),AV.v (.int .i64 (ra)),AV.v (.int .i64 (rb))]=some (aEf ⟨2,ra,rb,0,0⟩):=by simp[fillA,AV.cells,Value.cells,setAtA,aEf]
  have he:(⟨2,ra,rb,0,0⟩:Ef)=ofE x rs:=by unfold ofE;simp only[hA,hB,hC];rw[if_neg c13];rw[if_pos c14]
  push_cast (disch:=omega)[hρ,g0,g1,c13,c14,hb]
  refine Q5 (cs:=aEf ef0) rfl rfl rfl (by decide) ?_
  rw[hset]
  push_cast (disch:=omega)[hρ,cells5]
  exact fin _ _ he
 by_cases c15:x.op=15
 ·have hb:fillA [AV.v (.int .i64 0),AV.v (.int .i64 0),AV.v (.int .i64 0),AV.v (.int .i64 0),AV.v (.int .i64 0)] [(0,1),(1,1),(2,1),(4,1)] [AV.v (.int .i64 3),AV.v (.int .i64 (rb)),AV.v (.int .i64 (rc)),AV.v (.int .i64 (heldN x.a))]=some (aEf ⟨3,rb,rc,0,heldN x.a⟩):=by simp[fillA,AV.cells,Value.cells,setAtA,aEf]
  have he:(⟨3,rb,rc,0,heldN x.a⟩:Ef)=ofE x rs:=by unfold ofE;simp only[hA,hB,hC];rw[if_neg c13];rw[if_neg c14];rw[if_pos c15]
  push_cast (disch:=omega)[hρ,g0,g1,c13,c14,c15,hb]
  refine Q3 (Qw x.a) ?_
  rintro a rfl
  push_cast (disch:=omega)[hρ,aInt,hb]
  refine Q5 (cs:=aEf ef0) rfl rfl rfl (by decide) ?_
  rw[hset]
  push_cast (disch:=omega)[hρ,cells5]
  exact fin _ _ he
 by_cases c16:x.op=16
 ·have hb:fillA [AV.v (.int .i64 0),AV.v (.int .i64 0),AV.v (.int .i64 0),AV.v (.int .i64 0),AV.v (.int .i64 0)] [(0,1),(1,1),(2,1),(3,1),(4,1)] [AV.v (.int .i64 4),AV.v (.int .i64 (rb)),AV.v (.int .i64 (ra)),AV.v (.int .i64 (rc)),AV.v (.int .i64 (heldN x.a))]=some (aEf ⟨4,rb,ra,rc,heldN x.a⟩):=by simp[fillA,AV.cells,Value.cells,setAtA,aEf]
  have he:(⟨4,rb,ra,rc,heldN x.a⟩:Ef)=ofE x rs:=by unfold ofE;simp only[hA,hB,hC];rw[if_neg c13];rw[if_neg c14];rw[if_neg c15];rw[if_pos c16]
  push_cast (disch:=omega)[hρ,g0,g1,c13,c14,c15,c16,hb]
  refine Q3 (Qw x.a) ?_
  rintro a rfl
  push_cast (disch:=omega)[hρ,aInt,hb]
  refine Q5 (cs:=aEf ef0) rfl rfl rfl (by decide) ?_
  rw[hset]
  push_cast (disch:=omega)[hρ,cells5]
  exact fin _ _ he
 by_cases c17:x.op=17
 ·have hb:fillA [AV.v (.int .i64 0),AV.v (.int .i64 0),AV.v (.int .i64 0),AV.v (.int .i64 0),AV.v (.int .i64 0)] [(0,1),(2,1)] [AV.v (.int .i64 5),AV.v (.int .i64 (ra))]=some (aEf ⟨5,0,ra,0,0⟩):=by simp[fillA,AV.cells,Value.cells,setAtA,aEf]
  have he:(⟨5,0,ra,0,0⟩:Ef)=ofE x rs:=by unfold ofE;simp only[hA,hB,hC];rw[if_neg c13];rw[if_neg c14];rw[if_neg c15];rw[if_neg c16];rw[if_pos c17]
  push_cast (disch:=omega)[hρ,g0,g1,c13,c14,c15,c16,c17,hb]
  refine Q5 (cs:=aEf ef0) rfl rfl rfl (by decide) ?_
  rw[hset]
  push_cast (disch:=omega)[hρ,cells5]
  exact fin _ _ he
 by_cases c20:x.op=20
 ·have hb:fillA [AV.v (.int .i64 0),AV.v (.int .i64 0),AV.v (.int .i64 0),AV.v (.int .i64 0),AV.v (.int .i64 0)] [(0,1),(2,1)] [AV.v (.int .i64 6),AV.v (.int .i64 (x.a))]=some (aEf ⟨6,0,x.a,0,0⟩):=by simp[fillA,AV.cells,Value.cells,setAtA,aEf]
  have he:(⟨6,0,x.a,0,0⟩:Ef)=ofE x rs:=by unfold ofE;simp only[hA,hB,hC];rw[if_neg c13];rw[if_neg c14];rw[if_neg c15];rw[if_neg c16];rw[if_neg c17];rw[if_pos c20]
  push_cast (disch:=omega)[hρ,g0,g1,c13,c14,c15,c16,c17,c20,hb]
  refine Q5 (cs:=aEf ef0) rfl rfl rfl (by decide) ?_
  rw[hset]
  push_cast (disch:=omega)[hρ,cells5]
  exact fin _ _ he
 by_cases c21:x.op=21
 ·have hb:fillA [AV.v (.int .i64 0),AV.v (.int .i64 0),AV.v (.int .i64 0),AV.v (.int .i64 0),AV.v (.int .i64 0)] [(0,1)] [AV.v (.int .i64 7)]=some (aEf ⟨7,0,0,0,0⟩):=by simp[fillA,AV.cells,Value.cells,setAtA,aEf]
  have he:(⟨7,0,0,0,0⟩:Ef)=ofE x rs:=by unfold ofE;simp only[hA,hB,hC];rw[if_neg c13];rw[if_neg c14];rw[if_neg c15];rw[if_neg c16];rw[if_neg c17];rw[if_neg c20];rw[if_pos c21]
  push_cast (disch:=omega)[hρ,g0,g1,c13,c14,c15,c16,c17,c20,c21,hb]
  refine Q5 (cs:=aEf ef0) rfl rfl rfl (by decide) ?_
  rw[hset]
  push_cast (disch:=omega)[hρ,cells5]
  exact fin _ _ he
 by_cases c22:x.op=22
 ·have hb:fillA [AV.v (.int .i64 0),AV.v (.int .i64 0),AV.v (.int .i64 0),AV.v (.int .i64 0),AV.v (.int .i64 0)] [(0,1),(2,1)] [AV.v (.int .i64 8),AV.v (.int .i64 (x.a))]=some (aEf ⟨8,0,x.a,0,0⟩):=by simp[fillA,AV.cells,Value.cells,setAtA,aEf]
  have he:(⟨8,0,x.a,0,0⟩:Ef)=ofE x rs:=by unfold ofE;simp only[hA,hB,hC];rw[if_neg c13];rw[if_neg c14];rw[if_neg c15];rw[if_neg c16];rw[if_neg c17];rw[if_neg c20];rw[if_neg c21];rw[if_pos c22]
  push_cast (disch:=omega)[hρ,g0,g1,c13,c14,c15,c16,c17,c20,c21,c22,hb]
  refine Q5 (cs:=aEf ef0) rfl rfl rfl (by decide) ?_
  rw[hset]
  push_cast (disch:=omega)[hρ,cells5]
  exact fin _ _ he
 by_cases c23:x.op=23
 ·have hb:fillA [AV.v (.int .i64 0),AV.v (.int .i64 0),AV.v (.int .i64 0),AV.v (.int .i64 0),AV.v (.int .i64 0)] [(0,1),(2,1)] [AV.v (.int .i64 9),AV.v (.int .i64 (ra))]=some (aEf ⟨9,0,ra,0,0⟩):=by simp[fillA,AV.cells,Value.cells,setAtA,aEf]
  have he:(⟨9,0,ra,0,0⟩:Ef)=ofE x rs:=by unfold ofE;simp only[hA,hB,hC];rw[if_neg c13];rw[if_neg c14];rw[if_neg c15];rw[if_neg c16];rw[if_neg c17];rw[if_neg c20];rw[if_neg c21];rw[if_neg c22];rw[if_pos c23]
  push_cast (disch:=omega)[hρ,g0,g1,c13,c14,c15,c16,c17,c20,c21,c22,c23,hb]
  refine Q5 (cs:=aEf ef0) rfl rfl rfl (by decide) ?_
  rw[hset]
  push_cast (disch:=omega)[hρ,cells5]
  exact fin _ _ he
 by_cases c24:x.op=24
 ·have hb:fillA [AV.v (.int .i64 0),AV.v (.int .i64 0),AV.v (.int .i64 0),AV.v (.int .i64 0),AV.v (.int .i64 0)] [(0,1),(2,1)] [AV.v (.int .i64 10),AV.v (.int .i64 (ra))]=some (aEf ⟨10,0,ra,0,0⟩):=by simp[fillA,AV.cells,Value.cells,setAtA,aEf]
  have he:(⟨10,0,ra,0,0⟩:Ef)=ofE x rs:=by unfold ofE;simp only[hA,hB,hC];rw[if_neg c13];rw[if_neg c14];rw[if_neg c15];rw[if_neg c16];rw[if_neg c17];rw[if_neg c20];rw[if_neg c21];rw[if_neg c22];rw[if_neg c23];rw[if_pos c24]
  push_cast (disch:=omega)[hρ,g0,g1,c13,c14,c15,c16,c17,c20,c21,c22,c23,c24,hb]
  refine Q5 (cs:=aEf ef0) rfl rfl rfl (by decide) ?_
  rw[hset]
  push_cast (disch:=omega)[hρ,cells5]
  exact fin _ _ he
 by_cases c25:x.op=25
 ·have hb:fillA [AV.v (.int .i64 0),AV.v (.int .i64 0),AV.v (.int .i64 0),AV.v (.int .i64 0),AV.v (.int .i64 0)] [(0,1)] [AV.v (.int .i64 11)]=some (aEf ⟨11,0,0,0,0⟩):=by simp[fillA,AV.cells,Value.cells,setAtA,aEf]
  have he:(⟨11,0,0,0,0⟩:Ef)=ofE x rs:=by unfold ofE;simp only[hA,hB,hC];rw[if_neg c13];rw[if_neg c14];rw[if_neg c15];rw[if_neg c16];rw[if_neg c17];rw[if_neg c20];rw[if_neg c21];rw[if_neg c22];rw[if_neg c23];rw[if_neg c24];rw[if_pos c25]
  push_cast (disch:=omega)[hρ,g0,g1,c13,c14,c15,c16,c17,c20,c21,c22,c23,c24,c25,hb]
  refine Q5 (cs:=aEf ef0) rfl rfl rfl (by decide) ?_
  rw[hset]
  push_cast (disch:=omega)[hρ,cells5]
  exact fin _ _ he
 by_cases c0:x.op=0
 ·have hb:fillA [AV.v (.int .i64 0),AV.v (.int .i64 0),AV.v (.int .i64 0),AV.v (.int .i64 0),AV.v (.int .i64 0)] [(0,1)] [AV.v (.int .i64 12)]=some (aEf ⟨12,0,0,0,0⟩):=by simp[fillA,AV.cells,Value.cells,setAtA,aEf]
  have he:(⟨12,0,0,0,0⟩:Ef)=ofE x rs:=by unfold ofE;simp only[hA,hB,hC];rw[if_neg c13];rw[if_neg c14];rw[if_neg c15];rw[if_neg c16];rw[if_neg c17];rw[if_neg c20];rw[if_neg c21];rw[if_neg c22];rw[if_neg c23];rw[if_neg c24];rw[if_neg c25];rw[if_pos c0]
  push_cast (disch:=omega)[hρ,g0,g1,c13,c14,c15,c16,c17,c20,c21,c22,c23,c24,c25,c0,hb]
  refine Q5 (cs:=aEf ef0) rfl rfl rfl (by decide) ?_
  rw[hset]
  push_cast (disch:=omega)[hρ,cells5]
  exact fin _ _ he
 have hb:fillA [AV.v (.int .i64 0),AV.v (.int .i64 0),AV.v (.int .i64 0),AV.v (.int .i64 0),AV.v (.int .i64 0)] [] []=some (aEf ef0):=by simp[fillA,aEf,ef0]
 have he:ef0=ofE x rs:=by unfold ofE;simp only[];rw[if_neg c13];rw[if_neg c14];rw[if_neg c15];rw[if_neg c16];rw[if_neg c17];rw[if_neg c20];rw[if_neg c21];rw[if_neg c22];rw[if_neg c23];rw[if_neg c24];rw[if_neg c25];rw[if_neg c0]
 push_cast (disch:=omega)[hρ,g0,g1,c13,c14,c15,c16,c17,c20,c21,c22,c23,c24,c25,c0,hb]
 refine Q5 (cs:=aEf ef0) rfl rfl rfl (by decide) ?_
 rw[hset]
 push_cast (disch:=omega)[hρ,cells5]
 exact fin _ _ he
end Go.Proofs.YtncdnegdlkmicaaGreat
