/- The machine: tokens; shared words, wherever they lie; rings, joins, tickets. -/
import Derived.Test.YtelibaobkcokdaaGreatQU2Mb
namespace Go.Proofs.YtelibaobkcokdaaGreat.Mx
set_option linter.unusedSectionVars false
set_option linter.unusedVariables false
set_option linter.unusedSimpArgs false
open Go Go.Kx Go.Proofs Go.Proofs.YtelibaobkcokdaaGreat
set_option maxRecDepth 8000
theorem or_add {x y:Int} (hx:0≤x) (hx2:x < 1099511627776) (hy:0≤y) (hy2:y < 1048576):bOr (x * 1048576) y=x * 1048576+y:=by
 obtain ⟨a,rfl⟩:=Int.eq_ofNat_of_zero_le hx
 obtain ⟨b,rfl⟩:=Int.eq_ofNat_of_zero_le hy
 have h1:(BitVec.ofInt IntKind.i64.bits ((a:Int) * 1048576)).toNat=a * 1048576:=by
  rw[BitVec.toNat_ofInt];show (((a:Int) * 1048576) % ((2 ^ 64:Nat):Int)).toNat=_;omega
 have h2:(BitVec.ofInt IntKind.i64.bits (b:Int)).toNat=b:=by
  rw[BitVec.toNat_ofInt];show ((b:Int) % ((2 ^ 64:Nat):Int)).toNat=_;omega
 unfold bOr
 rw[BitVec.toNat_or,h1,h2]
 have h3:a * 1048576 ||| b=a * 1048576+b:=by
  have:=Nat.two_pow_add_eq_or_of_lt (i:=20) (b:=b) (by omega) a
  rw[Nat.mul_comm];exact this.symm
 rw[h3,Q97 (by omega) (by omega)]
 omega
theorem and_mod {x:Int} (hx:0≤x) (hx2:x≤9223372036854775807):bAnd x 1048575=x % 1048576:=by
 obtain ⟨a,rfl⟩:=Int.eq_ofNat_of_zero_le hx
 have h1:(BitVec.ofInt IntKind.i64.bits (a:Int)).toNat=a:=by
  rw[BitVec.toNat_ofInt];show ((a:Int) % ((2 ^ 64:Nat):Int)).toNat=_;omega
 have h2:(BitVec.ofInt IntKind.i64.bits (1048575:Int)).toNat=1048575:=by decide
 unfold bAnd
 rw[BitVec.toNat_and,h1,h2]
 have h3:a &&& 1048575=a % 1048576:=Nat.and_two_pow_sub_one_eq_mod a 20
 rw[h3,Q97 (by omega) (by omega)]
 omega
theorem J90 (a:Int):PF.val (.bin .shl) [.int .i64 a,.int .u64 20]=some (.int .i64 (IntKind.i64.wrap (a * 1048576))):=by
 simp[PF.val,binV,isSh,shI,IntKind.bits]
theorem pv_shr20 (a:Int):PF.val (.bin .shr) [.int .i64 a,.int .u64 20]=some (.int .i64 (a.fdiv 1048576)):=by
 simp[PF.val,binV,isSh,shI,IntKind.bits]
theorem J91 (n:Int):0≤heldT n∧heldT n≤1048575:=by unfold heldT;omega
theorem XX (n:Int):FnP Tryz.prog 315 [aInt n] fun r=>r=aInt (heldT n):=by
 refine Qg K_token_held mixed rfl (by simp[AV.pureL,Qh]) ?_
 simp only[Y60,aInt]
 push_cast (maxSteps:=999999) -implicitDefEqProofs (disch:=omega)
 first|exact ⟨[],rfl,rfl⟩|exact ⟨[],rfl⟩
theorem token_Of_a (a b c:Int):FnP Tryz.prog 307 [aInt a,aInt b,aInt c] fun r=>r=aInt (tokF a b c):=by
 refine Qg K_token_Of mixed rfl (by simp[AV.pureL,Qh]) ?_
 simp only[J55,aInt]
 have ⟨a1,a2⟩:=J91 a
 have ⟨b1,b2⟩:=J91 b
 have ⟨c1,c2⟩:=J91 c
 have e1:=Q97 (n:=heldT a * 1048576) (by omega) (by omega)
 have e2:=or_add (x:=heldT a) (y:=heldT b) a1 (by omega) b1 (by omega)
 have e3:=Q97 (n:=(heldT a * 1048576+heldT b) * 1048576) (by omega) (by omega)
 have e4:=or_add (x:=heldT a * 1048576+heldT b) (y:=heldT c) (by omega) (by omega) c1 (by omega)
 have e5:(heldT a * 1048576+heldT b) * 1048576+heldT c=tokF a b c:=by unfold tokF;omega
 push_cast (maxSteps:=999999) -implicitDefEqProofs (disch:=omega)
 refine Q1 (XX a) ?_
 rintro r rfl
 push_cast (maxSteps:=999999) -implicitDefEqProofs (disch:=omega)[aInt,J90,e1]
 refine Q1 (XX b) ?_
 rintro r rfl
 push_cast (maxSteps:=999999) -implicitDefEqProofs (disch:=omega)[aInt,J90,pv_or,e1,e2,e3]
 refine Q1 (XX c) ?_
 rintro r rfl
 push_cast (maxSteps:=999999) -implicitDefEqProofs (disch:=omega)[aInt,J90,pv_or,e1,e2,e3,e4,e5]
 first|exact ⟨[],rfl,rfl⟩|exact ⟨[],rfl⟩
theorem YE (n:Int):FnP Tryz.prog 304 [aInt n] fun r=>r=aInt (wholeT n):=by
 refine Qg J87 mixed rfl (by simp[AV.pureL,Qh]) ?_
 simp only[Yu,aInt]
 push_cast (maxSteps:=999999) -implicitDefEqProofs (disch:=omega)
 first|exact ⟨[],rfl,rfl⟩|exact ⟨[],rfl⟩
theorem wholeT_in (n:Int):0≤wholeT n∧wholeT n≤1152921504606846975:=by unfold wholeT;omega
theorem YF (n:Int):FnP Tryz.prog 279 [aInt n] fun r=>r=aInt (tokStage n):=by
 refine Qg J86 mixed rfl (by simp[AV.pureL,Qh]) ?_
 simp only[Yq,aInt]
 have ⟨a1,a2⟩:=wholeT_in n
 have e:=and_mod a1 (by omega)
 push_cast (maxSteps:=999999) -implicitDefEqProofs (disch:=omega)
 refine Q1 (YE n) ?_
 rintro r rfl
 push_cast (maxSteps:=999999) -implicitDefEqProofs (disch:=omega)[aInt,pv_and,e]
 first|exact ⟨[],rfl,rfl⟩|exact ⟨[],rfl⟩
theorem token_Is_a (n:Int):FnP Tryz.prog 305 [aInt n] fun r=>r=aBool (tokIs n):=by
 refine Qg K_token_Is mixed rfl (by simp[AV.pureL,Qh]) ?_
 simp only[J54,aInt]
 have hd:tokIs n=(decide (1099511627776≤n)&&decide (n≤1152921504606846975)):=by unfold tokIs;rw[Bool.eq_iff_iff];simp
 rw[hd]
 push_cast (maxSteps:=999999) -implicitDefEqProofs (disch:=omega)
 by_cases c:1099511627776≤n<;>(push_cast (maxSteps:=999999) -implicitDefEqProofs (disch:=omega)[c,aBool];first|exact ⟨[],rfl,rfl⟩|exact ⟨[],rfl⟩|exact ⟨[],rfl,by simp⟩)
theorem token_Iter_a (n:Int):FnP Tryz.prog 306 [aInt n] fun r=>∃k,r=aInt k:=by
 refine Qg K_token_Iter mixed rfl (by simp[AV.pureL,Qh]) ?_
 simp only[Y59,aInt]
 push_cast (maxSteps:=999999) -implicitDefEqProofs (disch:=omega)
 refine Q1 (YE n) ?_
 rintro r rfl
 push_cast (maxSteps:=999999) -implicitDefEqProofs (disch:=omega)[aInt,pv_and,pv_shr20]
 exact ⟨[],rfl,_,rfl⟩
theorem token_Next_a (t c:Int):FnP Tryz.prog 280 [aInt t,aInt c] fun r=>∃k,r=.tup [aInt k,aBool (tokIs t&&decide (tokStage t < c))]:=by
 refine Qg K_token_Next mixed rfl (by simp[AV.pureL,Qh]) ?_
 simp only[Y57,aInt]
 push_cast (maxSteps:=999999) -implicitDefEqProofs (disch:=omega)
 refine Q1 (token_Is_a t) ?_
 rintro r rfl
 cases hI:tokIs t with
 | false=>
  push_cast (maxSteps:=999999) -implicitDefEqProofs (disch:=omega)[aBool]
  exact ⟨[],rfl,0,by simp[AV.res,AV.resL]⟩
 | true=>
  push_cast (maxSteps:=999999) -implicitDefEqProofs (disch:=omega)[aBool]
  refine Q1 (YF t) ?_
  rintro r rfl
  by_cases hc:c≤tokStage t
  ·push_cast (maxSteps:=999999) -implicitDefEqProofs (disch:=omega)[aInt,hc]
   refine ⟨[],rfl,0,?_⟩
   have:¬tokStage t < c:=by omega
   simp[AV.res,AV.resL,this]
  ·push_cast (maxSteps:=999999) -implicitDefEqProofs (disch:=omega)[aInt,hc]
   refine Q1 (token_Iter_a t) ?_
   rintro r ⟨k,rfl⟩
   push_cast (maxSteps:=999999) -implicitDefEqProofs (disch:=omega)[aInt]
   refine ⟨[],rfl,k,?_⟩
   have:tokStage t < c:=by omega
   simp[AV.res,AV.resL,this]
theorem snoc_set {α:Type} {A:List α} {x y:α} {n:Nat} (h:A.length=n):(A++[x]).set n y=A++[y]:=by subst h;simp
theorem snoc_at {α:Type} {A:List α} {x:α} {n:Nat} (h:A.length=n):(A++[x])[n]?=some x:=by subst h;simp
theorem res_low_ints (v n:Nat) (l:List Int):(Res.obj v (l.map aInt)).low n=true:=low_ints n l
structure Wd (σ:Kx.St) (js jw:Nat) (ws:List Int):Prop where
 st:σ[js]?=some (.obj 0 [.ms jw 0 0 ws.length 1,.v .nilFunc])
 wd:σ[jw]?=some (.obj 0 (ws.map aInt))
 ne:js≠jw
theorem Wd.app {σ τ:Kx.St} {js jw:Nat} {ws:List Int} (h:Wd σ js jw ws):Wd (σ++τ) js jw ws:=⟨Qj h.st,Qj h.wd,h.ne⟩
theorem Wd.setOther {σ:Kx.St} {js jw:Nat} {ws:List Int} (h:Wd σ js jw ws) {j:Nat} {r:Res} (h1:j≠js) (h2:j≠jw):Wd (σ.set j r) js jw ws:=⟨Q4 h1 h.st,Q4 h2 h.wd,h.ne⟩
theorem Wd.set {σ:Kx.St} {js jw:Nat} {ws ws':List Int} (h:Wd σ js jw ws) (hl:ws'.length=ws.length):Wd (σ.set jw (.obj 0 (ws'.map aInt))) js jw ws':=⟨by rw[hl];exact Q4 h.ne.symm h.st,Qa h.wd,h.ne⟩
theorem Wd.self {σ:Kx.St} {js jw:Nat} {ws:List Int} (h:Wd σ js jw ws):σ.set jw (.obj 0 (ws.map aInt))=σ:=Q06 h.wd
theorem Q62 (ws:List Int) (a v:Int):(stW ws a v).length=ws.length:=List.length_set
theorem Z93 (ws:List Int) (a v:Int):(addW ws a v).length=ws.length:=List.length_set
theorem Z50 (ws:List Int) (a v:Int):(swW ws a v).2.length=ws.length:=by unfold swW;split<;>simp[Q62]
def wordJ (jw:Nat) (d:List Int) (at_:Int):AV:=if at_ < 0∨(d.length:Int)≤at_ then .v (.pointer none) else .ref jw 0 at_.toNat
theorem JL {σ:Kx.St} {js jw:Nat} {d:List Int} (hst:σ[js]?=some (.obj 0 [.ms jw 0 0 d.length 1,.v .nilFunc])):FnG Tryz.prog 196 [.ref js 0 0] σ fun a σ'=>a=.v (.int .i64 d.length)∧σ'=σ:=by
 refine Q2 Yd mixed rfl ?_
 simp only[Z09]
 push_cast (maxSteps:=999999) -implicitDefEqProofs (disch:=omega)[hst]
 exact trivial
theorem YG {σ:Kx.St} {js jw:Nat} {d:List Int} (hst:σ[js]?=some (.obj 0 [.ms jw 0 0 d.length 1,.v .nilFunc])) (at_:Int) (b:Bool):
  FnG Tryz.prog 116 [.ref js 0 0,aInt at_,aBool b] σ fun a σ'=>a=wordJ jw d at_∧σ'=σ:=by
 refine Q2 Yb mixed rfl ?_
 simp only[Z07,aInt,aBool]
 by_cases c1:at_ < 0
 ·have e:wordJ jw d at_=.v (.pointer none):=if_pos (.inl c1)
  rw[e]
  push_cast (maxSteps:=999999) -implicitDefEqProofs (disch:=omega)[c1]
  exact trivial
 by_cases c2:(d.length:Int)≤at_
 ·have e:wordJ jw d at_=.v (.pointer none):=if_pos (.inr c2)
  rw[e]
  push_cast (maxSteps:=999999) -implicitDefEqProofs (disch:=omega)[c1]
  refine Q0 (JL hst) ?_
  rintro a σ' ⟨rfl,rfl⟩
  push_cast (maxSteps:=999999) -implicitDefEqProofs (disch:=omega)[c2]
  exact trivial
 have e:wordJ jw d at_=.ref jw 0 at_.toNat:=if_neg (by omega)
 rw[e]
 push_cast (maxSteps:=999999) -implicitDefEqProofs (disch:=omega)[c1]
 refine Q0 (JL hst) ?_
 rintro a σ' ⟨rfl,rfl⟩
 push_cast (maxSteps:=999999) -implicitDefEqProofs (disch:=omega)[c2,hst]
 exact trivial
theorem Jb {jw:Nat} {d:List Int} {at_:Int} (h:at_ < 0∨(d.length:Int)≤at_):wordJ jw d at_=.v (.pointer none):=if_pos h
theorem Jc {jw:Nat} {d:List Int} {at_:Int} (h:¬(at_ < 0∨(d.length:Int)≤at_)):wordJ jw d at_=.ref jw 0 at_.toNat:=if_neg h
section
variable {σ:Kx.St} {js jw:Nat} {d:List Int} (hst:σ[js]?=some (.obj 0 [.ms jw 0 0 d.length 1,.v .nilFunc])) (hwd:σ[jw]?=some (.obj 0 (d.map aInt)))
include hst hwd
theorem st_Load_x (at_:Int):FnG Tryz.prog 68 [.ref js 0 0,aInt at_] σ fun a σ'=>a=.tup [aInt (askD d ⟨1,at_,0,0,0⟩).1,aBool (askD d ⟨1,at_,0,0,0⟩).2.1]∧σ'=σ:=by
 refine Q2 Ya mixed rfl ?_
 simp only[Z06,aInt]
 push_cast (maxSteps:=999999) -implicitDefEqProofs (disch:=omega)
 refine Q0 (YG hst at_ false) ?_
 rintro a σ' ⟨rfl,rfl⟩
 by_cases c:at_ < 0∨(d.length:Int)≤at_
 ·have e:askD d ⟨1,at_,0,0,0⟩=(0,false,d):=if_pos c
  rw[Jb c,e]
  push_cast (maxSteps:=999999) -implicitDefEqProofs (disch:=omega)[Option.isNone_none,aBool]
  exact trivial
 ·have e:askD d ⟨1,at_,0,0,0⟩=(d.getD at_.toNat 0,true,d):=by simp only[askD];rw[if_neg c];simp
  rw[Jc c,e]
  have hg:=J9 c
  push_cast (maxSteps:=999999) -implicitDefEqProofs (disch:=omega)[hwd,hg,aBool]
  exact trivial
theorem Y31 (at_ v:Int):FnG Tryz.prog 85 [.ref js 0 0,aInt at_,aInt v] σ fun a σ'=>a=aBool (askD d ⟨2,at_,v,0,0⟩).2.1∧σ'=σ.set jw (.obj 0 ((askD d ⟨2,at_,v,0,0⟩).2.2.map aInt)):=by
 refine Q2 X82 mixed rfl ?_
 simp only[ZJ,aInt]
 push_cast (maxSteps:=999999) -implicitDefEqProofs (disch:=omega)
 refine Q0 (YG hst at_ true) ?_
 rintro a σ' ⟨rfl,rfl⟩
 by_cases c:at_ < 0∨(d.length:Int)≤at_
 ·have e:askD d ⟨2,at_,v,0,0⟩=(0,false,d):=if_pos c
  rw[Jb c,e]
  push_cast (maxSteps:=999999) -implicitDefEqProofs (disch:=omega)[Option.isNone_none,aBool]
  exact (Q06 hwd).symm
 ·have e:askD d ⟨2,at_,v,0,0⟩=(0,true,d.set at_.toNat v):=by simp only[askD];rw[if_neg c];simp
  rw[Jc c,e]
  have hlt:=Qe (J9 c)
  push_cast (maxSteps:=999999) -implicitDefEqProofs (disch:=omega)
  refine Q6 rfl rfl hwd hlt ?_
  rw[Ja]
  push_cast (maxSteps:=999999) -implicitDefEqProofs (disch:=omega)[aBool]
  exact trivial
theorem st_Add_x (at_ v:Int):FnG Tryz.prog 225 [.ref js 0 0,aInt at_,aInt v] σ fun a σ'=>a=.tup [aInt (askD d ⟨3,at_,v,0,0⟩).1,aBool (askD d ⟨3,at_,v,0,0⟩).2.1]∧σ'=σ.set jw (.obj 0 ((askD d ⟨3,at_,v,0,0⟩).2.2.map aInt)):=by
 refine Q2 Y10 mixed rfl ?_
 simp only[Z56,aInt]
 push_cast (maxSteps:=999999) -implicitDefEqProofs (disch:=omega)
 refine Q0 (YG hst at_ true) ?_
 rintro a σ' ⟨rfl,rfl⟩
 by_cases c:at_ < 0∨(d.length:Int)≤at_
 ·have e:askD d ⟨3,at_,v,0,0⟩=(0,false,d):=if_pos c
  rw[Jb c,e]
  push_cast (maxSteps:=999999) -implicitDefEqProofs (disch:=omega)[Option.isNone_none,aBool]
  exact (Q06 hwd).symm
 ·have e:askD d ⟨3,at_,v,0,0⟩=(d.getD at_.toNat 0,true,d.set at_.toNat (IntKind.i64.wrap (d.getD at_.toNat 0+v))):=by simp only[askD];rw[if_neg c];simp
  rw[Jc c,e]
  have hg:=J9 c
  have hlt:=Qe hg
  push_cast (maxSteps:=999999) -implicitDefEqProofs (disch:=omega)[hwd,hg]
  refine Q6 rfl rfl hwd hlt ?_
  rw[Ja]
  push_cast (maxSteps:=999999) -implicitDefEqProofs (disch:=omega)[aBool]
  exact trivial
theorem st_Swap_x (at_ v o:Int):FnG Tryz.prog 227 [.ref js 0 0,aInt at_,aInt v,aInt o] σ fun a σ'=>a=.tup [aInt (askD d ⟨4,at_,v,o,0⟩).1,aBool (askD d ⟨4,at_,v,o,0⟩).2.1]∧σ'=σ.set jw (.obj 0 ((askD d ⟨4,at_,v,o,0⟩).2.2.map aInt)):=by
 refine Q2 Ye mixed rfl ?_
 simp only[Z11,aInt]
 push_cast (maxSteps:=999999) -implicitDefEqProofs (disch:=omega)
 refine Q0 (YG hst at_ true) ?_
 rintro a σ' ⟨rfl,rfl⟩
 by_cases c:at_ < 0∨(d.length:Int)≤at_
 ·have e:askD d ⟨4,at_,v,o,0⟩=(0,false,d):=if_pos c
  rw[Jb c,e]
  push_cast (maxSteps:=999999) -implicitDefEqProofs (disch:=omega)[Option.isNone_none,aBool]
  exact (Q06 hwd).symm
 ·have e:askD d ⟨4,at_,v,o,0⟩=(d.getD at_.toNat 0,true,if d.getD at_.toNat 0=v then d.set at_.toNat o else d):=by simp only[askD];rw[if_neg c];simp
  rw[Jc c,e]
  have hg:=J9 c
  have hlt:=Qe hg
  by_cases cv:d.getD at_.toNat 0=v
  ·rw[if_pos cv]
   push_cast (maxSteps:=999999) -implicitDefEqProofs (disch:=omega)[hwd,hg,cv,aBool]
   refine Q6 rfl rfl hwd hlt ?_
   rw[Ja]
   push_cast (maxSteps:=999999) -implicitDefEqProofs (disch:=omega)[aBool]
   exact trivial
  ·rw[if_neg cv]
   push_cast (maxSteps:=999999) -implicitDefEqProofs (disch:=omega)[hwd,hg,cv,aBool]
   exact (Q06 hwd).symm
end
section
variable {σ:Kx.St} {js jw:Nat} {ws:List Int} (h:Wd σ js jw ws)
include h
theorem XY {a:Int} (h0:0≤a) (h1:a < ws.length):FnG Tryz.prog 68 [.ref js 0 0,aInt a] σ fun r σ'=>r=.tup [aInt (ldW ws a),aBool true]∧σ'=σ:=
 FnG.mono (st_Load_x h.st h.wd a) fun r σ' ⟨e1,e2⟩=>⟨by rw[e1];unfold askD;rw[if_neg (by simp only;omega)];rfl,e2⟩
theorem ZB {a:Int} (h0:0≤a) (h1:a < ws.length) (v:Int):FnG Tryz.prog 85 [.ref js 0 0,aInt a,aInt v] σ fun r σ'=>r=aBool true∧σ'=σ.set jw (.obj 0 ((stW ws a v).map aInt)):=
 FnG.mono (Y31 h.st h.wd a v) fun r σ' ⟨e1,e2⟩=>by
  have e:askD ws ⟨2,a,v,0,0⟩=(0,true,stW ws a v):=by unfold askD;rw[if_neg (by simp only;omega)];rfl
  rw[e] at e1 e2
  exact ⟨e1,e2⟩
theorem wAdd_a {a:Int} (h0:0≤a) (h1:a < ws.length) (v:Int):FnG Tryz.prog 225 [.ref js 0 0,aInt a,aInt v] σ fun r σ'=>r=.tup [aInt (ldW ws a),aBool true]∧σ'=σ.set jw (.obj 0 ((addW ws a v).map aInt)):=
 FnG.mono (st_Add_x h.st h.wd a v) fun r σ' ⟨e1,e2⟩=>by
  have e:askD ws ⟨3,a,v,0,0⟩=(ldW ws a,true,addW ws a v):=by unfold askD;rw[if_neg (by simp only;omega)];rfl
  rw[e] at e1 e2
  exact ⟨e1,e2⟩
theorem X92 {a:Int} (h0:0≤a) (h1:a < ws.length):FnG Tryz.prog 243 [.ref js 0 0,aInt a] σ fun r σ'=>r=aInt (ldW ws a)∧σ'=σ:=by
 refine Q2 K_ring_load mixed rfl ?_
 simp only[JI,aInt]
 push_cast (maxSteps:=999999) -implicitDefEqProofs (disch:=omega)
 refine Q0 (XY h h0 h1) ?_
 rintro r σ' ⟨rfl,rfl⟩
 push_cast (maxSteps:=999999) -implicitDefEqProofs (disch:=omega)[aInt,aBool]
 exact trivial
theorem Y64 {a:Int} (h0:0≤a) (h1:a < ws.length) (n:Int):FnG Tryz.prog 283 [.ref js 0 0,aInt a,aInt n] σ fun r σ'=>r=aBool (swW ws a n).1∧σ'=σ.set jw (.obj 0 ((swW ws a n).2.map aInt)):=by
 refine Q2 K_ring_swaps mixed rfl ?_
 simp only[Y58,aInt]
 have e:askD ws ⟨4,a,n,0,0⟩=(ldW ws a,true,(swW ws a n).2):=by
  unfold askD;rw[if_neg (by simp only;omega)];have hk:¬((4:Int)=1)∧¬((4:Int)=2)∧¬((4:Int)=3):=by decide
  simp only[hk.1,hk.2.1,hk.2.2,if_false,if_true,swW,ldW,stW];split<;>(rename_i hc;simp only[hc,if_true,if_false])
 push_cast (maxSteps:=999999) -implicitDefEqProofs (disch:=omega)
 refine Q0 (st_Swap_x h.st h.wd a n 0) ?_
 rw[e]
 rintro r σ' ⟨rfl,rfl⟩
 by_cases c:ldW ws a=n
 ·have e1:(swW ws a n).1=true:=by simp[swW,c]
  rw[e1]
  push_cast (maxSteps:=999999) -implicitDefEqProofs (disch:=omega)[aInt,aBool,c]
  exact trivial
 ·have e1:(swW ws a n).1=false:=by simp[swW,c]
  rw[e1]
  push_cast (maxSteps:=999999) -implicitDefEqProofs (disch:=omega)[aInt,aBool,c]
  exact trivial
theorem Y65 {a:Int} (h0:0≤a) (h1:a < ws.length):FnG Tryz.prog 161 [.ref js 0 0,aInt a] σ fun _ σ'=>σ'=σ.set jw (.obj 0 ((addW ws a 1).map aInt)):=by
 refine Q2 K_join_Spawn mixed rfl ?_
 simp only[Y53,aInt]
 push_cast (maxSteps:=999999) -implicitDefEqProofs (disch:=omega)
 refine Q0 (wAdd_a h h0 h1 1) ?_
 rintro r σ' ⟨rfl,rfl⟩
 push_cast (maxSteps:=999999) -implicitDefEqProofs (disch:=omega)
 exact trivial
theorem Y66 {a:Int} (h0:0≤a) (h1:a < ws.length):FnG Tryz.prog 160 [.ref js 0 0,aInt a] σ fun _ σ'=>σ'=σ.set jw (.obj 0 ((stW ws a 1).map aInt)):=by
 refine Q2 K_join_Again mixed rfl ?_
 simp only[Y52,aInt]
 push_cast (maxSteps:=999999) -implicitDefEqProofs (disch:=omega)
 refine Q0 (ZB h h0 h1 1) ?_
 rintro r σ' ⟨rfl,rfl⟩
 push_cast (maxSteps:=999999) -implicitDefEqProofs (disch:=omega)
 exact trivial
theorem Z29 {a:Int} (h0:0≤a) (h1:a < ws.length):FnG Tryz.prog 153 [.ref js 0 0,aInt a] σ fun r σ'=>r=aBool (joinLeave ws a).1∧σ'=σ.set jw (.obj 0 ((joinLeave ws a).2.map aInt)):=by
 refine Q2 K_join_Leave mixed rfl ?_
 simp only[Y51,aInt]
 push_cast (maxSteps:=999999) -implicitDefEqProofs (disch:=omega)
 refine Q0 (wAdd_a h h0 h1 (-1)) ?_
 rintro r σ' ⟨rfl,rfl⟩
 push_cast (maxSteps:=999999) -implicitDefEqProofs (disch:=omega)[aInt,aBool]
 first|exact ⟨rfl,rfl⟩|exact trivial
def aTn (at_ n:Int):AV:=.agg [.v (.int .i64 at_),.v (.int .i64 n)]
theorem ticket_Ask_a {a:Int} (h0:0≤a) (h1:a < ws.length):FnG Tryz.prog 214 [.ref js 0 0,aInt a] σ fun r σ'=>r=aTn a (ldW ws a)∧σ'=σ.set jw (.obj 0 ((addW ws a 1).map aInt)):=by
 refine FnG.drop1 (res_low_ints _ _ _) (fun a h=>by subst h;rfl) ?_
 refine Q2 K_ticket_Ask mixed rfl ?_
 simp only[Y62,aInt]
 have hb:fillA [AV.v (.int .i64 0),AV.v (.int .i64 0)] [(0,1),(1,1)] [.v (.int .i64 a),.v (.int .i64 (ldW ws a))]=some [.v (.int .i64 a),.v (.int .i64 (ldW ws a))]:=by simp[fillA,AV.cells,Value.cells,setAtA]
 push_cast (maxSteps:=999999) -implicitDefEqProofs (disch:=omega)
 refine Qb ?_
 push_cast (maxSteps:=999999) -implicitDefEqProofs (disch:=omega)
 refine Q0 (wAdd_a h.app h0 h1 1) ?_
 rintro r σ' ⟨rfl,rfl⟩
 rw[set_app (Qe h.wd)]
 have e:=Qc (σ.set jw (.obj 0 ((addW ws a 1).map aInt))) (Res.obj 0 [AV.v (.int .i64 0),AV.v (.int .i64 0)])
 rw[List.length_set] at e
 push_cast (maxSteps:=999999) -implicitDefEqProofs (disch:=omega)[aInt,aBool,hb]
 refine Q8 (cs:=[AV.v (.int .i64 0),.v (.int .i64 0)]) rfl rfl e (by simp) ?_
 have hs2:setAtA [AV.v (.int .i64 0),AV.v (.int .i64 0)] 0 [.v (.int .i64 a),.v (.int .i64 (ldW ws a))]=[.v (.int .i64 a),.v (.int .i64 (ldW ws a))]:=rfl
 have c2:cellsA (some 2) [AV.v (.int .i64 a),.v (.int .i64 (ldW ws a))]=some (aTn a (ldW ws a)):=rfl
 rw[hs2,snoc_set (by simp)]
 have e':=snoc_at (A:=σ.set jw (.obj 0 ((addW ws a 1).map aInt))) (n:=σ.length) (x:=Res.obj 0 [AV.v (.int .i64 a),.v (.int .i64 (ldW ws a))]) (by simp)
 push_cast (maxSteps:=999999) -implicitDefEqProofs (disch:=omega)[e',c2]
 exact ⟨_,rfl⟩
theorem J92 {a n:Int} (h0:0≤a+1) (h1:a+1 < ws.length) (ha:a≤1000000):FnG Tryz.prog 216 [aTn a n,.ref js 0 0] σ fun r σ'=>r=aBool (decide (ldW ws (a+1)=n))∧σ'=σ:=by
 refine Q2 YA mixed rfl ?_
 simp only[Z25,aTn]
 push_cast (maxSteps:=999999) -implicitDefEqProofs (disch:=omega)
 refine Q3 ?_
 push_cast (maxSteps:=999999) -implicitDefEqProofs (disch:=omega)
 refine Q0 (XY h h0 h1) ?_
 rintro r σ' ⟨rfl,rfl⟩
 by_cases c:ldW ws (a+1)=n<;>(push_cast (maxSteps:=999999) -implicitDefEqProofs (disch:=omega)[aInt,aBool,c];exact trivial)
theorem J23 {a n:Int} (h0:0≤a+1) (h1:a+1 < ws.length) (ha:a≤1000000):FnG Tryz.prog 311 [aTn a n,.ref js 0 0] σ fun r σ'=>r=aBool true∧σ'=σ.set jw (.obj 0 ((stW ws (a+1) (w64 (n+1))).map aInt)):=by
 refine Q2 X91 mixed rfl ?_
 simp only[ZU,aTn]
 push_cast (maxSteps:=999999) -implicitDefEqProofs (disch:=omega)
 refine Q3 ?_
 push_cast (maxSteps:=999999) -implicitDefEqProofs (disch:=omega)
 refine Q0 (ZB h h0 h1 _) ?_
 rintro r σ' ⟨rfl,rfl⟩
 push_cast (maxSteps:=999999) -implicitDefEqProofs (disch:=omega)[aBool]
 exact trivial
end
end Go.Proofs.YtelibaobkcokdaaGreat.Mx
