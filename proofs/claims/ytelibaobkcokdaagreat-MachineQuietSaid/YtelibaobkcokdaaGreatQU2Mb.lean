/- The machine: where words are; tokens. -/
import Derived.Test.YtelibaobkcokdaaGreatQU2Ma
namespace Go.Proofs.YtelibaobkcokdaaGreat.Mx
set_option linter.unusedVariables false
set_option linter.unusedSimpArgs false
open Go Go.Kx Go.Proofs Go.Proofs.YtelibaobkcokdaaGreat
theorem ah_eq {d:Nat} {n:Option Nat} {x:Operand} {ε:AEnv} {σ:Kx.St}:SItem.aholds ⟨some d,none,.ld n x⟩ ε σ=(ldA n (evA ε x) σ=some (ε d)∧(ε d).exact=true):=
 propext ⟨fun h=>by
  rcases h with ⟨_,a,h1,h2,h3⟩|h
  ·rw[h3 d rfl];exact ⟨h1,h2⟩
  ·exact h.elim,fun h=>.inl ⟨trivial,ε d,h.1,h.2,fun e he=>by cases he;rfl⟩⟩
theorem ex_v {x:Value}:(AV.v x).exact=true:=rfl
theorem ex_ref {i v o:Nat}:(AV.ref i v o).exact=true:=rfl
attribute [push_cast] ah_eq ex_v ex_ref
def aPl (q:Pm):List AV:=[.v (.int .i64 q.W),.v (.int .i64 q.F),.v (.int .i64 q.T),.v (.int .i64 q.D)]
theorem cells4 (q:Pm):cellsA (some 4) (aPl q)=some (.agg (aPl q)):=rfl
theorem J8 (q:Pm):AV.pureL (aPl q)=true:=by simp[aPl,AV.pureL,AV.pure]
theorem pl0 (q:Pm):(aPl q)[0]?=some (.v (.int .i64 q.W)):=rfl
theorem pl1 (q:Pm):(aPl q)[1]?=some (.v (.int .i64 q.F)):=rfl
theorem pl2 (q:Pm):(aPl q)[2]?=some (.v (.int .i64 q.T)):=rfl
theorem pl3 (q:Pm):(aPl q)[3]?=some (.v (.int .i64 q.D)):=rfl
theorem ex_pl (q:Pm):(AV.agg (aPl q)).exact=true:=rfl
attribute [push_cast] ex_pl
theorem Qf (q:Pm):(AV.agg (aPl q)).cells=aPl q:=rfl
theorem Q15 (n a b:Int):FnP Tryz.prog 118 [aInt n,aInt a,aInt b] fun r=>r=aInt (cl n a b):=by
 refine Qg Y78 mixed rfl (by simp[AV.pureL,Qh]) ?_
 simp only[Xe,aInt]
 push_cast (maxSteps:=999999) -implicitDefEqProofs (disch:=omega)
 first|exact ⟨[],rfl,rfl⟩|exact ⟨[],rfl⟩
theorem cl_in {n a b:Int} (h1:a≤n) (h2:n≤b):cl n a b=n:=by unfold cl;omega
theorem eqs4 (q:Pm):PF.av (.eqs true [.int .i64,.int .i64,.int .i64,.int .i64]) [.agg (aPl q),.agg (aPl q)]=some (.v (.bool false)):=by
 show ((PF.val (.eqs true [.int .i64,.int .i64,.int .i64,.int .i64]) [.agg [.int .i64 q.W,.int .i64 q.F,.int .i64 q.T,.int .i64 q.D].toArray,.agg [.int .i64 q.W,.int .i64 q.F,.int .i64 q.T,.int .i64 q.D].toArray]).map AV.v)=_
 simp[PF.val,eqCs,eqC]
theorem X74 {q:Pm} (h:q.Ok):FnP Tryz.prog 132 [.agg (aPl q)] fun r=>r=aInt 0:=by
 refine Qg ZL mixed rfl (by simp[AV.pureL,AV.pure,J8]) ?_
 simp only[Q19]
 obtain ⟨⟨a1,a2⟩,⟨b1,b2⟩,⟨c1,c2⟩,⟨d1,d2⟩,_⟩:=h
 push_cast (maxSteps:=999999) -implicitDefEqProofs (disch:=omega)
 refine Q3 ?_
 have k:∀n a b,FnP Tryz.prog 118 [.v (.int .i64 n),.v (.int .i64 a),.v (.int .i64 b)] fun r=>r=.v (.int .i64 (cl n a b)):=Q15
 have e1:=cl_in a1 a2
 have e2:=cl_in b1 b2
 have e3:=cl_in c1 c2
 have e4:=cl_in d1 d2
 have heq:=eqs4 q
 have hs:setAtA [AV.v (.int .i64 0),AV.v (.int .i64 0),AV.v (.int .i64 0),AV.v (.int .i64 0)] 0 (aPl q)=aPl q:=rfl
 have hb:fillA [AV.v (.int .i64 0),AV.v (.int .i64 0),AV.v (.int .i64 0),AV.v (.int .i64 0)] [(0,1),(1,1),(2,1),(3,1)] [.v (.int .i64 q.W),.v (.int .i64 q.F),.v (.int .i64 q.T),.v (.int .i64 q.D)]=some (aPl q):=by simp[fillA,AV.cells,Value.cells,setAtA,aPl]
 push_cast (maxSteps:=999999) -implicitDefEqProofs (disch:=omega)[Qf,pl0,pl1,pl2,pl3]
 repeat' (first
  | (refine Q1 (k _ _ _) ?_;rintro a rfl;push_cast (maxSteps:=999999) -implicitDefEqProofs (disch:=omega)[Qf,pl0,pl1,pl2,pl3,e1,e2,e3,e4,hb])
  | (refine Qb ?_;push_cast (maxSteps:=999999) -implicitDefEqProofs (disch:=omega)[Qf,pl0,pl1,pl2,pl3,e1,e2,e3,e4,hb])
  | (refine Q8 (cs:=[AV.v (.int .i64 0),.v (.int .i64 0),.v (.int .i64 0),.v (.int .i64 0)]) (l:=aPl q) rfl rfl rfl (by simp[aPl]) ?_;rw[hs];push_cast (maxSteps:=999999) -implicitDefEqProofs (disch:=omega)[cells4,heq];exact ⟨[],rfl,rfl⟩)
  | (refine And.intro ?_ ?_))
theorem Y21 (q:Pm):(AV.agg (aPl q)).pure=true:=by rw[AV.pure,J8]
theorem Q02 {q:Pm} (h:q.Ok):FnP Tryz.prog 117 [.agg (aPl q)] fun r=>r=aBool false:=by
 refine Qg Y11 mixed rfl (by simp[AV.pureL,Y21]) ?_
 simp only[Z57]
 push_cast (maxSteps:=999999) -implicitDefEqProofs (disch:=omega)
 refine Q3 ?_
 push_cast (maxSteps:=999999) -implicitDefEqProofs (disch:=omega)[Qf,cells4]
 refine Q1 (X74 h) ?_
 rintro a rfl
 push_cast (maxSteps:=999999) -implicitDefEqProofs (disch:=omega)[aInt,aBool]
 first|exact ⟨[],rfl,rfl⟩|exact ⟨[],rfl⟩
theorem Z88 {q:Pm} (h:q.Ok):FnP Tryz.prog 119 [.agg (aPl q)] fun r=>r=aInt q.wide:=by
 refine Qg Ym mixed rfl (by simp[AV.pureL,Y21]) ?_
 simp only[Z16]
 obtain ⟨⟨a1,a2⟩,⟨b1,b2⟩,⟨c1,c2⟩,⟨d1,d2⟩,_⟩:=h
 push_cast (maxSteps:=999999) -implicitDefEqProofs (disch:=omega)
 refine Q3 ?_
 push_cast (maxSteps:=999999) -implicitDefEqProofs (disch:=omega)[Qf,pl3]
 first|exact ⟨[],rfl,rfl⟩|exact ⟨[],rfl⟩
theorem Z89 {q:Pm} (h:q.Ok):FnP Tryz.prog 133 [.agg (aPl q)] fun r=>r=aInt q.room:=by
 refine Qg Yn mixed rfl (by simp[AV.pureL,Y21]) ?_
 simp only[Z17]
 push_cast (maxSteps:=999999) -implicitDefEqProofs (disch:=omega)
 refine Q3 ?_
 push_cast (maxSteps:=999999) -implicitDefEqProofs (disch:=omega)[Qf,cells4]
 refine Q1 (Q02 h) ?_
 rintro a rfl
 obtain ⟨⟨a1,a2⟩,⟨b1,b2⟩,⟨c1,c2⟩,⟨d1,d2⟩,_⟩:=h
 push_cast (maxSteps:=999999) -implicitDefEqProofs (disch:=omega)[aBool,pl2]
 first|exact ⟨[],rfl,rfl⟩|exact ⟨[],rfl⟩
theorem mul_le {a b x y:Int} (h0:0≤a) (h1:a≤x) (k0:0≤b) (k1:b≤y):0≤a * b∧a * b≤x * y:=
 ⟨Int.mul_nonneg h0 k0,Int.le_trans (Int.mul_le_mul_of_nonneg_right h1 k0) (Int.mul_le_mul_of_nonneg_left k1 (by omega))⟩
theorem Q97 {n:Int} (h0:-9223372036854775808≤n) (h1:n≤9223372036854775807):IntKind.i64.wrap n=n:=wrap_in n h0 h1
theorem Pm.Ok.wide_in {q:Pm} (h:q.Ok):6≤q.wide∧q.wide≤260:=by
 obtain ⟨_,_,_,⟨d1,d2⟩,_⟩:=h
 unfold Pm.wide;omega
theorem Pm.Ok.room_in {q:Pm} (h:q.Ok):10≤q.room∧q.room≤262:=by
 obtain ⟨_,⟨b1,b2⟩,_⟩:=h
 unfold Pm.room;omega
theorem cl_b {n a b:Int} (h:a≤b):a≤cl n a b∧cl n a b≤b:=by unfold cl;omega
theorem Pm.Ok.base_in {q:Pm} (h:q.Ok) (w:Int):0≤q.base w∧q.base w+q.wide≤q.W * q.wide:=by
 have ⟨w1,w2⟩:=h.wide_in
 obtain ⟨⟨a1,a2⟩,_⟩:=h
 have ⟨k1,k2⟩:=cl_b (n:=w) (a:=0) (b:=q.W - 1) (by omega)
 unfold Pm.base
 have:=Int.mul_le_mul_of_nonneg_right k2 (by omega:0≤q.wide)
 rw[Int.sub_mul] at this
 exact ⟨Int.mul_nonneg k1 (by omega),by omega⟩
theorem Pm.Ok.WW {q:Pm} (h:q.Ok):0≤q.W * q.wide∧q.W * q.wide≤16640:=by
 have ⟨w1,w2⟩:=h.wide_in
 obtain ⟨⟨a1,a2⟩,_⟩:=h
 have:=mul_le (by omega:0≤q.W) a2 (by omega:0≤q.wide) w2
 omega
theorem Pm.Ok.FF {q:Pm} (h:q.Ok):0≤q.F * q.room∧q.F * q.room≤67072:=by
 have ⟨w1,w2⟩:=h.room_in
 obtain ⟨_,_,⟨a1,a2⟩,_⟩:=h
 have:=mul_le (by omega:0≤q.F) a2 (by omega:0≤q.room) w2
 omega
theorem Pm.Ok.frame_in {q:Pm} (h:q.Ok) (id:Int):q.W * q.wide≤q.frame id∧q.frame id+q.room≤q.size:=by
 have ⟨w1,w2⟩:=h.room_in
 obtain ⟨_,_,⟨a1,a2⟩,_⟩:=h
 have ⟨k1,k2⟩:=cl_b (n:=id) (a:=1) (b:=q.F) (by omega)
 unfold Pm.frame Pm.size
 have h1:=Int.mul_le_mul_of_nonneg_right k2 (by omega:0≤q.room)
 have h2:=Int.mul_nonneg (by omega:0≤cl id 1 q.F - 1) (by omega:0≤q.room)
 rw[Int.sub_mul] at h2 ⊢
 omega
theorem Pm.Ok.slot_in {q:Pm} (h:q.Ok) (w n:Int):q.base w+4≤q.slot w n∧q.slot w n < q.base w+q.wide:=by
 obtain ⟨_,_,_,⟨d1,d2⟩,_⟩:=h
 unfold Pm.slot Pm.wide
 have h1:=Int.emod_nonneg (max n 0) (by omega:q.D≠0)
 have h2:=Int.emod_lt_of_pos (max n 0) (by omega:0 < q.D)
 omega
theorem Pm.Ok.word_in {q:Pm} (h:q.Ok) (id it n:Int) (h0:0≤n) (h3:n≤3):q.frame id+2≤q.word id it n∧q.word id it n < q.frame id+q.room:=by
 obtain ⟨_,⟨b1,b2⟩,_⟩:=h
 unfold Pm.word Pm.room
 have h1:=Int.emod_nonneg (max it 0) (by omega:q.T+1≠0)
 have h2:=Int.emod_lt_of_pos (max it 0) (by omega:0 < q.T+1)
 omega
theorem Pm.Ok.size_in {q:Pm} (h:q.Ok):0≤q.size∧q.size≤83712:=by
 have h1:=h.WW
 have h2:=h.FF
 unfold Pm.size;omega
theorem J88 {q:Pm} (h:q.Ok):FnP Tryz.prog 81 [.agg (aPl q)] fun r=>r=aInt q.size:=by
 refine Qg Yl mixed rfl (by simp[AV.pureL,Y21]) ?_
 simp only[Z15]
 have ⟨u1,u2⟩:=h.WW
 have ⟨u3,u4⟩:=h.FF
 have e1:=Q97 (n:=q.W * q.wide) (by omega) (by omega)
 have e2:=Q97 (n:=q.F * q.room) (by omega) (by omega)
 have e3:=Q97 (n:=q.W * q.wide+q.F * q.room) (by omega) (by omega)
 push_cast (maxSteps:=999999) -implicitDefEqProofs (disch:=omega)
 refine Q3 ?_
 push_cast (maxSteps:=999999) -implicitDefEqProofs (disch:=omega)[Qf,cells4]
 refine Q1 (Q02 h) ?_
 rintro a rfl
 push_cast (maxSteps:=999999) -implicitDefEqProofs (disch:=omega)[aBool,cells4,pl0,pl1]
 refine Q1 (Z88 h) ?_
 rintro a rfl
 push_cast (maxSteps:=999999) -implicitDefEqProofs (disch:=omega)[aInt,cells4,pl0,pl1,e1]
 refine Q1 (Z89 h) ?_
 rintro a rfl
 push_cast (maxSteps:=999999) -implicitDefEqProofs (disch:=omega)[aInt,cells4,pl0,pl1,e1,e2,e3]
 first|exact ⟨[],rfl,rfl⟩|exact ⟨[],rfl⟩
theorem Q29 {q:Pm} (h:q.Ok) (w:Int):FnP Tryz.prog 69 [.agg (aPl q),aInt w] fun r=>r=aInt (q.base w):=by
 refine Qg Yj mixed rfl (by simp[AV.pureL,Y21,Qh]) ?_
 simp only[Z13,aInt]
 have ⟨u1,u2⟩:=h.WW
 have ⟨u3,u4⟩:=h.base_in w
 have ⟨u5,u6⟩:=h.wide_in
 have ⟨⟨a1,a2⟩,_⟩:=h
 have e1:=Q97 (n:=cl w 0 (q.W - 1) * q.wide) (by unfold Pm.base at u3;omega) (by unfold Pm.base at u4;omega)
 push_cast (maxSteps:=999999) -implicitDefEqProofs (disch:=omega)
 refine Q3 ?_
 push_cast (maxSteps:=999999) -implicitDefEqProofs (disch:=omega)[Qf,cells4]
 refine Q1 (Q02 h) ?_
 rintro a rfl
 push_cast (maxSteps:=999999) -implicitDefEqProofs (disch:=omega)[aBool,cells4,pl0,pl1]
 refine Q1 (Q15 _ _ _) ?_
 rintro a rfl
 push_cast (maxSteps:=999999) -implicitDefEqProofs (disch:=omega)[aInt,cells4,pl0,pl1]
 refine Q1 (Z88 h) ?_
 rintro a rfl
 push_cast (maxSteps:=999999) -implicitDefEqProofs (disch:=omega)[aInt,cells4,pl0,pl1,e1]
 first|exact ⟨[],rfl,rfl⟩|exact ⟨[],rfl⟩
theorem Z90 {q:Pm} (h:q.Ok) (w n:Int):FnP Tryz.prog 70 [.agg (aPl q),aInt w,aInt n] fun r=>r=aInt (q.slot w n):=by
 refine Qg Yk mixed rfl (by simp[AV.pureL,Y21,Qh]) ?_
 simp only[Z14,aInt]
 have ⟨u1,u2⟩:=h.WW
 have ⟨u3,u4⟩:=h.base_in w
 have ⟨u5,u6⟩:=h.wide_in
 have ⟨u7,u8⟩:=h.slot_in w n
 have ⟨_,_,_,⟨d1,d2⟩,_⟩:=h
 have e1:=Q97 (n:=q.base w+4+max n 0 % q.D) (by unfold Pm.slot at u7;omega) (by unfold Pm.slot at u8;omega)
 push_cast (maxSteps:=999999) -implicitDefEqProofs (disch:=omega)
 refine Q3 ?_
 push_cast (maxSteps:=999999) -implicitDefEqProofs (disch:=omega)[Qf,cells4]
 refine Q1 (Q02 h) ?_
 rintro a rfl
 push_cast (maxSteps:=999999) -implicitDefEqProofs (disch:=omega)[aBool,cells4,pl3]
 refine Q1 (Q29 h w) ?_
 rintro a rfl
 push_cast (maxSteps:=999999) -implicitDefEqProofs (disch:=omega)[aInt,cells4,pl3,e1]
 first|exact ⟨[],rfl,rfl⟩|exact ⟨[],rfl⟩
theorem Ql {q:Pm} (h:q.Ok) (id:Int):FnP Tryz.prog 137 [.agg (aPl q),aInt id] fun r=>r=aInt (q.frame id):=by
 refine Qg X84 mixed rfl (by simp[AV.pureL,Y21,Qh]) ?_
 simp only[ZM,aInt]
 have ⟨u1,u2⟩:=h.WW
 have ⟨u3,u4⟩:=h.frame_in id
 have ⟨u5,u6⟩:=h.wide_in
 have ⟨v5,v6⟩:=h.room_in
 have ⟨u7,u8⟩:=h.size_in
 have ⟨_,_,⟨d1,d2⟩,_⟩:=h
 have ⟨c1,c2⟩:=cl_b (n:=id) (a:=1) (b:=q.F) (by omega)
 have e1:=Q97 (n:=q.W * q.wide) (by omega) (by omega)
 have e2:=Q97 (n:=(cl id 1 q.F - 1) * q.room) (by unfold Pm.frame at u3;omega) (by unfold Pm.frame at u4;omega)
 have e3:=Q97 (n:=q.W * q.wide+(cl id 1 q.F - 1) * q.room) (by unfold Pm.frame at u3;omega) (by unfold Pm.frame at u4;omega)
 push_cast (maxSteps:=999999) -implicitDefEqProofs (disch:=omega)
 refine Q3 ?_
 push_cast (maxSteps:=999999) -implicitDefEqProofs (disch:=omega)[Qf,cells4]
 refine Q1 (Q02 h) ?_
 rintro a rfl
 push_cast (maxSteps:=999999) -implicitDefEqProofs (disch:=omega)[aBool,cells4,pl0,pl1]
 refine Q1 (Z88 h) ?_
 rintro a rfl
 push_cast (maxSteps:=999999) -implicitDefEqProofs (disch:=omega)[aInt,cells4,pl0,pl1,e1]
 refine Q1 (Q15 _ _ _) ?_
 rintro a rfl
 push_cast (maxSteps:=999999) -implicitDefEqProofs (disch:=omega)[aInt,cells4,pl0,pl1]
 refine Q1 (Z89 h) ?_
 rintro a rfl
 push_cast (maxSteps:=999999) -implicitDefEqProofs (disch:=omega)[aInt,cells4,pl0,pl1,e1,e2,e3]
 first|exact ⟨[],rfl,rfl⟩|exact ⟨[],rfl⟩
theorem XT {q:Pm} (h:q.Ok) (id:Int):FnP Tryz.prog 308 [.agg (aPl q),aInt id] fun r=>r=aInt (q.nap id):=by
 refine Qg Y19 mixed rfl (by simp[AV.pureL,Y21,Qh]) ?_
 simp only[Z65,aInt]
 have ⟨u1,u2⟩:=h.WW
 have ⟨u3,u4⟩:=h.frame_in id
 have ⟨v5,v6⟩:=h.room_in
 have ⟨u7,u8⟩:=h.size_in
 push_cast (maxSteps:=999999) -implicitDefEqProofs (disch:=omega)
 refine Q3 ?_
 push_cast (maxSteps:=999999) -implicitDefEqProofs (disch:=omega)[Qf,cells4]
 refine Q1 (Q02 h) ?_
 rintro a rfl
 push_cast (maxSteps:=999999) -implicitDefEqProofs (disch:=omega)[aBool,cells4]
 refine Q1 (Ql h id) ?_
 rintro a rfl
 push_cast (maxSteps:=999999) -implicitDefEqProofs (disch:=omega)[aInt]
 first|exact ⟨[],rfl,rfl⟩|exact ⟨[],rfl⟩
theorem ZA {q:Pm} (h:q.Ok) (id it n:Int) (h0:0≤n) (h3:n≤3):FnP Tryz.prog 278 [.agg (aPl q),aInt id,aInt it,aInt n] fun r=>r=aInt (q.word id it n):=by
 refine Qg Yp mixed rfl (by simp[AV.pureL,Y21,Qh]) ?_
 simp only[Z19,aInt]
 have ⟨u1,u2⟩:=h.WW
 have ⟨u3,u4⟩:=h.frame_in id
 have ⟨v5,v6⟩:=h.room_in
 have ⟨u7,u8⟩:=h.size_in
 have ⟨_,⟨d1,d2⟩,_⟩:=h
 have t1:=Int.emod_nonneg (max it 0) (by omega:q.T+1≠0)
 have t2:=Int.emod_lt_of_pos (max it 0) (by omega:0 < q.T+1)
 push_cast (maxSteps:=999999) -implicitDefEqProofs (disch:=omega)
 refine Q3 ?_
 push_cast (maxSteps:=999999) -implicitDefEqProofs (disch:=omega)[Qf,cells4]
 refine Q1 (Q02 h) ?_
 rintro a rfl
 push_cast (maxSteps:=999999) -implicitDefEqProofs (disch:=omega)[aBool,cells4,pl2]
 refine Q1 (Ql h id) ?_
 rintro a rfl
 push_cast (maxSteps:=999999) -implicitDefEqProofs (disch:=omega)[aInt,pl2]
 first|exact ⟨[],rfl,rfl⟩|exact ⟨[],rfl⟩
theorem Xl {q:Pm} (h:q.Ok) (id it:Int):FnP Tryz.prog 235 [.agg (aPl q),aInt id,aInt it] fun r=>r=aInt (q.word id it 0):=by
 refine Qg XP mixed rfl (by simp[AV.pureL,Y21,Qh]) ?_
 simp only[Q69,aInt]
 push_cast (maxSteps:=999999) -implicitDefEqProofs (disch:=omega)
 refine Q3 ?_
 push_cast (maxSteps:=999999) -implicitDefEqProofs (disch:=omega)[Qf,cells4]
 refine Q1 (ZA h id it 0 (by decide) (by decide)) ?_
 rintro a rfl
 push_cast (maxSteps:=999999) -implicitDefEqProofs (disch:=omega)[aInt]
 first|exact ⟨[],rfl,rfl⟩|exact ⟨[],rfl⟩
theorem ZQ {q:Pm} (h:q.Ok) (id it:Int):FnP Tryz.prog 282 [.agg (aPl q),aInt id,aInt it] fun r=>r=aInt (q.word id it 1):=by
 refine Qg X33 mixed rfl (by simp[AV.pureL,Y21,Qh]) ?_
 simp only[Q95,aInt]
 push_cast (maxSteps:=999999) -implicitDefEqProofs (disch:=omega)
 refine Q3 ?_
 push_cast (maxSteps:=999999) -implicitDefEqProofs (disch:=omega)[Qf,cells4]
 refine Q1 (ZA h id it 1 (by decide) (by decide)) ?_
 rintro a rfl
 push_cast (maxSteps:=999999) -implicitDefEqProofs (disch:=omega)[aInt]
 first|exact ⟨[],rfl,rfl⟩|exact ⟨[],rfl⟩
theorem Yv {q:Pm} (h:q.Ok) (id it:Int):FnP Tryz.prog 284 [.agg (aPl q),aInt id,aInt it] fun r=>r=aInt (q.word id it 2):=by
 refine Qg Yr mixed rfl (by simp[AV.pureL,Y21,Qh]) ?_
 simp only[Z20,aInt]
 push_cast (maxSteps:=999999) -implicitDefEqProofs (disch:=omega)
 refine Q3 ?_
 push_cast (maxSteps:=999999) -implicitDefEqProofs (disch:=omega)[Qf,cells4]
 refine Q1 (ZA h id it 2 (by decide) (by decide)) ?_
 rintro a rfl
 push_cast (maxSteps:=999999) -implicitDefEqProofs (disch:=omega)[aInt]
 first|exact ⟨[],rfl,rfl⟩|exact ⟨[],rfl⟩
theorem Yw {q:Pm} (h:q.Ok) (id it:Int):FnP Tryz.prog 291 [.agg (aPl q),aInt id,aInt it] fun r=>r=aInt (q.word id it 3):=by
 refine Qg Yt mixed rfl (by simp[AV.pureL,Y21,Qh]) ?_
 simp only[Z22,aInt]
 push_cast (maxSteps:=999999) -implicitDefEqProofs (disch:=omega)
 refine Q3 ?_
 push_cast (maxSteps:=999999) -implicitDefEqProofs (disch:=omega)[Qf,cells4]
 refine Q1 (ZA h id it 3 (by decide) (by decide)) ?_
 rintro a rfl
 push_cast (maxSteps:=999999) -implicitDefEqProofs (disch:=omega)[aInt]
 first|exact ⟨[],rfl,rfl⟩|exact ⟨[],rfl⟩
end Go.Proofs.YtelibaobkcokdaaGreat.Mx
