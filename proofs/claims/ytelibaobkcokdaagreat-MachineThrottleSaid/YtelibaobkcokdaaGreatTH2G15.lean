/- The machine: deques, access by access. -/
import Derived.Test.YtelibaobkcokdaaGreatTH2G14
namespace Go.Proofs.YtelibaobkcokdaaGreat.Mx
set_option linter.unusedSectionVars false
set_option linter.unusedVariables false
set_option linter.unusedSimpArgs false
open Go Go.Kx Go.Proofs Go.Proofs.YtelibaobkcokdaaGreat
set_option maxRecDepth 8000
theorem gs_eq {σ:Kx.St} {i:Nat} {r:Res} (h:i < σ.length):(σ.set i r)[i]?=some r:=List.getElem?_set_self h
theorem gs_ne {σ:Kx.St} {i j:Nat} {r:Res} (h:i≠j):(σ.set i r)[j]?=σ[j]?:=List.getElem?_set_ne h
theorem set3 {σ:Kx.St} {a b:Nat} {x y z:Res} (h:a≠b):((σ.set a x).set b y).set a z=(σ.set b y).set a z:=by rw[List.set_comm _ _ h,List.set_set]
theorem gs_eq2 {σ:Kx.St} {i j:Nat} {r x:Res} (h:i < σ.length):((σ.set j x).set i r)[i]?=some r:=List.getElem?_set_self ey
theorem gs_eq3 {σ:Kx.St} {i j k:Nat} {r x y:Res} (h:i < σ.length):(((σ.set k y).set j x).set i r)[i]?=some r:=List.getElem?_set_self ey
attribute [push_cast] gs_eq gs_ne gs_eq2 gs_eq3
def aDN (jd:Nat):DN→AV
 | .nil=>.v .nilFunc
 | .room=>.fn (.func 277) 1 [.ref jd 0 0]
 | .lay=>.fn (.func 303) 1 [.ref jd 0 0]
 | .grow=>.fn (.func 314) 1 [.ref jd 0 0]
 | .less=>.fn (.func 273) 1 [.ref jd 0 0]
 | .looks=>.fn (.func 301) 1 [.ref jd 0 0]
 | .takes=>.fn (.func 312) 1 [.ref jd 0 0]
 | .restores=>.fn (.func 313) 1 [.ref jd 0 0]
 | .askL=>.fn (.func 213) 0 [.ep [.ref jd 0 0],.ep [.fn (.func 316) 1 [.ref jd 0 0]]]
 | .mineL=>.fn (.func 215) 0 [.ep [.ref jd 0 0],.ep [.fn (.func 316) 1 [.ref jd 0 0]]]
 | .lessAgain=>.fn (.func 316) 1 [.ref jd 0 0]
 | .looksAgain=>.fn (.func 317) 1 [.ref jd 0 0]
 | .leaveT=>.fn (.func 310) 0 [.ep [.ref jd 0 0],.ep [.fn (.func 312) 1 [.ref jd 0 0]]]
 | .backP=>.fn (.func 318) 0 [.ep [.ref jd 0 0]]
 | .leaveN=>.fn (.func 310) 0 [.ep [.ref jd 0 0],.ep [.v .nilFunc]]
 | .askF=>.fn (.func 213) 0 [.ep [.ref jd 0 0],.ep [.fn (.func 140) 1 [.ref jd 0 0]]]
 | .mineF=>.fn (.func 215) 0 [.ep [.ref jd 0 0],.ep [.fn (.func 140) 1 [.ref jd 0 0]]]
 | .first=>.fn (.func 140) 1 [.ref jd 0 0]
 | .claims=>.fn (.func 218) 1 [.ref jd 0 0]
 | .finds=>.fn (.func 270) 1 [.ref jd 0 0]
 | .backS=>.fn (.func 299) 0 [.ep [.ref jd 0 0]]
 | .carries=>.fn (.func 298) 1 [.ref jd 0 0]
def aDqN (q:Pm) (d:Dq) (nx:AV):List AV:=
 [.v (.int .i64 q.W),.v (.int .i64 q.F),.v (.int .i64 q.T),.v (.int .i64 q.D),.v (.int .i64 d.who),.v (.int .i64 d.t),.v (.int .i64 d.x),.v (.int .i64 d.h),.v (.int .i64 d.ta),.v (.int .i64 d.tn),nx,.v (.bool d.got),.v (.bool d.full)]
def aDq (q:Pm) (jd:Nat) (d:Dq):List AV:=aDqN q d (aDN jd d.nx)
section
variable (q:Pm) (d:Dq) (nx:AV)
theorem dqi3:(aDqN q d nx)[3]?=some (.v (.int .i64 q.D)):=(rfl)
theorem dqi4:(aDqN q d nx)[4]?=some (.v (.int .i64 d.who)):=(rfl)
theorem dqi5:(aDqN q d nx)[5]?=some (.v (.int .i64 d.t)):=(rfl)
theorem dqi6:(aDqN q d nx)[6]?=some (.v (.int .i64 d.x)):=(rfl)
theorem dqi7:(aDqN q d nx)[7]?=some (.v (.int .i64 d.h)):=(rfl)
theorem dqi8:(aDqN q d nx)[8]?=some (.v (.int .i64 d.ta)):=(rfl)
theorem dqi9:(aDqN q d nx)[9]?=some (.v (.int .i64 d.tn)):=(rfl)
theorem dqi10:(aDqN q d nx)[10]?=some nx:=(rfl)
theorem dqi11:(aDqN q d nx)[11]?=some (.v (.bool d.got)):=(rfl)
theorem dqi12:(aDqN q d nx)[12]?=some (.v (.bool d.full)):=(rfl)
theorem dqc4:cellsA (some 4) (aDqN q d nx)=some (.agg (aPl q)):=(rfl)
theorem dqc2:cellsA (some 2) ((aDqN q d nx).drop 8)=some (aTn d.ta d.tn):=(rfl)
theorem dqs5 (n:Int):(aDqN q d nx).set 5 (.v (.int .i64 n))=aDqN q { d with t:=n } nx:=(rfl)
theorem dqs6 (n:Int):(aDqN q d nx).set 6 (.v (.int .i64 n))=aDqN q { d with x:=n } nx:=(rfl)
theorem dqs7 (n:Int):(aDqN q d nx).set 7 (.v (.int .i64 n))=aDqN q { d with h:=n } nx:=(rfl)
theorem dqs8 (a n:Int):setAtA (aDqN q d nx) 8 [.v (.int .i64 a),.v (.int .i64 n)]=aDqN q { d with ta:=a,tn:=n } nx:=(rfl)
theorem dqs10 (n:AV):(aDqN q d nx).set 10 n=aDqN q d n:=(rfl)
theorem dqs11 (n:Bool):(aDqN q d nx).set 11 (.v (.bool n))=aDqN q { d with got:=n } nx:=(rfl)
theorem dqs12 (n:Bool):(aDqN q d nx).set 12 (.v (.bool n))=aDqN q { d with full:=n } nx:=(rfl)
theorem Qx:(aDqN q d nx).length=13:=(rfl)
end
attribute [push_cast] dqi3 dqi4 dqi5 dqi6 dqi7 dqi8 dqi9 dqi10 dqi11 dqi12 dqc4 dqc2 dqs5 dqs6 dqs7 dqs8 dqs10 dqs11 dqs12 Qx
theorem ex_tn (a n:Int):(aTn a n).exact=true:=(rfl)
attribute [push_cast] ex_tn
def DqOk (q:Pm) (d:Dq):Prop:=d.ta=0∨d.ta=q.base d.who+2
section
variable {q:Pm} {σ:Kx.St} {jd js jw:Nat} {d:Dq} {nx:AV} {ws:List Int} (hq:q.Ok) (hd:σ[jd]?=some (.obj 0 (aDqN q d nx))) (h:Wd σ js jw ws) (hl:(ws.length:Int)=q.size) (n1:jd≠js) (n2:jd≠jw)
include hq hd h hl n1 n2
theorem base_lt {k:Int} (h0:0≤k) (h3:k≤3):0≤q.base d.who+k∧q.base d.who+k < ws.length:=by have ⟨a1,a2⟩:=hq.base_in d.who;have ⟨b1,b2⟩:=hq.wide_in;have ⟨c1,c2⟩:=hq.FF;have e:q.size=q.W * q.wide+q.F * q.room:=rfl;omega
theorem slot_lt (n:Int):0≤q.slot d.who n∧q.slot d.who n < ws.length:=by have ⟨a1,a2⟩:=hq.base_in d.who;have ⟨b1,b2⟩:=hq.slot_in d.who n;have ⟨c1,c2⟩:=hq.FF;have e:q.size=q.W * q.wide+q.F * q.room:=rfl;omega
theorem turn_lt (ho:DqOk q d):0≤d.ta+1∧d.ta+1 < ws.length∧d.ta≤1000000:=by have ⟨a1,a2⟩:=hq.base_in d.who;have ⟨b1,b2⟩:=hq.wide_in;have ⟨c1,c2⟩:=hq.FF;have ⟨w1,w2⟩:=hq.WW;have ⟨x1,x2⟩:=hq.1;have e:q.size=q.W * q.wide+q.F * q.room:=rfl;rcases ho with ho|ho<;>omega
theorem Xu {k:Int} (h0:0≤k) (h3:k≤3):FnG Tryz.prog 217 [.ref jd 0 0,.ref js 0 0,.v (.int .i64 k)] σ fun a σ'=>a=aInt (ldW ws (q.base d.who+k))∧σ'=σ:=by refine Q3 Z67.2 mixed rfl ?_;simp only[Z67,qH];have ⟨b1,b2⟩:=base_lt hq hd h hl n1 n2 h0 h3;have ⟨a1,a2⟩:=hq.base_in d.who;have ⟨s1,s2⟩:=hq.size_in;push_cast (disch:=omega)[hd];refine Q5 (Q37 hq d.who) ?_;push_cast (disch:=omega)[aInt,hd];refine Q4 (Xt h b1 b2) ?_;push_cast (disch:=omega)[aInt,aBool,hd];exact trivial
theorem Z82 {k:Int} (h0:0≤k) (h3:k≤3) (v:Int):FnG Tryz.prog 269 [.ref jd 0 0,.ref js 0 0,.v (.int .i64 k),.v (.int .i64 v)] σ fun _ σ'=>σ'=σ.set jw (.obj 0 ((stW ws (q.base d.who+k) v).map aInt)):=by refine Q3 Z99.2 mixed rfl ?_;simp only[Z99,qH];have ⟨b1,b2⟩:=base_lt hq hd h hl n1 n2 h0 h3;have ⟨a1,a2⟩:=hq.base_in d.who;have ⟨s1,s2⟩:=hq.size_in;push_cast (disch:=omega)[hd];refine Q5 (Q37 hq d.who) ?_;push_cast (disch:=omega)[aInt,hd];refine Q4 (Zx h b1 b2 v) ?_;push_cast (disch:=omega);exact trivial
omit hq h hl n1 n2 in
theorem Y84:FnG Tryz.prog 302 [.ref jd 0 0] σ fun _ σ'=>σ'=σ.set jd (.obj 0 (aDqN q d (.v .nilFunc))):=by refine Q3 X0.2 mixed rfl ?_;simp only[X0,qH];push_cast[hd];refine Q9 rfl rfl hd eK ?_;push_cast;exact trivial
end
section
variable {q:Pm} {σ:Kx.St} {jd js jw:Nat} {d:Dq} {nx:AV} {ws:List Int} (hq:q.Ok) (hd:σ[jd]?=some (.obj 0 (aDqN q d nx))) (h:Wd σ js jw ws) (hl:(ws.length:Int)=q.size) (n1:jd≠js) (n2:jd≠jw)
include hq hd h hl n1 n2
theorem dq_lay_a:FnG Tryz.prog 303 [.ref jd 0 0,.ref js 0 0] σ fun _ σ'=>σ'=(σ.set jw (.obj 0 ((stW ws (q.slot d.who d.t) d.x).map aInt))).set jd (.obj 0 (aDqN q d (aDN jd .grow))):=by refine Q3 X9.2 mixed rfl ?_;simp only[X9,qH];have hld:=Qh hd;have hlw:=Qh h.wd;have ⟨b1,b2⟩:=slot_lt hq hd h hl n1 n2 d.t;push_cast[hd];refine Q5 (Z79 hq d.who d.t) ?_;push_cast[aInt,hd];refine Q4 (Zx h b1 b2 d.x) ?_;push_cast[hd];refine Q9 rfl rfl (Qa n2.symm hd) eK ?_;push_cast;exact oa
theorem dq_less_a:FnG Tryz.prog 273 [.ref jd 0 0,.ref js 0 0] σ fun _ σ'=>σ'=(σ.set jw (.obj 0 ((stW ws (q.base d.who+1) (w64 (d.t - 1))).map aInt))).set jd (.obj 0 (aDqN q d (aDN jd .looks))):=by refine Q3 Z68.2 mixed rfl ?_;simp only[Z68,qH];have hld:=Qh hd;have hlw:=Qh h.wd;push_cast[hd];refine Q0 (Z82 hq hd h hl n1 n2 (k:=1) ko ko _) ?_;rintro a σ' rfl;push_cast[hd];refine Q9 rfl rfl (Qa n2.symm hd) eK ?_;push_cast;exact oa
theorem Y22:FnG Tryz.prog 316 [.ref jd 0 0,.ref js 0 0] σ fun _ σ'=>σ'=(σ.set jw (.obj 0 ((stW ws (q.base d.who+1) (w64 (d.t - 1))).map aInt))).set jd (.obj 0 (aDqN q d (aDN jd .looksAgain))):=by refine Q3 Q53.2 mixed rfl ?_;simp only[Q53,qH];have hld:=Qh hd;have hlw:=Qh h.wd;push_cast[hd];refine Q0 (Z82 hq hd h hl n1 n2 (k:=1) ko ko _) ?_;rintro a σ' rfl;push_cast[hd];refine Q9 rfl rfl (Qa n2.symm hd) eK ?_;push_cast;exact oa
theorem dq_claims_a:FnG Tryz.prog 218 [.ref jd 0 0,.ref js 0 0] σ fun _ σ'=>σ'=(σ.set jw (.obj 0 ((stW ws (q.base d.who) (w64 (d.h+1))).map aInt))).set jd (.obj 0 (aDqN q d (aDN jd .finds))):=by
 refine Q3 ZO.2 mixed rfl ?_;simp only[ZO,qH];have hld:=Qh hd;have hlw:=Qh h.wd;have e0:q.base d.who=q.base d.who+0:=by omega
 rw[e0];push_cast[hd];refine Q0 (Z82 hq hd h hl n1 n2 (k:=0) ko ko _) ?_;rintro a σ' rfl;push_cast[hd];refine Q9 rfl rfl (Qa n2.symm hd) eK ?_;push_cast;exact oa
theorem dq_grow_a:FnG Tryz.prog 314 [.ref jd 0 0,.ref js 0 0] σ fun _ σ'=>σ'=(σ.set jw (.obj 0 ((stW ws (q.base d.who+1) (w64 (d.t+1))).map aInt))).set jd (.obj 0 (aDqN q { d with t:=w64 (d.t+1) } (.v .nilFunc))):=by refine Q3 Z70.2 mixed rfl ?_;simp only[Z70,qH];have hld:=Qh hd;have hlw:=Qh h.wd;push_cast (disch:=omega)[hd];refine Q9 rfl rfl hd eK ?_;push_cast (disch:=omega);have hd1:(σ.set jd (.obj 0 (aDqN q { d with t:=w64 (d.t+1) } nx)))[jd]?=some (.obj 0 (aDqN q { d with t:=w64 (d.t+1) } nx)):=Qb hd;refine Q0 (Z82 (d:={ d with t:=w64 (d.t+1) }) hq hd1 (h.setOther n1 n2) hl n1 n2 (k:=1) ko ko _) ?_;rintro a σ' rfl;push_cast (disch:=omega);refine Q0 (Y84 (q:=q) (d:={ d with t:=w64 (d.t+1) }) (nx:=nx) (Qa n2.symm hd1)) ?_;rintro a σ' rfl;push_cast (disch:=omega);exact set3 n2
theorem dq_looks_a:FnG Tryz.prog 301 [.ref jd 0 0,.ref js 0 0] σ fun _ σ'=>σ'=if ldW ws (q.base d.who)≤w64 (d.t - 1) then σ.set jd (.obj 0 (aDqN q d (aDN jd .takes))) else σ.set jd (.obj 0 (aDqN q d (aDN jd .restores))):=by
 refine Q3 Z23.2 mixed rfl ?_;simp only[Z23,qH];have hld:=Qh hd;have hlw:=Qh h.wd;have e0:q.base d.who=q.base d.who+0:=by omega
 rw[e0];push_cast[hd];refine Q4 (Xu hq hd h hl n1 n2 (k:=0) ko ko) ?_;by_cases c:ldW ws (q.base d.who+0)≤w64 (d.t - 1)
 ·rw[if_pos c];push_cast[aInt,c,hd];refine Q9 rfl rfl hd eK ?_;push_cast;exact oa
 ·rw[if_neg c];push_cast[aInt,c,hd];refine Q9 rfl rfl hd eK ?_;push_cast;exact oa
omit hq hd h hl n1 n2 in
theorem Z83 (th:AV) (hc:th.cells=[th]):FnG Tryz.prog 300 [.ref jd 0 0,th] σ fun a σ'=>a=.fn (.func 310) 0 [.ep [.ref jd 0 0],.ep [th]]∧σ'=σ:=by refine Q3 ZP.2 mixed rfl ?_;simp only[ZP,qH];push_cast;refine Q6 ?_;push_cast;refine Q6 ?_;push_cast[hc];exact trivial
omit hq hd h hl n1 n2 in
theorem dq_asks_a (th:AV) (hc:th.cells=[th]):FnG Tryz.prog 139 [.ref jd 0 0,th] σ fun a σ'=>a=.fn (.func 213) 0 [.ep [.ref jd 0 0],.ep [th]]∧σ'=σ:=by refine Q3 Z64.2 mixed rfl ?_;simp only[Z64,qH];push_cast;refine Q6 ?_;push_cast;refine Q6 ?_;push_cast[hc];exact trivial
theorem Y85:FnG Tryz.prog 313 [.ref jd 0 0,.ref js 0 0] σ fun _ σ'=>σ'=(σ.set jw (.obj 0 ((stW ws (q.base d.who+1) d.t).map aInt))).set jd (.obj 0 (aDqN q d (aDN jd .askL))):=by refine Q3 Q76.2 mixed rfl ?_;simp only[Q76,qH];have hld:=Qh hd;have hlw:=Qh h.wd;push_cast[hd];refine Q0 (Z82 hq hd h hl n1 n2 (k:=1) ko ko _) ?_;rintro a σ' rfl;push_cast[hd];refine Q4 (dq_asks_a _ rfl) ?_;push_cast;refine Q9 rfl rfl (Qa n2.symm hd) eK ?_;push_cast;exact oa
theorem dq_ask1_a (th:AV):FnG Tryz.prog 213 [.ref js 0 0,.ep [.ref jd 0 0],.ep [th]] σ fun _ σ'=>σ'=(σ.set jw (.obj 0 ((addW ws (q.base d.who+2) 1).map aInt))).set jd (.obj 0 (aDqN q { d with ta:=q.base d.who+2,tn:=ldW ws (q.base d.who+2) } (.fn (.func 215) 0 [.ep [.ref jd 0 0],.ep [th]]))):=by refine Q3 ZN.2 mixed rfl ?_;simp only[ZN,qH];have hld:=Qh hd;have hlw:=Qh h.wd;have ⟨b1,b2⟩:=base_lt hq hd h hl n1 n2 (k:=2) ko ko;have ⟨a1,a2⟩:=hq.base_in d.who;have ⟨s1,s2⟩:=hq.size_in;push_cast (disch:=omega)[hd];refine Q5 (Q37 hq d.who) ?_;push_cast (disch:=omega)[aInt,hd];refine Q4 (ticket_Ask_a h b1 b2) ?_;push_cast (disch:=omega)[aTn];refine Qd rfl rfl (Qa n2.symm hd) eK ?_;push_cast (disch:=omega);refine Q9 rfl rfl (Qb (Qa n2.symm hd)) eK ?_;push_cast (disch:=omega);exact List.set_set ..
theorem Y46 (th:AV) (hc1:th.cells=[th]) (hc2:th.one=true) (ho:DqOk q d):FnG Tryz.prog 215 [.ref js 0 0,.ep [.ref jd 0 0],.ep [th]] σ fun _ σ'=>σ'=if ldW ws (d.ta+1)=d.tn then σ.set jd (.obj 0 (aDqN q d th)) else σ:=by
 refine Q3 Q74.2 mixed rfl ?_;simp only[Q74,qH];have hld:=Qh hd;have hlw:=Qh h.wd;have ⟨b1,b2,b3⟩:=turn_lt hq hd h hl n1 n2 ho;push_cast[hd];refine Q4 (Y83 h b1 b2 b3) ?_;by_cases c:ldW ws (d.ta+1)=d.tn
 ·rw[if_pos c];push_cast[aBool,c,hd];refine Q9 hc1 hc2 hd eK ?_;push_cast;exact oa
 ·rw[if_neg c];push_cast[aBool,c,hd];exact trivial
theorem YL (th:AV) (hc1:th.cells=[th]) (hc2:th.one=true) (ho:DqOk q d):FnG Tryz.prog 310 [.ref js 0 0,.ep [.ref jd 0 0],.ep [th]] σ fun _ σ'=>σ'=(σ.set jw (.obj 0 ((stW ws (d.ta+1) (w64 (d.tn+1))).map aInt))).set jd (.obj 0 (aDqN q d th)):=by refine Q3 Q75.2 mixed rfl ?_;simp only[Q75,qH];have hld:=Qh hd;have hlw:=Qh h.wd;have ⟨b1,b2,b3⟩:=turn_lt hq hd h hl n1 n2 ho;push_cast[hd];refine Q4 (Y21 h b1 b2 b3) ?_;push_cast[hd];refine Q9 hc1 hc2 (Qa n2.symm hd) eK ?_;push_cast;exact oa
theorem dq_backP_a:FnG Tryz.prog 318 [.ref js 0 0,.ep [.ref jd 0 0]] σ fun _ σ'=>σ'=(σ.set jw (.obj 0 ((stW ws (q.base d.who+1) d.t).map aInt))).set jd (.obj 0 (aDqN q d (aDN jd .leaveN))):=by refine Q3 Q24.2 mixed rfl ?_;simp only[Q24,qH];have hld:=Qh hd;have hlw:=Qh h.wd;push_cast[hd];refine Q0 (Z82 hq hd h hl n1 n2 (k:=1) ko ko _) ?_;rintro a σ' rfl;push_cast[hd];refine Q4 (Z83 _ rfl) ?_;push_cast;refine Q9 rfl rfl (Qa n2.symm hd) eK ?_;push_cast;exact oa
theorem dq_backS_a:FnG Tryz.prog 299 [.ref js 0 0,.ep [.ref jd 0 0]] σ fun _ σ'=>σ'=(σ.set jw (.obj 0 ((stW ws (q.base d.who) d.h).map aInt))).set jd (.obj 0 (aDqN q d (aDN jd .leaveN))):=by
 refine Q3 Q97.2 mixed rfl ?_;simp only[Q97,qH];have hld:=Qh hd;have hlw:=Qh h.wd;have e0:q.base d.who=q.base d.who+0:=by omega
 rw[e0];push_cast[hd];refine Q0 (Z82 hq hd h hl n1 n2 (k:=0) ko ko _) ?_;rintro a σ' rfl;push_cast[hd];refine Q4 (Z83 _ rfl) ?_;push_cast;refine Q9 rfl rfl (Qa n2.symm hd) eK ?_;push_cast;exact oa
theorem YM:FnG Tryz.prog 317 [.ref jd 0 0,.ref js 0 0] σ fun _ σ'=>σ'=if ldW ws (q.base d.who)≤w64 (d.t - 1) then σ.set jd (.obj 0 (aDqN q d (aDN jd .leaveT))) else σ.set jd (.obj 0 (aDqN q d (aDN jd .backP))):=by
 refine Q3 Q38.2 mixed rfl ?_;simp only[Q38,qH];have hld:=Qh hd;have hlw:=Qh h.wd;have e0:q.base d.who=q.base d.who+0:=by omega
 rw[e0];push_cast;refine Q6 ?_;push_cast[hd];refine Q4 (Xu hq hd h hl n1 n2 (k:=0) ko ko) ?_;by_cases c:ldW ws (q.base d.who+0)≤w64 (d.t - 1)
 ·rw[if_pos c];push_cast[aInt,c,hd];refine Q4 (Z83 _ rfl) ?_;push_cast[hd];refine Q9 rfl rfl hd eK ?_;push_cast;exact oa
 ·rw[if_neg c];push_cast[aInt,c,hd];refine Q9 rfl rfl hd eK ?_;push_cast;exact oa
theorem dq_finds_a:FnG Tryz.prog 270 [.ref jd 0 0,.ref js 0 0] σ fun _ σ'=>σ'=if w64 (d.h+1)≤ldW ws (q.base d.who+1) then σ.set jd (.obj 0 (aDqN q d (aDN jd .carries))) else σ.set jd (.obj 0 (aDqN q d (aDN jd .backS))):=by
 refine Q3 Z22.2 mixed rfl ?_;simp only[Z22,qH];have hld:=Qh hd;have hlw:=Qh h.wd;push_cast;refine Q6 ?_;push_cast[hd];refine Q4 (Xu hq hd h hl n1 n2 (k:=1) ko ko) ?_;by_cases c:w64 (d.h+1)≤ldW ws (q.base d.who+1)
 ·rw[if_pos c];push_cast[aInt,c,hd];refine Q9 rfl rfl hd eK ?_;push_cast;exact oa
 ·rw[if_neg c];push_cast[aInt,c,hd];refine Q9 rfl rfl hd eK ?_;push_cast;exact oa
theorem dq_first_a:FnG Tryz.prog 140 [.ref jd 0 0,.ref js 0 0] σ fun _ σ'=>σ'=σ.set jd (.obj 0 (aDqN q { d with h:=ldW ws (q.base d.who) } (aDN jd .claims))):=by
 refine Q3 Z19.2 mixed rfl ?_;simp only[Z19,qH];have hld:=Qh hd;have hlw:=Qh h.wd;have e0:q.base d.who=q.base d.who+0:=by omega
 rw[e0];push_cast[hd];refine Q4 (Xu hq hd h hl n1 n2 (k:=0) ko ko) ?_;push_cast[aInt];refine Q9 rfl rfl hd eK ?_;push_cast;refine Q9 rfl rfl (Qb hd) eK ?_;push_cast;exact List.set_set ..
theorem dq_takes_a:FnG Tryz.prog 312 [.ref jd 0 0,.ref js 0 0] σ fun _ σ'=>σ'=σ.set jd (.obj 0 (aDqN q { d with t:=w64 (d.t - 1),x:=ldW ws (q.slot d.who (w64 (d.t - 1))),got:=true } (.v .nilFunc))):=by refine Q3 Z24.2 mixed rfl ?_;simp only[Z24,qH];have hld:=Qh hd;have hlw:=Qh h.wd;have ⟨b1,b2⟩:=slot_lt hq hd h hl n1 n2 (w64 (d.t - 1));push_cast (disch:=omega)[hd];refine Q9 rfl rfl hd eK ?_;push_cast (disch:=omega);refine Q5 (Z79 hq d.who (w64 (d.t - 1))) ?_;push_cast (disch:=omega)[aInt];refine Q4 (Xt (h.setOther n1 n2) b1 b2) ?_;push_cast (disch:=omega)[aInt,aBool];refine Q9 rfl rfl (Qb hd) eK ?_;push_cast (disch:=omega);refine Q9 rfl rfl (Qb (Qb hd)) eK ?_;push_cast (disch:=omega);refine Q0 (Y84 (Qb (Qb (Qb hd)))) ?_;rintro a σ' rfl;push_cast (disch:=omega)[List.set_set];exact trivial
theorem dq_carries_a:FnG Tryz.prog 298 [.ref jd 0 0,.ref js 0 0] σ fun _ σ'=>σ'=σ.set jd (.obj 0 (aDqN q { d with x:=ldW ws (q.slot d.who d.h),got:=true } (aDN jd .leaveN))):=by refine Q3 Q96.2 mixed rfl ?_;simp only[Q96,qH];have hld:=Qh hd;have hlw:=Qh h.wd;have ⟨b1,b2⟩:=slot_lt hq hd h hl n1 n2 d.h;push_cast[hd];refine Q5 (Z79 hq d.who d.h) ?_;push_cast[aInt];refine Q4 (Xt h b1 b2) ?_;push_cast[aInt,aBool];refine Q9 rfl rfl hd eK ?_;push_cast;refine Q9 rfl rfl (Qb hd) eK ?_;push_cast;refine Q4 (Z83 _ rfl) ?_;push_cast;refine Q9 rfl rfl (Qb (Qb hd)) eK ?_;push_cast[List.set_set];exact oa
theorem dq_room_a:FnG Tryz.prog 277 [.ref jd 0 0,.ref js 0 0] σ fun _ σ'=>σ'=if q.D - 1≤w64 (d.t - ldW ws (q.base d.who)) then σ.set jd (.obj 0 (aDqN q { d with full:=true } (.v .nilFunc))) else σ.set jd (.obj 0 (aDqN q d (aDN jd .lay))):=by
 refine Q3 Z69.2 mixed rfl ?_;simp only[Z69,qH];have hld:=Qh hd;have hlw:=Qh h.wd;have ⟨_,_,_,⟨d1,d2⟩,_⟩:=hq;have e0:q.base d.who=q.base d.who+0:=by omega
 rw[e0];push_cast (disch:=omega)[hd];refine Q4 (Xu hq hd h hl n1 n2 (k:=0) ko ko) ?_;by_cases c:q.D - 1≤w64 (d.t - ldW ws (q.base d.who+0))
 ·rw[if_pos c];push_cast (disch:=omega)[aInt,c,hd];refine Q9 rfl rfl hd eK ?_;push_cast (disch:=omega);refine Q0 (Y84 (Qb hd)) ?_;rintro a σ' rfl;push_cast (disch:=omega)[List.set_set];exact trivial
 ·rw[if_neg c];push_cast (disch:=omega)[aInt,c,hd];refine Q9 rfl rfl hd eK ?_;push_cast (disch:=omega);exact oa
end
theorem aDN_cases (jd:Nat) (n:DN):(n=.nil∧aDN jd n=.v .nilFunc)∨(n≠.nil∧∃f k xs,aDN jd n=.fn f k xs):=by cases n<;>first|exact .inl ⟨rfl,rfl⟩|exact .inr ⟨by simp,_,_,_,rfl⟩
theorem dq_nil (q:Pm) (d:Dq) (ws:List Int) (h:d.nx=.nil):dqNext q d ws=(d,ws):=by simp[dqNext,h]
section
variable {q:Pm} {σ:Kx.St} {jd js jw:Nat} {d:Dq} {ws:List Int} (hd:σ[jd]?=some (.obj 0 (aDq q jd d)))
include hd
theorem XK:FnG Tryz.prog 141 [.ref jd 0 0] σ fun a σ'=>a=aBool d.ended∧σ'=σ:=by
 refine Q3 Z20.2 mixed rfl ?_;simp only[Z20,qH];unfold aDq at hd;rcases aDN_cases jd d.nx with ⟨h1,h2⟩|⟨h1,f,k,xs,h2⟩
 ·have e:d.ended=true:=by simp[Dq.ended,h1]
  rw[e];rw[h2] at hd;push_cast[hd,aBool];exact trivial
 ·have e:d.ended=false:=by simp[Dq.ended,h1]
  rw[e];rw[h2] at hd;push_cast[hd,aBool];exact trivial
theorem dq_Got_a:FnG Tryz.prog 142 [.ref jd 0 0] σ fun a σ'=>a=.tup [aInt d.gets.1,aBool d.gets.2]∧σ'=σ:=by
 refine Q3 Z98.2 mixed rfl ?_;simp only[Z98,qH];push_cast (maxSteps:=999999) -implicitDefEqProofs (disch:=omega);refine Q4 (XK hd) ?_;unfold aDq at hd;by_cases h1:d.nx=.nil
 ·have e:d.ended=true:=by simp[Dq.ended,h1]
  rw[e]
  cases hg:d.got with
  | true=>
   have e2:d.gets=(d.x,true):=by simp[Dq.gets,h1,hg]
   rw[e2];push_cast (maxSteps:=999999) -implicitDefEqProofs (disch:=omega)[hd,aBool,aInt,hg];exact trivial
  | false=>
   have e2:d.gets=(0,false):=by simp[Dq.gets,hg]
   rw[e2];push_cast (maxSteps:=999999) -implicitDefEqProofs (disch:=omega)[hd,aBool,aInt,hg];exact trivial
 ·have e:d.ended=false:=by simp[Dq.ended,h1]
  have e2:d.gets=(0,false):=by simp[Dq.gets,h1]
  rw[e,e2];push_cast (maxSteps:=999999) -implicitDefEqProofs (disch:=omega)[hd,aBool,aInt];exact trivial
theorem dq_Full_a:FnG Tryz.prog 145 [.ref jd 0 0] σ fun a σ'=>a=aBool d.full∧σ'=σ:=by refine Q3 Z66.2 mixed rfl ?_;simp only[Z66,qH];unfold aDq at hd;push_cast[hd,aBool];exact oe
theorem dq_Tail_a:FnG Tryz.prog 144 [.ref jd 0 0] σ fun a σ'=>a=aInt d.t∧σ'=σ:=by refine Q3 Z65.2 mixed rfl ?_;simp only[Z65,qH];unfold aDq at hd;push_cast[hd,aInt];exact trivial
end
theorem ok_room:fnOk Tryz.prog 277=true:=by kernel_rfl
theorem ok_lay:fnOk Tryz.prog 303=true:=by kernel_rfl
theorem ok_grow:fnOk Tryz.prog 314=true:=by kernel_rfl
theorem ok_less:fnOk Tryz.prog 273=true:=by kernel_rfl
theorem ok_looks:fnOk Tryz.prog 301=true:=by kernel_rfl
theorem ok_takes:fnOk Tryz.prog 312=true:=by kernel_rfl
theorem ok_restores:fnOk Tryz.prog 313=true:=by kernel_rfl
theorem ok_lessAgain:fnOk Tryz.prog 316=true:=by kernel_rfl
theorem Y86:fnOk Tryz.prog 317=true:=by kernel_rfl
theorem ok_first:fnOk Tryz.prog 140=true:=by kernel_rfl
theorem ok_claims:fnOk Tryz.prog 218=true:=by kernel_rfl
theorem ok_finds:fnOk Tryz.prog 270=true:=by kernel_rfl
theorem ok_carries:fnOk Tryz.prog 298=true:=by kernel_rfl
theorem ok_asks_1:fnOk Tryz.prog 213=true:=by kernel_rfl
theorem YN:fnOk Tryz.prog 215=true:=by kernel_rfl
theorem YO:fnOk Tryz.prog 310=true:=by kernel_rfl
theorem YP:fnOk Tryz.prog 318=true:=by kernel_rfl
theorem ok_finds_1:fnOk Tryz.prog 299=true:=by kernel_rfl
section
variable {q:Pm} {σ:Kx.St} {jd js jw:Nat} {d:Dq} {ws:List Int} (hq:q.Ok) (hd:σ[jd]?=some (.obj 0 (aDq q jd d))) (h:Wd σ js jw ws) (hl:(ws.length:Int)=q.size) (n1:jd≠js) (n2:jd≠jw) (ho:DqOk q d)
include hq hd h hl n1 n2 ho
def dqOut (q:Pm) (σ:Kx.St) (jd jw:Nat) (r:Dq×List Int):Kx.St:=(σ.set jw (.obj 0 (r.2.map aInt))).set jd (.obj 0 (aDq q jd r.1))
omit hq hl n1 n2 ho in
theorem dq_same:dqOut q σ jd jw (d,ws)=σ:=by unfold dqOut;simp only;rw[h.self,Q20 hd]
omit hq hd hl n1 n2 ho in
theorem Q66 (d':Dq):dqOut q σ jd jw (d',ws)=σ.set jd (.obj 0 (aDq q jd d')):=by unfold dqOut;simp only;rw[h.self]
theorem dq_next_a (hn:d.nx≠.nil) {K:AV→Kx.St→Prop} (hk:∀a,act (K a (dqOut q σ jd jw (dqNext q d ws)))):act (EF.awp Tryz.prog .callv [aDN jd d.nx,.ref js 0 0] σ K):=by
 have hd0:=hd;unfold aDq at hd0
 cases e:d.nx with
 | nil=>exact absurd e hn
 | room=>
  refine Q8 ok_room rfl (dq_room_a hq hd0 h hl n1 n2) ?_;rintro a σ' rfl;have e2:=hk a;simp only[dqNext,e] at e2;split
  ·rename_i c;rw[if_pos c,Q66 h] at e2;exact e2
  ·rename_i c;rw[if_neg c,Q66 h] at e2;exact e2
 | lay=>refine Q8 ok_lay rfl (dq_lay_a hq hd0 h hl n1 n2) ?_;rintro a σ' rfl;have e2:=hk a;simp only[dqNext,e,dqOut,aDq] at e2;exact e2
 | grow=>refine Q8 ok_grow rfl (dq_grow_a hq hd0 h hl n1 n2) ?_;rintro a σ' rfl;have e2:=hk a;simp only[dqNext,e,dqOut,aDq] at e2;exact e2
 | less=>refine Q8 ok_less rfl (dq_less_a hq hd0 h hl n1 n2) ?_;rintro a σ' rfl;have e2:=hk a;simp only[dqNext,e,dqOut,aDq] at e2;exact e2
 | looks=>
  refine Q8 ok_looks rfl (dq_looks_a hq hd0 h hl n1 n2) ?_;rintro a σ' rfl;have e2:=hk a;simp only[dqNext,e] at e2;split
  ·rename_i c;rw[if_pos c,Q66 h] at e2;exact e2
  ·rename_i c;rw[if_neg c,Q66 h] at e2;exact e2
 | takes=>refine Q8 ok_takes rfl (dq_takes_a hq hd0 h hl n1 n2) ?_;rintro a σ' rfl;have e2:=hk a;simp only[dqNext,e,Q66 h,aDq] at e2;exact e2
 | restores=>refine Q8 ok_restores rfl (Y85 hq hd0 h hl n1 n2) ?_;rintro a σ' rfl;have e2:=hk a;simp only[dqNext,e,dqOut,aDq] at e2;exact e2
 | askL=>refine Q8 ok_asks_1 rfl (dq_ask1_a hq hd0 h hl n1 n2 (aDN jd .lessAgain)) ?_;rintro a σ' rfl;have e2:=hk a;simp only[dqNext,e,dqOut,aDq] at e2;exact e2
 | mineL=>
  refine Q8 YN rfl (Y46 hq hd0 h hl n1 n2 (aDN jd .lessAgain) rfl rfl ho) ?_;rintro a σ' rfl;have e2:=hk a;simp only[dqNext,e] at e2;split
  ·rename_i c;rw[if_pos c,Q66 h] at e2;exact e2
  ·rename_i c;rw[if_neg c,dq_same hd h] at e2;exact e2
 | lessAgain=>refine Q8 ok_lessAgain rfl (Y22 hq hd0 h hl n1 n2) ?_;rintro a σ' rfl;have e2:=hk a;simp only[dqNext,e,dqOut,aDq] at e2;exact e2
 | looksAgain=>
  refine Q8 Y86 rfl (YM hq hd0 h hl n1 n2) ?_;rintro a σ' rfl;have e2:=hk a;simp only[dqNext,e] at e2;split
  ·rename_i c;rw[if_pos c,Q66 h] at e2;exact e2
  ·rename_i c;rw[if_neg c,Q66 h] at e2;exact e2
 | leaveT=>refine Q8 YO rfl (YL hq hd0 h hl n1 n2 (aDN jd .takes) rfl rfl ho) ?_;rintro a σ' rfl;have e2:=hk a;simp only[dqNext,e,dqOut,aDq] at e2;exact e2
 | backP=>refine Q8 YP rfl (dq_backP_a hq hd0 h hl n1 n2) ?_;rintro a σ' rfl;have e2:=hk a;simp only[dqNext,e,dqOut,aDq] at e2;exact e2
 | leaveN=>refine Q8 YO rfl (YL hq hd0 h hl n1 n2 (aDN jd .nil) rfl rfl ho) ?_;rintro a σ' rfl;have e2:=hk a;simp only[dqNext,e,dqOut,aDq] at e2;exact e2
 | askF=>refine Q8 ok_asks_1 rfl (dq_ask1_a hq hd0 h hl n1 n2 (aDN jd .first)) ?_;rintro a σ' rfl;have e2:=hk a;simp only[dqNext,e,dqOut,aDq] at e2;exact e2
 | mineF=>
  refine Q8 YN rfl (Y46 hq hd0 h hl n1 n2 (aDN jd .first) rfl rfl ho) ?_;rintro a σ' rfl;have e2:=hk a;simp only[dqNext,e] at e2;split
  ·rename_i c;rw[if_pos c,Q66 h] at e2;exact e2
  ·rename_i c;rw[if_neg c,dq_same hd h] at e2;exact e2
 | first=>refine Q8 ok_first rfl (dq_first_a hq hd0 h hl n1 n2) ?_;rintro a σ' rfl;have e2:=hk a;simp only[dqNext,e,Q66 h,aDq] at e2;exact e2
 | claims=>refine Q8 ok_claims rfl (dq_claims_a hq hd0 h hl n1 n2) ?_;rintro a σ' rfl;have e2:=hk a;simp only[dqNext,e,dqOut,aDq] at e2;exact e2
 | finds=>
  refine Q8 ok_finds rfl (dq_finds_a hq hd0 h hl n1 n2) ?_;rintro a σ' rfl;have e2:=hk a;simp only[dqNext,e] at e2;split
  ·rename_i c;rw[if_pos c,Q66 h] at e2;exact e2
  ·rename_i c;rw[if_neg c,Q66 h] at e2;exact e2
 | backS=>refine Q8 ok_finds_1 rfl (dq_backS_a hq hd0 h hl n1 n2) ?_;rintro a σ' rfl;have e2:=hk a;simp only[dqNext,e,dqOut,aDq] at e2;exact e2
 | carries=>refine Q8 ok_carries rfl (dq_carries_a hq hd0 h hl n1 n2) ?_;rintro a σ' rfl;have e2:=hk a;simp only[dqNext,e,Q66 h,aDq] at e2;exact e2
omit hq hd h hl n1 n2 ho in
theorem dq_len2 (q:Pm) (d:Dq) (ws:List Int):(dqNext q d ws).2.length=ws.length:=by unfold dqNext;cases d.nx<;>simp only<;>(try split)<;>first|rfl|exact Qk _ _ _|exact Z81 _ _ _
omit hq hd h hl n1 n2 ho in
theorem dq_ok2 {q:Pm} {d:Dq} (h:DqOk q d) (ws:List Int):DqOk q (dqNext q d ws).1:=by unfold dqNext;cases d.nx<;>simp only<;>(try split)<;>first|exact h|exact .inr rfl
theorem dq_Step_a:FnG Tryz.prog 92 [.ref jd 0 0,.ref js 0 0] σ fun a σ'=>a=aBool (dqNext q d ws).1.ended∧σ'=dqOut q σ jd jw (dqNext q d ws):=by
 refine Q3 Z63.2 mixed rfl ?_;simp only[Z63,qH];have hlt:=Qh hd;push_cast;refine Q0 (XK hd) ?_;rintro a σ' ⟨rfl,rfl⟩;by_cases h1:d.nx=.nil
 ·have e:d.ended=true:=by simp[Dq.ended,h1]
  rw[e,dq_nil q d ws h1,dq_same hd h];push_cast[aBool];refine Q0 (XK hd) ?_;rintro a σ' ⟨rfl,rfl⟩;push_cast[aBool,e];exact trivial
 ·have e:d.ended=false:=by simp[Dq.ended,h1]
  rw[e];have hd1:=hd;unfold aDq at hd1;push_cast[aBool,hd1];refine dq_next_a hq hd h hl n1 n2 ho h1 fun a=>?_;have hd2:(dqOut q σ' jd jw (dqNext q d ws))[jd]?=some (.obj 0 (aDq q jd (dqNext q d ws).1)):=Qb (Qa n2.symm hd);push_cast;refine Q0 (XK hd2) ?_;rintro a σ' ⟨rfl,rfl⟩;push_cast[aBool];exact oe
end
end Go.Proofs.YtelibaobkcokdaaGreat.Mx
