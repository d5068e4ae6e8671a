/- The machine: what begins. -/
import Derived.Test.YtelibaobkcokdaaGreatTH2G22
import Derived.Test.YtelibaobkcokdaaGreatProg
import Derived.KernelRfl
namespace Go.Proofs.YtelibaobkcokdaaGreat.Mx
set_option linter.unusedVariables false
set_option linter.unusedSimpArgs false
open Go Go.Kx Go.Proofs Go.Proofs.YtelibaobkcokdaaGreat
set_option maxRecDepth 8000
theorem rep_v (x:Value) (n:Nat):repA ([x].map abs1) n=List.replicate n (abs1 x):=by rw[List.map_singleton,repA_one]
theorem Y07 {n:Nat} (hn:n≤1048576) (σ:Kx.St):FnG Tryz.prog 79 [aInt n] σ fun a σ'=>a=.ref (σ.length+1) 0 0∧σ'=σ++[.obj 0 ((List.replicate n (0:Int)).map aInt),.obj 0 [.ms σ.length 0 0 n 1,.v .nilFunc]]:=by
 refine Q3 Yt.2 mixed rfl ?_;simp only[Yt,aInt,qH];have e:min (max (n:Int) 0) 1048576=n:=by omega
 have hb:fillA [.sl 0 [] .nil,.v .nilFunc] [(0,1)] [.ms σ.length 0 0 n 1]=some [.ms σ.length 0 0 n 1,.v .nilFunc]:=by simp[fillA,AV.cells,setAtA]
 push_cast -implicitDefEqProofs[e];refine Y66 rfl ka ka ?_;push_cast -implicitDefEqProofs[hb];refine Qs ?_;have e1:repA ([Value.int .i64 0].map abs1) n=(List.replicate n (0:Int)).map aInt:=by rw[rep_v,List.map_replicate];rfl
 push_cast -implicitDefEqProofs[List.length_append];rw[show [AV.v (Value.int IntKind.i64 0)]=[Value.int IntKind.i64 0].map abs1 from rfl,e1,List.append_assoc];exact rfl
theorem sink_New_a {n:Int} (h0:0≤n) (hn:n≤1000) (σ:Kx.St):FnG Tryz.prog 82 [aInt n] σ fun a σ'=>a=.ref σ.length 0 0∧σ'=σ++[.obj 0 [.sl 0 [] .nil,.v (.int .i64 n)]]:=by
 refine Q3 Y48.2 mixed rfl ?_;simp only[Y48,aInt,qH];have e:min (max n 0) 1000=n:=by omega
 have hb:fillA [.sl 0 [] .nil,.v (.int .i64 0)] [(1,1)] [.v (.int .i64 n)]=some [.sl 0 [] .nil,.v (.int .i64 n)]:=by simp[fillA,AV.cells,Value.cells,setAtA]
 push_cast -implicitDefEqProofs[e,hb];refine Qs ?_;push_cast -implicitDefEqProofs;exact trivial
theorem log_New_a (σ:Kx.St):FnG Tryz.prog 83 [] σ fun a σ'=>a=.ref σ.length 0 0∧σ'=σ++[.obj 0 [.sl 0 [] .nil]]:=by refine Q3 S_log_New.2 mixed rfl ?_;simp only[S_log_New,qH];push_cast -implicitDefEqProofs;refine Qs ?_;push_cast -implicitDefEqProofs;exact trivial
theorem Y08 {n:Nat} (hn:n≤1000) (σ:Kx.St):FnG Tryz.prog 134 [aInt n] σ fun a σ'=>a=.ref (σ.length+1) 0 0∧σ'=σ++[.obj 0 ((List.replicate (n+1) false).map aBool),.obj 0 (aAr σ.length (List.replicate (n+1) false) (aBk none []) 0 0)]:=by
 refine Q3 YV.2 mixed rfl ?_;simp only[YV,aInt,qH];have e:min (max (n:Int) 0) 1000=n:=by omega
 have e2:IntKind.i64.wrap ((n:Int)+1)=((n+1:Nat):Int):=by rw[w64_id ka ka];omega
 push_cast -implicitDefEqProofs[e,e2];refine Y66 (n:=n+1) rfl ka ka ?_;have hb:fillA [.sl 0 [] .nil,.sl 0 [] .nil,.v (.int .i64 0),.v (.int .i64 0)] [(0,1)] [.ms σ.length 0 0 (n+1) 1]=some [.ms σ.length 0 0 (n+1) 1,.sl 0 [] .nil,.v (.int .i64 0),.v (.int .i64 0)]:=by simp[fillA,AV.cells,Value.cells,setAtA]
 push_cast -implicitDefEqProofs[hb];refine Qs ?_;push_cast -implicitDefEqProofs;have e1:repA [AV.v (Value.bool false)] (n+1)=(List.replicate (n+1) false).map aBool:=by rw[show [AV.v (Value.bool false)]=[Value.bool false].map abs1 from rfl,rep_v,List.map_replicate];rfl
 rw[e1,List.append_assoc];exact ⟨by simp,by simp[aAr,aBk]⟩
theorem worker_New_a (n:Int) (σ:Kx.St):FnG Tryz.prog 15 [.v (.int .i64 n)] σ fun a σ'=>a=.ref σ.length 0 0∧∀pl k,σ'=σ++[.obj 0 (aWk pl k (wkNew n))]:=by
 refine Q3 X94.2 mixed rfl ?_;simp only[X94,qH]
 have hb:fillA [AV.v (Value.int IntKind.i64 0),AV.v (Value.int IntKind.i64 0),AV.v (Value.int IntKind.i64 0),
     AV.v (Value.int IntKind.i64 0),AV.v (Value.int IntKind.i64 0),AV.v (Value.pointer none),AV.v Value.nilFunc,
     AV.v (Value.int IntKind.i64 0),AV.v (Value.int IntKind.i64 0),AV.v (Value.bool false),
     AV.v (Value.bool false),AV.v (Value.int IntKind.i64 0),AV.v (Value.bool false),AV.v (Value.bool false),
     AV.v (Value.int IntKind.i64 0),AV.v (Value.bool false),AV.v (Value.pointer none),AV.v (Value.pointer none),
     AV.v (Value.pointer none),AV.v (Value.pointer none)] [(0,1)] [.v (.int .i64 n)]=some (aWk ⟨fun _=>0,none,none,none,.nil⟩ 0 (wkNew n)):=by simp[fillA,AV.cells,Value.cells,setAtA,aWk,wkNew,aPtr,aTh]
 push_cast -implicitDefEqProofs[hb];refine Qs ?_;push_cast -implicitDefEqProofs;exact fun pl k=>by simp[aWk,wkNew,aPtr,aTh]
theorem aIx_one (l:List Ix):(l.flatMap aIx).all AV.one=true:=by rw[List.all_flatMap];simp only[show ∀x,(aIx x).all AV.one=true from fun x=>rfl];simp
theorem Clone_o (l:List Ix) (h0:0 < l.length) (hl:l.length≤300) (σ:Kx.St):FnG Tryz.prog 84 [aIxs l] σ fun a σ'=>a=.ms σ.length 1 0 l.length 4∧σ'=σ++[.obj 1 (l.flatMap aIx)]:=by
 refine Q3 Q07.2 mixed rfl ?_;simp only[Q07,qH];have hIL:aIxs l=.sl l.length (l.flatMap aIx) .none:=rfl;have hnil:PF.av (.eqn false 1) [.sl l.length (l.flatMap aIx) .none]=some (.v (.bool false)):=by show (if l.length=0 then none else some _)=_;rw[if_neg ka]
 have hfl:=Q36 X04 l;push_cast -implicitDefEqProofs[hIL,hnil];refine wpa_bslo (sz:=4) ke ke ?_;push_cast -implicitDefEqProofs;refine Y34 (n:=0) (m:=l.length) rfl rfl hfl (aIx_one l) ke ka ka (Qe _ _) ?_;push_cast -implicitDefEqProofs[Qu];exact trivial
theorem aIxL_res (σ:St) (l:List Ix):AV.resL σ (l.flatMap aIx)=l.flatMap aIx:=by
 induction l with
 | nil=>rfl
 | cons x l ih=>rw[Q19] at ih ⊢;rw[List.flatMap_cons,List.map_append,ih];congr 1
theorem res_ixs {σ:Kx.St} {i w:Nat} {l:List Ix} (h:σ[i]?=some (.obj w (l.flatMap aIx))):AV.res (Go.Kx.freeze [i] σ) (.ms i w 0 l.length 4)=aIxs l:=by rw[freeze_one h (aIxL_res _ _),res_ms (Qb h) (Q36 X04 l)];rfl
theorem Clone_a (l:List Ix) (h0:0 < l.length) (hl:l.length≤300):FnP Tryz.prog 84 [aIxs l] fun a=>a=aIxs l:=by
 refine ⟨by simp[AV.pureL,X16],FnG.fz ?_⟩;refine (Clone_o l h0 hl []).mono ?_;rintro a σ' ⟨rfl,rfl⟩;refine ⟨[0],?_,?_⟩
 ·have:=res_ixs (σ:=[.obj 1 (l.flatMap aIx)]) (i:=0) (w:=1) (l:=l) rfl;show (AV.res _ (.ms 0 1 0 l.length 4)).pure=true;rw[List.nil_append,this];exact X16 l
 ·exact res_ixs (σ:=[.obj 1 (l.flatMap aIx)]) (i:=0) (w:=1) (l:=l) rfl
set_option maxHeartbeats 8000000 in
def planB (q:Pm):Bool:=decide (q.W=cl q.W 1 64∧q.F=cl q.F 1 256∧q.T=cl q.T 1 64∧q.D=cl q.D 2 256)
theorem eqs4' (q:Pm) (a b c d:Int):PF.av (.eqs true [.int .i64,.int .i64,.int .i64,.int .i64]) [.agg (aPl q),.agg [.v (.int .i64 a),.v (.int .i64 b),.v (.int .i64 c),.v (.int .i64 d)]]=some (.v (.bool (!decide (q.W=a∧q.F=b∧q.T=c∧q.D=d)))):=by
 show ((PF.val (.eqs true [.int .i64,.int .i64,.int .i64,.int .i64]) [.agg [.int .i64 q.W,.int .i64 q.F,.int .i64 q.T,.int .i64 q.D].toArray,.agg [.int .i64 a,.int .i64 b,.int .i64 c,.int .i64 d].toArray]).map AV.v)=_;have key:∀x y:Int,(x=y∧(x==y)=true)∨(x≠y∧(x==y)=false):=by intro x y;by_cases h:x=y<;>simp[h]
 rcases key q.W a with ⟨h1,b1⟩|⟨h1,b1⟩<;>rcases key q.F b with ⟨h2,b2⟩|⟨h2,b2⟩<;>rcases key q.T c with ⟨h3,b3⟩|⟨h3,b3⟩<;>rcases key q.D d with ⟨h4,b4⟩|⟨h4,b4⟩<;>simp[PF.val,eqCs,eqC,b1,b2,b3,b4,h1,h2,h3,h4]
theorem Y25 (q:Pm):FnP Tryz.prog 132 [.agg (aPl q)] fun r=>r=aInt (if planB q then 0 else 3):=by
 refine Qj Q09.2 mixed rfl (by simp[AV.pureL,AV.pure,Ya]) ?_;simp only[Q09,qH];push_cast -implicitDefEqProofs;refine Q6 ?_;have k:∀n a b,FnP Tryz.prog 118 [.v (.int .i64 n),.v (.int .i64 a),.v (.int .i64 b)] fun r=>r=.v (.int .i64 (cl n a b)):=Q28;have heq:=eqs4' q;have c4:cellsA (some 4) [AV.v (.int .i64 (cl q.W 1 64)),AV.v (.int .i64 (cl q.F 1 256)),AV.v (.int .i64 (cl q.T 1 64)),AV.v (.int .i64 (cl q.D 2 256))]=some (.agg [AV.v (.int .i64 (cl q.W 1 64)),AV.v (.int .i64 (cl q.F 1 256)),AV.v (.int .i64 (cl q.T 1 64)),AV.v (.int .i64 (cl q.D 2 256))]):=rfl;have hs:setAtA [AV.v (.int .i64 0),AV.v (.int .i64 0),AV.v (.int .i64 0),AV.v (.int .i64 0)] 0 [AV.v (.int .i64 (cl q.W 1 64)),AV.v (.int .i64 (cl q.F 1 256)),AV.v (.int .i64 (cl q.T 1 64)),AV.v (.int .i64 (cl q.D 2 256))]=[AV.v (.int .i64 (cl q.W 1 64)),AV.v (.int .i64 (cl q.F 1 256)),AV.v (.int .i64 (cl q.T 1 64)),AV.v (.int .i64 (cl q.D 2 256))]:=rfl;have hb:fillA [AV.v (.int .i64 0),AV.v (.int .i64 0),AV.v (.int .i64 0),AV.v (.int .i64 0)] [(0,1),(1,1),(2,1),(3,1)] [.v (.int .i64 (cl q.W 1 64)),.v (.int .i64 (cl q.F 1 256)),.v (.int .i64 (cl q.T 1 64)),.v (.int .i64 (cl q.D 2 256))]=some [AV.v (.int .i64 (cl q.W 1 64)),AV.v (.int .i64 (cl q.F 1 256)),AV.v (.int .i64 (cl q.T 1 64)),AV.v (.int .i64 (cl q.D 2 256))]:=by simp[fillA,AV.cells,Value.cells,setAtA]
 push_cast -implicitDefEqProofs[Qi,pl0,pl1,pl2,pl3]
 cases hp:planB q with
 | true=>
  have hd:decide (q.W=cl q.W 1 64∧q.F=cl q.F 1 256∧q.T=cl q.T 1 64∧q.D=cl q.D 2 256)=true:=hp
  repeat' (first
   | (refine Qv (k _ _ _) ?_;rintro a rfl;push_cast -implicitDefEqProofs[Qi,pl0,pl1,pl2,pl3,hb])
   | (refine Qm ?_;push_cast -implicitDefEqProofs[Qi,pl0,pl1,pl2,pl3,hb])
   | (refine Qd (cs:=[AV.v (.int .i64 0),.v (.int .i64 0),.v (.int .i64 0),.v (.int .i64 0)]) (l:=[AV.v (.int .i64 (cl q.W 1 64)),AV.v (.int .i64 (cl q.F 1 256)),AV.v (.int .i64 (cl q.T 1 64)),AV.v (.int .i64 (cl q.D 2 256))]) rfl rfl rfl ke ?_;rw[hs];push_cast -implicitDefEqProofs[cells4,c4,heq,hd,Bool.not_true];exact ⟨[],rfl,rfl⟩)
   | (refine And.intro ?_ ?_))
 | false=>
  have hd:decide (q.W=cl q.W 1 64∧q.F=cl q.F 1 256∧q.T=cl q.T 1 64∧q.D=cl q.D 2 256)=false:=hp
  repeat' (first
   | (refine Qv (k _ _ _) ?_;rintro a rfl;push_cast -implicitDefEqProofs[Qi,pl0,pl1,pl2,pl3,hb])
   | (refine Qm ?_;push_cast -implicitDefEqProofs[Qi,pl0,pl1,pl2,pl3,hb])
   | (refine Qd (cs:=[AV.v (.int .i64 0),.v (.int .i64 0),.v (.int .i64 0),.v (.int .i64 0)]) (l:=[AV.v (.int .i64 (cl q.W 1 64)),AV.v (.int .i64 (cl q.F 1 256)),AV.v (.int .i64 (cl q.T 1 64)),AV.v (.int .i64 (cl q.D 2 256))]) rfl rfl rfl ke ?_;rw[hs];push_cast -implicitDefEqProofs[cells4,c4,heq,hd,Bool.not_false];exact ⟨[],rfl,rfl⟩)
   | (refine And.intro ?_ ?_))
theorem plan_ok {q:Pm} (h:planB q=true) (h0:0≤q.O∧q.O≤1000):q.Ok:=by unfold planB at h;rw[decide_eq_true_eq] at h;unfold cl at h;exact ⟨by omega,by omega,by omega,by omega,h0⟩
def coreE (m:Int) (fs:List (List Ix)) (inp:List Int) (q:Pm):Int:=
 if prgE m fs≠0 then prgE m fs else if planB q=false∨q.O < 0∨1000 < q.O then 3 else if m < inp.length then 9 else 0
theorem X98 (m:Int) (fs:List (List Ix)) (hf:okF fs) (inp:List Int) (q:Pm):FnP Tryz.prog 78 [.agg (Go.Proofs.YtelibaobkcokdaaGreat.aPr m fs),aInts inp,.agg (aPr q)] fun a=>a=aInt (coreE m fs inp q):=by
 refine Qj X90.2 mixed rfl (by simp[AV.pureL,AV.pure,Go.Proofs.YtelibaobkcokdaaGreat.Zv,YY,Z49]) ?_;simp only[X90,qH];have hac:(AV.agg (Go.Proofs.YtelibaobkcokdaaGreat.aPr m fs)).cells=Go.Proofs.YtelibaobkcokdaaGreat.aPr m fs:=rfl;have c2:cellsA (some 2) (Go.Proofs.YtelibaobkcokdaaGreat.aPr m fs)=some (.agg (Go.Proofs.YtelibaobkcokdaaGreat.aPr m fs)):=rfl;have p0:(Go.Proofs.YtelibaobkcokdaaGreat.aPr m fs)[0]?=some (.v (.int .i64 m)):=rfl;have hI:aInts inp=.sl inp.length (inp.map aInt) .none:=rfl;rw[hI];push_cast -implicitDefEqProofs (disch:=omega);refine Q6 ?_;push_cast -implicitDefEqProofs (disch:=omega);refine Q6 ?_;push_cast -implicitDefEqProofs (disch:=omega)[hac,c2];refine Q5 (prog_Check_a m fs hf) ?_;by_cases c:prgE m fs≠0
 ·have e:coreE m fs inp q=prgE m fs:=if_pos c;rw[e];push_cast -implicitDefEqProofs (disch:=omega)[aInt,c];exact oo
 have c':prgE m fs=0:=Classical.not_not.mp c;rw[c'];push_cast -implicitDefEqProofs (disch:=omega)[aInt,Q39,prc7];refine Q5 (Z85 q) ?_;push_cast -implicitDefEqProofs (disch:=omega);refine Q5 (Y25 q) ?_;by_cases hp:planB q=true
 ·rw[if_pos hp];by_cases c3:q.O < 0
  ·have e:coreE m fs inp q=3:=by unfold coreE;rw[if_neg c,if_pos (.inr (.inl c3))]
   rw[e];push_cast -implicitDefEqProofs (disch:=omega)[aInt,Q39,pr4,c3];exact oo
  by_cases c4:1000 < q.O
  ·have e:coreE m fs inp q=3:=by unfold coreE;rw[if_neg c,if_pos (.inr (.inr c4))]
   rw[e];push_cast -implicitDefEqProofs (disch:=omega)[aInt,Q39,pr4,c3,c4];exact oo
  have cn:¬(planB q=false∨q.O < 0∨1000 < q.O):=fun h=>h.elim (fun h=>by rw[hp] at h;cases h) (fun h=>h.elim c3 c4);by_cases c5:m < inp.length
  ·have e:coreE m fs inp q=9:=by unfold coreE;rw[if_neg c,if_neg cn,if_pos c5]
   rw[e];push_cast -implicitDefEqProofs (disch:=omega)[aInt,Q39,pr4,c3,c4,hac,p0,c5];exact oo
  ·have e:coreE m fs inp q=0:=by unfold coreE;rw[if_neg c,if_neg cn,if_neg c5]
   rw[e];push_cast -implicitDefEqProofs (disch:=omega)[aInt,Q39,pr4,c3,c4,hac,p0,c5];exact oo
 ·have e:coreE m fs inp q=3:=by unfold coreE;rw[if_neg c,if_pos (.inl (by simpa using hp))]
  rw[e,if_neg hp];push_cast -implicitDefEqProofs (disch:=omega)[aInt];exact oo
theorem Y09 (σ l:Kx.St) (i:Nat):(σ++l)[σ.length+i]?=l[i]?:=by rw[List.getElem?_append_right ka];congr 1;omega
theorem app_at0 (σ l:Kx.St):(σ++l)[σ.length]?=l[0]?:=Y09 σ l 0
theorem Y93 (σ l:Kx.St) (i:Nat) (x:Res):(σ++l).set (σ.length+i) x=σ++l.set i x:=by rw[List.set_append_right _ _ ka];congr 2;omega
def cN (q:Pm) (n:Nat) (fn:AV):List AV:=
 [fn,.v (.int .i64 q.W),.v (.int .i64 q.T),.v (.int .i64 q.F),.v (.int .i64 q.D),.v (.int .i64 q.O),.v (.bool q.fold),.v (.bool q.lazy),
  .ref (n+1) 0 0,.ref (n+3) 0 0,.v (.pointer none),.ref (n+4) 0 0,.ref (n+5) 0 0,
  .v (.int .i64 0),.v (.int .i64 0),.v (.int .i64 0),.v (.int .i64 0),.v (.int .i64 0),.v (.int .i64 0),.v (.int .i64 0),.v (.int .i64 0),.v (.int .i64 0),.v (.int .i64 0)]
def sN (q:Pm) (n:Nat) (M:Nat) (d:List Int) (fn:AV) (t:List Res):List Res:=
 .obj 0 ((List.replicate q.size.toNat (0:Int)).map aInt)::.obj 0 [.ms n 0 0 q.size.toNat 1,.v .nilFunc]::.obj 0 (d.map aInt)::.obj 0 [.ms (n+2) 0 0 M 1,.v .nilFunc] ::
  .obj 0 [.sl 0 [] .nil,.v (.int .i64 q.O)]::.obj 0 [.sl 0 [] .nil]::.obj 0 (cN q n fn)::t
theorem sN_c {σ:Kx.St} {q:Pm} {n M:Nat} {d:List Int} {fn:AV} {t:List Res}:(σ++sN q n M d fn t)[σ.length+6]?=some (.obj 0 (cN q n fn)):=by rw[Y09];rfl
theorem sN_sc {σ:Kx.St} {q:Pm} {n M:Nat} {d:List Int} {fn fn':AV} {t:List Res}:(σ++sN q n M d fn t).set (σ.length+6) (.obj 0 (cN q n fn'))=σ++sN q n M d fn' t:=by rw[Y93];rfl
theorem sN_t {σ:Kx.St} {q:Pm} {n M:Nat} {d:List Int} {fn:AV} {w:Nat} {t:List Res}:(σ++sN q n M d fn (.tail w::t))[σ.length+7]?=some (.tail w):=by rw[Y09];rfl
theorem sN_st {σ:Kx.St} {q:Pm} {n M:Nat} {d:List Int} {fn:AV} {w w':Nat} {t:List Res}:(σ++sN q n M d fn (.tail w::t)).set (σ.length+7) (.tail w')=σ++sN q n M d fn (.tail w'::t):=by rw[Y93];rfl
theorem sN_d {σ:Kx.St} {q:Pm} {n M:Nat} {d:List Int} {fn:AV} {t:List Res}:(σ++sN q n M d fn t)[σ.length+2]?=some (.obj 0 (d.map aInt)):=by rw[Y09];rfl
theorem sN_sd {σ:Kx.St} {q:Pm} {n M:Nat} {d:List Int} {fn:AV} {t:List Res}:(σ++sN q n M d fn t)[σ.length+3]?=some (.obj 0 [.ms (n+2) 0 0 M 1,.v .nilFunc]):=by rw[Y09];rfl
theorem sN_ssd {σ:Kx.St} {q:Pm} {n M:Nat} {d d':List Int} {fn:AV} {t:List Res}:(σ++sN q n M d fn t).set (σ.length+2) (.obj 0 (d'.map aInt))=σ++sN q n M d' fn t:=by rw[Y93];rfl
theorem size_le {q:Pm} (h:q.Ok):0≤q.size∧q.size≤1048576:=by obtain ⟨⟨a1,a2⟩,⟨b1,b2⟩,⟨c1,c2⟩,⟨d1,d2⟩,_⟩:=h;unfold Pm.size Pm.wide Pm.room;have h1:0≤q.W * (4+q.D):=Int.mul_nonneg ka ka;have h2:q.W * (4+q.D)≤64 * 260:=Int.mul_le_mul a2 ka ka ka;have h3:0≤q.F * (2+4 * (q.T+1)):=Int.mul_nonneg ka ka;have h4:q.F * (2+4 * (q.T+1))≤256 * 262:=Int.mul_le_mul c2 ka ka ka;omega
theorem rep_fm (n:Nat):repA (aFm fm0) n=(List.replicate n fm0).flatMap aFm:=by
 unfold repA
 induction n with
 | zero=>rfl
 | succ n ih=>rw[List.replicate_succ,List.replicate_succ,List.flatten_cons,List.flatMap_cons,ih]
def aT0 (q:Pm) (js ja jf:Nat):List AV:=[.v (.int .i64 q.W),.v (.int .i64 q.F),.v (.int .i64 q.T),.v (.int .i64 q.D),.ref js 0 0,.ref ja 0 0,.ms jf 0 0 (q.F+1).toNat 19]
def rHl (q:Pm):Res:=.obj 0 ((List.replicate (q.F+1).toNat false).map aBool)
def rAr (q:Pm) (jh:Nat):Res:=.obj 0 (aAr jh (List.replicate (q.F+1).toNat false) (aBk none []) 0 0)
def rFl (q:Pm):Res:=.obj 0 ((List.replicate (q.F+1).toNat fm0).flatMap aFm)
theorem frame_New_a {q:Pm} (hq:q.Ok) (js:Nat) (σ:Kx.St):FnG Tryz.prog 86 [.agg (aPl q),.ref js 0 0] σ fun a σ'=>a=.ref (σ.length+3) 0 0 ∧
  (σ'=σ++[rHl q,rAr q σ.length,rFl q,.obj 0 (aT0 q js (σ.length+1) (σ.length+2))]∨σ'=σ++[rFl q,rHl q,rAr q (σ.length+1),.obj 0 (aT0 q js (σ.length+2) σ.length)]):=by
 refine Q3 YU.2 mixed rfl ?_;simp only[YU,qH];have hF:q.F=((q.F.toNat:Nat):Int):=by have:=hq.2.2.1;omega
 have hF2:q.F.toNat≤256:=by have:=hq.2.2.1;omega
 have e2:IntKind.i64.wrap (q.F+1)=(((q.F+1).toNat:Nat):Int):=by have:=hq.2.2.1;rw[w64_id ka ka];omega
 have ez:[AV.v (.int .i64 0),AV.v (.int .i64 0),AV.v (.int .i64 0),AV.v (.int .i64 0),AV.v (.int .i64 0),AV.v (.int .i64 0),AV.v (.int .i64 0),AV.v (.int .i64 0),AV.v (.int .i64 0),AV.v (.int .i64 0),AV.v (.int .i64 0),AV.v (.int .i64 0),AV.v (.bool false),AV.v (.bool false),AV.v (.int .i64 0),AV.v (.int .i64 0),AV.v (.int .i64 0),AV.v (.int .i64 0),AV.v (.int .i64 0)]=aFm fm0:=rfl;push_cast -implicitDefEqProofs (disch:=omega);refine Q6 ?_;push_cast -implicitDefEqProofs (disch:=omega)[Qi,cells4,pl1];refine Q5 (XX hq) ?_;push_cast -implicitDefEqProofs (disch:=omega)[aInt,Qi,cells4,pl1];obtain ⟨K,hK⟩:∃K:Nat,K=(q.F+1).toNat:=⟨_,rfl⟩;have e3:q.F+1=(K:Int):=by omega
 have hF1:q.F.toNat+1=K:=by omega
 have hF3:K≤257:=by omega
 have hbl:∀j0 j1 j2:Nat,fillA [AV.v (.int .i64 0),AV.v (.int .i64 0),AV.v (.int .i64 0),AV.v (.int .i64 0),AV.v (.pointer none),AV.v (.pointer none),.sl 0 [] .nil] [(0,4),(4,1),(5,1),(6,1)] [.agg (aPl q),.ref j0 0 0,.ref j1 0 0,.ms j2 0 0 K 19]=some (aT0 q j0 j1 j2):=fun j0 j1 j2=>by simp[fillA,AV.cells,setAtA,aPl,aT0,hK]
 have hrep:repA ([Value.int .i64 0,Value.int .i64 0,Value.int .i64 0,Value.int .i64 0,Value.int .i64 0,Value.int .i64 0,Value.int .i64 0,Value.int .i64 0,Value.int .i64 0,Value.int .i64 0,Value.int .i64 0,Value.int .i64 0,Value.bool false,Value.bool false,Value.int .i64 0,Value.int .i64 0,Value.int .i64 0,Value.int .i64 0,Value.int .i64 0].map abs1) K=(List.replicate K fm0).flatMap aFm:=rep_fm _;have r1:rHl q=.obj 0 ((List.replicate K false).map aBool):=by rw[hK];rfl
 have r2:∀j,rAr q j=.obj 0 (aAr j (List.replicate K false) (aBk none []) 0 0):=fun j=>by rw[hK];rfl
 have r3:rFl q=.obj 0 ((List.replicate K fm0).flatMap aFm):=by rw[hK];rfl
 rw[r1,r2,r3,r2];clear r1 r2 r3 hK e2;rw[e3];rw[hF];refine both2 ?_ ?_
 ·refine Q0 (Y08 (n:=q.F.toNat) ka σ) ?_;rintro a σ1 ⟨rfl,rfl⟩;rw[hF1];push_cast -implicitDefEqProofs (disch:=omega)[Qi,cells4];refine Y66 (n:=K) rfl ka ka ?_;rw[hrep];push_cast -implicitDefEqProofs (disch:=omega)[List.length_append,hbl,cells4];refine Qs ?_;push_cast -implicitDefEqProofs (disch:=omega)[List.length_append];exact .inl ke
 ·refine Y66 (n:=K) rfl ka ka ?_;rw[hrep];push_cast -implicitDefEqProofs (disch:=omega)[Qi,cells4];refine Q0 (Y08 (n:=q.F.toNat) ka _) ?_;rintro a σ1 ⟨rfl,rfl⟩;rw[hF1];push_cast -implicitDefEqProofs (disch:=omega)[List.length_append,hbl,cells4];refine Qs ?_;push_cast -implicitDefEqProofs (disch:=omega)[List.length_append];exact .inr ke
def dN (M:Nat) (inp:List Int) (k:Nat):List Int:=inp.take k++List.replicate (M - k) 0
def plN (n jh ja jf:Nat) (t:Tok):Pl:=⟨fun r=>match r with|.c=>n+6|.sw=>n+1|.w=>n|.sd=>n+3|.d=>n+2|.so=>n+4|.lo=>n+5|.hl=>jh|.ar=>ja|.fl=>jf|.t=>n+11|_=>n+7,none,none,none,t⟩
theorem dN_all {M:Nat} {inp:List Int} {q:Pm}:dN M inp inp.length=(cs0 q M inp).data:=by simp[dN,cs0]
def lA (q:Pm) (n:Nat):List Res:=[rHl q,rAr q (n+8),rFl q,.obj 0 (aT0 q (n+1) (n+9) (n+10))]
def lB (q:Pm) (n:Nat):List Res:=[rFl q,rHl q,rAr q (n+9),.obj 0 (aT0 q (n+1) (n+10) (n+8))]
theorem cs0_sd {q:Pm} {M:Nat} {inp:List Int} {n jh ja jf:Nat} {t:Tok} (hok:q.Ok) (hf:okF q.fs) (hM:M≤256) (hi:inp.length≤M):Sd q (plN n jh ja jf t) [] (cs0 q M inp):=by obtain ⟨s1,s2⟩:=size_le hok;have hF:=hok.2.2.1;refine ⟨hok,by simp[cs0];omega,by simp[cs0];omega,by simp[cs0],?_,rfl,by simp[cs0],by simp[cs0],⟨fun _=>rfl,fun _=>rfl⟩,⟨fun _=>rfl,fun _=>rfl⟩,by simp[cs0],by simp[cs0];omega,by simp,⟨by have:=hf.1;omega,fun l hl=>by have:=hf.2 l hl;omega⟩⟩;intro f hfm;rw[List.eq_of_mem_replicate hfm];rfl
theorem mm0 {σ:Kx.St} {q:Pm} {M:Nat} {inp:List Int} {t:Tok} {w:Nat} (hok:q.Ok) (hf:okF q.fs) (hM:M≤256) (hi:inp.length≤M) {l:List Res} {jh ja jf:Nat}
  (h:(l=lA q σ.length∧jh=σ.length+8∧ja=σ.length+9∧jf=σ.length+10)∨(l=lB q σ.length∧jh=σ.length+9∧ja=σ.length+10∧jf=σ.length+8)):
  MM q (plN σ.length jh ja jf t) ((σ++sN q σ.length M (dN M inp inp.length) (.sl q.fs.length (q.fs.map aIxs) t) (.tail w::l)).set (σ.length+6) (.obj 0 ((cN q σ.length (.sl q.fs.length (q.fs.map aIxs) t)).set 10 (.ref (σ.length+11) 0 0)))) [] (cs0 q M inp):=by
 have hdl:(cs0 q M inp).data.length=M:=by simp[cs0];omega
 have hwl:(cs0 q M inp).ws.length=q.size.toNat:=by simp[cs0]
 have hfl:(cs0 q M inp).fr.length=(q.F+1).toNat:=by simp[cs0]
 rw[dN_all (q:=q),Y93];refine ⟨?_,?_,cs0_sd hok hf hM hi,?_⟩
 ·rcases h with ⟨rfl,rfl,rfl,rfl⟩|⟨rfl,rfl,rfl,rfl⟩
  all_goals
   intro ro r hr;cases ro
   all_goals first
    | (cases hr;done)
    | (simp[img] at hr;done)
    | (simp only[img,aTb,hdl,hwl,hfl,Option.some.injEq] at hr;subst hr;simp only[plN];first|(rw[Y09];rfl)|(rw[app_at0];rfl))
 ·rcases h with ⟨rfl,rfl,rfl,rfl⟩|⟨rfl,rfl,rfl,rfl⟩
  all_goals
   intro a b ha hb e;cases a
   all_goals first
    | (simp[img,plN] at ha;done)
    | (cases b<;>first|rfl|(simp[img,plN] at hb;done)|(simp only[plN] at e;omega))
 ·have hlen:(σ++(sN q σ.length M (cs0 q M inp).data (.sl q.fs.length (q.fs.map aIxs) t) (.tail w::l)).set 6 (.obj 0 ((cN q σ.length (.sl q.fs.length (q.fs.map aIxs) t)).set 10 (.ref (σ.length+11) 0 0)))).length=σ.length+12:=by rcases h with ⟨rfl,_⟩|⟨rfl,_⟩<;>simp[sN,lA,lB]
  rw[hlen];rcases h with ⟨rfl,rfl,rfl,rfl⟩|⟨rfl,rfl,rfl,rfl⟩
  all_goals
   intro ro;cases ro<;>simp only[plN]<;>omega
def mk0 (q:Pm) (M:Nat) (inp:List Int):Cs:=match (cs0 q M inp).make q { fm0 with kind:=1 } with|some (_,s)=>s|none=>cs0 q M inp
set_option maxHeartbeats 4000000 in
theorem core_New_n (M:Nat) (q:Pm) (hf:okF q.fs) (inp:List Int) (he:coreE M q.fs inp q=0) (σ:Kx.St):FnG Tryz.prog 44 [.agg (Go.Proofs.YtelibaobkcokdaaGreat.aPr M q.fs),aInts inp,.agg (aPr q)] σ fun a σ'=>∃pl,a=.tup [.ref (pl.p .c) 0 0,aInt 0]∧MM q pl σ' [] (mk0 q M inp)∧(∀j,j < σ.length→σ'[j]?=σ[j]?)∧∀ro,σ.length≤pl.p ro:=by
 refine Q3 XL.2 mixed rfl ?_;simp only[XL,qH];have hac:(AV.agg (Go.Proofs.YtelibaobkcokdaaGreat.aPr M q.fs)).cells=Go.Proofs.YtelibaobkcokdaaGreat.aPr M q.fs:=rfl;have c2:cellsA (some 2) (Go.Proofs.YtelibaobkcokdaaGreat.aPr M q.fs)=some (.agg (Go.Proofs.YtelibaobkcokdaaGreat.aPr M q.fs)):=rfl;have p0:(Go.Proofs.YtelibaobkcokdaaGreat.aPr M q.fs)[0]?=some (.v (.int .i64 M)):=rfl;have p1:(Go.Proofs.YtelibaobkcokdaaGreat.aPr M q.fs)[1]?=some (.sl q.fs.length (q.fs.map aIxs) .none):=rfl;have hI:aInts inp=.sl inp.length (inp.map aInt) .none:=rfl
 have hE:prgE M q.fs=0∧planB q=true∧(0≤q.O∧q.O≤1000)∧inp.length≤M:=by
  unfold coreE at he;split at he
  ·rename_i h;exact absurd he h
  ·rename_i h;split at he
   ·cases he
   ·rename_i h2;split at he
    ·cases he
    ·rename_i h3;refine ⟨by omega,?_,by omega,by omega⟩
     cases hp:planB q with
     | true=>rfl
     | false=>exact absurd (.inl hp) h2
 obtain ⟨hE1,hE2,hE3,hE4⟩:=hE;have hok:=plan_ok hE2 hE3;obtain ⟨hm,hmany,hfo⟩:=prg_ok hE1;obtain ⟨s1,s2⟩:=size_le hok;have hf1:=hf.1;have hsz:q.size=(q.size.toNat:Int):=by omega
 refine Qc (fun ε σ1=>(ε 1=aInts inp∧ε 3=.ep (Go.Proofs.YtelibaobkcokdaaGreat.aPr M q.fs)∧ε 5=.ep (aPr q))∧σ1=σ) ?_ ?_
 ·intro N X R hN;push_cast -implicitDefEqProofs (disch:=omega);refine Q6 ?_;push_cast -implicitDefEqProofs (disch:=omega);refine Q6 ?_;push_cast -implicitDefEqProofs (disch:=omega)[hac,Q39];exact hN _ _ ⟨by push_cast -implicitDefEqProofs (disch:=omega),rfl⟩
 rintro ε σ1 ⟨hρ,e1⟩;rw[e1];clear e1 σ1;refine Qc (fun ε σ1=>(ε 1=aInts inp∧ε 3=.ep (Go.Proofs.YtelibaobkcokdaaGreat.aPr M q.fs)∧ε 5=.ep (aPr q))∧σ1=σ) ?_ ?_
 ·intro N X R hN;push_cast -implicitDefEqProofs (disch:=omega)[hρ,c2,prc7];refine Q5 (X98 M q.fs hf inp q) ?_;rw[he];push_cast -implicitDefEqProofs (disch:=omega)[aInt];exact hN _ _ ⟨by push_cast -implicitDefEqProofs (disch:=omega)[hρ],rfl⟩
 clear hρ ε;rintro ε σ1 ⟨hρ,e1⟩;rw[e1];clear e1 σ1;refine Qc (fun ε σ1=>(ε 1=aInts inp∧ε 3=.ep (Go.Proofs.YtelibaobkcokdaaGreat.aPr M q.fs)∧ε 5=.ep (aPr q)∧ε 9=.ref (σ.length+6) 0 0)∧σ1=σ++sN q σ.length M (List.replicate M 0) (.sl 0 [] .nil) []) ?_ ?_
 ·intro N X R hN;push_cast -implicitDefEqProofs (disch:=omega)[hρ,c2,prc7,p0,pr4];refine Q5 (Z85 q) ?_;push_cast -implicitDefEqProofs (disch:=omega)[hρ,c2,prc7,p0,pr4];refine Q5 (Y75 hok) ?_;push_cast -implicitDefEqProofs (disch:=omega)[hρ,c2,prc7,p0,pr4,aInt];rw[hsz];refine Q0 (Y07 (n:=q.size.toNat) ka σ) ?_;rintro a σ1 ⟨rfl,rfl⟩;push_cast -implicitDefEqProofs (disch:=omega)[hρ,c2,prc7,p0,pr4,aInt];refine Q0 (Y07 (n:=M) ka _) ?_;rintro a σ1 ⟨rfl,rfl⟩;push_cast -implicitDefEqProofs (disch:=omega)[hρ,c2,prc7,p0,pr4,aInt];refine Q0 (sink_New_a hE3.1 hE3.2 _) ?_;rintro a σ1 ⟨rfl,rfl⟩;push_cast -implicitDefEqProofs (disch:=omega)[hρ,c2,prc7,p0,pr4,aInt];refine Q0 (log_New_a _) ?_;rintro a σ1 ⟨rfl,rfl⟩;push_cast -implicitDefEqProofs (disch:=omega)[hρ,c2,prc7,p0,pr4,aInt,List.length_append]
  have hb:fillA [AV.sl 0 [] Tok.nil,AV.v (Value.int IntKind.i64 0),AV.v (Value.int IntKind.i64 0),
     AV.v (Value.int IntKind.i64 0),AV.v (Value.int IntKind.i64 0),AV.v (Value.int IntKind.i64 0),
     AV.v (Value.bool false),AV.v (Value.bool false),AV.v (Value.pointer none),AV.v (Value.pointer none),
     AV.v (Value.pointer none),AV.v (Value.pointer none),AV.v (Value.pointer none),
     AV.v (Value.int IntKind.i64 0),AV.v (Value.int IntKind.i64 0),AV.v (Value.int IntKind.i64 0),
     AV.v (Value.int IntKind.i64 0),AV.v (Value.int IntKind.i64 0),AV.v (Value.int IntKind.i64 0),
     AV.v (Value.int IntKind.i64 0),AV.v (Value.int IntKind.i64 0),AV.v (Value.int IntKind.i64 0),
     AV.v (Value.int IntKind.i64 0)]
    [(1,7),(8,1),(9,1),(11,1),(12,1)]
    [AV.agg (aPr q),AV.ref (List.length σ+1) 0 0,AV.ref (List.length σ+(1+1)+1) 0 0,
     AV.ref (List.length σ+(1+1)+(1+1)) 0 0,AV.ref (List.length σ+(1+1)+(1+1)+1) 0 0]=some (cN q σ.length (.sl 0 [] .nil)):=by simp[fillA,AV.cells,Value.cells,setAtA,cN,aPr]
  push_cast -implicitDefEqProofs (disch:=omega)[hb];refine Qs ?_;push_cast -implicitDefEqProofs (disch:=omega)[List.length_append];exact hN _ _ ⟨by push_cast -implicitDefEqProofs (disch:=omega)[hρ],by simp[sN]⟩
 clear hρ ε;rintro ε σ1 ⟨hρ,e1⟩;rw[e1];clear e1 σ1;refine Qc (fun ε σ1=>(ε 1=aInts inp∧ε 5=.ep (aPr q)∧ε 9=.ref (σ.length+6) 0 0)∧∃w,σ1=σ++sN q σ.length M (List.replicate M 0) (.sl q.fs.length (q.fs.map aIxs) (.id (σ.length+7) w 1)) [.tail w]) ?_ ?_
 ·intro N X R hN;push_cast -implicitDefEqProofs (disch:=omega)[hρ,p1];have hl7:(σ++sN q σ.length M (List.replicate M 0) (.sl 0 [] .nil) []).length=σ.length+7:=by simp[sN]
  refine Y8 (GU.tokO (i:=σ.length+6) (j:=0) 1 sN_c rfl) (α:=Nat) (I:=fun k ε σ1=>(ε 1=aInts inp∧ε 5=.ep (aPr q)∧ε 9=.ref (σ.length+6) 0 0∧ε 36=.sl q.fs.length (q.fs.map aIxs) .none∧ε 37=.v (.int .i64 q.fs.length)∧ε 38=.v (.int .i64 k))∧k≤q.fs.length∧∃w,σ1=σ++sN q σ.length M (List.replicate M 0) (.sl k ((q.fs.take k).map aIxs) (.id (σ.length+7) w 1)) [.tail w])
   (μ:=fun k=>q.fs.length - k) (Q:=fun ε σ1=>(ε 1=aInts inp∧ε 5=.ep (aPr q)∧ε 9=.ref (σ.length+6) 0 0)∧∃w,σ1=σ++sN q σ.length M (List.replicate M 0) (.sl q.fs.length (q.fs.map aIxs) (.id (σ.length+7) w 1)) [.tail w]) (x:=0) ?_ ?_ hN
  ·refine ⟨by push_cast -implicitDefEqProofs (disch:=omega)[hρ],by omega,0,?_⟩;rw[hl7];have e0:(cN q σ.length (.sl 0 [] .nil)).set 0 (.sl 0 [] (.id (σ.length+7) 0 1))=cN q σ.length (.sl 0 [] (.id (σ.length+7) 0 1)):=rfl;rw[e0,sN_sc,List.append_assoc];rfl
  ·clear hN N X R hρ ε;rintro k ε σ1 N E X R ⟨hρ,hk,w,rfl⟩ hN hE;by_cases hlt:k < q.fs.length
   ·obtain ⟨l,hl⟩:=Q23 hlt;have hll:=(hfo l (List.mem_of_getElem? hl)).le;have hl0:0 < l.length:=(hfo l (List.mem_of_getElem? hl)).rt.pos;have hex:(AV.sl k ((q.fs.take k).map aIxs) (.id (σ.length+7) w 1)).exact=true:=rfl;have hlk:(q.fs.take k).length=k:=by rw[List.length_take];omega
    have c0:∀fn,(cN q σ.length fn)[0]?=some fn:=fun _=>rfl;have hlm:(q.fs.map aIxs)[k]?=some (aIxs l):=by rw[List.getElem?_map,hl];rfl
    push_cast -implicitDefEqProofs (disch:=omega)[hρ,hl,hlm,sN_c,c0,hex];refine Q5 (Clone_a l hl0 ka) ?_;push_cast -implicitDefEqProofs (disch:=omega)[hρ,sN_c,c0,hex];refine QA (sz:=1) oG ke ?_;push_cast -implicitDefEqProofs (disch:=omega)[hρ,sN_c,c0,hex];refine X44 (m:=1) rfl rfl rfl rfl eG ka ka sN_t ?_;rw[sN_st];push_cast -implicitDefEqProofs (disch:=omega)[hρ];refine Q9 rfl rfl sN_c (by simp[cN]) ?_;have e0:∀fn fn',(cN q σ.length fn).set 0 fn'=cN q σ.length fn':=fun _ _=>rfl;rw[Nat.add_zero,e0,sN_sc];push_cast -implicitDefEqProofs (disch:=omega)[hρ];refine hN (k+1) _ _ ⟨by push_cast -implicitDefEqProofs (disch:=omega)[hρ],by omega,w+1,?_⟩ ka;rw[Qp hl];simp[AV.cells,aIxs,aSlN]
   ·push_cast -implicitDefEqProofs (disch:=omega)[hρ];obtain rfl:k=q.fs.length:=by omega
    rw[List.take_length];exact hE _ _ ⟨by push_cast -implicitDefEqProofs (disch:=omega)[hρ],w,rfl⟩
 clear hρ ε;rintro ε σ1 ⟨hρ,w,e1⟩;rw[e1];clear e1 σ1;obtain ⟨fn,efn⟩:∃fn,fn=AV.sl q.fs.length (q.fs.map aIxs) (.id (σ.length+7) w 1):=⟨_,rfl⟩;rw[←efn];refine Qc (fun ε σ1=>(ε 5=.ep (aPr q)∧ε 9=.ref (σ.length+6) 0 0)∧σ1=σ++sN q σ.length M (dN M inp inp.length) fn [.tail w]) ?_ ?_
 ·intro N X R hN;push_cast -implicitDefEqProofs (disch:=omega)[hρ,hI]
  refine wpa_blx (α:=Nat) (I:=fun k ε σ1=>(ε 5=.ep (aPr q)∧ε 9=.ref (σ.length+6) 0 0∧ε 54=.sl inp.length (inp.map aInt) .none∧ε 55=.v (.int .i64 inp.length)∧ε 56=.v (.int .i64 k))∧k≤inp.length∧σ1=σ++sN q σ.length M (dN M inp k) fn [.tail w])
   (μ:=fun k=>inp.length - k) (Q:=fun ε σ1=>(ε 5=.ep (aPr q)∧ε 9=.ref (σ.length+6) 0 0)∧σ1=σ++sN q σ.length M (dN M inp inp.length) fn [.tail w]) (x:=0) ?_ ?_ hN
  ·exact ⟨by push_cast -implicitDefEqProofs (disch:=omega)[hρ],by omega,by simp[dN]⟩
  ·clear hN N X R hρ ε;rintro k ε σ1 N E X R ⟨hρ,hk,rfl⟩ hN hE;by_cases hlt:k < inp.length
   ·obtain ⟨v,hv⟩:=Q23 hlt;have hvm:(inp.map aInt)[k]?=some (aInt v):=by rw[List.getElem?_map,hv];rfl
    have c9:(cN q σ.length fn)[9]?=some (.ref (σ.length+3) 0 0):=rfl;have hdl:(dN M inp k).length=M:=by simp[dN];omega
    have hsd:(σ++sN q σ.length M (dN M inp k) fn [.tail w])[σ.length+3]?=some (.obj 0 [.ms (σ.length+2) 0 0 (dN M inp k).length 1,.v .nilFunc]):=by rw[hdl];exact sN_sd
    push_cast -implicitDefEqProofs (disch:=omega)[hρ,hvm,sN_c,c9,aInt];refine Q0 (X49 hsd sN_d k v) ?_;rintro a σ2 ⟨rfl,rfl⟩
    have hask:(askD (dN M inp k) ⟨2,k,v,0,0⟩).2.2=dN M inp (k+1):=by
     have h2:askD (dN M inp k) ⟨2,k,v,0,0⟩=(0,true,(dN M inp k).set ((k:Int)).toNat v):=by simp only[askD];rw[if_neg (by rw[hdl];omega)];simp
     rw[h2];simp only[dN,Int.toNat_natCast];rw[Qp hv];obtain ⟨r,hr⟩:∃r,M - k=r+1:=⟨M - k - 1,by omega⟩;have hr2:M - (k+1)=r:=by omega
     have hlk:(inp.take k).length=k:=by rw[List.length_take];omega
     rw[hr,hr2,List.replicate_succ,List.set_append_right _ _ ka,hlk,Nat.sub_self,List.append_assoc];rfl
    rw[hask,sN_ssd];have hw1:IntKind.i64.wrap ((k:Int)+1)=((k+1:Nat):Int):=by rw[w64_id ka ka];omega
    push_cast -implicitDefEqProofs (disch:=omega)[hρ,hw1];exact hN (k+1) _ _ ⟨by push_cast -implicitDefEqProofs (disch:=omega)[hρ,hw1],by omega,rfl⟩ ka
   ·push_cast -implicitDefEqProofs (disch:=omega)[hρ];obtain rfl:k=inp.length:=by omega
    exact hE _ _ ⟨by push_cast -implicitDefEqProofs (disch:=omega)[hρ],rfl⟩
 clear hρ ε;rintro ε σ1 ⟨hρ,e1⟩;rw[e1];clear e1 σ1;have c8:(cN q σ.length fn)[8]?=some (.ref (σ.length+1) 0 0):=rfl;push_cast -implicitDefEqProofs (disch:=omega)[hρ,Q39,prc7,sN_c,c8];refine Q5 (Z85 q) ?_;push_cast -implicitDefEqProofs (disch:=omega)[hρ,sN_c,c8];refine Q0 (frame_New_a hok (σ.length+1) _) ?_;rintro a σ2 ⟨rfl,hs2⟩;push_cast -implicitDefEqProofs (disch:=omega)[hρ,List.length_append];have hl8:(σ++sN q σ.length M (dN M inp inp.length) fn [.tail w]).length=σ.length+8:=by simp[sN]
 rw[hl8] at hs2;have ea:∀l,σ++sN q σ.length M (dN M inp inp.length) fn [.tail w]++l=σ++sN q σ.length M (dN M inp inp.length) fn (.tail w::l):=fun l=>by rw[List.append_assoc];rfl
 rw[ea,ea] at hs2;have hl8':(sN q σ.length M (dN M inp inp.length) fn [.tail w]).length=8:=rfl
 have hex:∃l jh ja jf,σ2=σ++sN q σ.length M (dN M inp inp.length) fn (.tail w::l)∧((l=lA q σ.length∧jh=σ.length+8∧ja=σ.length+9∧jf=σ.length+10)∨(l=lB q σ.length∧jh=σ.length+9∧ja=σ.length+10∧jf=σ.length+8)):=by
  rcases hs2 with hs|hs
  ·exact ⟨_,_,_,_,hs,.inl ⟨rfl,rfl,rfl,rfl⟩⟩
  ·exact ⟨_,_,_,_,hs,.inr ⟨rfl,rfl,rfl,rfl⟩⟩
 clear hs2;obtain ⟨l,jh,ja,jf,e2,hl⟩:=hex;have h0:=mm0 (w:=w) (t:=.id (σ.length+7) w 1) hok hf ka hE4 hl;rw[←efn,←e2] at h0;have hold:∀x j,j < σ.length→(σ2.set (σ.length+6) x)[j]?=σ[j]?:=fun x j hj=>by rw[List.getElem?_set_ne ka,e2,List.getElem?_append_left hj]
 have hold:=hold (.obj 0 ((cN q σ.length fn).set 10 (.ref (σ.length+11) 0 0)));have hge:∀ro,σ.length≤(plN σ.length jh ja jf (.id (σ.length+7) w 1)).p ro:=by intro ro;rcases hl with ⟨_,rfl,rfl,rfl⟩|⟨_,rfl,rfl,rfl⟩<;>cases ro<;>simp only[plN]<;>omega
 have hc6:σ2[σ.length+6]?=some (.obj 0 (cN q σ.length fn)):=by rw[e2];exact sN_c
 rw[hl8'];refine Q9 rfl rfl hc6 (by simp[cN]) ?_;have e11:σ.length+8+3=σ.length+11:=rfl;rw[e11];have hpc:σ.length+6=(plN σ.length jh ja jf (.id (σ.length+7) w 1)).p .c:=rfl;generalize σ2.set (σ.length+6) (.obj 0 ((cN q σ.length fn).set 10 (.ref (σ.length+11) 0 0)))=σ3 at h0 hold;rw[hpc] at hρ ⊢;generalize plN σ.length jh ja jf (.id (σ.length+7) w 1)=pl at h0 hge hρ;clear hpc hc6 e2 hl ea hl8 hl8' c8 efn e11;have hc:=h0.c;have g10:(aCore q pl (cs0 q M inp))[10]?=some (.ref (pl.p .t) 0 0):=rfl;push_cast -implicitDefEqProofs (disch:=omega)[hρ,hc,g10];refine Q0 (frame_Root_a σ3) ?_;rintro a σ4 ⟨rfl,hs⟩;rw[hs];clear hs;push_cast -implicitDefEqProofs (disch:=omega)[hρ,hc,g10];refine Q0 (X96 h0 (by simp[cs0]) { fm0 with kind:=1 } rfl) ?_;rintro a σ4 hmk
 cases em:(cs0 q M inp).make q { fm0 with kind:=1 } with
 | none=>
  rw[em] at hmk;obtain ⟨rfl,hs⟩:=hmk;rw[hs];have e0:mk0 q M inp=cs0 q M inp:=by unfold mk0;rw[em]
  push_cast -implicitDefEqProofs (disch:=omega)[hρ];rw[e0];exact ⟨pl,rfl,h0,hold,hge⟩
 | some x=>
  obtain ⟨id,s'⟩:=x;rw[em] at hmk;obtain ⟨rfl,pl',h1,X1⟩:=hmk;have e0:mk0 q M inp=s':=by unfold mk0;rw[em]
  have hcp:pl.p .c=pl'.p .c:=(X1.fix _ rfl).symm;rw[hcp] at hρ;push_cast -implicitDefEqProofs (disch:=omega)[hρ];rw[e0];refine ⟨pl',rfl,h1,fun j hj=>?_,fun ro=>?_⟩
  ·have hj3:j < σ3.length:=by have:=hold j hj;rw[List.getElem?_eq_getElem hj] at this;exact Qh this
   rw[X1.keep j hj3 (fun ro=>by have:=hge ro;omega)];exact hold j hj
  ·rcases X1.new ro with e|e
   ·rw[e];exact hge ro
   ·have:pl.p .c < σ3.length:=h0.lt .c;have:=hge .c;omega
end Go.Proofs.YtelibaobkcokdaaGreat.Mx
namespace Go.Proofs.YtelibaobkcokdaaGreat
open Go Go.Kx Go.Proofs
set_option linter.unusedVariables false
set_option maxRecDepth 100000
set_option maxHeartbeats 16000000
noncomputable def ZA:=qH Tryz.prog 19
noncomputable def Q63:=qH Tryz.prog 21
noncomputable def Q33:=qH Tryz.prog 22
noncomputable def Q34:=qH Tryz.prog 23
noncomputable def Q69:=qH Tryz.prog 24
noncomputable def Q35:=qH Tryz.prog 25
noncomputable def Q44:=qH Tryz.prog 27
noncomputable def Q25:=qH Tryz.prog 28
noncomputable def X02:=qH Tryz.prog 60
end Go.Proofs.YtelibaobkcokdaaGreat
