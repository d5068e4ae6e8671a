/- Race: the verdict; works: the walks (Rcf Rcg) -/
import Derived.Test.YtncdnegdlkmicaaGreatQSel
import Derived.Test.YtncdnegdlkmicaaGreatQRza
namespace Go.Proofs.YtncdnegdlkmicaaGreat.Rc
set_option linter.unusedVariables false
set_option linter.unusedSimpArgs false
open Go Go.Kx Go.Proofs
open Go.Proofs.YtncdnegdlkmicaaGreat.Rx hiding Ql Q03 Qe QK mixed
open Go.Proofs.YtncdnegdlkmicaaGreat.St (Ac aAc Qt Z2 Q85 Z44 Nd aNd Zw X8)
def toMk (l:List (Int×Int)):List St.Mk:=l.map fun p=>⟨p.1,p.2,0⟩
theorem toMk_eq (l:List (Int×Int)):aMks l=St.aMks (toMk l):=by
 unfold aMks St.aMks aSlN toMk
 rw[List.length_map,List.flatMap_map]
 rfl
theorem FindR.ex (xss:List (List Int)) (l:List Ac):∃r,FindR xss l r:=by
 by_cases hc:chk xss=0
 ·by_cases hb:badS xss l
  ·exact ⟨_,.inr (.inl ⟨hc,hb,rfl⟩)⟩
  ·obtain ⟨q,hq⟩:=FC.ex (clash xss l) l.length
   exact ⟨_,.inr (.inr ⟨hc,hb,q,hq,rfl⟩)⟩
 ·exact ⟨_,.inl ⟨hc,rfl⟩⟩
structure Bok (B:St.Bd):Prop where
 p:B.preds.length≤1000000
 q:∀x∈B.preds,x.length≤1000000
 a:B.accs.length≤1000000
def cleanV (e:Int) (n:Nat) (ok:Bool):Int:=if e≠0∨3000 < n then 5 else if ok then 1 else 0
set_option maxHeartbeats 4000000 in
theorem race_clean_a (l:List St.Mk) (hl:l.length≤8000) (hB:Bok (St.buildR l).2) {r:Fd} (hr:FindR (St.buildR l).2.preds (St.buildR l).2.accs r):
  FnP Tryz.prog 13 [St.aMks l] fun a=>a=aInt (cleanV (St.buildR l).1 (St.buildR l).2.accs.length r.ok):=by
 refine Qh K_race_clean mixed rfl (by simp[AV.pureL,St.Z38]) ?_
 simp only[X17]
 have hb:=St.build_a l (by omega)
 generalize St.buildR l=R at hb hB hr
 obtain ⟨e,B⟩:=R
 simp only at hb hB hr ⊢
 have hD:St.dagC B=aDg B.preds (aSlN aNd B.nodes) B.accs:=rfl
 have d2:(St.dagC B)[2]?=some (.sl B.accs.length (B.accs.flatMap aAc) .none):=rfl
 have hset:setAtA [AV.sl 0 [] .nil,AV.sl 0 [] .nil,AV.sl 0 [] .nil] 0 (St.dagC B)=St.dagC B:=rfl
 have hF:=X69 B.preds (aSlN aNd B.nodes) B.accs (Q19 Zw _) hB.p hB.q hB.a
 rw[←hD] at hF
 refine Q1 (fun ε σ=>ε 0=St.aMks l∧σ=[]) ?_ ?_
 ·intro N X R hN
  push_cast (disch:=omega)
  exact hN _ _ (by push_cast (disch:=omega))
 rintro ε σ ⟨hρ,rfl⟩
 refine Q1 (fun ε σ=>(ε 3=.ref 0 0 0∧ε 4=.v (.int .i64 e))∧σ=[.obj 0 (St.dagC B)]) ?_ ?_
 ·intro N X R hN
  push_cast (disch:=omega)[hρ]
  refine Q3 hb ?_
  rintro a rfl
  push_cast (disch:=omega)[aInt]
  refine Qb ?_
  push_cast (disch:=omega)
  refine Q5 (cs:=[AV.sl 0 [] .nil,AV.sl 0 [] .nil,AV.sl 0 [] .nil]) rfl rfl rfl (by decide) ?_
  rw[hset]
  push_cast (disch:=omega)
  exact hN _ _ ⟨by push_cast (disch:=omega)[hρ],rfl⟩
 clear hρ ε
 rintro ε σ ⟨hρ,rfl⟩
 refine Qg (fun ε σ=>ε 3=.ref 0 0 0∧σ=[.obj 0 (St.dagC B)]∧e=0∧¬3000 < B.accs.length) ?_ ?_
 ·intro N hN
  by_cases c1:e=0
  ·by_cases c2:3000 < B.accs.length
   ·push_cast (disch:=omega)[hρ,c1,d2,c2]
    exact ⟨[],rfl,by unfold cleanV;rw[if_pos (.inr c2)];rfl⟩
   ·push_cast (disch:=omega)[hρ,c1,d2,c2]
    exact hN _ _ ⟨by push_cast (disch:=omega)[hρ],rfl,c1,c2⟩
  ·push_cast (disch:=omega)[hρ,c1]
   exact ⟨[],rfl,by unfold cleanV;rw[if_pos (.inl c1)];rfl⟩
 clear hρ ε
 rintro ε σ ⟨hρ,rfl,c1,c2⟩
 have hc:cellsA (some 3) (St.dagC B)=some (.agg (St.dagC B)):=rfl
 have hcv:cleanV e B.accs.length r.ok=if r.ok then 1 else 0:=by unfold cleanV;rw[if_neg (by omega)]
 rw[hcv]
 refine Qg (fun ε σ=>r.ok=false) ?_ ?_
 ·intro N hN
  refine Q1 (fun ε σ=>ε 6=.v (.bool r.ok)) ?_ ?_
  ·intro N X R hN
   push_cast (disch:=omega)[hρ,hc]
   refine Q3 hF ?_
   rintro a ⟨r',rfl,hr'⟩
   have e1:=hr'.uniq hr
   subst e1
   push_cast (disch:=omega)[aFd]
   refine Qb ?_
   push_cast (disch:=omega)
   refine Q5 (n:=3) (cs:=[AV.v (.int .i64 0),AV.v (.int .i64 0),AV.v (.int .i64 0)]) rfl rfl rfl (by decide) ?_
   push_cast (disch:=omega)
   exact hN _ _ (by push_cast (disch:=omega)[hρ])
  clear hρ ε
  rintro ε σ hρ
  cases ho:r.ok with
  | true=>
   rw[ho] at hρ
   push_cast (disch:=omega)[hρ]
   exact ⟨[],rfl,rfl⟩
  | false=>
   rw[ho] at hρ
   push_cast (disch:=omega)[hρ]
   exact hN _ _ ho
 clear hρ ε
 rintro ε σ ho
 rw[ho]
 push_cast (disch:=omega)
 exact ⟨[],rfl,rfl⟩
def judgeV (e:Int) (V:Sv) (c:Int):Int:=if e≠0 then 4 else if V.status=4 then 2 else if V.status≠1 then 3 else c
set_option maxHeartbeats 8000000 in
theorem Z45 (m:Int) (fs:List (List Ix)) (inp:List Int) (fuel:Int) (hf:okF fs) (hi:inp.length≤1000000) (hmk:(runV m fs inp fuel).marks.length≤8000)
  (hB:Bok (St.buildR (toMk (runV m fs inp fuel).marks)).2) {r:Fd} (hr:FindR (St.buildR (toMk (runV m fs inp fuel).marks)).2.preds (St.buildR (toMk (runV m fs inp fuel).marks)).2.accs r):
  FnP Tryz.prog 6 [.agg (aPr m fs),aInts inp,aInt fuel] fun a=>
   a=.tup [aInt (judgeV (runE m fs inp) (runV m fs inp fuel) (cleanV (St.buildR (toMk (runV m fs inp fuel).marks)).1 (St.buildR (toMk (runV m fs inp fuel).marks)).2.accs.length r.ok)),.agg (aOc (runV m fs inp fuel))]:=by
 have hpu:AV.pureL [.agg (aPr m fs),aInts inp,aInt fuel]=true:=by simp[AV.pureL,AV.pure,Q83,Q07,aInt]
 refine Qh K_race_Judge mixed rfl hpu ?_
 simp only[X16]
 have hac:(AV.agg (aPr m fs)).cells=aPr m fs:=rfl
 have hE:=Eval_G m fs inp fuel hf hi
 have hM:=Marks_a m fs inp fuel hf hi
 rw[toMk_eq] at hM
 have hC:=race_clean_a (toMk (runV m fs inp fuel).marks) (by unfold toMk;rw[List.length_map];exact hmk) hB hr
 generalize (cleanV (St.buildR (toMk (runV m fs inp fuel).marks)).1 (St.buildR (toMk (runV m fs inp fuel).marks)).2.accs.length r.ok)=cv at hC ⊢
 generalize runV m fs inp fuel=V at *
 generalize runE m fs inp=e at *
 have hset:∀a b c d e f g:AV,setAtA [AV.v (.int .i64 0),AV.v (.int .i64 0),.sl 0 [] .nil,.sl 0 [] .nil,AV.v (.int .i64 0),AV.v (.int .i64 0),AV.v (.int .i64 0)] 0 [a,b,c,d,e,f,g]=[a,b,c,d,e,f,g]:=fun _ _ _ _ _ _ _=>rfl
 have hz:(AV.agg [AV.v (.int .i64 0),AV.v (.int .i64 0),.sl 0 [] .nil,.sl 0 [] .nil,AV.v (.int .i64 0),AV.v (.int .i64 0),AV.v (.int .i64 0)]).cells=[AV.v (.int .i64 0),AV.v (.int .i64 0),.sl 0 [] .nil,.sl 0 [] .nil,AV.v (.int .i64 0),AV.v (.int .i64 0),AV.v (.int .i64 0)]:=rfl
 refine Q1 (fun ε σ=>(ε 1=aInts inp∧ε 2=aInt fuel∧ε 3=.ref 0 0 0∧ε 7=.ref 1 0 0)∧σ=[.obj 0 (aPr m fs),.obj 0 [AV.v (.int .i64 0),AV.v (.int .i64 0),.sl 0 [] .nil,.sl 0 [] .nil,AV.v (.int .i64 0),AV.v (.int .i64 0),AV.v (.int .i64 0)]]) ?_ ?_
 ·intro N X R hN
  push_cast (disch:=omega)
  refine Qd ?_
  push_cast (disch:=omega)[hac]
  refine Qb ?_
  push_cast (disch:=omega)
  exact hN _ _ ⟨by push_cast (disch:=omega),rfl⟩
 rintro ε σ ⟨hρ,rfl⟩
 refine Q1 (fun ε σ=>∃(j:Nat) (t u:Tok),(ε 1=aInts inp∧ε 2=aInt fuel∧ε 3=.ref 0 0 0∧ε 7=.ref 1 0 0∧ε 8=.ref j 0 0∧ε 9=.v (.int .i64 e))∧tokX t=true∧tokX u=true∧1 < j∧σ[0]?=some (.obj 0 (aPr m fs)) ∧
   σ[1]?=some (.obj 0 [AV.v (.int .i64 0),AV.v (.int .i64 0),.sl 0 [] .nil,.sl 0 [] .nil,AV.v (.int .i64 0),AV.v (.int .i64 0),AV.v (.int .i64 0)])∧σ[j]?=some (.obj 0 (aOcT V t u))) ?_ ?_
 ·intro N X R hN
  push_cast (disch:=omega)[hρ,cellsPr]
  refine Z31 hE hpu ?_
  rintro a τ ⟨t,u,ht,hu,rfl⟩
  have q0:([Res.obj 0 (aPr m fs),Res.obj 0 [AV.v (.int .i64 0),AV.v (.int .i64 0),.sl 0 [] .nil,.sl 0 [] .nil,AV.v (.int .i64 0),AV.v (.int .i64 0),AV.v (.int .i64 0)]]++τ.map (Res.shift (List.length [Res.obj 0 (aPr m fs),Res.obj 0 [AV.v (.int .i64 0),AV.v (.int .i64 0),.sl 0 [] .nil,.sl 0 [] .nil,AV.v (.int .i64 0),AV.v (.int .i64 0),AV.v (.int .i64 0)]])))[0]?=some (Res.obj 0 (aPr m fs)):=rfl
  have q1:([Res.obj 0 (aPr m fs),Res.obj 0 [AV.v (.int .i64 0),AV.v (.int .i64 0),.sl 0 [] .nil,.sl 0 [] .nil,AV.v (.int .i64 0),AV.v (.int .i64 0),AV.v (.int .i64 0)]]++τ.map (Res.shift (List.length [Res.obj 0 (aPr m fs),Res.obj 0 [AV.v (.int .i64 0),AV.v (.int .i64 0),.sl 0 [] .nil,.sl 0 [] .nil,AV.v (.int .i64 0),AV.v (.int .i64 0),AV.v (.int .i64 0)]])))[1]?=some (Res.obj 0 [AV.v (.int .i64 0),AV.v (.int .i64 0),.sl 0 [] .nil,.sl 0 [] .nil,AV.v (.int .i64 0),AV.v (.int .i64 0),AV.v (.int .i64 0)]):=rfl
  have q2:1 < ([Res.obj 0 (aPr m fs),Res.obj 0 [AV.v (.int .i64 0),AV.v (.int .i64 0),.sl 0 [] .nil,.sl 0 [] .nil,AV.v (.int .i64 0),AV.v (.int .i64 0),AV.v (.int .i64 0)]]++τ.map (Res.shift (List.length [Res.obj 0 (aPr m fs),Res.obj 0 [AV.v (.int .i64 0),AV.v (.int .i64 0),.sl 0 [] .nil,.sl 0 [] .nil,AV.v (.int .i64 0),AV.v (.int .i64 0),AV.v (.int .i64 0)]]))).length:=by simp
  generalize [Res.obj 0 (aPr m fs),Res.obj 0 [AV.v (.int .i64 0),AV.v (.int .i64 0),.sl 0 [] .nil,.sl 0 [] .nil,AV.v (.int .i64 0),AV.v (.int .i64 0),AV.v (.int .i64 0)]]++τ.map (Res.shift (List.length [Res.obj 0 (aPr m fs),Res.obj 0 [AV.v (.int .i64 0),AV.v (.int .i64 0),.sl 0 [] .nil,.sl 0 [] .nil,AV.v (.int .i64 0),AV.v (.int .i64 0),AV.v (.int .i64 0)]]))=σ0 at q0 q1 q2 ⊢
  have hsh:∀k:Nat,AV.shift k (.tup [.agg (aOcT V t u),aInt e])=.tup [.agg (aOcT V (t.shift k) (u.shift k)),aInt e]:=fun k=>by
   have i1:=Z56 k V.out
   have i2:=Z56 k V.data
   simp only[aOcT,AV.shift,AV.shiftL,i1,i2,aInt]
  rw[hsh]
  have ht':∀k:Nat,tokX (t.shift k)=true:=fun k=>by cases t<;>first|rfl|simp[tokX] at ht
  have hu':∀k:Nat,tokX (u.shift k)=true:=fun k=>by cases u<;>first|rfl|simp[tokX] at hu
  push_cast (disch:=omega)[aInt]
  refine Qb ?_
  push_cast (disch:=omega)
  refine Q5 (cs:=[AV.v (.int .i64 0),AV.v (.int .i64 0),.sl 0 [] .nil,.sl 0 [] .nil,AV.v (.int .i64 0),AV.v (.int .i64 0),AV.v (.int .i64 0)]) rfl rfl (Qc _ _) (by decide) ?_
  push_cast (disch:=omega)[Z09]
  refine hN _ _ ⟨σ0.length,t.shift (1+1),u.shift (1+1),by push_cast (disch:=omega)[hρ],ht' _,hu' _,?_,?_,?_,?_⟩
  ·exact q2
  ·exact Q7 q0
  ·exact Q7 q1
  ·exact Qc _ _
 clear hρ ε
 rintro ε σ ⟨j,t,u,hρ,ht,hu,hj,h0,h1,hJ⟩
 have g0:(aOcT V t u)[0]?=some (.v (.int .i64 V.status)):=rfl
 have hc7:cellsA (some 7) (aOcT V t u)=some (.agg (aOcT V t u)):=rfl
 have hex:=ocT_exact V ht hu
 have hsetO:setAtA [AV.v (.int .i64 0),AV.v (.int .i64 0),.sl 0 [] .nil,.sl 0 [] .nil,AV.v (.int .i64 0),AV.v (.int .i64 0),AV.v (.int .i64 0)] 0 (aOcT V t u)=aOcT V t u:=rfl
 have h1':=Q4 (o:=Res.obj 0 (aOcT V t u)) h1
 have fin:∀(σ:Kx.St) (v w:Int),v=w→∃is,(AV.res (Go.Kx.freeze is σ) (.tup [.v (.int .i64 v),.agg (aOcT V t u)])).pure=true∧AV.res (Go.Kx.freeze is σ) (.tup [.v (.int .i64 v),.agg (aOcT V t u)])=.tup [aInt w,.agg (aOc V)]:=by
  rintro σ v w rfl
  exact Ya [] rfl (by simp only[AV.res];rw[show AV.resL _ (aOcT V t u)=aOc V from oc_res _ _ t u]) rfl (by simp[AV.pure,aOc_pure]) rfl
 refine Qg (fun ε σ'=>(ε 1=aInts inp∧ε 2=aInt fuel∧ε 3=.ref 0 0 0∧ε 7=.ref 1 0 0∧ε 8=.ref j 0 0)∧σ'=σ∧e=0∧V.status≠4∧V.status=1) ?_ ?_
 ·intro N hN
  by_cases c1:e=0
  ·by_cases c2:V.status=4
   ·have hv:judgeV e V cv=2:=by unfold judgeV;rw[if_neg (by simpa using c1),if_pos c2]
    rw[hv]
    rw[c2] at g0
    push_cast (disch:=omega)[hρ,c1,hJ,g0,hc7]
    refine Q5 (n:=7) rfl rfl h1 (by decide) ?_
    rw[hsetO]
    push_cast (disch:=omega)[hρ,h1',hc7]
    exact fin _ _ _ rfl
   ·by_cases c3:V.status=1
    ·have g0':=g0
     rw[c3] at g0'
     push_cast (disch:=omega)[hρ,c1,hJ,g0']
     exact hN _ _ ⟨by push_cast (disch:=omega)[hρ],rfl,c1,c2,c3⟩
    ·have hv:judgeV e V cv=3:=by unfold judgeV;rw[if_neg (by simpa using c1),if_neg c2,if_pos c3]
     rw[hv]
     push_cast (disch:=omega)[hρ,c1,hJ,g0,hc7,c2,c3]
     refine Q5 (n:=7) rfl rfl h1 (by decide) ?_
     rw[hsetO]
     push_cast (disch:=omega)[hρ,h1',hc7]
     exact fin _ _ _ rfl
  ·have hv:judgeV e V cv=4:=by unfold judgeV;rw[if_pos c1]
   rw[hv]
   push_cast (disch:=omega)[hρ,c1,hJ,hc7]
   refine Q5 (n:=7) rfl rfl h1 (by decide) ?_
   rw[hsetO]
   push_cast (disch:=omega)[hρ,h1',hc7]
   exact fin _ _ _ rfl
 clear hρ ε
 rintro ε σ' ⟨hρ,e1,c1,c2,c3⟩
 rw[e1]
 have hv:judgeV e V cv=cv:=by unfold judgeV;rw[if_neg (by simpa using c1),if_neg c2,if_neg (by simpa using c3)]
 rw[hv]
 push_cast (disch:=omega)[hρ,h0,cellsPr,hJ,hc7]
 refine Q3 hM ?_
 rintro a rfl
 push_cast (disch:=omega)[hρ]
 refine ⟨Q8 (by push_cast (disch:=omega)[hρ,hJ,hc7,hex]),?_⟩
 refine Q3 hC ?_
 rintro a rfl
 push_cast (disch:=omega)[hρ,aInt]
 refine ⟨Q8 (by push_cast (disch:=omega)[hρ,hJ,hc7,hex]),?_⟩
 refine Q5 (n:=7) rfl rfl h1 (by decide) ?_
 rw[hsetO]
 push_cast (disch:=omega)[hρ,h1',hc7]
 exact fin _ _ _ rfl
end Go.Proofs.YtncdnegdlkmicaaGreat.Rc
namespace Go.Proofs.YtncdnegdlkmicaaGreat.Rc
set_option linter.unusedVariables false
set_option linter.unusedSimpArgs false
open Go Go.Kx Go.Proofs
open Go.Proofs.YtncdnegdlkmicaaGreat.Rx hiding Ql Q03 Qe QK mixed
open Go.Proofs.YtncdnegdlkmicaaGreat.St (Ac aAc Qt Z2 Q85 Z44 Nd aNd Zw X8)
def pb:List (List Ix):=[[⟨20,1,0,0⟩,⟨20,1,0,0⟩,⟨0,0,0,0⟩],[⟨14,1,1,0⟩,⟨0,0,0,0⟩]]
def pc:List (List Ix):=[[⟨20,1,0,0⟩,⟨21,0,0,0⟩,⟨20,1,0,0⟩,⟨0,0,0,0⟩],[⟨14,1,1,0⟩,⟨0,0,0,0⟩]]
theorem pb_e:runE 1 pb []=0:=by kernel_rfl
theorem pc_e:runE 1 pc []=0:=by kernel_rfl
theorem pb_s:(runV 1 pb [] 99).status=1:=by kernel_rfl
theorem pc_s:(runV 1 pc [] 99).status=1:=by kernel_rfl
theorem pb_m:(runV 1 pb [] 99).marks=[(4,0),(2,0),(5,0),(4,0),(2,0),(5,0),(6,0)]:=by kernel_rfl
theorem pc_m:(runV 1 pc [] 99).marks=[(4,0),(2,0),(5,0),(6,0),(4,0),(2,0),(5,0),(6,0)]:=by kernel_rfl
def xb:List (List Int):=[[],[0],[0],[2],[2],[4,1,3]]
def xc:List (List Int):=[[],[0],[0],[2,1],[3],[3],[5,4]]
def lb:List Ac:=[⟨1,0,true⟩,⟨3,0,true⟩]
def lc:List Ac:=[⟨1,0,true⟩,⟨4,0,true⟩]
def mb:List St.Mk:=toMk [(4,0),(2,0),(5,0),(4,0),(2,0),(5,0),(6,0)]
def mc:List St.Mk:=toMk [(4,0),(2,0),(5,0),(6,0),(4,0),(2,0),(5,0),(6,0)]
theorem mb_b:(St.buildR mb).1=0∧(St.buildR mb).2.preds=xb∧(St.buildR mb).2.accs=lb:=⟨by kernel_rfl,by kernel_rfl,by kernel_rfl⟩
theorem mc_b:(St.buildR mc).1=0∧(St.buildR mc).2.preds=xc∧(St.buildR mc).2.accs=lc:=⟨by kernel_rfl,by kernel_rfl,by kernel_rfl⟩
theorem fc_b:FC (clash xb lb) 2 (some (0,1)):=⟨by decide,by decide,by decide +kernel,fun j h=>absurd h (by simp),fun k hk j hj=>by simp only at hk;omega⟩
theorem fc_c:FC (clash xc lc) 2 none:=fun k hk i hi=>by
 have e:k=1∧i=0:=by omega
 obtain ⟨rfl,rfl⟩:=e
 decide +kernel
theorem nb {xss:List (List Int)} {l:List Ac} (h:l.all (fun a=>decide (0≤a.st)&&decide (a.st < xss.length))=true):¬badS xss l:=by
 rintro ⟨a,ha,hb⟩
 have:=List.all_eq_true.1 h a ha
 simp at this
 omega
theorem find_b:FindR xb lb ⟨0,1,0,true,0⟩:=.inr (.inr ⟨by decide,nb (by decide),some (0,1),fc_b,rfl⟩)
theorem find_c:FindR xc lc ⟨0,0,0,false,0⟩:=.inr (.inr ⟨by decide,nb (by decide),none,fc_c,rfl⟩)
def xd:List (List Int):=[[],[0],[0]]
def ld:List Ac:=[⟨1,4,true⟩,⟨2,4,false⟩]
theorem fc_d:FC (clash xd ld) 2 (some (0,1)):=⟨by decide,by decide,by decide +kernel,fun j h=>absurd h (by simp),fun k hk j hj=>by simp only at hk;omega⟩
theorem find_d:FindR xd ld ⟨0,1,4,true,0⟩:=.inr (.inr ⟨by decide,nb (by decide),some (0,1),fc_d,rfl⟩)
theorem pb_ok:okF pb:=⟨by decide,by decide⟩
theorem pc_ok:okF pc:=⟨by decide,by decide⟩
theorem judge_b:FnP Tryz.prog 6 [.agg (aPr 1 pb),aInts [],aInt 99] fun a=>∃V:Sv,V.status=1∧a=.tup [aInt 1,.agg (aOc V)]:=by
 have em:toMk (runV 1 pb [] 99).marks=mb:=by rw[pb_m];rfl
 obtain ⟨b1,b2,b3⟩:=mb_b
 have hB:Bok (St.buildR (toMk (runV 1 pb [] 99).marks)).2:=by
  rw[em]
  exact ⟨by rw[b2];decide,by rw[b2];decide,by rw[b3];decide⟩
 have hJ:=Z45 1 pb [] 99 pb_ok (by simp) (by rw[pb_m];decide) hB (r:=⟨0,1,0,true,0⟩) (by rw[em,b2,b3];exact find_b)
 rw[em,b1,b3,pb_e] at hJ
 refine ⟨hJ.1,hJ.2.mono ?_⟩
 rintro a σ ⟨hp,rfl⟩
 refine ⟨hp,_,pb_s,?_⟩
 have:judgeV 0 (runV 1 pb [] 99) (cleanV 0 lb.length true)=1:=by unfold judgeV;rw[pb_s];rfl
 rw[this]
theorem judge_c:FnP Tryz.prog 6 [.agg (aPr 1 pc),aInts [],aInt 99] fun a=>∃V:Sv,V.status=1∧a=.tup [aInt 0,.agg (aOc V)]:=by
 have em:toMk (runV 1 pc [] 99).marks=mc:=by rw[pc_m];rfl
 obtain ⟨b1,b2,b3⟩:=mc_b
 have hB:Bok (St.buildR (toMk (runV 1 pc [] 99).marks)).2:=by
  rw[em]
  exact ⟨by rw[b2];decide,by rw[b2];decide,by rw[b3];decide⟩
 have hJ:=Z45 1 pc [] 99 pc_ok (by simp) (by rw[pc_m];decide) hB (r:=⟨0,0,0,false,0⟩) (by rw[em,b2,b3];exact find_c)
 rw[em,b1,b3,pc_e] at hJ
 refine ⟨hJ.1,hJ.2.mono ?_⟩
 rintro a σ ⟨hp,rfl⟩
 refine ⟨hp,_,pc_s,?_⟩
 have:judgeV 0 (runV 1 pc [] 99) (cleanV 0 lc.length false)=0:=by unfold judgeV;rw[pc_s];rfl
 rw[this]
def cb:List AV:=[.sl 3 (aIx ⟨20,1,0,0⟩++aIx ⟨20,1,0,0⟩++aIx ⟨0,0,0,0⟩) .full,.sl 2 (aIx ⟨14,1,1,0⟩++aIx ⟨0,0,0,0⟩) .full]
theorem i3 (a b c:Int):fillA [AV.v (.int .i64 0),AV.v (.int .i64 0),AV.v (.int .i64 0),AV.v (.int .i64 0)] [(0,1),(1,1),(2,1)] [.v (.int .i64 a),.v (.int .i64 b),.v (.int .i64 c)]=some (aIx ⟨a,b,c,0⟩):=rfl
theorem i2 (a b:Int):fillA [AV.v (.int .i64 0),AV.v (.int .i64 0),AV.v (.int .i64 0),AV.v (.int .i64 0)] [(0,1),(1,1)] [.v (.int .i64 a),.v (.int .i64 b)]=some (aIx ⟨a,b,0,0⟩):=rfl
theorem i1 (a:Int):fillA [AV.v (.int .i64 0),AV.v (.int .i64 0),AV.v (.int .i64 0),AV.v (.int .i64 0)] [(0,1)] [.v (.int .i64 a)]=some (aIx ⟨a,0,0,0⟩):=rfl
theorem ixc (x:Ix):(AV.agg (aIx x)).cells=aIx x:=rfl
theorem both_o (σ:Kx.St):FnG Tryz.prog 11 [] σ fun a σ'=>a=.agg [.v (.int .i64 1),.ms (σ.length+1) 0 0 2 1]∧σ'=σ++[.obj 0 [.v (.int .i64 1),.ms (σ.length+1) 0 0 2 1]]++[.obj 0 cb]:=by
 refine Qk Xb mixed rfl ?_
 simp only[Z8]
 refine Q1 (fun ε σ'=>ε 0=.ref σ.length 0 0∧σ'=σ++[.obj 0 [.v (.int .i64 0),.sl 0 [] .nil]]) ?_ ?_
 ·intro N X R hN
  push_cast (disch:=omega)
  refine Qb ?_
  push_cast (disch:=omega)
  exact hN _ _ ⟨by push_cast (disch:=omega),rfl⟩
 rintro ε σ' ⟨hρ,rfl⟩
 have hms:fillA [AV.v (.int .i64 0),.sl 0 [] .nil] [(0,1),(1,1)] [.v (.int .i64 1),.ms (σ.length+1) 0 0 2 1]=some [.v (.int .i64 1),.ms (σ.length+1) 0 0 2 1]:=rfl
 push_cast (disch:=omega)[i3,i2,i1]
 refine Qf (sz:=4) (by intro a ha;simp at ha;rcases ha with rfl|rfl|rfl<;>rfl) (by simp) ?_
 push_cast (disch:=omega)[i3,i2,i1,ixc]
 refine Qf (sz:=4) (by intro a ha;simp at ha;rcases ha with rfl|rfl<;>rfl) (by simp) ?_
 push_cast (disch:=omega)[i3,i2,i1,ixc]
 refine wpa_bslo (sz:=1) (by intro a ha;simp at ha;rcases ha with rfl|rfl<;>rfl) (by simp) ?_
 push_cast (disch:=omega)[hρ,List.length_append,hms]
 refine Q5 (cs:=[.v (.int .i64 0),.sl 0 [] .nil]) rfl rfl (Q7 (Qc _ _)) (by decide) ?_
 have hs2:∀a b:AV,setAtA [AV.v (.int .i64 0),.sl 0 [] .nil] 0 [a,b]=[a,b]:=fun _ _=>rfl
 rw[hs2]
 have hset:((σ++[Res.obj 0 [.v (.int .i64 0),.sl 0 [] .nil]])++[Res.obj 0 cb]).set σ.length (Res.obj 0 [.v (.int .i64 1),.ms (σ.length+1) 0 0 2 1])=σ++[.obj 0 [.v (.int .i64 1),.ms (σ.length+1) 0 0 2 1]]++[.obj 0 cb]:=by simp
 have h0:(σ++[Res.obj 0 [.v (.int .i64 1),.ms (σ.length+1) 0 0 2 1]]++[Res.obj 0 cb])[σ.length]?=some (.obj 0 [.v (.int .i64 1),.ms (σ.length+1) 0 0 2 1]):=Q7 (Qc _ _)
 have hc2:∀a b:AV,cellsA (some 2) [a,b]=some (.agg [a,b]):=fun _ _=>rfl
 show act (goRA _ _ _ (((σ++[Res.obj 0 [.v (.int .i64 0),.sl 0 [] .nil]])++[Res.obj 0 cb]).set σ.length (Res.obj 0 [.v (.int .i64 1),.ms (σ.length+1) 0 0 2 1])) _)
 rw[hset]
 push_cast (disch:=omega)[hρ,h0,hc2]
 exact trivial
theorem Z03 {σ:Kx.St} {i w:Nat} {cs:List AV} (hi:σ[i]?=some (.obj w cs)):Go.Kx.freeze [i] σ=σ.set i (.frz w (AV.resL σ cs)):=by
 simp only[Go.Kx.freeze,List.foldl_cons,List.foldl_nil,freeze1,hi]
def Q61:Fun:=⟨69,[0,1,7,2,3,4,5,8,9],[.tmp 0],
 .seq (.reg (straight [⟨some 0,none,.pur .mov [.const (.bool false)]⟩]) [0])
 (.seq (.reg (straight [⟨some 10,none,.eff (.bsl 3 1) [.const (.int .i64 0)]⟩,⟨some 11,none,.eff (.bsl 3 1) [.const (.int .i64 0)]⟩,⟨some 12,none,.eff (.bsl 25 1) [.const (.slice none 0 0),.tmp 10,.tmp 11]⟩,⟨some 13,none,.pur (.bld [.int .i64 0,.int .i64 0,.bool false] [(0,1),(1,1),(2,1)]) [.const (.int .i64 1),.const (.int .i64 4),.const (.bool true)]⟩,⟨some 14,none,.pur (.bld [.int .i64 0,.int .i64 0,.bool false] [(0,1),(1,1)]) [.const (.int .i64 2),.const (.int .i64 4)]⟩,⟨some 15,none,.eff (.bsl 43 3) [.tmp 13,.tmp 14]⟩,⟨some 16,none,.pur (.bld [.slice none 0 0,.slice none 0 0,.slice none 0 0] [(0,1),(2,1)]) [.tmp 12,.tmp 15]⟩,⟨some 1,none,.eff (.new 47 [.slice none 0 0,.slice none 0 0,.slice none 0 0]) []⟩,⟨none,none,.eff (.st 3) [.tmp 1,.tmp 16]⟩]) [1])
 (.seq (.reg (straight [⟨some 18,none,.ld (some 3) (.tmp 1)⟩,⟨some 19,none,.eff (.call 10) [.tmp 18]⟩,⟨some 17,none,.pur .mov [.tmp 19]⟩,⟨some 20,none,.pur (.ext 0) [.tmp 17]⟩,⟨some 21,none,.pur (.ext 1) [.tmp 17]⟩,⟨some 22,none,.pur (.ext 2) [.tmp 17]⟩,⟨some 2,none,.eff (.new 49 [.int .i64 0,.int .i64 0,.int .i64 0]) []⟩,⟨none,none,.eff (.st 3) [.tmp 2,.tmp 20]⟩,⟨some 3,none,.pur .mov [.tmp 21]⟩,⟨some 4,none,.pur .mov [.tmp 22]⟩]) [2,3,4])
 (.seq (.reg (straight [⟨some 24,none,.eff (.call 11) []⟩,⟨some 25,none,.eff (.call 6) [.tmp 24,.const (.slice none 0 0),.const (.int .i64 99)]⟩,⟨some 23,none,.pur .mov [.tmp 25]⟩,⟨some 26,none,.pur (.ext 0) [.tmp 23]⟩,⟨some 27,none,.pur (.ext 1) [.tmp 23]⟩,⟨some 6,none,.eff (.new 29 [.int .i64 0,.int .i64 0,.slice none 0 0,.slice none 0 0,.int .i64 0,.int .i64 0,.int .i64 0]) []⟩,⟨some 5,none,.pur .mov [.tmp 26]⟩,⟨none,none,.eff (.st 7) [.tmp 6,.tmp 27]⟩]) [5])
 (.seq (.reg (straight [⟨some 28,none,.eff (.call 11) []⟩,⟨some 7,none,.eff (.new 24 [.int .i64 0,.slice none 0 0]) []⟩,⟨none,none,.eff (.st 2) [.tmp 7,.tmp 28]⟩]) [7])
 (.seq (.reg (.run ⟨some 29,none,.pur (.fla 1) [.tmp 7]⟩ (.run ⟨some 30,none,.ld none (.tmp 29)⟩ (.run ⟨some 31,none,.pur (.bld [.int .i64 0,.int .i64 0,.int .i64 0,.int .i64 0] [(0,1),(1,1)]) [.const (.int .i64 20),.const (.int .i64 1)]⟩ (.run ⟨some 32,none,.pur (.bld [.int .i64 0,.int .i64 0,.int .i64 0,.int .i64 0] [(0,1)]) [.const (.int .i64 21)]⟩ (.run ⟨some 34,none,.pur (.fla 1) [.tmp 7]⟩ (.run ⟨some 35,none,.ld none (.tmp 34)⟩ (.run ⟨some 36,none,.pur (.ixa 1) [.tmp 35,.const (.int .i64 0)]⟩ (.run ⟨some 37,none,.ld none (.tmp 36)⟩ (.run ⟨some 38,none,.pur (.slc 4 true false) [.tmp 37,.const (.int .i64 1)]⟩ (.eff ⟨some 33,none,.eff (.bsl 56 4) [.tmp 31,.tmp 32]⟩ [] (.eff ⟨some 39,none,.eff (.app 56 4 32 [.int .i64 0,.int .i64 0,.int .i64 0,.int .i64 0]) [.tmp 33,.tmp 38]⟩ [⟨some 30,none,.ld none (.tmp 29)⟩] (.run ⟨some 40,none,.pur (.ixa 1) [.tmp 30,.const (.int .i64 0)]⟩ (.eff ⟨none,none,.eff (.st 1) [.tmp 40,.tmp 39]⟩ [] .done))))))))))))) [])
 (.seq (.reg (straight [⟨some 42,none,.ld (some 2) (.tmp 7)⟩,⟨some 43,none,.eff (.call 6) [.tmp 42,.const (.slice none 0 0),.const (.int .i64 99)]⟩,⟨some 41,none,.pur .mov [.tmp 43]⟩,⟨some 44,none,.pur (.ext 0) [.tmp 41]⟩,⟨some 45,none,.pur (.ext 1) [.tmp 41]⟩,⟨some 9,none,.eff (.new 29 [.int .i64 0,.int .i64 0,.slice none 0 0,.slice none 0 0,.int .i64 0,.int .i64 0,.int .i64 0]) []⟩,⟨some 8,none,.pur .mov [.tmp 44]⟩,⟨none,none,.eff (.st 7) [.tmp 9,.tmp 45]⟩]) [9,8])
 (.seq (.reg (straight [⟨some 46,none,.ld (some 3) (.tmp 2)⟩,⟨some 47,none,.pur (.bld [.int .i64 0,.int .i64 0,.int .i64 0] [(0,1),(1,1),(2,1)]) [.const (.int .i64 0),.const (.int .i64 1),.const (.int .i64 4)]⟩,⟨some 48,none,.pur (.eqs false [.int .i64,.int .i64,.int .i64]) [.tmp 46,.tmp 47]⟩,⟨some 49,none,.pur .mov [.tmp 48]⟩,⟨some 50,some (49,true),.pur .mov [.tmp 3]⟩,⟨some 51,none,.pur .pick [.tmp 49,.tmp 50,.const (.bool false)]⟩,⟨some 52,none,.pur .mov [.tmp 51]⟩,⟨some 53,some (52,true),.pur .mov [.tmp 4]⟩,⟨some 54,some (52,true),.pur (.bin .eql) [.tmp 53,.const (.int .i64 0)]⟩,⟨some 55,none,.pur .pick [.tmp 52,.tmp 54,.const (.bool false)]⟩,⟨some 56,none,.pur .mov [.tmp 55]⟩,⟨some 57,some (56,true),.pur .mov [.tmp 5]⟩,⟨some 58,some (56,true),.pur (.bin .eql) [.tmp 57,.const (.int .i64 1)]⟩,⟨some 59,none,.pur .pick [.tmp 56,.tmp 58,.const (.bool false)]⟩,⟨some 60,none,.pur .mov [.tmp 59]⟩,⟨some 61,some (60,true),.pur .mov [.tmp 8]⟩,⟨some 62,some (60,true),.pur (.bin .eql) [.tmp 61,.const (.int .i64 0)]⟩,⟨some 63,none,.pur .pick [.tmp 60,.tmp 62,.const (.bool false)]⟩,⟨some 64,none,.pur .mov [.tmp 63]⟩,⟨some 65,some (64,true),.pur (.fla 0) [.tmp 9]⟩,⟨some 66,some (64,true),.ld none (.tmp 65)⟩,⟨some 67,some (64,true),.pur (.bin .eql) [.tmp 66,.const (.int .i64 1)]⟩,⟨some 68,none,.pur .pick [.tmp 64,.tmp 67,.const (.bool false)]⟩,⟨some 0,none,.pur .mov [.tmp 68]⟩]) [0])
 (.ret))))))))⟩
theorem Z46:(compF Tryz.prog 4).map Fun.slim=some Q61:=by kernel_rfl
def cd:List AV:=[.sl 3 [.sl 0 [] .nil,.sl 1 [.v (.int .i64 0)] .full,.sl 1 [.v (.int .i64 0)] .full] .full,.sl 0 [] .nil,.sl 2 (aAc ⟨1,4,true⟩++aAc ⟨2,4,false⟩) .full]
def z7:List AV:=[AV.v (.int .i64 0),AV.v (.int .i64 0),.sl 0 [] .nil,.sl 0 [] .nil,AV.v (.int .i64 0),AV.v (.int .i64 0),AV.v (.int .i64 0)]
theorem weak_pr (σ:Kx.St) {j:Nat} {l1 l2:List Ix} {cs:List AV} (hj:σ[j]?=some (.frz 0 cs)) (hcs:cs=[aIxs l1,aIxs l2]):weak σ [true,true] [.agg [.v (.int .i64 1),.ms j 0 0 2 1],.sl 0 [] .nil,.v (.int .i64 99)]=[.agg (aPr 1 [l1,l2]),aInts [],aInt 99]:=by
 subst hcs
 have hr:AV.res σ (.ms j 0 0 2 1)=.sl 2 [aIxs l1,aIxs l2] .none:=X83 hj rfl
 show [AV.agg [AV.v (.int .i64 1),AV.res σ (.ms j 0 0 2 1)],AV.res σ (.sl 0 [] .nil),.v (.int .i64 99)]=_
 rw[hr]
 rfl
set_option maxHeartbeats 16000000 in
theorem YI:FnP Tryz.prog 4 [] fun a=>a=aBool true:=by
 refine ⟨rfl,FnG.fz ?_⟩
 refine Z11 Z46 mixed rfl ?_
 simp only[Q61]
 refine Q1 (fun ε σ=>σ=[]) ?_ ?_
 ·intro N X R hN
  simp (maxSteps:=999999) -implicitDefEqProofs (disch:=omega) only[push_cast,↓reduceIte,Nat.reduceEqDiff,reduceCtorEq,wz]
  exact hN _ _ rfl
 rintro ε σ rfl
 have f2:∀a b:Int,fillA [AV.v (.int .i64 0),AV.v (.int .i64 0),AV.v (.bool false)] [(0,1),(1,1)] [.v (.int .i64 a),.v (.int .i64 b)]=some (aAc ⟨a,b,false⟩):=fun _ _=>rfl
 have f3:∀(a b:Int) (c:Bool),fillA [AV.v (.int .i64 0),AV.v (.int .i64 0),AV.v (.bool false)] [(0,1),(1,1),(2,1)] [.v (.int .i64 a),.v (.int .i64 b),.v (.bool c)]=some (aAc ⟨a,b,c⟩):=fun _ _ _=>rfl
 have cac:∀c:Ac,(AV.agg (aAc c)).cells=aAc c:=fun _=>rfl
 have cin:∀n:Int,(AV.v (.int .i64 n)).cells=[.v (.int .i64 n)]:=fun _=>rfl
 have csl:∀(n:Nat) (cs:List AV) (t:Tok),(AV.sl n cs t).cells=[.sl n cs t]:=fun _ _ _=>rfl
 have fd:∀(n m:Nat) (cs ds:List AV) (t u:Tok),fillA [AV.sl 0 [] .nil,AV.sl 0 [] .nil,AV.sl 0 [] .nil] [(0,1),(2,1)] [.sl n cs t,.sl m ds u]=some [.sl n cs t,.sl 0 [] .nil,.sl m ds u]:=fun _ _ _ _ _ _=>rfl
 refine Q1 (fun ε σ=>ε 1=.ref 0 0 0∧σ=[.obj 0 cd]) ?_ ?_
 ·intro N X R hN
  simp (maxSteps:=999999) -implicitDefEqProofs (disch:=omega) only[push_cast,↓reduceIte,Nat.reduceEqDiff,reduceCtorEq,wz,f2,f3]
  refine Qf (sz:=1) (by intro a ha;simp at ha;subst ha;rfl) (by simp) ?_
  simp (maxSteps:=999999) -implicitDefEqProofs (disch:=omega) only[push_cast,↓reduceIte,Nat.reduceEqDiff,reduceCtorEq,wz,f2,f3,cin,List.append_nil]
  refine Qf (sz:=1) (by intro a ha;simp at ha;subst ha;rfl) (by simp) ?_
  simp (maxSteps:=999999) -implicitDefEqProofs (disch:=omega) only[push_cast,↓reduceIte,Nat.reduceEqDiff,reduceCtorEq,wz,f2,f3,cin,List.append_nil]
  refine Qf (sz:=1) (by intro a ha;simp at ha;rcases ha with rfl|rfl|rfl<;>rfl) (by simp) ?_
  simp (maxSteps:=999999) -implicitDefEqProofs (disch:=omega) only[push_cast,↓reduceIte,Nat.reduceEqDiff,reduceCtorEq,wz,f2,f3,cin,csl,List.append_nil]
  refine Qf (sz:=3) (by intro a ha;simp at ha;rcases ha with rfl|rfl<;>rfl) (by simp) ?_
  simp (maxSteps:=999999) -implicitDefEqProofs (disch:=omega) only[push_cast,↓reduceIte,Nat.reduceEqDiff,reduceCtorEq,wz,f2,f3,cin,csl,cac,fd,List.append_nil]
  refine Qb ?_
  simp (maxSteps:=999999) -implicitDefEqProofs (disch:=omega) only[push_cast,↓reduceIte,Nat.reduceEqDiff,reduceCtorEq,wz]
  refine Q5 (n:=3) (cs:=[AV.sl 0 [] .nil,AV.sl 0 [] .nil,AV.sl 0 [] .nil]) rfl rfl rfl (by decide) ?_
  simp (maxSteps:=999999) -implicitDefEqProofs (disch:=omega) only[push_cast,↓reduceIte,Nat.reduceEqDiff,reduceCtorEq,wz]
  exact hN _ _ ⟨by simp (maxSteps:=999999) -implicitDefEqProofs (disch:=omega) only[push_cast,↓reduceIte,Nat.reduceEqDiff,reduceCtorEq,wz],rfl⟩
 clear ε
 rintro ε σ ⟨hρ,rfl⟩
 have hc3:cellsA (some 3) cd=some (.agg cd):=rfl
 have hF:=X69 xd (.sl 0 [] .none) ld rfl (by decide) (by decide) (by decide)
 refine Q1 (fun ε σ=>(ε 2=.ref 1 0 0∧ε 3=.v (.bool true)∧ε 4=.v (.int .i64 0))∧σ=[.obj 0 cd,.obj 0 [AV.v (.int .i64 0),AV.v (.int .i64 1),AV.v (.int .i64 4)]]) ?_ ?_
 ·intro N X R hN
  simp (maxSteps:=999999) -implicitDefEqProofs (disch:=omega) only[push_cast,↓reduceIte,Nat.reduceEqDiff,reduceCtorEq,wz,hρ,hc3]
  refine Q00 [] [true] hF rfl ?_
  rintro a ⟨r',rfl,hr'⟩
  have e1:=hr'.uniq find_d
  subst e1
  rw[fzn]
  simp (maxSteps:=999999) -implicitDefEqProofs (disch:=omega) only[push_cast,↓reduceIte,Nat.reduceEqDiff,reduceCtorEq,wz,aFd]
  refine Qb ?_
  simp (maxSteps:=999999) -implicitDefEqProofs (disch:=omega) only[push_cast,↓reduceIte,Nat.reduceEqDiff,reduceCtorEq,wz]
  refine Q5 (n:=3) (cs:=[AV.v (.int .i64 0),AV.v (.int .i64 0),AV.v (.int .i64 0)]) rfl rfl rfl (by decide) ?_
  rw[set3n]
  simp (maxSteps:=999999) -implicitDefEqProofs (disch:=omega) only[push_cast,↓reduceIte,Nat.reduceEqDiff,reduceCtorEq,wz]
  exact hN _ _ ⟨by simp (maxSteps:=999999) -implicitDefEqProofs (disch:=omega) only[push_cast,↓reduceIte,Nat.reduceEqDiff,reduceCtorEq,wz,hρ],rfl⟩
 clear hρ ε
 rintro ε σ ⟨hρ,rfl⟩
 refine Q1 (fun ε σ=>(ε 2=.ref 1 0 0∧ε 3=.v (.bool true)∧ε 4=.v (.int .i64 0)∧ε 5=.v (.int .i64 1))∧σ[1]?=some (.obj 0 [AV.v (.int .i64 0),AV.v (.int .i64 1),AV.v (.int .i64 4)])) ?_ ?_
 ·intro N X R hN
  simp (maxSteps:=999999) -implicitDefEqProofs (disch:=omega) only[push_cast,↓reduceIte,Nat.reduceEqDiff,reduceCtorEq,wz,hρ]
  refine Q2 (both_o _) ?_
  rintro a σ' ⟨rfl,e1⟩
  rw[e1]
  simp (maxSteps:=999999) -implicitDefEqProofs (disch:=omega) only[push_cast,↓reduceIte,Nat.reduceEqDiff,reduceCtorEq,wz,hρ]
  refine Q00 [3] [true,true] judge_b (weak_pr _ (by rw[Z03 (w:=0) (cs:=cb) rfl];exact Q4 (r:=.obj 0 cb) rfl) rfl) ?_
  rintro a ⟨V,hV,rfl⟩
  rw[Z03 (w:=0) (cs:=cb) rfl]
  have h1:∀o:Res,(([.obj 0 cd,.obj 0 [AV.v (.int .i64 0),AV.v (.int .i64 1),AV.v (.int .i64 4)]]++[.obj 0 [.v (.int .i64 1),.ms 3 0 0 2 1]]++[.obj 0 cb]:Kx.St).set 3 o)[1]?=some (.obj 0 [AV.v (.int .i64 0),AV.v (.int .i64 1),AV.v (.int .i64 4)]):=fun _=>rfl
  simp (maxSteps:=999999) -implicitDefEqProofs (disch:=omega) only[push_cast,↓reduceIte,Nat.reduceEqDiff,reduceCtorEq,wz,aInt]
  refine Qb ?_
  simp (maxSteps:=999999) -implicitDefEqProofs (disch:=omega) only[push_cast,↓reduceIte,Nat.reduceEqDiff,reduceCtorEq,wz]
  refine Q5 (cs:=z7) rfl rfl rfl (by decide) ?_
  simp (maxSteps:=999999) -implicitDefEqProofs (disch:=omega) only[push_cast,↓reduceIte,Nat.reduceEqDiff,reduceCtorEq,wz]
  refine hN _ _ ⟨by simp (maxSteps:=999999) -implicitDefEqProofs (disch:=omega) only[push_cast,↓reduceIte,Nat.reduceEqDiff,reduceCtorEq,wz,hρ],?_⟩
  rfl
 clear hρ ε
 rintro ε σ ⟨hρ,h1⟩
 refine Q1 (fun ε σ=>∃i j,(ε 2=.ref 1 0 0∧ε 3=.v (.bool true)∧ε 4=.v (.int .i64 0)∧ε 5=.v (.int .i64 1)∧ε 7=.ref i 0 0)∧σ[1]?=some (.obj 0 [AV.v (.int .i64 0),AV.v (.int .i64 1),AV.v (.int .i64 4)]) ∧
   σ[i]?=some (.obj 0 [.v (.int .i64 1),.ms j 0 0 2 1])∧σ[j]?=some (.obj 0 cb)∧1 < j∧j < i) ?_ ?_
 ·intro N X R hN
  have hl1:=Qm h1
  simp (maxSteps:=999999) -implicitDefEqProofs (disch:=omega) only[push_cast,↓reduceIte,Nat.reduceEqDiff,reduceCtorEq,wz,hρ]
  refine Q2 (both_o _) ?_
  rintro a σ' ⟨rfl,e1⟩
  have g1:σ'[1]?=some (.obj 0 [AV.v (.int .i64 0),AV.v (.int .i64 1),AV.v (.int .i64 4)]):=by rw[e1];exact Q7 (Q7 h1)
  have g2:σ'[σ.length+1]?=some (.obj 0 cb):=by
   rw[e1]
   simp
  have g3:σ'.length=σ.length+2:=by rw[e1];simp
  simp (maxSteps:=999999) -implicitDefEqProofs (disch:=omega) only[push_cast,↓reduceIte,Nat.reduceEqDiff,reduceCtorEq,wz,hρ]
  refine Qb ?_
  simp (maxSteps:=999999) -implicitDefEqProofs (disch:=omega) only[push_cast,↓reduceIte,Nat.reduceEqDiff,reduceCtorEq,wz]
  refine Q5 (cs:=[.v (.int .i64 0),.sl 0 [] .nil]) rfl rfl (Qc _ _) (by decide) ?_
  simp (maxSteps:=999999) -implicitDefEqProofs (disch:=omega) only[push_cast,↓reduceIte,Nat.reduceEqDiff,reduceCtorEq,wz]
  exact hN _ _ ⟨σ'.length,σ.length+1,by simp (maxSteps:=999999) -implicitDefEqProofs (disch:=omega) only[push_cast,↓reduceIte,Nat.reduceEqDiff,reduceCtorEq,wz,hρ],Q7 g1,Qc _ _,Q7 g2,by omega,by omega⟩
 clear hρ ε h1
 rintro ε σ ⟨i,j,hρ,h1,hi,hj,hj1,hij⟩
 have hms:[AV.v (.int .i64 1),.ms j 0 0 2 1][1]?=some (.ms j 0 0 2 1):=rfl
 have hcb:cb[Int.toNat 0]?=some (.sl 3 (aIx ⟨20,1,0,0⟩++aIx ⟨20,1,0,0⟩++aIx ⟨0,0,0,0⟩) .full):=rfl
 refine Q1 (fun ε σ'=>(ε 2=.ref 1 0 0∧ε 3=.v (.bool true)∧ε 4=.v (.int .i64 0)∧ε 5=.v (.int .i64 1)∧ε 7=.ref i 0 0)∧∃t:Tok,σ'=σ.set j (.obj 0 [.sl 4 (aIx ⟨20,1,0,0⟩++aIx ⟨21,0,0,0⟩++aIx ⟨20,1,0,0⟩++aIx ⟨0,0,0,0⟩) t,.sl 2 (aIx ⟨14,1,1,0⟩++aIx ⟨0,0,0,0⟩) .full])) ?_ ?_
 ·intro N X R hN
  simp (maxSteps:=999999) -implicitDefEqProofs (disch:=omega) only[push_cast,↓reduceIte,Nat.reduceEqDiff,reduceCtorEq,wz,hρ,hi,hms,i2,i1,hj,hcb]
  refine Qf (sz:=4) (by intro a ha;simp at ha;rcases ha with rfl|rfl<;>rfl) (by simp) ?_
  simp (maxSteps:=999999) -implicitDefEqProofs (disch:=omega) only[push_cast,↓reduceIte,Nat.reduceEqDiff,reduceCtorEq,wz,hρ,ixc]
  refine QU (n:=1+1) (m:=2) (news:=aIx ⟨20,1,0,0⟩++aIx ⟨0,0,0,0⟩) rfl rfl rfl rfl rfl (by decide) (by decide) ?_
  simp (maxSteps:=999999) -implicitDefEqProofs (disch:=omega) only[push_cast,↓reduceIte,Nat.reduceEqDiff,reduceCtorEq,wz,hρ]
  refine ⟨Q8 (by simp (maxSteps:=999999) -implicitDefEqProofs (disch:=omega) only[push_cast,↓reduceIte,Nat.reduceEqDiff,reduceCtorEq,wz,hρ,hi,hms];exact rfl),?_⟩
  refine Q6 rfl rfl hj (by decide) ?_
  simp (maxSteps:=999999) -implicitDefEqProofs (disch:=omega) only[push_cast,↓reduceIte,Nat.reduceEqDiff,reduceCtorEq,wz]
  exact hN _ _ ⟨by simp (maxSteps:=999999) -implicitDefEqProofs (disch:=omega) only[push_cast,↓reduceIte,Nat.reduceEqDiff,reduceCtorEq,wz,hρ],_,rfl⟩
 clear hρ ε
 rintro ε σ' ⟨hρ,t,rfl⟩
 have k1:=Q0 (o:=Res.obj 0 [.sl 4 (aIx ⟨20,1,0,0⟩++aIx ⟨21,0,0,0⟩++aIx ⟨20,1,0,0⟩++aIx ⟨0,0,0,0⟩) t,.sl 2 (aIx ⟨14,1,1,0⟩++aIx ⟨0,0,0,0⟩) .full]) (show j≠1 by omega) h1
 have ki:=Q0 (o:=Res.obj 0 [.sl 4 (aIx ⟨20,1,0,0⟩++aIx ⟨21,0,0,0⟩++aIx ⟨20,1,0,0⟩++aIx ⟨0,0,0,0⟩) t,.sl 2 (aIx ⟨14,1,1,0⟩++aIx ⟨0,0,0,0⟩) .full]) (show j≠i by omega) hi
 have kj:=Q4 (o:=Res.obj 0 [.sl 4 (aIx ⟨20,1,0,0⟩++aIx ⟨21,0,0,0⟩++aIx ⟨20,1,0,0⟩++aIx ⟨0,0,0,0⟩) t,.sl 2 (aIx ⟨14,1,1,0⟩++aIx ⟨0,0,0,0⟩) .full]) hj
 generalize σ.set j (Res.obj 0 [.sl 4 (aIx ⟨20,1,0,0⟩++aIx ⟨21,0,0,0⟩++aIx ⟨20,1,0,0⟩++aIx ⟨0,0,0,0⟩) t,.sl 2 (aIx ⟨14,1,1,0⟩++aIx ⟨0,0,0,0⟩) .full])=σ2 at k1 ki kj ⊢
 have hc2:∀a b:AV,cellsA (some 2) [a,b]=some (.agg [a,b]):=fun _ _=>rfl
 refine Q1 (fun ε σ=>∃(i9:Nat) (V:Sv),(ε 2=.ref 1 0 0∧ε 3=.v (.bool true)∧ε 4=.v (.int .i64 0)∧ε 5=.v (.int .i64 1)∧ε 8=.v (.int .i64 0)∧ε 9=.ref i9 0 0)∧V.status=1∧σ[i9]?=some (.obj 0 (aOc V))∧σ[1]?=some (.obj 0 [AV.v (.int .i64 0),AV.v (.int .i64 1),AV.v (.int .i64 4)])) ?_ ?_
 ·intro N X R hN
  simp (maxSteps:=999999) -implicitDefEqProofs (disch:=omega) only[push_cast,↓reduceIte,Nat.reduceEqDiff,reduceCtorEq,wz,hρ,ki,hc2]
  refine Q00 [j] [true,true] judge_c (weak_pr _ (by rw[Z03 kj];exact Q4 kj) rfl) ?_
  rintro a ⟨V,hV,rfl⟩
  rw[Z03 kj]
  have k1':=Q0 (o:=Res.frz 0 (AV.resL σ2 [.sl 4 (aIx ⟨20,1,0,0⟩++aIx ⟨21,0,0,0⟩++aIx ⟨20,1,0,0⟩++aIx ⟨0,0,0,0⟩) t,.sl 2 (aIx ⟨14,1,1,0⟩++aIx ⟨0,0,0,0⟩) .full])) (show j≠1 by omega) k1
  generalize σ2.set j (Res.frz 0 (AV.resL σ2 [.sl 4 (aIx ⟨20,1,0,0⟩++aIx ⟨21,0,0,0⟩++aIx ⟨20,1,0,0⟩++aIx ⟨0,0,0,0⟩) t,.sl 2 (aIx ⟨14,1,1,0⟩++aIx ⟨0,0,0,0⟩) .full]))=σ3 at k1' ⊢
  simp (maxSteps:=999999) -implicitDefEqProofs (disch:=omega) only[push_cast,↓reduceIte,Nat.reduceEqDiff,reduceCtorEq,wz,aInt]
  refine Qb ?_
  simp (maxSteps:=999999) -implicitDefEqProofs (disch:=omega) only[push_cast,↓reduceIte,Nat.reduceEqDiff,reduceCtorEq,wz]
  refine Q5 (cs:=z7) rfl rfl (Qc _ _) (by decide) ?_
  simp (maxSteps:=999999) -implicitDefEqProofs (disch:=omega) only[push_cast,↓reduceIte,Nat.reduceEqDiff,reduceCtorEq,wz]
  exact hN _ _ ⟨σ3.length,V,by simp (maxSteps:=999999) -implicitDefEqProofs (disch:=omega) only[push_cast,↓reduceIte,Nat.reduceEqDiff,reduceCtorEq,wz,hρ],hV,Qc _ _,Q7 k1'⟩
 clear hρ ε
 rintro ε σ ⟨i9,V,hρ,hV,h9,h1⟩
 have o0:(aOc V)[0]?=some (.v (.int .i64 1)):=by rw[←hV];rfl
 have hq:PF.av (.eqs false [.int .i64,.int .i64,.int .i64]) [.agg [AV.v (.int .i64 0),AV.v (.int .i64 1),AV.v (.int .i64 4)],.agg [AV.v (.int .i64 0),AV.v (.int .i64 1),AV.v (.int .i64 4)]]=some (.v (.bool true)):=rfl
 simp (maxSteps:=999999) -implicitDefEqProofs (disch:=omega) only[push_cast,↓reduceIte,Nat.reduceEqDiff,reduceCtorEq,wz,hρ,h1,cell3,fill3n,hq,h9,o0]
 exact ⟨[],rfl,rfl⟩
end Go.Proofs.YtncdnegdlkmicaaGreat.Rc
