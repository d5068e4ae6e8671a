/- Stl Stm:8-43 Stm:80-127 Stn:6-16 Sts Stt Stu Stv Stw Stx -/
import Derived.Test.YtncdnegdlkmicaaGreatQCa
import Derived.Test.YtncdnegdlkmicaaGreatQYc
namespace Go.Proofs.YtncdnegdlkmicaaGreat.St
set_option linter.unusedVariables false
set_option linter.unusedSimpArgs false
open Go Go.Kx Go.Proofs
section
def Rg (n:Nat) (x:Int):Prop:=0≤x∧x < n
theorem Rg.mono {n m:Nat} {x:Int} (h:Rg n x) (hm:n≤m):Rg m x:=⟨h.1,by have:=h.2;omega⟩
def FrR (n:Nat) (F:Fr):Prop:=Rg n F.now∧(∀x∈F.left,Rg n x)∧(∀e∈F.row,Rg n e.2)∧(∀e∈F.ahead,Rg n e.2)∧(∀x∈F.lasts,Rg n x)
theorem FrR.mono {n m:Nat} {F:Fr} (h:FrR n F) (hm:n≤m):FrR m F:=
 ⟨h.1.mono hm,fun x hx=>(h.2.1 x hx).mono hm,fun e he=>(h.2.2.1 e he).mono hm,fun e he=>(h.2.2.2.1 e he).mono hm,fun x hx=>(h.2.2.2.2 x hx).mono hm⟩
structure PC (B:Bd):Prop where
 ne:0 < B.preds.length
 pr:∀(i:Nat) (ps:List Int),B.preds[i]?=some ps→(ps=[]↔i=0)∧∀p∈ps,Rg i p
 ac:∀a∈B.accs,Rg B.preds.length a.st
structure PI (B:Bd):Prop where
 c:PC B
 fr:∀F∈B.fs,FrR B.preds.length F
 tp:∀F gs,B.fs=F::gs→F.kind=3→0 < F.cnt→F.lasts≠[]
theorem PC.begin {B:Bd} (h:PC B) (nd:Nd) {ps:List Int} (hne:ps≠[]) (hps:∀p∈ps,Rg B.preds.length p):
  PC (B.begin nd ps).2∧Rg (B.begin nd ps).2.preds.length (B.begin nd ps).1∧B.preds.length≤(B.begin nd ps).2.preds.length∧((B.begin nd ps).2.full=false→(B.begin nd ps).2.preds.length=B.preds.length+1)∧(B.begin nd ps).2.accs=B.accs:=by
 unfold Bd.begin
 split
 ·rename_i h1000
  exact ⟨⟨h.ne,h.pr,h.ac⟩,⟨Int.le_refl 0,by have:=h.ne;simp only;omega⟩,Nat.le_refl _,fun e=>by simp at e,rfl⟩
 ·have hl:(B.preds++[ps]).length=B.preds.length+1:=by simp
  refine ⟨⟨by simp,fun i qs hq=>?_,fun a ha=>by simp only[hl];exact (h.ac a ha).mono (by omega)⟩,⟨by simp only;omega,by simp only[hl];omega⟩,by simp only[hl];omega,fun _=>hl,rfl⟩
  simp only at hq
  by_cases hi:i < B.preds.length
  ·rw[List.getElem?_append_left hi] at hq
   exact h.pr i qs hq
  ·rw[List.getElem?_append_right (by omega)] at hq
   have hi0:i - B.preds.length=0:=by
    rcases Nat.eq_zero_or_pos (i - B.preds.length) with e|e
    ·exact e
    ·obtain ⟨k,hk⟩:∃k,i - B.preds.length=k+1:=⟨i - B.preds.length - 1,by omega⟩
     rw[hk] at hq;simp at hq
   rw[hi0] at hq
   simp at hq
   subst hq
   have:i=B.preds.length:=by omega
   subst this
   have:=h.ne
   exact ⟨⟨fun e=>absurd e hne,fun e=>by omega⟩,hps⟩
theorem PI.of {B' B'':Bd} {fs:List Fr} (hc:PC B'') (hp:B''.preds=B'.preds) (hf:∀F∈fs,FrR B''.preds.length F) (ht:∀F gs,fs=F::gs→F.kind=3→0 < F.cnt→F.lasts≠[]):PI { B'' with fs:=fs }:=
 ⟨⟨hc.ne,hc.pr,hc.ac⟩,hf,ht⟩
theorem Z59 {B:Bd} {k:Nat} (h:∀ps∈B.preds,ps.length≤k) (nd:Nd) {qs:List Int} (hq:qs.length≤k):∀ps∈(B.begin nd qs).2.preds,ps.length≤k:=by
 intro ps hps
 unfold Bd.begin at hps
 split at hps
 ·exact h ps hps
 ·simp only at hps
  rcases List.mem_append.1 hps with hp|hp
  ·exact h ps hp
  ·simp at hp;subst hp;exact hq
theorem pl_step {B:Bd} {n:Nat} {F:Fr} {fs:List Fr} {m:Mk} (hi:InvB B n) (hB:B.fs=F::fs) (h:∀ps∈B.preds,ps.length≤n+1):∀ps∈(stepF B m F fs).preds,ps.length≤n+1+1:=by
 have hF:=hi.f.s F (by rw[hB];simp)
 unfold FrN at hF
 have h':∀ps∈B.preds,ps.length≤n+1+1:=fun ps hp=>by have:=h ps hp;omega
 unfold stepF
 by_cases k4:m.k=4
 ·rw[if_pos k4];exact Z59 h' _ (by simp)
 rw[if_neg k4]
 by_cases k5:m.k=5
 ·rw[if_pos k5]
  cases fs with
  | nil=>exact h'
  | cons G gs=>exact Z59 (B:={ B with fs:={ G with left:=G.left++[F.now] }::gs }) h' _ (by simp)
 rw[if_neg k5]
 by_cases k6:m.k=6
 ·rw[if_pos k6];exact Z59 h' _ (by simp;omega)
 rw[if_neg k6]
 by_cases k7:m.k=7
 ·rw[if_pos k7];exact h'
 rw[if_neg k7]
 by_cases k9:m.k=9
 ·rw[if_pos k9];exact Z59 (B:={ B with fs:={ F with cnt:=F.cnt+1 }::fs }) h' _ (by simp)
 rw[if_neg k9]
 by_cases k11:m.k=11∨m.k=12
 ·rw[if_pos k11]
  cases fs with
  | nil=>exact h'
  | cons G gs=>exact Z59 (B:={ B with fs:=goFr F m::G::gs }) h' _ (by unfold goPreds;split<;>simp)
 rw[if_neg k11]
 by_cases k10:m.k=10
 ·rw[if_pos k10]
  cases fs with
  | nil=>exact h'
  | cons G gs=>exact h'
 rw[if_neg k10]
 by_cases k8:m.k=8
 ·rw[if_pos k8]
  cases fs with
  | nil=>exact h'
  | cons G gs=>exact Z59 (B:={ B with fs:=G::gs }) h' _ (by omega)
 rw[if_neg k8]
 exact h'
theorem pl_run:∀(l:List Mk) {B D:Bd} {n:Nat},InvB B n→(∀ps∈B.preds,ps.length≤n+1)→runB B l=(0,D)→(∀ps∈D.preds,ps.length≤n+l.length+1)∧InvB D (n+l.length):=by
 intro l
 induction l with
 | nil=>
  intro B D n hi h hr
  simp only[runB,Prod.mk.injEq,true_and] at hr
  subst hr
  exact ⟨h,hi⟩
 | cons m l ih=>
  intro B D n hi h hr
  simp only[runB] at hr
  split at hr
  ·simp at hr
  ·cases hB:B.fs with
   | nil=>rw[hB] at hr;simp at hr
   | cons F fs=>
    rw[hB] at hr
    simp only at hr
    split at hr
    ·rename_i hf
     split at hr
     ·simp at hr
     ·obtain ⟨g1,g2⟩:=ih (inv_step hi hB hf) (pl_step hi hB h) hr
      have e:n+1+l.length=n+(m::l).length:=by simp only[List.length_cons];omega
      rw[e] at g1 g2
      exact ⟨g1,g2⟩
    ·simp at hr
theorem pl0:∀ps∈bd0.preds,ps.length≤0+1:=by intro ps h;simp[bd0] at h;subst h;simp
end
section
theorem X15 (l k:List Int) (hl:l.length≤1000000) (hk:k.length≤1000000):FnP Tryz.prog 9 [aInts l,aInts k] fun a=>a=aBool (l==k):=by
 refine Qh X9 mixed rfl (by simp[AV.pureL,Q07]) ?_
 simp only[Z4,aInts,aSl]
 by_cases hle:l.length=k.length
 ·push_cast (disch:=omega)[hle]
  refine Qv (α:=Nat) (I:=fun t ε σ=>(ε 0=.sl l.length (l.map aInt) .none∧ε 1=.sl k.length (k.map aInt) .none∧ε 5=.v (.int .i64 t))∧t≤l.length∧l.take t=k.take t)
   (μ:=fun t=>l.length - t) (Q:=fun _ _=>l=k) (x:=0) ?_ ?_ ?_
  ·push_cast (disch:=omega)[hle]
   omega
  ·rintro t ε σ N E ⟨hρ,ht,heq⟩ hN hE
   simp only[Q44]
   by_cases hlt:t < l.length
   ·obtain ⟨x,hx⟩:=Ql hlt
    obtain ⟨y,hy⟩:=Ql (l:=k) (k:=t) (by omega)
    by_cases he:x=y
    ·subst he
     push_cast (disch:=omega)[hρ,hx,hy,aInt]
     refine hN (t+1) _ _ ?_ (by omega)
     push_cast (disch:=omega)[hρ]
     exact ⟨by omega,by rw[Qe hx,Qe hy,heq]⟩
    ·push_cast (disch:=omega)[hρ,hx,hy,aInt,he]
     refine Q82 ?_
     have:l≠k:=by
      intro e;subst e;rw[hx] at hy;cases hy;exact he rfl
     simp[aBool,this]
   ·push_cast (disch:=omega)[hρ]
    refine hE _ _ ?_
    rwa [List.take_of_length_le (by omega),List.take_of_length_le (by omega)] at heq
  ·intro ε σ h
   push_cast (disch:=omega)
   exact Q82 (by simp[aBool,h])
 ·push_cast (disch:=omega)[hle]
  refine Q82 ?_
  have:l≠k:=by intro e;subst e;exact hle rfl
  simp[aBool,this]
theorem aMk_res (σ:St) (m:Mk):AV.resL σ (aMk m)=aMk m:=by simp[aMk,AV.resL,AV.res]
end
section
end
section
theorem buildR_err {l:List Mk} (h:(buildR l).1≠0):(buildR l).2=noneB:=by
 unfold buildR at h ⊢
 split
 ·rename_i e;rw[if_pos e] at h;exact absurd rfl h
 ·rfl
theorem buildR_ok {l:List Mk} (h:(buildR l).1=0):runB bd0 l=(0,(buildR l).2):=by
 unfold buildR at h ⊢
 split
 ·rename_i e;rw[←e]
 ·rename_i e;rw[if_neg e] at h;exact absurd h e
set_option maxHeartbeats 4000000 in
end
section
structure RD where
 pos:Nat
 preds:List (List Int)
 nodes:List Nd
 accs:List Ac
 over:Bool
 e:Int
def rdC (l:List Mk) (D:RD) (t:Tb):List AV:=[.sl l.length (l.flatMap aMk) .none,.v (.int .i64 D.pos),.sl D.preds.length (D.preds.map aInts) t.p,.sl D.nodes.length (D.nodes.flatMap aNd) t.n,.sl D.accs.length (D.accs.flatMap aAc) t.a,.v (.bool D.over),.v (.int .i64 D.e)]
theorem rdC_0 (l:List Mk) (D:RD) (t:Tb):(rdC l D t)[0]?=some (.sl l.length (l.flatMap aMk) .none):=rfl
theorem rdC_1 (l:List Mk) (D:RD) (t:Tb):(rdC l D t)[1]?=some (.v (.int .i64 D.pos)):=rfl
theorem rdC_2 (l:List Mk) (D:RD) (t:Tb):(rdC l D t)[2]?=some (.sl D.preds.length (D.preds.map aInts) t.p):=rfl
theorem rdC_3 (l:List Mk) (D:RD) (t:Tb):(rdC l D t)[3]?=some (.sl D.nodes.length (D.nodes.flatMap aNd) t.n):=rfl
theorem rdC_4 (l:List Mk) (D:RD) (t:Tb):(rdC l D t)[4]?=some (.sl D.accs.length (D.accs.flatMap aAc) t.a):=rfl
theorem Qz (l:List Mk) (D:RD) (t:Tb):(rdC l D t)[5]?=some (.v (.bool D.over)):=rfl
theorem rdC_6 (l:List Mk) (D:RD) (t:Tb):(rdC l D t)[6]?=some (.v (.int .i64 D.e)):=rfl
structure RdAt (σ:St) (lab:Nat→Role) (id:Nat) (l:List Mk) (D:RD) (t:Tb):Prop where
 obj:σ[id]?=some (.obj 0 (rdC l D t))
 li:lab id=(1,0)
 p:TokOk σ lab (3,0) t.p D.preds.length 1
 n:TokOk σ lab (4,0) t.n D.nodes.length 3
 a:TokOk σ lab (5,0) t.a D.accs.length 3
theorem RdAt.stp {S:Role→Prop} {σ σ':St} {lab lab':Nat→Role} {id:Nat} {l:List Mk} {D:RD} {t:Tb} (h:RdAt σ lab id l D t) (k:Stp S σ lab σ' lab') (hS:∀q,1≤q→q≤5→¬S (q,0)):RdAt σ' lab' id l D t:=by
 obtain ⟨a,b⟩:=k.get h.obj (by rw[h.li];exact hS 1 (by omega) (by omega))
 exact ⟨a,b.trans h.li,h.p.stp k (hS 3 (by omega) (by omega)),h.n.stp k (hS 4 (by omega) (by omega)),h.a.stp k (hS 5 (by omega) (by omega))⟩
theorem Stp.setNew {S:Role→Prop} {σ σ1:St} {lab lab1:Nat→Role} {b:Nat} {x:Res} (k:Stp S σ lab σ1 lab1) (hb:σ.length≤b):Stp S σ lab (σ1.set b x) lab1:=
 ⟨by rw[List.length_set];exact k.le,fun j hj hS=>by rw[List.getElem?_set_ne (by omega)];exact k.same j hj hS⟩
theorem RdAt.put {σ:St} {lab:Nat→Role} {id:Nat} {l:List Mk} {D D':RD} {t:Tb} (h:RdAt σ lab id l D t) (hp:D'.preds=D.preds) (hn:D'.nodes=D.nodes) (ha:D'.accs=D.accs):
  RdAt (σ.set id (.obj 0 (rdC l D' t))) lab id l D' t∧Stp isB σ lab (σ.set id (.obj 0 (rdC l D' t))) lab:=by
 have k2:=Qx (σ:=σ) (x:=.obj 0 (rdC l D' t)) h.li
 exact ⟨⟨Q4 h.obj,h.li,by rw[hp];exact h.p.stp k2 (by simp),by rw[hn];exact h.n.stp k2 (by simp),by rw[ha];exact h.a.stp k2 (by simp)⟩,k2.mono fun r e=>by subst e;exact isB_10⟩
theorem RdAt.ps {σ σ1:St} {lab lab1:Nat→Role} {id:Nat} {l:List Mk} {D:RD} {t:Tb} {t1:Tok} (h:RdAt σ lab id l D t) (k:Stp (·=(3,0)) σ lab σ1 lab1) (ps:List Int) (ht:TokOk σ1 lab1 (3,0) t1 (D.preds.length+1) 1):
  RdAt (σ1.set id (.obj 0 (rdC l { D with preds:=D.preds++[ps] } { t with p:=t1 }))) lab1 id l { D with preds:=D.preds++[ps] } { t with p:=t1 } ∧
   Stp isB σ lab (σ1.set id (.obj 0 (rdC l { D with preds:=D.preds++[ps] } { t with p:=t1 }))) lab1:=by
 obtain ⟨a,b⟩:=k.get h.obj (by rw[h.li];simp)
 have hl:=b.trans h.li
 have k2:=Qx (σ:=σ1) (x:=.obj 0 (rdC l { D with preds:=D.preds++[ps] } { t with p:=t1 })) hl
 refine ⟨⟨Q4 a,hl,?_,(h.n.stp k (by simp)).stp k2 (by simp),(h.a.stp k (by simp)).stp k2 (by simp)⟩,k.trans k2 (fun r e=>by subst e;simp[isB]) (fun r e=>by subst e;simp[isB])⟩
 have:=ht.stp k2 (by simp)
 rw[show ({ D with preds:=D.preds++[ps] }:RD).preds.length=D.preds.length+1 by simp]
 exact this
theorem RdAt.ns {σ σ1:St} {lab lab1:Nat→Role} {id:Nat} {l:List Mk} {D:RD} {t:Tb} {t1:Tok} (h:RdAt σ lab id l D t) (k:Stp (·=(4,0)) σ lab σ1 lab1) (n:Nd) (ht:TokOk σ1 lab1 (4,0) t1 (D.nodes.length+1) 3):
  RdAt (σ1.set id (.obj 0 (rdC l { D with nodes:=D.nodes++[n] } { t with n:=t1 }))) lab1 id l { D with nodes:=D.nodes++[n] } { t with n:=t1 } ∧
   Stp isB σ lab (σ1.set id (.obj 0 (rdC l { D with nodes:=D.nodes++[n] } { t with n:=t1 }))) lab1:=by
 obtain ⟨a,b⟩:=k.get h.obj (by rw[h.li];simp)
 have hl:=b.trans h.li
 have k2:=Qx (σ:=σ1) (x:=.obj 0 (rdC l { D with nodes:=D.nodes++[n] } { t with n:=t1 })) hl
 refine ⟨⟨Q4 a,hl,(h.p.stp k (by simp)).stp k2 (by simp),?_,(h.a.stp k (by simp)).stp k2 (by simp)⟩,k.trans k2 (fun r e=>by subst e;simp[isB]) (fun r e=>by subst e;simp[isB])⟩
 have:=ht.stp k2 (by simp)
 rw[show ({ D with nodes:=D.nodes++[n] }:RD).nodes.length=D.nodes.length+1 by simp]
 exact this
theorem RdAt.cs {σ σ1:St} {lab lab1:Nat→Role} {id:Nat} {l:List Mk} {D:RD} {t:Tb} {t1:Tok} (h:RdAt σ lab id l D t) (k:Stp (·=(5,0)) σ lab σ1 lab1) (c:Ac) (ht:TokOk σ1 lab1 (5,0) t1 (D.accs.length+1) 3):
  RdAt (σ1.set id (.obj 0 (rdC l { D with accs:=D.accs++[c] } { t with a:=t1 }))) lab1 id l { D with accs:=D.accs++[c] } { t with a:=t1 } ∧
   Stp isB σ lab (σ1.set id (.obj 0 (rdC l { D with accs:=D.accs++[c] } { t with a:=t1 }))) lab1:=by
 obtain ⟨a,b⟩:=k.get h.obj (by rw[h.li];simp)
 have hl:=b.trans h.li
 have k2:=Qx (σ:=σ1) (x:=.obj 0 (rdC l { D with accs:=D.accs++[c] } { t with a:=t1 })) hl
 refine ⟨⟨Q4 a,hl,(h.p.stp k (by simp)).stp k2 (by simp),(h.n.stp k (by simp)).stp k2 (by simp),?_⟩,k.trans k2 (fun r e=>by subst e;simp[isB]) (fun r e=>by subst e;simp[isB])⟩
 have:=ht.stp k2 (by simp)
 rw[show ({ D with accs:=D.accs++[c] }:RD).accs.length=D.accs.length+1 by simp]
 exact this
def RD.begin (D:RD) (n:Nd) (ps:List Int):Int×RD:=if D.preds.length=1000 then (0,{ D with e:=9,over:=true }) else ((D.preds.length:Int),{ D with preds:=D.preds++[ps],nodes:=D.nodes++[n] })
def RD.wrong (D:RD):RD:={ D with e:=4,over:=true }
def RD.next (l:List Mk) (D:RD):Mk×RD:=
 match l[D.pos]? with
 | none=>(⟨0,0,0⟩,{ D with over:=true })
 | some m=>if m.k < 1∨12 < m.k then (m,{ D with pos:=D.pos+1,e:=5,over:=true }) else (m,{ D with pos:=D.pos+1 })
theorem Z5 {σ:St} {lab:Nat→Role} {id:Nat} {l:List Mk} {D:RD} {t:Tb} (h:RdAt σ lab id l D t):
  FnG Tryz.prog 54 [.ref id 0 0] σ fun _ σ'=>RdAt σ' lab id l D.wrong t∧Stp isB σ lab σ' lab:=by
 refine Qk ZZ mixed rfl ?_
 simp only[Q18]
 have ho:=h.obj
 obtain ⟨m1,m2⟩:=h.put (D':={ D with e:=4 }) rfl rfl rfl
 have ho1:=m1.obj
 obtain ⟨n1,n2⟩:=m1.put (D':=D.wrong) rfl rfl rfl
 push_cast (disch:=omega)
 refine Q6 rfl rfl ho (by simp[rdC]) ?_
 have e1:(rdC l D t).set 6 (.v (.int .i64 4))=rdC l { D with e:=4 } t:=rfl
 rw[e1]
 push_cast (disch:=omega)
 refine Q6 rfl rfl ho1 (by simp[rdC]) ?_
 have e2:(rdC l { D with e:=4 } t).set 5 (.v (.bool true))=rdC l D.wrong t:=rfl
 rw[e2]
 push_cast (disch:=omega)
 exact ⟨n1,m2.trans n2 (fun _ h=>h) fun _ h=>h⟩
theorem at_a (l:List (Int×Int)) (s:Int) (hl:l.length≤100000):FnP Tryz.prog 53 [.sl l.length (l.flatMap aSt) .none,aInt s] fun a=>a=aInt (lastA l s):=by
 have hpu:(AV.sl l.length (l.flatMap aSt) .none).pure=true:=Q19 (f:=aSt) (fun p=>by simp[aSt,AV.pureL,AV.pure]) l
 refine Qh X02 mixed rfl (by simp[AV.pureL,hpu,Qr]) ?_
 simp only[ZY]
 push_cast (disch:=omega)[aInt]
 refine Qv (α:=Nat) (I:=fun n ε σ=>(ε 0=.sl l.length (l.flatMap aSt) .none∧ε 1=.v (.int .i64 s)∧ε 5=.v (.int .i64 (lastA (l.take n) s))∧ε 6=.v (.int .i64 n))∧n≤l.length)
  (μ:=fun n=>l.length - n) (Q:=fun ε _=>ε 5=.v (.int .i64 (lastA l s))) (x:=0) ?_ ?_ ?_
 ·push_cast (disch:=omega)
  exact ⟨rfl,by omega⟩
 ·rintro n ε σ N E ⟨hρ,hn⟩ hN hE
  simp only[Q74]
  by_cases hlt:n < l.length
  ·obtain ⟨e,he⟩:=Ql hlt
   have hd:=Qp Z1 he
   have g0:∀k:List AV,(aSt e++k)[0]?=some (.v (.int .i64 e.1)):=fun _=>rfl
   have g1:∀k:List AV,(aSt e++k)[1]?=some (.v (.int .i64 e.2)):=fun _=>rfl
   have hls:=X92 (l.take n) e s
   rw[←Qe he] at hls
   have hN1:=hN (n+1)
   rw[hls] at hN1
   by_cases h:e.1≤s
   ·rw[if_pos h] at hN1
    push_cast (disch:=omega)[hρ,hd,g0,g1,h]
    refine hN1 _ _ ?_ (by omega)
    push_cast (disch:=omega)[hρ]
    omega
   ·rw[if_neg h] at hN1
    push_cast (disch:=omega)[hρ,hd,g0,g1,h]
    refine hN1 _ _ ?_ (by omega)
    push_cast (disch:=omega)[hρ]
    omega
  ·push_cast (disch:=omega)[hρ]
   refine hE _ _ ?_
   rw[List.take_of_length_le (by omega)] at hρ
   push_cast (disch:=omega)[hρ]
 ·rintro ε σ h
  push_cast (disch:=omega)[h]
  exact ⟨[],rfl⟩
set_option maxHeartbeats 1000000 in
theorem ZB {σ:St} {lab:Nat→Role} {id:Nat} {l:List Mk} {D:RD} {t0:Tb} (H:RdAt σ lab id l D t0) (hp:D.preds.length≤1000) (hn:D.nodes.length=D.preds.length) (n:Nd) (ps:List Int):
  FnG Tryz.prog 27 [.ref id 0 0,.agg (aNd n),aInts ps] σ fun a σ'=>a=aInt (D.begin n ps).1∧∃lab' t',RdAt σ' lab' id l (D.begin n ps).2 t'∧Stp isB σ lab σ' lab':=by
 refine Qk ZX mixed rfl ?_
 simp only[Q17]
 push_cast (disch:=omega)
 refine Qd ?_
 have k0:Stp isB σ lab (σ++[.obj 0 (AV.cells (.agg (aNd n)))]) (labN σ lab (0,0)):=Qj (0,0)
 have H0:=H.stp (Qj (S:=fun _=>False) (x:=.obj 0 (AV.cells (.agg (aNd n)))) (0,0)) fun _ _ _ h=>h
 have hbx:(σ++[Res.obj 0 (AV.cells (.agg (aNd n)))])[σ.length]?=some (.obj 0 (aNd n)):=Qc _ _
 have hlx:labN σ lab (0,0) σ.length=(0,0):=Qq _ _ _
 generalize σ++[Res.obj 0 (AV.cells (.agg (aNd n)))]=σ0 at k0 H0 hbx ⊢
 generalize labN σ lab (0,0)=lab0 at k0 H0 hlx
 generalize σ.length=bx at hbx hlx
 have h1:=H0
 have ho:=h1.obj
 by_cases h1000:D.preds.length=1000
 ·have hb:D.begin n ps=(0,{ D with e:=9,over:=true }):=if_pos h1000
  rw[hb]
  have h1000':((D.preds.length:Nat):Int)=1000:=by omega
  obtain ⟨m1,m2⟩:=h1.put (D':={ D with e:=9 }) rfl rfl rfl
  have ho1:=m1.obj
  obtain ⟨n1,n2⟩:=m1.put (D':={ D with e:=9,over:=true }) rfl rfl rfl
  push_cast (disch:=omega)[ho,rdC_2,h1000']
  refine Q6 rfl rfl ho (by simp[rdC]) ?_
  have e1:(rdC l D t0).set 6 (.v (.int .i64 9))=rdC l { D with e:=9 } t0:=rfl
  rw[e1]
  push_cast (disch:=omega)
  refine Q6 rfl rfl ho1 (by simp[rdC]) ?_
  have e2:(rdC l { D with e:=9 } t0).set 5 (.v (.bool true))=rdC l { D with e:=9,over:=true } t0:=rfl
  rw[e2]
  push_cast (disch:=omega)
  exact ⟨rfl,lab0,t0,n1,(k0.trans m2 (U:=isB) (fun _ h=>h) fun _ h=>h).trans n2 (fun _ h=>h) fun _ h=>h⟩
 ·have hb:D.begin n ps=((D.preds.length:Int),{ D with preds:=D.preds++[ps],nodes:=D.nodes++[n] }):=if_neg h1000
  rw[hb]
  have h1000':¬((D.preds.length:Int)=1000):=by omega
  push_cast (disch:=omega)[ho,rdC_2,h1000']
  refine Qf (sz:=1) (by intro a ha;simp at ha;subst ha;rfl) (by simp) ?_
  push_cast (disch:=omega)
  refine Qs (m:=1) rfl h1.p rfl rfl rfl (by simp) (by omega) (by omega) ?_
  intro σ1 lab1 t1 k1 ht1
  have ho1:=(k1.get ho (by rw[h1.li];simp)).1
  obtain ⟨m1,m2⟩:=h1.ps k1 ps ht1
  push_cast (disch:=omega)
  refine Q6 rfl rfl ho1 (by simp[rdC]) ?_
  have e1:(rdC l D t0).set 2 (.sl (D.preds.length+1) (D.preds.map aInts++((aInts ps).cells++[])) t1)=rdC l { D with preds:=D.preds++[ps] } { t0 with p:=t1 }:=by
   have e2:D.preds.map aInts++((aInts ps).cells++[])=(D.preds++[ps]).map aInts:=by simp[aInts,aSl,AV.cells]
   rw[e2]
   simp[rdC]
  rw[e1]
  have hbx1:=m2.get hbx (by rw[hlx];simp[isB])
  have k3:=k0.trans m2 (U:=isB) (fun _ h=>h) fun _ h=>h
  generalize σ1.set id (.obj 0 (rdC l { D with preds:=D.preds++[ps] } { t0 with p:=t1 }))=σ2 at m1 m2 hbx1 k3 ⊢
  obtain ⟨hbx1,hlx1⟩:=hbx1
  clear e1 ho1 ho k1 ht1 h1 m2 k0 hbx H0
  have ho2:=m1.obj
  push_cast (disch:=omega)[ho2,rdC_3,hbx1,cell3]
  refine Qf (sz:=3) (by intro a ha;simp at ha;subst ha;rfl) (by simp) ?_
  have hac:(AV.agg (aNd n)).cells=aNd n:=rfl
  push_cast (disch:=omega)[ho2,rdC_3,hac]
  refine ⟨Qa (by push_cast (disch:=omega)[ho2,rdC_3,m1.n.exact]),?_⟩
  refine Qs (m:=1) rfl m1.n rfl rfl rfl (Qy Z43 _) (by omega) (by omega) ?_
  intro σ3 lab3 t3 k5 ht5
  have ho3:=(k5.get ho2 (by rw[m1.li];simp)).1
  obtain ⟨n1,n2⟩:=m1.ns k5 n ht5
  push_cast (disch:=omega)
  refine Q6 rfl rfl ho3 (by simp[rdC]) ?_
  have e3:(rdC l { D with preds:=D.preds++[ps] } { t0 with p:=t1 }).set 3 (.sl (D.nodes.length+1) (D.nodes.flatMap aNd++(aNd n++[])) t3)=rdC l { D with preds:=D.preds++[ps],nodes:=D.nodes++[n] } { t0 with p:=t1,n:=t3 }:=by
   have e2:D.nodes.flatMap aNd++(aNd n++[])=(D.nodes++[n]).flatMap aNd:=by simp
   rw[e2]
   simp[rdC]
  rw[e3]
  have k4:=k3.trans n2 (U:=isB) (fun _ h=>h) fun _ h=>h
  generalize σ3.set id (.obj 0 (rdC l { D with preds:=D.preds++[ps],nodes:=D.nodes++[n] } { t0 with p:=t1,n:=t3 }))=σ4 at n1 n2 k4 ⊢
  have ho4:=n1.obj
  push_cast (disch:=omega)[ho4,rdC_2]
  refine ⟨?_,lab3,_,n1,k4⟩
  simp[aInt]
  rw[IntKind.wrap_i64];omega
end
section
set_option maxHeartbeats 1000000 in
theorem next_a {σ:St} {lab:Nat→Role} {id:Nat} {l:List Mk} {D:RD} {t:Tb} (H:RdAt σ lab id l D t) (hp:D.pos≤l.length) (hl:l.length≤16000):
  FnG Tryz.prog 51 [.ref id 0 0] σ fun a σ'=>a=.agg (aMk (D.next l).1)∧∃lab',RdAt σ' lab' id l (D.next l).2 t∧Stp isB σ lab σ' lab':=by
 refine Z11 ZS mixed rfl ?_
 simp only[Q13]
 push_cast (disch:=omega)
 refine Qb ?_
 have hz:(List.map abs1 [Value.int .i64 0,Value.int .i64 0,Value.int .i64 0])=aMk ⟨0,0,0⟩:=rfl
 rw[hz]
 have k0:Stp isB σ lab (σ++[.obj 0 (aMk ⟨0,0,0⟩)]) (labN σ lab (0,0)):=Qj (0,0)
 have H0:=H.stp (Qj (S:=fun _=>False) (x:=.obj 0 (aMk ⟨0,0,0⟩)) (0,0)) fun _ _ _ h=>h
 have hbx:(σ++[Res.obj 0 (aMk ⟨0,0,0⟩)])[σ.length]?=some (.obj 0 (aMk ⟨0,0,0⟩)):=Qc _ _
 have hlx:labN σ lab (0,0) σ.length=(0,0):=Qq _ _ _
 generalize σ++[Res.obj 0 (aMk ⟨0,0,0⟩)]=σ0 at k0 H0 hbx ⊢
 generalize labN σ lab (0,0)=lab0 at k0 H0 hlx
 obtain ⟨bx,hbe⟩:∃bx,bx=σ.length:=⟨_,rfl⟩
 rw[←hbe] at hbx hlx ⊢
 have ho:=H0.obj
 by_cases he:D.pos=l.length
 ·have hn:D.next l=(⟨0,0,0⟩,{ D with over:=true }):=by
   unfold RD.next
   rw[List.getElem?_eq_none (by omega)]
  rw[hn]
  have he':((D.pos:Nat):Int)=(l.length:Int):=by omega
  obtain ⟨m1,m2⟩:=H0.put (D':={ D with over:=true }) rfl rfl rfl
  obtain ⟨hbx1,_⟩:=m2.get hbx (by rw[hlx];simp[isB])
  push_cast (disch:=omega)[ho,rdC_0,rdC_1,he']
  refine Q6 rfl rfl ho (by simp[rdC]) ?_
  have e1:(rdC l D t).set 5 (.v (.bool true))=rdC l { D with over:=true } t:=rfl
  rw[e1]
  have hz2:AV.agg [AV.v (.int .i64 0),AV.v (.int .i64 0),AV.v (.int .i64 0)]=.agg (aMk ⟨0,0,0⟩):=rfl
  push_cast (disch:=omega)[hz2]
  refine Q5 rfl rfl hbx1 (by simp[QD]) ?_
  have hset:setAtA (aMk ⟨0,0,0⟩) 0 (aMk ⟨0,0,0⟩)=aMk ⟨0,0,0⟩:=rfl
  have hne:bx≠id:=by
   rintro rfl
   have:=H0.li
   rw[hlx] at this
   cases this
  rw[hset]
  have k1:=k0.trans m2 (U:=isB) (fun _ h=>h) fun _ h=>h
  have m3:=m1.stp (Qx (x:=.obj 0 (aMk ⟨0,0,0⟩)) hlx) (fun q hq _ e=>by cases e;omega)
  have k2:=k1.setNew (b:=bx) (x:=.obj 0 (aMk ⟨0,0,0⟩)) (by omega)
  have hg:=Q4 (o:=.obj 0 (aMk ⟨0,0,0⟩)) hbx1
  push_cast (disch:=omega)[hg,cell3m]
  exact ⟨lab0,m3,k2⟩
 ·obtain ⟨m,hm⟩:=Ql (l:=l) (k:=D.pos) (by omega)
  have hd:=Qp QD hm
  have hcl:∀k:List AV,cellsA (some 3) (aMk m++k)=some (.agg (aMk m)):=fun k=>by rw[Z07 _ _ (by simp[QD])];rfl
  have he':¬((D.pos:Nat):Int)=(l.length:Int):=by omega
  push_cast (disch:=omega)[ho,rdC_0,rdC_1,he',hd,hcl]
  refine Qb ?_
  rw[hz]
  push_cast (disch:=omega)
  refine Q5 (QD m) (by rfl) (Qc _ _) (by simp[QD]) ?_
  have hset:∀a,setAtA (aMk ⟨0,0,0⟩) 0 (aMk a)=aMk a:=fun _=>rfl
  push_cast (disch:=omega)[hset]
  have k1:=k0.trans (Qj (S:=isB) (x:=.obj 0 (aMk m)) (0,0)) (U:=isB) (fun _ h=>h) fun _ h=>h
  have H1:=H0.stp (Qj (S:=fun _=>False) (x:=.obj 0 (aMk m)) (0,0)) fun _ _ _ h=>h
  have hbx1:(σ0++[Res.obj 0 (aMk m)])[bx]?=some (.obj 0 (aMk ⟨0,0,0⟩)):=Q7 hbx
  have hlx1:labN σ0 lab0 (0,0) bx=(0,0):=by unfold labN;split;rfl;exact hlx
  have hmx:(σ0++[Res.obj 0 (aMk m)])[σ0.length]?=some (.obj 0 (aMk m)):=Qc _ _
  have hlm:labN σ0 lab0 (0,0) σ0.length=(0,0):=Qq _ _ _
  have hmb:bx≠σ0.length:=by have:=Qm hbx;omega
  generalize σ0++[Res.obj 0 (aMk m)]=σ1 at k1 H1 hbx1 hmx ⊢
  generalize labN σ0 lab0 (0,0)=lab1 at k1 H1 hlx1 hlm
  generalize σ0.length=mx at hmx hlm hmb ⊢
  clear ho H0 hbx hlx k0
  have ho:=H1.obj
  obtain ⟨m1,m2⟩:=H1.put (D':={ D with pos:=D.pos+1 }) rfl rfl rfl
  obtain ⟨hmx2,_⟩:=m2.get hmx (by rw[hlm];simp[isB])
  obtain ⟨hbx2,_⟩:=m2.get hbx1 (by rw[hlx1];simp[isB])
  have k2:=k1.trans m2 (U:=isB) (fun _ h=>h) fun _ h=>h
  push_cast (disch:=omega)[ho,rdC_1]
  refine Q6 rfl rfl ho (by simp[rdC]) ?_
  have e1:(rdC l D t).set 1 (.v (.int .i64 ((D.pos:Int)+1)))=rdC l { D with pos:=D.pos+1 } t:=by simp[rdC]
  rw[e1]
  generalize σ1.set id (.obj 0 (rdC l { D with pos:=D.pos+1 } t))=σ2 at m1 m2 hmx2 hbx2 k2 ⊢
  have ho2:=m1.obj
  by_cases hk:m.k < 1∨12 < m.k
  ·have hn:D.next l=(m,{ D with pos:=D.pos+1,e:=5,over:=true }):=by
    unfold RD.next
    rw[hm]
    simp only
    rw[if_pos hk]
   rw[hn]
   obtain ⟨n1,n2⟩:=m1.put (D':={ D with pos:=D.pos+1,e:=5 }) rfl rfl rfl
   have ho3:=n1.obj
   obtain ⟨p1,p2⟩:=n1.put (D':={ D with pos:=D.pos+1,e:=5,over:=true }) rfl rfl rfl
   have k3:=(k2.trans n2 (U:=isB) (fun _ h=>h) fun _ h=>h).trans p2 (U:=isB) (fun _ h=>h) fun _ h=>h
   obtain ⟨hmx3,_⟩:=n2.get hmx2 (by rw[hlm];simp[isB])
   obtain ⟨hmx4,_⟩:=p2.get hmx3 (by rw[hlm];simp[isB])
   obtain ⟨hbx3,_⟩:=n2.get hbx2 (by rw[hlx1];simp[isB])
   obtain ⟨hbx4,_⟩:=p2.get hbx3 (by rw[hlx1];simp[isB])
   have p3:=p1.stp (Qx (x:=.obj 0 (aMk m)) hlx1) (fun q hq _ e=>by cases e;omega)
   have k4:=k3.setNew (b:=bx) (x:=.obj 0 (aMk m)) (by omega)
   have hg:=Q4 (o:=.obj 0 (aMk m)) hbx4
   have e2:(rdC l { D with pos:=D.pos+1 } t).set 6 (.v (.int .i64 5))=rdC l { D with pos:=D.pos+1,e:=5 } t:=rfl
   have e3:(rdC l { D with pos:=D.pos+1,e:=5 } t).set 5 (.v (.bool true))=rdC l { D with pos:=D.pos+1,e:=5,over:=true } t:=rfl
   by_cases hk1:m.k < 1
   ·push_cast (disch:=omega)[hmx2,Qo,hk1]
    refine Q6 rfl rfl ho2 (by simp[rdC]) ?_
    rw[e2]
    push_cast (disch:=omega)
    refine Q6 rfl rfl ho3 (by simp[rdC]) ?_
    rw[e3]
    push_cast (disch:=omega)[hmx4,cell3m]
    refine Q5 (QD m) (by rfl) hbx4 (by simp[QD]) ?_
    rw[hset]
    push_cast (disch:=omega)[hg,cell3m]
    exact ⟨lab1,p3,k4⟩
   ·have hk2:12 < m.k:=by omega
    push_cast (disch:=omega)[hmx2,Qo,hk1,hk2]
    refine Q6 rfl rfl ho2 (by simp[rdC]) ?_
    rw[e2]
    push_cast (disch:=omega)
    refine Q6 rfl rfl ho3 (by simp[rdC]) ?_
    rw[e3]
    push_cast (disch:=omega)[hmx4,cell3m]
    refine Q5 (QD m) (by rfl) hbx4 (by simp[QD]) ?_
    rw[hset]
    push_cast (disch:=omega)[hg,cell3m]
    exact ⟨lab1,p3,k4⟩
  ·have hn:D.next l=(m,{ D with pos:=D.pos+1 }):=by
    unfold RD.next
    rw[hm]
    simp only
    rw[if_neg hk]
   rw[hn]
   have hk1:¬m.k < 1:=fun h=>hk (.inl h)
   have hk2:¬12 < m.k:=fun h=>hk (.inr h)
   have p3:=m1.stp (Qx (x:=.obj 0 (aMk m)) hlx1) (fun q hq _ e=>by cases e;omega)
   have k4:=k2.setNew (b:=bx) (x:=.obj 0 (aMk m)) (by omega)
   have hg:=Q4 (o:=.obj 0 (aMk m)) hbx2
   push_cast (disch:=omega)[hmx2,Qo,hk1,hk2,cell3m]
   refine Q5 (QD m) (by rfl) hbx2 (by simp[QD]) ?_
   rw[hset]
   push_cast (disch:=omega)[hg,cell3m]
   exact ⟨lab1,p3,k4⟩
end
section
def bdOf (D:RD) (fs:List Fr):Bd:=⟨D.preds,D.nodes,D.accs,fs,false⟩
def Rn (l:List Mk) (D:RD) (fs:List Fr):Int×Bd:=runB (bdOf D fs) (l.drop D.pos)
structure DOk (l:List Mk) (D:RD):Prop where
 pos:D.pos≤l.length
 p:D.preds.length≤1000
 q:D.nodes.length=D.preds.length
 a:D.accs.length≤D.pos
def RD.nx (D:RD):RD:={ D with pos:=D.pos+1 }
abbrev Cx:=List Fr→Prop
def Goes (l:List Mk) (D:RD) (F:Fr) (D':RD) (F':Fr) (C:Cx):Prop:=∀K,C K→Rn l D (F::K)=Rn l D' (F'::K)
def EndsAt (l:List Mk) (D:RD) (fs:List Fr) (E:RD):Prop:=(Rn l D fs).1=E.e∧(E.e=0→∃gs,(Rn l D fs).2=bdOf E gs)
def Ends (l:List Mk) (D:RD) (F:Fr) (E:RD) (C:Cx):Prop:=∀K,C K→EndsAt l D (F::K) E
theorem Goes.refl {l:List Mk} {D:RD} {F:Fr} {C:Cx}:Goes l D F D F C:=fun _ _=>rfl
theorem Goes.trans {l:List Mk} {D D1 D2:RD} {F F1 F2:Fr} {C:Cx} (h:Goes l D F D1 F1 C) (k:Goes l D1 F1 D2 F2 C):Goes l D F D2 F2 C:=fun K hK=>(h K hK).trans (k K hK)
theorem Goes.ends {l:List Mk} {D D1 E:RD} {F F1:Fr} {C:Cx} (h:Goes l D F D1 F1 C) (k:Ends l D1 F1 E C):Ends l D F E C:=fun K hK=>by unfold EndsAt;rw[h K hK];exact k K hK
theorem X33 {l:List Mk} {D:RD} {m:Mk} (hm:l[D.pos]?=some m):l.drop D.pos=m::l.drop (D.pos+1):=QK hm
theorem next_end {l:List Mk} {D:RD} (h:l[D.pos]?=none):D.next l=(⟨0,0,0⟩,{ D with over:=true }):=by unfold RD.next;rw[h]
theorem next_bad {l:List Mk} {D:RD} {m:Mk} (h:l[D.pos]?=some m) (hk:m.k < 1∨12 < m.k):D.next l=(m,{ D with pos:=D.pos+1,e:=5,over:=true }):=by unfold RD.next;rw[h];simp only;rw[if_pos hk]
theorem next_ok {l:List Mk} {D:RD} {m:Mk} (h:l[D.pos]?=some m) (hk:¬(m.k < 1∨12 < m.k)):D.next l=(m,D.nx):=by unfold RD.next;rw[h];simp only;rw[if_neg hk];rfl
theorem ends_end {l:List Mk} {D:RD} {fs:List Fr} (h:l[D.pos]?=none) (he:D.e=0):EndsAt l D fs { D with over:=true }:=by
 have hd:l.drop D.pos=[]:=by
  rw[List.getElem?_eq_none_iff] at h
  exact List.drop_eq_nil_of_le h
 unfold EndsAt Rn
 rw[hd]
 exact ⟨he.symm,fun _=>⟨fs,rfl⟩⟩
theorem ends_bad {l:List Mk} {D:RD} {fs:List Fr} {m:Mk} (h:l[D.pos]?=some m) (hk:m.k < 1∨12 < m.k):EndsAt l D fs { D with pos:=D.pos+1,e:=5,over:=true }:=by
 unfold EndsAt Rn
 rw[X33 h]
 simp only[runB]
 rw[if_pos hk]
 exact ⟨rfl,fun e=>by simp at e⟩
theorem QR {l:List Mk} {D:RD} {F:Fr} {K:List Fr} {m:Mk} (h:l[D.pos]?=some m) (hk:¬(m.k < 1∨12 < m.k)) (hf:fitsB F m=false):EndsAt l D (F::K) D.nx.wrong:=by
 unfold EndsAt Rn
 rw[X33 h]
 simp only[runB]
 rw[if_neg hk]
 simp only[bdOf,hf]
 exact ⟨rfl,fun e=>by simp[RD.wrong] at e⟩
theorem Z19 {l:List Mk} {D:RD} {F:Fr} {K:List Fr} {m:Mk} (h:l[D.pos]?=some m) (hk:¬(m.k < 1∨12 < m.k)) (hf:fitsB F m=true) {D':RD} {fs:List Fr} (hs:stepF (bdOf D (F::K)) m F K=bdOf D' fs) (hp:D'.pos=D.pos+1):Rn l D (F::K)=Rn l D' fs:=by
 unfold Rn
 rw[X33 h,hp]
 simp only[runB]
 rw[if_neg hk]
 have e:(bdOf D (F::K)).fs=F::K:=rfl
 rw[e]
 simp only[hf,if_true,hs]
 rfl
theorem Z00 {l:List Mk} {D:RD} {F:Fr} {K:List Fr} {m:Mk} (h:l[D.pos]?=some m) (hk:¬(m.k < 1∨12 < m.k)) (hf:fitsB F m=true) (hs:(stepF (bdOf D (F::K)) m F K).full=true) {E:RD} (hE:E.e=9):EndsAt l D (F::K) E:=by
 unfold EndsAt Rn
 rw[X33 h]
 simp only[runB]
 rw[if_neg hk]
 have e:(bdOf D (F::K)).fs=F::K:=rfl
 rw[e]
 simp only[hf,if_true,hs]
 exact ⟨hE.symm,fun e=>by rw[hE] at e;simp at e⟩
theorem QH {D:RD} (h:D.preds.length≠1000) (n:Nd) (ps:List Int) (fs:List Fr):(bdOf D fs).begin n ps=((D.begin n ps).1,bdOf (D.begin n ps).2 fs)∧(D.begin n ps).2.over=D.over∧(D.begin n ps).2.e=D.e∧(D.begin n ps).2.pos=D.pos:=by
 have h':¬(bdOf D fs).preds.length=1000:=h
 unfold Bd.begin RD.begin
 rw[if_neg h',if_neg h]
 exact ⟨rfl,rfl,rfl,rfl⟩
theorem QI {D:RD} (h:D.preds.length=1000) (n:Nd) (ps:List Int) (fs:List Fr):((bdOf D fs).begin n ps).2.full=true∧D.begin n ps=(0,{ D with e:=9,over:=true }):=by
 have h':(bdOf D fs).preds.length=1000:=h
 unfold Bd.begin RD.begin
 rw[if_pos h',if_pos h]
 exact ⟨rfl,rfl⟩
theorem DOk.nx {l:List Mk} {D:RD} {m:Mk} (h:DOk l D) (hm:l[D.pos]?=some m):DOk l D.nx:=⟨by have:=Qm hm;unfold RD.nx;simp only;omega,h.p,h.q,by have:=h.a;unfold RD.nx;simp only;omega⟩
theorem DOk.begin {l:List Mk} {D:RD} (h:DOk l D) (n:Nd) (ps:List Int):DOk l (D.begin n ps).2:=by
 obtain ⟨h1,h2,h3,h4⟩:=h
 unfold RD.begin
 split
 ·exact ⟨h1,h2,h3,h4⟩
 ·exact ⟨h1,by simp only[List.length_append,List.length_singleton];omega,by simp only[List.length_append,List.length_singleton];omega,h4⟩
section
variable {l:List Mk} {D:RD} {F:Fr} {K:List Fr} {m:Mk}
theorem Yz (h:l[D.pos]?=some m) (hk:m.k=1∨m.k=2∨m.k=3) (hF:F.kind≠3):Rn l D (F::K)=Rn l { D.nx with accs:=D.accs++[accOf F m] } (F::K):=by
 refine Z19 h (by omega) ?_ ?_ rfl
 ·unfold fitsB;rcases hk with k|k|k<;>simp[k,hF]
 ·unfold stepF;rcases hk with k|k|k<;>simp[k,bdOf,RD.nx]
theorem s_fork (h:l[D.pos]?=some m) (hk:m.k=4) (hF:F.kind≠3) (hl:D.preds.length≠1000):Rn l D (F::K)=Rn l (D.nx.begin (0,0,0) [F.now]).2 (taskFr (D.nx.begin (0,0,0) [F.now]).1::F::K):=by
 obtain ⟨e1,_,_,e4⟩:=QH (D:=D.nx) hl (0,0,0) [F.now] (F::K)
 refine Z19 h (by omega) (by unfold fitsB;simp[hk,hF]) ?_ e4
 unfold stepF
 rw[if_pos hk]
 unfold forkB
 have:(bdOf D (F::K)).begin (0,0,0) [F.now]=(bdOf D.nx (F::K)).begin (0,0,0) [F.now]:=rfl
 rw[this,e1]
 rfl
theorem s_fork_full (h:l[D.pos]?=some m) (hk:m.k=4) (hF:F.kind≠3) (hl:D.preds.length=1000):EndsAt l D (F::K) (D.nx.begin (0,0,0) [F.now]).2:=by
 obtain ⟨e1,e2⟩:=QI (D:=D.nx) hl (0,0,0) [F.now] (F::K)
 refine Z00 h (by omega) (by unfold fitsB;simp[hk,hF]) ?_ (by rw[e2])
 unfold stepF
 rw[if_pos hk]
 exact e1
theorem s_ret {G:Fr} (h:l[D.pos]?=some m) (hk:m.k=5) (hF:F.child=true) (hl:D.preds.length≠1000):Rn l D (F::G::K)=Rn l (D.nx.begin G.node [G.now]).2 ({ G with left:=G.left++[F.now],now:=(D.nx.begin G.node [G.now]).1 }::K):=by
 obtain ⟨e1,_,_,e4⟩:=QH (D:=D.nx) hl G.node [G.now] ({ G with left:=G.left++[F.now] }::K)
 refine Z19 h (by omega) (by unfold fitsB;simp[hk,hF]) ?_ e4
 unfold stepF
 rw[if_neg (by omega),if_pos hk]
 simp only[onUp]
 unfold retB
 have:({ bdOf D (F::G::K) with fs:={ G with left:=G.left++[F.now] }::K }:Bd).begin G.node [G.now]=(bdOf D.nx ({ G with left:=G.left++[F.now] }::K)).begin G.node [G.now]:=rfl
 rw[this,e1]
 rfl
theorem s_ret_full {G:Fr} (h:l[D.pos]?=some m) (hk:m.k=5) (hF:F.child=true) (hl:D.preds.length=1000):EndsAt l D (F::G::K) (D.nx.begin G.node [G.now]).2:=by
 obtain ⟨e1,e2⟩:=QI (D:=D.nx) hl G.node [G.now] ({ G with left:=G.left++[F.now] }::K)
 refine Z00 h (by omega) (by unfold fitsB;simp[hk,hF]) ?_ (by rw[e2])
 unfold stepF
 rw[if_neg (by omega),if_pos hk]
 exact e1
theorem s_meet (h:l[D.pos]?=some m) (hk:m.k=6) (hF:F.kind≠3) (hl:D.preds.length≠1000):Rn l D (F::K)=Rn l (D.nx.begin F.node (F.now::F.left)).2 ({ F with now:=(D.nx.begin F.node (F.now::F.left)).1,left:=[] }::K):=by
 obtain ⟨e1,_,_,e4⟩:=QH (D:=D.nx) hl F.node (F.now::F.left) (F::K)
 refine Z19 h (by omega) (by unfold fitsB;simp[hk,hF]) ?_ e4
 unfold stepF
 rw[if_neg (by omega),if_neg (by omega),if_pos hk]
 unfold meetB
 have:(bdOf D (F::K)).begin F.node (F.now::F.left)=(bdOf D.nx (F::K)).begin F.node (F.now::F.left):=rfl
 rw[this,e1]
 rfl
theorem s_meet_full (h:l[D.pos]?=some m) (hk:m.k=6) (hF:F.kind≠3) (hl:D.preds.length=1000):EndsAt l D (F::K) (D.nx.begin F.node (F.now::F.left)).2:=by
 obtain ⟨e1,e2⟩:=QI (D:=D.nx) hl F.node (F.now::F.left) (F::K)
 refine Z00 h (by omega) (by unfold fitsB;simp[hk,hF]) ?_ (by rw[e2])
 unfold stepF
 rw[if_neg (by omega),if_neg (by omega),if_pos hk]
 exact e1
theorem s_loop (h:l[D.pos]?=some m) (hk:m.k=7) (hF:F.kind≠3):Rn l D (F::K)=Rn l D.nx (loopFr m.a F.now::F::K):=by
 refine Z19 h (by omega) (by unfold fitsB;simp[hk,hF]) ?_ rfl
 unfold stepF
 rw[if_neg (by omega),if_neg (by omega),if_neg (by omega),if_pos hk]
 rfl
theorem s_leave {G:Fr} (h:l[D.pos]?=some m) (hk:m.k=8) (hf:fitsB F m=true) (hl:D.preds.length≠1000):Rn l D (F::G::K)=Rn l (D.nx.begin G.node F.lasts).2 ({ G with now:=(D.nx.begin G.node F.lasts).1 }::K):=by
 obtain ⟨e1,_,_,e4⟩:=QH (D:=D.nx) hl G.node F.lasts (G::K)
 refine Z19 h (by omega) hf ?_ e4
 unfold stepF
 rw[if_neg (by omega),if_neg (by omega),if_neg (by omega),if_neg (by omega),if_neg (by omega),if_neg (by omega),if_neg (by omega),if_pos hk]
 simp only[onUp]
 unfold leaveB
 have:({ bdOf D (F::G::K) with fs:=G::K }:Bd).begin G.node F.lasts=(bdOf D.nx (G::K)).begin G.node F.lasts:=rfl
 rw[this,e1]
 rfl
theorem s_leave_full {G:Fr} (h:l[D.pos]?=some m) (hk:m.k=8) (hf:fitsB F m=true) (hl:D.preds.length=1000):EndsAt l D (F::G::K) (D.nx.begin G.node F.lasts).2:=by
 obtain ⟨e1,e2⟩:=QI (D:=D.nx) hl G.node F.lasts (G::K)
 refine Z00 h (by omega) hf ?_ (by rw[e2])
 unfold stepF
 rw[if_neg (by omega),if_neg (by omega),if_neg (by omega),if_neg (by omega),if_neg (by omega),if_neg (by omega),if_neg (by omega),if_pos hk]
 exact e1
theorem s_go {G:Fr} (h:l[D.pos]?=some m) (hk:m.k=11∨m.k=12) (hF:F.kind=2) (hs:F.sg < m.a) (hl:D.preds.length≠1000):Rn l D (F::G::K)=Rn l (D.nx.begin (F.lp,F.it,m.a) (goPreds F G m)).2 ({ goFr F m with now:=(D.nx.begin (F.lp,F.it,m.a) (goPreds F G m)).1 }::G::K):=by
 obtain ⟨e1,_,_,e4⟩:=QH (D:=D.nx) hl (F.lp,F.it,m.a) (goPreds F G m) (goFr F m::G::K)
 refine Z19 h (by omega) (by unfold fitsB;rcases hk with k|k<;>simp[k,hF,hs]) ?_ e4
 unfold stepF
 rw[if_neg (by omega),if_neg (by omega),if_neg (by omega),if_neg (by omega),if_neg (by omega),if_pos hk]
 simp only[onUp]
 unfold goOnB
 have:({ bdOf D (F::G::K) with fs:=goFr F m::G::K }:Bd).begin (F.lp,F.it,m.a) (goPreds F G m)=(bdOf D.nx (goFr F m::G::K)).begin (F.lp,F.it,m.a) (goPreds F G m):=rfl
 rw[this,e1]
 rfl
theorem X61 {G:Fr} (h:l[D.pos]?=some m) (hk:m.k=11∨m.k=12) (hF:F.kind=2) (hs:F.sg < m.a) (hl:D.preds.length=1000):EndsAt l D (F::G::K) (D.nx.begin (F.lp,F.it,m.a) (goPreds F G m)).2:=by
 obtain ⟨e1,e2⟩:=QI (D:=D.nx) hl (F.lp,F.it,m.a) (goPreds F G m) (goFr F m::G::K)
 refine Z00 h (by omega) (by unfold fitsB;rcases hk with k|k<;>simp[k,hF,hs]) ?_ (by rw[e2])
 unfold stepF
 rw[if_neg (by omega),if_neg (by omega),if_neg (by omega),if_neg (by omega),if_neg (by omega),if_pos hk]
 exact e1
theorem s_iter (h:l[D.pos]?=some m) (hk:m.k=9) (hF:F.kind=3) (ha:m.a=F.cnt) (hl:D.preds.length≠1000):Rn l D (F::K)=Rn l (D.nx.begin (F.ser,F.cnt,0) [if 0 < F.cnt then (F.ahead.headD (0,0)).2 else F.now]).2
  (iterFr F (D.nx.begin (F.ser,F.cnt,0) [if 0 < F.cnt then (F.ahead.headD (0,0)).2 else F.now]).1::{ F with cnt:=F.cnt+1 }::K):=by
 obtain ⟨e1,_,_,e4⟩:=QH (D:=D.nx) hl (F.ser,F.cnt,0) [if 0 < F.cnt then (F.ahead.headD (0,0)).2 else F.now] ({ F with cnt:=F.cnt+1 }::K)
 refine Z19 h (by omega) (by unfold fitsB;simp[hk,hF,ha]) ?_ e4
 unfold stepF
 rw[if_neg (by omega),if_neg (by omega),if_neg (by omega),if_neg (by omega),if_pos hk]
 unfold iterB
 have:({ bdOf D (F::K) with fs:={ F with cnt:=F.cnt+1 }::K }:Bd).begin (F.ser,F.cnt,0) [if 0 < F.cnt then (F.ahead.headD (0,0)).2 else F.now]=(bdOf D.nx ({ F with cnt:=F.cnt+1 }::K)).begin (F.ser,F.cnt,0) [if 0 < F.cnt then (F.ahead.headD (0,0)).2 else F.now]:=rfl
 rw[this,e1]
 rfl
theorem X62 (h:l[D.pos]?=some m) (hk:m.k=9) (hF:F.kind=3) (ha:m.a=F.cnt) (hl:D.preds.length=1000):EndsAt l D (F::K) (D.nx.begin (F.ser,F.cnt,0) [if 0 < F.cnt then (F.ahead.headD (0,0)).2 else F.now]).2:=by
 obtain ⟨e1,e2⟩:=QI (D:=D.nx) hl (F.ser,F.cnt,0) [if 0 < F.cnt then (F.ahead.headD (0,0)).2 else F.now] ({ F with cnt:=F.cnt+1 }::K)
 refine Z00 h (by omega) (by unfold fitsB;simp[hk,hF,ha]) ?_ (by rw[e2])
 unfold stepF
 rw[if_neg (by omega),if_neg (by omega),if_neg (by omega),if_neg (by omega),if_pos hk]
 exact e1
theorem s_done {G:Fr} (h:l[D.pos]?=some m) (hk:m.k=10) (hF:F.kind=2) (ha:m.a=F.it):Rn l D (F::G::K)=Rn l D.nx ({ G with ahead:=F.row++[(F.sg,F.now)],lasts:=G.lasts++[F.now] }::K):=by
 refine Z19 h (by omega) (by unfold fitsB;simp[hk,hF,ha]) ?_ rfl
 unfold stepF
 rw[if_neg (by omega),if_neg (by omega),if_neg (by omega),if_neg (by omega),if_neg (by omega),if_neg (by omega),if_pos hk]
 rfl
end
end
section
def isR (a:Nat) (r:Role):Prop:=isB r∨(6≤r.1∧a≤r.2)
def sameF (F0 F:Fr):Prop:=F.kind=F0.kind∧F.child=F0.child∧F.lp=F0.lp∧F.it=F0.it∧(F0.kind≠2→F.row=[])
def closes (m:Mk) (F:Fr):Prop:=(m.k=5∧F.child=true∧F.kind=1)∨(m.k=10∧F.kind=2∧m.a=F.it)
def FrameOut (l:List Mk) (D0:RD) (F0:Fr) (C:Cx) (a:AV) (E:RD):Prop:=
 (E.over=true∧Ends l D0 F0 E C) ∨
  (E.over=false∧E.e=0∧∃(D2:RD) (F2:Fr) (m:Mk) (tk:Tok),E=D2.nx∧DOk l D2∧l[D2.pos]?=some m∧closes m F2∧sameF F0 F2∧F2.row.length≤D2.pos∧Goes l D0 F0 D2 F2 C ∧
   a=.sl (F2.row++[(if F2.kind=1 then 0 else F2.sg,F2.now)]).length ((F2.row++[(if F2.kind=1 then 0 else F2.sg,F2.now)]).flatMap aSt) tk)
def kindOf (kd:Int) (F:Fr):Prop:=(kd=0∧F.kind=1∧F.child=false)∨(kd=1∧F.kind=1∧F.child=true)∨(kd=2∧F.kind=2∧F.child=false)
def SF (l:List Mk) (n:Nat):Prop:=∀(σ:St) (lab:Nat→Role) (id:Nat) (D:RD) (t:Tb) (F0:Fr) (ahead:List (Int×Int)) (C:Cx) (kd:Int),RdAt σ lab id l D t→DOk l D→D.over=false→D.e=0→l.length - D.pos=n→kindOf kd F0→F0.left=[]→F0.row=[] →
 (F0.kind=2→∀K,C K→∃G K',K=G::K'∧G.ahead=ahead)→ahead.length≤30000 →
 FnG Tryz.prog 26 [.ref id 0 0,aInt kd,.agg (aNd F0.node),aInt F0.now,.sl ahead.length (ahead.flatMap aSt) .none] σ fun a σ'=>
  ∃lab' E t',RdAt σ' lab' id l E t'∧DOk l E∧D.pos≤E.pos∧FrameOut l D F0 C a E∧Stp (isR D.pos) σ lab σ' lab'
def LoopOut (l:List Mk) (D0:RD) (L0:Fr) (a:AV) (E:RD):Prop:=
 (E.over=true∧∀K,EndsAt l D0 (L0::K) E) ∨
  (E.over=false∧E.e=0∧∃(D2:RD) (L2:Fr) (m:Mk) (tk:Tok),E=D2.nx∧DOk l D2∧l[D2.pos]?=some m∧m.k=8∧fitsB L2 m=true∧L2.lasts.length≤D2.pos∧Goes l D0 L0 D2 L2 (fun _=>True)∧a=.sl L2.lasts.length (L2.lasts.map aInt) tk)
def SL (l:List Mk) (n:Nat):Prop:=∀(σ:St) (lab:Nat→Role) (id:Nat) (D:RD) (t:Tb) (s now:Int),RdAt σ lab id l D t→DOk l D→D.over=false→D.e=0→l.length - D.pos=n →
 FnG Tryz.prog 52 [.ref id 0 0,aInt s,aInt now] σ fun a σ'=>
  ∃lab' E t',RdAt σ' lab' id l E t'∧DOk l E∧D.pos≤E.pos∧LoopOut l D (loopFr s now) a E∧Stp (isR D.pos) σ lab σ' lab'
structure FI (l:List Mk) (id nx a:Nat) (σ0:St) (lab0:Nat→Role) (D0:RD) (F0:Fr) (C:Cx) (σ:St) (lab:Nat→Role) (D:RD) (F:Fr) (t:Tb) (tr tl:Tok):Prop where
 rd:RdAt σ lab id l D t
 ok:DOk l D
 le:D0.pos≤D.pos
 tr:TokOk σ lab (8,a) tr F.row.length 2
 tl:TokOk σ lab (7,a) tl F.left.length 1
 nd:σ[nx]?=some (.obj 0 (aNd F.node))
 nl:lab nx=(6,a)
 k:Stp (isR a) σ0 lab0 σ lab
 same:sameF F0 F
 ll:F.left.length≤D.pos
 rl:F.row.length≤D.pos
 st:(D.over=false∧D.e=0∧Goes l D0 F0 D F C)∨(D.over=true∧Ends l D0 F0 D C)
theorem X63 {a b:Nat} (h:a≤b) {r:Role} (hr:isR b r):isR a r:=hr.elim .inl fun h'=>.inr ⟨h'.1,by omega⟩
theorem QJ {a:Nat} {r:Role} (h:isB r):isR a r:=.inl h
theorem FI.stp {l:List Mk} {id nx a:Nat} {σ0:St} {lab0:Nat→Role} {D0:RD} {F0:Fr} {C:Cx} {σ:St} {lab:Nat→Role} {D:RD} {F:Fr} {t:Tb} {tr tl:Tok} (h:FI l id nx a σ0 lab0 D0 F0 C σ lab D F t tr tl) {S:Role→Prop} {σ':St} {lab':Nat→Role} {D':RD} {t':Tb}
  (k:Stp S σ lab σ' lab') (hS:∀r,S r→r=(0,0)∨isB r∨(6≤r.1∧a+1≤r.2)) (hU:∀r,S r→isR a r) (hr:RdAt σ' lab' id l D' t') (ok:DOk l D') (le:D.pos≤D'.pos) (st:(D'.over=false∧D'.e=0∧Goes l D0 F0 D' F C)∨(D'.over=true∧Ends l D0 F0 D' C)):
  FI l id nx a σ0 lab0 D0 F0 C σ' lab' D' F t' tr tl:=by
 have hn:∀q,6≤q→¬S (q,a):=fun q hq hs=>by
  rcases hS _ hs with e|e|e
  ·have:=congrArg Prod.fst e;simp only at this;omega
  ·have:=e.2.2.1;simp only at this;omega
  ·have:=e.2;simp only at this;omega
 obtain ⟨g1,g2⟩:=k.get h.nd (by rw[h.nl];exact hn 6 (by omega))
 exact ⟨hr,ok,by have:=h.le;omega,h.tr.stp k (hn 8 (by omega)),h.tl.stp k (hn 7 (by omega)),g1,g2.trans h.nl,h.k.trans k (fun _ h=>h) hU,h.same,by have:=h.ll;omega,by have:=h.rl;omega,st⟩
set_option maxHeartbeats 8000000 in
theorem frame_step {l:List Mk} (hl:l.length≤16000) {n:Nat} (ihF:∀k,k < n→SF l k) (ihL:∀k,k < n→SL l k):SF l n:=by
 intro σ0 lab0 id D0 t0 F0 ahead C kd H0 hok0 hov0 he0 hrem hkd hleft0 hrow0 hC hah
 refine Qk ZW mixed rfl ?_
 simp only[Q16]
 refine Q1 (fun ε σ=>∃nx,(ε 0=.ref id 0 0∧ε 1=aInt kd∧ε 3=.v (.int .i64 F0.now)∧ε 4=.sl ahead.length (ahead.flatMap aSt) .none∧ε 7=.ref nx 0 0)∧∃lab,σ[nx]?=some (.obj 0 (aNd F0.node))∧lab nx=(6,D0.pos)∧RdAt σ lab id l D0 t0∧Stp (isR D0.pos) σ0 lab0 σ lab) ?_ ?_
 ·intro N X R hN
  push_cast (maxSteps:=999999) -implicitDefEqProofs (disch:=omega)
  refine Qd ?_
  have hac:(AV.agg (aNd F0.node)).cells=aNd F0.node:=rfl
  rw[hac]
  push_cast (maxSteps:=999999) -implicitDefEqProofs (disch:=omega)
  refine hN _ _ ⟨σ0.length,?_,labN σ0 lab0 (6,D0.pos),Qc _ _,Qq _ _ _,H0.stp (Qj (S:=fun _=>False) (6,D0.pos)) fun _ _ _ h=>h,Qj (6,D0.pos)⟩
  push_cast (maxSteps:=999999) -implicitDefEqProofs (disch:=omega)[aInt]
 rintro ε σ ⟨nx,hρ,lab,hnx,hnl,H,hk⟩
 refine Q1 (fun ε σ'=>(ε 0=.ref id 0 0∧ε 1=aInt kd∧ε 3=.v (.int .i64 F0.now)∧ε 4=.sl ahead.length (ahead.flatMap aSt) .none∧ε 7=.ref nx 0 0∧ε 11=.sl 0 [] .nil)∧σ'=σ) ?_ ?_
 ·intro N X R hN
  push_cast (maxSteps:=999999) -implicitDefEqProofs (disch:=omega)
  refine hN _ _ ?_
  push_cast (maxSteps:=999999) -implicitDefEqProofs (disch:=omega)[hρ]
 clear hρ ε
 rintro ε τ ⟨hρ,hτ⟩
 rw[hτ]
 clear hτ τ
 refine Q1 (fun ε σ'=>(ε 0=.ref id 0 0∧ε 1=aInt kd∧ε 3=.v (.int .i64 F0.now)∧ε 4=.sl ahead.length (ahead.flatMap aSt) .none∧ε 7=.ref nx 0 0∧ε 11=.sl 0 [] .nil∧ε 12=.sl 0 [] .nil)∧σ'=σ) ?_ ?_
 ·intro N X R hN
  push_cast (maxSteps:=999999) -implicitDefEqProofs (disch:=omega)
  refine hN _ _ ?_
  push_cast (maxSteps:=999999) -implicitDefEqProofs (disch:=omega)[hρ]
 clear hρ ε
 rintro ε τ ⟨hρ,hτ⟩
 rw[hτ]
 clear hτ τ
 have hfi0:FI l id nx D0.pos σ0 lab0 D0 F0 C σ lab D0 F0 t0 .nil .nil:=
  ⟨H,hok0,Nat.le_refl _,by rw[hrow0];exact TokOk.nil,by rw[hleft0];exact TokOk.nil,hnx,hnl,hk,⟨rfl,rfl,rfl,rfl,fun _=>hrow0⟩,by rw[hleft0];simp,by rw[hrow0];simp,.inl ⟨hov0,he0,Goes.refl⟩⟩
 push_cast (maxSteps:=999999) -implicitDefEqProofs (disch:=omega)
 refine Qv (α:=RD×Fr) (I:=fun x ε σ=>(ε 0=.ref id 0 0∧ε 1=aInt kd∧ε 3=.v (.int .i64 x.2.now)∧ε 4=.sl ahead.length (ahead.flatMap aSt) .none∧ε 7=.ref nx 0 0) ∧
   ∃lab t tr tl,(ε 11=.sl x.2.row.length (x.2.row.flatMap aSt) tr∧ε 12=.sl x.2.left.length (x.2.left.map aInt) tl)∧FI l id nx D0.pos σ0 lab0 D0 F0 C σ lab x.1 x.2 t tr tl)
  (μ:=fun x=>2 * (l.length - x.1.pos)+if x.1.over then 0 else 1) (Q:=fun _ σ=>∃lab E t,RdAt σ lab id l E t∧DOk l E∧D0.pos≤E.pos∧(E.over=true∧Ends l D0 F0 E C)∧Stp (isR D0.pos) σ0 lab0 σ lab) (x:=(D0,F0)) ?_ ?_ ?_
 ·refine ⟨?_,lab,t0,.nil,.nil,?_,hfi0⟩
  ·push_cast (maxSteps:=999999) -implicitDefEqProofs (disch:=omega)[hρ]
  ·push_cast (maxSteps:=999999) -implicitDefEqProofs (disch:=omega)[hρ,hleft0,hrow0]
   rfl
 ·clear hρ hnx hnl H hk hfi0 ε σ lab
  rintro ⟨D,F⟩ ε σ N E ⟨hρ,lab,t,tr,tl,hrl,hfi⟩ hN hE
  simp only at hρ hrl hfi
  simp only[QQ]
  have ho:=hfi.rd.obj
  rcases hfi.st with ⟨hov,he,hgo⟩|⟨hov,hen⟩
  ·push_cast (maxSteps:=999999) -implicitDefEqProofs (disch:=omega)[hρ,ho,Qz,hov]
   refine Q2 (next_a hfi.rd hfi.ok.pos hl) ?_
   rintro a σ1 ⟨rfl,lab1,H1,k1⟩
   push_cast (maxSteps:=999999) -implicitDefEqProofs (disch:=omega)
   refine Qb ?_
   have hz:(List.map abs1 [Value.int .i64 0,Value.int .i64 0,Value.int .i64 0])=aMk ⟨0,0,0⟩:=rfl
   rw[hz]
   push_cast (maxSteps:=999999) -implicitDefEqProofs (disch:=omega)
   refine Q5 (QD _) (by rfl) (Qc _ _) (by simp[QD]) ?_
   have hset:∀a,setAtA (aMk ⟨0,0,0⟩) 0 (aMk a)=aMk a:=fun _=>rfl
   push_cast (maxSteps:=999999) -implicitDefEqProofs (disch:=omega)[hset]
   generalize hnx:D.next l=nx1 at H1 ⊢
   have k2:=k1.trans (Qj (S:=isB) (x:=.obj 0 (aMk nx1.1)) (0,0)) (U:=isB) (fun _ h=>h) fun _ h=>h
   have H2:=H1.stp (Qj (S:=fun _=>False) (x:=.obj 0 (aMk nx1.1)) (0,0)) fun _ _ _ h=>h
   have hmx:(σ1++[Res.obj 0 (aMk nx1.1)])[σ1.length]?=some (.obj 0 (aMk nx1.1)):=Qc _ _
   have hlm:labN σ1 lab1 (0,0) σ1.length=(0,0):=Qq _ _ _
   generalize σ1++[Res.obj 0 (aMk nx1.1)]=σ2 at k2 H2 hmx ⊢
   generalize labN σ1 lab1 (0,0)=lab2 at k2 H2 hlm
   generalize σ1.length=mx at hmx hlm ⊢
   clear H1 k1 ho
   have ho2:=H2.obj
   have hBR:∀r,isB r→r=(0,0)∨isB r∨(6≤r.1∧D0.pos+1≤r.2):=fun r h=>.inr (.inl h)
   cases hm:l[D.pos]? with
   | none=>
    have hn1:=next_end hm
    rw[hnx] at hn1
    subst hn1
    push_cast (maxSteps:=999999) -implicitDefEqProofs (disch:=omega)[hρ,ho2,Qz]
    refine hN ({ D with over:=true },F) _ _ ⟨?_,lab2,t,tr,tl,?_,hfi.stp k2 hBR (fun _=>QJ) H2 ⟨hfi.ok.pos,hfi.ok.p,hfi.ok.q,hfi.ok.a⟩ (Nat.le_refl _) (.inr ⟨rfl,hgo.ends fun K _=>ends_end hm he⟩)⟩ ?_
    ·push_cast (maxSteps:=999999) -implicitDefEqProofs (disch:=omega)[hρ]
    ·push_cast (maxSteps:=999999) -implicitDefEqProofs (disch:=omega)[hrl]
    ·simp[hov]
   | some m=>
   have hlt:=Qm hm
   by_cases hk:m.k < 1∨12 < m.k
   ·have hn1:=next_bad hm hk
    rw[hnx] at hn1
    subst hn1
    push_cast (maxSteps:=999999) -implicitDefEqProofs (disch:=omega)[hρ,ho2,Qz]
    refine hN ({ D with pos:=D.pos+1,e:=5,over:=true },F) _ _ ⟨?_,lab2,t,tr,tl,?_,hfi.stp k2 hBR (fun _=>QJ) H2 ⟨by simp only;omega,hfi.ok.p,hfi.ok.q,by have:=hfi.ok.a;simp only;omega⟩ (by simp only;omega) (.inr ⟨rfl,hgo.ends fun K _=>ends_bad hm hk⟩)⟩ ?_
    ·push_cast (maxSteps:=999999) -implicitDefEqProofs (disch:=omega)[hρ]
    ·push_cast (maxSteps:=999999) -implicitDefEqProofs (disch:=omega)[hrl]
    ·simp[hov];omega
   have hn1:=next_ok hm hk
   rw[hnx] at hn1
   subst hn1
   have hov2:D.nx.over=false:=hov
   have hok2:DOk l D.nx:=hfi.ok.nx hm
   have hkF:kindOf kd F:=by
    obtain ⟨g1,g2,_⟩:=hfi.same
    unfold kindOf at hkd ⊢
    rw[g1,g2];exact hkd
   obtain ⟨hsk,hsc,hsl,hsi,hsr⟩:=hfi.same
   have hnd:=hfi.nd
   obtain ⟨hnd2,hnl2⟩:=k2.get hnd (by rw[hfi.nl];simp[isB])
   have hnl3:=hnl2.trans hfi.nl
   have hpos:=hfi.ok.pos
   have nd0:(aNd F.node)[0]?=some (.v (.int .i64 F.lp)):=rfl
   have nd1:(aNd F.node)[1]?=some (.v (.int .i64 F.it)):=rfl
   have nd2:(aNd F.node)[2]?=some (.v (.int .i64 F.sg)):=rfl
   have hmu:2 * (l.length - (D.pos+1))+1 < 2 * (l.length - D.pos)+(if D.over=true then 0 else 1):=by rw[hov];simp;omega
   have htr2:=hfi.tr.stp k2 (by simp[isB])
   have htl2:=hfi.tl.stp k2 (by simp[isB])
   have hll:=hfi.ll
   have hrl2:=hfi.rl
   by_cases c5:m.k=5∧kd=1
   ·obtain ⟨k5,hkd1⟩:=c5
    subst hkd1
    have hF1:F.kind=1∧F.child=true:=by
     unfold kindOf at hkF
     rcases hkF with ⟨h,_,_⟩|⟨_,h1,h2⟩|⟨h,_,_⟩
     ·omega
     ·exact ⟨h1,h2⟩
     ·omega
    push_cast (maxSteps:=999999) -implicitDefEqProofs (disch:=omega)[hρ,ho2,Qz,hov2,hmx,Qo,k5,aInt,hrl,bldS]
    refine Qf (sz:=2) (by intro a ha;simp at ha;subst ha;rfl) (by simp) ?_
    have hac2:∀p,(AV.agg (aSt p)).cells=aSt p:=fun _=>rfl
    push_cast (maxSteps:=999999) -implicitDefEqProofs (disch:=omega)[hac2]
    refine Qs (m:=1) rfl htr2 rfl rfl rfl (Qy Z1 _) (by omega) (by omega) ?_
    intro σ3 lab3 t3 k3 ht3
    push_cast (maxSteps:=999999) -implicitDefEqProofs (disch:=omega)
    refine ⟨lab3,D.nx,t,H2.stp k3 (fun q _ _ e=>by have:=congrArg Prod.fst e;simp only at this;omega),hok2,by have:=hfi.le;unfold RD.nx;simp only;omega,.inr ⟨hov2,he,D,F,m,t3,rfl,hfi.ok,hm,.inl ⟨k5,hF1.2,hF1.1⟩,hfi.same,hrl2,hgo,?_⟩,(hfi.k.trans k2 (U:=isR D0.pos) (fun _ h=>h) fun _=>QJ).trans k3 (fun _ h=>h) fun r e=>by subst e;exact .inr ⟨by simp,by simp⟩⟩
    rw[if_pos hF1.1]
    simp[aSt]
   by_cases c10:m.k=10∧kd=2∧m.a=F.it
   ·obtain ⟨k10,hkd2,hma⟩:=c10
    subst hkd2
    have hF2:F.kind=2:=by
     unfold kindOf at hkF
     rcases hkF with ⟨h,_,_⟩|⟨h,_,_⟩|⟨_,h1,_⟩
     ·omega
     ·omega
     ·exact h1
    push_cast (maxSteps:=999999) -implicitDefEqProofs (disch:=omega)[hρ,ho2,Qz,hov2,hmx,Qo,QF,k10,hma,hnd2,nd1,nd2,aInt,hrl,bldS]
    refine Qf (sz:=2) (by intro a ha;simp at ha;subst ha;rfl) (by simp) ?_
    have hac2:∀p,(AV.agg (aSt p)).cells=aSt p:=fun _=>rfl
    push_cast (maxSteps:=999999) -implicitDefEqProofs (disch:=omega)[hac2]
    refine Qs (m:=1) rfl htr2 rfl rfl rfl (Qy Z1 _) (by omega) (by omega) ?_
    intro σ3 lab3 t3 k3 ht3
    push_cast (maxSteps:=999999) -implicitDefEqProofs (disch:=omega)
    refine ⟨lab3,D.nx,t,H2.stp k3 (fun q _ _ e=>by have:=congrArg Prod.fst e;simp only at this;omega),hok2,by have:=hfi.le;unfold RD.nx;simp only;omega,.inr ⟨hov2,he,D,F,m,t3,rfl,hfi.ok,hm,.inr ⟨k10,hF2,hma⟩,hfi.same,hrl2,hgo,?_⟩,(hfi.k.trans k2 (U:=isR D0.pos) (fun _ h=>h) fun _=>QJ).trans k3 (fun _ h=>h) fun r e=>by subst e;exact .inr ⟨by simp,by simp⟩⟩
    rw[if_neg (by omega)]
    simp[aSt]
   have hF3:F.kind≠3:=by unfold kindOf at hkF;omega
   by_cases c3:m.k≤3
   ·have hk3:m.k=1∨m.k=2∨m.k=3:=by omega
    have hza:(List.map abs1 [Value.int .i64 0,Value.int .i64 0,Value.bool false])=aAc ⟨0,0,false⟩:=rfl
    have hsetA:∀a,setAtA (aAc ⟨0,0,false⟩) 0 (aAc a)=aAc a:=fun _=>rfl
    have cell3c:∀n,cellsA (some 3) (aAc n)=some (.agg (aAc n)):=fun _=>rfl
    have bldA:∀(a b:Int) (c:Bool),fillA [AV.v (.int .i64 0),AV.v (.int .i64 0),AV.v (.bool false)] [(0,1),(1,1),(2,1)] [AV.v (.int .i64 a),AV.v (.int .i64 b),AV.v (.bool c)]=some (aAc ⟨a,b,c⟩):=fun a b c=>by simp[fillA,AV.cells,Value.cells,setAtA,aAc]
    have hmxa:∀x,(σ2++[x])[mx]?=some (.obj 0 (aMk m)):=fun x=>Q7 hmx
    have step3:∀x:Ac,Stp isB σ2 lab2 (σ2++[Res.obj 0 (aAc x)]) (labN σ2 lab2 (0,0))∧RdAt (σ2++[Res.obj 0 (aAc x)]) (labN σ2 lab2 (0,0)) id l D.nx t:=fun x=>⟨Qj (0,0),H2.stp (Qj (S:=fun _=>False) (0,0)) fun _ _ _ h=>h⟩
    rcases hk3 with k|k|k
    ·have hao:accOf F m=⟨F.now,m.a,false⟩:=by unfold accOf;rw[if_neg (by omega),decide_eq_false (by simp[k])]
     push_cast (maxSteps:=999999) -implicitDefEqProofs (disch:=omega)[hρ,ho2,Qz,hov2,hmx,Qo,QF,k,bldA]
     refine Qb ?_
     rw[hza]
     push_cast (maxSteps:=999999) -implicitDefEqProofs (disch:=omega)
     refine Q5 (Qt _) (Z2 _) (Qc _ _) (by simp[Qt]) ?_
     push_cast (maxSteps:=999999) -implicitDefEqProofs (disch:=omega)[hsetA,hmxa,Qo,k]
     obtain ⟨k3,H3⟩:=step3 ⟨F.now,m.a,false⟩
     have hax3:(σ2++[Res.obj 0 (aAc ⟨F.now,m.a,false⟩)])[σ2.length]?=some (.obj 0 (aAc ⟨F.now,m.a,false⟩)):=Qc _ _
     rw[←hao] at k3 H3 hax3 ⊢
     generalize σ2++[Res.obj 0 (aAc (accOf F m))]=σ3 at k3 H3 hax3 ⊢
     generalize labN σ2 lab2 (0,0)=lab3 at k3 H3
     generalize σ2.length=ax at hax3 ⊢
     have ho3:=H3.obj
     push_cast (maxSteps:=999999) -implicitDefEqProofs (disch:=omega)[hρ,ho3,rdC_4,hax3,cell3c]
     refine Qf (sz:=3) (by intro a ha;simp at ha;subst ha;rfl) (by simp) ?_
     have hac2:∀p,(AV.agg (aAc p)).cells=aAc p:=fun _=>rfl
     push_cast (maxSteps:=999999) -implicitDefEqProofs (disch:=omega)[hac2]
     refine ⟨Qa (by push_cast (maxSteps:=999999) -implicitDefEqProofs (disch:=omega)[ho3,rdC_4,H3.a.exact]),?_⟩
     have haa:=hfi.ok.a
     have hal:D.nx.accs.length=D.accs.length:=rfl
     refine Qs (m:=1) rfl H3.a rfl rfl rfl (Qy Qt _) (by omega) (by omega) ?_
     intro σ4 lab4 t4 k4 ht4
     have ho4:=(k4.get ho3 (by rw[H3.li];simp)).1
     obtain ⟨n1,n2⟩:=H3.cs k4 (accOf F m) ht4
     push_cast (maxSteps:=999999) -implicitDefEqProofs (disch:=omega)
     refine Q6 rfl rfl ho4 (by simp[rdC]) ?_
     have e4:(rdC l D.nx t).set 4 (.sl (D.nx.accs.length+1) (D.nx.accs.flatMap aAc++(aAc (accOf F m)++[])) t4)=rdC l { D.nx with accs:=D.nx.accs++[accOf F m] } { t with a:=t4 }:=by
      have e2:D.nx.accs.flatMap aAc++(aAc (accOf F m)++[])=(D.nx.accs++[accOf F m]).flatMap aAc:=by simp
      rw[e2]
      simp[rdC]
     rw[e4]
     push_cast (maxSteps:=999999) -implicitDefEqProofs (disch:=omega)
     refine hN ({ D.nx with accs:=D.nx.accs++[accOf F m] },F) _ _ ⟨?_,lab4,_,tr,tl,?_,hfi.stp ((k2.trans k3 (U:=isB) (fun _ h=>h) fun _ h=>h).trans n2 (U:=isB) (fun _ h=>h) fun _ h=>h) hBR (fun _=>QJ) n1 ⟨hok2.pos,hok2.p,hok2.q,by simp only[List.length_append,List.length_singleton,RD.nx];omega⟩ (by simp only[RD.nx];omega) (.inl ⟨hov,he,hgo.trans fun K _=>Yz hm (by omega) hF3⟩)⟩ ?_
     ·push_cast (maxSteps:=999999) -implicitDefEqProofs (disch:=omega)[hρ]
     ·push_cast (maxSteps:=999999) -implicitDefEqProofs (disch:=omega)[hrl]
     ·simp only[RD.nx,hov,Bool.false_eq_true,if_false];omega
    ·have hao:accOf F m=⟨F.now,m.a,true⟩:=by unfold accOf;rw[if_neg (by omega),decide_eq_true (by simp[k])]
     push_cast (maxSteps:=999999) -implicitDefEqProofs (disch:=omega)[hρ,ho2,Qz,hov2,hmx,Qo,QF,k,bldA]
     refine Qb ?_
     rw[hza]
     push_cast (maxSteps:=999999) -implicitDefEqProofs (disch:=omega)
     refine Q5 (Qt _) (Z2 _) (Qc _ _) (by simp[Qt]) ?_
     push_cast (maxSteps:=999999) -implicitDefEqProofs (disch:=omega)[hsetA,hmxa,Qo,k]
     obtain ⟨k3,H3⟩:=step3 ⟨F.now,m.a,true⟩
     have hax3:(σ2++[Res.obj 0 (aAc ⟨F.now,m.a,true⟩)])[σ2.length]?=some (.obj 0 (aAc ⟨F.now,m.a,true⟩)):=Qc _ _
     rw[←hao] at k3 H3 hax3 ⊢
     generalize σ2++[Res.obj 0 (aAc (accOf F m))]=σ3 at k3 H3 hax3 ⊢
     generalize labN σ2 lab2 (0,0)=lab3 at k3 H3
     generalize σ2.length=ax at hax3 ⊢
     have ho3:=H3.obj
     push_cast (maxSteps:=999999) -implicitDefEqProofs (disch:=omega)[hρ,ho3,rdC_4,hax3,cell3c]
     refine Qf (sz:=3) (by intro a ha;simp at ha;subst ha;rfl) (by simp) ?_
     have hac2:∀p,(AV.agg (aAc p)).cells=aAc p:=fun _=>rfl
     push_cast (maxSteps:=999999) -implicitDefEqProofs (disch:=omega)[hac2]
     refine ⟨Qa (by push_cast (maxSteps:=999999) -implicitDefEqProofs (disch:=omega)[ho3,rdC_4,H3.a.exact]),?_⟩
     have haa:=hfi.ok.a
     have hal:D.nx.accs.length=D.accs.length:=rfl
     refine Qs (m:=1) rfl H3.a rfl rfl rfl (Qy Qt _) (by omega) (by omega) ?_
     intro σ4 lab4 t4 k4 ht4
     have ho4:=(k4.get ho3 (by rw[H3.li];simp)).1
     obtain ⟨n1,n2⟩:=H3.cs k4 (accOf F m) ht4
     push_cast (maxSteps:=999999) -implicitDefEqProofs (disch:=omega)
     refine Q6 rfl rfl ho4 (by simp[rdC]) ?_
     have e4:(rdC l D.nx t).set 4 (.sl (D.nx.accs.length+1) (D.nx.accs.flatMap aAc++(aAc (accOf F m)++[])) t4)=rdC l { D.nx with accs:=D.nx.accs++[accOf F m] } { t with a:=t4 }:=by
      have e2:D.nx.accs.flatMap aAc++(aAc (accOf F m)++[])=(D.nx.accs++[accOf F m]).flatMap aAc:=by simp
      rw[e2]
      simp[rdC]
     rw[e4]
     push_cast (maxSteps:=999999) -implicitDefEqProofs (disch:=omega)
     refine hN ({ D.nx with accs:=D.nx.accs++[accOf F m] },F) _ _ ⟨?_,lab4,_,tr,tl,?_,hfi.stp ((k2.trans k3 (U:=isB) (fun _ h=>h) fun _ h=>h).trans n2 (U:=isB) (fun _ h=>h) fun _ h=>h) hBR (fun _=>QJ) n1 ⟨hok2.pos,hok2.p,hok2.q,by simp only[List.length_append,List.length_singleton,RD.nx];omega⟩ (by simp only[RD.nx];omega) (.inl ⟨hov,he,hgo.trans fun K _=>Yz hm (by omega) hF3⟩)⟩ ?_
     ·push_cast (maxSteps:=999999) -implicitDefEqProofs (disch:=omega)[hρ]
     ·push_cast (maxSteps:=999999) -implicitDefEqProofs (disch:=omega)[hrl]
     ·simp only[RD.nx,hov,Bool.false_eq_true,if_false];omega
    ·have hao:accOf F m=⟨F.now,-1,true⟩:=by unfold accOf;rw[if_pos k,decide_eq_true (by simp[k])]
     push_cast (maxSteps:=999999) -implicitDefEqProofs (disch:=omega)[hρ,ho2,Qz,hov2,hmx,Qo,QF,k,bldA]
     refine Qb ?_
     rw[hza]
     push_cast (maxSteps:=999999) -implicitDefEqProofs (disch:=omega)
     refine Q5 (Qt _) (Z2 _) (Qc _ _) (by simp[Qt]) ?_
     push_cast (maxSteps:=999999) -implicitDefEqProofs (disch:=omega)[hsetA,hmxa,Qo,k]
     refine Q6 rfl rfl (Qc _ _) (by simp[aAc]) ?_
     have e0:(aAc ⟨F.now,m.a,true⟩).set 1 (.v (.int .i64 (-1)))=aAc ⟨F.now,-1,true⟩:=rfl
     push_cast (maxSteps:=999999) -implicitDefEqProofs (disch:=omega)[e0]
     obtain ⟨k3,H3⟩:=step3 ⟨F.now,-1,true⟩
     have hax3:(σ2++[Res.obj 0 (aAc ⟨F.now,-1,true⟩)])[σ2.length]?=some (.obj 0 (aAc ⟨F.now,-1,true⟩)):=Qc _ _
     rw[←hao] at k3 H3 hax3 ⊢
     generalize σ2++[Res.obj 0 (aAc (accOf F m))]=σ3 at k3 H3 hax3 ⊢
     generalize labN σ2 lab2 (0,0)=lab3 at k3 H3
     generalize σ2.length=ax at hax3 ⊢
     have ho3:=H3.obj
     push_cast (maxSteps:=999999) -implicitDefEqProofs (disch:=omega)[hρ,ho3,rdC_4,hax3,cell3c]
     refine Qf (sz:=3) (by intro a ha;simp at ha;subst ha;rfl) (by simp) ?_
     have hac2:∀p,(AV.agg (aAc p)).cells=aAc p:=fun _=>rfl
     push_cast (maxSteps:=999999) -implicitDefEqProofs (disch:=omega)[hac2]
     refine ⟨Qa (by push_cast (maxSteps:=999999) -implicitDefEqProofs (disch:=omega)[ho3,rdC_4,H3.a.exact]),?_⟩
     have haa:=hfi.ok.a
     have hal:D.nx.accs.length=D.accs.length:=rfl
     refine Qs (m:=1) rfl H3.a rfl rfl rfl (Qy Qt _) (by omega) (by omega) ?_
     intro σ4 lab4 t4 k4 ht4
     have ho4:=(k4.get ho3 (by rw[H3.li];simp)).1
     obtain ⟨n1,n2⟩:=H3.cs k4 (accOf F m) ht4
     push_cast (maxSteps:=999999) -implicitDefEqProofs (disch:=omega)
     refine Q6 rfl rfl ho4 (by simp[rdC]) ?_
     have e4:(rdC l D.nx t).set 4 (.sl (D.nx.accs.length+1) (D.nx.accs.flatMap aAc++(aAc (accOf F m)++[])) t4)=rdC l { D.nx with accs:=D.nx.accs++[accOf F m] } { t with a:=t4 }:=by
      have e2:D.nx.accs.flatMap aAc++(aAc (accOf F m)++[])=(D.nx.accs++[accOf F m]).flatMap aAc:=by simp
      rw[e2]
      simp[rdC]
     rw[e4]
     push_cast (maxSteps:=999999) -implicitDefEqProofs (disch:=omega)
     refine hN ({ D.nx with accs:=D.nx.accs++[accOf F m] },F) _ _ ⟨?_,lab4,_,tr,tl,?_,hfi.stp ((k2.trans k3 (U:=isB) (fun _ h=>h) fun _ h=>h).trans n2 (U:=isB) (fun _ h=>h) fun _ h=>h) hBR (fun _=>QJ) n1 ⟨hok2.pos,hok2.p,hok2.q,by simp only[List.length_append,List.length_singleton,RD.nx];omega⟩ (by simp only[RD.nx];omega) (.inl ⟨hov,he,hgo.trans fun K _=>Yz hm (by omega) hF3⟩)⟩ ?_
     ·push_cast (maxSteps:=999999) -implicitDefEqProofs (disch:=omega)[hρ]
     ·push_cast (maxSteps:=999999) -implicitDefEqProofs (disch:=omega)[hrl]
     ·simp only[RD.nx,hov,Bool.false_eq_true,if_false];omega
   by_cases c4:m.k=4
   ·have hz3:AV.agg [AV.v (.int .i64 0),AV.v (.int .i64 0),AV.v (.int .i64 0)]=.agg (aNd (0,0,0)):=rfl
    push_cast (maxSteps:=999999) -implicitDefEqProofs (disch:=omega)[hρ,ho2,Qz,hov2,hmx,Qo,c4]
    refine Qf (sz:=1) (by intro a ha;simp at ha;subst ha;rfl) (by simp) ?_
    push_cast (maxSteps:=999999) -implicitDefEqProofs (disch:=omega)
    refine Qi [] [false,false,true] (ZB H2 hok2.p hok2.q (0,0,0) [F.now]) (weak3 _ _ _ [F.now] _) ?_
    rintro a σ3 ⟨rfl,lab3,t3,H3,k3⟩
    have hokr:=hok2.begin (0,0,0) [F.now]
    have kk3:=k2.trans k3 (U:=isB) (fun _ h=>h) fun _ h=>h
    have ho3:=H3.obj
    by_cases hfull:D.preds.length=1000
    ·obtain ⟨_,e2⟩:=QI (D:=D.nx) hfull (0,0,0) [F.now] []
     have hend:Ends l D F (D.nx.begin (0,0,0) [F.now]).2 C:=fun K _=>s_fork_full hm c4 hF3 hfull
     rw[e2] at H3 hokr ho3 hend
     push_cast (maxSteps:=999999) -implicitDefEqProofs (disch:=omega)[hρ,ho3,Qz]
     refine hN ({ D.nx with e:=9,over:=true },F) _ _ ⟨?_,lab3,t3,tr,tl,?_,hfi.stp kk3 hBR (fun _=>QJ) H3 hokr (by simp only[RD.nx];omega) (.inr ⟨rfl,hgo.ends hend⟩)⟩ ?_
     ·push_cast (maxSteps:=999999) -implicitDefEqProofs (disch:=omega)[hρ]
     ·push_cast (maxSteps:=999999) -implicitDefEqProofs (disch:=omega)[hrl]
     ·simp only[RD.nx,if_true];omega
    ·obtain ⟨_,e2,e3,e4⟩:=QH (D:=D.nx) hfull (0,0,0) [F.now] []
     have hfork:=fun K=>s_fork (K:=K) hm c4 hF3 hfull
     generalize D.nx.begin (0,0,0) [F.now]=r at H3 hokr ho3 hfork e2 e3 e4 ⊢
     have hpr:r.2.pos=D.pos+1:=e4
     have hwk:∀S:St,weak (Go.Kx.freeze [] S) [false,false,false,false,true] [.ref id 0 0,.v (.int .i64 1),.agg [AV.v (.int .i64 0),AV.v (.int .i64 0),AV.v (.int .i64 0)],aInt r.1,.sl 0 [] .nil]=[.ref id 0 0,aInt 1,.agg (aNd (taskFr r.1).node),aInt (taskFr r.1).now,.sl ([]:List (Int×Int)).length (([]:List (Int×Int)).flatMap aSt) .none]:=fun S=>by simp[weak,AV.res,AV.resL,aInt,aNd,Fr.node,taskFr]
     have hov3:r.2.over=false:=e2.trans hov2
     push_cast (maxSteps:=999999) -implicitDefEqProofs (disch:=omega)[hρ,ho3,Qz,hov3]
     refine Qi [] [false,false,false,false,true] (ihF (l.length - r.2.pos) (by rw[hpr,←hrem];have:=hfi.le;omega) σ3 lab3 id r.2 t3 (taskFr r.1) [] (fun K'=>∃K,C K∧K'=F::K) 1 H3 hokr hov3 (e3.trans he) rfl (.inr (.inl ⟨rfl,rfl,rfl⟩)) rfl rfl (fun e=>by simp[taskFr] at e) (by simp)) (hwk _) ?_
     rintro a2 σ4 ⟨lab4,E,t4,H4,hokE,hlE,hout,k4⟩
     have ho4:=H4.obj
     have kk4:=kk3.trans k4 (U:=isR (D.pos+1)) (fun _=>QJ) fun r' h=>X63 (by omega) h
     have hSR:∀r',isR (D.pos+1) r'→r'=(0,0)∨isB r'∨(6≤r'.1∧D0.pos+1≤r'.2):=fun r' h=>h.elim (fun h=>.inr (.inl h)) fun h=>.inr (.inr ⟨h.1,by have:=h.2;have:=hfi.le;omega⟩)
     have hSU:∀r',isR (D.pos+1) r'→isR D0.pos r':=fun r' h=>X63 (by have:=hfi.le;omega) h
     rcases hout with ⟨hovE,henE⟩|⟨hovE,heE,D2,F2,m5,tk,rfl,hokD2,hm5,hcl5,hsame2,hrow2,hgo2,rfl⟩
     ·have hlE':D.pos≤E.pos:=by have:r.2.pos≤E.pos:=hlE;omega
      push_cast (maxSteps:=999999) -implicitDefEqProofs (disch:=omega)[hρ,ho4,Qz,hovE]
      refine hN (E,F) _ _ ⟨?_,lab4,t4,tr,tl,?_,hfi.stp kk4 hSR hSU H4 hokE hlE' (.inr ⟨hovE,hgo.ends fun K hK=>by unfold EndsAt;rw[hfork K];exact henE _ ⟨K,hK,rfl⟩⟩)⟩ ?_
      ·push_cast (maxSteps:=999999) -implicitDefEqProofs (disch:=omega)[hρ]
      ·push_cast (maxSteps:=999999) -implicitDefEqProofs (disch:=omega)[hrl]
      ·have:r.2.pos≤E.pos:=hlE
       simp only[hovE,hov,if_true,Bool.false_eq_true,if_false];omega
     ·have hF2k:F2.kind=1∧F2.child=true∧F2.row=[]:=⟨hsame2.1,hsame2.2.1,hsame2.2.2.2.2 (by simp[taskFr])⟩
      have hm5k:m5.k=5:=by
       rcases hcl5 with ⟨h,_⟩|⟨_,h,_⟩
       ·exact h
       ·rw[hF2k.1] at h;omega
      rw[hF2k.2.2,if_pos hF2k.1]
      have hnd4:=kk4.get hnd (by rw[hfi.nl];intro h;exact h.elim (fun h=>by have:=h.2.2.1;simp only at this;omega) fun h=>by have:=h.2;simp only at this;have:=hfi.le;omega)
      have htl4:=hfi.tl.stp kk4 (fun h=>h.elim (fun h=>by have:=h.2.2.1;simp only at this;omega) fun h=>by have:=h.2;simp only at this;have:=hfi.le;omega)
      have hsl1:AV.sl (([]:List (Int×Int))++[((0:Int),F2.now)]).length ((([]:List (Int×Int))++[((0:Int),F2.now)]).flatMap aSt) tk=.sl 1 (aSt (0,F2.now)) tk:=rfl
      have hg0:List.drop (Int.toNat 0 * 2) (aSt (0,F2.now))=aSt (0,F2.now):=rfl
      have hg1:(aSt (0,F2.now))[1]?=some (.v (.int .i64 F2.now)):=rfl
      have hD2p:D.pos≤D2.pos:=by
       have h1:r.2.pos≤D2.nx.pos:=hlE
       have h2:D2.nx.pos=D2.pos+1:=rfl
       omega
      have hm5l:=Qm hm5
      have hok5:=hokD2.nx hm5
      obtain ⟨hnd5,hnl5⟩:=hnd4
      rw[hsl1]
      push_cast (maxSteps:=999999) -implicitDefEqProofs (disch:=omega)[hρ,ho4,Qz,hovE,hg0,hg1]
      refine Qf (sz:=1) (by intro a ha;simp at ha;subst ha;rfl) (by simp) ?_
      push_cast (maxSteps:=999999) -implicitDefEqProofs (disch:=omega)[hrl]
      refine Qs (m:=1) rfl htl4 rfl rfl rfl (by simp) (by omega) (by omega) ?_
      intro σ5 lab5 t5 k5 ht5
      obtain ⟨hnd6,hnl6⟩:=k5.get hnd5 (by rw[hnl5,hfi.nl];simp)
      have H5:=H4.stp k5 (fun q _ _ e=>by have:=congrArg Prod.fst e;simp only at this;omega)
      have htr5:=(hfi.tr.stp kk4 (fun h=>h.elim (fun h=>by have:=h.2.2.1;simp only at this;omega) fun h=>by have:=h.2;simp only at this;have:=hfi.le;omega)).stp k5 (by simp)
      push_cast (maxSteps:=999999) -implicitDefEqProofs (disch:=omega)[hρ,hnd6,cell3]
      refine Qf (sz:=1) (by intro a ha;simp at ha;subst ha;rfl) (by simp) ?_
      push_cast (maxSteps:=999999) -implicitDefEqProofs (disch:=omega)
      refine Qi [] [false,false,true] (ZB H5 hok5.p hok5.q F.node [F.now]) (weak3 _ _ _ [F.now] _) ?_
      rintro a σ6 ⟨rfl,lab6,t6,H6,k6⟩
      obtain ⟨hnd7,hnl7⟩:=k6.get hnd6 (by rw[hnl6,hnl5,hfi.nl];intro h;have:=h.2.2.1;simp only at this;omega)
      have hpE:(D2.nx.begin F.node [F.now]).2.pos=D2.pos+1:=by unfold RD.begin;split<;>rfl
      have hkk:Stp (isR D0.pos) σ0 lab0 σ6 lab6:=((hfi.k.trans kk4 (U:=isR D0.pos) (fun _ h=>h) hSU).trans k5 (U:=isR D0.pos) (fun _ h=>h) fun r' e=>by subst e;exact .inr ⟨by simp,by simp⟩).trans k6 (fun _ h=>h) fun _=>QJ
      have hst:((D2.nx.begin F.node [F.now]).2.over=false∧(D2.nx.begin F.node [F.now]).2.e=0∧Goes l D0 F0 (D2.nx.begin F.node [F.now]).2 { F with left:=F.left++[F2.now],now:=(D2.nx.begin F.node [F.now]).1 } C) ∨
        ((D2.nx.begin F.node [F.now]).2.over=true∧Ends l D0 F0 (D2.nx.begin F.node [F.now]).2 C):=by
       by_cases hfull2:D2.preds.length=1000
       ·refine .inr ⟨by rw[(QI (D:=D2.nx) hfull2 F.node [F.now] []).2],hgo.ends fun K hK=>?_⟩
        unfold EndsAt
        rw[hfork K,hgo2 _ ⟨K,hK,rfl⟩]
        exact s_ret_full hm5 hm5k hF2k.2.1 hfull2
       ·obtain ⟨_,g2,g3,_⟩:=QH (D:=D2.nx) hfull2 F.node [F.now] []
        exact .inl ⟨g2.trans hovE,g3.trans heE,hgo.trans fun K hK=>by
         rw[hfork K,hgo2 _ ⟨K,hK,rfl⟩]
         exact s_ret hm5 hm5k hF2k.2.1 hfull2⟩
      push_cast (maxSteps:=999999) -implicitDefEqProofs (disch:=omega)
      refine hN ((D2.nx.begin F.node [F.now]).2,{ F with left:=F.left++[F2.now],now:=(D2.nx.begin F.node [F.now]).1 }) _ _ ⟨?_,lab6,t6,tr,t5,?_,H6,hok5.begin _ _,by rw[hpE];have:=hfi.le;omega,htr5.stp k6 (fun h=>by have:=h.2.2.1;simp only at this;omega),?_,hnd7,hnl7.trans (hnl6.trans (hnl5.trans hfi.nl)),hkk,hfi.same,by simp only[List.length_append,List.length_singleton,hpE];omega,by simp only[hpE];omega,hst⟩ ?_
      ·push_cast (maxSteps:=999999) -implicitDefEqProofs (disch:=omega)[hρ]
       rfl
      ·push_cast (maxSteps:=999999) -implicitDefEqProofs (disch:=omega)[hrl]
       simp[aInt]
      ·have:=ht5.stp k6 (fun h=>by have:=h.2.2.1;simp only at this;omega)
       simpa using this
      ·simp only[hpE,hov,Bool.false_eq_true,if_false]
       split<;>omega
   have hn7:∀{S:Role→Prop},(∀r,S r→isB r)→∀q,6≤q→¬S (q,D0.pos):=fun hS q hq h=>by have:=(hS _ h).2.2.1;simp only at this;omega
   by_cases c6:m.k=6
   ·push_cast (maxSteps:=999999) -implicitDefEqProofs (disch:=omega)[hρ,ho2,Qz,hov2,hmx,Qo,c6,hnd2,cell3]
    refine Qf (sz:=1) (by intro a ha;simp at ha;subst ha;rfl) (by simp) ?_
    push_cast (maxSteps:=999999) -implicitDefEqProofs (disch:=omega)[hrl]
    refine ⟨Qa (by push_cast (maxSteps:=999999) -implicitDefEqProofs (disch:=omega)[hρ,hnd2,cell3,ex_nd]),?_⟩
    refine QU (m:=F.left.length) rfl rfl (by simp) (by rw[List.all_map];exact List.all_eq_true.2 fun x _=>rfl) rfl (by omega) (by omega) ?_
    push_cast (maxSteps:=999999) -implicitDefEqProofs (disch:=omega)
    refine ⟨Qa (by push_cast (maxSteps:=999999) -implicitDefEqProofs (disch:=omega)[hρ,hnd2,cell3,ex_nd]),?_⟩
    have hml:AV.sl (1+F.left.length) ([AV.v (.int .i64 F.now)]++F.left.map aInt) .none=.sl (F.now::F.left).length ((F.now::F.left).map aInt) .none:=by
     rw[List.length_cons,Nat.add_comm];rfl
    refine Qi [] [false,false,true] (ZB H2 hok2.p hok2.q F.node (F.now::F.left)) (by
     have:=weak3 (Go.Kx.freeze [] σ2) (.ref id 0 0) (.agg (aNd F.node)) (F.now::F.left) .none
     rw[←hml] at this
     exact this) ?_
    rintro a σ6 ⟨rfl,lab6,t6,H6,k6⟩
    obtain ⟨hnd7,hnl7⟩:=k6.get hnd2 (by rw[hnl3];exact hn7 (fun _ h=>h) 6 (by omega))
    have hpE:(D.nx.begin F.node (F.now::F.left)).2.pos=D.pos+1:=by unfold RD.begin;split<;>rfl
    have hst:((D.nx.begin F.node (F.now::F.left)).2.over=false∧(D.nx.begin F.node (F.now::F.left)).2.e=0∧Goes l D0 F0 (D.nx.begin F.node (F.now::F.left)).2 { F with now:=(D.nx.begin F.node (F.now::F.left)).1,left:=[] } C) ∨
      ((D.nx.begin F.node (F.now::F.left)).2.over=true∧Ends l D0 F0 (D.nx.begin F.node (F.now::F.left)).2 C):=by
     by_cases hfull2:D.preds.length=1000
     ·exact .inr ⟨by rw[(QI (D:=D.nx) hfull2 F.node (F.now::F.left) []).2],hgo.ends fun K hK=>s_meet_full hm c6 hF3 hfull2⟩
     ·obtain ⟨_,g2,g3,_⟩:=QH (D:=D.nx) hfull2 F.node (F.now::F.left) []
      exact .inl ⟨g2.trans hov2,g3.trans he,hgo.trans fun K hK=>s_meet hm c6 hF3 hfull2⟩
    push_cast (maxSteps:=999999) -implicitDefEqProofs (disch:=omega)
    refine hN ((D.nx.begin F.node (F.now::F.left)).2,{ F with now:=(D.nx.begin F.node (F.now::F.left)).1,left:=[] }) _ _ ⟨?_,lab6,t6,tr,.nil,?_,H6,hok2.begin _ _,by rw[hpE];have:=hfi.le;omega,htr2.stp k6 (hn7 (fun _ h=>h) 8 (by omega)),TokOk.nil,hnd7,hnl7.trans hnl3,(hfi.k.trans k2 (U:=isR D0.pos) (fun _ h=>h) fun _=>QJ).trans k6 (fun _ h=>h) fun _=>QJ,hfi.same,by simp,by simp only[hpE];omega,hst⟩ ?_
    ·push_cast (maxSteps:=999999) -implicitDefEqProofs (disch:=omega)[hρ]
     rfl
    ·push_cast (maxSteps:=999999) -implicitDefEqProofs (disch:=omega)[hrl]
     rfl
    ·simp only[hpE,hov,Bool.false_eq_true,if_false]
     split<;>omega
   by_cases c7:m.k=7
   ·push_cast (maxSteps:=999999) -implicitDefEqProofs (disch:=omega)[hρ,ho2,Qz,hov2,hmx,Qo,QF,c7]
    refine Q2 (ihL (l.length - D.nx.pos) (by have h1:D.nx.pos=D.pos+1:=rfl;have:=hfi.le;omega) σ2 lab2 id D.nx t m.a F.now H2 hok2 hov2 he rfl) ?_
    rintro a2 σ4 ⟨lab4,E,t4,H4,hokE,hlE,hout,k4⟩
    have ho4:=H4.obj
    have hlE':D.pos+1≤E.pos:=hlE
    have kk4:=k2.trans k4 (U:=isR (D.pos+1)) (fun _=>QJ) fun r' h=>h
    have hSR:∀r',isR (D.pos+1) r'→r'=(0,0)∨isB r'∨(6≤r'.1∧D0.pos+1≤r'.2):=fun r' h=>h.elim (fun h=>.inr (.inl h)) fun h=>.inr (.inr ⟨h.1,by have:=h.2;have:=hfi.le;omega⟩)
    have hSU:∀r',isR (D.pos+1) r'→isR D0.pos r':=fun r' h=>X63 (by have:=hfi.le;omega) h
    have hnR:∀q,6≤q→¬isR (D.pos+1) (q,D0.pos):=fun q hq h=>h.elim (fun h=>by have:=h.2.2.1;simp only at this;omega) fun h=>by have:=h.2;simp only at this;have:=hfi.le;omega
    rcases hout with ⟨hovE,henE⟩|⟨hovE,heE,D2,L2,m8,tk,rfl,hokD2,hm8,hm8k,hf8,hll2,hgo2,rfl⟩
    ·push_cast (maxSteps:=999999) -implicitDefEqProofs (disch:=omega)[hρ,ho4,Qz,hovE]
     refine hN (E,F) _ _ ⟨?_,lab4,t4,tr,tl,?_,hfi.stp kk4 hSR hSU H4 hokE (Nat.le_of_succ_le hlE') (.inr ⟨hovE,hgo.ends fun K hK=>by unfold EndsAt;rw[s_loop (K:=K) hm c7 hF3];exact henE (F::K)⟩)⟩ ?_
     ·push_cast (maxSteps:=999999) -implicitDefEqProofs (disch:=omega)[hρ]
     ·push_cast (maxSteps:=999999) -implicitDefEqProofs (disch:=omega)[hrl]
     ·simp only[hovE,hov,if_true,Bool.false_eq_true,if_false];omega
    ·have hm8l:=Qm hm8
     have hok8:=hokD2.nx hm8
     have hD2p:D.pos≤D2.pos:=by have h2:D2.nx.pos=D2.pos+1:=rfl;omega
     obtain ⟨hnd5,hnl5⟩:=kk4.get hnd (by rw[hfi.nl];exact hnR 6 (by omega))
     have htr4:=hfi.tr.stp kk4 (hnR 8 (by omega))
     have htl4:=hfi.tl.stp kk4 (hnR 7 (by omega))
     push_cast (maxSteps:=999999) -implicitDefEqProofs (disch:=omega)[hρ,ho4,Qz,hovE,hnd5,cell3]
     refine Qi [] [false,false,true] (ZB H4 hok8.p hok8.q F.node L2.lasts) (weak3 _ _ _ L2.lasts _) ?_
     rintro a σ6 ⟨rfl,lab6,t6,H6,k6⟩
     obtain ⟨hnd7,hnl7⟩:=k6.get hnd5 (by rw[hnl5,hfi.nl];exact hn7 (fun _ h=>h) 6 (by omega))
     have hpE:(D2.nx.begin F.node L2.lasts).2.pos=D2.pos+1:=by unfold RD.begin;split<;>rfl
     have hst:((D2.nx.begin F.node L2.lasts).2.over=false∧(D2.nx.begin F.node L2.lasts).2.e=0∧Goes l D0 F0 (D2.nx.begin F.node L2.lasts).2 { F with now:=(D2.nx.begin F.node L2.lasts).1 } C) ∨
       ((D2.nx.begin F.node L2.lasts).2.over=true∧Ends l D0 F0 (D2.nx.begin F.node L2.lasts).2 C):=by
      by_cases hfull2:D2.preds.length=1000
      ·refine .inr ⟨by rw[(QI (D:=D2.nx) hfull2 F.node L2.lasts []).2],hgo.ends fun K hK=>?_⟩
       unfold EndsAt
       rw[s_loop (K:=K) hm c7 hF3,hgo2 _ trivial]
       exact s_leave_full hm8 hm8k hf8 hfull2
      ·obtain ⟨_,g2,g3,_⟩:=QH (D:=D2.nx) hfull2 F.node L2.lasts []
       exact .inl ⟨g2.trans hovE,g3.trans heE,hgo.trans fun K hK=>by
        rw[s_loop (K:=K) hm c7 hF3,hgo2 _ trivial]
        exact s_leave hm8 hm8k hf8 hfull2⟩
     push_cast (maxSteps:=999999) -implicitDefEqProofs (disch:=omega)
     refine hN ((D2.nx.begin F.node L2.lasts).2,{ F with now:=(D2.nx.begin F.node L2.lasts).1 }) _ _ ⟨?_,lab6,t6,tr,tl,?_,H6,hok8.begin _ _,by rw[hpE];have:=hfi.le;omega,htr4.stp k6 (hn7 (fun _ h=>h) 8 (by omega)),htl4.stp k6 (hn7 (fun _ h=>h) 7 (by omega)),hnd7,hnl7.trans (hnl5.trans hfi.nl),(hfi.k.trans kk4 (U:=isR D0.pos) (fun _ h=>h) hSU).trans k6 (fun _ h=>h) fun _=>QJ,hfi.same,by simp only[hpE];omega,by simp only[hpE];omega,hst⟩ ?_
     ·push_cast (maxSteps:=999999) -implicitDefEqProofs (disch:=omega)[hρ]
      rfl
     ·push_cast (maxSteps:=999999) -implicitDefEqProofs (disch:=omega)[hrl]
     ·simp only[hpE,hov,Bool.false_eq_true,if_false]
      split<;>omega
   by_cases c11:11≤m.k∧kd=2∧F.sg < m.a
   ·obtain ⟨k11,hkd2,hsg⟩:=c11
    subst hkd2
    have hm11:m.k=11∨m.k=12:=by omega
    have hF2:F.kind=2:=by
     unfold kindOf at hkF
     rcases hkF with ⟨h,_,_⟩|⟨h,_,_⟩|⟨_,h1,_⟩
     ·omega
     ·omega
     ·exact h1
    have j5:¬m.k=5:=by omega
    have j10:¬m.k=10:=by omega
    have j3:¬m.k≤3:=by omega
    obtain ⟨gp,hgp⟩:∃gp:List Int,gp=if m.k=11∧0 < F.it then [F.now,lastA ahead m.a] else [F.now]:=⟨_,rfl⟩
    have hgpl:gp.length≤2:=by rw[hgp];split<;>simp
    have hgpK:∀K,C K→∃G K',K=G::K'∧goPreds F G m=gp:=fun K hK=>by
     obtain ⟨G,K',e1,e2⟩:=hC (hsk ▸ hF2) K hK
     exact ⟨G,K',e1,by rw[hgp];unfold goPreds;rw[e2]⟩
    push_cast (maxSteps:=999999) -implicitDefEqProofs (disch:=omega)[hρ,ho2,Qz,hov2,hmx,Qo,QF,j5,j10,j3,c4,c6,c7,k11,hsg,hnd2,nd1,nd2,aInt,hrl,bldS]
    refine Qf (sz:=2) (by intro a ha;simp at ha;subst ha;rfl) (by simp) ?_
    have hac2:∀p,(AV.agg (aSt p)).cells=aSt p:=fun _=>rfl
    push_cast (maxSteps:=999999) -implicitDefEqProofs (disch:=omega)[hac2]
    refine Qs (m:=1) rfl htr2 rfl rfl rfl (Qy Z1 _) (by omega) (by omega) ?_
    intro σ3 lab3 t3 k3 ht3
    obtain ⟨hmx3,hlm3⟩:=k3.get hmx (by rw[hlm];simp)
    obtain ⟨hnd3,hnl3'⟩:=k3.get hnd2 (by rw[hnl3];simp)
    have hnl4:=hnl3'.trans hnl3
    have H3:=H2.stp k3 (fun q _ _ e=>by have:=congrArg Prod.fst e;simp only at this;omega)
    have htl3:=htl2.stp k3 (by simp)
    push_cast (maxSteps:=999999) -implicitDefEqProofs (disch:=omega)[hρ]
    refine Qf (sz:=1) (by intro a ha;simp at ha;subst ha;rfl) (by simp) ?_
    by_cases e11:m.k=11
    ·by_cases hit:0 < F.it
     ·rw[if_pos ⟨e11,hit⟩] at hgp
      subst hgp
      push_cast (maxSteps:=999999) -implicitDefEqProofs (disch:=omega)[hρ,hmx3,Qo,QF,e11,hnd3,nd1,hit]
      refine Q3 (at_a ahead m.a (by omega)) ?_
      rintro a rfl
      push_cast (maxSteps:=999999) -implicitDefEqProofs (disch:=omega)[aInt]
      refine Qf (sz:=1) (by intro a ha;simp at ha;subst ha;rfl) (by simp) ?_
      push_cast (maxSteps:=999999) -implicitDefEqProofs (disch:=omega)
      refine QU (m:=1) rfl rfl rfl rfl rfl (by omega) (by omega) ?_
      push_cast (maxSteps:=999999) -implicitDefEqProofs (disch:=omega)[hρ,hmx3,QF]
      refine Q6 rfl rfl hnd3 (by simp[aNd]) ?_
      have en:(aNd F.node).set 2 (.v (.int .i64 m.a))=aNd (F.lp,F.it,m.a):=rfl
      rw[en]
      have k4:=Qx (σ:=σ3) (lab:=lab3) (x:=.obj 0 (aNd (F.lp,F.it,m.a))) hnl4
      have H4:=H3.stp k4 (fun q _ _ e=>by have:=congrArg Prod.fst e;simp only at this;omega)
      have hnd4:(σ3.set nx (.obj 0 (aNd (F.lp,F.it,m.a))))[nx]?=some (.obj 0 (aNd (F.lp,F.it,m.a))):=Q4 hnd3
      have htr4:=ht3.stp k4 (by simp)
      have htl4:=htl3.stp k4 (by simp)
      generalize σ3.set nx (.obj 0 (aNd (F.lp,F.it,m.a)))=σ4 at k4 H4 hnd4 htr4 htl4 ⊢
      push_cast (maxSteps:=999999) -implicitDefEqProofs (disch:=omega)[hρ,hnd4,cell3]
      refine Qi [] [false,false,true] (ZB H4 hok2.p hok2.q (F.lp,F.it,m.a) [F.now,lastA ahead m.a]) (weak3 _ _ _ [F.now,lastA ahead m.a] _) ?_
      rintro a σ6 ⟨rfl,lab6,t6,H6,k6⟩
      obtain ⟨hnd7,hnl7⟩:=k6.get hnd4 (by rw[hnl4];exact hn7 (fun _ h=>h) 6 (by omega))
      have hpE:(D.nx.begin (F.lp,F.it,m.a) [F.now,lastA ahead m.a]).2.pos=D.pos+1:=by unfold RD.begin;split<;>rfl
      have hst:((D.nx.begin (F.lp,F.it,m.a) [F.now,lastA ahead m.a]).2.over=false∧(D.nx.begin (F.lp,F.it,m.a) [F.now,lastA ahead m.a]).2.e=0∧Goes l D0 F0 (D.nx.begin (F.lp,F.it,m.a) [F.now,lastA ahead m.a]).2 { goFr F m with now:=(D.nx.begin (F.lp,F.it,m.a) [F.now,lastA ahead m.a]).1 } C) ∨
        ((D.nx.begin (F.lp,F.it,m.a) [F.now,lastA ahead m.a]).2.over=true∧Ends l D0 F0 (D.nx.begin (F.lp,F.it,m.a) [F.now,lastA ahead m.a]).2 C):=by
       by_cases hfull2:D.preds.length=1000
       ·refine .inr ⟨by rw[(QI (D:=D.nx) hfull2 (F.lp,F.it,m.a) [F.now,lastA ahead m.a] []).2],hgo.ends fun K hK=>?_⟩
        obtain ⟨G,K',rfl,e2⟩:=hgpK K hK
        rw[←e2]
        exact X61 hm hm11 hF2 hsg hfull2
       ·obtain ⟨_,g2,g3,_⟩:=QH (D:=D.nx) hfull2 (F.lp,F.it,m.a) [F.now,lastA ahead m.a] []
        refine .inl ⟨g2.trans hov2,g3.trans he,hgo.trans fun K hK=>?_⟩
        obtain ⟨G,K',rfl,e2⟩:=hgpK K hK
        rw[←e2]
        exact s_go hm hm11 hF2 hsg hfull2
      push_cast (maxSteps:=999999) -implicitDefEqProofs (disch:=omega)
      refine hN ((D.nx.begin (F.lp,F.it,m.a) [F.now,lastA ahead m.a]).2,{ goFr F m with now:=(D.nx.begin (F.lp,F.it,m.a) [F.now,lastA ahead m.a]).1 }) _ _ ⟨?_,lab6,t6,t3,tl,?_,H6,hok2.begin _ _,by rw[hpE];have:=hfi.le;omega,?_,htl4.stp k6 (hn7 (fun _ h=>h) 7 (by omega)),hnd7,hnl7.trans hnl4,(((hfi.k.trans k2 (U:=isR D0.pos) (fun _ h=>h) fun _=>QJ).trans k3 (U:=isR D0.pos) (fun _ h=>h) fun r e=>by subst e;exact .inr ⟨by simp,by simp⟩).trans k4 (U:=isR D0.pos) (fun _ h=>h) fun r e=>by subst e;exact .inr ⟨by simp,by simp⟩).trans k6 (fun _ h=>h) fun _=>QJ,⟨hsk,hsc,hsl,hsi,fun h=>absurd (hsk ▸ hF2) h⟩,by simp only[goFr,hpE];omega,by simp only[goFr,List.length_append,List.length_singleton,hpE];omega,hst⟩ ?_
      ·push_cast (maxSteps:=999999) -implicitDefEqProofs (disch:=omega)[hρ]
       rfl
      ·push_cast (maxSteps:=999999) -implicitDefEqProofs (disch:=omega)[hrl]
       simp[goFr]
      ·have:=htr4.stp k6 (hn7 (fun _ h=>h) 8 (by omega))
       simpa[goFr] using this
      ·simp only[hpE,hov,Bool.false_eq_true,if_false]
       split<;>omega
     ·rw[if_neg (fun h=>hit h.2)] at hgp
      subst hgp
      push_cast (maxSteps:=999999) -implicitDefEqProofs (disch:=omega)[hρ,hmx3,Qo,QF,e11,hnd3,nd1,hit]
      refine Q6 rfl rfl hnd3 (by simp[aNd]) ?_
      have en:(aNd F.node).set 2 (.v (.int .i64 m.a))=aNd (F.lp,F.it,m.a):=rfl
      rw[en]
      have k4:=Qx (σ:=σ3) (lab:=lab3) (x:=.obj 0 (aNd (F.lp,F.it,m.a))) hnl4
      have H4:=H3.stp k4 (fun q _ _ e=>by have:=congrArg Prod.fst e;simp only at this;omega)
      have hnd4:(σ3.set nx (.obj 0 (aNd (F.lp,F.it,m.a))))[nx]?=some (.obj 0 (aNd (F.lp,F.it,m.a))):=Q4 hnd3
      have htr4:=ht3.stp k4 (by simp)
      have htl4:=htl3.stp k4 (by simp)
      generalize σ3.set nx (.obj 0 (aNd (F.lp,F.it,m.a)))=σ4 at k4 H4 hnd4 htr4 htl4 ⊢
      push_cast (maxSteps:=999999) -implicitDefEqProofs (disch:=omega)[hρ,hnd4,cell3]
      refine Qi [] [false,false,true] (ZB H4 hok2.p hok2.q (F.lp,F.it,m.a) [F.now]) (weak3 _ _ _ [F.now] _) ?_
      rintro a σ6 ⟨rfl,lab6,t6,H6,k6⟩
      obtain ⟨hnd7,hnl7⟩:=k6.get hnd4 (by rw[hnl4];exact hn7 (fun _ h=>h) 6 (by omega))
      have hpE:(D.nx.begin (F.lp,F.it,m.a) [F.now]).2.pos=D.pos+1:=by unfold RD.begin;split<;>rfl
      have hst:((D.nx.begin (F.lp,F.it,m.a) [F.now]).2.over=false∧(D.nx.begin (F.lp,F.it,m.a) [F.now]).2.e=0∧Goes l D0 F0 (D.nx.begin (F.lp,F.it,m.a) [F.now]).2 { goFr F m with now:=(D.nx.begin (F.lp,F.it,m.a) [F.now]).1 } C) ∨
        ((D.nx.begin (F.lp,F.it,m.a) [F.now]).2.over=true∧Ends l D0 F0 (D.nx.begin (F.lp,F.it,m.a) [F.now]).2 C):=by
       by_cases hfull2:D.preds.length=1000
       ·refine .inr ⟨by rw[(QI (D:=D.nx) hfull2 (F.lp,F.it,m.a) [F.now] []).2],hgo.ends fun K hK=>?_⟩
        obtain ⟨G,K',rfl,e2⟩:=hgpK K hK
        rw[←e2]
        exact X61 hm hm11 hF2 hsg hfull2
       ·obtain ⟨_,g2,g3,_⟩:=QH (D:=D.nx) hfull2 (F.lp,F.it,m.a) [F.now] []
        refine .inl ⟨g2.trans hov2,g3.trans he,hgo.trans fun K hK=>?_⟩
        obtain ⟨G,K',rfl,e2⟩:=hgpK K hK
        rw[←e2]
        exact s_go hm hm11 hF2 hsg hfull2
      push_cast (maxSteps:=999999) -implicitDefEqProofs (disch:=omega)
      refine hN ((D.nx.begin (F.lp,F.it,m.a) [F.now]).2,{ goFr F m with now:=(D.nx.begin (F.lp,F.it,m.a) [F.now]).1 }) _ _ ⟨?_,lab6,t6,t3,tl,?_,H6,hok2.begin _ _,by rw[hpE];have:=hfi.le;omega,?_,htl4.stp k6 (hn7 (fun _ h=>h) 7 (by omega)),hnd7,hnl7.trans hnl4,(((hfi.k.trans k2 (U:=isR D0.pos) (fun _ h=>h) fun _=>QJ).trans k3 (U:=isR D0.pos) (fun _ h=>h) fun r e=>by subst e;exact .inr ⟨by simp,by simp⟩).trans k4 (U:=isR D0.pos) (fun _ h=>h) fun r e=>by subst e;exact .inr ⟨by simp,by simp⟩).trans k6 (fun _ h=>h) fun _=>QJ,⟨hsk,hsc,hsl,hsi,fun h=>absurd (hsk ▸ hF2) h⟩,by simp only[goFr,hpE];omega,by simp only[goFr,List.length_append,List.length_singleton,hpE];omega,hst⟩ ?_
      ·push_cast (maxSteps:=999999) -implicitDefEqProofs (disch:=omega)[hρ]
       rfl
      ·push_cast (maxSteps:=999999) -implicitDefEqProofs (disch:=omega)[hrl]
       simp[goFr]
      ·have:=htr4.stp k6 (hn7 (fun _ h=>h) 8 (by omega))
       simpa[goFr] using this
      ·simp only[hpE,hov,Bool.false_eq_true,if_false]
       split<;>omega
    ·rw[if_neg (fun h=>e11 h.1)] at hgp
     subst hgp
     push_cast (maxSteps:=999999) -implicitDefEqProofs (disch:=omega)[hρ,hmx3,Qo,QF,e11]
     refine Q6 rfl rfl hnd3 (by simp[aNd]) ?_
     have en:(aNd F.node).set 2 (.v (.int .i64 m.a))=aNd (F.lp,F.it,m.a):=rfl
     rw[en]
     have k4:=Qx (σ:=σ3) (lab:=lab3) (x:=.obj 0 (aNd (F.lp,F.it,m.a))) hnl4
     have H4:=H3.stp k4 (fun q _ _ e=>by have:=congrArg Prod.fst e;simp only at this;omega)
     have hnd4:(σ3.set nx (.obj 0 (aNd (F.lp,F.it,m.a))))[nx]?=some (.obj 0 (aNd (F.lp,F.it,m.a))):=Q4 hnd3
     have htr4:=ht3.stp k4 (by simp)
     have htl4:=htl3.stp k4 (by simp)
     generalize σ3.set nx (.obj 0 (aNd (F.lp,F.it,m.a)))=σ4 at k4 H4 hnd4 htr4 htl4 ⊢
     push_cast (maxSteps:=999999) -implicitDefEqProofs (disch:=omega)[hρ,hnd4,cell3]
     refine Qi [] [false,false,true] (ZB H4 hok2.p hok2.q (F.lp,F.it,m.a) [F.now]) (weak3 _ _ _ [F.now] _) ?_
     rintro a σ6 ⟨rfl,lab6,t6,H6,k6⟩
     obtain ⟨hnd7,hnl7⟩:=k6.get hnd4 (by rw[hnl4];exact hn7 (fun _ h=>h) 6 (by omega))
     have hpE:(D.nx.begin (F.lp,F.it,m.a) [F.now]).2.pos=D.pos+1:=by unfold RD.begin;split<;>rfl
     have hst:((D.nx.begin (F.lp,F.it,m.a) [F.now]).2.over=false∧(D.nx.begin (F.lp,F.it,m.a) [F.now]).2.e=0∧Goes l D0 F0 (D.nx.begin (F.lp,F.it,m.a) [F.now]).2 { goFr F m with now:=(D.nx.begin (F.lp,F.it,m.a) [F.now]).1 } C) ∨
       ((D.nx.begin (F.lp,F.it,m.a) [F.now]).2.over=true∧Ends l D0 F0 (D.nx.begin (F.lp,F.it,m.a) [F.now]).2 C):=by
      by_cases hfull2:D.preds.length=1000
      ·refine .inr ⟨by rw[(QI (D:=D.nx) hfull2 (F.lp,F.it,m.a) [F.now] []).2],hgo.ends fun K hK=>?_⟩
       obtain ⟨G,K',rfl,e2⟩:=hgpK K hK
       rw[←e2]
       exact X61 hm hm11 hF2 hsg hfull2
      ·obtain ⟨_,g2,g3,_⟩:=QH (D:=D.nx) hfull2 (F.lp,F.it,m.a) [F.now] []
       refine .inl ⟨g2.trans hov2,g3.trans he,hgo.trans fun K hK=>?_⟩
       obtain ⟨G,K',rfl,e2⟩:=hgpK K hK
       rw[←e2]
       exact s_go hm hm11 hF2 hsg hfull2
     push_cast (maxSteps:=999999) -implicitDefEqProofs (disch:=omega)
     refine hN ((D.nx.begin (F.lp,F.it,m.a) [F.now]).2,{ goFr F m with now:=(D.nx.begin (F.lp,F.it,m.a) [F.now]).1 }) _ _ ⟨?_,lab6,t6,t3,tl,?_,H6,hok2.begin _ _,by rw[hpE];have:=hfi.le;omega,?_,htl4.stp k6 (hn7 (fun _ h=>h) 7 (by omega)),hnd7,hnl7.trans hnl4,(((hfi.k.trans k2 (U:=isR D0.pos) (fun _ h=>h) fun _=>QJ).trans k3 (U:=isR D0.pos) (fun _ h=>h) fun r e=>by subst e;exact .inr ⟨by simp,by simp⟩).trans k4 (U:=isR D0.pos) (fun _ h=>h) fun r e=>by subst e;exact .inr ⟨by simp,by simp⟩).trans k6 (fun _ h=>h) fun _=>QJ,⟨hsk,hsc,hsl,hsi,fun h=>absurd (hsk ▸ hF2) h⟩,by simp only[goFr,hpE];omega,by simp only[goFr,List.length_append,List.length_singleton,hpE];omega,hst⟩ ?_
     ·push_cast (maxSteps:=999999) -implicitDefEqProofs (disch:=omega)[hρ]
      rfl
     ·push_cast (maxSteps:=999999) -implicitDefEqProofs (disch:=omega)[hrl]
      simp[goFr]
     ·have:=htr4.stp k6 (hn7 (fun _ h=>h) 8 (by omega))
      simpa[goFr] using this
     ·simp only[hpE,hov,Bool.false_eq_true,if_false]
      split<;>omega
   by_cases k5:m.k=5
   ·have hkd1:¬kd=1:=fun h=>c5 ⟨k5,h⟩
    have hfit:fitsB F m=false:=by
     unfold fitsB
     unfold kindOf at hkF
     rcases hkF with ⟨_,_,h⟩|⟨h,_,_⟩|⟨_,_,h⟩
     ·simp[k5,h]
     ·exact absurd h hkd1
     ·simp[k5,h]
    push_cast (maxSteps:=999999) -implicitDefEqProofs (disch:=omega)[hρ,ho2,Qz,hov2,hmx,Qo,QF,aInt,k5,hkd1]
    refine Q2 (Z5 H2) ?_
    rintro a σ3 ⟨H3,k3⟩
    push_cast (maxSteps:=999999) -implicitDefEqProofs (disch:=omega)
    refine hN (D.nx.wrong,F) _ _ ⟨?_,lab2,t,tr,tl,?_,hfi.stp (k2.trans k3 (U:=isB) (fun _ h=>h) fun _ h=>h) hBR (fun _=>QJ) H3 ⟨hok2.pos,hok2.p,hok2.q,hok2.a⟩ (by simp only[RD.wrong,RD.nx];omega) (.inr ⟨rfl,hgo.ends fun K _=>QR hm hk hfit⟩)⟩ ?_
    ·push_cast (maxSteps:=999999) -implicitDefEqProofs (disch:=omega)[hρ]
    ·push_cast (maxSteps:=999999) -implicitDefEqProofs (disch:=omega)[hrl]
    ·simp only[RD.wrong,RD.nx,hov,if_true,Bool.false_eq_true,if_false];omega
   by_cases k8:m.k=8
   ·have hfit:fitsB F m=false:=by unfold fitsB;simp[k8,hF3]
    push_cast (maxSteps:=999999) -implicitDefEqProofs (disch:=omega)[hρ,ho2,Qz,hov2,hmx,Qo,QF,aInt,k8]
    refine Q2 (Z5 H2) ?_
    rintro a σ3 ⟨H3,k3⟩
    push_cast (maxSteps:=999999) -implicitDefEqProofs (disch:=omega)
    refine hN (D.nx.wrong,F) _ _ ⟨?_,lab2,t,tr,tl,?_,hfi.stp (k2.trans k3 (U:=isB) (fun _ h=>h) fun _ h=>h) hBR (fun _=>QJ) H3 ⟨hok2.pos,hok2.p,hok2.q,hok2.a⟩ (by simp only[RD.wrong,RD.nx];omega) (.inr ⟨rfl,hgo.ends fun K _=>QR hm hk hfit⟩)⟩ ?_
    ·push_cast (maxSteps:=999999) -implicitDefEqProofs (disch:=omega)[hρ]
    ·push_cast (maxSteps:=999999) -implicitDefEqProofs (disch:=omega)[hrl]
    ·simp only[RD.wrong,RD.nx,hov,if_true,Bool.false_eq_true,if_false];omega
   by_cases k9:m.k=9
   ·have hfit:fitsB F m=false:=by unfold fitsB;simp[k9,hF3]
    push_cast (maxSteps:=999999) -implicitDefEqProofs (disch:=omega)[hρ,ho2,Qz,hov2,hmx,Qo,QF,aInt,k9]
    refine Q2 (Z5 H2) ?_
    rintro a σ3 ⟨H3,k3⟩
    push_cast (maxSteps:=999999) -implicitDefEqProofs (disch:=omega)
    refine hN (D.nx.wrong,F) _ _ ⟨?_,lab2,t,tr,tl,?_,hfi.stp (k2.trans k3 (U:=isB) (fun _ h=>h) fun _ h=>h) hBR (fun _=>QJ) H3 ⟨hok2.pos,hok2.p,hok2.q,hok2.a⟩ (by simp only[RD.wrong,RD.nx];omega) (.inr ⟨rfl,hgo.ends fun K _=>QR hm hk hfit⟩)⟩ ?_
    ·push_cast (maxSteps:=999999) -implicitDefEqProofs (disch:=omega)[hρ]
    ·push_cast (maxSteps:=999999) -implicitDefEqProofs (disch:=omega)[hrl]
    ·simp only[RD.wrong,RD.nx,hov,if_true,Bool.false_eq_true,if_false];omega
   by_cases k10:m.k=10
   ·have hfit:fitsB F m=false:=by
     unfold fitsB
     unfold kindOf at hkF
     rcases hkF with ⟨_,h,_⟩|⟨_,h,_⟩|⟨h2,h,_⟩
     ·simp[k10,h]
     ·simp[k10,h]
     ·have:¬m.a=F.it:=fun e=>c10 ⟨k10,h2,e⟩
      simp[k10,this]
    by_cases hkd2:kd=2
    ·have hna:¬m.a=F.it:=fun e=>c10 ⟨k10,hkd2,e⟩
     push_cast (maxSteps:=999999) -implicitDefEqProofs (disch:=omega)[hρ,ho2,Qz,hov2,hmx,Qo,QF,aInt,k10,hkd2,hnd2,nd1,hna]
     refine Q2 (Z5 H2) ?_
     rintro a σ3 ⟨H3,k3⟩
     push_cast (maxSteps:=999999) -implicitDefEqProofs (disch:=omega)
     refine hN (D.nx.wrong,F) _ _ ⟨?_,lab2,t,tr,tl,?_,hfi.stp (k2.trans k3 (U:=isB) (fun _ h=>h) fun _ h=>h) hBR (fun _=>QJ) H3 ⟨hok2.pos,hok2.p,hok2.q,hok2.a⟩ (by simp only[RD.wrong,RD.nx];omega) (.inr ⟨rfl,hgo.ends fun K _=>QR hm hk hfit⟩)⟩ ?_
     ·push_cast (maxSteps:=999999) -implicitDefEqProofs (disch:=omega)[hρ]
     ·push_cast (maxSteps:=999999) -implicitDefEqProofs (disch:=omega)[hrl]
     ·simp only[RD.wrong,RD.nx,hov,if_true,Bool.false_eq_true,if_false];omega
    ·skip
     push_cast (maxSteps:=999999) -implicitDefEqProofs (disch:=omega)[hρ,ho2,Qz,hov2,hmx,Qo,QF,aInt,k10,hkd2]
     refine Q2 (Z5 H2) ?_
     rintro a σ3 ⟨H3,k3⟩
     push_cast (maxSteps:=999999) -implicitDefEqProofs (disch:=omega)
     refine hN (D.nx.wrong,F) _ _ ⟨?_,lab2,t,tr,tl,?_,hfi.stp (k2.trans k3 (U:=isB) (fun _ h=>h) fun _ h=>h) hBR (fun _=>QJ) H3 ⟨hok2.pos,hok2.p,hok2.q,hok2.a⟩ (by simp only[RD.wrong,RD.nx];omega) (.inr ⟨rfl,hgo.ends fun K _=>QR hm hk hfit⟩)⟩ ?_
     ·push_cast (maxSteps:=999999) -implicitDefEqProofs (disch:=omega)[hρ]
     ·push_cast (maxSteps:=999999) -implicitDefEqProofs (disch:=omega)[hrl]
     ·simp only[RD.wrong,RD.nx,hov,if_true,Bool.false_eq_true,if_false];omega
   have k11:m.k=11∨m.k=12:=by omega
   have hfit:fitsB F m=false:=by
    unfold fitsB
    unfold kindOf at hkF
    rcases hkF with ⟨_,h,_⟩|⟨_,h,_⟩|⟨h2,h,_⟩
    ·rcases k11 with k|k<;>simp[k,h]
    ·rcases k11 with k|k<;>simp[k,h]
    ·have:¬F.sg < m.a:=fun e=>c11 ⟨by omega,h2,e⟩
     rcases k11 with k|k<;>simp[k,this]
   have g11:11≤m.k:=by omega
   by_cases hkd2:kd=2
   ·have hna:¬F.sg < m.a:=fun e=>c11 ⟨g11,hkd2,e⟩
    push_cast (maxSteps:=999999) -implicitDefEqProofs (disch:=omega)[hρ,ho2,Qz,hov2,hmx,Qo,QF,aInt,k5,k10,c3,c4,c6,c7,g11,hkd2,hnd2,nd2,hna]
    refine Q2 (Z5 H2) ?_
    rintro a σ3 ⟨H3,k3⟩
    push_cast (maxSteps:=999999) -implicitDefEqProofs (disch:=omega)
    refine hN (D.nx.wrong,F) _ _ ⟨?_,lab2,t,tr,tl,?_,hfi.stp (k2.trans k3 (U:=isB) (fun _ h=>h) fun _ h=>h) hBR (fun _=>QJ) H3 ⟨hok2.pos,hok2.p,hok2.q,hok2.a⟩ (by simp only[RD.wrong,RD.nx];omega) (.inr ⟨rfl,hgo.ends fun K _=>QR hm hk hfit⟩)⟩ ?_
    ·push_cast (maxSteps:=999999) -implicitDefEqProofs (disch:=omega)[hρ]
    ·push_cast (maxSteps:=999999) -implicitDefEqProofs (disch:=omega)[hrl]
    ·simp only[RD.wrong,RD.nx,hov,if_true,Bool.false_eq_true,if_false];omega
   ·skip
    push_cast (maxSteps:=999999) -implicitDefEqProofs (disch:=omega)[hρ,ho2,Qz,hov2,hmx,Qo,QF,aInt,k5,k10,c3,c4,c6,c7,g11,hkd2]
    refine Q2 (Z5 H2) ?_
    rintro a σ3 ⟨H3,k3⟩
    push_cast (maxSteps:=999999) -implicitDefEqProofs (disch:=omega)
    refine hN (D.nx.wrong,F) _ _ ⟨?_,lab2,t,tr,tl,?_,hfi.stp (k2.trans k3 (U:=isB) (fun _ h=>h) fun _ h=>h) hBR (fun _=>QJ) H3 ⟨hok2.pos,hok2.p,hok2.q,hok2.a⟩ (by simp only[RD.wrong,RD.nx];omega) (.inr ⟨rfl,hgo.ends fun K _=>QR hm hk hfit⟩)⟩ ?_
    ·push_cast (maxSteps:=999999) -implicitDefEqProofs (disch:=omega)[hρ]
    ·push_cast (maxSteps:=999999) -implicitDefEqProofs (disch:=omega)[hrl]
    ·simp only[RD.wrong,RD.nx,hov,if_true,Bool.false_eq_true,if_false];omega
  ·push_cast (maxSteps:=999999) -implicitDefEqProofs (disch:=omega)[hρ,ho,Qz,hov]
   refine hE _ _ ?_
   exact ⟨lab,D,t,hfi.rd,hfi.ok,hfi.le,⟨hov,hen⟩,hfi.k⟩
 ·clear hρ hnx hnl H hk hfi0 ε σ lab
  rintro ε σ ⟨lab,E,t,H,hok,hle,hend,hk⟩
  push_cast (maxSteps:=999999) -implicitDefEqProofs (disch:=omega)
  exact ⟨lab,E,t,H,hok,hle,.inl hend,hk⟩
end
section
def anyK:Cx:=fun _=>True
structure LI (l:List Mk) (id a:Nat) (s now:Int) (σ0:St) (lab0:Nat→Role) (D0:RD) (σ:St) (lab:Nat→Role) (D:RD) (L:Fr) (t:Tb) (ts:Tok):Prop where
 rd:RdAt σ lab id l D t
 ok:DOk l D
 le:D0.pos≤D.pos
 ts:TokOk σ lab (10,a) ts L.lasts.length 1
 k:Stp (isR a) σ0 lab0 σ lab
 sh:L.kind=3∧L.child=false∧L.now=now∧L.ser=s∧L.cnt=L.lasts.length
 ne:0 < L.lasts.length→L.ahead≠[]
 ll:L.lasts.length≤D.pos
 al:L.ahead.length≤D.pos
 st:(D.over=false∧D.e=0∧Goes l D0 (loopFr s now) D L anyK)∨(D.over=true∧Ends l D0 (loopFr s now) D anyK)
theorem LI.stp {l:List Mk} {id a:Nat} {s now:Int} {σ0:St} {lab0:Nat→Role} {D0:RD} {σ:St} {lab:Nat→Role} {D:RD} {L:Fr} {t:Tb} {ts:Tok} (h:LI l id a s now σ0 lab0 D0 σ lab D L t ts) {S:Role→Prop} {σ':St} {lab':Nat→Role} {D':RD} {t':Tb}
  (k:Stp S σ lab σ' lab') (hS:∀r,S r→r=(0,0)∨isB r∨(6≤r.1∧a+1≤r.2)) (hU:∀r,S r→isR a r) (hr:RdAt σ' lab' id l D' t') (ok:DOk l D') (le:D.pos≤D'.pos) (st:(D'.over=false∧D'.e=0∧Goes l D0 (loopFr s now) D' L anyK)∨(D'.over=true∧Ends l D0 (loopFr s now) D' anyK)):
  LI l id a s now σ0 lab0 D0 σ' lab' D' L t' ts:=by
 have hn:¬S (10,a):=fun hs=>by
  rcases hS _ hs with e|e|e
  ·have:=congrArg Prod.fst e;simp only at this;omega
  ·have:=e.2.2.1;simp only at this;omega
  ·have:=e.2;simp only at this;omega
 exact ⟨hr,ok,by have:=h.le;omega,h.ts.stp k hn,h.k.trans k (fun _ h=>h) hU,h.sh,h.ne,by have:=h.ll;omega,by have:=h.al;omega,st⟩
set_option maxHeartbeats 8000000 in
theorem loop_step {l:List Mk} (hl:l.length≤16000) {n:Nat} (ihF:∀k,k < n→SF l k):SL l n:=by
 intro σ0 lab0 id D0 t0 s now H0 hok0 hov0 he0 hrem
 refine Qk Z18 mixed rfl ?_
 simp only[Q34]
 refine Q1 (fun ε σ=>(ε 0=.ref id 0 0∧ε 1=aInt s∧ε 2=aInt now)∧σ=σ0) ?_ ?_
 ·intro N X R hN
  simp (maxSteps:=999999) -implicitDefEqProofs (disch:=omega) only[push_cast,↓reduceIte,Nat.reduceEqDiff,reduceCtorEq,wz]
  refine hN _ _ ?_
  simp (maxSteps:=999999) -implicitDefEqProofs (disch:=omega) only[push_cast,↓reduceIte,Nat.reduceEqDiff,reduceCtorEq,wz]
 rintro ε τ ⟨hρ,hτ⟩
 rw[hτ]
 clear hτ τ
 refine Q1 (fun ε σ=>(ε 0=.ref id 0 0∧ε 1=aInt s∧ε 2=aInt now∧ε 7=.sl 0 [] .nil)∧σ=σ0) ?_ ?_
 ·intro N X R hN
  simp (maxSteps:=999999) -implicitDefEqProofs (disch:=omega) only[push_cast,↓reduceIte,Nat.reduceEqDiff,reduceCtorEq,wz]
  refine hN _ _ ?_
  simp (maxSteps:=999999) -implicitDefEqProofs (disch:=omega) only[push_cast,↓reduceIte,Nat.reduceEqDiff,reduceCtorEq,wz,hρ]
 clear hρ ε
 rintro ε τ ⟨hρ,hτ⟩
 rw[hτ]
 clear hτ τ
 refine Q1 (fun ε σ=>(ε 0=.ref id 0 0∧ε 1=aInt s∧ε 2=aInt now∧ε 7=.sl 0 [] .nil∧ε 8=.sl 0 [] .nil)∧σ=σ0) ?_ ?_
 ·intro N X R hN
  simp (maxSteps:=999999) -implicitDefEqProofs (disch:=omega) only[push_cast,↓reduceIte,Nat.reduceEqDiff,reduceCtorEq,wz]
  refine hN _ _ ?_
  simp (maxSteps:=999999) -implicitDefEqProofs (disch:=omega) only[push_cast,↓reduceIte,Nat.reduceEqDiff,reduceCtorEq,wz,hρ]
 clear hρ ε
 rintro ε τ ⟨hρ,hτ⟩
 rw[hτ]
 clear hτ τ
 have hli0:LI l id D0.pos s now σ0 lab0 D0 σ0 lab0 D0 (loopFr s now) t0 .nil:=
  ⟨H0,hok0,Nat.le_refl _,TokOk.nil,Stp.refl,⟨rfl,rfl,rfl,rfl,rfl⟩,fun h=>by simp[loopFr] at h,by simp[loopFr],by simp[loopFr],.inl ⟨hov0,he0,Goes.refl⟩⟩
 simp (maxSteps:=999999) -implicitDefEqProofs (disch:=omega) only[push_cast,↓reduceIte,Nat.reduceEqDiff,reduceCtorEq,wz]
 refine Qv (α:=RD×Fr) (I:=fun x ε σ=>(ε 0=.ref id 0 0∧ε 1=aInt s∧ε 2=aInt now) ∧
   ∃lab t ts,ε 7=.sl x.2.lasts.length (x.2.lasts.map aInt) ts∧(x.1.over=false→∃ta,ε 8=.sl x.2.ahead.length (x.2.ahead.flatMap aSt) ta)∧LI l id D0.pos s now σ0 lab0 D0 σ lab x.1 x.2 t ts)
  (μ:=fun x=>2 * (l.length - x.1.pos)+if x.1.over then 0 else 1) (Q:=fun _ σ=>∃lab E t,RdAt σ lab id l E t∧DOk l E∧D0.pos≤E.pos∧(E.over=true∧Ends l D0 (loopFr s now) E anyK)∧Stp (isR D0.pos) σ0 lab0 σ lab) (x:=(D0,loopFr s now)) ?_ ?_ ?_
 ·refine ⟨?_,lab0,t0,.nil,?_,fun _=>⟨.nil,?_⟩,hli0⟩
  ·simp (maxSteps:=999999) -implicitDefEqProofs (disch:=omega) only[push_cast,↓reduceIte,Nat.reduceEqDiff,reduceCtorEq,wz,hρ]
  ·simp (maxSteps:=999999) -implicitDefEqProofs (disch:=omega) only[push_cast,↓reduceIte,Nat.reduceEqDiff,reduceCtorEq,wz,hρ]
   rfl
  ·simp (maxSteps:=999999) -implicitDefEqProofs (disch:=omega) only[push_cast,↓reduceIte,Nat.reduceEqDiff,reduceCtorEq,wz,hρ]
   rfl
 ·clear hρ hli0 ε
  rintro ⟨D,L⟩ ε σ N E ⟨hρ,lab,t,ts,hrl,h8,hli⟩ hN hE
  simp only at hρ hrl h8 hli
  simp only[QZ]
  have ho:=hli.rd.obj
  rcases hli.st with ⟨hov,he,hgo⟩|⟨hov,hen⟩
  ·simp (maxSteps:=999999) -implicitDefEqProofs (disch:=omega) only[push_cast,↓reduceIte,Nat.reduceEqDiff,reduceCtorEq,wz,hρ,ho,Qz,hov]
   refine Q2 (next_a hli.rd hli.ok.pos hl) ?_
   rintro a σ1 ⟨rfl,lab1,H1,k1⟩
   simp (maxSteps:=999999) -implicitDefEqProofs (disch:=omega) only[push_cast,↓reduceIte,Nat.reduceEqDiff,reduceCtorEq,wz]
   refine Qb ?_
   have hz:(List.map abs1 [Value.int .i64 0,Value.int .i64 0,Value.int .i64 0])=aMk ⟨0,0,0⟩:=rfl
   rw[hz]
   simp (maxSteps:=999999) -implicitDefEqProofs (disch:=omega) only[push_cast,↓reduceIte,Nat.reduceEqDiff,reduceCtorEq,wz]
   refine Q5 (QD _) (by rfl) (Qc _ _) (by simp[QD]) ?_
   have hset:∀a,setAtA (aMk ⟨0,0,0⟩) 0 (aMk a)=aMk a:=fun _=>rfl
   simp (maxSteps:=999999) -implicitDefEqProofs (disch:=omega) only[push_cast,↓reduceIte,Nat.reduceEqDiff,reduceCtorEq,wz,hset]
   generalize hnx:D.next l=nx1 at H1 ⊢
   have k2:=k1.trans (Qj (S:=isB) (x:=.obj 0 (aMk nx1.1)) (0,0)) (U:=isB) (fun _ h=>h) fun _ h=>h
   have H2:=H1.stp (Qj (S:=fun _=>False) (x:=.obj 0 (aMk nx1.1)) (0,0)) fun _ _ _ h=>h
   have hmx:(σ1++[Res.obj 0 (aMk nx1.1)])[σ1.length]?=some (.obj 0 (aMk nx1.1)):=Qc _ _
   generalize σ1++[Res.obj 0 (aMk nx1.1)]=σ2 at k2 H2 hmx ⊢
   generalize labN σ1 lab1 (0,0)=lab2 at k2 H2
   generalize σ1.length=mx at hmx ⊢
   clear H1 k1 ho
   have ho2:=H2.obj
   have hBR:∀r,isB r→r=(0,0)∨isB r∨(6≤r.1∧D0.pos+1≤r.2):=fun r h=>.inr (.inl h)
   cases hm:l[D.pos]? with
   | none=>
    have hn1:=next_end hm
    rw[hnx] at hn1
    subst hn1
    simp (maxSteps:=999999) -implicitDefEqProofs (disch:=omega) only[push_cast,↓reduceIte,Nat.reduceEqDiff,reduceCtorEq,wz,hρ,ho2,Qz]
    refine hN ({ D with over:=true },L) _ _ ⟨?_,lab2,t,ts,?_,fun h=>by simp at h,hli.stp k2 hBR (fun _=>QJ) H2 ⟨hli.ok.pos,hli.ok.p,hli.ok.q,hli.ok.a⟩ (Nat.le_refl _) (.inr ⟨rfl,hgo.ends fun K _=>ends_end hm he⟩)⟩ ?_
    ·simp (maxSteps:=999999) -implicitDefEqProofs (disch:=omega) only[push_cast,↓reduceIte,Nat.reduceEqDiff,reduceCtorEq,wz,hρ]
    ·simp (maxSteps:=999999) -implicitDefEqProofs (disch:=omega) only[push_cast,↓reduceIte,Nat.reduceEqDiff,reduceCtorEq,wz,hrl]
    ·simp[hov]
   | some m=>
   have hlt:=Qm hm
   by_cases hk:m.k < 1∨12 < m.k
   ·have hn1:=next_bad hm hk
    rw[hnx] at hn1
    subst hn1
    simp (maxSteps:=999999) -implicitDefEqProofs (disch:=omega) only[push_cast,↓reduceIte,Nat.reduceEqDiff,reduceCtorEq,wz,hρ,ho2,Qz]
    refine hN ({ D with pos:=D.pos+1,e:=5,over:=true },L) _ _ ⟨?_,lab2,t,ts,?_,fun h=>by simp at h,hli.stp k2 hBR (fun _=>QJ) H2 ⟨by simp only;omega,hli.ok.p,hli.ok.q,by have:=hli.ok.a;simp only;omega⟩ (by simp only;omega) (.inr ⟨rfl,hgo.ends fun K _=>ends_bad hm hk⟩)⟩ ?_
    ·simp (maxSteps:=999999) -implicitDefEqProofs (disch:=omega) only[push_cast,↓reduceIte,Nat.reduceEqDiff,reduceCtorEq,wz,hρ]
    ·simp (maxSteps:=999999) -implicitDefEqProofs (disch:=omega) only[push_cast,↓reduceIte,Nat.reduceEqDiff,reduceCtorEq,wz,hrl]
    ·simp[hov];omega
   have hn1:=next_ok hm hk
   rw[hnx] at hn1
   subst hn1
   have hov2:D.nx.over=false:=hov
   have hok2:DOk l D.nx:=hli.ok.nx hm
   obtain ⟨hs3,hsc,hsn,hss,hsl⟩:=hli.sh
   have hpos:=hli.ok.pos
   have hll:=hli.ll
   have hal:=hli.al
   have hts2:=hli.ts.stp k2 (by simp[isB])
   obtain ⟨ta,h8⟩:=h8 hov
   by_cases c9:m.k=9∧m.a=(L.lasts.length:Int)
   ·obtain ⟨k9,hma⟩:=c9
    by_cases hcnt:0 < L.lasts.length
    ·have hcnt':(0:Int) < (L.lasts.length:Int):=by omega
     cases hah:L.ahead with
     | nil=>exact absurd hah (hli.ne hcnt)
     | cons e0 rest=>
      obtain ⟨pr,hpre⟩:∃pr,pr=e0.2:=⟨_,rfl⟩
      have hpr:pr=if 0 < L.cnt then (L.ahead.headD (0,0)).2 else L.now:=by rw[hsl,if_pos hcnt,hah,hpre];rfl
      have hd0:List.drop (Int.toNat 0 * 2) (L.ahead.flatMap aSt)=aSt e0++rest.flatMap aSt:=by rw[hah];rfl
      have hal0:(0:Int) < (L.ahead.length:Int):=by rw[hah];simp
      have ge:∀k:List AV,(aSt e0++k)[1]?=some (.v (.int .i64 pr)):=fun _=>by rw[hpre];rfl
      clear hah
      simp (maxSteps:=999999) -implicitDefEqProofs (disch:=omega) only[push_cast,↓reduceIte,Nat.reduceEqDiff,reduceCtorEq,wz,hρ,ho2,Qz,hov2,hmx,Qo,QF,k9,hma,hrl,hcnt',h8,hal0,hd0,ge]
      have bldN:∀a b c:Int,fillA [AV.v (.int .i64 0),AV.v (.int .i64 0),AV.v (.int .i64 0)] [(0,1),(1,1),(2,1)] [AV.v (.int .i64 a),AV.v (.int .i64 b),AV.v (.int .i64 c)]=some (aNd (a,b,c)):=fun a b c=>by simp[fillA,AV.cells,Value.cells,setAtA,aNd]
      simp (maxSteps:=999999) -implicitDefEqProofs (disch:=omega) only[push_cast,↓reduceIte,Nat.reduceEqDiff,reduceCtorEq,wz,hρ,hrl,aInt,bldN]
      refine Qb ?_
      have hz3:(List.map abs1 [Value.int .i64 0,Value.int .i64 0,Value.int .i64 0])=aNd (0,0,0):=rfl
      rw[hz3]
      simp (maxSteps:=999999) -implicitDefEqProofs (disch:=omega) only[push_cast,↓reduceIte,Nat.reduceEqDiff,reduceCtorEq,wz]
      refine Q5 (Z43 _) (aNd_one _) (Qc _ _) (by simp[Z43]) ?_
      have hsetN:∀a,setAtA (aNd (0,0,0)) 0 (aNd a)=aNd a:=fun _=>rfl
      have hnde:((s,((L.lasts.length:Nat):Int),0):Nd)=(L.ser,(L.cnt:Int),0):=by rw[hss,hsl]
      rw[hsetN,hnde]
      simp (maxSteps:=999999) -implicitDefEqProofs (disch:=omega) only[push_cast,↓reduceIte,Nat.reduceEqDiff,reduceCtorEq,wz]
      have k3:Stp isB σ2 lab2 (σ2++[Res.obj 0 (aNd (L.ser,(L.cnt:Int),0))]) (labN σ2 lab2 (0,0)):=Qj (0,0)
      have H3:=H2.stp (Qj (S:=fun _=>False) (x:=.obj 0 (aNd (L.ser,(L.cnt:Int),0))) (0,0)) fun _ _ _ h=>h
      have hnx3:(σ2++[Res.obj 0 (aNd (L.ser,(L.cnt:Int),0))])[σ2.length]?=some (.obj 0 (aNd (L.ser,(L.cnt:Int),0))):=Qc _ _
      have hln3:labN σ2 lab2 (0,0) σ2.length=(0,0):=Qq _ _ _
      generalize σ2++[Res.obj 0 (aNd (L.ser,(L.cnt:Int),0))]=σ3 at k3 H3 hnx3 ⊢
      generalize labN σ2 lab2 (0,0)=lab3 at k3 H3 hln3
      generalize σ2.length=nx at hnx3 hln3 ⊢
      have kk3:=k2.trans k3 (U:=isB) (fun _ h=>h) fun _ h=>h
      simp (maxSteps:=999999) -implicitDefEqProofs (disch:=omega) only[push_cast,↓reduceIte,Nat.reduceEqDiff,reduceCtorEq,wz,hρ,hnx3,cell3]
      refine Qf (sz:=1) (by intro a ha;simp at ha;subst ha;rfl) (by simp) ?_
      simp (maxSteps:=999999) -implicitDefEqProofs (disch:=omega) only[push_cast,↓reduceIte,Nat.reduceEqDiff,reduceCtorEq,wz]
      refine Qi [] [false,false,true] (ZB H3 hok2.p hok2.q (L.ser,(L.cnt:Int),0) [pr]) (weak3 _ _ _ [pr] _) ?_
      rintro a σ4 ⟨rfl,lab4,t4,H4,k4⟩
      have hokr:=hok2.begin (L.ser,(L.cnt:Int),0) [pr]
      have kk4:=kk3.trans k4 (U:=isB) (fun _ h=>h) fun _ h=>h
      obtain ⟨hnx4,_⟩:=k4.get hnx3 (by rw[hln3];simp[isB])
      have ho4:=H4.obj
      have hmc:m.a=(L.cnt:Int):=by rw[hma,hsl]
      by_cases hfull:D.preds.length=1000
      ·obtain ⟨_,e2⟩:=QI (D:=D.nx) hfull (L.ser,(L.cnt:Int),0) [pr] []
       have hend:Ends l D L (D.nx.begin (L.ser,(L.cnt:Int),0) [pr]).2 anyK:=fun K _=>by rw[hpr];exact X62 hm k9 hs3 hmc hfull
       rw[e2] at H4 hokr ho4 hend
       simp (maxSteps:=999999) -implicitDefEqProofs (disch:=omega) only[push_cast,↓reduceIte,Nat.reduceEqDiff,reduceCtorEq,wz,hρ,ho4,Qz]
       refine hN ({ D.nx with e:=9,over:=true },L) _ _ ⟨?_,lab4,t4,ts,?_,fun h=>by simp at h,hli.stp kk4 hBR (fun _=>QJ) H4 hokr (by simp only[RD.nx];omega) (.inr ⟨rfl,hgo.ends hend⟩)⟩ ?_
       ·simp (maxSteps:=999999) -implicitDefEqProofs (disch:=omega) only[push_cast,↓reduceIte,Nat.reduceEqDiff,reduceCtorEq,wz,hρ]
       ·simp (maxSteps:=999999) -implicitDefEqProofs (disch:=omega) only[push_cast,↓reduceIte,Nat.reduceEqDiff,reduceCtorEq,wz,hrl]
       ·simp only[RD.nx,hov,if_true,Bool.false_eq_true,if_false];omega
      ·obtain ⟨_,e2,e3,e4⟩:=QH (D:=D.nx) hfull (L.ser,(L.cnt:Int),0) [pr] []
       have hiter:∀K,Rn l D (L::K)=Rn l (D.nx.begin (L.ser,(L.cnt:Int),0) [pr]).2 (iterFr L (D.nx.begin (L.ser,(L.cnt:Int),0) [pr]).1::{ L with cnt:=L.cnt+1 }::K):=fun K=>by
        rw[hpr];exact s_iter hm k9 hs3 hmc hfull
       generalize D.nx.begin (L.ser,(L.cnt:Int),0) [pr]=r at H4 hokr ho4 hiter e2 e3 e4 ⊢
       have hpr4:r.2.pos=D.pos+1:=e4
       have hov3:r.2.over=false:=e2.trans hov2
       have hwk:∀S:St,weak (Go.Kx.freeze [] S) [false,false,false,false,true] [.ref id 0 0,.v (.int .i64 2),.agg (aNd (L.ser,(L.cnt:Int),0)),aInt r.1,.sl L.ahead.length (L.ahead.flatMap aSt) ta]=[.ref id 0 0,aInt 2,.agg (aNd (iterFr L r.1).node),aInt (iterFr L r.1).now,.sl L.ahead.length (L.ahead.flatMap aSt) .none]:=fun S=>by
        have:=Z10 (f:=aSt) (fun p=>by simp[aSt,AV.resL,AV.res]) L.ahead ta (σ:=Go.Kx.freeze [] S)
        simp only[weak,if_true,Bool.false_eq_true,if_false]
        rw[this];rfl
       simp (maxSteps:=999999) -implicitDefEqProofs (disch:=omega) only[push_cast,↓reduceIte,Nat.reduceEqDiff,reduceCtorEq,wz,hρ,ho4,Qz,hov3,hnx4,cell3,h8]
       refine Qi [] [false,false,false,false,true] (ihF (l.length - r.2.pos) (by rw[hpr4,←hrem];have:=hli.le;omega) σ4 lab4 id r.2 t4 (iterFr L r.1) L.ahead (fun K'=>∃K,K'={ L with cnt:=L.cnt+1 }::K) 2 H4 hokr hov3 (e3.trans he) rfl (.inr (.inr ⟨rfl,rfl,rfl⟩)) rfl rfl (fun _ K' hK'=>by obtain ⟨K,rfl⟩:=hK';exact ⟨_,K,rfl,rfl⟩) (by omega)) (hwk _) ?_
       rintro a2 σ5 ⟨lab5,E,t5,H5,hokE,hlE,hout,k5⟩
       have ho5:=H5.obj
       have hlE':D.pos+1≤E.pos:=by rw[←hpr4];exact hlE
       have kk5:=kk4.trans k5 (U:=isR (D.pos+1)) (fun _=>QJ) fun r' h=>X63 (by omega) h
       have hSR:∀r',isR (D.pos+1) r'→r'=(0,0)∨isB r'∨(6≤r'.1∧D0.pos+1≤r'.2):=fun r' h=>h.elim (fun h=>.inr (.inl h)) fun h=>.inr (.inr ⟨h.1,by have:=h.2;have:=hli.le;omega⟩)
       have hSU:∀r',isR (D.pos+1) r'→isR D0.pos r':=fun r' h=>X63 (by have:=hli.le;omega) h
       rcases hout with ⟨hovE,henE⟩|⟨hovE,heE,D2,F2,m10,tk,rfl,hokD2,hm10,hcl,hsame2,hrow2,hgo2,rfl⟩
       ·simp (maxSteps:=999999) -implicitDefEqProofs (disch:=omega) only[push_cast,↓reduceIte,Nat.reduceEqDiff,reduceCtorEq,wz,hρ,ho5,Qz,hovE]
        refine hN (E,L) _ _ ⟨?_,lab5,t5,ts,?_,(fun h=>absurd (hovE.symm.trans h) (by simp)),hli.stp kk5 hSR hSU H5 hokE (Nat.le_of_succ_le hlE') (.inr ⟨hovE,hgo.ends fun K _=>by unfold EndsAt;rw[hiter K];exact henE _ ⟨K,rfl⟩⟩)⟩ ?_
        ·simp (maxSteps:=999999) -implicitDefEqProofs (disch:=omega) only[push_cast,↓reduceIte,Nat.reduceEqDiff,reduceCtorEq,wz,hρ]
        ·simp (maxSteps:=999999) -implicitDefEqProofs (disch:=omega) only[push_cast,↓reduceIte,Nat.reduceEqDiff,reduceCtorEq,wz,hrl]
        ·simp only[hovE,hov,if_true,Bool.false_eq_true,if_false];omega
       ·have hF2k:F2.kind=2:=hsame2.1
        have hm10k:m10.k=10∧m10.a=F2.it:=by
         rcases hcl with ⟨_,_,h⟩|⟨h,_,h'⟩
         ·omega
         ·exact ⟨h,h'⟩
        rw[if_neg (by omega)]
        have hm10l:=Qm hm10
        have hD2p:D.pos≤D2.pos:=by have h2:D2.nx.pos=D2.pos+1:=rfl;omega
        have hts5:=hli.ts.stp kk5 (fun h=>h.elim (fun h=>by have:=h.2.2.1;simp only at this;omega) fun h=>by have:=h.2;simp only at this;have:=hli.le;omega)
        have hx:(F2.row++[(F2.sg,F2.now)])[F2.row.length]?=some (F2.sg,F2.now):=by simp
        have hxl:(F2.row++[(F2.sg,F2.now)]).length=F2.row.length+1:=by simp
        have hdx:=Qp Z1 hx
        have hix:((F2.row.length:Int)+1 - 1).toNat=F2.row.length:=by omega
        have g1:∀k:List AV,(aSt (F2.sg,F2.now)++k)[1]?=some (.v (.int .i64 F2.now)):=fun _=>rfl
        obtain ⟨row',hrow'⟩:∃row',row'=F2.row++[(F2.sg,F2.now)]:=⟨_,rfl⟩
        rw[←hrow'] at hdx hxl ⊢
        have hxi:(row'.length:Int) - 1=(F2.row.length:Int):=by omega
        have hxp:(0:Int)≤(F2.row.length:Int):=by omega
        have hxq:(F2.row.length:Int) < (row'.length:Int):=by omega
        simp (maxSteps:=999999) -implicitDefEqProofs (disch:=omega) only[push_cast,↓reduceIte,Nat.reduceEqDiff,reduceCtorEq,wz,hρ,ho5,Qz,hovE,hxi,hdx,g1,hrl]
        refine Qf (sz:=1) (by intro a ha;simp at ha;subst ha;rfl) (by simp) ?_
        simp (maxSteps:=999999) -implicitDefEqProofs (disch:=omega) only[push_cast,↓reduceIte,Nat.reduceEqDiff,reduceCtorEq,wz]
        refine Qs (m:=1) rfl hts5 rfl rfl rfl (by simp) (by omega) (by omega) ?_
        intro σ6 lab6 t6 k6 ht6
        have H6:=H5.stp k6 (fun q _ _ e=>by have:=congrArg Prod.fst e;simp only at this;omega)
        simp (maxSteps:=999999) -implicitDefEqProofs (disch:=omega) only[push_cast,↓reduceIte,Nat.reduceEqDiff,reduceCtorEq,wz]
        refine hN (D2.nx,{ L with cnt:=L.cnt+1,ahead:=row',lasts:=L.lasts++[F2.now] }) _ _ ⟨?_,lab6,t5,t6,?_,fun _=>⟨tk,?_⟩,H6,hokE,by have:=hli.le;show D0.pos≤D2.pos+1;omega,by simpa using ht6,(hli.k.trans kk5 (U:=isR D0.pos) (fun _ h=>h) hSU).trans k6 (fun _ h=>h) fun r e=>by subst e;exact .inr ⟨by simp,by simp⟩,⟨hs3,hsc,hsn,hss,by simp[hsl]⟩,fun _=>by simp only[hrow'];simp,by simp only[List.length_append,List.length_singleton,RD.nx];omega,by simp only[RD.nx];omega,.inl ⟨hovE,heE,hgo.trans fun K _=>?_⟩⟩ ?_
        ·simp (maxSteps:=999999) -implicitDefEqProofs (disch:=omega) only[push_cast,↓reduceIte,Nat.reduceEqDiff,reduceCtorEq,wz,hρ]
        ·simp (maxSteps:=999999) -implicitDefEqProofs (disch:=omega) only[push_cast,↓reduceIte,Nat.reduceEqDiff,reduceCtorEq,wz,hrl]
         simp[aInt]
        ·simp (maxSteps:=999999) -implicitDefEqProofs (disch:=omega) only[push_cast,↓reduceIte,Nat.reduceEqDiff,reduceCtorEq,wz]
        ·rw[hiter K,hgo2 _ ⟨K,rfl⟩,hrow']
         exact s_done hm10 hm10k.1 hF2k hm10k.2
        ·have h2:D2.over=false:=hovE
         simp only[RD.nx,hov,h2,Bool.false_eq_true,if_false];omega
    ·have hcnt':¬(0:Int) < (L.lasts.length:Int):=by omega
     obtain ⟨pr,hpre⟩:∃pr,pr=now:=⟨_,rfl⟩
     have hpr:pr=if 0 < L.cnt then (L.ahead.headD (0,0)).2 else L.now:=by rw[hsl,if_neg hcnt,hsn,hpre]
     rw[←hpre] at hρ
     simp (maxSteps:=999999) -implicitDefEqProofs (disch:=omega) only[push_cast,↓reduceIte,Nat.reduceEqDiff,reduceCtorEq,wz,hρ,ho2,Qz,hov2,hmx,Qo,QF,k9,hma,hrl,hcnt',aInt]
     have bldN:∀a b c:Int,fillA [AV.v (.int .i64 0),AV.v (.int .i64 0),AV.v (.int .i64 0)] [(0,1),(1,1),(2,1)] [AV.v (.int .i64 a),AV.v (.int .i64 b),AV.v (.int .i64 c)]=some (aNd (a,b,c)):=fun a b c=>by simp[fillA,AV.cells,Value.cells,setAtA,aNd]
     simp (maxSteps:=999999) -implicitDefEqProofs (disch:=omega) only[push_cast,↓reduceIte,Nat.reduceEqDiff,reduceCtorEq,wz,hρ,hrl,aInt,bldN]
     refine Qb ?_
     have hz3:(List.map abs1 [Value.int .i64 0,Value.int .i64 0,Value.int .i64 0])=aNd (0,0,0):=rfl
     rw[hz3]
     simp (maxSteps:=999999) -implicitDefEqProofs (disch:=omega) only[push_cast,↓reduceIte,Nat.reduceEqDiff,reduceCtorEq,wz]
     refine Q5 (Z43 _) (aNd_one _) (Qc _ _) (by simp[Z43]) ?_
     have hsetN:∀a,setAtA (aNd (0,0,0)) 0 (aNd a)=aNd a:=fun _=>rfl
     have hnde:((s,((L.lasts.length:Nat):Int),0):Nd)=(L.ser,(L.cnt:Int),0):=by rw[hss,hsl]
     rw[hsetN,hnde]
     simp (maxSteps:=999999) -implicitDefEqProofs (disch:=omega) only[push_cast,↓reduceIte,Nat.reduceEqDiff,reduceCtorEq,wz]
     have k3:Stp isB σ2 lab2 (σ2++[Res.obj 0 (aNd (L.ser,(L.cnt:Int),0))]) (labN σ2 lab2 (0,0)):=Qj (0,0)
     have H3:=H2.stp (Qj (S:=fun _=>False) (x:=.obj 0 (aNd (L.ser,(L.cnt:Int),0))) (0,0)) fun _ _ _ h=>h
     have hnx3:(σ2++[Res.obj 0 (aNd (L.ser,(L.cnt:Int),0))])[σ2.length]?=some (.obj 0 (aNd (L.ser,(L.cnt:Int),0))):=Qc _ _
     have hln3:labN σ2 lab2 (0,0) σ2.length=(0,0):=Qq _ _ _
     generalize σ2++[Res.obj 0 (aNd (L.ser,(L.cnt:Int),0))]=σ3 at k3 H3 hnx3 ⊢
     generalize labN σ2 lab2 (0,0)=lab3 at k3 H3 hln3
     generalize σ2.length=nx at hnx3 hln3 ⊢
     have kk3:=k2.trans k3 (U:=isB) (fun _ h=>h) fun _ h=>h
     simp (maxSteps:=999999) -implicitDefEqProofs (disch:=omega) only[push_cast,↓reduceIte,Nat.reduceEqDiff,reduceCtorEq,wz,hρ,hnx3,cell3]
     refine Qf (sz:=1) (by intro a ha;simp at ha;subst ha;rfl) (by simp) ?_
     simp (maxSteps:=999999) -implicitDefEqProofs (disch:=omega) only[push_cast,↓reduceIte,Nat.reduceEqDiff,reduceCtorEq,wz]
     refine Qi [] [false,false,true] (ZB H3 hok2.p hok2.q (L.ser,(L.cnt:Int),0) [pr]) (weak3 _ _ _ [pr] _) ?_
     rintro a σ4 ⟨rfl,lab4,t4,H4,k4⟩
     have hokr:=hok2.begin (L.ser,(L.cnt:Int),0) [pr]
     have kk4:=kk3.trans k4 (U:=isB) (fun _ h=>h) fun _ h=>h
     obtain ⟨hnx4,_⟩:=k4.get hnx3 (by rw[hln3];simp[isB])
     have ho4:=H4.obj
     have hmc:m.a=(L.cnt:Int):=by rw[hma,hsl]
     by_cases hfull:D.preds.length=1000
     ·obtain ⟨_,e2⟩:=QI (D:=D.nx) hfull (L.ser,(L.cnt:Int),0) [pr] []
      have hend:Ends l D L (D.nx.begin (L.ser,(L.cnt:Int),0) [pr]).2 anyK:=fun K _=>by rw[hpr];exact X62 hm k9 hs3 hmc hfull
      rw[e2] at H4 hokr ho4 hend
      simp (maxSteps:=999999) -implicitDefEqProofs (disch:=omega) only[push_cast,↓reduceIte,Nat.reduceEqDiff,reduceCtorEq,wz,hρ,ho4,Qz]
      refine hN ({ D.nx with e:=9,over:=true },L) _ _ ⟨?_,lab4,t4,ts,?_,fun h=>by simp at h,hli.stp kk4 hBR (fun _=>QJ) H4 hokr (by simp only[RD.nx];omega) (.inr ⟨rfl,hgo.ends hend⟩)⟩ ?_
      ·simp (maxSteps:=999999) -implicitDefEqProofs (disch:=omega) only[push_cast,↓reduceIte,Nat.reduceEqDiff,reduceCtorEq,wz,hρ]
       rw[hpre]
      ·simp (maxSteps:=999999) -implicitDefEqProofs (disch:=omega) only[push_cast,↓reduceIte,Nat.reduceEqDiff,reduceCtorEq,wz,hrl]
      ·simp only[RD.nx,hov,if_true,Bool.false_eq_true,if_false];omega
     ·obtain ⟨_,e2,e3,e4⟩:=QH (D:=D.nx) hfull (L.ser,(L.cnt:Int),0) [pr] []
      have hiter:∀K,Rn l D (L::K)=Rn l (D.nx.begin (L.ser,(L.cnt:Int),0) [pr]).2 (iterFr L (D.nx.begin (L.ser,(L.cnt:Int),0) [pr]).1::{ L with cnt:=L.cnt+1 }::K):=fun K=>by
       rw[hpr];exact s_iter hm k9 hs3 hmc hfull
      generalize D.nx.begin (L.ser,(L.cnt:Int),0) [pr]=r at H4 hokr ho4 hiter e2 e3 e4 ⊢
      have hpr4:r.2.pos=D.pos+1:=e4
      have hov3:r.2.over=false:=e2.trans hov2
      have hwk:∀S:St,weak (Go.Kx.freeze [] S) [false,false,false,false,true] [.ref id 0 0,.v (.int .i64 2),.agg (aNd (L.ser,(L.cnt:Int),0)),aInt r.1,.sl L.ahead.length (L.ahead.flatMap aSt) ta]=[.ref id 0 0,aInt 2,.agg (aNd (iterFr L r.1).node),aInt (iterFr L r.1).now,.sl L.ahead.length (L.ahead.flatMap aSt) .none]:=fun S=>by
       have:=Z10 (f:=aSt) (fun p=>by simp[aSt,AV.resL,AV.res]) L.ahead ta (σ:=Go.Kx.freeze [] S)
       simp only[weak,if_true,Bool.false_eq_true,if_false]
       rw[this];rfl
      simp (maxSteps:=999999) -implicitDefEqProofs (disch:=omega) only[push_cast,↓reduceIte,Nat.reduceEqDiff,reduceCtorEq,wz,hρ,ho4,Qz,hov3,hnx4,cell3,h8]
      refine Qi [] [false,false,false,false,true] (ihF (l.length - r.2.pos) (by rw[hpr4,←hrem];have:=hli.le;omega) σ4 lab4 id r.2 t4 (iterFr L r.1) L.ahead (fun K'=>∃K,K'={ L with cnt:=L.cnt+1 }::K) 2 H4 hokr hov3 (e3.trans he) rfl (.inr (.inr ⟨rfl,rfl,rfl⟩)) rfl rfl (fun _ K' hK'=>by obtain ⟨K,rfl⟩:=hK';exact ⟨_,K,rfl,rfl⟩) (by omega)) (hwk _) ?_
      rintro a2 σ5 ⟨lab5,E,t5,H5,hokE,hlE,hout,k5⟩
      have ho5:=H5.obj
      have hlE':D.pos+1≤E.pos:=by rw[←hpr4];exact hlE
      have kk5:=kk4.trans k5 (U:=isR (D.pos+1)) (fun _=>QJ) fun r' h=>X63 (by omega) h
      have hSR:∀r',isR (D.pos+1) r'→r'=(0,0)∨isB r'∨(6≤r'.1∧D0.pos+1≤r'.2):=fun r' h=>h.elim (fun h=>.inr (.inl h)) fun h=>.inr (.inr ⟨h.1,by have:=h.2;have:=hli.le;omega⟩)
      have hSU:∀r',isR (D.pos+1) r'→isR D0.pos r':=fun r' h=>X63 (by have:=hli.le;omega) h
      rcases hout with ⟨hovE,henE⟩|⟨hovE,heE,D2,F2,m10,tk,rfl,hokD2,hm10,hcl,hsame2,hrow2,hgo2,rfl⟩
      ·simp (maxSteps:=999999) -implicitDefEqProofs (disch:=omega) only[push_cast,↓reduceIte,Nat.reduceEqDiff,reduceCtorEq,wz,hρ,ho5,Qz,hovE]
       refine hN (E,L) _ _ ⟨?_,lab5,t5,ts,?_,(fun h=>absurd (hovE.symm.trans h) (by simp)),hli.stp kk5 hSR hSU H5 hokE (Nat.le_of_succ_le hlE') (.inr ⟨hovE,hgo.ends fun K _=>by unfold EndsAt;rw[hiter K];exact henE _ ⟨K,rfl⟩⟩)⟩ ?_
       ·simp (maxSteps:=999999) -implicitDefEqProofs (disch:=omega) only[push_cast,↓reduceIte,Nat.reduceEqDiff,reduceCtorEq,wz,hρ]
        rw[hpre]
       ·simp (maxSteps:=999999) -implicitDefEqProofs (disch:=omega) only[push_cast,↓reduceIte,Nat.reduceEqDiff,reduceCtorEq,wz,hrl]
       ·simp only[hovE,hov,if_true,Bool.false_eq_true,if_false];omega
      ·have hF2k:F2.kind=2:=hsame2.1
       have hm10k:m10.k=10∧m10.a=F2.it:=by
        rcases hcl with ⟨_,_,h⟩|⟨h,_,h'⟩
        ·omega
        ·exact ⟨h,h'⟩
       rw[if_neg (by omega)]
       have hm10l:=Qm hm10
       have hD2p:D.pos≤D2.pos:=by have h2:D2.nx.pos=D2.pos+1:=rfl;omega
       have hts5:=hli.ts.stp kk5 (fun h=>h.elim (fun h=>by have:=h.2.2.1;simp only at this;omega) fun h=>by have:=h.2;simp only at this;have:=hli.le;omega)
       have hx:(F2.row++[(F2.sg,F2.now)])[F2.row.length]?=some (F2.sg,F2.now):=by simp
       have hxl:(F2.row++[(F2.sg,F2.now)]).length=F2.row.length+1:=by simp
       have hdx:=Qp Z1 hx
       have hix:((F2.row.length:Int)+1 - 1).toNat=F2.row.length:=by omega
       have g1:∀k:List AV,(aSt (F2.sg,F2.now)++k)[1]?=some (.v (.int .i64 F2.now)):=fun _=>rfl
       obtain ⟨row',hrow'⟩:∃row',row'=F2.row++[(F2.sg,F2.now)]:=⟨_,rfl⟩
       rw[←hrow'] at hdx hxl ⊢
       have hxi:(row'.length:Int) - 1=(F2.row.length:Int):=by omega
       have hxp:(0:Int)≤(F2.row.length:Int):=by omega
       have hxq:(F2.row.length:Int) < (row'.length:Int):=by omega
       simp (maxSteps:=999999) -implicitDefEqProofs (disch:=omega) only[push_cast,↓reduceIte,Nat.reduceEqDiff,reduceCtorEq,wz,hρ,ho5,Qz,hovE,hxi,hdx,g1,hrl]
       refine Qf (sz:=1) (by intro a ha;simp at ha;subst ha;rfl) (by simp) ?_
       simp (maxSteps:=999999) -implicitDefEqProofs (disch:=omega) only[push_cast,↓reduceIte,Nat.reduceEqDiff,reduceCtorEq,wz]
       refine Qs (m:=1) rfl hts5 rfl rfl rfl (by simp) (by omega) (by omega) ?_
       intro σ6 lab6 t6 k6 ht6
       have H6:=H5.stp k6 (fun q _ _ e=>by have:=congrArg Prod.fst e;simp only at this;omega)
       simp (maxSteps:=999999) -implicitDefEqProofs (disch:=omega) only[push_cast,↓reduceIte,Nat.reduceEqDiff,reduceCtorEq,wz]
       refine hN (D2.nx,{ L with cnt:=L.cnt+1,ahead:=row',lasts:=L.lasts++[F2.now] }) _ _ ⟨?_,lab6,t5,t6,?_,fun _=>⟨tk,?_⟩,H6,hokE,by have:=hli.le;show D0.pos≤D2.pos+1;omega,by simpa using ht6,(hli.k.trans kk5 (U:=isR D0.pos) (fun _ h=>h) hSU).trans k6 (fun _ h=>h) fun r e=>by subst e;exact .inr ⟨by simp,by simp⟩,⟨hs3,hsc,hsn,hss,by simp[hsl]⟩,fun _=>by simp only[hrow'];simp,by simp only[List.length_append,List.length_singleton,RD.nx];omega,by simp only[RD.nx];omega,.inl ⟨hovE,heE,hgo.trans fun K _=>?_⟩⟩ ?_
       ·simp (maxSteps:=999999) -implicitDefEqProofs (disch:=omega) only[push_cast,↓reduceIte,Nat.reduceEqDiff,reduceCtorEq,wz,hρ]
        rw[hpre]
       ·simp (maxSteps:=999999) -implicitDefEqProofs (disch:=omega) only[push_cast,↓reduceIte,Nat.reduceEqDiff,reduceCtorEq,wz,hrl]
        simp[aInt]
       ·simp (maxSteps:=999999) -implicitDefEqProofs (disch:=omega) only[push_cast,↓reduceIte,Nat.reduceEqDiff,reduceCtorEq,wz]
       ·rw[hiter K,hgo2 _ ⟨K,rfl⟩,hrow']
        exact s_done hm10 hm10k.1 hF2k hm10k.2
       ·have h2:D2.over=false:=hovE
        simp only[RD.nx,hov,h2,Bool.false_eq_true,if_false];omega
   by_cases c8:m.k=8∧m.a=s∧0 < L.lasts.length
   ·obtain ⟨k8,hma,hpl⟩:=c8
    have hpl':(0:Int) < (L.lasts.length:Int):=by omega
    have hf8:fitsB L m=true:=by unfold fitsB;simp[k8,hs3,hma,hss,hsl];omega
    simp (maxSteps:=999999) -implicitDefEqProofs (disch:=omega) only[push_cast,↓reduceIte,Nat.reduceEqDiff,reduceCtorEq,wz,hρ,ho2,Qz,hov2,hmx,Qo,QF,k8,hma,aInt,hrl,hpl']
    refine ⟨lab2,D.nx,t,H2,hok2,by have:=hli.le;unfold RD.nx;simp only;omega,.inr ⟨hov2,he,D,L,m,ts,rfl,hli.ok,hm,k8,hf8,hll,fun K _=>hgo K trivial,?_⟩,hli.k.trans k2 (fun _ h=>h) fun _=>QJ⟩
    rfl
   have hfit:fitsB L m=false:=by
    unfold fitsB
    by_cases q9:m.k=9
    ·have:¬m.a=(L.cnt:Int):=fun e=>c9 ⟨q9,by rw[e,hsl]⟩
     simp[q9,this]
    ·by_cases q8:m.k=8
     ·rw[if_neg q9,if_pos q8]
      by_cases qa:m.a=L.ser
      ·have:¬0 < L.cnt:=fun e=>c8 ⟨q8,by rw[qa,hss],by omega⟩
       simp[this]
      ·simp[qa]
     ·rw[if_neg q9,if_neg q8]
      split
      ·exact hsc
      ·split
       ·simp[hs3]
       ·split
        ·simp[hs3]
        ·simp[hs3]
   by_cases q9:m.k=9
   ·have hna:¬m.a=(L.lasts.length:Int):=fun e=>c9 ⟨q9,e⟩
    simp (maxSteps:=999999) -implicitDefEqProofs (disch:=omega) only[push_cast,↓reduceIte,Nat.reduceEqDiff,reduceCtorEq,wz,hρ,ho2,Qz,hov2,hmx,Qo,QF,aInt,hrl,q9,hna]
    refine Q2 (Z5 H2) ?_
    rintro a σ3 ⟨H3,k3⟩
    simp (maxSteps:=999999) -implicitDefEqProofs (disch:=omega) only[push_cast,↓reduceIte,Nat.reduceEqDiff,reduceCtorEq,wz]
    refine hN (D.nx.wrong,L) _ _ ⟨?_,lab2,t,ts,?_,fun h=>by simp[RD.wrong] at h,hli.stp (k2.trans k3 (U:=isB) (fun _ h=>h) fun _ h=>h) hBR (fun _=>QJ) H3 ⟨hok2.pos,hok2.p,hok2.q,hok2.a⟩ (by simp only[RD.wrong,RD.nx];omega) (.inr ⟨rfl,hgo.ends fun K _=>QR hm hk hfit⟩)⟩ ?_
    ·simp (maxSteps:=999999) -implicitDefEqProofs (disch:=omega) only[push_cast,↓reduceIte,Nat.reduceEqDiff,reduceCtorEq,wz,hρ]
    ·simp (maxSteps:=999999) -implicitDefEqProofs (disch:=omega) only[push_cast,↓reduceIte,Nat.reduceEqDiff,reduceCtorEq,wz,hrl]
    ·simp only[RD.wrong,RD.nx,hov,if_true,Bool.false_eq_true,if_false];omega
   by_cases q8:m.k=8
   ·by_cases qa:m.a=s
    ·have hna:¬(0:Int) < (L.lasts.length:Int):=fun e=>c8 ⟨q8,qa,by omega⟩
     simp (maxSteps:=999999) -implicitDefEqProofs (disch:=omega) only[push_cast,↓reduceIte,Nat.reduceEqDiff,reduceCtorEq,wz,hρ,ho2,Qz,hov2,hmx,Qo,QF,aInt,hrl,q8,qa,hna]
     refine Q2 (Z5 H2) ?_
     rintro a σ3 ⟨H3,k3⟩
     simp (maxSteps:=999999) -implicitDefEqProofs (disch:=omega) only[push_cast,↓reduceIte,Nat.reduceEqDiff,reduceCtorEq,wz]
     refine hN (D.nx.wrong,L) _ _ ⟨?_,lab2,t,ts,?_,fun h=>by simp[RD.wrong] at h,hli.stp (k2.trans k3 (U:=isB) (fun _ h=>h) fun _ h=>h) hBR (fun _=>QJ) H3 ⟨hok2.pos,hok2.p,hok2.q,hok2.a⟩ (by simp only[RD.wrong,RD.nx];omega) (.inr ⟨rfl,hgo.ends fun K _=>QR hm hk hfit⟩)⟩ ?_
     ·simp (maxSteps:=999999) -implicitDefEqProofs (disch:=omega) only[push_cast,↓reduceIte,Nat.reduceEqDiff,reduceCtorEq,wz,hρ]
     ·simp (maxSteps:=999999) -implicitDefEqProofs (disch:=omega) only[push_cast,↓reduceIte,Nat.reduceEqDiff,reduceCtorEq,wz,hrl]
     ·simp only[RD.wrong,RD.nx,hov,if_true,Bool.false_eq_true,if_false];omega
    ·skip
     simp (maxSteps:=999999) -implicitDefEqProofs (disch:=omega) only[push_cast,↓reduceIte,Nat.reduceEqDiff,reduceCtorEq,wz,hρ,ho2,Qz,hov2,hmx,Qo,QF,aInt,hrl,q8,qa]
     refine Q2 (Z5 H2) ?_
     rintro a σ3 ⟨H3,k3⟩
     simp (maxSteps:=999999) -implicitDefEqProofs (disch:=omega) only[push_cast,↓reduceIte,Nat.reduceEqDiff,reduceCtorEq,wz]
     refine hN (D.nx.wrong,L) _ _ ⟨?_,lab2,t,ts,?_,fun h=>by simp[RD.wrong] at h,hli.stp (k2.trans k3 (U:=isB) (fun _ h=>h) fun _ h=>h) hBR (fun _=>QJ) H3 ⟨hok2.pos,hok2.p,hok2.q,hok2.a⟩ (by simp only[RD.wrong,RD.nx];omega) (.inr ⟨rfl,hgo.ends fun K _=>QR hm hk hfit⟩)⟩ ?_
     ·simp (maxSteps:=999999) -implicitDefEqProofs (disch:=omega) only[push_cast,↓reduceIte,Nat.reduceEqDiff,reduceCtorEq,wz,hρ]
     ·simp (maxSteps:=999999) -implicitDefEqProofs (disch:=omega) only[push_cast,↓reduceIte,Nat.reduceEqDiff,reduceCtorEq,wz,hrl]
     ·simp only[RD.wrong,RD.nx,hov,if_true,Bool.false_eq_true,if_false];omega
   simp (maxSteps:=999999) -implicitDefEqProofs (disch:=omega) only[push_cast,↓reduceIte,Nat.reduceEqDiff,reduceCtorEq,wz,hρ,ho2,Qz,hov2,hmx,Qo,QF,aInt,hrl,q9,q8]
   refine Q2 (Z5 H2) ?_
   rintro a σ3 ⟨H3,k3⟩
   simp (maxSteps:=999999) -implicitDefEqProofs (disch:=omega) only[push_cast,↓reduceIte,Nat.reduceEqDiff,reduceCtorEq,wz]
   refine hN (D.nx.wrong,L) _ _ ⟨?_,lab2,t,ts,?_,fun h=>by simp[RD.wrong] at h,hli.stp (k2.trans k3 (U:=isB) (fun _ h=>h) fun _ h=>h) hBR (fun _=>QJ) H3 ⟨hok2.pos,hok2.p,hok2.q,hok2.a⟩ (by simp only[RD.wrong,RD.nx];omega) (.inr ⟨rfl,hgo.ends fun K _=>QR hm hk hfit⟩)⟩ ?_
   ·simp (maxSteps:=999999) -implicitDefEqProofs (disch:=omega) only[push_cast,↓reduceIte,Nat.reduceEqDiff,reduceCtorEq,wz,hρ]
   ·simp (maxSteps:=999999) -implicitDefEqProofs (disch:=omega) only[push_cast,↓reduceIte,Nat.reduceEqDiff,reduceCtorEq,wz,hrl]
   ·simp only[RD.wrong,RD.nx,hov,if_true,Bool.false_eq_true,if_false];omega
  ·simp (maxSteps:=999999) -implicitDefEqProofs (disch:=omega) only[push_cast,↓reduceIte,Nat.reduceEqDiff,reduceCtorEq,wz,hρ,ho,Qz,hov]
   refine hE _ _ ?_
   exact ⟨lab,D,t,hli.rd,hli.ok,hli.le,⟨hov,hen⟩,hli.k⟩
 ·clear hρ hli0 ε
  rintro ε σ ⟨lab,E,t,H,hok,hle,hend,hk⟩
  simp (maxSteps:=999999) -implicitDefEqProofs (disch:=omega) only[push_cast,↓reduceIte,Nat.reduceEqDiff,reduceCtorEq,wz]
  exact ⟨lab,E,t,H,hok,hle,.inl ⟨hend.1,fun K=>hend.2 K trivial⟩,hk⟩
end
section
theorem both {l:List Mk} (hl:l.length≤16000) (n:Nat):SF l n∧SL l n:=by
 induction n using Nat.strongRecOn with
 | ind n ih=>exact ⟨frame_step hl (fun k h=>(ih k h).1) fun k h=>(ih k h).2,loop_step hl fun k h=>(ih k h).1⟩
def DgAt (σ:St) (k:Nat) (B:Bd):Prop:=∃c0 c1 p n a c5 c6,σ[k]?=some (.obj 0 [c0,c1,.sl B.preds.length (B.preds.map aInts) p,.sl B.nodes.length (B.nodes.flatMap aNd) n,.sl B.accs.length (B.accs.flatMap aAc) a,c5,c6])
def rd0:RD:=⟨0,[],[],[],false,0⟩
theorem buildR_root {l:List Mk} {E:RD} (h:Ends l (rd0.begin (0,0,0) []).2 rootFr E (·=[])):(buildR l).1=E.e∧(E.e=0→(buildR l).2.preds=E.preds∧(buildR l).2.nodes=E.nodes∧(buildR l).2.accs=E.accs)∧(E.e≠0→(buildR l).2=noneB):=by
 obtain ⟨h1,h2⟩:=h [] rfl
 have e:Rn l (rd0.begin (0,0,0) []).2 [rootFr]=runB bd0 l:=rfl
 rw[e] at h1 h2
 unfold buildR
 by_cases h0:(runB bd0 l).1=0
 ·rw[if_pos h0]
  refine ⟨by rw[←h1,h0],fun h3=>?_,fun h3=>absurd (h1.symm.trans h0) h3⟩
  obtain ⟨gs,hg⟩:=h2 h3
  simp only[hg]
  exact ⟨rfl,rfl,rfl⟩
 ·rw[if_neg h0]
  exact ⟨h1,fun h3=>absurd (h1.trans h3) h0,fun _=>rfl⟩
theorem YA {σ:St} (l:List Mk) (hl:l.length≤16000):FnG Tryz.prog 16 [aMks l] σ fun a σ'=>∃k,a=.tup [.ref k 0 0,aInt (buildR l).1]∧DgAt σ' k (buildR l).2∧∀j,j < σ.length→σ'[j]?=σ[j]?:=by
 refine Qk Z70 mixed rfl ?_
 simp only[Q73]
 have hf:fillA [AV.sl 0 [] Tok.nil,AV.v (.int .i64 0),AV.sl 0 [] Tok.nil,AV.sl 0 [] Tok.nil,AV.sl 0 [] Tok.nil,AV.v (.bool false),AV.v (.int .i64 0)] [(0,1)] [aMks l]=some (rdC l rd0 nilB):=by simp[fillA,AV.cells,setAtA,aMks,aSlN,rdC,rd0,nilB]
 have hac:(AV.agg (rdC l rd0 nilB)).cells=rdC l rd0 nilB:=rfl
 push_cast (disch:=omega)[hf]
 refine Qd ?_
 rw[hac]
 have k0:Stp (isR 0) σ (fun _=>(0,1)) (σ++[.obj 0 (rdC l rd0 nilB)]) (labN σ (fun _=>(0,1)) (1,0)):=Qj (1,0)
 have H0:RdAt (σ++[.obj 0 (rdC l rd0 nilB)]) (labN σ (fun _=>(0,1)) (1,0)) σ.length l rd0 nilB:=⟨Qc _ _,Qq _ _ _,TokOk.nil,TokOk.nil,TokOk.nil⟩
 generalize σ++[Res.obj 0 (rdC l rd0 nilB)]=σ1 at k0 H0 ⊢
 generalize labN σ (fun _=>(0,1)) (1,0)=lab1 at k0 H0
 generalize hid:σ.length=id at H0 ⊢
 have hz3:AV.agg [AV.v (.int .i64 0),AV.v (.int .i64 0),AV.v (.int .i64 0)]=.agg (aNd (0,0,0)):=rfl
 have hok0:DOk l rd0:=⟨Nat.zero_le _,by decide,rfl,by decide⟩
 push_cast (disch:=omega)
 refine Qi [] [false,false,true] (ZB H0 hok0.p hok0.q (0,0,0) []) (weak3 _ _ _ [] _) ?_
 rintro a σ2 ⟨rfl,lab2,t2,H2,k2⟩
 have hok2:=hok0.begin (0,0,0) []
 have hwk:∀S:St,weak (Go.Kx.freeze [] S) [false,false,false,false,true] [.ref id 0 0,.v (.int .i64 0),.agg [AV.v (.int .i64 0),AV.v (.int .i64 0),AV.v (.int .i64 0)],aInt 0,.sl 0 [] .nil]=[.ref id 0 0,aInt 0,.agg (aNd rootFr.node),aInt rootFr.now,.sl ([]:List (Int×Int)).length (([]:List (Int×Int)).flatMap aSt) .none]:=fun S=>by simp[weak,AV.res,AV.resL,aInt,aNd,Fr.node,rootFr]
 have hb1:(rd0.begin (0,0,0) []).1=0:=rfl
 push_cast (disch:=omega)[hb1]
 refine Qi [] [false,false,false,false,true] ((both hl l.length).1 σ2 lab2 id _ t2 rootFr [] (·=[]) 0 H2 hok2 rfl rfl rfl (.inl ⟨rfl,rfl,rfl⟩) rfl rfl (fun e=>by simp[rootFr] at e) (by simp)) (hwk _) ?_
 rintro a σ3 ⟨lab3,E,t3,H3,hokE,hlE,hout,k3⟩
 have kk:Stp (isR 0) σ (fun _=>(0,1)) σ3 lab3:=(k0.trans k2 (U:=isR 0) (fun _ h=>h) fun _=>QJ).trans k3 (fun _ h=>h) fun _ h=>h
 have hnR:¬isR 0 (0,1):=by
  rintro (h|h)
  ·have:=h.1;simp at this
  ·have:=h.1;simp at this
 have hold:∀j,j < id→σ3[j]?=σ[j]?:=fun j hj=>(kk.same j (by omega) hnR).1
 have hend:Ends l (rd0.begin (0,0,0) []).2 rootFr E (·=[]):=by
  rcases hout with ⟨_,h⟩|⟨_,_,D2,F2,m,tk,_,_,_,hcl,hsm,_⟩
  ·exact h
  ·exfalso
   obtain ⟨s1,s2,_⟩:=hsm
   rcases hcl with ⟨_,h,_⟩|⟨_,h,_⟩
   ·rw[s2] at h;simp[rootFr] at h
   ·rw[s1] at h;simp[rootFr] at h
 obtain ⟨hb,hb0,hbn⟩:=buildR_root hend
 have ho3:=H3.obj
 by_cases he:E.e=0
 ·obtain ⟨q1,q2,q3⟩:=hb0 he
  rw[hb,he]
  push_cast (disch:=omega)[ho3,rdC_6,he]
  refine ⟨id,rfl,⟨.sl l.length (l.flatMap aMk) .none,.v (.int .i64 E.pos),t3.p,t3.n,t3.a,.v (.bool E.over),.v (.int .i64 E.e),?_⟩,hold⟩
  rw[ho3,q1,q2,q3]
  rfl
 ·rw[hb,hbn he]
  push_cast (disch:=omega)[ho3,rdC_6,he]
  refine Qd ?_
  have hid3:σ3[id]?=some (.obj 0 (rdC l E t3)):=ho3
  have ho4:(σ3++[Res.obj 0 [AV.sl 0 [] Tok.nil,AV.v (Value.int IntKind.i64 0),AV.sl 0 [] Tok.nil,AV.sl 0 [] Tok.nil,AV.sl 0 [] Tok.nil,AV.v (Value.bool false),AV.v (Value.int IntKind.i64 0)]])[id]?=some (.obj 0 (rdC l E t3)):=Q7 ho3
  have exi:∀x,(AV.v (.int .i64 x)).exact=true:=fun _=>rfl
  push_cast (disch:=omega)
  refine ⟨Qa (by push_cast (disch:=omega)[ho4,rdC_6,exi]),?_⟩
  refine ⟨σ3.length,rfl,⟨.sl 0 [] .nil,.v (.int .i64 0),.nil,.nil,.nil,.v (.bool false),.v (.int .i64 0),Qc _ _⟩,fun j hj=>?_⟩
  rw[List.getElem?_append_left (by have:=kk.le;omega),hold j hj]
end
end Go.Proofs.YtncdnegdlkmicaaGreat.St
