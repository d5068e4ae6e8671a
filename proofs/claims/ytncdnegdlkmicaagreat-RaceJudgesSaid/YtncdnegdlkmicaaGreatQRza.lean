/- Race: the first clash; Find; great; dags: plain, and the walks (Rca Rcb Rcc Rcd) -/
import Derived.Test.YtncdnegdlkmicaaGreatQYc
import Derived.Test.YtncdnegdlkmicaaGreatQYr
import Derived.Test.YtncdnegdlkmicaaGreatQCRace
namespace Go.Proofs.YtncdnegdlkmicaaGreat.Rc
set_option linter.unusedVariables false
set_option linter.unusedSimpArgs false
open Go Go.Kx Go.Proofs
def FC (c:Nat→Nat→Bool) (n:Nat):Option (Nat×Nat)→Prop
 | none=>∀k,k < n→∀i,i < k→c i k=false
 | some p=>p.1 < p.2∧p.2 < n∧c p.1 p.2=true∧(∀j,j < p.1→c j p.2=false)∧∀k,k < p.2→∀j,j < k→c j k=false
theorem FC.uniq {c:Nat→Nat→Bool} {n:Nat}:∀{r s:Option (Nat×Nat)},FC c n r→FC c n s→r=s:=by
 intro r s hr hs
 cases r with
 | none=>
  cases s with
  | none=>rfl
  | some q=>have:=hr q.2 hs.2.1 q.1 hs.1;rw[hs.2.2.1] at this;cases this
 | some p=>
  cases s with
  | none=>have:=hs p.2 hr.2.1 p.1 hr.1;rw[hr.2.2.1] at this;cases this
  | some q=>
   obtain ⟨p1,p2⟩:=p
   obtain ⟨q1,q2⟩:=q
   obtain ⟨a1,a2,a3,a4,a5⟩:=hr
   obtain ⟨b1,b2,b3,b4,b5⟩:=hs
   simp only at a1 a2 a3 a4 a5 b1 b2 b3 b4 b5
   have e2:p2=q2:=by
    rcases Nat.lt_trichotomy p2 q2 with h|h|h
    ·have:=b5 p2 h p1 a1;rw[a3] at this;cases this
    ·exact h
    ·have:=a5 q2 h q1 b1;rw[b3] at this;cases this
   subst e2
   have e1:p1=q1:=by
    rcases Nat.lt_trichotomy p1 q1 with h|h|h
    ·have:=b4 p1 h;rw[a3] at this;cases this
    ·exact h
    ·have:=a4 q1 h;rw[b3] at this;cases this
   subst e1
   rfl
theorem least {P:Nat→Bool}:∀n:Nat,(∀i,i < n→P i=false)∨∃i,i < n∧P i=true∧∀j,j < i→P j=false:=by
 intro n
 induction n with
 | zero=>exact .inl fun i h=>absurd h (by omega)
 | succ n ih=>
  rcases ih with h|⟨i,h1,h2,h3⟩
  ·cases hp:P n with
   | true=>exact .inr ⟨n,by omega,hp,h⟩
   | false=>
    refine .inl fun i hi=>?_
    by_cases e:i=n
    ·subst e;exact hp
    ·exact h i (by omega)
  ·exact .inr ⟨i,by omega,h2,h3⟩
theorem FC.ex (c:Nat→Nat→Bool):∀n:Nat,∃r,FC c n r:=by
 intro n
 induction n with
 | zero=>exact ⟨none,fun k h=>absurd h (by omega)⟩
 | succ n ih=>
  obtain ⟨r,hr⟩:=ih
  cases r with
  | some p=>exact ⟨some p,hr.1,by have:=hr.2.1;omega,hr.2.2⟩
  | none=>
   rcases least (P:=fun i=>c i n) n with h|⟨i,h1,h2,h3⟩
   ·refine ⟨none,fun k hk i hi=>?_⟩
    by_cases e:k=n
    ·subst e;exact h i hi
    ·exact hr k (by omega) i hi
   ·exact ⟨some (i,n),h1,by simp,h2,h3,fun k hk j hj=>hr k hk j hj⟩
theorem FC.mono {c d:Nat→Nat→Bool} {n:Nat} (h:∀i k,i < k→k < n→c i k=true→d i k=true) {r:Option (Nat×Nat)} {p:Nat×Nat} (hc:FC c n (some p)) (hd:FC d n r):∃q,r=some q∧q.2≤p.2:=by
 have hp:=h p.1 p.2 hc.1 hc.2.1 hc.2.2.1
 cases r with
 | none=>have:=hd p.2 hc.2.1 p.1 hc.1;rw[hp] at this;cases this
 | some q=>
  refine ⟨q,rfl,?_⟩
  by_cases e:q.2≤p.2
  ·exact e
  ·have:=hd.2.2.2.2 p.2 (by omega) p.1 hc.1;rw[hp] at this;cases this
theorem FC.cut {c:Nat→Nat→Bool} {n m:Nat} {p:Nat×Nat} (h:FC c n (some p)) (hm:p.2 < m):FC c m (some p):=⟨h.1,hm,h.2.2⟩
end Go.Proofs.YtncdnegdlkmicaaGreat.Rc
namespace Go.Proofs.YtncdnegdlkmicaaGreat.Rc
set_option linter.unusedVariables false
set_option linter.unusedSimpArgs false
open Go Go.Kx Go.Proofs
open Go.Proofs.YtncdnegdlkmicaaGreat.Rx hiding Ql Q03 Qe QK mixed
open Go.Proofs.YtncdnegdlkmicaaGreat.St (Ac aAc Qt Z2 Q85 Z44 Nd aNd Zw X8)
theorem mixed:Tryz.prog.follows .mixedOrders=true:=by kernel_rfl
theorem QC (n:Int):(AV.v (.int .i64 n)).exact=true:=rfl
theorem Q8 {d:Nat} {n:Option Nat} {x:Operand} {ε:AEnv} {σ:Kx.St} (h:ldA n (evA ε x) σ=some (ε d)∧(ε d).exact=true):SItem.aholds ⟨some d,none,.ld n x⟩ ε σ:=.inl ⟨trivial,ε d,h.1,h.2,fun e h'=>by cases h';rfl⟩
def wdAt (l:List Ac) (i:Nat):Int:=(l[i]?.map Ac.wd).getD 0
def wrAt (l:List Ac) (i:Nat):Bool:=(l[i]?.map Ac.wr).getD false
def stAt (l:List Ac) (i:Nat):Int:=(l[i]?.map Ac.st).getD 0
theorem YH {l:List Ac} {i:Nat} {a:Ac} (h:l[i]?=some a):wdAt l i=a.wd∧wrAt l i=a.wr∧stAt l i=a.st:=by
 unfold wdAt wrAt stAt;rw[h];exact ⟨rfl,rfl,rfl⟩
def clash (xss:List (List Int)) (l:List Ac) (i k:Nat):Bool:=decide (wdAt l i=wdAt l k)&&(wrAt l i||wrAt l k)&&aparR (some (mkM xss)) (stAt l i) (stAt l k)
def idxN (l:List Ac) (k:Nat) (w:Int):List Nat:=(List.range k).filter fun i=>decide (wdAt l i=w)
def idx (l:List Ac) (k:Nat) (w:Int):List AV:=(idxN l k w).map fun i=>AV.v (.int .i64 (i:Nat))
theorem idx_len (l:List Ac) (k:Nat) (w:Int):(idx l k w).length=(idxN l k w).length:=by simp[idx]
theorem idxN_le (l:List Ac) (k:Nat) (w:Int):(idxN l k w).length≤k:=by
 have:=List.length_filter_le (fun i=>decide (wdAt l i=w)) (List.range k)
 rwa [List.length_range] at this
theorem idxN_succ (l:List Ac) (k:Nat) (w:Int):idxN l (k+1) w=if wdAt l k=w then idxN l k w++[k] else idxN l k w:=by
 unfold idxN
 rw[List.range_succ,List.filter_append]
 by_cases h:wdAt l k=w
 ·simp[h]
 ·simp[h]
theorem Z61 (l:List Ac) (k:Nat) (w:Int):idx l (k+1) w=if wdAt l k=w then idx l k w++[.v (.int .i64 (k:Nat))] else idx l k w:=by
 unfold idx
 rw[idxN_succ]
 split<;>simp
theorem filt_at {p:Nat→Bool}:∀{k t i:Nat},((List.range k).filter p)[t]?=some i→i < k∧p i=true∧∀j,j < i→p j=true→j∈((List.range k).filter p).take t:=by
 intro k
 induction k with
 | zero=>intro t i h;simp at h
 | succ k ih=>
  intro t i h
  rw[List.range_succ,List.filter_append] at h ⊢
  by_cases ht:t < ((List.range k).filter p).length
  ·rw[List.getElem?_append_left ht] at h
   obtain ⟨h1,h2,h3⟩:=ih h
   refine ⟨by omega,h2,fun j hj hp=>?_⟩
   rw[List.take_append_of_le_length (by omega)]
   exact h3 j hj hp
  ·rw[List.getElem?_append_right (by omega)] at h
   have hpk:p k=true∧i=k∧t=((List.range k).filter p).length:=by
    cases hp:p k with
    | false=>simp[hp] at h
    | true=>
     simp only[List.filter_cons,hp,if_true,List.filter_nil] at h
     have:=(List.getElem?_eq_some_iff.1 h).1
     simp at this
     have h0:t - ((List.range k).filter p).length=0:=by omega
     rw[h0] at h
     simp at h
     exact ⟨rfl,h.symm,by omega⟩
   obtain ⟨h1,rfl,h3⟩:=hpk
   refine ⟨by omega,h1,fun j hj hp=>?_⟩
   rw[List.take_append_of_le_length (by omega),h3,List.take_length]
   exact List.mem_filter.2 ⟨List.mem_range.2 hj,hp⟩
def getA (z:AV):List (Int×AV)→Int→AV
 | [],_=>z
 | p::A,i=>if i=p.1 then p.2 else getA z A i
def putA:List (Int×AV)→Int→AV→List (Int×AV)
 | [],i,x=>[(i,x)]
 | p::A,i,x=>if i=p.1 then (i,x)::A else p::putA A i x
def esA (A:List (Int×AV)):List (Value×AV):=A.map fun p=>(.int .i64 p.1,p.2)
theorem getM_A (z:AV) (A:List (Int×AV)) (i:Int):getM (.int .i64) z (.int .i64 i) (esA A)=some (getA z A i):=by
 induction A with
 | nil=>rfl
 | cons p A ih=>
  simp only[esA,List.map_cons,getM,eqC,if_true,getA] at ih ⊢
  by_cases h:i=p.1
  ·subst h;simp
  ·rw[show (i==p.1)=false by simpa using h,if_neg h]
   exact ih
theorem putM_A (A:List (Int×AV)) (i:Int) (x:AV):putM (.int .i64) (.int .i64 i) x (esA A)=some (esA (putA A i x)):=by
 induction A with
 | nil=>rfl
 | cons p A ih=>
  simp only[esA,List.map_cons,putM,eqC,if_true,putA] at ih ⊢
  by_cases h:i=p.1
  ·subst h;simp[Instr.sameBits]
  ·rw[show (i==p.1)=false by simpa using h,if_neg h]
   simp only[ih]
   rfl
theorem Z02 (z:AV) (A:List (Int×AV)) (i:Int) (x:AV) (j:Int):getA z (putA A i x) j=if j=i then x else getA z A j:=by
 induction A with
 | nil=>simp[putA,getA]
 | cons p A ih=>
  simp only[putA]
  by_cases h:i=p.1
  ·rw[if_pos h]
   simp only[getA]
   by_cases hj:j=i
   ·rw[if_pos hj,if_pos hj]
   ·rw[if_neg hj,if_neg hj,if_neg (fun e=>hj (e.trans h.symm))]
  ·rw[if_neg h]
   simp only[getA,ih]
   by_cases hj:j=p.1
   ·rw[if_pos hj,if_pos hj,if_neg (by rw[hj];exact fun e=>h e.symm)]
   ·rw[if_neg hj,if_neg hj]
abbrev nilA:AV:=absV (.slice none 0 0)
theorem nilA_eq:nilA=.sl 0 [] .nil:=rfl
structure MI (σ:Kx.St) (im:Nat) (l:List Ac) (k:Nat) (T:Int→Option (Nat×Nat)) (A:List (Int×AV)):Prop where
 mp:σ[im]?=some (.map (esA A))
 no:∀w,T w=none→getA nilA A w=nilA∧idx l k w=[]
 yes:∀w t v,T w=some (t,v)→getA nilA A w=.sl (idx l k w).length (idx l k w) (.id t v 1)∧σ[t]?=some (.tail v)∧t≠im
 inj:∀w w' t v v',T w=some (t,v)→T w'=some (t,v')→w=w'
theorem MI.app {σ τ:Kx.St} {im:Nat} {l:List Ac} {k:Nat} {T:Int→Option (Nat×Nat)} {A:List (Int×AV)} (h:MI σ im l k T A):MI (σ++τ) im l k T A:=
 ⟨Q7 h.mp,h.no,fun w t v e=>by obtain ⟨a,b,c⟩:=h.yes w t v e;exact ⟨a,Q7 b,c⟩,h.inj⟩
theorem MI.set {σ:Kx.St} {im:Nat} {l:List Ac} {k:Nat} {T:Int→Option (Nat×Nat)} {A:List (Int×AV)} (h:MI σ im l k T A) {j w0:Nat} {cs:List AV} (hj:σ[j]?=some (.obj w0 cs)) (o:Res):MI (σ.set j o) im l k T A:=by
 refine ⟨Q0 (fun e=>by subst e;have:=h.mp;rw[hj] at this;cases this) h.mp,h.no,fun w t v e=>?_,h.inj⟩
 obtain ⟨a,b,c⟩:=h.yes w t v e
 exact ⟨a,Q0 (fun e=>by subst e;rw[hj] at b;cases b) b,c⟩
theorem MI.sl {σ:Kx.St} {im:Nat} {l:List Ac} {k:Nat} {T:Int→Option (Nat×Nat)} {A:List (Int×AV)} (h:MI σ im l k T A) (w:Int):∃t,getA nilA A w=.sl (idx l k w).length (idx l k w) t:=by
 cases hT:T w with
 | none=>obtain ⟨a,b⟩:=h.no w hT;rw[a,b];exact ⟨_,rfl⟩
 | some p=>exact ⟨_,(h.yes w p.1 p.2 hT).1⟩
theorem MI.first {σ:Kx.St} {im:Nat} {l:List Ac} {k:Nat} {T:Int→Option (Nat×Nat)} {A:List (Int×AV)} (h:MI σ im l k T A) (hT:T (wdAt l k)=none):
  MI ((σ++[Res.tail 1]).set im (Res.map (esA (putA A (wdAt l k) (.sl 1 [.v (.int .i64 (k:Nat))] (.id σ.length 1 1)))))) im l (k+1) (fun w=>if w=wdAt l k then some (σ.length,1) else T w) (putA A (wdAt l k) (.sl 1 [.v (.int .i64 (k:Nat))] (.id σ.length 1 1))):=by
 have hlt:=Qm h.mp
 have h0:=(h.no _ hT).2
 refine ⟨Q4 (Q7 h.mp),fun w hw=>?_,fun w t v hw=>?_,fun w w' t v v' hw hw'=>?_⟩
 ·by_cases e:w=wdAt l k
  ·rw[if_pos e] at hw;cases hw
  ·rw[if_neg e] at hw
   obtain ⟨a,b⟩:=h.no w hw
   exact ⟨by rw[Z02,if_neg e,a],by rw[Z61,if_neg (fun e'=>e e'.symm),b]⟩
 ·by_cases e:w=wdAt l k
  ·rw[if_pos e] at hw
   cases hw
   refine ⟨by rw[Z02,if_pos e,Z61,if_pos e.symm,e,h0];rfl,?_,by omega⟩
   exact Q0 (by omega) (Qc _ _)
  ·rw[if_neg e] at hw
   obtain ⟨a,b,c⟩:=h.yes w t v hw
   exact ⟨by rw[Z02,if_neg e,a,Z61,if_neg (fun e'=>e e'.symm)],Q0 (fun e=>c e.symm) (Q7 b),c⟩
 ·by_cases e:w=wdAt l k
  ·rw[if_pos e] at hw
   cases hw
   by_cases e':w'=wdAt l k
   ·rw[e,e']
   ·rw[if_neg e'] at hw'
    have:=Qm (h.yes w' _ _ hw').2.1
    omega
  ·rw[if_neg e] at hw
   by_cases e':w'=wdAt l k
   ·rw[if_pos e'] at hw'
    cases hw'
    have:=Qm (h.yes w _ _ hw).2.1
    omega
   ·rw[if_neg e'] at hw'
    exact h.inj w w' t v v' hw hw'
theorem MI.more {σ:Kx.St} {im:Nat} {l:List Ac} {k:Nat} {T:Int→Option (Nat×Nat)} {A:List (Int×AV)} (h:MI σ im l k T A) {t v:Nat} (hT:T (wdAt l k)=some (t,v)):
  MI ((σ.set t (Res.tail (v+1))).set im (Res.map (esA (putA A (wdAt l k) (.sl ((idx l k (wdAt l k)).length+1) (idx l k (wdAt l k)++[.v (.int .i64 (k:Nat))]) (.id t (v+1) 1)))))) im l (k+1) (fun w=>if w=wdAt l k then some (t,v+1) else T w)
   (putA A (wdAt l k) (.sl ((idx l k (wdAt l k)).length+1) (idx l k (wdAt l k)++[.v (.int .i64 (k:Nat))]) (.id t (v+1) 1))):=by
 obtain ⟨y1,y2,y3⟩:=h.yes _ t v hT
 refine ⟨Q4 (Q0 y3 h.mp),fun w hw=>?_,fun w t' v' hw=>?_,fun w w' t' v1 v2 hw hw'=>?_⟩
 ·by_cases e:w=wdAt l k
  ·rw[if_pos e] at hw;cases hw
  ·rw[if_neg e] at hw
   obtain ⟨a,b⟩:=h.no w hw
   exact ⟨by rw[Z02,if_neg e,a],by rw[Z61,if_neg (fun e'=>e e'.symm),b]⟩
 ·by_cases e:w=wdAt l k
  ·rw[if_pos e] at hw
   cases hw
   refine ⟨by rw[Z02,if_pos e,Z61,if_pos e.symm,e,List.length_append];rfl,?_,y3⟩
   exact Q0 (fun e=>y3 e.symm) (Q4 y2)
  ·rw[if_neg e] at hw
   obtain ⟨a,b,c⟩:=h.yes w t' v' hw
   have hne:t≠t':=fun e'=>by subst e';exact e (h.inj w _ _ _ _ hw hT)
   exact ⟨by rw[Z02,if_neg e,a,Z61,if_neg (fun e'=>e e'.symm)],Q0 (fun e=>c e.symm) (Q0 hne b),c⟩
 ·by_cases e:w=wdAt l k
  ·rw[if_pos e] at hw
   cases hw
   by_cases e':w'=wdAt l k
   ·rw[e,e']
   ·rw[if_neg e'] at hw'
    exact absurd (h.inj w' _ _ _ _ hw' hT) e'
  ·rw[if_neg e] at hw
   by_cases e':w'=wdAt l k
   ·rw[if_pos e'] at hw'
    cases hw'
    exact absurd (h.inj w _ _ _ _ hw hT) e
   ·rw[if_neg e'] at hw'
    exact h.inj w w' t' v1 v2 hw hw'
def badS (xss:List (List Int)) (l:List Ac):Prop:=∃a∈l,a.st < 0∨(xss.length:Int)≤a.st
structure Fd where
 i:Int
 k:Int
 w:Int
 ok:Bool
 e:Int
def FindR (xss:List (List Int)) (l:List Ac) (r:Fd):Prop:=
 (chk xss≠0∧r=⟨0,0,0,false,chk xss⟩)∨(chk xss=0∧badS xss l∧r=⟨0,0,0,false,3⟩) ∨
 (chk xss=0∧¬badS xss l∧∃q,FC (clash xss l) l.length q∧r=match q with|none=>⟨0,0,0,false,0⟩|some p=>⟨p.1,p.2,wdAt l p.2,true,0⟩)
theorem FindR.uniq {xss:List (List Int)} {l:List Ac} {r s:Fd} (h:FindR xss l r) (k:FindR xss l s):r=s:=by
 rcases h with ⟨a,rfl⟩|⟨a,b,rfl⟩|⟨a,b,q,c,rfl⟩<;>rcases k with ⟨a',rfl⟩|⟨a',b',rfl⟩|⟨a',b',q',c',rfl⟩
 ·rfl
 ·exact absurd a' a
 ·exact absurd a' a
 ·exact absurd a a'
 ·rfl
 ·exact absurd b b'
 ·exact absurd a a'
 ·exact absurd b' b
 ·rw[c.uniq c']
def aFd (r:Fd):AV:=.tup [.agg [.v (.int .i64 r.i),.v (.int .i64 r.k),.v (.int .i64 r.w)],.v (.bool r.ok),.v (.int .i64 r.e)]
theorem fin_fd {xss:List (List Int)} {l:List Ac} (σ:Kx.St) (r:Fd) (h:FindR xss l r):∃is,(AV.res (Go.Kx.freeze is σ) (aFd r)).pure=true∧∃r',AV.res (Go.Kx.freeze is σ) (aFd r)=aFd r'∧FindR xss l r':=⟨[],rfl,r,rfl,h⟩
def aDg (xss:List (List Int)) (nd:AV) (l:List Ac):List AV:=[aInts2 xss,nd,aSlN aAc l]
end Go.Proofs.YtncdnegdlkmicaaGreat.Rc
namespace Go.Proofs.YtncdnegdlkmicaaGreat.Rc
set_option linter.unusedVariables false
set_option linter.unusedSimpArgs false
open Go Go.Kx Go.Proofs
open Go.Proofs.YtncdnegdlkmicaaGreat.Rx hiding Ql Q03 Qe QK mixed
open Go.Proofs.YtncdnegdlkmicaaGreat.St (Ac aAc Qt Z2 Q85 Z44 Nd aNd Zw X8)
theorem cells3a (c:Ac) (t:List AV):cellsA (some 3) (aAc c++t)=some (.agg (aAc c)):=by rw[Z07 _ _ (by simp[aAc])];rfl
theorem set3a (c:Ac):setAtA [AV.v (.int .i64 0),AV.v (.int .i64 0),AV.v (.bool false)] 0 (aAc c)=aAc c:=rfl
theorem set3n (a b c:AV):setAtA [AV.v (.int .i64 0),AV.v (.int .i64 0),AV.v (.int .i64 0)] 0 [a,b,c]=[a,b,c]:=rfl
theorem fill3n (a b c:Int):fillA [AV.v (.int .i64 0),AV.v (.int .i64 0),AV.v (.int .i64 0)] [(0,1),(1,1),(2,1)] [.v (.int .i64 a),.v (.int .i64 b),.v (.int .i64 c)]=some [.v (.int .i64 a),.v (.int .i64 b),.v (.int .i64 c)]:=rfl
theorem fill3z:fillA [AV.v (.int .i64 0),AV.v (.int .i64 0),AV.v (.int .i64 0)] [] []=some [AV.v (.int .i64 0),AV.v (.int .i64 0),AV.v (.int .i64 0)]:=rfl
theorem cell3 (a b c:AV):cellsA (some 3) [a,b,c]=some (.agg [a,b,c]):=rfl
set_option maxHeartbeats 16000000 in
theorem X69 (xss:List (List Int)) (nd:AV) (l:List Ac) (hnd:nd.pure=true) (hs:xss.length≤1000000) (hs2:∀x∈xss,x.length≤1000000) (hl:l.length≤1000000):
  FnP Tryz.prog 10 [.agg (aDg xss nd l)] fun a=>∃r,a=aFd r∧FindR xss l r:=by
 refine Qh K_race_Find mixed rfl (by simp[AV.pureL,AV.pure,aDg,QL,hnd,Q19 Q85]) ?_
 simp only[X68]
 have hac:(AV.agg (aDg xss nd l)).cells=aDg xss nd l:=rfl
 have d0:(aDg xss nd l)[0]?=some (aInts2 xss):=rfl
 have d2:(aDg xss nd l)[2]?=some (.sl l.length (l.flatMap aAc) .none):=rfl
 have fin:=fun (σ:Kx.St) (r:Fd) (h:FindR xss l r)=>fin_fd σ r h
 refine Q1 (fun ε σ=>(ε 1=.ref 0 0 0∧ε 2=.ref 1 0 0)∧σ=[.obj 0 (aDg xss nd l),.obj 0 [AV.v (.int .i64 0),AV.v (.int .i64 0),AV.v (.int .i64 0)]]) ?_ ?_
 ·intro N X R hN
  push_cast (maxSteps:=999999) -implicitDefEqProofs (disch:=omega)
  refine Qd ?_
  push_cast (maxSteps:=999999) -implicitDefEqProofs (disch:=omega)[hac]
  refine Qb ?_
  push_cast (maxSteps:=999999) -implicitDefEqProofs (disch:=omega)
  exact hN _ _ ⟨by push_cast (maxSteps:=999999) -implicitDefEqProofs (disch:=omega),rfl⟩
 rintro ε σ ⟨hρ,rfl⟩
 by_cases hc:chk xss=0
 ·obtain ⟨hk,hok⟩:=YD hc
  have wM:wfR (some (mkM xss)):=wf_mkM hs
  have hlen:lenR (some (mkM xss))=xss.length:=Q06 xss
  refine Q1 (fun ε σ=>(ε 1=.ref 0 0 0∧ε 2=.ref 1 0 0∧ε 5=aR (some (mkM xss))∧ε 6=.v (.int .i64 0))∧σ=[.obj 0 (aDg xss nd l),.obj 0 [AV.v (.int .i64 0),AV.v (.int .i64 0),AV.v (.int .i64 0)]]) ?_ ?_
  ·intro N X R hN
   push_cast (maxSteps:=999999) -implicitDefEqProofs (disch:=omega)[hρ,d0]
   refine Q3 (Rx.X66 xss hs hs2) ?_
   rintro a rfl
   push_cast (maxSteps:=999999) -implicitDefEqProofs (disch:=omega)[hc,aInt]
   exact hN _ _ ⟨by push_cast (maxSteps:=999999) -implicitDefEqProofs (disch:=omega)[hρ];rfl,rfl⟩
  clear hρ ε
  rintro ε σ ⟨hρ,rfl⟩
  generalize hM:mkM xss=M at hρ wM hlen
  refine Qg (fun ε σ=>(ε 1=.ref 0 0 0∧ε 2=.ref 1 0 0∧ε 5=aR (some M))∧σ=[.obj 0 (aDg xss nd l),.obj 0 [AV.v (.int .i64 0),AV.v (.int .i64 0),AV.v (.int .i64 0)]]) ?_ ?_
  ·intro N hN
   push_cast (maxSteps:=999999) -implicitDefEqProofs (disch:=omega)[hρ]
   exact hN _ _ ⟨by push_cast (maxSteps:=999999) -implicitDefEqProofs (disch:=omega)[hρ],rfl⟩
  clear hρ ε
  rintro ε σ ⟨hρ,rfl⟩
  refine Qg (fun ε σ=>(ε 1=.ref 0 0 0∧ε 2=.ref 1 0 0∧ε 5=aR (some M))∧σ[0]?=some (.obj 0 (aDg xss nd l))∧σ[1]?=some (.obj 0 [AV.v (.int .i64 0),AV.v (.int .i64 0),AV.v (.int .i64 0)])∧∀a∈l,¬(a.st < 0∨(xss.length:Int)≤a.st)) ?_ ?_
  ·intro N hN
   push_cast (maxSteps:=999999) -implicitDefEqProofs (disch:=omega)[hρ,d2]
   refine Qv (α:=Nat) (I:=fun k ε σ=>(ε 1=.ref 0 0 0∧ε 2=.ref 1 0 0∧ε 5=aR (some M)∧ε 26=.sl l.length (l.flatMap aAc) .none∧ε 27=.v (.int .i64 l.length)∧ε 28=.v (.int .i64 k))∧k≤l.length ∧
     σ[0]?=some (.obj 0 (aDg xss nd l))∧σ[1]?=some (.obj 0 [AV.v (.int .i64 0),AV.v (.int .i64 0),AV.v (.int .i64 0)])∧∀a∈l.take k,¬(a.st < 0∨(xss.length:Int)≤a.st))
    (μ:=fun k=>l.length - k) (Q:=fun ε σ=>(ε 1=.ref 0 0 0∧ε 2=.ref 1 0 0∧ε 5=aR (some M))∧σ[0]?=some (.obj 0 (aDg xss nd l))∧σ[1]?=some (.obj 0 [AV.v (.int .i64 0),AV.v (.int .i64 0),AV.v (.int .i64 0)])∧∀a∈l,¬(a.st < 0∨(xss.length:Int)≤a.st)) (x:=0) ?_ ?_ ?_
   ·push_cast (maxSteps:=999999) -implicitDefEqProofs (disch:=omega)[hρ]
    exact ⟨by omega,fun a ha=>absurd ha (by simp)⟩
   ·rintro k ε σ N E ⟨hρ,hk2,h0,h1,hgo⟩ hN hE
    simp only[Z87]
    by_cases hlt:k < l.length
    ·obtain ⟨a,ha⟩:=Ql hlt
     have hd:=Qp Qt ha
     have hσ:=Qm h1
     have h0':=Q7 (τ:=[Res.obj 0 (aAc a)]) h0
     have h1':=Q7 (τ:=[Res.obj 0 (aAc a)]) h1
     have hB:(σ++[Res.obj 0 (aAc a)])[σ.length]?=some (.obj 0 (aAc a)):=Qc _ _
     have g0:(aAc a)[0]?=some (.v (.int .i64 a.st)):=rfl
     push_cast (maxSteps:=999999) -implicitDefEqProofs (disch:=omega)[hρ,hd,cells3a]
     refine Qb ?_
     push_cast (maxSteps:=999999) -implicitDefEqProofs (disch:=omega)
     refine Q5 (cs:=[AV.v (.int .i64 0),AV.v (.int .i64 0),AV.v (.bool false)]) rfl rfl (Qc _ _) (by decide) ?_
     rw[set3a,Z09]
     generalize σ++[Res.obj 0 (aAc a)]=σ1 at h0' h1' hB
     by_cases c1:a.st < 0
     ·push_cast (maxSteps:=999999) -implicitDefEqProofs (disch:=omega)[hρ,hB,g0,c1,fill3z]
      refine ⟨aholds_off (by push_cast (maxSteps:=999999) -implicitDefEqProofs (disch:=omega)) (by push_cast (maxSteps:=999999) -implicitDefEqProofs (disch:=omega)),?_⟩
      refine Q5 (n:=3) (l:=[AV.v (.int .i64 0),AV.v (.int .i64 0),AV.v (.int .i64 0)]) rfl rfl h1' (by decide) ?_
      have h1'':=Q4 (o:=Res.obj 0 [AV.v (.int .i64 0),AV.v (.int .i64 0),AV.v (.int .i64 0)]) h1'
      rw[set3n]
      push_cast (maxSteps:=999999) -implicitDefEqProofs (disch:=omega)[hρ,h1'',cell3]
      exact fin _ ⟨0,0,0,false,3⟩ (.inr (.inl ⟨hc,⟨a,List.mem_of_getElem? ha,.inl c1⟩,rfl⟩))
     ·push_cast (maxSteps:=999999) -implicitDefEqProofs (disch:=omega)[hρ,hB,g0,c1]
      refine Q3 (Rx.Len_a (some M)) ?_
      rintro x rfl
      rw[hlen]
      by_cases c2:(xss.length:Int)≤a.st
      ·push_cast (maxSteps:=999999) -implicitDefEqProofs (disch:=omega)[hρ,aInt,fill3z]
       refine ⟨X84 (a:=.v (.int .i64 a.st)) (by push_cast (maxSteps:=999999) -implicitDefEqProofs (disch:=omega)[hρ]) (by push_cast (maxSteps:=999999) -implicitDefEqProofs (disch:=omega)[hB,g0]) rfl (by push_cast (maxSteps:=999999) -implicitDefEqProofs (disch:=omega)),?_⟩
       refine Q5 (n:=3) (l:=[AV.v (.int .i64 0),AV.v (.int .i64 0),AV.v (.int .i64 0)]) rfl rfl h1' (by decide) ?_
       have h1'':=Q4 (o:=Res.obj 0 [AV.v (.int .i64 0),AV.v (.int .i64 0),AV.v (.int .i64 0)]) h1'
       rw[set3n]
       push_cast (maxSteps:=999999) -implicitDefEqProofs (disch:=omega)[hρ,h1'',cell3]
       exact fin _ ⟨0,0,0,false,3⟩ (.inr (.inl ⟨hc,⟨a,List.mem_of_getElem? ha,.inr c2⟩,rfl⟩))
      ·push_cast (maxSteps:=999999) -implicitDefEqProofs (disch:=omega)[hρ,aInt,fill3z]
       refine ⟨X84 (a:=.v (.int .i64 a.st)) (by push_cast (maxSteps:=999999) -implicitDefEqProofs (disch:=omega)[hρ]) (by push_cast (maxSteps:=999999) -implicitDefEqProofs (disch:=omega)[hB,g0]) rfl (by push_cast (maxSteps:=999999) -implicitDefEqProofs (disch:=omega)),?_⟩
       refine hN (k+1) _ _ ?_ (by omega)
       push_cast (maxSteps:=999999) -implicitDefEqProofs (disch:=omega)[hρ]
       refine ⟨by omega,h0',h1',fun b hb=>?_⟩
       rw[Qe ha] at hb
       rcases List.mem_append.1 hb with hb|hb
       ·exact hgo b hb
       ·simp at hb;subst hb;omega
    ·push_cast (maxSteps:=999999) -implicitDefEqProofs (disch:=omega)[hρ]
     refine hE _ _ ?_
     push_cast (maxSteps:=999999) -implicitDefEqProofs (disch:=omega)[hρ]
     refine ⟨h0,h1,?_⟩
     rwa [List.take_of_length_le (by omega)] at hgo
   ·rintro ε σ h
    exact hN _ _ h
  clear hρ ε
  rintro ε σ ⟨hρ,h0,h1,hgood⟩
  have hnb:¬badS xss l:=fun ⟨a,ha,hb⟩=>hgood a ha hb
  have hσ2:=Qm h1
  refine Q1 (fun ε σ'=>(ε 1=.ref 0 0 0∧ε 2=.ref 1 0 0∧ε 5=aR (some M)∧ε 9=.mp σ.length)∧σ'=σ++[.map []]) ?_ ?_
  ·intro N X R hN
   push_cast (maxSteps:=999999) -implicitDefEqProofs (disch:=omega)
   refine wpa_mkm ?_
   push_cast (maxSteps:=999999) -implicitDefEqProofs (disch:=omega)
   exact hN _ _ ⟨by push_cast (maxSteps:=999999) -implicitDefEqProofs (disch:=omega)[hρ],rfl⟩
  clear hρ ε
  rintro ε σ' ⟨hρ,rfl⟩
  have hMI:MI (σ++[Res.map []]) σ.length l 0 (fun _=>none) []:=⟨Qc _ _,fun w _=>⟨rfl,rfl⟩,fun w t v h=>absurd h (by simp),fun w w' t v v' h _=>absurd h (by simp)⟩
  have h0':=Q7 (τ:=[Res.map []]) h0
  have h1':=Q7 (τ:=[Res.map []]) h1
  clear h0 h1
  generalize σ++[Res.map []]=σ1 at hMI h0' h1'
  generalize σ.length=im at hMI hρ hσ2
  refine Qg (fun ε σ=>ε 2=.ref 1 0 0∧σ[1]?=some (.obj 0 [AV.v (.int .i64 0),AV.v (.int .i64 0),AV.v (.int .i64 0)])∧FC (clash xss l) l.length none) ?_ ?_
  ·intro N hN
   push_cast (maxSteps:=999999) -implicitDefEqProofs (disch:=omega)[hρ,h0',d2]
   refine Qv (α:=Nat×(Int→Option (Nat×Nat))×List (Int×AV)) (I:=fun s ε σ=>(ε 1=.ref 0 0 0∧ε 2=.ref 1 0 0∧ε 5=aR (some M)∧ε 9=.mp im∧ε 46=.sl l.length (l.flatMap aAc) .none∧ε 47=.v (.int .i64 l.length)∧ε 48=.v (.int .i64 s.1))∧s.1≤l.length ∧
     σ[0]?=some (.obj 0 (aDg xss nd l))∧σ[1]?=some (.obj 0 [AV.v (.int .i64 0),AV.v (.int .i64 0),AV.v (.int .i64 0)])∧MI σ im l s.1 s.2.1 s.2.2∧FC (clash xss l) s.1 none)
    (μ:=fun s=>l.length - s.1) (Q:=fun ε σ=>ε 2=.ref 1 0 0∧σ[1]?=some (.obj 0 [AV.v (.int .i64 0),AV.v (.int .i64 0),AV.v (.int .i64 0)])∧FC (clash xss l) l.length none) (x:=(0,fun _=>none,[])) ?_ ?_ ?_
   ·push_cast (maxSteps:=999999) -implicitDefEqProofs (disch:=omega)[hρ]
    exact ⟨by omega,h0',h1',hMI,fun k h=>by omega⟩
   ·rintro ⟨k,T,A⟩ ε σ N E ⟨hρ,hk2,h0,h1,hI,hfc⟩ hN hE
    simp only at hρ hk2 hI hfc
    simp only[Z89]
    by_cases hlt:k < l.length
    ·obtain ⟨b,hb⟩:=Ql hlt
     obtain ⟨w1,w2,w3⟩:=YH hb
     have hd:=Qp Qt hb
     have Z3:[AV.v (.int .i64 0),AV.v (.int .i64 0),AV.v (.bool false)].length=3:=rfl
     refine Q1 (fun ε σ'=>(ε 1=.ref 0 0 0∧ε 2=.ref 1 0 0∧ε 5=aR (some M)∧ε 9=.mp im∧ε 46=.sl l.length (l.flatMap aAc) .none∧ε 47=.v (.int .i64 l.length)∧ε 48=.v (.int .i64 k)∧ε 49=.v (.bool true))∧σ'=σ) ?_ ?_
     ·intro N X R hN
      push_cast (maxSteps:=999999) -implicitDefEqProofs (disch:=omega)[hρ]
      exact hN _ _ ⟨by push_cast (maxSteps:=999999) -implicitDefEqProofs (disch:=omega)[hρ],rfl⟩
     clear hρ ε
     rintro ε σ' ⟨hρ,e1⟩
     rw[e1]
     clear e1 σ'
     refine Qg (fun ε σ'=>(ε 1=.ref 0 0 0∧ε 2=.ref 1 0 0∧ε 5=aR (some M)∧ε 9=.mp im∧ε 46=.sl l.length (l.flatMap aAc) .none∧ε 47=.v (.int .i64 l.length)∧ε 48=.v (.int .i64 k))∧σ'=σ) ?_ ?_
     ·intro N hN
      push_cast (maxSteps:=999999) -implicitDefEqProofs (disch:=omega)[hρ]
      exact hN _ _ ⟨by push_cast (maxSteps:=999999) -implicitDefEqProofs (disch:=omega)[hρ],rfl⟩
     clear hρ ε
     rintro ε σ' ⟨hρ,e1⟩
     rw[e1]
     clear e1 σ'
     refine Qg (fun ε σ'=>(ε 1=.ref 0 0 0∧ε 2=.ref 1 0 0∧ε 5=aR (some M)∧ε 9=.mp im∧ε 46=.sl l.length (l.flatMap aAc) .none∧ε 47=.v (.int .i64 l.length)∧ε 48=.v (.int .i64 k)) ∧
       σ'[0]?=some (.obj 0 (aDg xss nd l))∧σ'[1]?=some (.obj 0 [AV.v (.int .i64 0),AV.v (.int .i64 0),AV.v (.int .i64 0)])∧(∃T A,MI σ' im l (k+1) T A)∧∀i,i < k→clash xss l i k=false) ?_ ?_
     ·intro N hN
      refine QM fun X' _=>?_
      refine Q1 (fun ε σ'=>∃jb,(ε 1=.ref 0 0 0∧ε 2=.ref 1 0 0∧ε 5=aR (some M)∧ε 9=.mp im∧ε 46=.sl l.length (l.flatMap aAc) .none∧ε 47=.v (.int .i64 l.length)∧ε 48=.v (.int .i64 k)∧ε 10=.v (.int .i64 k)∧ε 11=.ref jb 0 0) ∧
        σ'[0]?=some (.obj 0 (aDg xss nd l))∧σ'[1]?=some (.obj 0 [AV.v (.int .i64 0),AV.v (.int .i64 0),AV.v (.int .i64 0)])∧σ'[jb]?=some (.obj 0 (aAc b))∧MI σ' im l k T A) ?_ ?_
      ·intro N X R hN
       push_cast (maxSteps:=999999) -implicitDefEqProofs (disch:=omega)[hρ,hd,cells3a]
       refine Qb ?_
       push_cast (maxSteps:=999999) -implicitDefEqProofs (disch:=omega)
       refine Q5 (cs:=[AV.v (.int .i64 0),AV.v (.int .i64 0),AV.v (.bool false)]) rfl rfl (Qc _ _) (by decide) ?_
       rw[set3a,Z09]
       push_cast (maxSteps:=999999) -implicitDefEqProofs (disch:=omega)
       exact hN _ _ ⟨σ.length,by push_cast (maxSteps:=999999) -implicitDefEqProofs (disch:=omega)[hρ],Q7 h0,Q7 h1,Qc _ _,hI.app⟩
      clear hρ ε h0 h1 hI
      rintro ε σ2 ⟨jb,hρ,h0,h1,hB,hI⟩
      have g0:(aAc b)[0]?=some (.v (.int .i64 b.st)):=rfl
      have g1:(aAc b)[1]?=some (.v (.int .i64 b.wd)):=rfl
      have g2:(aAc b)[2]?=some (.v (.bool b.wr)):=rfl
      have hgm:=getM_A nilA A b.wd
      refine Qg (fun ε σ'=>(ε 1=.ref 0 0 0∧ε 2=.ref 1 0 0∧ε 5=aR (some M)∧ε 9=.mp im∧ε 46=.sl l.length (l.flatMap aAc) .none∧ε 47=.v (.int .i64 l.length)∧ε 48=.v (.int .i64 k)∧ε 10=.v (.int .i64 k)∧ε 11=.ref jb 0 0) ∧
        σ'[0]?=some (.obj 0 (aDg xss nd l))∧σ'[1]?=some (.obj 0 [AV.v (.int .i64 0),AV.v (.int .i64 0),AV.v (.int .i64 0)])∧σ'[jb]?=some (.obj 0 (aAc b))∧MI σ' im l k T A∧∀i,i < k→clash xss l i k=false) ?_ ?_
      ·intro N hN
       obtain ⟨tok,htok⟩:=hI.sl b.wd
       have hnl:=idx_len l k b.wd
       have hnk:=idxN_le l k b.wd
       push_cast (maxSteps:=999999) -implicitDefEqProofs (disch:=omega)[hρ,hB,g1]
       refine X43 hI.mp hgm ?_
       rw[htok]
       push_cast (maxSteps:=999999) -implicitDefEqProofs (disch:=omega)
       refine Qv (α:=Nat) (I:=fun t ε σ=>(ε 1=.ref 0 0 0∧ε 2=.ref 1 0 0∧ε 5=aR (some M)∧ε 9=.mp im∧ε 46=.sl l.length (l.flatMap aAc) .none∧ε 47=.v (.int .i64 l.length)∧ε 48=.v (.int .i64 k)∧ε 10=.v (.int .i64 k)∧ε 11=.ref jb 0 0 ∧
         ε 56=.sl (idx l k b.wd).length (idx l k b.wd) tok∧ε 57=.v (.int .i64 (idx l k b.wd).length)∧ε 58=.v (.int .i64 t))∧t≤(idx l k b.wd).length ∧
         σ[0]?=some (.obj 0 (aDg xss nd l))∧σ[1]?=some (.obj 0 [AV.v (.int .i64 0),AV.v (.int .i64 0),AV.v (.int .i64 0)])∧σ[jb]?=some (.obj 0 (aAc b))∧MI σ im l k T A∧∀i∈(idxN l k b.wd).take t,clash xss l i k=false)
        (μ:=fun t=>(idx l k b.wd).length - t) (Q:=fun ε σ=>(ε 1=.ref 0 0 0∧ε 2=.ref 1 0 0∧ε 5=aR (some M)∧ε 9=.mp im∧ε 46=.sl l.length (l.flatMap aAc) .none∧ε 47=.v (.int .i64 l.length)∧ε 48=.v (.int .i64 k)∧ε 10=.v (.int .i64 k)∧ε 11=.ref jb 0 0) ∧
         σ[0]?=some (.obj 0 (aDg xss nd l))∧σ[1]?=some (.obj 0 [AV.v (.int .i64 0),AV.v (.int .i64 0),AV.v (.int .i64 0)])∧σ[jb]?=some (.obj 0 (aAc b))∧MI σ im l k T A∧∀i,i < k→clash xss l i k=false) (x:=0) ?_ ?_ ?_
       ·push_cast (maxSteps:=999999) -implicitDefEqProofs (disch:=omega)[hρ]
        exact ⟨by omega,h0,h1,hB,hI,fun i hi=>by simp at hi⟩
       ·clear hρ ε h0 h1 hB hI
        rintro t ε σ N E ⟨hρ,ht,h0,h1,hB,hI,hno⟩ hN hE
        simp only[Z88]
        by_cases htl:t < (idx l k b.wd).length
        ·obtain ⟨i,hi⟩:=Ql (l:=idxN l k b.wd) (k:=t) (by omega)
         have hxi:(idx l k b.wd)[t]?=some (.v (.int .i64 (i:Nat))):=by unfold idx;rw[List.getElem?_map,hi];rfl
         obtain ⟨f1,f2,f3⟩:=filt_at hi
         obtain ⟨a,ha⟩:=Ql (l:=l) (k:=i) (by omega)
         obtain ⟨v1,v2,v3⟩:=YH ha
         have hda:=Qp Qt ha
         have hwd:wdAt l i=b.wd:=by simpa using f2
         have hcl:clash xss l i k=((a.wr||b.wr)&&aparR (some M) a.st b.st):=by
          unfold clash
          rw[hM,v2,v3,w2,w3,hwd,w1]
          simp
         have q0:(aAc a)[0]?=some (.v (.int .i64 a.st)):=rfl
         have q2:(aAc a)[2]?=some (.v (.bool a.wr)):=rfl
         have h0':=Q7 (τ:=[Res.obj 0 (aAc a)]) h0
         have h1':=Q7 (τ:=[Res.obj 0 (aAc a)]) h1
         have hB':=Q7 (τ:=[Res.obj 0 (aAc a)]) hB
         have hA':(σ++[Res.obj 0 (aAc a)])[σ.length]?=some (.obj 0 (aAc a)):=Qc _ _
         have hI':=hI.app (τ:=[Res.obj 0 (aAc a)])
         have hAp:=Rx.Apart_a (some M) wM a.st b.st
         push_cast (maxSteps:=999999) -implicitDefEqProofs (disch:=omega)[hρ,hxi]
         push_cast (maxSteps:=999999) -implicitDefEqProofs (disch:=omega)[h0,d2,hda,cells3a]
         refine Qb ?_
         push_cast (maxSteps:=999999) -implicitDefEqProofs (disch:=omega)
         refine Q5 (cs:=[AV.v (.int .i64 0),AV.v (.int .i64 0),AV.v (.bool false)]) rfl rfl (Qc _ _) (by decide) ?_
         rw[set3a,Z09]
         generalize σ++[Res.obj 0 (aAc a)]=σ1 at h0' h1' hB' hA' hI'
         have goOn:clash xss l i k=false→∀j∈(idxN l k b.wd).take (t+1),clash xss l j k=false:=fun h j hj=>by
          rw[Qe hi] at hj
          rcases List.mem_append.1 hj with hj|hj
          ·exact hno j hj
          ·simp at hj;subst hj;exact h
         have none_j:∀j,j < i→clash xss l j k=false:=by
          intro j hj
          cases hcj:clash xss l j k with
          | false=>rfl
          | true=>
           have hwj:wdAt l j=b.wd:=by
            unfold clash at hcj
            simp only[Bool.and_eq_true,decide_eq_true_eq] at hcj
            rw[hcj.1.1,w1]
           have:=hno j (f3 j hj (by simpa using hwj))
           rw[hcj] at this
           cases this
         have found:clash xss l i k=true→FindR xss l ⟨(i:Nat),(k:Nat),b.wd,true,0⟩:=fun h=>.inr (.inr ⟨hc,hnb,some (i,k),⟨f1,hlt,h,none_j,hfc⟩,by simp only[w1]⟩)
         have h1'':=Q4 (o:=Res.obj 0 [AV.v (.int .i64 i),AV.v (.int .i64 k),AV.v (.int .i64 b.wd)]) h1'
         have ret:∀(σ:Kx.St),clash xss l i k=true→∃is,(AV.res (Go.Kx.freeze is σ) (aFd ⟨(i:Nat),(k:Nat),b.wd,true,0⟩)).pure=true∧∃r',AV.res (Go.Kx.freeze is σ) (aFd ⟨(i:Nat),(k:Nat),b.wd,true,0⟩)=aFd r'∧FindR xss l r':=fun σ h=>fin σ _ (found h)
         cases hw:(a.wr||b.wr) with
         | false=>
          have hwa:a.wr=false:=by cases ha':a.wr with|false=>rfl|true=>rw[ha'] at hw;simp at hw
          have hwb:b.wr=false:=by cases hb':b.wr with|false=>rfl|true=>rw[hb'] at hw;simp at hw
          rw[hwa] at q2
          have g2':=g2
          rw[hwb] at g2'
          push_cast (maxSteps:=999999) -implicitDefEqProofs (disch:=omega)[hρ,hA',hB',q2,g2']
          refine hN (t+1) _ _ ?_ (by omega)
          push_cast (maxSteps:=999999) -implicitDefEqProofs (disch:=omega)[hρ]
          exact ⟨by omega,h0',h1',hB',hI',goOn (by rw[hcl,hw];rfl)⟩
         | true=>
          cases hap:aparR (some M) a.st b.st with
          | false=>
           rw[hap] at hAp
           cases hwa:a.wr with
           | true=>
            rw[hwa] at q2
            push_cast (maxSteps:=999999) -implicitDefEqProofs (disch:=omega)[hρ,hA',hB',q2,q0,g0]
            refine Q3 hAp ?_
            rintro x rfl
            push_cast (maxSteps:=999999) -implicitDefEqProofs (disch:=omega)[hρ,aBool]
            refine hN (t+1) _ _ ?_ (by omega)
            push_cast (maxSteps:=999999) -implicitDefEqProofs (disch:=omega)[hρ]
            exact ⟨by omega,h0',h1',hB',hI',goOn (by rw[hcl,hap];simp)⟩
           | false=>
            have hwb:b.wr=true:=by rw[hwa] at hw;simpa using hw
            rw[hwa] at q2
            have g2':=g2
            rw[hwb] at g2'
            push_cast (maxSteps:=999999) -implicitDefEqProofs (disch:=omega)[hρ,hA',hB',q2,q0,g0,g2']
            refine Q3 hAp ?_
            rintro x rfl
            push_cast (maxSteps:=999999) -implicitDefEqProofs (disch:=omega)[hρ,aBool]
            refine hN (t+1) _ _ ?_ (by omega)
            push_cast (maxSteps:=999999) -implicitDefEqProofs (disch:=omega)[hρ]
            exact ⟨by omega,h0',h1',hB',hI',goOn (by rw[hcl,hap];simp)⟩
          | true=>
           rw[hap] at hAp
           have hct:clash xss l i k=true:=by rw[hcl,hw,hap];rfl
           cases hwa:a.wr with
           | true=>
            rw[hwa] at q2
            push_cast (maxSteps:=999999) -implicitDefEqProofs (disch:=omega)[hρ,hA',hB',q2,q0,g0]
            refine Q3 hAp ?_
            rintro x rfl
            push_cast (maxSteps:=999999) -implicitDefEqProofs (disch:=omega)[hρ,aBool,hB',g1,fill3n]
            refine Q5 (n:=3) (l:=[AV.v (.int .i64 i),AV.v (.int .i64 k),AV.v (.int .i64 b.wd)]) rfl rfl h1' (by decide) ?_
            rw[set3n]
            push_cast (maxSteps:=999999) -implicitDefEqProofs (disch:=omega)[hρ,h1'',cell3]
            exact ret _ hct
           | false=>
            have hwb:b.wr=true:=by rw[hwa] at hw;simpa using hw
            rw[hwa] at q2
            have g2':=g2
            rw[hwb] at g2'
            push_cast (maxSteps:=999999) -implicitDefEqProofs (disch:=omega)[hρ,hA',hB',q2,q0,g0,g2']
            refine Q3 hAp ?_
            rintro x rfl
            push_cast (maxSteps:=999999) -implicitDefEqProofs (disch:=omega)[hρ,aBool,hB',g1,fill3n]
            refine Q5 (n:=3) (l:=[AV.v (.int .i64 i),AV.v (.int .i64 k),AV.v (.int .i64 b.wd)]) rfl rfl h1' (by decide) ?_
            rw[set3n]
            push_cast (maxSteps:=999999) -implicitDefEqProofs (disch:=omega)[hρ,h1'',cell3]
            exact ret _ hct
        ·push_cast (maxSteps:=999999) -implicitDefEqProofs (disch:=omega)[hρ]
         refine hE _ _ ?_
         push_cast (maxSteps:=999999) -implicitDefEqProofs (disch:=omega)[hρ]
         refine ⟨h0,h1,hB,hI,fun i hi=>?_⟩
         cases hcl:clash xss l i k with
         | false=>rfl
         | true=>
          have hwj:wdAt l i=b.wd:=by
           unfold clash at hcl
           simp only[Bool.and_eq_true,decide_eq_true_eq] at hcl
           rw[hcl.1.1,w1]
          have:=hno i (by rw[List.take_of_length_le (by omega)];exact List.mem_filter.2 ⟨List.mem_range.2 hi,by simpa using hwj⟩)
          rw[hcl] at this;cases this
       ·rintro ε σ h
        exact hN _ _ h
      clear hρ ε h0 h1 hB hI
      rintro ε σ3 ⟨hρ,h0,h1,hB,hI,hcl⟩
      have ew:wdAt l k=b.wd:=w1
      have hkc:(AV.v (.int .i64 k)).cells=[.v (.int .i64 k)]:=rfl
      push_cast (maxSteps:=999999) -implicitDefEqProofs (disch:=omega)[hρ,hB,g1]
      refine both2 ?_ ?_
      ·cases hT:T b.wd with
       | none=>
        refine X43 hI.mp hgm ?_
        rw[(hI.no _ hT).1,nilA_eq]
        push_cast (maxSteps:=999999) -implicitDefEqProofs (disch:=omega)[hρ]
        refine ⟨Q8 (by push_cast (maxSteps:=999999) -implicitDefEqProofs (disch:=omega)[hρ,hB,g1,QC]),?_⟩
        refine Qf (sz:=1) (by intro a ha;simp at ha;subst ha;rfl) (by simp) ?_
        push_cast (maxSteps:=999999) -implicitDefEqProofs (disch:=omega)[hρ,hkc,List.append_nil]
        refine ⟨Q8 (by push_cast (maxSteps:=999999) -implicitDefEqProofs (disch:=omega)[hρ,hB,g1,QC]),?_⟩
        refine Q87 (m:=1) rfl rfl rfl rfl (by omega) (by omega) ?_
        push_cast (maxSteps:=999999) -implicitDefEqProofs (disch:=omega)[hρ]
        refine ⟨Q8 (by push_cast (maxSteps:=999999) -implicitDefEqProofs (disch:=omega)[hρ,Q7 hB,g1,QC]),?_⟩
        refine Yb (Q7 hI.mp) (putM_A _ _ _) ?_
        push_cast (maxSteps:=999999) -implicitDefEqProofs (disch:=omega)
        have hI2:=hI.first (by rw[ew];exact hT)
        rw[ew] at hI2
        exact hN _ _ ⟨by push_cast (maxSteps:=999999) -implicitDefEqProofs (disch:=omega)[hρ],Q0 (by omega) (Q7 h0),Q0 (by omega) (Q7 h1),⟨_,_,hI2⟩,hcl⟩
       | some tv=>
        obtain ⟨t,v⟩:=tv
        obtain ⟨y1,y2,y3⟩:=hI.yes _ t v hT
        have hne:t≠jb:=fun e=>by subst e;rw[y2] at hB;cases hB
        have hnt0:t≠0:=fun e=>by subst e;rw[y2] at h0;cases h0
        have hnt1:t≠1:=fun e=>by subst e;rw[y2] at h1;cases h1
        have hnk:=idxN_le l k b.wd
        have hnl:=idx_len l k b.wd
        refine X43 hI.mp hgm ?_
        rw[y1]
        push_cast (maxSteps:=999999) -implicitDefEqProofs (disch:=omega)[hρ]
        refine ⟨Q8 (by push_cast (maxSteps:=999999) -implicitDefEqProofs (disch:=omega)[hρ,hB,g1,QC]),?_⟩
        refine Qf (sz:=1) (by intro a ha;simp at ha;subst ha;rfl) (by simp) ?_
        push_cast (maxSteps:=999999) -implicitDefEqProofs (disch:=omega)[hρ,hkc,List.append_nil]
        refine ⟨Q8 (by push_cast (maxSteps:=999999) -implicitDefEqProofs (disch:=omega)[hρ,hB,g1,QC]),?_⟩
        refine Z08 (m:=1) rfl rfl rfl rfl (by simp) (by omega) (by omega) y2 ?_
        push_cast (maxSteps:=999999) -implicitDefEqProofs (disch:=omega)[hρ]
        refine ⟨Q8 (by push_cast (maxSteps:=999999) -implicitDefEqProofs (disch:=omega)[hρ,Q0 hne hB,g1,QC]),?_⟩
        refine Yb (Q0 y3 hI.mp) (putM_A _ _ _) ?_
        push_cast (maxSteps:=999999) -implicitDefEqProofs (disch:=omega)
        have hI2:=hI.more (by rw[ew];exact hT)
        rw[ew] at hI2
        exact hN _ _ ⟨by push_cast (maxSteps:=999999) -implicitDefEqProofs (disch:=omega)[hρ],Q0 (by omega) (Q0 hnt0 h0),Q0 (by omega) (Q0 hnt1 h1),⟨_,_,hI2⟩,hcl⟩
      ·cases hT:T b.wd with
       | none=>
        refine Qf (sz:=1) (by intro a ha;simp at ha;subst ha;rfl) (by simp) ?_
        push_cast (maxSteps:=999999) -implicitDefEqProofs (disch:=omega)[hρ,hkc,List.append_nil]
        refine ⟨Q8 (by push_cast (maxSteps:=999999) -implicitDefEqProofs (disch:=omega)[hρ,hB,g1,QC]),Q8 (by push_cast (maxSteps:=999999) -implicitDefEqProofs (disch:=omega)[hρ,hB,g1,QC]),?_⟩
        refine X43 hI.mp hgm ?_
        rw[(hI.no _ hT).1,nilA_eq]
        push_cast (maxSteps:=999999) -implicitDefEqProofs (disch:=omega)[hρ]
        refine ⟨Q8 (by push_cast (maxSteps:=999999) -implicitDefEqProofs (disch:=omega)[hρ,hB,g1,QC]),?_⟩
        refine Q87 (m:=1) rfl rfl rfl rfl (by omega) (by omega) ?_
        push_cast (maxSteps:=999999) -implicitDefEqProofs (disch:=omega)[hρ]
        refine ⟨Q8 (by push_cast (maxSteps:=999999) -implicitDefEqProofs (disch:=omega)[hρ,Q7 hB,g1,QC]),?_⟩
        refine Yb (Q7 hI.mp) (putM_A _ _ _) ?_
        push_cast (maxSteps:=999999) -implicitDefEqProofs (disch:=omega)
        have hI2:=hI.first (by rw[ew];exact hT)
        rw[ew] at hI2
        exact hN _ _ ⟨by push_cast (maxSteps:=999999) -implicitDefEqProofs (disch:=omega)[hρ],Q0 (by omega) (Q7 h0),Q0 (by omega) (Q7 h1),⟨_,_,hI2⟩,hcl⟩
       | some tv=>
        obtain ⟨t,v⟩:=tv
        obtain ⟨y1,y2,y3⟩:=hI.yes _ t v hT
        have hne:t≠jb:=fun e=>by subst e;rw[y2] at hB;cases hB
        have hnt0:t≠0:=fun e=>by subst e;rw[y2] at h0;cases h0
        have hnt1:t≠1:=fun e=>by subst e;rw[y2] at h1;cases h1
        have hnk:=idxN_le l k b.wd
        have hnl:=idx_len l k b.wd
        refine Qf (sz:=1) (by intro a ha;simp at ha;subst ha;rfl) (by simp) ?_
        push_cast (maxSteps:=999999) -implicitDefEqProofs (disch:=omega)[hρ,hkc,List.append_nil]
        refine ⟨Q8 (by push_cast (maxSteps:=999999) -implicitDefEqProofs (disch:=omega)[hρ,hB,g1,QC]),Q8 (by push_cast (maxSteps:=999999) -implicitDefEqProofs (disch:=omega)[hρ,hB,g1,QC]),?_⟩
        refine X43 hI.mp hgm ?_
        rw[y1]
        push_cast (maxSteps:=999999) -implicitDefEqProofs (disch:=omega)[hρ]
        refine ⟨Q8 (by push_cast (maxSteps:=999999) -implicitDefEqProofs (disch:=omega)[hρ,hB,g1,QC]),?_⟩
        refine Z08 (m:=1) rfl rfl rfl rfl (by simp) (by omega) (by omega) y2 ?_
        push_cast (maxSteps:=999999) -implicitDefEqProofs (disch:=omega)[hρ]
        refine ⟨Q8 (by push_cast (maxSteps:=999999) -implicitDefEqProofs (disch:=omega)[hρ,Q0 hne hB,g1,QC]),?_⟩
        refine Yb (Q0 y3 hI.mp) (putM_A _ _ _) ?_
        push_cast (maxSteps:=999999) -implicitDefEqProofs (disch:=omega)
        have hI2:=hI.more (by rw[ew];exact hT)
        rw[ew] at hI2
        exact hN _ _ ⟨by push_cast (maxSteps:=999999) -implicitDefEqProofs (disch:=omega)[hρ],Q0 (by omega) (Q0 hnt0 h0),Q0 (by omega) (Q0 hnt1 h1),⟨_,_,hI2⟩,hcl⟩
     clear hρ ε h0 h1 hI
     rintro ε σ3 ⟨hρ,h0,h1,⟨T',A',hI⟩,hcl⟩
     push_cast (maxSteps:=999999) -implicitDefEqProofs (disch:=omega)[hρ]
     refine hN (k+1,T',A') _ _ ?_ (by simp only;omega)
     push_cast (maxSteps:=999999) -implicitDefEqProofs (disch:=omega)[hρ]
     refine ⟨by omega,h0,h1,hI,fun k' hk' i hi=>?_⟩
     by_cases e:k'=k
     ·subst e;exact hcl i hi
     ·exact hfc k' (by omega) i hi
    ·push_cast (maxSteps:=999999) -implicitDefEqProofs (disch:=omega)[hρ]
     refine hE _ _ ?_
     push_cast (maxSteps:=999999) -implicitDefEqProofs (disch:=omega)[hρ]
     exact ⟨h1,by rwa [show k=l.length by omega] at hfc⟩
   ·rintro ε σ h
    exact hN _ _ h
  clear hρ ε
  rintro ε σ ⟨hρ,h1,hfc⟩
  push_cast (maxSteps:=999999) -implicitDefEqProofs (disch:=omega)[hρ,fill3z]
  refine Q5 (n:=3) (l:=[AV.v (.int .i64 0),AV.v (.int .i64 0),AV.v (.int .i64 0)]) rfl rfl h1 (by decide) ?_
  have h1'':=Q4 (o:=Res.obj 0 [AV.v (.int .i64 0),AV.v (.int .i64 0),AV.v (.int .i64 0)]) h1
  rw[set3n]
  push_cast (maxSteps:=999999) -implicitDefEqProofs (disch:=omega)[hρ,h1'',cell3]
  exact fin _ ⟨0,0,0,false,0⟩ (.inr (.inr ⟨hc,hnb,none,hfc,rfl⟩))
 ·refine Q1 (fun ε σ=>(ε 2=.ref 1 0 0∧ε 6=.v (.int .i64 (chk xss)))∧σ=[.obj 0 (aDg xss nd l),.obj 0 [AV.v (.int .i64 0),AV.v (.int .i64 0),AV.v (.int .i64 0)]]) ?_ ?_
  ·intro N X R hN
   push_cast (maxSteps:=999999) -implicitDefEqProofs (disch:=omega)[hρ,d0]
   refine Q3 (Rx.X66 xss hs hs2) ?_
   rintro a rfl
   push_cast (maxSteps:=999999) -implicitDefEqProofs (disch:=omega)[hc,aInt]
   exact hN _ _ ⟨by push_cast (maxSteps:=999999) -implicitDefEqProofs (disch:=omega)[hρ],rfl⟩
  clear hρ ε
  rintro ε σ ⟨hρ,rfl⟩
  push_cast (maxSteps:=999999) -implicitDefEqProofs (disch:=omega)[hρ,hc,fill3z]
  refine Q5 (n:=3) (l:=[AV.v (.int .i64 0),AV.v (.int .i64 0),AV.v (.int .i64 0)]) rfl rfl rfl (by decide) ?_
  rw[set3n]
  push_cast (maxSteps:=999999) -implicitDefEqProofs (disch:=omega)[hρ,cell3]
  exact fin _ ⟨0,0,0,false,chk xss⟩ (.inl ⟨hc,rfl⟩)
end Go.Proofs.YtncdnegdlkmicaaGreat.Rc
namespace Go.Proofs.YtncdnegdlkmicaaGreat.Rc
set_option linter.unusedVariables false
set_option linter.unusedSimpArgs false
open Go Go.Kx Go.Proofs
open Go.Proofs.YtncdnegdlkmicaaGreat.Rx hiding Ql Q03 Qe QK mixed
open Go.Proofs.YtncdnegdlkmicaaGreat.St (Ac aAc Qt Z2 Q85 Z44 Nd aNd Zw X8)
def aAcs (l:List Ac):AV:=aSlN aAc l
theorem aAcs_pure (l:List Ac):(aAcs l).pure=true:=Q19 Q85 l
end Go.Proofs.YtncdnegdlkmicaaGreat.Rc
