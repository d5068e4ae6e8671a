/- Annotated values, part e: effects, statements, code and functions on annotated v -/
import Derived.Test.YtelibaobkcokdaaGreatTH2G06
namespace Go.Kx
set_option linter.unusedVariables false
set_option linter.unusedSimpArgs false
open Go
abbrev AEnv:=Nat→AV
def AEnv.set (ε:AEnv) (d:Nat) (a:AV):AEnv:=fun i=>if i=d then a else ε i
def AEnv.put (ε:AEnv) (d:Option Nat) (a:AV):AEnv:=match d with|some d=>ε.set d a|none=>ε
def evA (ε:AEnv):Operand→AV
 | .tmp t=>ε t
 | .const v=>absV v
 | .global g=>.v (.pointer (some ⟨g,0,none⟩))
 | .func f=>.fn (.func f) 0 []
def RelE (G:Gh) (ε:AEnv) (ρ:Env):Prop:=∀t,RelV G (ε t) (ρ t)
theorem RelE.mono {n:Nat} {G G':Gh} (h:Gh.le n G G') {ε:AEnv} {ρ:Env} (H:RelE G ε ρ):RelE G' ε ρ:=fun t=>(H t).mono h
theorem RelE.put {G:Gh} {ε:AEnv} {ρ:Env} (H:RelE G ε ρ) (d:Option Nat) {a:AV} {u:Value} (h:RelV G a u):RelE G (ε.put d a) (ρ.put d u):=by
 cases d with
 | none=>exact H
 | some d=>
  intro t;simp only[AEnv.put,AEnv.set,Env.put,Env.set];split
  ·exact h
  ·exact H t
theorem Y63 {G:Gh} {ε:AEnv} {ρ:Env} (H:RelE G ε ρ) (x:Operand):RelV G (evA ε x) (ev ρ x):=by
 cases x with
 | tmp t=>exact H t
 | const v=>exact RelV.absV G v
 | global g=>exact .v _
 | func f=>exact .fn (.func f) 0 [] [] rfl (fun i a u h=>by simp at h)
theorem evAs_rel {G:Gh} {ε:AEnv} {ρ:Env} (H:RelE G ε ρ) (xs:List Operand):RelL G (xs.map (evA ε)) (xs.map (ev ρ)):=by
 induction xs with
 | nil=>exact .nil G
 | cons x xs ih=>exact .cons (Y63 H x) ih
def FnG (P:Program) (f:FuncId) (as:List AV) (σ:St) (R:AV→St→Prop):Prop:=
 ∀(base:Heap) (G:Gh) (h:Heap) (vs:List Value),RelH base G h σ→RelL G as vs →
  FnC P f vs.toArray h fun r h'=>∃G' a σ',Gh.le base.size G G'∧RelH base G' h' σ'∧RelV G' a r∧R a σ'
def FnP (P:Program) (f:FuncId) (as:List AV) (Q:AV→Prop):Prop:=AV.pureL as=true∧FnG P f as [] fun a _=>a.pure=true∧Q a
theorem FnG.mono {P:Program} {f:FuncId} {as:List AV} {σ:St} {R R':AV→St→Prop} (H:FnG P f as σ R) (hr:∀a σ',R a σ'→R' a σ'):FnG P f as σ R':=
 fun base G h vs h1 h2=>(H base G h vs h1 h2).mono fun _ _ ⟨G',a,σ',k1,k2,k3,k4⟩=>⟨G',a,σ',k1,k2,k3,hr _ _ k4⟩
theorem FnP.at {P:Program} {f:FuncId} {as:List AV} {Q:AV→Prop} (H:FnP P f as Q) (σ:St):FnG P f as σ fun a σ'=>σ'=σ∧Q a:=by
 intro base G h vs hH hL;have hpu:=H.1;have hL0:RelL ⟨G.g,fun _ _=>none⟩ as vs:=⟨hL.1,fun i a u ha hu=>Y62 (hL.2 i a u ha hu) (ZD hpu ha)⟩
 have hH0:RelH h ⟨G.g,fun _ _=>none⟩ h []:=by
  refine ⟨hH.tab.keep hH.size hH.keep,Nat.le_refl _,fun _ _=>rfl,hH.st,fun i w cs hi=>by simp at hi,fun i w cs hi=>by simp at hi,fun i l hl=>?_,fun i j l m _ hl=>?_,(fun i w l hl=>by simp at hl),⟨fun i es _ hi=>by simp at hi,fun i j es es' l m _ _ _ hi=>by simp at hi⟩⟩
  ·have:=Q26 hl;simp at this
  ·have:=Q26 hl;simp at this
 refine (H.2 h _ h vs hH0 hL0).mono ?_;rintro r h' ⟨G',a,σ',k1,k2,k3,k4,k5⟩;have hs:=k2.size;have hle:Gh.le h.size G ⟨G'.g,G.T⟩:=⟨k1.g,fun _ _ _ h=>h,k1.old⟩;refine ⟨⟨G'.g,G.T⟩,a,σ,hle.weaken hH.size,?_,Y62 k3 k4,rfl,k5⟩;have hcell:∀b o,b < h.size→cellG (hp h') b o=cellG (hp h) b o:=by intro b o hb;unfold cellG hp;rw[k2.keep b hb]
 have hHs:=hH.size;refine ⟨hH.tab,by omega,fun b hb=>by rw[k2.keep b ka];exact hH.keep b hb,k2.st,?_,?_,?_,hH.disj,hH.bd,hH.maps.mono (fun _ _ _ h=>h) hle.g (fun _ _ _ h=>h) fun b en c hb=>by rw[k2.keep b (Array.getElem?_eq_some_iff.1 hb).1];exact hb⟩
 ·intro i w cs hi;obtain ⟨l,h1,h2,h3,h4,h5⟩:=hH.obj i w cs hi;refine ⟨l,h1,h2,h3,h4,fun j a ha=>?_⟩;obtain ⟨u,h6,h7⟩:=h5 j a ha;exact ⟨u,by rw[hcell _ _ (Z02 h6)];exact h6,h7.mono hle⟩
 ·intro i w cs hi;obtain ⟨l,h1,h2,h3⟩:=hH.frz i w cs hi;refine ⟨l,h1,h2,fun j a ha=>?_⟩;obtain ⟨u,h6,h7⟩:=h3 j a ha;exact ⟨u,hle.g _ _ _ h6,h7.mono hle⟩
 ·intro i l hl b o hh;obtain ⟨h1,h2,h3⟩:=hH.own i l hl b o hh;have hb:=h2.lt;refine ⟨h1,?_,?_⟩
  ·obtain ⟨c,E,fz,e1,e2⟩:=h2;exact ⟨c,E,fz,by rw[k2.keep b hb];exact e1,e2⟩
  ·show G'.g b o=none;rw[k1.old b o hb];exact h3
theorem FnG.fz {P:Program} {f:FuncId} {as:List AV} {σ:St} {R:AV→St→Prop} (H:FnG P f as σ fun a σ'=>∃is,R (a.res (freeze is σ')) (freeze is σ')):FnG P f as σ R:=by intro base G h vs h1 h2;refine (H base G h vs h1 h2).mono ?_;rintro r h' ⟨G',a,σ',k1,k2,k3,is,k4⟩;obtain ⟨G2,l2,H2⟩:=k2.freeze is;exact ⟨G2,_,_,k1.trans l2,H2,Y61 H2 (k3.mono l2),k4⟩
def weak (σ:St):List Bool→List AV→List AV
 | f::fs,a::as=>(if f then a.res σ else a)::weak σ fs as
 | _,as=>as
theorem weak_rel {base:Heap} {G:Gh} {h:Heap} {σ:St} (H:RelH base G h σ):∀(fs:List Bool) {as:List AV} {vs:List Value},RelL G as vs→RelL G (weak σ fs as) vs:=by
 intro fs
 induction fs with
 | nil=>intro as vs hL;simpa[weak] using hL
 | cons f fs ih=>
  intro as vs hL
  cases as with
  | nil=>simpa[weak] using hL
  | cons a as=>
   obtain ⟨u,us,rfl,h1,h2⟩:=hL.cons_inv;refine .cons ?_ (ih h2);cases f
   ·exact h1
   ·exact Y61 H h1
def repA (z:List AV) (c:Nat):List AV:=(List.replicate c z).flatten
def srcA (σ:St) (sz:Nat):AV→Option (Nat×List AV)
 | .sl n cs _=>some (n,cs)
 | .ms i w off n sz'=>if sz'=sz then match σ[i]? with
  | some (.obj w' cs)=>if w=w' then some (n,subA cs off (n * sz)) else none
  | some (.frz w' cs)=>if w=w' then some (n,subA cs off (n * sz)) else none
  | _=>none
  else none
 | .v (.string s)=>some (s.size,s.data.toList.map fun b=>.v (.int .u8 b.toNat))
 | _=>none
def AppA (σ:St) (sz:Nat) (m:Nat) (news:List AV) (K:AV→St→Prop):AV→Prop
 | .sl n cs t=>cs.length=n * sz∧match t with
  | .nil=>K (.sl (n+m) (cs++news) (.id σ.length 1 sz)) (σ++[.tail 1])∨(0 < m∧K (.ms σ.length 0 0 m sz) (σ++[.obj 0 news]))∨K (.sl (n+m) (cs++news) .none) σ
  | .full=>K (.sl (n+m) (cs++news) (.id σ.length 1 sz)) (σ++[.tail 1])∨K (.sl (n+m) (cs++news) .none) σ
  | .id i w s=>s=sz∧σ[i]?=some (.tail w)∧K (.sl (n+m) (cs++news) (.id i (w+1) sz)) (σ.set i (.tail (w+1)))
  | .none=>False
 | .ms i w off n s=>s=sz∧off=0∧∃cs,σ[i]?=some (.obj w cs)∧n * sz≤cs.length∧K (.ms i (w+1) 0 (n+m) sz) (σ.set i (.obj (w+1) (cs.take (n * sz)++news)))
 | _=>False
def AV.num:AV→Nat
 | .sl n _ _=>n
 | .ms _ _ _ n _=>n
 | _=>0
def getM (ck:CK) (z:AV) (k:Value):List (Value×AV)→Option AV
 | []=>some z
 | e::es=>match eqC ck k e.1 with
  | some true=>some e.2
  | some false=>getM ck z k es
  | none=>none
def putM (ck:CK) (k:Value) (x:AV):List (Value×AV)→Option (List (Value×AV))
 | []=>some [(k,x)]
 | e::es=>match eqC ck k e.1 with
  | some true=>if Instr.sameBits 10000 e.1 k=true then some ((k,x)::es) else none
  | some false=>(putM ck k x es).map (e::·)
  | none=>none
theorem getM_find {G:Gh} {ck:CK} {z:AV} {zv k:Value} {v:AV} (hz:RelV G z zv):∀{en:List MapEntry} {es:List (Value×AV)} {i:Nat},KvRel G en es→getM ck z k es=some v→∃q,findV ck k en i=some q∧RelV G v (match q with|some (_,e)=>e.val|none=>zv):=by
 intro en
 induction en with
 | nil=>
  intro es i hk h
  cases es with
  | nil=>simp[getM] at h;subst h;exact ⟨none,rfl,hz⟩
  | cons p es=>exact hk.elim
 | cons e en ih=>
  intro es i hk h
  cases es with
  | nil=>exact hk.elim
  | cons p es=>
   obtain ⟨e1,h2,h3⟩:=hk;simp only[getM,←e1] at h;simp only[findV]
   cases hb:eqC ck k e.key with
   | none=>rw[hb] at h;cases h
   | some b=>
    rw[hb] at h
    cases b with
    | true=>simp only[Option.some.injEq] at h;subst h;exact ⟨_,rfl,h2⟩
    | false=>exact ih h3 h
theorem putM_find {G:Gh} {ck:CK} {k xv:Value} {x:AV} (hx:RelV G x xv):∀{en:List MapEntry} {es:List (Value×AV)} {i:Nat} {ys:List (Value×AV)},KvRel G en es→putM ck k x es=some ys →
  (∃j e,findV ck k en i=some (some (i+j,e))∧Instr.sameBits 10000 e.key k=true∧KvRel G (en.modify j fun e=>{ e with key:=k,val:=xv }) ys)∨(findV ck k en i=some none∧∀c,KvRel G (en++[{ key:=k,val:=xv,born:=c }]) ys):=by
 intro en
 induction en with
 | nil=>
  intro es i ys hk h
  cases es with
  | nil=>simp[putM] at h;subst h;exact .inr ⟨rfl,fun c=>⟨rfl,hx,trivial⟩⟩
  | cons p es=>exact hk.elim
 | cons e en ih=>
  intro es i ys hk h
  cases es with
  | nil=>exact hk.elim
  | cons p es=>
   obtain ⟨e1,h2,h3⟩:=hk;simp only[putM,←e1] at h;simp only[findV]
   cases hb:eqC ck k e.key with
   | none=>rw[hb] at h;cases h
   | some b=>
    rw[hb] at h
    cases b with
    | true=>
     simp only at h;split at h
     ·rename_i hs;simp only[Option.some.injEq] at h;subst h;exact .inl ⟨0,e,rfl,hs,⟨rfl,hx,h3⟩⟩
     ·cases h
    | false=>
     simp only[Option.map_eq_some_iff] at h;obtain ⟨zs,hz,rfl⟩:=h;rcases ih (i:=i+1) h3 hz with ⟨j,e',h4,h5,h6⟩|⟨h4,h5⟩
     ·refine .inl ⟨j+1,e',by rw[show i+(j+1)=i+1+j by omega];exact h4,h5,?_⟩;rw[List.modify_succ_cons];exact ⟨e1,h2,h6⟩
     ·exact .inr ⟨h4,fun c=>⟨e1,h2,h5 c⟩⟩
def EF.awp0 (P:Program) (e:EF) (as:List AV) (σ:St) (K:AV→St→Prop):Prop:=
 match e,as with
 | .new _ z,[]=>K (.ref σ.length 0 0) (σ++[.obj 0 (z.map abs1)])
 | .box _,[a]=>K (.ref σ.length 0 0) (σ++[.obj 0 a.cells])∨K (.ep a.cells) σ
 | .st n,[.ref i w off,a]=>a.cells.length=n∧a.cells.all AV.one=true∧∃cs,σ[i]?=some (.obj w cs)∧off+n≤cs.length∧K (.v undef) (σ.set i (.obj w (setAtA cs off a.cells)))
 | .bsl _ sz,as=>(∀a∈as,a.cells.length=sz)∧as.length≤9223372036854775807 ∧
   (K (.sl as.length (as.flatMap AV.cells) .full) σ∨K (.ms σ.length 0 0 as.length sz) (σ++[.obj 0 (as.flatMap AV.cells)]))
 | .mks _ sz by_ z,[.v (.int _ l),.v (.int _ c)]=>z.length=sz∧0≤l∧l≤c∧c < 9223372036854775808∧by_ * c≤281474976710656 ∧
   K (.ms σ.length 0 0 l.toNat sz) (σ++[.obj 0 (repA (z.map abs1) c.toNat)])
 | .app _ sz by_ z,[x,y]=>z.length=sz∧∃m news,srcA σ sz y=some (m,news)∧news.length=m * sz∧news.all AV.one=true∧x.num+m≤9223372036854775807∧(x.num+m) * by_≤140737488355328∧AppA σ sz m news K x
 | .call f,as=>FnG P f as σ K
 | .callv,.fn (.func f) k xs::as=>fnOk P f=true∧FnG P f (xs.take k++as++xs.drop k) σ K
 | .mkm,[]=>K (.mp σ.length) (σ++[.map []])
 | .mup ck,[.mp i,.v k,x]=>∃es,σ[i]?=some (.map es)∧∃ys,putM ck k x es=some ys∧K (.v undef) (σ.set i (.map ys))
 | .mlk ck z,[.mp i,.v k]=>∃es,σ[i]?=some (.map es)∧∃v,getM ck (absV z) k es=some v∧K v σ
 | _,_=>False
def prepA:List (List Nat×List Bool)→List AV→St→List AV
 | [],as,_=>as
 | (is,fs)::ss,as,σ=>prepA ss (weak (freeze is σ) fs as) (freeze is σ)
def prepS:List (List Nat×List Bool)→St→St
 | [],σ=>σ
 | (is,_)::ss,σ=>prepS ss (freeze is σ)
def EF.awp (P:Program) (e:EF) (as:List AV) (σ:St) (K:AV→St→Prop):Prop:=∃ss,e.awp0 P (prepA ss as σ) (prepS ss σ) K
theorem EF.awp_of {P:Program} {e:EF} {as:List AV} {σ:St} {K:AV→St→Prop} (h:e.awp0 P as σ K):e.awp P as σ K:=⟨[],h⟩
theorem EF.awp_step {P:Program} {e:EF} {as:List AV} {σ:St} {K:AV→St→Prop} (is:List Nat) (fs:List Bool) (h:e.awp P (weak (freeze is σ) fs as) (freeze is σ) K):e.awp P as σ K:=by obtain ⟨ss,h⟩:=h;exact ⟨(is,fs)::ss,h⟩
theorem repA_rel {G:Gh} {z:List AV} {w:List Value} (h:RelL G z w) (c:Nat):RelL G (repA z c) (rep w c):=by
 unfold repA rep
 induction c with
 | zero=>exact .nil G
 | succ c ih=>simp only[List.replicate_succ,List.flatten_cons];exact h.append ih
theorem Y64 {G:Gh}:∀{as:List AV} {vs:List Value},RelL G as vs→RelL G (as.flatMap AV.cells) (vs.flatMap (·.cells.toList)):=by
 intro as
 induction as with
 | nil=>intro vs H;rw[H.nil_inv];exact .nil G
 | cons a as ih=>intro vs H;obtain ⟨u,us,rfl,h1,h2⟩:=H.cons_inv;simp only[List.flatMap_cons];exact h1.cells.append (ih h2)
theorem ones_rel {G:Gh} {as:List AV} {vs:List Value} (H:RelL G as vs) (h:as.all AV.one=true):∀v∈vs,v.oneCell'=true:=by
 intro v hv;obtain ⟨i,hi⟩:=List.mem_iff_getElem?.1 hv;have hlt:i < as.length:=by rw[←H.1];exact (List.getElem?_eq_some_iff.1 hi).1
 have ha:=List.getElem?_eq_getElem hlt;rw[List.all_eq_true] at h;exact (H.2 i _ _ ha hi).one (h _ (List.getElem_mem hlt))
theorem src_sound {base:Heap} {G:Gh} {h:Heap} {σ:St} (H:RelH base G h σ) {sz m:Nat} {y:AV} {news:List AV} {v:Value} (hs:srcA σ sz y=some (m,news)) (hm:news.length=m * sz) (hr:RelV G y v):
  ∃ws,srcV (hp h) sz v=some (m,ws)∧RelL G news ws:=by
 unfold srcA at hs;split at hs
 ·cases hs
  cases hr with
  | sl _ _ _ a cap vs h1 h2 h3 h4 h5 h6=>
   refine ⟨vs,?_,h1,h2⟩;rcases h5 with ⟨rfl,rfl⟩|⟨b,off,rfl,h5⟩
   ·cases a with
    | none=>rfl
    | some a=>
     obtain ⟨b,off,spot⟩:=a
     cases spot with
     | none=>simp[srcV,cellsG]
     | some s=>rfl
   ·simp only[srcV];have:=Z48 (g:=hp h) (b:=b) (l:=vs) (off:=off) (fun j u hu=>H.st _ _ _ (h5 j u hu));rw[h1,hm] at this;rw[this];rfl
 ·rename_i i w off n sz';split at hs
  ·rename_i hsz;subst hsz
   cases hr with
   | ms _ _ _ _ _ l cap h1 h2 h3 h4 h5=>
    have key:∀(cs:List AV),(∀j a,cs[j]?=some a→∃u,cellG (hp h) l.b (l.off+j)=some u∧RelV G a u)→some (n,subA cs off (n * sz'))=some (m,news)→∃ws,srcV (hp h) sz' (.slice (some ⟨l.b,l.off+off,none⟩) n cap)=some (m,ws)∧RelL G news ws:=by
     intro cs hcs e;obtain ⟨rfl,rfl⟩:n=m∧subA cs off (n * sz')=news:=by simpa using e
     obtain ⟨ws,e1,e2⟩:=RelL.choose (Q:=fun j u=>cellG (hp h) l.b (l.off+off+j)=some u) (cs:=subA cs off (n * sz')) (fun j a ha=>by
      simp only[subA,List.getElem?_take] at ha;split at ha
      ·rw[List.getElem?_drop] at ha;obtain ⟨u,hu,hr⟩:=hcs _ a ha;exact ⟨u,by rw[Nat.add_assoc];exact hu,hr⟩
      ·cases ha)
     refine ⟨ws,?_,e1⟩;simp only[srcV];have:=Z48 (g:=hp h) (b:=l.b) (l:=ws) (off:=l.off+off) e2;rw[e1.1,hm] at this;rw[this];rfl
    split at hs
    ·rename_i w' cs hi;split at hs
     ·rename_i hw;subst hw;obtain ⟨l',k1,k2,k3,k4,k5⟩:=H.obj _ _ _ hi;rw[h1] at k1;cases k1;exact key cs k5 hs
     ·cases hs
    ·rename_i w' cs hi;split at hs
     ·rename_i hw;subst hw;obtain ⟨l',k1,k2,k3⟩:=H.frz _ _ _ hi;rw[h1] at k1;cases k1;exact key cs (fun j a ha=>by obtain ⟨u,hu,hr⟩:=k3 j a ha;exact ⟨u,H.st _ _ _ hu,hr⟩) hs
     ·cases hs
    ·cases hs
  ·cases hs
 ·cases hs
  cases hr
  refine ⟨_,rfl,by simp,fun i a u ha hu=>?_⟩;simp only[List.getElem?_map,Option.map_eq_some_iff] at ha hu;obtain ⟨b,hb,rfl⟩:=ha;obtain ⟨c,hc,rfl⟩:=hu;rw[hb] at hc;cases hc;exact .v _
 ·cases hs
theorem Z74 (z:List Value) (c:Nat):(rep z c).length=c * z.length:=Y31 rfl c
theorem X13:∀(as cs:List AV) (off:Nat),(setAtA cs off as).length=cs.length:=by
 intro as
 induction as with
 | nil=>intro cs off;rfl
 | cons a as ih=>intro cs off;simp[setAtA,ih]
theorem setAtA_get:∀(as cs:List AV) (off:Nat),off+as.length≤cs.length→∀j,(setAtA cs off as)[j]?=if off≤j∧j < off+as.length then as[j - off]? else cs[j]?:=by
 intro as
 induction as with
 | nil=>intro cs off _ j;simp[setAtA];omega
 | cons a as ih=>
  intro cs off h j;simp only[List.length_cons] at h;simp only[setAtA];rw[ih _ _ eG];by_cases h1:off+1≤j∧j < off+1+as.length
  ·rw[if_pos h1,if_pos eG];rw[show j - off=(j - (off+1))+1 by omega,List.getElem?_cons_succ]
  ·rw[if_neg h1];by_cases h2:j=off
   ·subst h2;rw[if_pos ke];have:j < cs.length:=by omega
    simp[this]
   ·rw[if_neg (by simp only[List.length_cons];omega),List.getElem?_set_ne (Ne.symm h2)]
theorem app_sound {P:Program} {E:TypeId} {sz by_:Nat} {z:List Value} {base:Heap} {G:Gh} {h:Heap} {σ:St} (H:RelH base G h σ) {x:AV} {u v:Value} {m:Nat} {news:List AV} {ws:List Value} {K:AV→St→Prop} (hz:z.length=sz)
  (hsrc:srcV (hp h) sz v=some (m,ws)) (hr:RelL G news ws) (hm:news.length=m * sz) (hone:news.all AV.one=true) (hn:x.num+m≤9223372036854775807) (hb:(x.num+m) * by_≤140737488355328) (hx:RelV G x u) (hA:AppA σ sz m news K x):
  EF.wp P (.app E sz by_ z) [u,v] h fun r h'=>∃G' a σ',Gh.le base.size G G'∧RelH base G' h' σ'∧RelV G' a r∧K a σ':=by
 have hws:ws.length=m * sz:=by rw[hr.1,hm]
 have hwo:=ones_rel hr hone
 have tail:∀{base:Heap} {G:Gh} {σ:St} {n:Nat} {cs:List AV} {i w cap:Nat} {a:Option Addr},RelH base G h σ→RelL G news ws→σ[i]?=some (.tail w)→cs.length=n * sz→n+m≤9223372036854775807→(n+m) * by_≤140737488355328 →
   RelV G (.sl n cs (.id i w sz)) (.slice a n cap)→EF.wp P (.app E sz by_ z) [.slice a n cap,v] h fun r h'=>∃G' c σ',Gh.le base.size G G'∧RelH base G' h' σ'∧RelV G' c r∧c=.sl (n+m) (cs++news) (.id i (w+1) sz)∧σ'=σ.set i (.tail (w+1)):=by
  intro base G σ n cs i w cap a H hr hi hcs hn hb hx;have hli:∀l,G.T i w=some l→locOf G σ i=some l:=by intro l hl;unfold locOf;rw[hi];exact hl
  cases hx with
  | sl _ _ _ _ _ vs h1 h2 h3 h4 h5 h6=>
   obtain ⟨l,t1,t2,t3,t4,t5,t6⟩:=h6;refine ⟨m,ws,hsrc,hws,?_⟩;by_cases hfit:n+m≤cap
   ·rw[if_pos hfit];by_cases hnil:l.isnil=true
    ·rw[if_pos hnil] at t6;obtain ⟨rfl,rfl,rfl⟩:=t6;have hm0:m=0:=by omega
     subst hm0;have hw0:ws=[]:=List.eq_nil_of_length_eq_zero (by simpa using hws);have hn0:news=[]:=List.eq_nil_of_length_eq_zero (by simpa using hm);have hc0:cs=[]:=List.eq_nil_of_length_eq_zero (by simpa using hcs);subst hn0;subst hc0;obtain ⟨k1,k2⟩:=H.turn hi rfl (w+1) l (r':=.tail (w+1)) rfl ka (fun b o hh=>by rw[Loc.has,hnil] at hh;simp at hh) (fun j q _ _ b o hh=>by rw[Loc.has,hnil] at hh;simp at hh) (fun v ds hd=>by cases hd);have hv0:vs=[]:=List.eq_nil_of_length_eq_zero (by simpa using h1);refine ⟨_,_,_,k1,k2,?_,rfl,rfl⟩;exact .sl _ _ _ _ _ [] rfl (fun i a u h=>by simp at h) ka ka (.inl ⟨rfl,rfl⟩) ⟨l,Gh.Qo _ _ _ _,t2,t3,t4,t5,by rw[if_pos hnil];exact ⟨rfl,rfl,rfl⟩⟩
    ·have hnil':l.isnil=false:=by simpa using hnil
     rw[if_neg hnil] at t6;subst t6;simp only;obtain ⟨h',G',e,k1,k2,k3,k4⟩:=H.growTail hi t1 hnil' ws hwo (by have:(n+m) * sz≤cap * sz:=Nat.mul_le_mul_right _ hfit;rw[Nat.add_mul] at this;omega) (n+m);have hoff:l.off+n * sz=l.e:=by omega
     rw[hoff];refine ⟨h',e,G',_,_,k1,k2,?_,rfl,rfl⟩;have hrl:=(show RelL G cs vs from ⟨h1,h2⟩).mono k1 |>.append (hr.mono k1);refine .sl _ _ _ _ _ (vs++ws) hrl.1 hrl.2 hfit h4 (.inr ⟨_,_,rfl,?_⟩) ⟨_,k4,rfl,?_,t4,t5,?_⟩
     ·intro j y hy;by_cases hj:j < vs.length
      ·rw[List.getElem?_append_left hj] at hy;rcases h5 with ⟨_,rfl⟩|⟨b,off,e1,e2⟩
       ·simp at hj
       ·cases e1;exact k1.g _ _ _ (e2 j y hy)
      ·rw[List.getElem?_append_right ka] at hy;have:=k3 _ y hy
       rwa [show l.e+(j - vs.length)=l.off+j by omega] at this
     ·simp only[List.length_append];rw[hr.1];omega
     ·simp
   ·rw[if_neg hfit]
    have holds:srcV (hp h) sz (.slice a n cap)=some (n,vs):=by
     rcases h5 with ⟨rfl,rfl⟩|⟨b,off,rfl,h5⟩
     ·cases a with
      | none=>rfl
      | some a=>
       obtain ⟨b,off,spot⟩:=a
       cases spot with
       | none=>simp[srcV,cellsG]
       | some s=>rfl
     ·simp only[srcV];have:=Z48 (g:=hp h) (b:=b) (l:=vs) (off:=off) (fun j u hu=>H.st _ _ _ (h5 j u hu));rw[h1,hcs] at this;rw[this];rfl
    refine ⟨hn,hb,vs,holds,by rw[h1,hcs],?_⟩;intro c hc1 hc2;obtain ⟨G',k1,k2,k3,k4⟩:=H.moveTail hi (vs++ws) (rep z (c - (n+m))) E (n+m) c;refine ⟨G',_,_,k1,k2,?_,rfl,rfl⟩;have hrl:=(show RelL G cs vs from ⟨h1,h2⟩).mono k1 |>.append (hr.mono k1);refine .sl _ _ _ _ _ (vs++ws) hrl.1 hrl.2 hc1 ka (.inr ⟨_,_,rfl,k3⟩) ⟨_,k4,rfl,?_,rfl,?_,?_⟩
    ·simp only[List.length_append,Nat.zero_add,h1,hr.1]
    ·simp only[List.length_append,Nat.zero_add,h1,hcs,hws,Z74,hz,←Nat.add_mul];congr 1;omega
    ·simp
 have drop:∀{n cap:Nat} {cs:List AV} {t:Tok} {a:Option Addr},cs.length=n * sz→n+m≤9223372036854775807→(n+m) * by_≤140737488355328→n=cap→(∀s,a=some s→s.spot=none)→RelV G (.sl n cs t) (.slice a n cap) →
   EF.wp P (.app E sz by_ z) [.slice a n cap,v] h fun r h'=>∃G' c σ',Gh.le base.size G G'∧RelH base G' h' σ'∧RelV G' c r∧c=.sl (n+m) (cs++news) .none∧σ'=σ:=by
  intro n cap cs t a hcs hn hb hcap hsp hx
  cases hx with
  | sl _ _ _ _ _ vs h1 h2 h3 h4 h5 h6=>
   refine ⟨m,ws,hsrc,hws,?_⟩;by_cases hfit:n+m≤cap
   ·rw[if_pos hfit];have hm0:m=0:=by omega
    subst hm0;have hw0:ws=[]:=List.eq_nil_of_length_eq_zero (by simpa using hws);have hn0:news=[]:=List.eq_nil_of_length_eq_zero (by simpa using hm);subst hn0;subst hw0;have hrel:RelV G (.sl (n+0) (cs++[]) .none) (.slice a (n+0) cap):=by rw[List.append_nil];exact .sl _ _ _ _ _ vs h1 h2 h3 h4 h5 trivial
    rcases h5 with ⟨rfl,rfl⟩|⟨b,off,rfl,h5⟩
    ·cases a with
     | none=>exact ⟨G,_,_,.refl _ _,H,hrel,rfl,rfl⟩
     | some a=>
      obtain ⟨b,off,spot⟩:=a
      cases spot with
      | none=>exact ⟨h,rfl,G,_,_,.refl _ _,H,hrel,rfl,rfl⟩
      | some s=>exact absurd (hsp _ rfl) ke
    ·exact ⟨h,rfl,G,_,_,.refl _ _,H,hrel,rfl,rfl⟩
   ·rw[if_neg hfit]
    have holds:srcV (hp h) sz (.slice a n cap)=some (n,vs):=by
     rcases h5 with ⟨rfl,rfl⟩|⟨b,off,rfl,h5⟩
     ·cases a with
      | none=>rfl
      | some a=>
       obtain ⟨b,off,spot⟩:=a
       cases spot with
       | none=>simp[srcV,cellsG]
       | some s=>rfl
     ·simp only[srcV];have:=Z48 (g:=hp h) (b:=b) (l:=vs) (off:=off) (fun j u hu=>H.st _ _ _ (h5 j u hu));rw[h1,hcs] at this;rw[this];rfl
    refine ⟨hn,hb,vs,holds,by rw[h1,hcs],?_⟩;intro c hc1 hc2;obtain ⟨k1,k2,k3⟩:=H.newPub (vs++ws) (rep z (c - (n+m))) E;have hrl:=(show RelL G cs vs from ⟨h1,h2⟩).mono k1 |>.append (hr.mono k1);exact ⟨_,_,_,k1,k2,.sl (n+m) (cs++news) .none _ _ (vs++ws) hrl.1 hrl.2 hc1 ka (.inr ⟨_,_,rfl,k3⟩) trivial,rfl,rfl⟩
 unfold AppA at hA;split at hA
 ·rename_i n cs t;obtain ⟨hcs,hA⟩:=hA;simp only[AV.num] at hn hb;split at hA
  ·
   have hx':=hx
   cases hx' with
   | sl _ _ _ a cap vs h1 h2 h3 h4 h5 h6=>
    obtain ⟨rfl,rfl,rfl⟩:=h6;rcases hA with hA|⟨hmp,hA⟩|hA
    ·obtain ⟨G1,k1,k2,k3⟩:=H.newTail ⟨0,0,0,0,cs.length,0,true⟩ (fun b o hh=>by simp[Loc.has] at hh);have hc0:cs=[]:=List.eq_nil_of_length_eq_zero (by simpa using hcs);subst hc0;refine EF.wp_mono ?_ (tail (i:=σ.length) (w:=0) (cs:=[]) k2 (hr.mono k1) ke ke hn hb (.sl _ _ _ _ _ [] rfl (fun i a u h=>by simp at h) (Nat.le_refl _) ka (.inl ⟨rfl,rfl⟩) ⟨_,k3,rfl,rfl,rfl,by simp,by simp⟩));rintro r h' ⟨G',c,σ',g1,g2,g3,rfl,rfl⟩;exact ⟨G',_,_,k1.trans g1,g2,g3,by simpa using hA⟩
    ·refine ⟨m,ws,hsrc,hws,?_⟩;rw[if_neg ka];refine ⟨hn,hb,[],rfl,by simp,?_⟩;intro c hc1 hc2;obtain ⟨G',l,k1,k2,k3,k4,k5,k6,k7⟩:=H.newObj ws (rep z (c - (0+m))) news E hr;refine ⟨G',_,_,k1,by simpa using k2,?_,hA⟩;have:=RelV.ms (G:=G') σ.length 0 0 m sz l c k3 k6 ka ka (by rw[k5,k7,hws,Z74,hz,←Nat.add_mul];simp only[Nat.zero_add];congr 1;omega);rw[k4,k5] at this;simpa using this
    ·refine EF.wp_mono ?_ (drop hcs hn hb rfl (fun s hs=>by cases hs) hx);rintro r h' ⟨G',c,σ',g1,g2,g3,rfl,rfl⟩;exact ⟨G',_,_,g1,g2,g3,hA⟩
  ·
   have hx':=hx
   cases hx with
   | sl _ _ _ a cap vs h1 h2 h3 h4 h5 h6=>
    obtain ⟨rfl,b,off,rfl⟩:=h6;rcases hA with hA|hA
    rotate_left
    ·refine EF.wp_mono ?_ (drop hcs hn hb rfl (fun s hs=>by cases hs;rfl) hx');rintro r h' ⟨G',c,σ',g1,g2,g3,rfl,rfl⟩;exact ⟨G',_,_,g1,g2,g3,hA⟩
    obtain ⟨G1,k1,k2,k3⟩:=H.newTail ⟨b,off,n,n,off+cs.length,off+n * sz,false⟩ (fun b o hh=>by simp only[Loc.has] at hh;omega);refine EF.wp_mono ?_ (tail (i:=σ.length) (w:=0) k2 (hr.mono k1) ke hcs hn hb (.sl _ _ _ _ _ vs h1 (fun i a u ha hu=>(h2 i a u ha hu).mono k1) h3 h4 (h5.mono k1.g) ⟨_,k3,rfl,rfl,rfl,rfl,by simp⟩));rintro r h' ⟨G',c,σ',g1,g2,g3,rfl,rfl⟩;exact ⟨G',_,_,k1.trans g1,g2,g3,by simpa using hA⟩
  ·rename_i i w s;obtain ⟨rfl,hi,hA⟩:=hA;have hx':=hx
   cases hx with
   | sl _ _ _ a cap vs h1 h2 h3 h4 h5 h6=>refine EF.wp_mono ?_ (tail H hr hi hcs hn hb hx');rintro r h' ⟨G',c,σ',g1,g2,g3,rfl,rfl⟩;exact ⟨G',_,_,g1,g2,g3,hA⟩
  ·exact hA.elim
 ·rename_i i w off n s;obtain ⟨rfl,rfl,cs,hi,hnc,hA⟩:=hA;simp only[AV.num] at hn hb
  cases hx with
  | ms _ _ _ _ _ l cap h1 h2 h3 h4 h5=>
   obtain ⟨l',e1,e2,e3,e4,e5⟩:=H.obj _ _ _ hi;rw[h1] at e1;cases e1;refine ⟨m,ws,hsrc,hws,?_⟩
   obtain ⟨vs,f1,f2⟩:=RelL.choose (Q:=fun j u=>cellG (hp h) l.b (l.off+j)=some u) (cs:=cs.take (n * s)) (fun j a ha=>by
    simp only[List.getElem?_take] at ha;split at ha
    ·exact e5 j a ha
    ·cases ha)
   have hvl:vs.length=n * s:=by rw[f1.1];simp;omega
   by_cases hfit:n+m≤cap
   ·rw[if_pos hfit];simp only[Nat.add_zero];have hli:locOf G σ i=some l:=by unfold locOf;rw[hi];exact h1
    have hroom:(n+m) * s≤cap * s:=Nat.mul_le_mul_right _ hfit;rw[Nat.add_mul] at hroom;obtain ⟨h',e,S⟩:=Y59 ws (h:=h) (b:=l.b) (off:=l.off+n * s) (fun j hj=>(H.own i l hli l.b _ ⟨h2,rfl,by omega,by omega⟩).2.1) hwo
    have hst:=H.storeObj (cs':=cs.take (n * s)++news) hi h1 (off:=n * s) (vs:=ws) ka S (fun hz=>by subst hz;simp[stL] at e;exact e.symm) (by simp only[List.length_append,List.length_take,Nat.min_eq_left hnc,hm];omega) (fun j a ha=>by
     by_cases hj:j < n * s
     ·rw[List.getElem?_append_left eG] at ha;simp only[List.getElem?_take,hj,if_true] at ha;obtain ⟨u,hu,hv⟩:=e5 j a ha;exact ⟨u,by rw[S.old _ _ ka];exact hu,hv⟩
     ·rw[List.getElem?_append_right eG] at ha;simp only[List.length_take,Nat.min_eq_left hnc] at ha;obtain ⟨u,hu,hv⟩:=hr.get ha;refine ⟨u,?_,hv⟩;have:=S.new _ u hu
      rwa [show l.off+n * s+(j - n * s)=l.off+j by omega] at this)
    have hlt:i < σ.length:=(List.getElem?_eq_some_iff.1 hi).1;obtain ⟨G',k1,k2,k3⟩:=hst.bump (i:=i) (w:=w) (cs:=cs.take (n * s)++news) (by simp[hlt]) h1;refine ⟨h',e,G',_,_,k1,by simpa using k2,?_,hA⟩;have:=RelV.ms (G:=G') i (w+1) 0 (n+m) s l cap k3 h2 hfit h4 h5;simpa using this
   ·rw[if_neg hfit];refine ⟨hn,hb,vs,?_,hvl,?_⟩
    ·simp only[srcV,Nat.add_zero];have:=Z48 (g:=hp h) (b:=l.b) (l:=vs) (off:=l.off) f2;rw[hvl] at this;rw[this];rfl
    ·intro c hc1 hc2;obtain ⟨G',l',k1,k2,k3,k4,k5,k6,k7⟩:=H.moveObj hi (vs++ws) (rep z (c - (n+m))) (cs.take (n * s)++news) E (f1.append hr);refine ⟨G',_,_,k1,k2,?_,hA⟩;have:=RelV.ms (G:=G') i (w+1) 0 (n+m) s l' c k3 k6 hc1 ka (by rw[k5,k7,List.length_append,hvl,hws,Z74,hz,←Nat.add_mul,←Nat.add_mul];simp only[Nat.zero_add];congr 1;omega);rw[k4,k5] at this;simpa using this
 ·exact hA.elim
theorem ef_sound0 {P:Program} {base:Heap} {G:Gh} {h:Heap} {σ:St} (H:RelH base G h σ) {e:EF} {as:List AV} {vs:List Value} {K:AV→St→Prop} (hL:RelL G as vs) (he:e.awp0 P as σ K):
  e.wp P vs h fun r h'=>∃G' a σ',Gh.le base.size G G'∧RelH base G' h' σ'∧RelV G' a r∧K a σ':=by
 have one:∀{x:AV},RelL G [x] vs→∃u,vs=[u]∧RelV G x u:=by intro x H;obtain ⟨u,us,rfl,h1,H1⟩:=H.cons_inv;rw[H1.nil_inv];exact ⟨u,rfl,h1⟩
 have two:∀{x y:AV},RelL G [x,y] vs→∃u w,vs=[u,w]∧RelV G x u∧RelV G y w:=by intro x y H;obtain ⟨u,us,rfl,h1,H1⟩:=H.cons_inv;obtain ⟨w,ws,rfl,h2,H2⟩:=H1.cons_inv;rw[H2.nil_inv];exact ⟨u,w,rfl,h1,h2⟩
 unfold EF.awp0 at he;split at he
 ·
  rename_i T z;rw[hL.nil_inv];obtain ⟨G',l,k1,k2,k3,k4,k5,k6,k7⟩:=H.newObj z [] (z.map abs1) T (RelL.abs1s G z);refine ⟨G',_,_,k1,by simpa using k2,?_,he⟩;have:=RelV.ref (G:=G') σ.length 0 0 l k3 k6;rw[k4,k5] at this;exact this
 ·rename_i T a;obtain ⟨u,rfl,hu⟩:=one hL;rcases he with he|he
  ·obtain ⟨G',l,k1,k2,k3,k4,k5,k6,k7⟩:=H.newObj u.cells.toList [] a.cells T hu.cells;refine ⟨G',_,_,k1,by simpa using k2,?_,he⟩;have:=RelV.ref (G:=G') σ.length 0 0 l k3 k6;rw[k4,k5] at this;exact this
  ·obtain ⟨k1,k2,k3⟩:=H.newPub u.cells.toList [] T;refine ⟨_,_,_,k1,by simpa using k2,?_,he⟩;have hc:=hu.cells.mono k1;have:=RelV.ep (G:=G.pub h.size 0 u.cells.toList) a.cells u.cells.toList h.size 0 hc.1 hc.2 k3;exact this
 ·
  rename_i n i w off a;obtain ⟨u,v,rfl,hu,hv⟩:=two hL;obtain ⟨h1,h2,cs,hi,hin,hk⟩:=he
  cases hu with
  | ref _ _ _ l e1 e2=>
   obtain ⟨l',f1,f2,f3,f4,f5⟩:=H.obj _ _ _ hi;rw[e1] at f1;cases f1;have hli:locOf G σ i=some l:=by unfold locOf;rw[hi];exact e1
   have hcl:=hv.cells;have hlen:v.cells.toList.length=n:=by rw[hcl.1];exact h1
   obtain ⟨h',e,S⟩:=Y59 v.cells.toList (h:=h) (b:=l.b) (off:=l.off+off) (fun j hj=>(H.own i l hli l.b _ ⟨e2,rfl,by omega,by omega⟩).2.1) (ones_rel hcl h2);refine ⟨by simpa using hlen,h',e,G,_,_,.refl _ _,?_,.v _,hk⟩;refine H.storeObj hi e1 (off:=off) (vs:=v.cells.toList) ka S (fun hz=>by rw[hz] at e;simp[stL] at e;exact e.symm) (by rw[X13];exact f4) ?_;intro j b hb;rw[setAtA_get _ _ _ ka] at hb;split at hb
   ·obtain ⟨x,hx,hr⟩:=hcl.get hb;refine ⟨x,?_,hr⟩;have:=S.new _ x hx
    rwa [show l.off+off+(j - off)=l.off+j by omega] at this
   ·obtain ⟨x,hx,hr⟩:=f5 j b hb;refine ⟨x,?_,hr⟩;rw[S.old _ _ ka];exact hx
 ·
  rename_i E sz;obtain ⟨h1,h2,he⟩:=he;have hfl:=Y64 hL
  have hcl:∀v∈vs,v.cells.size=sz:=by
   intro v hv;obtain ⟨i,hi⟩:=List.mem_iff_getElem?.1 hv;have hlt:i < as.length:=by rw[←hL.1];exact (List.getElem?_eq_some_iff.1 hi).1
   have:=(hL.2 i _ _ (List.getElem?_eq_getElem hlt) hi).cells.1;rw[h1 _ (List.getElem_mem hlt)] at this;simpa using this
  have key:(∀v∈vs,v.cells.size=sz)∧∃G' a σ',Gh.le base.size G G'∧RelH base G' (h.push (.cells (vs.flatMap (·.cells.toList)).toArray E (0,0))) σ'∧RelV G' a (.slice (some ⟨h.size,0,none⟩) vs.length vs.length)∧K a σ':=by
   refine ⟨hcl,?_⟩;rcases he with he|he
   ·obtain ⟨k1,k2,k3⟩:=H.newPub (vs.flatMap (·.cells.toList)) [] E;refine ⟨_,_,_,k1,by simpa using k2,?_,he⟩;have hf2:=hfl.mono k1;rw[←hL.1];exact .sl _ _ _ _ _ _ hf2.1 hf2.2 (Nat.le_refl _) (by rw[hL.1];exact h2) (.inr ⟨_,_,rfl,k3⟩) ⟨rfl,_,_,rfl⟩
   ·obtain ⟨G',l,k1,k2,k3,k4,k5,k6,k7⟩:=H.newObj (vs.flatMap (·.cells.toList)) [] _ E hfl;refine ⟨G',_,_,k1,by simpa using k2,?_,he⟩;have:=RelV.ms (G:=G') σ.length 0 0 as.length sz l vs.length k3 k6 (by rw[hL.1];exact Nat.le_refl _) (by rw[hL.1];exact h2) (by rw[k5,k7,flat_cells vs hcl];simp);rw[k4,k5] at this;rw[←hL.1] at this ⊢;exact this
  cases vs<;>exact key
 ·
  rename_i E sz by_ z k l k' c;obtain ⟨u,v,rfl,hu,hv⟩:=two hL;cases hu;cases hv;obtain ⟨hz,h0,h1,h2,h3,hk⟩:=he;refine ⟨h0,h1,h2,h3,?_⟩;obtain ⟨G',loc,k1,k2,k3,k4,k5,k6,k7⟩:=H.newObj (rep z c.toNat) [] (repA (z.map abs1) c.toNat) E (repA_rel (RelL.abs1s G z) _);refine ⟨G',_,_,k1,by simpa using k2,?_,hk⟩;have:=RelV.ms (G:=G') σ.length 0 0 l.toNat sz loc c.toNat k3 k6 ka ka (by rw[k5,k7,Z74,hz];simp);rw[k4,k5] at this;exact this
 ·
  rename_i E sz by_ z x y;obtain ⟨u,v,rfl,hu,hv⟩:=two hL;obtain ⟨hz,m,news,hs,hm,hone,hn,hb,hA⟩:=he;obtain ⟨ws,hsrc,hr⟩:=src_sound H hs hm hv;exact app_sound H hz hsrc hr hm hone hn hb hu hA
 ·
  rename_i f;have key:FnC P f vs.toArray h fun r h'=>∃G' a σ',Gh.le base.size G G'∧RelH base G' h' σ'∧RelV G' a r∧K a σ':=he base G h vs H hL;cases vs<;>exact key
 ·rename_i f k xs as;obtain ⟨hok,hf⟩:=he;obtain ⟨u,us,rfl,hu,hus⟩:=hL.cons_inv
  cases hu with
  | fn _ _ _ ys e1 e2=>
   have hys:RelL G xs ys:=⟨e1,e2⟩;refine ⟨hok,?_⟩;have:=hf base G h (ys.take k++us++ys.drop k) H (((hys.take k).append hus).append (hys.drop k));have e:(ys.take k).toArray++us.toArray++(ys.drop k).toArray=(ys.take k++us++ys.drop k).toArray:=by simp
   rw[e];exact this
 ·
  rw[hL.nil_inv];obtain ⟨k1,k2⟩:=H.newMi (x:=.map []) (o:=.map #[] 0) rfl fun _=>trivial;exact ⟨_,_,_,k1,k2,.mp _ _ (Gh.Qo _ _ _ _) rfl,he⟩
 ·
  rename_i ck i k x;obtain ⟨u1,us1,rfl,hu1,H1⟩:=hL.cons_inv;obtain ⟨u2,u3,rfl,hu2,hu3⟩:∃u w,us1=[u,w]∧RelV G (.v k) u∧RelV G x w:=by obtain ⟨u,us,rfl,h1,H1⟩:=H1.cons_inv;obtain ⟨w,ws,rfl,h2,H2⟩:=H1.cons_inv;rw[H2.nil_inv];exact ⟨u,w,rfl,h1,h2⟩
  obtain ⟨es,hi,ys,hp,hk⟩:=he;cases hu2
  cases hu1 with
  | mp _ l h1 h2=>
   obtain ⟨l0,m1,_,_,_,ob,m4,m5⟩:=H.maps.mp i _ rfl hi;rw[h1] at m1;cases m1;obtain ⟨en,c,rfl,m5⟩:=m5.ofMap;refine ⟨en,c,m4,?_⟩;rcases putM_find hu3 (i:=0) m5 hp with ⟨j,e,f1,f2,f3⟩|⟨f1,f2⟩
   ·refine .inl ⟨0+j,e,f1,f2,G,_,_,.refl _ _,H.setMi rfl hi h1 (o':=.map (en.modify (0+j) fun e=>{ e with key:=k,val:=u3 }) c) rfl ?_,.v _,hk⟩;show KvRel _ _ _;rw[Nat.zero_add,Array.toList_modify];exact f3
   ·refine .inr ⟨f1,G,_,_,.refl _ _,H.setMi rfl hi h1 (o':=.map (en.push { key:=k,val:=u3,born:=c }) (c+1)) rfl ?_,.v _,hk⟩;show KvRel _ _ _;rw[Array.toList_push];exact f2 c
 ·
  rename_i ck z i k;obtain ⟨u,v,rfl,hu,hv⟩:=two hL;obtain ⟨es,hi,w,hg,hk⟩:=he;cases hv
  cases hu with
  | mp _ l h1 h2=>obtain ⟨l0,m1,_,_,_,ob,m4,m5⟩:=H.maps.mp i _ rfl hi;rw[h1] at m1;cases m1;obtain ⟨en,c,rfl,m5⟩:=m5.ofMap;obtain ⟨q,f1,f2⟩:=getM_find (RelV.absV G z) (i:=0) m5 hg;exact ⟨en,c,m4,q,f1,G,_,σ,.refl _ _,H,f2,hk⟩
 ·exact he.elim
theorem ef_sound {P:Program} {base:Heap} {G:Gh} {h:Heap} {σ:St} (H:RelH base G h σ) {e:EF} {as:List AV} {vs:List Value} {K:AV→St→Prop} (hL:RelL G as vs) (he:e.awp P as σ K):
  e.wp P vs h fun r h'=>∃G' a σ',Gh.le base.size G G'∧RelH base G' h' σ'∧RelV G' a r∧K a σ':=by
 obtain ⟨ss,he⟩:=he
 induction ss generalizing G σ as with
 | nil=>exact ef_sound0 H hL he
 | cons s ss ih=>obtain ⟨is,fs⟩:=s;obtain ⟨G1,k1,H1⟩:=H.freeze is;refine EF.wp_mono ?_ (ih H1 (weak_rel H1 fs (hL.mono k1)) he);rintro r h' ⟨G',a,σ',g1,g2,g3,g4⟩;exact ⟨G',a,σ',k1.trans g1,g2,g3,g4⟩
def gselA (a:AV) (want:Bool):Bool:=match a with
 | .v (.bool b)=>b==want
 | _=>false
theorem Y65 {G:Gh} {a:AV} {u:Value} (h:RelV G a u) (want:Bool):gsel u want=gselA a want:=by
 cases h with
 | v=>cases u<;>rfl
 | _=>rfl
def SOp.awp (P:Program) (s:SOp) (ε:AEnv) (σ:St) (K:AV→St→Prop):Prop:=
 match s with
 | .pur f xs=>∃a,f.av (xs.map (evA ε))=some a∧K a σ
 | .ld n x=>∃a,ldA n (evA ε x) σ=some a∧K a σ
 | .eff e xs=>e.awp P (xs.map (evA ε)) σ K
def SItem.awp (P:Program) (it:SItem) (ε:AEnv) (σ:St) (K:AV→St→Prop):Prop:=
 match it.guard with
 | none=>it.op.awp P ε σ K
 | some (s,want)=>if gselA (ε s) want then it.op.awp P ε σ K else K (.v undef) σ
def SItem.aholds (it:SItem) (ε:AEnv) (σ:St):Prop:=
 match it.op with
 | .ld n x=>((match it.guard with|none=>True|some (s,want)=>gselA (ε s) want=true)∧∃a,ldA n (evA ε x) σ=some a∧a.exact=true∧∀d,it.dst=some d→ε d=a) ∨
   (match it.guard with|none=>False|some (s,want)=>gselA (ε s) want=false∧∀d,it.dst=some d→ε d=.v undef)
 | _=>False
def goRA (P:Program):RT→AEnv→St→(AEnv→St→Prop)→Prop
 | .done,ε,σ,K=>K ε σ
 | .run it rest,ε,σ,K=>it.awp P ε σ fun a σ'=>goRA P rest (ε.put it.dst a) σ' K
 | .eff it held rest,ε,σ,K=>it.awp P ε σ fun a σ'=>(∀q∈held,q.aholds (ε.put it.dst a) σ')∧goRA P rest (ε.put it.dst a) σ' K
 | .both a b,ε,σ,K=>goRA P a ε σ K∧goRA P b ε σ K
def outA (outs:List Nat) (ρ ε:AEnv):AEnv:=outs.foldl (fun r d=>r.set d (ε d)) ρ
def GU (ε:AEnv) (σ:St) (ε':AEnv) (σ':St):Prop:=
 ∀(base:Heap) (G:Gh) (h:Heap) (ρ:Env),RelH base G h σ→RelE G ε ρ→∃G',Gh.le base.size G G'∧RelH base G' h σ'∧RelE G' ε' ρ
theorem GU.refl (ε:AEnv) (σ:St):GU ε σ ε σ:=fun _ G _ _ h1 h2=>⟨G,.refl _ _,h1,h2⟩
theorem GU.trans {ε1 ε2 ε3:AEnv} {σ1 σ2 σ3:St} (h:GU ε1 σ1 ε2 σ2) (k:GU ε2 σ2 ε3 σ3):GU ε1 σ1 ε3 σ3:=by intro base G h0 ρ h1 h2;obtain ⟨G1,a1,a2,a3⟩:=h base G h0 ρ h1 h2;obtain ⟨G2,b1,b2,b3⟩:=k base G1 h0 ρ a2 a3;exact ⟨G2,a1.trans b1,b2,b3⟩
def wpA (P:Program):SCode→(AEnv→St→Prop)→(Nat→AEnv→St→Prop)→(AEnv→St→Prop)→AEnv→St→Prop
 | .skip,K,_,_,ε,σ=>K ε σ
 | .reg t outs,K,_,_,ε,σ=>goRA P t ε σ fun ε' σ'=>K (outA outs ε ε') σ'
 | .seq a b,K,X,R,ε,σ=>wpA P a (fun ε σ=>wpA P b K X R ε σ) X R ε σ
 | .cond c a b,K,X,R,ε,σ=>∃t,evA ε c=.v (.bool t)∧((t=true→wpA P a K X R ε σ)∧(t=false→wpA P b K X R ε σ))
 | .block id c,K,X,R,ε,σ=>wpA P c K (fun j ε σ=>if j=id then K ε σ else X j ε σ) R ε σ
 | .loop c,_,X,R,ε,σ=>∃(α:Type) (I:α→AEnv→St→Prop) (μ:α→Nat) (x:α) (ε':AEnv) (σ':St),GU ε σ ε' σ'∧I x ε' σ'∧∀x ε σ,I x ε σ→wpA P c (fun ε' σ'=>∃x',I x' ε' σ'∧μ x' < μ x) X R ε σ
 | .exit id,_,X,_,ε,σ=>X id ε σ
 | .ret,_,_,R,ε,σ=>R ε σ
def Real (base:Heap) (G:Gh) (K:AEnv→St→Prop):Env→Heap→Prop:=fun ρ h=>∃G' ε σ,Gh.le base.size G G'∧RelH base G' h σ∧RelE G' ε ρ∧K ε σ
theorem Real.le {base:Heap} {G G':Gh} (h:Gh.le base.size G G') {K:AEnv→St→Prop} {ρ:Env} {h0:Heap} (H:Real base G' K ρ h0):Real base G K ρ h0:=by obtain ⟨G2,ε,σ,a,b,c,d⟩:=H;exact ⟨G2,ε,σ,h.trans a,b,c,d⟩
theorem sop_sound {P:Program} {base:Heap} {G:Gh} {h:Heap} {σ:St} {ε:AEnv} {ρ:Env} (H:RelH base G h σ) (E:RelE G ε ρ) {s:SOp} {K:AV→St→Prop} (hs:s.awp P ε σ K):
  s.wp P ρ h fun r h'=>∃G' a σ',Gh.le base.size G G'∧RelH base G' h' σ'∧RelV G' a r∧K a σ':=by
 cases s with
 | pur f xs=>obtain ⟨a,h1,h2⟩:=hs;obtain ⟨u,e1,e2⟩:=av_sound h1 (evAs_rel E xs);exact ⟨u,e1,G,a,σ,.refl _ _,H,e2,h2⟩
 | ld n x=>obtain ⟨a,h1,h2⟩:=hs;obtain ⟨u,e1,e2⟩:=Y60 H h1 (Y63 E x);exact ⟨u,e1,G,a,σ,.refl _ _,H,e2,h2⟩
 | eff e xs=>exact ef_sound H (evAs_rel E xs) hs
theorem Ym {P:Program} {base:Heap} {G:Gh} {h:Heap} {σ:St} {ε:AEnv} {ρ:Env} (H:RelH base G h σ) (E:RelE G ε ρ) {it:SItem} {K:AV→St→Prop} (hs:it.awp P ε σ K):
  it.wp P ρ h fun r h'=>∃G' a σ',Gh.le base.size G G'∧RelH base G' h' σ'∧RelV G' a r∧K a σ':=by
 obtain ⟨dst,guard,op⟩:=it
 cases guard with
 | none=>exact sop_sound H E hs
 | some g=>
  obtain ⟨s,want⟩:=g;have hs:if gselA (ε s) want then op.awp P ε σ K else K (.v undef) σ:=hs;show if gsel (ρ s) want then op.wp P ρ h _ else _;rw[Y65 (E s)];split at hs
  ·rename_i hc;rw[if_pos hc];exact sop_sound H E hs
  ·rename_i hc;rw[if_neg hc];exact ⟨G,_,σ,.refl _ _,H,.v _,hs⟩
theorem RelV_lit {G:Gh} {x u:Value} (h:RelV G (.v x) u):u=x:=by cases h;rfl
theorem holds_sound {base:Heap} {G:Gh} {h:Heap} {σ:St} {ε:AEnv} {ρ:Env} (H:RelH base G h σ) (E:RelE G ε ρ) {q:SItem} (hq:q.aholds ε σ):q.holds ρ h:=by
 obtain ⟨dst,guard,op⟩:=q
 cases op with
 | ld n x=>
  rcases hq with hq|hq
  ·obtain ⟨hg,a,h1,h2,h3⟩:=hq;obtain ⟨u,e1,e2⟩:=Y60 H h1 (Y63 E x);refine ⟨u,?_,fun d hd=>?_⟩
   ·cases guard with
    | none=>exact e1
    | some g=>obtain ⟨s,want⟩:=g;simp only[SItem.qval];rw[Y65 (E s),if_pos hg];exact e1
   ·have:=E d;rw[h3 d hd] at this;exact this.exact e2 h2
  ·cases guard with
   | none=>exact hq.elim
   | some g=>
    obtain ⟨s,want⟩:=g;obtain ⟨hg,h3⟩:=hq;refine ⟨undef,?_,fun d hd=>?_⟩
    ·simp only[SItem.qval];rw[Y65 (E s),if_neg (by rw[hg];simp)]
    ·have:=E d;rw[h3 d hd] at this;exact RelV_lit this
 | pur f xs=>exact hq.elim
 | eff e xs=>exact hq.elim
theorem Yn {P:Program} {base:Heap}:∀(t:RT) {G:Gh} {h:Heap} {σ:St} {ε:AEnv} {ρ:Env} {K:AEnv→St→Prop},RelH base G h σ→RelE G ε ρ→goRA P t ε σ K→goR P t ρ h (Real base G K):=by
 intro t
 induction t with
 | done=>intro G h σ ε ρ K H E hk;exact ⟨G,ε,σ,.refl _ _,H,E,hk⟩
 | run it rest ih=>intro G h σ ε ρ K H E hk;refine SItem.wp_mono ?_ (Ym H E hk);rintro r h' ⟨G',a,σ',l,H',hr,hk'⟩;exact goR_mono_real l (ih H' ((E.mono l).put it.dst hr) hk')
 | eff it held rest ih=>intro G h σ ε ρ K H E hk;refine SItem.wp_mono ?_ (Ym H E hk);rintro r h' ⟨G',a,σ',l,H',hr,hheld,hk'⟩;have E':=(E.mono l).put it.dst hr;exact ⟨fun q hq=>holds_sound H' E' (hheld q hq),goR_mono_real l (ih H' E' hk')⟩
 | both a b iha ihb=>intro G h σ ε ρ K H E hk;exact ⟨iha H E hk.1,ihb H E hk.2⟩
where
 goR_mono {P:Program}:∀(t:RT) {ρ:Env} {h:Heap} {K K':Env→Heap→Prop},(∀ρ h,K ρ h→K' ρ h)→goR P t ρ h K→goR P t ρ h K':=by
  intro t
  induction t with
  | done=>intro ρ h K K' hk H;exact hk _ _ H
  | run it rest ih=>intro ρ h K K' hk H;exact SItem.wp_mono (fun v h' hv=>ih hk hv) H
  | eff it held rest ih=>intro ρ h K K' hk H;exact SItem.wp_mono (fun v h' hv=>⟨hv.1,ih hk hv.2⟩) H
  | both a b iha ihb=>intro ρ h K K' hk H;exact ⟨iha hk H.1,ihb hk H.2⟩
 goR_mono_real {P:Program} {base:Heap} {t:RT} {G G':Gh} {ρ:Env} {h:Heap} {K:AEnv→St→Prop} (l:Gh.le base.size G G') (H:goR P t ρ h (Real base G' K)):goR P t ρ h (Real base G K):=
  goR_mono t (fun _ _ hk=>hk.le l) H
theorem outA_rel {G:Gh} (outs:List Nat) {ρ1 ρ2:Env} {ε1 ε2:AEnv} (h1:RelE G ε1 ρ1) (h2:RelE G ε2 ρ2):RelE G (outA outs ε1 ε2) (outEnv outs ρ1 ρ2):=by
 unfold outA outEnv
 induction outs generalizing ρ1 ε1 with
 | nil=>exact h1
 | cons d outs ih=>simp only[List.foldl_cons];exact ih (h1.put (some d) (h2 d))
theorem Z75 {P:Program}:∀(c:SCode) {K K':Env→Heap→Prop} {X X':Nat→Env→Heap→Prop} {R R':Env→Heap→Prop} {ρ:Env} {h:Heap},(∀ρ h,K ρ h→K' ρ h)→(∀j ρ h,X j ρ h→X' j ρ h)→(∀ρ h,R ρ h→R' ρ h)→wpS P c K X R ρ h→wpS P c K' X' R' ρ h:=by
 intro c
 induction c with
 | skip=>intro K K' X X' R R' ρ h hk hx hr H;exact hk _ _ H
 | reg t outs=>intro K K' X X' R R' ρ h hk hx hr H;exact Yn.goR_mono t (fun _ _=>hk _ _) H
 | seq a b iha ihb=>intro K K' X X' R R' ρ h hk hx hr H;exact iha (fun _ _=>ihb hk hx hr) hx hr H
 | cond c a b iha ihb=>intro K K' X X' R R' ρ h hk hx hr ⟨t,h1,h2,h3⟩;exact ⟨t,h1,fun e=>iha hk hx hr (h2 e),fun e=>ihb hk hx hr (h3 e)⟩
 | block id c ih=>
  intro K K' X X' R R' ρ h hk hx hr H;refine ih hk (fun j ρ h hj=>?_) hr H;split at hj
  ·rename_i hc;rw[if_pos hc];exact hk _ _ hj
  ·rename_i hc;rw[if_neg hc];exact hx _ _ _ hj
 | loop c ih=>intro K K' X X' R R' ρ h hk hx hr ⟨α,I,μ,x,h1,h2⟩;exact ⟨α,I,μ,x,h1,fun x ρ h hI=>ih (fun _ _ h=>h) hx hr (h2 x ρ h hI)⟩
 | exit id=>intro K K' X X' R R' ρ h hk hx hr H;exact hx _ _ _ H
 | ret=>intro K K' X X' R R' ρ h hk hx hr H;exact hr _ _ H
theorem wpA_sound {P:Program} {base:Heap}:∀(c:SCode) {G:Gh} {h:Heap} {σ:St} {ε:AEnv} {ρ:Env} {K:AEnv→St→Prop} {X:Nat→AEnv→St→Prop} {R:AEnv→St→Prop},
  RelH base G h σ→RelE G ε ρ→wpA P c K X R ε σ→wpS P c (Real base G K) (fun j=>Real base G (X j)) (Real base G R) ρ h:=by
 intro c
 induction c with
 | skip=>intro G h σ ε ρ K X R H E hk;exact ⟨G,ε,σ,.refl _ _,H,E,hk⟩
 | reg t outs=>intro G h σ ε ρ K X R H E hk;refine Yn.goR_mono t ?_ (Yn t H E hk);rintro ρ' h' ⟨G',ε',σ',l,H',E',hk'⟩;exact ⟨G',_,σ',l,H',outA_rel outs (E.mono l) E',hk'⟩
 | seq a b iha ihb=>intro G h σ ε ρ K X R H E hk;refine Z75 a ?_ (fun _ _ _ h=>h) (fun _ _ h=>h) (iha H E hk);rintro ρ' h' ⟨G',ε',σ',l,H',E',hk'⟩;exact Z75 b (fun _ _ h=>h.le l) (fun _ _ _ h=>h.le l) (fun _ _ h=>h.le l) (ihb H' E' hk')
 | cond c a b iha ihb=>intro G h σ ε ρ K X R H E ⟨t,h1,h2,h3⟩;have hv:=Y63 E c;rw[h1] at hv;refine ⟨t,by revert hv;generalize ev ρ c=w;intro hv;cases hv;rfl,fun e=>iha H E (h2 e),fun e=>ihb H E (h3 e)⟩
 | block id c ih=>
  intro G h σ ε ρ K X R H E hk;refine Z75 c (fun _ _ h=>h) (fun j ρ' h' hj=>?_) (fun _ _ h=>h) (ih H E hk);obtain ⟨G',ε',σ',l,H',E',hk'⟩:=hj;split at hk'
  ·rename_i hc;rw[if_pos hc];exact ⟨G',ε',σ',l,H',E',hk'⟩
  ·rename_i hc;rw[if_neg hc];exact ⟨G',ε',σ',l,H',E',hk'⟩
 | loop c ih=>intro G h σ ε ρ K X R H E ⟨α,I,μ,x,ε',σ',hgu,hI,hround⟩;obtain ⟨G1,l1,H1,E1⟩:=hgu base G h ρ H E;refine ⟨α,fun x=>Real base G (I x),μ,x,⟨G1,ε',σ',l1,H1,E1,hI⟩,?_⟩;rintro x ρ h ⟨G',ε',σ',l,H',E',hI'⟩;refine Z75 c ?_ (fun _ _ _ h=>h.le l) (fun _ _ h=>h.le l) (ih H' E' (hround x ε' σ' hI'));rintro ρ2 h2 ⟨G2,ε2,σ2,l2,H2,E2,x',k1,k2⟩;exact ⟨x',⟨G2,ε2,σ2,l.trans l2,H2,E2,k1⟩,k2⟩
 | exit id=>intro G h σ ε ρ K X R H E hk;exact ⟨G,ε,σ,.refl _ _,H,E,hk⟩
 | ret=>intro G h σ ε ρ K X R H E hk;exact ⟨G,ε,σ,.refl _ _,H,E,hk⟩
def initA (as:List AV):AEnv:=fun i=>as.getD i (.v undef)
def RV.av (ε:AEnv) (σ:St):RV→Option AV
 | .tmp t=>some (ε t)
 | .cell a n=>ldA n (ε a) σ
def resA (as:List AV):AV:=match as with|[a]=>a|as=>.tup as
def postA (res:List RV) (R:AV→St→Prop) (ε:AEnv) (σ:St):Prop:=∃as,res.mapM (RV.av ε σ)=some as∧R (resA as) σ
theorem res_sound {base:Heap} {G:Gh} {h:Heap} {σ:St} {ε:AEnv} {ρ:Env} (H:RelH base G h σ) (E:RelE G ε ρ):∀(res:List RV) {as:List AV},res.mapM (RV.av ε σ)=some as→∃vs,res.mapM (RV.val ρ h)=some vs∧RelL G as vs:=by
 intro res
 induction res with
 | nil=>intro as h1;simp at h1;subst h1;exact ⟨[],by simp,.nil G⟩
 | cons r res ih=>
  intro as h1;rw[List.mapM_cons] at h1;simp only[bind,Option.bind_eq_some_iff,pure,Option.some.injEq] at h1;obtain ⟨a,ha,as',has,rfl⟩:=h1;obtain ⟨vs,h2,h3⟩:=ih has
  obtain ⟨u,hu,hr⟩:∃u,RV.val ρ h r=some u∧RelV G a u:=by
   cases r with
   | tmp t=>simp[RV.av] at ha;subst ha;exact ⟨_,rfl,E t⟩
   | cell t n=>exact Y60 H ha (E t)
  refine ⟨u::vs,?_,.cons hr h3⟩;rw[List.mapM_cons,hu,h2];rfl
theorem fnG_enter {P:Program} {f:FuncId} {F:Fun} (hk:compF P f=some F) (hm:P.follows .mixedOrders=true) {as:List AV} {σ:St} {R:AV→St→Prop} (ha:as.length≤F.N)
  (H:wpA P F.code (postA F.res R) (fun _ _ _=>False) (postA F.res R) (initA as) σ):FnG P f as σ R:=by
 intro base G h vs hH hL;refine fn_enter hk hm (by rw[hL.1];exact ha) ?_
 have hE:RelE G (initA as) (initE vs):=by
  intro t;unfold initA initE;simp only[List.getD_eq_getElem?_getD];by_cases ht:t < as.length
  ·have h1:=List.getElem?_eq_getElem ht;have h2:vs[t]?=some (vs[t]'(by rw[hL.1];exact ht)):=List.getElem?_eq_getElem _;rw[h1,h2];exact hL.2 t _ _ h1 h2
  ·rw[List.getElem?_eq_none ka,List.getElem?_eq_none (by rw[hL.1];omega)];exact .v _
 have hpost:∀ρ h',Real base G (postA F.res R) ρ h'→post F.res (fun r h'=>∃G' a σ',Gh.le base.size G G'∧RelH base G' h' σ'∧RelV G' a r∧R a σ') ρ h':=by
  rintro ρ h' ⟨G',ε,σ',l,H',E',as',h1,h2⟩;obtain ⟨vs',h3,h4⟩:=res_sound H' E' F.res h1;refine ⟨vs',h3,G',_,σ',l,H',?_,h2⟩;unfold resA resV
  match as',vs',h4 with
  | [],vs',h4=>rw[h4.nil_inv];exact .tup [] [] rfl (fun i a u h=>by simp at h)
  | [a],vs',h4=>obtain ⟨u,us,rfl,h5,h6⟩:=h4.cons_inv;rw[h6.nil_inv];exact h5
  | a::b::cs,vs',h4=>obtain ⟨u,us,rfl,h5,h6⟩:=h4.cons_inv;obtain ⟨w,ws,rfl,h7,h8⟩:=h6.cons_inv;exact .tup _ _ h4.1 h4.2
 exact Z75 _ hpost (fun _ _ _ ⟨_,_,_,_,_,_,h⟩=>h.elim) hpost (wpA_sound F.code hH hE H)
theorem fnP_enter {P:Program} {f:FuncId} {F:Fun} (hk:compF P f=some F) (hm:P.follows .mixedOrders=true) {as:List AV} {Q:AV→Prop} (ha:as.length≤F.N) (hp:AV.pureL as=true)
  (H:wpA P F.code (postA F.res fun a σ'=>∃is,(a.res (freeze is σ')).pure=true∧Q (a.res (freeze is σ'))) (fun _ _ _=>False) (postA F.res fun a σ'=>∃is,(a.res (freeze is σ')).pure=true∧Q (a.res (freeze is σ'))) (initA as) []):FnP P f as Q:=
 ⟨hp,FnG.fz (fnG_enter hk hm ha H)⟩
end Go.Kx
