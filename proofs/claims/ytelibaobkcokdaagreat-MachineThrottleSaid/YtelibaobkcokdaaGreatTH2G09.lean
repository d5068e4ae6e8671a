/- Annotated values, part l: what follows may be weakened; a piece of code, and the -/
import Derived.Test.YtelibaobkcokdaaGreatTH2G08
import Derived.ChangeArms
import Derived.OpenShut
import Derived.Test.YtelibaobkcokdaaGreatProg
import Derived.KernelRfl
namespace Go.Kx
set_option linter.unusedSectionVars false
set_option linter.unusedVariables false
set_option linter.unusedSimpArgs false
open Go
theorem AppA_mono {σ:St} {sz m:Nat} {news:List AV} {K K':AV→St→Prop} (hk:∀a σ,K a σ→K' a σ) {x:AV} (H:AppA σ sz m news K x):AppA σ sz m news K' x:=by
 unfold AppA at *;split at H
 ·refine ⟨H.1,?_⟩;have H2:=H.2;split at H2
  ·rcases H2 with h|⟨h0,h⟩|h
   ·exact .inl (hk _ _ h)
   ·exact .inr (.inl ⟨h0,hk _ _ h⟩)
   ·exact .inr (.inr (hk _ _ h))
  ·rcases H2 with h|h
   ·exact .inl (hk _ _ h)
   ·exact .inr (hk _ _ h)
  ·exact ⟨H2.1,H2.2.1,hk _ _ H2.2.2⟩
  ·exact H2
 ·obtain ⟨h1,h2,cs,h3,h4,h5⟩:=H;exact ⟨h1,h2,cs,h3,h4,hk _ _ h5⟩
 ·exact H
theorem EF.awp0_mono {P:Program} {e:EF} {aS:List AV} {σ:St} {K K':AV→St→Prop} (hk:∀a σ,K a σ→K' a σ) (H:e.awp0 P aS σ K):e.awp0 P aS σ K':=by
 unfold EF.awp0 at *;split at H
 ·exact hk _ _ H
 ·exact H.elim (fun h=>.inl (hk _ _ h)) fun h=>.inr (hk _ _ h)
 ·obtain ⟨h1,h2,cs,h3,h4,h5⟩:=H;exact ⟨h1,h2,cs,h3,h4,hk _ _ h5⟩
 ·obtain ⟨h1,h2,h3⟩:=H;exact ⟨h1,h2,h3.elim (fun h=>.inl (hk _ _ h)) fun h=>.inr (hk _ _ h)⟩
 ·obtain ⟨h1,h2,h3,h4,h5,h6⟩:=H;exact ⟨h1,h2,h3,h4,h5,hk _ _ h6⟩
 ·obtain ⟨h1,m,news,h2,h3,h4,h5,h6,h7⟩:=H;exact ⟨h1,m,news,h2,h3,h4,h5,h6,AppA_mono hk h7⟩
 ·exact FnG.mono H hk
 ·exact ⟨H.1,FnG.mono H.2 hk⟩
 ·exact hk _ _ H
 ·obtain ⟨es,h1,ys,h2,h3⟩:=H;exact ⟨es,h1,ys,h2,hk _ _ h3⟩
 ·obtain ⟨es,h1,v,h2,h3⟩:=H;exact ⟨es,h1,v,h2,hk _ _ h3⟩
 ·exact H.elim
theorem EF.awp_mono {P:Program} {e:EF} {aS:List AV} {σ:St} {K K':AV→St→Prop} (hk:∀a σ,K a σ→K' a σ) (H:e.awp P aS σ K):e.awp P aS σ K':=by obtain ⟨ss,H⟩:=H;exact ⟨ss,EF.awp0_mono hk H⟩
theorem SOp.awp_mono {P:Program} {s:SOp} {ε:AEnv} {σ:St} {K K':AV→St→Prop} (hk:∀a σ,K a σ→K' a σ) (H:s.awp P ε σ K):s.awp P ε σ K':=by
 cases s with
 | pur f xs=>obtain ⟨v,h1,h2⟩:=H;exact ⟨v,h1,hk _ _ h2⟩
 | ld n x=>obtain ⟨v,h1,h2⟩:=H;exact ⟨v,h1,hk _ _ h2⟩
 | eff e xs=>exact EF.awp_mono hk H
theorem SItem.awp_mono {P:Program} {it:SItem} {ε:AEnv} {σ:St} {K K':AV→St→Prop} (hk:∀a σ,K a σ→K' a σ) (H:it.awp P ε σ K):it.awp P ε σ K':=by
 obtain ⟨dst,guard,op⟩:=it
 cases guard with
 | none=>exact SOp.awp_mono hk H
 | some g=>
  obtain ⟨s,want⟩:=g;have H:if gselA (ε s) want then op.awp P ε σ K else K (.v undef) σ:=H;show if gselA (ε s) want then op.awp P ε σ K' else K' (.v undef) σ;split at H
  ·rename_i hc;rw[if_pos hc];exact SOp.awp_mono hk H
  ·rename_i hc;rw[if_neg hc];exact hk _ _ H
theorem goRA_mono {P:Program}:∀(t:RT) {K K':AEnv→St→Prop} {ε:AEnv} {σ:St},(∀ε σ,K ε σ→K' ε σ)→goRA P t ε σ K→goRA P t ε σ K':=by
 intro t
 induction t with
 | done=>intro K K' ε σ hk H;exact hk _ _ H
 | run it rest ih=>intro K K' ε σ hk H;exact SItem.awp_mono (fun a σ' h=>ih hk h) H
 | eff it held rest ih=>intro K K' ε σ hk H;exact SItem.awp_mono (fun a σ' h=>⟨h.1,ih hk h.2⟩) H
 | both a b iha ihb=>intro K K' ε σ hk H;exact ⟨iha hk H.1,ihb hk H.2⟩
theorem wpA_mono {P:Program}:∀(c:SCode) {K K':AEnv→St→Prop} {X X':Nat→AEnv→St→Prop} {R R':AEnv→St→Prop} {ε:AEnv} {σ:St},(∀ε σ,K ε σ→K' ε σ)→(∀j ε σ,X j ε σ→X' j ε σ)→(∀ε σ,R ε σ→R' ε σ)→wpA P c K X R ε σ→wpA P c K' X' R' ε σ:=by
 intro c
 induction c with
 | skip=>intro K K' X X' R R' ε σ hk hx hr H;exact hk _ _ H
 | reg t outs=>intro K K' X X' R R' ε σ hk hx hr H;exact goRA_mono t (fun _ _=>hk _ _) H
 | seq a b iha ihb=>intro K K' X X' R R' ε σ hk hx hr H;exact iha (fun _ _=>ihb hk hx hr) hx hr H
 | cond c a b iha ihb=>intro K K' X X' R R' ε σ hk hx hr ⟨t,h1,h2,h3⟩;exact ⟨t,h1,fun e=>iha hk hx hr (h2 e),fun e=>ihb hk hx hr (h3 e)⟩
 | block id c ih=>
  intro K K' X X' R R' ε σ hk hx hr H;refine ih hk (fun j ε σ hj=>?_) hr H;split at hj
  ·rename_i hc;rw[if_pos hc];exact hk _ _ hj
  ·rename_i hc;rw[if_neg hc];exact hx _ _ _ hj
 | loop c ih=>intro K K' X X' R R' ε σ hk hx hr ⟨α,I,μ,x,ε',σ',hg,h1,h2⟩;exact ⟨α,I,μ,x,ε',σ',hg,h1,fun x ε σ hI=>ih (fun _ _ h=>h) hx hr (h2 x ε σ hI)⟩
 | exit id=>intro K K' X X' R R' ε σ hk hx hr H;exact hx _ _ _ H
 | ret=>intro K K' X X' R R' ε σ hk hx hr H;exact hr _ _ H
section
variable {P:Program} {K:AEnv→St→Prop} {X:Nat→AEnv→St→Prop} {R:AEnv→St→Prop} {ε:AEnv} {σ:St}
theorem Qt {a b:SCode} (Q:AEnv→St→Prop) (h1:∀N:AEnv→St→Prop,(∀ε' σ',Q ε' σ'→act (N ε' σ'))→act (wpA P a N X R ε σ)) (h2:∀ε σ,Q ε σ→act (wpA P b K X R ε σ)):act (wpA P (.seq a b) K X R ε σ):=
 wpA_mono a (fun ε σ h=>h2 ε σ h) (fun _ _ _ h=>h) (fun _ _ h=>h) (h1 Q fun _ _ h=>h)
theorem Qc {a b:SCode} (Q:AEnv→St→Prop) (h1:∀(N:AEnv→St→Prop) (X':Nat→AEnv→St→Prop) (R':AEnv→St→Prop),(∀ε' σ',Q ε' σ'→act (N ε' σ'))→act (wpA P a N X' R' ε σ)) (h2:∀ε σ,Q ε σ→act (wpA P b K X R ε σ)):act (wpA P (.seq a b) K X R ε σ):=
 Qt Q (fun N hN=>h1 N X R hN) h2
theorem wpa_blx {id:Nat} {c:SCode} {K0:AEnv→St→Prop} {α:Type} (I:α→AEnv→St→Prop) (μ:α→Nat) (Q:AEnv→St→Prop) (x:α) (h0:I x ε σ)
  (hr:∀x ε σ (N E:AEnv→St→Prop) (X':Nat→AEnv→St→Prop) (R':AEnv→St→Prop),I x ε σ→(∀x' ε' σ',I x' ε' σ'→μ x' < μ x→act (N ε' σ'))→(∀ε' σ',Q ε' σ'→act (E ε' σ'))→act (wpA P c N (fun j ε σ=>if j=id then E ε σ else X' j ε σ) R' ε σ))
  (hK:∀ε σ,Q ε σ→act (K ε σ)):act (wpA P (.loop c) K0 (fun j ε σ=>if j=id then K ε σ else X j ε σ) R ε σ):=
 ZE I μ Q x h0 (fun x ε σ N E hI h1 h2=>hr x ε σ N E X R hI h1 h2) hK
theorem Y8 {id:Nat} {c:SCode} {K0:AEnv→St→Prop} {ε0:AEnv} {σ0:St} (g:GU ε σ ε0 σ0) {α:Type} (I:α→AEnv→St→Prop) (μ:α→Nat) (Q:AEnv→St→Prop) (x:α) (h0:I x ε0 σ0)
  (hr:∀x ε σ (N E:AEnv→St→Prop) (X':Nat→AEnv→St→Prop) (R':AEnv→St→Prop),I x ε σ→(∀x' ε' σ',I x' ε' σ'→μ x' < μ x→act (N ε' σ'))→(∀ε' σ',Q ε' σ'→act (E ε' σ'))→act (wpA P c N (fun j ε σ=>if j=id then E ε σ else X' j ε σ) R' ε σ))
  (hK:∀ε σ,Q ε σ→act (K ε σ)):act (wpA P (.loop c) K0 (fun j ε σ=>if j=id then K ε σ else X j ε σ) R ε σ):=
 wpa_blg g I μ Q x h0 (fun x ε σ N E hI h1 h2=>hr x ε σ N E X R hI h1 h2) hK
end
end Go.Kx
namespace Go.Kx
set_option linter.unusedVariables false
set_option linter.unusedSimpArgs false
open Go
inductive Sh where
 | int (k:IntKind)
 | bool
 | str
 | flt (k:FloatKind)
 | sl (n:Nat) (s:Sh)
 | st (fs:Sh)
 | arr (m n:Nat) (s:Sh)
 | fnil
 | fcons (n:Nat) (s fs:Sh)
mutual
def ShOk (P:Program):Sh→TypeId→Prop
 | .int k,t=>P.underlying t=some (.int k)
 | .bool,t=>P.underlying t=some .bool
 | .str,t=>P.underlying t=some .string
 | .flt k,t=>P.underlying t=some (.float k)
 | .sl n s,t=>∃e,P.underlying t=some (.slice e)∧P.cellsOf e=n∧0 < n∧ShOk P s e
 | .st fs,t=>∃l,P.underlying t=some (.struct l)∧ShFs P fs 0 l.toList (P.cellsOf t)
 | .arr m n s,t=>∃e,P.underlying t=some (.array m e)∧P.cellsOf e=n∧P.cellsOf t=m * n∧ShOk P s e
 | _,_=>False
def ShFs (P:Program):Sh→Nat→List Field→Nat→Prop
 | .fnil,off,[],total=>off=total
 | .fcons n s fs,off,f::l,total=>f.offset=off∧P.cellsOf f.type=n∧ShOk P s f.type∧ShFs P fs (off+n) l total
 | _,_,_,_=>False
end
def Enc:Sh→List AV→Prop
 | .int k,aS=>∃x,aS=[.v (.int k x)]∧(Lit.int k x).wf=true
 | .bool,aS=>∃b,aS=[.v (.bool b)]
 | .str,aS=>∃s:ByteArray,aS=[.v (.string s)]∧s.size≤9223372036854775807
 | .flt k,aS=>∃b,aS=[.v (.float k b)]∧(Lit.float k b).wf=true
 | .sl n s,aS=>∃css:List (List AV),aS=[.sl css.length css.flatten .none]∧css.length≤9223372036854775807∧∀c∈css,c.length=n∧Enc s c
 | .st fs,aS=>Enc fs aS
 | .arr m n s,aS=>∃css:List (List AV),aS=css.flatten∧css.length=m∧∀c∈css,c.length=n∧Enc s c
 | .fnil,aS=>aS=[]
 | .fcons n s fs,aS=>∃x y,aS=x++y∧x.length=n∧Enc s x∧Enc fs y
theorem RelL.flatten {G:Gh}:∀{css:List (List AV)} {vss:List (List Value)},vss.length=css.length→(∀(i:Nat) (c:List AV) (u:List Value),css[i]?=some c→vss[i]?=some u→RelL G c u)→RelL G css.flatten vss.flatten:=by
 intro css
 induction css with
 | nil=>intro vss h _;have:vss=[]:=List.eq_nil_of_length_eq_zero ey;subst this;exact .nil G
 | cons c css ih=>
  intro vss h hr
  cases vss with
  | nil=>simp at h
  | cons v vss=>simp only[List.flatten_cons];exact (hr 0 c v rfl rfl).append (ih ey (fun i c u hc hu=>hr (i+1) c u (by simpa using hc) (by simpa using hu)))
theorem Yq {α β:Type} {n:Nat} {Q:Nat→α→β→Prop} (h:∀i,i < n→∃a b,Q i a b):∃(aS:List α) (bs:List β),aS.length=n∧bs.length=n∧∀i a b,aS[i]?=some a→bs[i]?=some b→Q i a b:=by
 induction n with
 | zero=>exact ⟨[],[],rfl,rfl,fun i a b h=>by simp at h⟩
 | succ n ih=>
  obtain ⟨aS,bs,h1,h2,h3⟩:=ih (fun i hi=>h i ka);obtain ⟨a,b,hab⟩:=h n ka;refine ⟨aS++[a],bs++[b],by simp[h1],by simp[h2],fun i x y hx hy=>?_⟩;by_cases hi:i < n
  ·rw[List.getElem?_append_left ka] at hx hy;exact h3 i x y hx hy
  ·have hin:i=n:=by have:=(List.getElem?_eq_some_iff.1 hx).1;simp at this;omega
   subst hin;rw[List.getElem?_append_right ka] at hx hy;simp[h1,h2] at hx hy;subst hx;subst hy;exact hab
theorem flatten_at {α:Type} {n:Nat}:∀{vss:List (List α)},(∀v∈vss,v.length=n)→∀{i:Nat} {u:α},vss.flatten[i]?=some u→∃k j v,i=k * n+j∧j < n∧vss[k]?=some v∧v[j]?=some u:=by
 intro vss
 induction vss with
 | nil=>intro _ i u h;simp at h
 | cons v vss ih=>
  intro hn i u h;have hv:=hn v ke;simp only[List.flatten_cons] at h;by_cases hi:i < v.length
  ·rw[List.getElem?_append_left hi] at h;exact ⟨0,i,v,by omega,by omega,rfl,h⟩
  ·rw[List.getElem?_append_right ka] at h;obtain ⟨k,j,w,h1,h2,h3,h4⟩:=ih (fun w hw=>hn w (by simp[hw])) h;refine ⟨k+1,j,w,?_,h2,by simpa using h3,h4⟩;rw[Nat.succ_mul];omega
theorem ShFs_le {P:Program}:∀{s:Sh} {off:Nat} {l:List Field} {total:Nat},ShFs P s off l total→off≤total:=by
 intro s
 induction s with
 | fnil=>intro off l total h;cases l with|nil=>exact Nat.le_of_eq h|cons f l=>exact h.elim
 | fcons n s fs _ ih=>intro off l total h;cases l with|nil=>exact h.elim|cons f l=>have:=ih h.2.2.2;omega
 | _=>intro off l total h;cases l<;>exact h.elim
theorem chunks {α:Type} {n:Nat}:∀{m:Nat} {l:List α},l.length=m * n→l=((List.range m).map fun i=>(l.drop (i * n)).take n).flatten:=by
 intro m
 induction m with
 | zero=>intro l h;simp at h;subst h;rfl
 | succ m ih=>
  intro l h;rw[Nat.succ_mul] at h;have h1:=ih (l:=l.take (m * n)) eG;rw[List.range_succ,List.map_append,List.flatten_append];have h2:((List.range m).map fun i=>(l.drop (i * n)).take n)=(List.range m).map fun i=>((l.take (m * n)).drop (i * n)).take n:=by apply List.map_congr_left;intro i hi;have hi:i < m:=List.mem_range.1 hi;have hle:(i+1) * n≤m * n:=Nat.mul_le_mul_right _ hi;rw[Nat.succ_mul] at hle;rw[List.drop_take,List.take_take,Nat.min_eq_left ka]
  rw[h2,←h1];simp only[List.map_cons,List.map_nil,List.flatten_cons,List.flatten_nil,List.append_nil];rw[List.take_of_length_le (l:=l.drop (m * n)) eG,List.take_append_drop]
theorem Y68 {H:Type} {enc:TypeId×Value→H} {P:Program} {w:World} {base:Nat} {held:Bool}:∀(s:Sh),
  (∀(t:TypeId) (fuel:Nat) (cs:List Value) (x:DataW H×List MemPlace),ShOk P s t→DataW.trod enc P w base (fun _=>true) held fuel t cs=some x→∃aS,Enc s aS∧RelL (gAll w.heap) aS cs) ∧
  (∀(off total:Nat) (l:List Field) (fuel:Nat) (cs:List Value),ShFs P s off l total→cs.length=total→(∀f∈l,∃x,DataW.trod enc P w base (fun _=>true) held fuel f.type ((cs.drop f.offset).take (P.cellsOf f.type))=some x) →
   ∃aS,Enc s aS∧RelL (gAll w.heap) aS (cs.drop off)):=by
 intro s
 induction s with
 | int k=>refine ⟨fun t fuel cs x hs h=>?_,fun off total l fuel cs hs=>by cases l<;>exact hs.elim⟩;obtain ⟨n,rfl,_,hw⟩:=DataW.trod_int hs h;exact ⟨_,⟨n,rfl,hw⟩,.cons (.v _) (.nil _)⟩
 | bool=>refine ⟨fun t fuel cs x hs h=>?_,fun off total l fuel cs hs=>by cases l<;>exact hs.elim⟩;obtain ⟨b,rfl,_⟩:=DataW.trod_bool hs h;exact ⟨_,⟨b,rfl⟩,.cons (.v _) (.nil _)⟩
 | str=>
  refine ⟨fun t fuel cs x hs h=>?_,fun off total l fuel cs hs=>by cases l<;>exact hs.elim⟩;obtain ⟨s,rfl,_,hsz⟩:=DataW.trod_string hs h;have hmax:maxLen=9223372036854775807:=by decide
  exact ⟨_,⟨s,rfl,by omega⟩,.cons (.v _) (.nil _)⟩
 | flt k=>
  refine ⟨fun t fuel cs x hs h=>?_,fun off total l fuel cs hs=>by cases l<;>exact hs.elim⟩;have hs:P.underlying t=some (.float k):=hs
  cases fuel with
  | zero=>simp[DataW.trod] at h
  | succ n=>unfold DataW.trod at h;rw[hs] at h;split at h<;>simp_all;obtain ⟨⟨rfl,hw⟩,_⟩:=h;exact ⟨_,⟨_,rfl,hw⟩,.cons (.v _) (.nil _)⟩
 | sl n s ih=>
  refine ⟨fun t fuel cs x hs h=>?_,fun off total l fuel cs hs=>by cases l<;>exact hs.elim⟩;obtain ⟨e,ht,hn,h0,hse⟩:=hs;have hmax:maxLen=9223372036854775807:=by decide
  rcases DataW.trod_slice ht h with ⟨rfl,_⟩|⟨a,len,cap,elems,rest,m,rfl,rfl,rfl,hb,hl,hm,hlen,hel,_,_⟩
  ·exact ⟨_,⟨[],rfl,by simp,by simp⟩,.cons (.sl 0 [] .none none 0 [] rfl (fun i a u h=>by simp at h) (Nat.le_refl _) ka (.inl ⟨rfl,rfl⟩) trivial) (.nil _)⟩
  ·have each:∀i,i < len→∃(c:List AV) (v:List Value),(c.length=n∧Enc s c∧RelL (gAll w.heap) c v)∧∀j,j < n→w.cell? ((a.add (i * n)).add j)=v[j]?:=by
    intro i hi;have h1:=hel i hi;rw[hn] at h1;have h2:i < elems.length:=by omega
    rw[List.getElem?_eq_getElem h2] at h1;simp only[Option.bind_eq_some_iff] at h1;obtain ⟨v,hv,hx⟩:=h1;obtain ⟨_,hvl,hvc⟩:=World.cells?_some hv;obtain ⟨c,hc,hr⟩:=ih.1 e m v _ hse hx;exact ⟨c,v,⟨by rw[←hr.1,hvl],hc,hr⟩,hvc⟩
   obtain ⟨css,vss,e1,e2,e3⟩:=Yq each;have hvn:∀v∈vss,v.length=n:=by intro v hv;obtain ⟨i,hi⟩:=List.mem_iff_getElem?.1 hv;have hlt:=(List.getElem?_eq_some_iff.1 hi).1;have h1:=List.getElem?_eq_getElem (l:=css) (i:=i) ka;have:=(e3 i _ _ h1 hi).1;rw[this.2.2.1,this.1]
   refine ⟨_,⟨css,rfl,by omega,?_⟩,?_⟩
   ·intro c hc;obtain ⟨i,hi⟩:=List.mem_iff_getElem?.1 hc;have hlt:=(List.getElem?_eq_some_iff.1 hi).1;have h1:=List.getElem?_eq_getElem (l:=vss) (i:=i) ka;have:=(e3 i _ _ hi h1).1;exact ⟨this.1,this.2.1⟩
   ·have hfl:=RelL.flatten (G:=gAll w.heap) (css:=css) (vss:=vss) ka (fun i c u hc hu=>(e3 i c u hc hu).1.2.2);refine .cons ?_ (.nil _);rw[e1];refine .sl len _ .none (some a) cap vss.flatten hfl.1 hfl.2 hl ka ?_ trivial;by_cases hz:len=0
    ·left;refine ⟨hz,?_⟩;have:vss=[]:=List.eq_nil_of_length_eq_zero ka;rw[this];rfl
    ·right;have hspot:a.spot=none:=by have hv:=List.getElem?_eq_getElem (l:=vss) (i:=0) ka;have hc:=List.getElem?_eq_getElem (l:=css) (i:=0) ka;have h1:=(e3 0 _ _ hc hv).2 0 h0;have h2:vss[0].length=n:=hvn _ (List.getElem_mem _);rw[List.getElem?_eq_getElem ka] at h1;have:=(Q68 h1).1;simpa[Addr.add] using this
     refine ⟨a.block,a.off,by obtain ⟨b,o,s⟩:=a;simp only at hspot;subst hspot;rfl,?_⟩;intro i u hu;obtain ⟨k,j,v,rfl,hj,hk,hju⟩:=flatten_at hvn hu;have hkl:=(List.getElem?_eq_some_iff.1 hk).1;have hc:=List.getElem?_eq_getElem (l:=css) (i:=k) ka;have h1:=(e3 k _ _ hc hk).2 j hj;rw[hju,Yp a _ hspot,Yp _ _ rfl] at h1;have:=(Q68 h1).2;simp only at this;show cellG (hp w.heap) a.block (a.off+(k * n+j))=some u;rw[←Nat.add_assoc];exact this
 | st fs ih=>refine ⟨fun t fuel cs x hs h=>?_,fun off total l fuel cs hs=>by cases l<;>exact hs.elim⟩;obtain ⟨l,ht,hfs⟩:=hs;obtain ⟨xs,m,rfl,_,hlen,hxl,hat⟩:=DataW.trod_struct ht h;obtain ⟨aS,h1,h2⟩:=ih.2 0 _ l.toList m cs hfs hlen (fun f hf=>by obtain ⟨i,hi⟩:=List.mem_iff_getElem?.1 hf;have hlt:=(List.getElem?_eq_some_iff.1 hi).1;have h1:=hat i f (by simpa using hi);rw[List.getElem?_eq_getElem (by simp at hlt;omega)] at h1;exact ⟨_,h1⟩);exact ⟨aS,h1,by simpa using h2⟩
 | arr m n s ih=>
  refine ⟨fun t fuel cs x hs h=>?_,fun off total l fuel cs hs=>by cases l<;>exact hs.elim⟩;obtain ⟨e,ht,hn,htot,hse⟩:=hs;obtain ⟨xs,f,rfl,_,hlen,hxl,hat⟩:=DataW.trod_array ht h;rw[htot] at hlen;rw[hn] at hat
  have each:∀i,i < m→∃(c:List AV) (v:List Value),(c.length=n∧Enc s c∧RelL (gAll w.heap) c v)∧v=(cs.drop (i * n)).take n:=by intro i hi;have h1:=hat i hi;rw[List.getElem?_eq_getElem ka] at h1;obtain ⟨c,hc,hr⟩:=ih.1 e f _ _ hse h1;refine ⟨c,_,⟨?_,hc,hr⟩,rfl⟩;have hle:(i+1) * n≤m * n:=Nat.mul_le_mul_right _ hi;rw[Nat.succ_mul] at hle;rw[←hr.1,List.length_take,List.length_drop];omega
  obtain ⟨css,vss,e1,e2,e3⟩:=Yq each;refine ⟨_,⟨css,rfl,e1,?_⟩,?_⟩
  ·intro c hc;obtain ⟨i,hi⟩:=List.mem_iff_getElem?.1 hc;have hlt:=(List.getElem?_eq_some_iff.1 hi).1;have h1:=List.getElem?_eq_getElem (l:=vss) (i:=i) ka;have:=(e3 i _ _ hi h1).1;exact ⟨this.1,this.2.1⟩
  ·have hfl:=RelL.flatten (G:=gAll w.heap) (css:=css) (vss:=vss) ka (fun i c u hc hu=>(e3 i c u hc hu).1.2.2)
   have hv:vss=(List.range m).map fun i=>(cs.drop (i * n)).take n:=by
    apply List.ext_getElem?;intro i;by_cases hi:i < m
    ·have h1:=List.getElem?_eq_getElem (l:=vss) (i:=i) ka;have h2:=List.getElem?_eq_getElem (l:=css) (i:=i) ka;have:=(e3 i _ _ h2 h1).2;rw[h1,this];simp[hi]
    ·rw[List.getElem?_eq_none ka,List.getElem?_eq_none eG]
   rw[hv,←chunks hlen] at hfl;exact hfl
 | fnil=>
  refine ⟨fun t fuel cs x hs h=>hs.elim,fun off total l fuel cs hs hlen h=>?_⟩
  cases l with
  | nil=>have hs:off=total:=hs;exact ⟨[],rfl,by rw[List.drop_of_length_le ka];exact .nil _⟩
  | cons f l=>exact hs.elim
 | fcons n s fs ihs ihf=>
  refine ⟨fun t fuel cs x hs h=>hs.elim,fun off total l fuel cs hs hlen h=>?_⟩
  cases l with
  | nil=>exact hs.elim
  | cons f l=>obtain ⟨h1,h2,h3,h4⟩:=hs;obtain ⟨y,hy⟩:=h f ke;rw[h1,h2] at hy;obtain ⟨a,ha,hr⟩:=ihs.1 _ _ _ _ h3 hy;obtain ⟨b,hb,hr2⟩:=ihf.2 _ _ _ fuel cs h4 hlen (fun g hg=>h g (by simp[hg]));have hle:=ShFs_le h4;have hsum:=hr.append hr2;rw[←List.drop_drop,List.take_append_drop] at hsum;refine ⟨a++b,⟨a,b,rfl,?_,ha,hb⟩,hsum⟩;rw[←hr.1,List.length_take,List.length_drop];omega
end Go.Kx
namespace Go.Kx
set_option linter.unusedSectionVars false
set_option linter.unusedVariables false
set_option linter.unusedSimpArgs false
open Go
@[push_cast] theorem m_app_nil {α:Type} (l:List α):[]++l=l:=rfl
@[push_cast] theorem m_app_cons {α:Type} (a:α) (k l:List α):a::k++l=a::(k++l):=rfl
theorem fzn (S:St):Go.Kx.freeze [] S=S:=rfl
theorem Yr {α:Type} {l:List α} {k:Nat} {a:α} (h:l[k]?=some a):l.drop k=a::l.drop (k+1):=by obtain ⟨hk,rfl⟩:=List.getElem?_eq_some_iff.1 h;exact List.drop_eq_getElem_cons hk
theorem Q23 {α:Type} {l:List α} {k:Nat} (h:k < l.length):∃a,l[k]?=some a:=⟨_,List.getElem?_eq_getElem h⟩
theorem Qh {α:Type} {l:List α} {i:Nat} {a:α} (h:l[i]?=some a):i < l.length:=(List.getElem?_eq_some_iff.1 h).1
theorem Qp {α:Type} {l:List α} {k:Nat} {a:α} (h:l[k]?=some a):l.take (k+1)=l.take k++[a]:=by rw[List.take_add_one,h];rfl
theorem Y69 {α:Type} {P:List α→Prop} (h0:P []) (hs:∀xs l,P xs→P (xs++[l])) (xs:List α):P xs:=by
 have:∀ys:List α,P ys.reverse:=by
  intro ys
  induction ys with
  | nil=>exact h0
  | cons y ys ih=>rw[List.reverse_cons];exact hs _ _ ih
 have:=this xs.reverse
 rwa [List.reverse_reverse] at this
theorem Q36 {α:Type} {f:α→List AV} {n:Nat} (hf:∀x,(f x).length=n) (l:List α):(l.flatMap f).length=l.length * n:=by
 induction l with
 | nil=>simp
 | cons a l ih=>simp only[List.flatMap_cons,List.length_append,ih,hf,List.length_cons,Nat.succ_mul];omega
theorem QQ {α:Type} {f:α→List AV} {n:Nat} (hf:∀x,(f x).length=n) {l:List α}:∀{k:Nat} {a:α},l[k]?=some a→(l.flatMap f).drop (k * n)=f a++(l.drop (k+1)).flatMap f:=by
 induction l with
 | nil=>intro k a h;simp at h
 | cons b l ih=>
  intro k a h
  cases k with
  | zero=>simp at h;subst h;simp
  | succ k=>
   have:=ih (k:=k) (a:=a) ey;have e:(k+1) * n=n+k * n:=by rw[Nat.succ_mul];omega
   rw[e,List.flatMap_cons,←List.drop_drop];have e2:(f b++l.flatMap f).drop n=l.flatMap f:=by rw[List.drop_append,List.drop_of_length_le (by rw[hf];omega),hf];simp
   rw[e2,this];simp
theorem both2 {A B:Prop} (h:act A) (k:act B):act (A∧B):=⟨h,k⟩
theorem aholds_ldg {d c:Nat} {w:Bool} {n:Option Nat} {x:Operand} {ε:AEnv} {σ:St} {a:AV} (hc:ε c=.v (.bool w)) (h:ldA n (evA ε x) σ=some a) (he:a.exact=true) (hd:ε d=a):SItem.aholds ⟨some d,some (c,w),.ld n x⟩ ε σ:=
 .inl ⟨by show gselA (ε c) w=true;rw[hc];simp[gselA],a,h,he,fun e he'=>by cases he';exact hd⟩
theorem Q20 {α:Type} {l:List α} {i:Nat} {a:α} (h:l[i]?=some a):l.set i a=l:=by obtain ⟨_,he⟩:=List.getElem?_eq_some_iff.1 h;rw[←he];simp
theorem Qa {σ:St} {i j:Nat} {r o:Res} (hij:i≠j) (h:σ[j]?=some r):(σ.set i o)[j]?=some r:=by rw[List.getElem?_set_ne hij];exact h
theorem Qb {σ:St} {i:Nat} {r o:Res} (h:σ[i]?=some r):(σ.set i o)[i]?=some o:=by rw[List.getElem?_set,if_pos rfl,if_pos (Qh h)]
theorem Qn {σ τ:St} {j:Nat} {r:Res} (h:σ[j]?=some r):(σ++τ)[j]?=some r:=by rw[List.getElem?_append_left (Qh h)];exact h
section
variable {P:Program} {σ:St} {K:AV→St→Prop}
theorem wpa_mkm (hk:act (K (.mp σ.length) (σ++[.map []]))):act (EF.awp P .mkm [] σ K):=EF.awp_of hk
theorem Y70 {ck:CK} {i:Nat} {k:Value} {x:AV} {es ys:List (Value×AV)} (hi:σ[i]?=some (.map es)) (hp:putM ck k x es=some ys) (hk:act (K (.v undef) (σ.set i (.map ys)))):act (EF.awp P (.mup ck) [.mp i,.v k,x] σ K):=
 EF.awp_of ⟨es,hi,ys,hp,hk⟩
theorem Xm {ck:CK} {z k:Value} {v:AV} {i:Nat} {es:List (Value×AV)} (hi:σ[i]?=some (.map es)) (hg:getM ck (absV z) k es=some v) (hk:act (K v σ)):act (EF.awp P (.mlk ck z) [.mp i,.v k] σ K):=
 EF.awp_of ⟨es,hi,v,hg,hk⟩
end
theorem enc_sl {α:Type} {f:α→List AV} {n:Nat} {s:Sh} (hs:∀c,Enc s c→∃x:α,c=f x) {cs:List AV} (h:Enc (.sl n s) cs):∃l:List α,cs=[aSlN f l]∧l.length≤9223372036854775807:=by
 obtain ⟨css,rfl,hl,hc⟩:=h
 have:∃l:List α,css=l.map f:=by
  clear hl
  induction css with
  | nil=>exact ⟨[],rfl⟩
  | cons c css ih=>obtain ⟨l,hl⟩:=ih fun d hd=>hc d (by simp[hd]);obtain ⟨x,hx⟩:=hs c (hc c ke).2;exact ⟨x::l,by rw[hl,hx];rfl⟩
 obtain ⟨l,rfl⟩:=this;exact ⟨l,by simp[aSlN,List.flatMap],by simpa using hl⟩
theorem flat_one {α:Type} (f:α→AV):∀l:List α,l.flatMap (fun x=>[f x])=l.map f:=by
 intro l
 induction l with
 | nil=>rfl
 | cons a l ih=>rw[List.flatMap_cons,ih];rfl
def shN:Sh:=.int .i64
theorem Q27 {c:List AV} (h:Enc shN c):∃x:Int,c=[aInt x]∧-9223372036854775808≤x∧x≤9223372036854775807:=by
 obtain ⟨x,rfl,hx⟩:=h;refine ⟨x,rfl,?_⟩;have:decide (IntKind.min .i64≤x)=true∧decide (x≤IntKind.max .i64)=true:=by simpa[Lit.wf] using hx
 exact ⟨of_decide_eq_true this.1,of_decide_eq_true this.2⟩
theorem enc_sl1 {α:Type} {f:α→AV} {s:Sh} (hs:∀c,Enc s c→∃x:α,c=[f x]) {cs:List AV} (h:Enc (.sl 1 s) cs):∃l:List α,cs=[aSl f l]∧l.length≤9223372036854775807:=by obtain ⟨l,rfl,hl⟩:=enc_sl (f:=fun x=>[f x]) hs h;exact ⟨l,by simp only[aSlN,aSl,flat_one],hl⟩
theorem wz:((∀i:Decidable True,@decide True i=true)∧(∀i:Decidable False,@decide False i=false)∧(!true)=false∧(!false)=true∧(∀b:Bool,(!!b)=b) ∧
  (∀(α:Type) (a:α),(some a).isNone=false)∧(∀α:Type,(none:Option α).isNone=true)) ∧
  ((∀(α:Type) (l:List α),l.drop 0=l)∧(∀(α:Type) (a:α) (l:List α) (i:Nat),(a::l).drop (i+1)=l.drop i)∧(∀(α:Type) (a:α) (l:List α),(a::l)[0]?=some a)∧(∀(α:Type) (a:α) (l:List α) (i:Nat),(a::l)[i+1]?=l[i]?) ∧
  (∀(α:Type) (a:α) (l:List α),(a::l).length=l.length+1)∧(∀α:Type,([]:List α).length=0)∧(∀(α:Type) (a:α) (l:List α) (i:Nat),(a::l).take (i+1)=a::l.take i)∧(∀(α:Type) (l:List α),l.take 0=[]) ∧
  (∀(α β:Type) (f:α→β) (l:List α) (i:Nat),(l.map f)[i]?=l[i]?.map f)∧(∀(α:Type) (l:List α) (i j:Nat),(l.drop i)[j]?=l[i+j]?)∧(∀(α:Type) (l:List α) (i j:Nat),(l.take i)[j]?=if j < i then l[j]? else none) ∧
  (∀(α β:Type) (f:α→β) (l:List α),(l.map f).length=l.length)∧(∀(α β:Type) (f:α→β) (a:α),(some a).map f=some (f a))∧(∀(α:Type) (a b:α) (l:List α),(a::l).set 0 b=b::l)∧(∀(α:Type) (a b:α) (l:List α) (i:Nat),(a::l).set (i+1) b=a::l.set i b) ∧
  (∀(α β:Type) (f:α→List β) (a:α) (l:List α),(a::l).flatMap f=f a++l.flatMap f)∧(∀(α β:Type) (f:α→List β),([]:List α).flatMap f=[])) ∧
  ((∀n:Nat,n * 1=n)∧(∀n:Nat,0+n=n)∧(∀n:Nat,n+0=n)∧(∀n:Nat,1 * n=n)∧(∀n:Nat,0 * n=0)∧(∀p:Prop,(p∧True)=p)∧(∀p:Prop,(True∧p)=p)):=by
 refine ⟨⟨by simp,by simp,rfl,rfl,by simp,fun _ _=>rfl,fun _=>rfl⟩,⟨fun _ _=>rfl,fun _ _ _ _=>rfl,fun _ _ _=>rfl,fun _ _ _ _=>rfl,fun _ _ _=>rfl,fun _=>rfl,fun _ _ _ _=>rfl,fun _ _=>by simp,fun _ _ _ _ _=>by simp,fun _ _ _ _=>by simp,fun _ _ _ _=>List.getElem?_take,
  fun _ _ _ _=>by simp,fun _ _ _ _=>rfl,fun _ _ _ _=>rfl,fun _ _ _ _ _=>rfl,fun _ _ _ _ _=>by simp,fun _ _ _=>rfl⟩,⟨by simp,by simp,by simp,by simp,by simp,by simp,by simp⟩⟩
end Go.Kx
attribute [push_cast] eq_self iff_self Go.Kx.wz
namespace Go.Proofs.YtelibaobkcokdaaGreat
set_option linter.unusedVariables false
set_option linter.unusedSimpArgs false
open Go Go.Kx Go.Proofs
structure Ix where
 op:Int
 a:Int
 b:Int
 c:Int
 deriving DecidableEq
def tgtX (x:Ix):Option Int:=if x.op=18 then some x.a else if x.op=19 then some x.b else none
def endsX (x:Ix):Bool:=decide (x.op=0∨x.op=18∨x.op=25)
structure Rt (l:List Ix):Prop where
 pos:0 < l.length
 tg:∀(i:Nat) (x:Ix) (t:Int),l[i]?=some x→tgtX x=some t→0≤t∧t < l.length
 last:∀x:Ix,l[l.length - 1]?=some x→endsX x=true
end Go.Proofs.YtelibaobkcokdaaGreat
namespace Go.Kx
set_option linter.unusedVariables false
set_option linter.unusedSimpArgs false
open Go
theorem str_ext {a b:ByteArray} (h:a.data.toList=b.data.toList):a=b:=by cases a;cases b;simp at h;simp[h]
theorem str_beq (a b:ByteArray):(a.toList==b.toList)=decide (a=b):=by rw[ByteArray.toList_eq,ByteArray.toList_eq,Bool.eq_iff_iff];simp only[beq_iff_eq,decide_eq_true_eq];exact ⟨str_ext,fun h=>by rw[h]⟩
@[push_cast] theorem pv_str_eq (a b:ByteArray):PF.val (.bin .eql) [.string a,.string b]=some (.bool (decide (a=b))):=by simp[PF.val,binV,binS,str_beq]
theorem pv_str_ix {s:ByteArray} {k:IntKind} {i:Int} {b:UInt8} (h0:0≤i) (h:s.data.toList[i.toNat]?=some b):PF.val .ixs [.string s,.int k i]=some (.int .u8 b.toNat):=by simp only[PF.val,if_pos h0,h];rfl
@[push_cast] theorem pv_sls_lh (s:ByteArray) (k k':IntKind) (i j:Int) (h0:0≤i) (h1:i≤j) (h2:j≤s.size):PF.val (.sls true true) [.string s,.int k i,.int k' j]=some (.string (s.extract i.toNat j.toNat)):=by simp[PF.val,loHi,Y6 s.size k' j ka h2,Y6 j.toNat k i h0 ka]
theorem str_size (s:ByteArray):s.size=s.data.toList.length:=by cases s;rfl
theorem str_one {s:ByteArray} {i:Nat} {b:UInt8} (h:s.data.toList[i]?=some b):s.extract i (i+1)=⟨#[b]⟩:=by apply str_ext;rw[ByteArray.data_extract,Array.toList_extract,List.extract_eq_take_drop];have:s.data.toList.drop i=b::s.data.toList.drop (i+1):=Yr h;rw[this,show i+1 - i=1 by omega];rfl
theorem Ys {P:Program} {a b:SCode} {K:AEnv→St→Prop} {X:Nat→AEnv→St→Prop} {R:AEnv→St→Prop} {ε:AEnv} {σ:St} (h:∀N:AEnv→St→Prop,N=(fun ε σ=>wpA P b K X R ε σ)→act (wpA P a N X R ε σ)):act (wpA P (.seq a b) K X R ε σ):=h _ rfl
theorem ZF {P:Program} {id:Nat} {c:SCode} {K:AEnv→St→Prop} {X:Nat→AEnv→St→Prop} {R:AEnv→St→Prop} {ε:AEnv} {σ:St} (h:∀X':Nat→AEnv→St→Prop,X'=(fun j ε σ=>if j=id then K ε σ else X j ε σ)→act (wpA P c K X' R ε σ)):act (wpA P (.block id c) K X R ε σ):=h _ rfl
end Go.Kx
namespace Go.Kx
set_option linter.unusedSectionVars false
set_option linter.unusedVariables false
set_option linter.unusedSimpArgs false
open Go
def isK:SItem→Bool
 | ⟨some d,none,.ld _ (.tmp t)⟩=>d != t
 | _=>false
def sameLd:SItem→SItem→Bool
 | ⟨some d,none,.ld n (.tmp t)⟩,⟨some d',none,.ld n' (.tmp t')⟩=>d==d'&&n==n'&&t==t'
 | _,_=>false
def indep (dst:Option Nat):SItem→Bool
 | ⟨some d,none,.ld _ (.tmp t)⟩=>dst != some d&&dst != some t
 | _=>false
def isAlloc (it:SItem):Bool:=it.guard.isNone&&match it.op with|.eff (.new _ _) _=>true|.eff (.bsl _ _) _=>true|_=>false
def RT.slim:RT→List SItem→RT
 | .done,_=>.done
 | .run it rest,kn=>.run it (rest.slim (if it.isEff then [] else if isK it then it::kn.filter (indep it.dst) else kn.filter (indep it.dst)))
 | .eff it held rest,kn=>
  if isAlloc it then .eff it (held.filter fun q=>!(kn.filter (indep it.dst)).any (sameLd · q)) (rest.slim (kn.filter (indep it.dst)))
  else .eff it held (rest.slim [])
 | .both a b,kn=>.both (a.slim kn) (b.slim kn)
def SCode.slim:SCode→SCode
 | .reg t outs=>.reg (t.slim []) outs
 | .seq a b=>.seq a.slim b.slim
 | .cond c a b=>.cond c a.slim b.slim
 | .block id c=>.block id c.slim
 | .loop c=>.loop c.slim
 | c=>c
def Fun.slim (F:Fun):Fun:={ F with code:=F.code.slim }
theorem sameLd_eq {a b:SItem} (h:sameLd a b=true):a=b:=by
 unfold sameLd at h;split at h
 ·simp only[Bool.and_eq_true,beq_iff_eq] at h;obtain ⟨⟨rfl,rfl⟩,rfl⟩:=h;rfl
 ·cases h
theorem Y36 {dst:Option Nat} {k:SItem} (h:indep dst k=true):∃d n t,k=⟨some d,none,.ld n (.tmp t)⟩∧dst≠some d∧dst≠some t:=by
 unfold indep at h;split at h
 ·simp only[Bool.and_eq_true,bne_iff_ne] at h;exact ⟨_,_,_,rfl,h.1,h.2⟩
 ·cases h
theorem Q14 {ε:Env} {dst:Option Nat} {v:Value} {s:Nat} (h:dst≠some s):(ε.put dst v) s=ε s:=by
 cases dst with
 | none=>rfl
 | some d=>simp only[Env.put,Env.set];rw[if_neg];rintro rfl;exact h rfl
theorem holds_put {k:SItem} {dst:Option Nat} {v:Value} {ε:Env} {h:Heap} (hi:indep dst k=true) (hk:k.holds ε h):k.holds (ε.put dst v) h:=by
 obtain ⟨d,n,t,rfl,h1,h2⟩:=Y36 hi;obtain ⟨u,hu,hd⟩:=hk;refine ⟨u,?_,fun d' e=>?_⟩
 ·simp only[SItem.qval,SOp.qv,ev] at hu ⊢;rw[Q14 h2];exact hu
 ·cases e
  rw[Q14 h1];exact hd d rfl
theorem cellsG_push {h:Heap} {o:Obj} {b:Nat}:∀{n off:Nat} {l:List Value},cellsG (hp h) b off n=some l→cellsG (hp (h.push o)) b off n=some l:=by
 intro n
 induction n with
 | zero=>intro off l hl;exact hl
 | succ n ih=>
  intro off l hl;simp only[cellsG] at hl ⊢
  cases hc:cellG (hp h) b off with
  | none=>rw[hc] at hl;cases hl
  | some v=>
   rw[hc] at hl;rw[XF (Z02 hc),hc];simp only at hl ⊢
   cases hr:cellsG (hp h) b (off+1) n with
   | none=>rw[hr] at hl;cases hl
   | some r=>rw[ih hr];rw[hr] at hl;exact hl
theorem ldV_push {h:Heap} {o:Obj} {n:Option Nat} {u v:Value} (hv:ldV n u (hp h)=some v):ldV n u (hp (h.push o))=some v:=by
 unfold ldV at hv ⊢;split at hv
 ·split at hv
  ·rw[XF (Z02 hv)];exact hv
  ·simp only[Option.map_eq_some_iff] at hv ⊢;obtain ⟨l,h1,h2⟩:=hv;exact ⟨l,cellsG_push h1,h2⟩
 ·cases hv
theorem holds_push {k:SItem} {ε:Env} {h:Heap} {o:Obj} {dst:Option Nat} (hi:indep dst k=true) (hk:k.holds ε h):k.holds ε (h.push o):=by obtain ⟨d,n,t,rfl,_,_⟩:=Y36 hi;obtain ⟨u,hu,hd⟩:=hk;refine ⟨u,?_,hd⟩;simp only[SItem.qval,SOp.qv] at hu ⊢;exact ldV_push hu
theorem X14 {P:Program} {s:SOp} {ε:Env} {h:Heap} {K K':Value→Heap→Prop} (hk:∀v h,K v h→K' v h) (H:s.wp P ε h K):s.wp P ε h K':=by
 cases s with
 | pur f xs=>obtain ⟨v,h1,h2⟩:=H;exact ⟨v,h1,hk _ _ h2⟩
 | ld n x=>obtain ⟨v,h1,h2⟩:=H;exact ⟨v,h1,hk _ _ h2⟩
 | eff e xs=>exact EF.wp_mono hk H
theorem slim_sound {P:Program}:∀(rt:RT) (kn:List SItem) (ε:Env) (h:Heap) (K:Env→Heap→Prop),(∀q∈kn,q.holds ε h)→goR P (rt.slim kn) ε h K→goR P rt ε h K:=by
 intro rt
 induction rt with
 | done=>intro kn ε h K _ H;exact H
 | both a b iha ihb=>intro kn ε h K hk H;exact ⟨iha kn ε h K hk H.1,ihb kn ε h K hk H.2⟩
 | run it rest ih=>
  intro kn ε h K hk H;simp only[RT.slim,goR] at H ⊢;have key:∀v,(∀q∈kn.filter (indep it.dst),q.holds (ε.put it.dst v) h):=fun v q hq=>by obtain ⟨h1,h2⟩:=List.mem_filter.1 hq;exact holds_put h2 (hk q h1)
  have nn:∀(e:Env) (h':Heap),∀q∈([]:List SItem),q.holds e h':=fun _ _ q hq=>by simp at hq
  obtain ⟨dst,g,op⟩:=it
  cases op with
  | eff e xs=>
   have hE:SItem.isEff ⟨dst,g,.eff e xs⟩=true:=rfl;rw[hE,if_pos rfl] at H;unfold SItem.wp at H ⊢
   cases g with
   | none=>exact X14 (fun v h' H=>ih [] (ε.put dst v) h' K (nn _ _) H) H
   | some g=>
    simp only at H ⊢;split
    ·rename_i hs;rw[if_pos hs] at H;exact X14 (fun v h' H=>ih [] (ε.put dst v) h' K (nn _ _) H) H
    ·rename_i hs;rw[if_neg hs] at H;exact ih [] _ _ _ (nn _ _) H
  | pur f xs=>
   have hE:SItem.isEff ⟨dst,g,.pur f xs⟩=false:=rfl;have hK:isK ⟨dst,g,.pur f xs⟩=false:=by unfold isK;split;simp_all;rfl
   rw[hE,hK] at H;simp only[Bool.false_eq_true,if_false] at H;unfold SItem.wp at H ⊢
   cases g with
   | none=>obtain ⟨v,h1,h2⟩:=H;exact ⟨v,h1,ih _ _ _ _ (key v) h2⟩
   | some g=>
    simp only at H ⊢;split
    ·rename_i hs;rw[if_pos hs] at H;obtain ⟨v,h1,h2⟩:=H;exact ⟨v,h1,ih _ _ _ _ (key v) h2⟩
    ·rename_i hs;rw[if_neg hs] at H;exact ih _ _ _ _ (key undef) H
  | ld n x=>
   have hE:SItem.isEff ⟨dst,g,.ld n x⟩=false:=rfl;rw[hE] at H;simp only[Bool.false_eq_true,if_false] at H;unfold SItem.wp at H ⊢
   cases g with
   | some g=>
    have hK:isK ⟨dst,some g,.ld n x⟩=false:=by unfold isK;split;simp_all;rfl
    rw[hK] at H;simp only[Bool.false_eq_true,if_false] at H ⊢;split
    ·rename_i hs;rw[if_pos hs] at H;obtain ⟨v,h1,h2⟩:=H;exact ⟨v,h1,ih _ _ _ _ (key v) h2⟩
    ·rename_i hs;rw[if_neg hs] at H;exact ih _ _ _ _ (key undef) H
   | none=>
    obtain ⟨v,h1,h2⟩:=H;refine ⟨v,h1,?_⟩
    cases hK:isK ⟨dst,none,.ld n x⟩ with
    | false=>rw[hK] at h2;exact ih _ _ _ _ (key v) h2
    | true=>
     rw[hK] at h2;refine ih _ _ _ _ (fun q hq=>?_) h2;rcases List.mem_cons.1 hq with rfl|hq
     ·unfold isK at hK;split at hK
      ·rename_i d m t heq;cases heq;have hdt:d≠t:=by simpa using hK
       refine ⟨v,?_,fun d' e=>by cases e;simp[Env.put,Env.set]⟩;simp only[SItem.qval,SOp.qv,ev] at h1 ⊢;rw[Q14 (by simpa using hdt)];exact h1
      ·cases hK
     ·exact key v q hq
 | eff it held rest ih=>
  intro kn ε h K hk H;have nn:∀(e:Env) (h':Heap),∀q∈([]:List SItem),q.holds e h':=fun _ _ q hq=>by simp at hq
  simp only[RT.slim] at H
  cases ha:isAlloc it with
  | true=>
   rw[ha] at H;simp only[if_true] at H;obtain ⟨dst,g,op⟩:=it;unfold isAlloc at ha;simp only[Bool.and_eq_true] at ha;obtain ⟨hg,ho⟩:=ha
   cases g with
   | some g=>simp at hg
   | none=>
    have step:∀v o,((∀q∈held.filter fun q=>!(kn.filter (indep dst)).any (sameLd · q),q.holds (ε.put dst v) (h.push o))∧goR P (rest.slim (kn.filter (indep dst))) (ε.put dst v) (h.push o) K) →
      ((∀q∈held,q.holds (ε.put dst v) (h.push o))∧goR P rest (ε.put dst v) (h.push o) K):=by
     intro v o ⟨h1,h2⟩;have hkn:∀q∈kn.filter (indep dst),q.holds (ε.put dst v) (h.push o):=fun q hq=>by obtain ⟨a,b⟩:=List.mem_filter.1 hq;exact holds_push b (holds_put b (hk q a))
     refine ⟨fun q hq=>?_,ih _ _ _ _ hkn h2⟩
     cases hany:(kn.filter (indep dst)).any (sameLd · q) with
     | true=>obtain ⟨k,hk1,hk2⟩:=List.any_eq_true.1 hany;rw[←sameLd_eq hk2];exact hkn k hk1
     | false=>exact h1 q (List.mem_filter.2 ⟨hq,by rw[hany];rfl⟩)
    split at ho
    ·rename_i T z xs;simp only[goR,SItem.wp,SOp.wp] at H ⊢;unfold EF.wp at H ⊢
     cases hxs:xs.map (ev ε) with
     | nil=>rw[hxs] at H;exact step _ _ H
     | cons a aS=>rw[hxs] at H;exact H
    ·rename_i E sz xs;simp only[goR,SItem.wp,SOp.wp] at H ⊢;unfold EF.wp at H ⊢;exact ⟨H.1,step _ _ H.2⟩
    ·cases ho
  | false=>
   rw[ha] at H;simp only[Bool.false_eq_true,if_false,goR] at H ⊢;unfold SItem.wp at H ⊢
   cases hg:it.guard with
   | none=>
    rw[hg] at H;simp only at H ⊢
    cases hop:it.op with
    | pur f xs=>rw[hop] at H;obtain ⟨v,h1,h2,h3⟩:=H;exact ⟨v,h1,h2,ih [] _ _ _ (nn _ _) h3⟩
    | ld n x=>rw[hop] at H;obtain ⟨v,h1,h2,h3⟩:=H;exact ⟨v,h1,h2,ih [] _ _ _ (nn _ _) h3⟩
    | eff e xs=>rw[hop] at H;exact X14 (K:=fun v h'=>(∀q∈held,q.holds (ε.put it.dst v) h')∧goR P (rest.slim []) (ε.put it.dst v) h' K) (fun v h' H=>⟨H.1,ih [] _ _ _ (nn _ _) H.2⟩) H
   | some g=>
    rw[hg] at H;simp only at H ⊢;split
    ·rename_i hs;rw[if_pos hs] at H
     cases hop:it.op with
     | pur f xs=>rw[hop] at H;obtain ⟨v,h1,h2,h3⟩:=H;exact ⟨v,h1,h2,ih [] _ _ _ (nn _ _) h3⟩
     | ld n x=>rw[hop] at H;obtain ⟨v,h1,h2,h3⟩:=H;exact ⟨v,h1,h2,ih [] _ _ _ (nn _ _) h3⟩
     | eff e xs=>rw[hop] at H;exact X14 (K:=fun v h'=>(∀q∈held,q.holds (ε.put it.dst v) h')∧goR P (rest.slim []) (ε.put it.dst v) h' K) (fun v h' H=>⟨H.1,ih [] _ _ _ (nn _ _) H.2⟩) H
    ·rename_i hs;rw[if_neg hs] at H;exact ⟨H.1,ih [] _ _ _ (nn _ _) H.2⟩
theorem slimS_sound {P:Program}:∀(c:SCode) {K:Env→Heap→Prop} {X:Nat→Env→Heap→Prop} {R:Env→Heap→Prop} {ρ:Env} {h:Heap},wpS P c.slim K X R ρ h→wpS P c K X R ρ h:=by
 intro c
 induction c with
 | skip=>intro K X R ρ h H;exact H
 | reg t outs=>intro K X R ρ h H;exact slim_sound t [] _ _ _ (fun q hq=>by simp at hq) H
 | seq a b iha ihb=>intro K X R ρ h H;exact Z75 a (fun _ _ H=>ihb H) (fun _ _ _ h=>h) (fun _ _ h=>h) (iha H)
 | cond c a b iha ihb=>intro K X R ρ h H;obtain ⟨t,h1,h2,h3⟩:=H;exact ⟨t,h1,fun e=>iha (h2 e),fun e=>ihb (h3 e)⟩
 | block id c ih=>intro K X R ρ h H;exact ih H
 | loop c ih=>intro K X R ρ h H;obtain ⟨α,I,μ,x,h1,h2⟩:=H;exact ⟨α,I,μ,x,h1,fun x ρ h hI=>ih (h2 x ρ h hI)⟩
 | exit id=>intro K X R ρ h H;exact H
 | ret=>intro K X R ρ h H;exact H
theorem Y71 {P:Program} {f:FuncId} {F:Fun} (hk:(compF P f).map Fun.slim=some F) (hm:P.follows .mixedOrders=true) {aS:List AV} {σ:St} {R:AV→St→Prop} (ha:Nat.ble aS.length F.N=true)
  (H:act (wpA P F.code (postA F.res R) (fun _ _ _=>False) (postA F.res R) (initA aS) σ)):FnG P f aS σ R:=by
 obtain ⟨F0,hk0,rfl⟩:=Option.map_eq_some_iff.1 hk;intro base G h vs hH hL;refine fn_enter hk0 hm (by rw[hL.1];exact Nat.le_of_ble_eq_true ha) ?_
 have hE:RelE G (initA aS) (initE vs):=by
  intro t;unfold initA initE;simp only[List.getD_eq_getElem?_getD];by_cases ht:t < aS.length
  ·have h1:=List.getElem?_eq_getElem ht;have h2:vs[t]?=some (vs[t]'(by rw[hL.1];exact ht)):=List.getElem?_eq_getElem _;rw[h1,h2];exact hL.2 t _ _ h1 h2
  ·rw[List.getElem?_eq_none ka,List.getElem?_eq_none (by rw[hL.1];omega)];exact .v _
 have hpost:∀ρ h',Real base G (postA F0.res R) ρ h'→post F0.res (fun r h'=>∃G' a σ',Gh.le base.size G G'∧RelH base G' h' σ'∧RelV G' a r∧R a σ') ρ h':=by
  rintro ρ h' ⟨G',ε,σ',l,H',E',as',h1,h2⟩;obtain ⟨vs',h3,h4⟩:=res_sound H' E' F0.res h1;refine ⟨vs',h3,G',_,σ',l,H',?_,h2⟩;unfold resA resV
  match as',vs',h4 with
  | [],vs',h4=>rw[h4.nil_inv];exact .tup [] [] rfl (fun i a u h=>by simp at h)
  | [a],vs',h4=>obtain ⟨u,us,rfl,h5,h6⟩:=h4.cons_inv;rw[h6.nil_inv];exact h5
  | a::b::cs,vs',h4=>obtain ⟨u,us,rfl,h5,h6⟩:=h4.cons_inv;obtain ⟨w,ws,rfl,h7,h8⟩:=h6.cons_inv;exact .tup _ _ h4.1 h4.2
 exact slimS_sound F0.code (Z75 _ hpost (fun _ _ _ ⟨_,_,_,_,_,_,h⟩=>h.elim) hpost (wpA_sound F0.slim.code hH hE H))
end Go.Kx
namespace Go.Kx
open Go Go.Kx
section
variable {P:Program} {N:Nat} {p:List Nat} {x y:Code} {u v:SCode}
theorem cS (a:(compile P N p x).map SCode.slim=some u) (b:(compile P N p y).map SCode.slim=some v):(compile P N p (.seq x y)).map SCode.slim=some (.seq u v):=by simp only[compile];cases h:compile P N p x<;>cases h2:compile P N p y<;>simp_all[SCode.slim]
theorem cC {c:Operand} (a:(compile P N p x).map SCode.slim=some u) (b:(compile P N p y).map SCode.slim=some v) (h:(opdTmp c).all (p.contains ·)=true):(compile P N p (.cond c x y)).map SCode.slim=some (.cond c u v):=by simp only[compile];cases h1:compile P N p x<;>cases h2:compile P N p y<;>simp_all[SCode.slim]
theorem cB {i:Nat} (a:(compile P N p x).map SCode.slim=some u):(compile P N p (.block i x)).map SCode.slim=some (.block i u):=by simp only[compile];cases h1:compile P N p x<;>simp_all[SCode.slim]
theorem cL (a:(compile P N p x).map SCode.slim=some u):(compile P N p (.loop x)).map SCode.slim=some (.loop u):=by simp only[compile];cases h1:compile P N p x<;>simp_all[SCode.slim]
theorem cF {f:Nat} {fn:Func} {c:Code} {rs:List RV} {pe:List Nat} {s:SCode} (h:P.funcs[f]?=some fn) (hb:fn.body=some c) (hr:fn.results.toList.mapM (compRes P)=some rs) (hp:(rs.map RV.slot++expo c).eraseDups=pe) (hc:(compile P fn.ntmps pe c).map SCode.slim=some s):(compF P f).map Fun.slim=some ⟨fn.ntmps,pe,rs,s⟩:=by subst hp;unfold compF;rw[h];dsimp only;rw[hb];dsimp only;rw[hr];dsimp only;cases h1:compile P fn.ntmps (rs.map RV.slot++expo c).eraseDups c<;>simp_all[Fun.slim]
end
theorem cR {P:Program} {N:Nat} {p:List Nat} {c:Code} {u v:SCode} (a:compile P N p c=some u) (b:u.slim=v):(compile P N p c).map SCode.slim=some v:=by rw[a,←b];rfl
noncomputable def qG (P:Program) (n:Nat) {s:Fun} (h:(compF P n).map Fun.slim=some s:=by
 first
 |cbv;done
 |apply cF rfl rfl
  case hr=>cbv
  case hp=>cbv
  case hc=>
   repeat' (first|(cbv;done)|apply cS|apply cC|apply cB|apply cL)
   all_goals (apply cR<;>first|(cbv;done)|(apply dR<;>first|(cbv;done)|kernel_rfl))):{s//(compF P n).map Fun.slim=some s}:=⟨s,h⟩
end Go.Kx
namespace Go.Proofs.YtelibaobkcokdaaGreat
open Go Go.Kx Go.Proofs
set_option linter.unusedVariables false
set_option maxRecDepth 100000
set_option maxHeartbeats 16000000
noncomputable def Z50:=qH Tryz.prog 62
noncomputable def Z03:=qH Tryz.prog 68
noncomputable def Yt:=qH Tryz.prog 79
noncomputable def ZG:=qH Tryz.prog 85
noncomputable def Z04:=qH Tryz.prog 116
noncomputable def X67:=qH Tryz.prog 120
noncomputable def Z05:=qH Tryz.prog 136
noncomputable def S_step_Do:=qH Tryz.prog 150
noncomputable def Yu:=qH Tryz.prog 152
noncomputable def Yv:=qH Tryz.prog 155
noncomputable def Yw:=qH Tryz.prog 157
noncomputable def X68:=qH Tryz.prog 175
noncomputable def Z06:=qH Tryz.prog 196
noncomputable def X69:=qH Tryz.prog 197
noncomputable def Xn:=qH Tryz.prog 198
noncomputable def Yx:=qH Tryz.prog 220
noncomputable def XU:=qH Tryz.prog 221
noncomputable def X70:=qH Tryz.prog 222
noncomputable def S_wrap_Do:=qH Tryz.prog 223
noncomputable def S_step_of:=qH Tryz.prog 224
noncomputable def Z51:=qH Tryz.prog 225
noncomputable def Z07:=qH Tryz.prog 227
noncomputable def Yy:=qH Tryz.prog 260
noncomputable def Yz:=qH Tryz.prog 261
noncomputable def X71:=qH Tryz.prog 262
noncomputable def Y37:=qH Tryz.prog 263
noncomputable def X15:=qH Tryz.prog 271
noncomputable def Y38:=qH Tryz.prog 272
noncomputable def Y39:=qH Tryz.prog 294
noncomputable def X72:=qH Tryz.prog 295
noncomputable def Y40:=qH Tryz.prog 296
end Go.Proofs.YtelibaobkcokdaaGreat
