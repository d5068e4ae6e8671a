/- Annotated values, part f: statements, code and whole functions. Annotated values, part g: the rewriting rules of the walk on annotated values (tagged push_cast), and its stopping places. Annotated values, part h: effects, calls and loops as steps of the walk; encodings. Annotated values, part i: what comes in, what goes out. Annotated values, part k: a call whose results are objects of its own, told over no state, in any state. Annotated values, part l: what follows may be weakened; a piece of code, and then the rest. Annotated values, part j: whatever comes in, by the shape of its type. Annotated values, part m: lists, and shapes of what comes in, for every seat. Instructions; their targets; right functions. Annotated values, part s: strings. Loads that may come behind an allocation: they give what they gave. Annotated values, part o: what a call has made, and nobody names, is forgotten. -/
import Derived.Test.YtelibaobkcokdaaGreatQU2Lc
import Derived.Deep.Matrix
import Derived.Below
import Derived.ChangeArms
import Derived.OpenShut
namespace Go.Kx
set_option linter.unusedVariables false
set_option linter.unusedSimpArgs false
open Go
def gselA (a:AV) (want:Bool):Bool:=match a with
 | .v (.bool b)=>b==want
 | _=>false
theorem J77 {G:Gh} {a:AV} {u:Value} (h:RelV G a u) (want:Bool):gsel u want=gselA a want:=by
 cases h with
 | v=>cases u<;>rfl
 | _=>rfl
def SOp.awp (P:Program) (s:SOp) (ε:AEnv) (σ:St) (K:AV→St→Prop):Prop:=
 match s with
 | .pur f xs=>∃a,f.av (xs.map (evA ε))=some a∧K a σ
 | .ld n x=>∃a,ldA n (evA ε x) σ=some a∧K a σ
 | .eff e xs=>e.awp P (xs.map (evA ε)) σ K
def SItem.awp (P:Program) (it:SItem) (ε:AEnv) (σ:St) (K:AV→St→Prop):Prop:=
 match it.guard with
 | none=>it.op.awp P ε σ K
 | some (s,want)=>if gselA (ε s) want then it.op.awp P ε σ K else K (.v undef) σ
def SItem.aholds (it:SItem) (ε:AEnv) (σ:St):Prop:=
 match it.op with
 | .ld n x=>((match it.guard with|none=>True|some (s,want)=>gselA (ε s) want=true)∧∃a,ldA n (evA ε x) σ=some a∧a.exact=true∧∀d,it.dst=some d→ε d=a) ∨
   (match it.guard with|none=>False|some (s,want)=>gselA (ε s) want=false∧∀d,it.dst=some d→ε d=.v undef)
 | _=>False
def goRA (P:Program):RT→AEnv→St→(AEnv→St→Prop)→Prop
 | .done,ε,σ,K=>K ε σ
 | .run it rest,ε,σ,K=>it.awp P ε σ fun a σ'=>goRA P rest (ε.put it.dst a) σ' K
 | .eff it held rest,ε,σ,K=>it.awp P ε σ fun a σ'=>(∀q∈held,q.aholds (ε.put it.dst a) σ')∧goRA P rest (ε.put it.dst a) σ' K
 | .both a b,ε,σ,K=>goRA P a ε σ K∧goRA P b ε σ K
def outA (outs:List Nat) (ρ ε:AEnv):AEnv:=outs.foldl (fun r d=>r.set d (ε d)) ρ
def GU (ε:AEnv) (σ:St) (ε':AEnv) (σ':St):Prop:=
 ∀(base:Heap) (G:Gh) (h:Heap) (ρ:Env),RelH base G h σ→RelE G ε ρ→∃G',Gh.le base.size G G'∧RelH base G' h σ'∧RelE G' ε' ρ
theorem GU.refl (ε:AEnv) (σ:St):GU ε σ ε σ:=fun _ G _ _ h1 h2=>⟨G,.refl _ _,h1,h2⟩
theorem GU.trans {ε1 ε2 ε3:AEnv} {σ1 σ2 σ3:St} (h:GU ε1 σ1 ε2 σ2) (k:GU ε2 σ2 ε3 σ3):GU ε1 σ1 ε3 σ3:=by
 intro base G h0 ρ h1 h2
 obtain ⟨G1,a1,a2,a3⟩:=h base G h0 ρ h1 h2
 obtain ⟨G2,b1,b2,b3⟩:=k base G1 h0 ρ a2 a3
 exact ⟨G2,a1.trans b1,b2,b3⟩
theorem RelH.growD {base:Heap} {G:Gh} {h h':Heap} {σ:St} {n:Nat} (H:RelH base G h σ) (hn:base.size≤n) (g:GrowD n h h'):RelH base G h' σ:=by
 have hc:∀{b off:Nat} {u:Value},cellG (hp h) b off=some u→cellG (hp h') b off=some u:=by
  intro b off u e
  unfold cellG hp at e ⊢
  split at e
  ·rename_i c E fz hb
   rw[g.2 b _ hb (.inl rfl)]
   exact e
  ·cases e
 have hs:=H.size
 refine ⟨H.tab,Nat.le_trans hs g.1,fun b hb=>?_,fun b o u hu=>hc (H.st b o u hu),?_,H.frz,?_,H.disj,H.bd,H.maps.mono (fun _ _ _ h=>h) (fun _ _ _ h=>h) (fun _ _ _ h=>h) fun b o ho hb=>g.2 _ _ hb (.inl (by cases o<;>first|rfl|cases ho))⟩
 ·rw[←H.keep b hb]
  have hlt:b < h.size:=by omega
  rw[Array.getElem?_eq_getElem hlt]
  exact g.2 b _ (Array.getElem?_eq_getElem hlt) (.inr (by omega))
 ·intro i w cs hi
  obtain ⟨l,h1,h2,h3,h4,h5⟩:=H.obj i w cs hi
  exact ⟨l,h1,h2,h3,h4,fun j a ha=>by obtain ⟨u,h6,h7⟩:=h5 j a ha;exact ⟨u,hc h6,h7⟩⟩
 ·intro i l hl b k hk
  obtain ⟨h1,⟨c,E,fz,h2,h2'⟩,h3⟩:=H.own i l hl b k hk
  exact ⟨h1,⟨c,E,fz,g.2 _ _ h2 (.inl rfl),h2'⟩,h3⟩
def ItP (P:Program) (f:FuncId) (xs:List AV) (vsA:List (List AV)):Prop:=
 AV.pureL xs=true∧∀(G:Gh) (lb:List Value),RelL G xs lb→∃vs:Nat→List Value,(∀(i:Nat) (v:List AV),vsA[i]?=some v→RelL G v (vs i))∧IterC P f lb.toArray vsA.length vs G.g
def setA (ε:AEnv) (ps:List Nat) (vs:List AV):AEnv:=(ps.zip vs).foldl (fun r p=>r.set p.1 p.2) ε
theorem setA_rel {G:Gh}:∀(ps:List Nat) {xs:List AV} {vs:List Value} {ε:AEnv} {ρ:Env},RelE G ε ρ→RelL G xs vs→RelE G (setA ε ps xs) (setEnv ρ ps vs):=by
 intro ps
 induction ps with
 | nil=>intro xs vs ε ρ E _;exact E
 | cons p ps ih=>
  intro xs vs ε ρ E L
  cases xs with
  | nil=>rw[L.nil_inv];exact E
  | cons x xs=>
   obtain ⟨u,us,rfl,h1,h2⟩:=L.cons_inv
   exact ih (E.put (some p) h1) h2
def wpA (P:Program):SCode→(AEnv→St→Prop)→(Nat→AEnv→St→Prop)→(AEnv→St→Prop)→AEnv→St→Prop
 | .skip,K,_,_,ε,σ=>K ε σ
 | .reg t outs,K,_,_,ε,σ=>goRA P t ε σ fun ε' σ'=>K (outA outs ε ε') σ'
 | .seq a b,K,X,R,ε,σ=>wpA P a (fun ε σ=>wpA P b K X R ε σ) X R ε σ
 | .cond c a b,K,X,R,ε,σ=>∃t,evA ε c=.v (.bool t)∧((t=true→wpA P a K X R ε σ)∧(t=false→wpA P b K X R ε σ))
 | .block id c,K,X,R,ε,σ=>wpA P c K (fun j ε σ=>if j=id then K ε σ else X j ε σ) R ε σ
 | .loop c,_,X,R,ε,σ=>∃(α:Type) (I:α→AEnv→St→Prop) (μ:α→Nat) (x:α) (ε':AEnv) (σ':St),GU ε σ ε' σ'∧I x ε' σ'∧∀x ε σ,I x ε σ→wpA P c (fun ε' σ'=>∃x',I x' ε' σ'∧μ x' < μ x) X R ε σ
 | .exit id,_,X,_,ε,σ=>X id ε σ
 | .ret,_,_,R,ε,σ=>R ε σ
 | .rf g ps assign body,K,_,_,ε,σ=>∃(gf:FuncId) (xs:List AV) (vsA:List (List AV)) (ε':AEnv) (σ':St) (I:Nat→St→Prop),
   GU ε σ ε' σ'∧evA ε' g=.fn (.func gf) 0 xs∧fnOk P gf=true∧ItP P gf xs vsA∧(∀(i:Nat) (v:List AV),vsA[i]?=some v→v.length=ps.length)∧I 0 σ' ∧
   (∀(i:Nat) (v:List AV) (σ:St),vsA[i]?=some v→I i σ→wpA P assign (fun ε2 σ2=>wpA P body (fun _ σ3=>I (i+1) σ3) (fun _ _ _=>False) (fun _ _=>False) ε2 σ2) (fun _ _ _=>False) (fun _ _=>False) (setA ε' ps v) σ) ∧
   (∀σ,I vsA.length σ→K ε' σ)
def Real (base:Heap) (G:Gh) (K:AEnv→St→Prop):Env→Heap→Prop:=fun ρ h=>∃G' ε σ,Gh.le base.size G G'∧RelH base G' h σ∧RelE G' ε ρ∧K ε σ
theorem Real.le {base:Heap} {G G':Gh} (h:Gh.le base.size G G') {K:AEnv→St→Prop} {ρ:Env} {h0:Heap} (H:Real base G' K ρ h0):Real base G K ρ h0:=by
 obtain ⟨G2,ε,σ,a,b,c,d⟩:=H
 exact ⟨G2,ε,σ,h.trans a,b,c,d⟩
theorem sop_sound {P:Program} {base:Heap} {G:Gh} {h:Heap} {σ:St} {ε:AEnv} {ρ:Env} (H:RelH base G h σ) (E:RelE G ε ρ) {s:SOp} {K:AV→St→Prop} (hs:s.awp P ε σ K):
  s.wp P ρ h fun r h'=>∃G' a σ',Gh.le base.size G G'∧RelH base G' h' σ'∧RelV G' a r∧K a σ':=by
 cases s with
 | pur f xs=>
  obtain ⟨a,h1,h2⟩:=hs
  obtain ⟨u,e1,e2⟩:=av_sound h1 (evAs_rel E xs)
  exact ⟨u,e1,G,a,σ,.refl _ _,H,e2,h2⟩
 | ld n x=>
  obtain ⟨a,h1,h2⟩:=hs
  obtain ⟨u,e1,e2⟩:=J72 H h1 (Ji E x)
  exact ⟨u,e1,G,a,σ,.refl _ _,H,e2,h2⟩
 | eff e xs=>exact ef_sound H (evAs_rel E xs) hs
theorem Jk {P:Program} {base:Heap} {G:Gh} {h:Heap} {σ:St} {ε:AEnv} {ρ:Env} (H:RelH base G h σ) (E:RelE G ε ρ) {it:SItem} {K:AV→St→Prop} (hs:it.awp P ε σ K):
  it.wp P ρ h fun r h'=>∃G' a σ',Gh.le base.size G G'∧RelH base G' h' σ'∧RelV G' a r∧K a σ':=by
 obtain ⟨dst,guard,op⟩:=it
 cases guard with
 | none=>exact sop_sound H E hs
 | some g=>
  obtain ⟨s,want⟩:=g
  have hs:if gselA (ε s) want then op.awp P ε σ K else K (.v undef) σ:=hs
  show if gsel (ρ s) want then op.wp P ρ h _ else _
  rw[J77 (E s)]
  split at hs
  ·rename_i hc;rw[if_pos hc];exact sop_sound H E hs
  ·rename_i hc;rw[if_neg hc];exact ⟨G,_,σ,.refl _ _,H,.v _,hs⟩
theorem RelV_lit {G:Gh} {x u:Value} (h:RelV G (.v x) u):u=x:=by cases h;rfl
theorem holds_sound {base:Heap} {G:Gh} {h:Heap} {σ:St} {ε:AEnv} {ρ:Env} (H:RelH base G h σ) (E:RelE G ε ρ) {q:SItem} (hq:q.aholds ε σ):q.holds ρ h:=by
 obtain ⟨dst,guard,op⟩:=q
 cases op with
 | ld n x=>
  rcases hq with hq|hq
  ·obtain ⟨hg,a,h1,h2,h3⟩:=hq
   obtain ⟨u,e1,e2⟩:=J72 H h1 (Ji E x)
   refine ⟨u,?_,fun d hd=>?_⟩
   ·cases guard with
    | none=>exact e1
    | some g=>
     obtain ⟨s,want⟩:=g
     simp only[SItem.qval]
     rw[J77 (E s),if_pos hg]
     exact e1
   ·have:=E d
    rw[h3 d hd] at this
    exact this.exact e2 h2
  ·cases guard with
   | none=>exact hq.elim
   | some g=>
    obtain ⟨s,want⟩:=g
    obtain ⟨hg,h3⟩:=hq
    refine ⟨undef,?_,fun d hd=>?_⟩
    ·simp only[SItem.qval]
     rw[J77 (E s),if_neg (by rw[hg];simp)]
    ·have:=E d
     rw[h3 d hd] at this
     exact RelV_lit this
 | pur f xs=>exact hq.elim
 | eff e xs=>exact hq.elim
theorem Jl {P:Program} {base:Heap}:∀(t:RT) {G:Gh} {h:Heap} {σ:St} {ε:AEnv} {ρ:Env} {K:AEnv→St→Prop},RelH base G h σ→RelE G ε ρ→goRA P t ε σ K→goR P t ρ h (Real base G K):=by
 intro t
 induction t with
 | done=>intro G h σ ε ρ K H E hk;exact ⟨G,ε,σ,.refl _ _,H,E,hk⟩
 | run it rest ih=>
  intro G h σ ε ρ K H E hk
  refine SItem.wp_mono ?_ (Jk H E hk)
  rintro r h' ⟨G',a,σ',l,H',hr,hk'⟩
  exact goR_mono_real l (ih H' ((E.mono l).put it.dst hr) hk')
 | eff it held rest ih=>
  intro G h σ ε ρ K H E hk
  refine SItem.wp_mono ?_ (Jk H E hk)
  rintro r h' ⟨G',a,σ',l,H',hr,hheld,hk'⟩
  have E':=(E.mono l).put it.dst hr
  exact ⟨fun q hq=>holds_sound H' E' (hheld q hq),goR_mono_real l (ih H' E' hk')⟩
 | both a b iha ihb=>
  intro G h σ ε ρ K H E hk
  exact ⟨iha H E hk.1,ihb H E hk.2⟩
where
 goR_mono {P:Program}:∀(t:RT) {ρ:Env} {h:Heap} {K K':Env→Heap→Prop},(∀ρ h,K ρ h→K' ρ h)→goR P t ρ h K→goR P t ρ h K':=by
  intro t
  induction t with
  | done=>intro ρ h K K' hk H;exact hk _ _ H
  | run it rest ih=>intro ρ h K K' hk H;exact SItem.wp_mono (fun v h' hv=>ih hk hv) H
  | eff it held rest ih=>intro ρ h K K' hk H;exact SItem.wp_mono (fun v h' hv=>⟨hv.1,ih hk hv.2⟩) H
  | both a b iha ihb=>intro ρ h K K' hk H;exact ⟨iha hk H.1,ihb hk H.2⟩
 goR_mono_real {P:Program} {base:Heap} {t:RT} {G G':Gh} {ρ:Env} {h:Heap} {K:AEnv→St→Prop} (l:Gh.le base.size G G') (H:goR P t ρ h (Real base G' K)):goR P t ρ h (Real base G K):=
  goR_mono t (fun _ _ hk=>hk.le l) H
theorem outA_rel {G:Gh} (outs:List Nat) {ρ1 ρ2:Env} {ε1 ε2:AEnv} (h1:RelE G ε1 ρ1) (h2:RelE G ε2 ρ2):RelE G (outA outs ε1 ε2) (outEnv outs ρ1 ρ2):=by
 unfold outA outEnv
 induction outs generalizing ρ1 ε1 with
 | nil=>exact h1
 | cons d outs ih=>
  simp only[List.foldl_cons]
  exact ih (h1.put (some d) (h2 d))
theorem Zy {P:Program}:∀(c:SCode) {K K':Env→Heap→Prop} {X X':Nat→Env→Heap→Prop} {R R':Env→Heap→Prop} {ρ:Env} {h:Heap},(∀ρ h,K ρ h→K' ρ h)→(∀j ρ h,X j ρ h→X' j ρ h)→(∀ρ h,R ρ h→R' ρ h)→wpS P c K X R ρ h→wpS P c K' X' R' ρ h:=by
 intro c
 induction c with
 | skip=>intro K K' X X' R R' ρ h hk hx hr H;exact hk _ _ H
 | reg t outs=>intro K K' X X' R R' ρ h hk hx hr H;exact Jl.goR_mono t (fun _ _=>hk _ _) H
 | seq a b iha ihb=>intro K K' X X' R R' ρ h hk hx hr H;exact iha (fun _ _=>ihb hk hx hr) hx hr H
 | cond c a b iha ihb=>
  intro K K' X X' R R' ρ h hk hx hr ⟨t,h1,h2,h3⟩
  exact ⟨t,h1,fun e=>iha hk hx hr (h2 e),fun e=>ihb hk hx hr (h3 e)⟩
 | block id c ih=>
  intro K K' X X' R R' ρ h hk hx hr H
  refine ih hk (fun j ρ h hj=>?_) hr H
  split at hj
  ·rename_i hc;rw[if_pos hc];exact hk _ _ hj
  ·rename_i hc;rw[if_neg hc];exact hx _ _ _ hj
 | loop c ih=>
  intro K K' X X' R R' ρ h hk hx hr ⟨α,I,μ,x,h1,h2⟩
  exact ⟨α,I,μ,x,h1,fun x ρ h hI=>ih (fun _ _ h=>h) hx hr (h2 x ρ h hI)⟩
 | exit id=>intro K K' X X' R R' ρ h hk hx hr H;exact hx _ _ _ H
 | ret=>intro K K' X X' R R' ρ h hk hx hr H;exact hr _ _ H
 | rf g ps a b iha ihb=>
  intro K K' X X' R R' ρ h hk hx hr ⟨gf,lb,n,vs,fz,J,h1,h2,h3,h4,h5,h6,h7,h8,h9⟩
  exact ⟨gf,lb,n,vs,fz,J,h1,h2,h3,h4,h5,h6,h7,h8,fun h' hj=>hk _ _ (h9 h' hj)⟩
theorem wpA_sound {P:Program} {base:Heap}:∀(c:SCode) {G:Gh} {h:Heap} {σ:St} {ε:AEnv} {ρ:Env} {K:AEnv→St→Prop} {X:Nat→AEnv→St→Prop} {R:AEnv→St→Prop},
  RelH base G h σ→RelE G ε ρ→wpA P c K X R ε σ→wpS P c (Real base G K) (fun j=>Real base G (X j)) (Real base G R) ρ h:=by
 intro c
 induction c with
 | skip=>intro G h σ ε ρ K X R H E hk;exact ⟨G,ε,σ,.refl _ _,H,E,hk⟩
 | reg t outs=>
  intro G h σ ε ρ K X R H E hk
  refine Jl.goR_mono t ?_ (Jl t H E hk)
  rintro ρ' h' ⟨G',ε',σ',l,H',E',hk'⟩
  exact ⟨G',_,σ',l,H',outA_rel outs (E.mono l) E',hk'⟩
 | seq a b iha ihb=>
  intro G h σ ε ρ K X R H E hk
  refine Zy a ?_ (fun _ _ _ h=>h) (fun _ _ h=>h) (iha H E hk)
  rintro ρ' h' ⟨G',ε',σ',l,H',E',hk'⟩
  exact Zy b (fun _ _ h=>h.le l) (fun _ _ _ h=>h.le l) (fun _ _ h=>h.le l) (ihb H' E' hk')
 | cond c a b iha ihb=>
  intro G h σ ε ρ K X R H E ⟨t,h1,h2,h3⟩
  have hv:=Ji E c
  rw[h1] at hv
  refine ⟨t,by revert hv;generalize ev ρ c=w;intro hv;cases hv;rfl,fun e=>iha H E (h2 e),fun e=>ihb H E (h3 e)⟩
 | block id c ih=>
  intro G h σ ε ρ K X R H E hk
  refine Zy c (fun _ _ h=>h) (fun j ρ' h' hj=>?_) (fun _ _ h=>h) (ih H E hk)
  obtain ⟨G',ε',σ',l,H',E',hk'⟩:=hj
  split at hk'
  ·rename_i hc;rw[if_pos hc];exact ⟨G',ε',σ',l,H',E',hk'⟩
  ·rename_i hc;rw[if_neg hc];exact ⟨G',ε',σ',l,H',E',hk'⟩
 | loop c ih=>
  intro G h σ ε ρ K X R H E ⟨α,I,μ,x,ε',σ',hgu,hI,hround⟩
  obtain ⟨G1,l1,H1,E1⟩:=hgu base G h ρ H E
  refine ⟨α,fun x=>Real base G (I x),μ,x,⟨G1,ε',σ',l1,H1,E1,hI⟩,?_⟩
  rintro x ρ h ⟨G',ε',σ',l,H',E',hI'⟩
  refine Zy c ?_ (fun _ _ _ h=>h.le l) (fun _ _ h=>h.le l) (ih H' E' (hround x ε' σ' hI'))
  rintro ρ2 h2 ⟨G2,ε2,σ2,l2,H2,E2,x',k1,k2⟩
  exact ⟨x',⟨G2,ε2,σ2,l.trans l2,H2,E2,k1⟩,k2⟩
 | exit id=>intro G h σ ε ρ K X R H E hk;exact ⟨G,ε,σ,.refl _ _,H,E,hk⟩
 | ret=>intro G h σ ε ρ K X R H E hk;exact ⟨G,ε,σ,.refl _ _,H,E,hk⟩
 | rf g ps a b iha ihb=>
  intro G h σ ε ρ K X R H E ⟨gf,xs,vsA,ε',σ',I,hgu,hg,hok,hit,hlen,h0,hround,hdone⟩
  obtain ⟨G1,l1,H1,E1⟩:=hgu base G h ρ H E
  have hv:=Ji E1 g
  rw[hg] at hv
  obtain ⟨lb,hlb,hL⟩:∃lb:List Value,ev ρ g=.func (.func gf) #[] lb.toArray∧RelL G1 xs lb:=by
   generalize ev ρ g=w at hv
   cases hv with
   | fn _ _ _ vs h1 h2=>exact ⟨vs,by simp,h1,h2⟩
  obtain ⟨vs,hvs,hic⟩:=hit.2 G1 lb hL
  have hlt:∀i,i < vsA.length→∃v,vsA[i]?=some v:=fun i hi=>⟨_,List.getElem?_eq_getElem hi⟩
  refine ⟨gf,lb.toArray,vsA.length,vs,G1.g,fun i h=>∃G' σ,Gh.le base.size G1 G'∧RelH base G' h σ∧I i σ,hlb,hok,?_,hic,?_,?_,⟨G1,σ',.refl _ _,H1,h0⟩,?_,?_⟩
  ·intro i hi
   obtain ⟨v,hv⟩:=hlt i hi
   rw[(hvs i v hv).1,hlen i v hv]
  ·rintro i h2 ⟨G',σ2,l2,H2,_⟩ b o u hu
   exact H2.st _ _ _ (l2.g _ _ _ hu)
  ·rintro i h2 h3 ⟨G',σ2,l2,H2,hI⟩ hgr
   exact ⟨G',σ2,l2,H2.growD H.size hgr,hI⟩
  ·rintro i h2 hi ⟨G',σ2,l2,H2,hI⟩
   obtain ⟨v,hv⟩:=hlt i hi
   have hw:=hround i v σ2 hv hI
   have E2:=setA_rel (G:=G') ps (E1.mono l2) ((hvs i v hv).mono l2)
   refine Zy a ?_ (fun _ _ _ ⟨_,_,_,_,_,_,h⟩=>h.elim) (fun _ _ ⟨_,_,_,_,_,_,h⟩=>h.elim) (iha H2 E2 hw)
   rintro ρ3 h3 ⟨G3,ε3,σ3,l3,H3,E3,hk3⟩ h4 hgr
   refine Zy b ?_ (fun _ _ _ ⟨_,_,_,_,_,_,h⟩=>h.elim) (fun _ _ ⟨_,_,_,_,_,_,h⟩=>h.elim) (ihb (H3.growD H.size hgr) E3 hk3)
   rintro ρ5 h5 ⟨G5,ε5,σ5,l5,H5,E5,hk5⟩
   exact ⟨G5,σ5,(l2.trans l3).trans l5,H5,hk5⟩
  ·rintro h2 ⟨G',σ2,l2,H2,hI⟩
   exact ⟨G',ε',σ2,l1.trans l2,H2,E1.mono l2,hdone σ2 hI⟩
def initA (as:List AV):AEnv:=fun i=>as.getD i (.v undef)
def RV.av (ε:AEnv) (σ:St):RV→Option AV
 | .tmp t=>some (ε t)
 | .cell a n=>ldA n (ε a) σ
def resA (as:List AV):AV:=match as with|[a]=>a|as=>.tup as
def postA (res:List RV) (R:AV→St→Prop) (ε:AEnv) (σ:St):Prop:=∃as,res.mapM (RV.av ε σ)=some as∧R (resA as) σ
theorem res_sound {base:Heap} {G:Gh} {h:Heap} {σ:St} {ε:AEnv} {ρ:Env} (H:RelH base G h σ) (E:RelE G ε ρ):∀(res:List RV) {as:List AV},res.mapM (RV.av ε σ)=some as→∃vs,res.mapM (RV.val ρ h)=some vs∧RelL G as vs:=by
 intro res
 induction res with
 | nil=>intro as h1;simp at h1;subst h1;exact ⟨[],by simp,.nil G⟩
 | cons r res ih=>
  intro as h1
  rw[List.mapM_cons] at h1
  simp only[bind,Option.bind_eq_some_iff,pure,Option.some.injEq] at h1
  obtain ⟨a,ha,as',has,rfl⟩:=h1
  obtain ⟨vs,h2,h3⟩:=ih has
  obtain ⟨u,hu,hr⟩:∃u,RV.val ρ h r=some u∧RelV G a u:=by
   cases r with
   | tmp t=>simp[RV.av] at ha;subst ha;exact ⟨_,rfl,E t⟩
   | cell t n=>exact J72 H ha (E t)
  refine ⟨u::vs,?_,.cons hr h3⟩
  rw[List.mapM_cons,hu,h2]
  rfl
theorem fnG_enter {P:Program} {f:FuncId} {F:Fun} (hk:compF P f=some F) (hm:P.follows .mixedOrders=true) {as:List AV} {σ:St} {R:AV→St→Prop} (ha:as.length≤F.N)
  (H:wpA P F.code (postA F.res R) (fun _ _ _=>False) (postA F.res R) (initA as) σ):FnG P f as σ R:=by
 intro base G h vs hH hL
 refine J71 hk hm (by rw[hL.1];exact ha) ?_
 have hE:RelE G (initA as) (initE vs):=by
  intro t
  unfold initA initE
  simp only[List.getD_eq_getElem?_getD]
  by_cases ht:t < as.length
  ·have h1:=List.getElem?_eq_getElem ht
   have h2:vs[t]?=some (vs[t]'(by rw[hL.1];exact ht)):=List.getElem?_eq_getElem _
   rw[h1,h2]
   exact hL.2 t _ _ h1 h2
  ·rw[List.getElem?_eq_none (by omega),List.getElem?_eq_none (by rw[hL.1];omega)]
   exact .v _
 have hpost:∀ρ h',Real base G (postA F.res R) ρ h'→post h.size F.res (fun r h'=>∃G' a σ',Gh.le base.size G G'∧RelH base G' h' σ'∧RelV G' a r∧R a σ') ρ h':=by
  rintro ρ h' ⟨G',ε,σ',l,H',E',as',h1,h2⟩
  obtain ⟨vs',h3,h4⟩:=res_sound H' E' F.res h1
  refine ⟨vs',h3,fun h2' hgr=>⟨G',_,σ',l,H'.growD hH.size hgr,?_,h2⟩⟩
  unfold resA resV
  match as',vs',h4 with
  | [],vs',h4=>rw[h4.nil_inv];exact .tup [] [] rfl (fun i a u h=>by simp at h)
  | [a],vs',h4=>
   obtain ⟨u,us,rfl,h5,h6⟩:=h4.cons_inv
   rw[h6.nil_inv];exact h5
  | a::b::cs,vs',h4=>
   obtain ⟨u,us,rfl,h5,h6⟩:=h4.cons_inv
   obtain ⟨w,ws,rfl,h7,h8⟩:=h6.cons_inv
   exact .tup _ _ h4.1 h4.2
 exact Zy _ hpost (fun _ _ _ ⟨_,_,_,_,_,_,h⟩=>h.elim) hpost (wpA_sound F.code hH hE H)
theorem fnP_enter {P:Program} {f:FuncId} {F:Fun} (hk:compF P f=some F) (hm:P.follows .mixedOrders=true) {as:List AV} {Q:AV→Prop} (ha:as.length≤F.N) (hp:AV.pureL as=true)
  (H:wpA P F.code (postA F.res fun a σ'=>∃is,(a.res (freeze is σ')).pure=true∧Q (a.res (freeze is σ'))) (fun _ _ _=>False) (postA F.res fun a σ'=>∃is,(a.res (freeze is σ')).pure=true∧Q (a.res (freeze is σ'))) (initA as) []):FnP P f as Q:=
 ⟨hp,FnG.fz (fnG_enter hk hm ha H)⟩
end Go.Kx
namespace Go.Kx
set_option linter.unusedSectionVars false
set_option linter.unusedVariables false
set_option linter.unusedSimpArgs false
open Go
def obindA (o:Option AV) (f:AV→Prop):Prop:=∃a,o=some a∧f a
def cndA (a:AV) (A B:Prop):Prop:=∃t,a=.v (.bool t)∧((t=true→A)∧(t=false→B))
def bselA (a:AV) (want:Bool) (A B:Prop):Prop:=if gselA a want then A else B
@[push_cast] theorem obindA_some (a:AV) (f:AV→Prop):obindA (some a) f=act (f a):=by simp[obindA,act]
@[push_cast] theorem cndA_true (A B:Prop):cndA (.v (.bool true)) A B=act A:=by simp[cndA,act]
@[push_cast] theorem cndA_false (A B:Prop):cndA (.v (.bool false)) A B=act B:=by simp[cndA,act]
@[push_cast] theorem bselA_undef (w:Bool) (A B:Prop):bselA (.v undef) w A B=act B:=rfl
@[push_cast] theorem bselA_tt (A B:Prop):bselA (.v (.bool true)) true A B=act A:=rfl
@[push_cast] theorem bselA_tf (A B:Prop):bselA (.v (.bool true)) false A B=act B:=rfl
@[push_cast] theorem bselA_ft (A B:Prop):bselA (.v (.bool false)) true A B=act B:=rfl
@[push_cast] theorem bselA_ff (A B:Prop):bselA (.v (.bool false)) false A B=act A:=rfl
@[push_cast] theorem evA_tmp (ε:AEnv) (t:Nat):evA ε (.tmp t)=ε t:=rfl
@[push_cast] theorem evA_const (ε:AEnv) (v:Value):evA ε (.const v)=absV v:=rfl
@[push_cast] theorem evA_func (ε:AEnv) (f:Nat):evA ε (.func f)=.fn (.func f) 0 []:=rfl
@[push_cast] theorem absV_int (k:IntKind) (n:Int):absV (.int k n)=.v (.int k n):=rfl
@[push_cast] theorem absV_bool (b:Bool):absV (.bool b)=.v (.bool b):=rfl
@[push_cast] theorem absV_string (s:ByteArray):absV (.string s)=.v (.string s):=rfl
@[push_cast] theorem absV_nil:absV (.slice none 0 0)=.sl 0 [] .nil:=rfl
@[push_cast] theorem absV_ptr (a:Option Addr):absV (.pointer a)=.v (.pointer a):=rfl
@[push_cast] theorem absV_nilFunc:absV .nilFunc=.v .nilFunc:=rfl
@[push_cast] theorem abs1_int (k:IntKind) (n:Int):abs1 (.int k n)=.v (.int k n):=rfl
@[push_cast] theorem abs1_bool (b:Bool):abs1 (.bool b)=.v (.bool b):=rfl
@[push_cast] theorem abs1_nil:abs1 (.slice none 0 0)=.sl 0 [] .nil:=rfl
@[push_cast] theorem abs1_ptr (a:Option Addr):abs1 (.pointer a)=.v (.pointer a):=rfl
@[push_cast] theorem abs1_nilFunc:abs1 .nilFunc=.v .nilFunc:=rfl
@[push_cast] theorem abs1s_nil:List.map abs1 []=[]:=rfl
@[push_cast] theorem abs1s_cons (v:Value) (l:List Value):List.map abs1 (v::l)=abs1 v::List.map abs1 l:=rfl
@[push_cast] theorem setA_get (ε:AEnv) (d:Nat) (a:AV) (i:Nat):(AEnv.set ε d a) i=if i=d then a else ε i:=rfl
@[push_cast] theorem putA_some (ε:AEnv) (d:Nat) (a:AV):AEnv.put ε (some d) a=ε.set d a:=rfl
@[push_cast] theorem putA_none (ε:AEnv) (a:AV):AEnv.put ε none a=ε:=rfl
@[push_cast] theorem initA_zero (a:AV) (as:List AV):initA (a::as) 0=a:=rfl
@[push_cast] theorem initA_succ (a:AV) (as:List AV) (n:Nat):initA (a::as) (n+1)=initA as n:=rfl
@[push_cast] theorem outA_nil (ρ ε:AEnv):outA [] ρ ε=ρ:=rfl
@[push_cast] theorem outA_cons (d:Nat) (ds:List Nat) (ρ ε:AEnv):outA (d::ds) ρ ε=outA ds (ρ.set d (ε d)) ε:=rfl
@[push_cast] theorem evAs_nil (ε:AEnv):List.map (evA ε) []=[]:=rfl
@[push_cast] theorem evAs_cons (ε:AEnv) (x:Operand) (xs:List Operand):List.map (evA ε) (x::xs)=evA ε x::List.map (evA ε) xs:=rfl
section
variable (P:Program) (K:AEnv→St→Prop) (X:Nat→AEnv→St→Prop) (R:AEnv→St→Prop) (ε:AEnv) (σ:St)
@[push_cast] theorem wpA_skip:act (wpA P .skip K X R ε σ)=act (K ε σ):=rfl
@[push_cast] theorem wpA_seq (a b:SCode):act (wpA P (.seq a b) K X R ε σ)=act (wpA P a (fun ε σ=>wpA P b K X R ε σ) X R ε σ):=rfl
@[push_cast] theorem wpA_reg (t:RT) (outs:List Nat):act (wpA P (.reg t outs) K X R ε σ)=act (goRA P t ε σ fun ε' σ'=>K (outA outs ε ε') σ'):=rfl
@[push_cast] theorem wpA_cond (c:Operand) (a b:SCode):act (wpA P (.cond c a b) K X R ε σ)=cndA (evA ε c) (wpA P a K X R ε σ) (wpA P b K X R ε σ):=rfl
@[push_cast] theorem wpA_block (id:Nat) (c:SCode):act (wpA P (.block id c) K X R ε σ)=act (wpA P c K (fun j ε σ=>if j=id then K ε σ else X j ε σ) R ε σ):=rfl
@[push_cast] theorem wpA_exit (id:Nat):act (wpA P (.exit id) K X R ε σ)=act (X id ε σ):=rfl
@[push_cast] theorem wpA_ret:act (wpA P .ret K X R ε σ)=act (R ε σ):=rfl
end
section
variable (P:Program) (ε:AEnv) (σ:St) (K:AEnv→St→Prop)
@[push_cast] theorem straightA_nil:act (goRA P (straight []) ε σ K)=act (K ε σ):=rfl
@[push_cast] theorem goRA_done:act (goRA P .done ε σ K)=act (K ε σ):=rfl
@[push_cast] theorem goRA_both (a b:RT):act (goRA P (.both a b) ε σ K)=(act (goRA P a ε σ K)∧act (goRA P b ε σ K)):=rfl
@[push_cast] theorem straightA_cons (it:SItem) (its:List SItem):act (goRA P (straight (it::its)) ε σ K)=act (goRA P (.run it (straight its)) ε σ K):=rfl
@[push_cast] theorem goRA_pur (d:Option Nat) (f:PF) (xs:List Operand) (rest:RT):
  act (goRA P (.run ⟨d,none,.pur f xs⟩ rest) ε σ K)=obindA (f.av (xs.map (evA ε))) fun a=>goRA P rest (ε.put d a) σ K:=rfl
@[push_cast] theorem goRA_ld (d:Option Nat) (n:Option Nat) (x:Operand) (rest:RT):
  act (goRA P (.run ⟨d,none,.ld n x⟩ rest) ε σ K)=obindA (ldA n (evA ε x) σ) fun a=>goRA P rest (ε.put d a) σ K:=rfl
@[push_cast] theorem goRA_run_eff (d:Option Nat) (e:EF) (xs:List Operand) (rest:RT):
  act (goRA P (.run ⟨d,none,.eff e xs⟩ rest) ε σ K)=act (e.awp P (xs.map (evA ε)) σ fun a σ'=>goRA P rest (ε.put d a) σ' K):=rfl
@[push_cast] theorem goRA_guard (d:Option Nat) (s:Nat) (want:Bool) (op:SOp) (rest:RT):
  act (goRA P (.run ⟨d,some (s,want),op⟩ rest) ε σ K)=bselA (ε s) want (goRA P (.run ⟨d,none,op⟩ rest) ε σ K) (goRA P rest (ε.put d (.v undef)) σ K):=rfl
@[push_cast] theorem goRA_eff (d:Option Nat) (e:EF) (xs:List Operand) (held:List SItem) (rest:RT):
  act (goRA P (.eff ⟨d,none,.eff e xs⟩ held rest) ε σ K)=act (e.awp P (xs.map (evA ε)) σ fun a σ'=>(∀q∈held,q.aholds (ε.put d a) σ')∧goRA P rest (ε.put d a) σ' K):=rfl
@[push_cast] theorem goRA_eff_guard (d:Option Nat) (s:Nat) (want:Bool) (op:SOp) (held:List SItem) (rest:RT):
  act (goRA P (.eff ⟨d,some (s,want),op⟩ held rest) ε σ K)=bselA (ε s) want (goRA P (.eff ⟨d,none,op⟩ held rest) ε σ K) ((∀q∈held,q.aholds (ε.put d (.v undef)) σ)∧goRA P rest (ε.put d (.v undef)) σ K):=rfl
end
@[push_cast] theorem act_held0 (ε:AEnv) (σ:St) (A:Prop):act ((∀q∈([]:List SItem),q.aholds ε σ)∧A)=act A:=by simp[act]
@[push_cast] theorem act_held1 (q:SItem) (qs:List SItem) (ε:AEnv) (σ:St) (A:Prop):act ((∀p∈q::qs,p.aholds ε σ)∧A)=(q.aholds ε σ∧act ((∀p∈qs,p.aholds ε σ)∧A)):=by
 simp[act,and_assoc]
def posts:List RV→List AV→(AV→St→Prop)→AEnv→St→Prop
 | [],acc,R,_,σ=>R (resA acc) σ
 | .tmp t::rs,acc,R,ε,σ=>posts rs (acc++[ε t]) R ε σ
 | .cell c n::rs,acc,R,ε,σ=>obindA (ldA n (ε c) σ) fun a=>posts rs (acc++[a]) R ε σ
theorem posts_spec (R:AV→St→Prop) (ε:AEnv) (σ:St):∀(res:List RV) (acc:List AV),posts res acc R ε σ=∃as,res.mapM (RV.av ε σ)=some as∧R (resA (acc++as)) σ:=by
 intro res
 induction res with
 | nil=>intro acc;simp[posts]
 | cons r res ih=>
  intro acc
  cases r with
  | tmp t=>
   simp only[posts,ih,List.mapM_cons,RV.av]
   apply propext
   constructor
   ·rintro ⟨as,h1,h2⟩;exact ⟨ε t::as,by simp[h1],by simpa using h2⟩
   ·rintro ⟨as,h1,h2⟩
    simp only[bind,Option.bind_eq_some_iff,pure,Option.some.injEq] at h1
    obtain ⟨x,rfl,as',h3,rfl⟩:=h1
    exact ⟨as',h3,by simpa using h2⟩
  | cell c n=>
   simp only[posts,ih,List.mapM_cons,RV.av,obindA]
   apply propext
   constructor
   ·rintro ⟨a,ha,as,h1,h2⟩;exact ⟨a::as,by simp[ha,h1],by simpa using h2⟩
   ·rintro ⟨as,h1,h2⟩
    simp only[bind,Option.bind_eq_some_iff,pure,Option.some.injEq] at h1
    obtain ⟨x,hx,as',h3,rfl⟩:=h1
    exact ⟨x,hx,as',h3,by simpa using h2⟩
@[push_cast] theorem postA_eq (res:List RV) (R:AV→St→Prop) (ε:AEnv) (σ:St):act (postA res R ε σ)=act (posts res [] R ε σ):=by
 rw[posts_spec];simp[postA]
@[push_cast] theorem posts_nil (acc:List AV) (R:AV→St→Prop) (ε:AEnv) (σ:St):act (posts [] acc R ε σ)=act (R (resA acc) σ):=rfl
@[push_cast] theorem posts_tmp (t:Nat) (rs:List RV) (acc:List AV) (R:AV→St→Prop) (ε:AEnv) (σ:St):act (posts (.tmp t::rs) acc R ε σ)=act (posts rs (acc++[ε t]) R ε σ):=rfl
@[push_cast] theorem posts_cell (c:Nat) (n:Option Nat) (rs:List RV) (acc:List AV) (R:AV→St→Prop) (ε:AEnv) (σ:St):act (posts (.cell c n::rs) acc R ε σ)=obindA (ldA n (ε c) σ) fun a=>posts rs (acc++[a]) R ε σ:=rfl
@[push_cast] theorem resA_1 (a:AV):resA [a]=a:=rfl
@[push_cast] theorem resA_2 (a b:AV) (l:List AV):resA (a::b::l)=.tup (a::b::l):=rfl
@[push_cast] theorem av_mov (a:AV):PF.av .mov [a]=some a:=rfl
@[push_cast] theorem av_pick (c:Bool) (a b:AV):PF.av .pick [.v (.bool c),a,b]=some (if c then a else b):=rfl
@[push_cast] theorem av_bin (op:BinOp) (x y:Value):PF.av (.bin op) [.v x,.v y]=(PF.val (.bin op) [x,y]).map .v:=rfl
@[push_cast] theorem av_eqn0 (ng:Bool) (x:Value):PF.av (.eqn ng 0) [.v x]=(PF.val (.eqn ng 0) [x]).map .v:=rfl
@[push_cast] theorem av_eqn2 (ng:Bool) (x:Value):PF.av (.eqn ng 2) [.v x]=(PF.val (.eqn ng 2) [x]).map .v:=rfl
@[push_cast] theorem av_eqn_ref (ng:Bool) (i w o:Nat):PF.av (.eqn ng 0) [.ref i w o]=some (.v (.bool ng)):=rfl
@[push_cast] theorem av_eqn_ms (ng:Bool) (i w o n s:Nat):PF.av (.eqn ng 1) [.ms i w o n s]=some (.v (.bool ng)):=rfl
@[push_cast] theorem av_eqn_fn (ng:Bool) (f:Fn) (k:Nat) (xs:List AV):PF.av (.eqn ng 2) [.fn f k xs]=some (.v (.bool ng)):=rfl
@[push_cast] theorem isNil_2 (ng:Bool):PF.val (.eqn ng 2) [.nilFunc]=some (.bool (!ng)):=by cases ng<;>rfl
@[push_cast] theorem av_not (x:Value):PF.av .not [.v x]=(PF.val .not [x]).map .v:=rfl
@[push_cast] theorem av_lens (x:Value):PF.av (.len true) [.v x]=(PF.val (.len true) [x]).map .v:=rfl
@[push_cast] theorem av_ixs (x y:Value):PF.av .ixs [.v x,.v y]=(PF.val .ixs [x,y]).map .v:=rfl
@[push_cast] theorem av_sls2 (lo hi:Bool) (x y z:Value):PF.av (.sls lo hi) [.v x,.v y,.v z]=(PF.val (.sls lo hi) [x,y,z]).map .v:=rfl
@[push_cast] theorem av_mm2 (mx:Bool) (x y:Value):PF.av (.minmax mx) [.v x,.v y]=(PF.val (.minmax mx) [x,y]).map .v:=rfl
@[push_cast] theorem av_bld (z:List Value) (ps:List (Nat×Nat)) (as:List AV):PF.av (.bld z ps) as=(fillA (z.map abs1) ps as).map .agg:=by
 unfold PF.av;rfl
@[push_cast] theorem av_len (n:Nat) (cs:List AV) (t:Tok):PF.av (.len false) [.sl n cs t]=some (.v (.int .i64 n)):=rfl
@[push_cast] theorem av_lenm (i w o n s:Nat):PF.av (.len false) [.ms i w o n s]=some (.v (.int .i64 n)):=rfl
@[push_cast] theorem av_ixa (sz n:Nat) (cs:List AV) (t:Tok) (k:IntKind) (i:Int) (h0:0≤i) (h1:i < n):PF.av (.ixa sz) [.sl n cs t,.v (.int k i)]=some (.ep (cs.drop (i.toNat * sz))):=if_pos ⟨h0,h1⟩
@[push_cast] theorem av_ixam (sz a w o n:Nat) (k:IntKind) (i:Int) (h0:0≤i) (h1:i < n):PF.av (.ixa sz) [.ms a w o n sz,.v (.int k i)]=some (.ref a w (o+i.toNat * sz)):=if_pos ⟨h0,h1,rfl⟩
@[push_cast] theorem av_ixaA (n sz a w o:Nat) (k:IntKind) (i:Int) (h0:0≤i) (h1:i < n):PF.av (.ixaA n sz) [.ref a w o,.v (.int k i)]=some (.ref a w (o+i.toNat * sz)):=if_pos ⟨h0,h1⟩
@[push_cast] theorem av_ixaE (n sz:Nat) (cs:List AV) (k:IntKind) (i:Int) (h0:0≤i) (h1:i < n):PF.av (.ixaA n sz) [.ep cs,.v (.int k i)]=some (.ep (cs.drop (i.toNat * sz))):=if_pos ⟨h0,h1⟩
@[push_cast] theorem av_fla (off i w o:Nat):PF.av (.fla off) [.ref i w o]=some (.ref i w (o+off)):=rfl
@[push_cast] theorem av_flae (off:Nat) (cs:List AV):PF.av (.fla off) [.ep cs]=some (.ep (cs.drop off)):=rfl
@[push_cast] theorem av_nilc (i w o:Nat):PF.av .nilc [.ref i w o]=some (.ref i w o):=rfl
@[push_cast] theorem av_mkf (fn:Fn) (n:Nat) (xs:List AV):PF.av (.mkf fn n) xs=some (.fn fn n xs):=by unfold PF.av;rfl
@[push_cast] theorem av_ext (i:Nat) (xs:List AV):PF.av (.ext i) [.tup xs]=xs[i]?:=rfl
theorem J2 (y:Nat) (k:IntKind) (i:Int) (h0:0≤i) (h1:i≤y):bound y (.int k i)=some i.toNat:=if_pos ⟨h0,h1⟩
@[push_cast] theorem av_slcm_hi (sz a w o n:Nat) (k:IntKind) (i:Int) (h0:0≤i) (h1:i≤n):PF.av (.slc sz false true) [.ms a w o n sz,.v (.int k i)]=some (.ms a w o i.toNat sz):=by
 simp[PF.av,lit1s,lit1,loHi,J2 _ _ _ h0 h1]
@[push_cast] theorem av_slcA_lo (sz n:Nat) (cs:List AV) (k:IntKind) (i:Int) (h0:0≤i) (h1:i≤n) (h2:n≤9223372036854775807):PF.av (.slcA n sz true false) [.ep cs,.v (.int k i)]=some (.sl (n - i.toNat) (subA cs (i.toNat * sz) ((n - i.toNat) * sz)) .none):=by
 simp[PF.av,lit1s,lit1,loHi,J2 _ _ _ h0 h1,h2]
@[push_cast] theorem fillA_nil (cs:List AV):fillA cs [] []=some cs:=rfl
@[push_cast] theorem setAtA_nil (cs:List AV) (off:Nat):setAtA cs off []=cs:=rfl
@[push_cast] theorem setAtA_cons (cs:List AV) (off:Nat) (a:AV) (as:List AV):setAtA cs off (a::as)=setAtA (cs.set off a) (off+1) as:=rfl
@[push_cast] theorem cells_int (k:IntKind) (n:Int):AV.cells (.v (.int k n))=[.v (.int k n)]:=rfl
@[push_cast] theorem cells_str (b:ByteArray):AV.cells (.v (.string b))=[.v (.string b)]:=rfl
@[push_cast] theorem cells_agg (l:List AV):AV.cells (.agg l)=l:=rfl
@[push_cast] theorem cells_sl (n:Nat) (cs:List AV) (t:Tok):AV.cells (.sl n cs t)=[.sl n cs t]:=rfl
@[push_cast] theorem cells_ref (a b c:Nat):AV.cells (.ref a b c)=[.ref a b c]:=rfl
def ldR (n:Option Nat) (w off:Nat):Option Res→Option AV
 | some (.obj w' cs)=>if w=w' then cellsA n (cs.drop off) else none
 | some (.frz w' cs)=>if w=w' then cellsA n (cs.drop off) else none
 | _=>none
@[push_cast] theorem ldA_ep (n:Option Nat) (cs:List AV) (σ:St):ldA n (.ep cs) σ=cellsA n cs:=rfl
@[push_cast] theorem ldA_ref (n:Option Nat) (i w off:Nat) (σ:St):ldA n (.ref i w off) σ=ldR n w off σ[i]?:=by
 unfold ldA ldR
 simp only
 cases σ[i]? with
 | none=>rfl
 | some r=>cases r<;>rfl
@[push_cast] theorem ldR_obj (n:Option Nat) (w off:Nat) (cs:List AV):ldR n w off (some (.obj w cs))=cellsA n (cs.drop off):=by simp[ldR]
@[push_cast] theorem cellsA_one (cs:List AV):cellsA none cs=cs[0]?:=rfl
@[push_cast] theorem Z86 (k:Nat) (cs:List AV) (h:k≤cs.length):cellsA (some k) cs=some (.agg (cs.take k)):=if_pos h
theorem Qg {P:Program} {f:FuncId} {F:Fun} (hk:compF P f=some F) (hm:P.follows .mixedOrders=true) {as:List AV} {Q:AV→Prop} (ha:Nat.ble as.length F.N=true) (hp:AV.pureL as=true)
  (H:act (wpA P F.code (postA F.res fun a σ'=>∃is,(a.res (freeze is σ')).pure=true∧Q (a.res (freeze is σ'))) (fun _ _ _=>False) (postA F.res fun a σ'=>∃is,(a.res (freeze is σ')).pure=true∧Q (a.res (freeze is σ'))) (initA as) [])):FnP P f as Q:=
 fnP_enter hk hm (Nat.le_of_ble_eq_true ha) hp H
theorem Q2 {P:Program} {f:FuncId} {F:Fun} (hk:compF P f=some F) (hm:P.follows .mixedOrders=true) {as:List AV} {σ:St} {R:AV→St→Prop} (ha:Nat.ble as.length F.N=true)
  (H:act (wpA P F.code (postA F.res R) (fun _ _ _=>False) (postA F.res R) (initA as) σ)):FnG P f as σ R:=fnG_enter hk hm (Nat.le_of_ble_eq_true ha) H
section
variable {P:Program} {σ:St} {K:AV→St→Prop}
theorem wpa_frz {e:EF} {as:List AV} (is:List Nat) (fs:List Bool) (h:act (EF.awp P e (weak (freeze is σ) fs as) (freeze is σ) K)):act (EF.awp P e as σ K):=EF.awp_step is fs h
theorem Q0 {f:FuncId} {as:List AV} {R:AV→St→Prop} (H:FnG P f as σ R) (hk:∀a σ',R a σ'→act (K a σ')):act (EF.awp P (.call f) as σ K):=by
 refine EF.awp_of ?_
 have key:FnG P f as σ K:=H.mono hk
 cases as<;>exact key
theorem Q1 {f:FuncId} {as:List AV} {Q:AV→Prop} (H:FnP P f as Q) (hk:∀a,Q a→act (K a σ)):act (EF.awp P (.call f) as σ K):=
 Q0 (H.at σ) fun a σ' ⟨h1,h2⟩=>by subst h1;exact hk a h2
theorem Jm {f:FuncId} {as as':List AV} {Q:AV→Prop} (is:List Nat) (fs:List Bool) (H:FnP P f as' Q) (he:weak (freeze is σ) fs as=as') (hk:∀a,Q a→act (K a (freeze is σ))):act (EF.awp P (.call f) as σ K):=
 wpa_frz is fs (by rw[he];exact Q1 H hk)
theorem Q7 {f:FuncId} {k:Nat} {xs as as':List AV} {R:AV→St→Prop} (hok:fnOk P f=true) (he:xs.take k++as++xs.drop k=as') (H:FnG P f as' σ R) (hk:∀a σ',R a σ'→act (K a σ')):
  act (EF.awp P .callv (.fn (.func f) k xs::as) σ K):=by
 subst he
 exact EF.awp_of ⟨hok,H.mono hk⟩
theorem Qb {T:TypeId} {z:List Value} (hk:act (K (.ref σ.length 0 0) (σ++[.obj 0 (z.map abs1)]))):act (EF.awp P (.new T z) [] σ K):=EF.awp_of hk
theorem Qn {T:TypeId} {a:AV} (hk:act (K (.ref σ.length 0 0) (σ++[.obj 0 a.cells]))):act (EF.awp P (.box T) [a] σ K):=EF.awp_of (.inl hk)
theorem Q3 {T:TypeId} {a:AV} (hk:act (K (.ep a.cells) σ)):act (EF.awp P (.box T) [a] σ K):=EF.awp_of (.inr hk)
theorem Qt {E:TypeId} {sz:Nat} {as:List AV} (h1:∀a∈as,a.cells.length=sz) (h2:as.length≤9223372036854775807) (hk:act (K (.sl as.length (as.flatMap AV.cells) .full) σ)):act (EF.awp P (.bsl E sz) as σ K):=by
 have key:(∀a∈as,a.cells.length=sz)∧as.length≤9223372036854775807∧(K (.sl as.length (as.flatMap AV.cells) .full) σ∨K (.ms σ.length 0 0 as.length sz) (σ++[.obj 0 (as.flatMap AV.cells)])):=⟨h1,h2,.inl hk⟩
 refine EF.awp_of ?_
 cases as<;>exact key
theorem wpa_bslo {E:TypeId} {sz:Nat} {as:List AV} (h1:∀a∈as,a.cells.length=sz) (h2:as.length≤9223372036854775807) (hk:act (K (.ms σ.length 0 0 as.length sz) (σ++[.obj 0 (as.flatMap AV.cells)]))):act (EF.awp P (.bsl E sz) as σ K):=by
 have key:(∀a∈as,a.cells.length=sz)∧as.length≤9223372036854775807∧(K (.sl as.length (as.flatMap AV.cells) .full) σ∨K (.ms σ.length 0 0 as.length sz) (σ++[.obj 0 (as.flatMap AV.cells)])):=⟨h1,h2,.inr hk⟩
 refine EF.awp_of ?_
 cases as<;>exact key
theorem J78 {E:TypeId} {sz by_:Nat} {z:List Value} {k k':IntKind} {n:Nat} (hz:z.length=sz) (hn:n * by_≤281474976710656) (hn2:n≤9223372036854775807) (hk:act (K (.ms σ.length 0 0 n sz) (σ++[.obj 0 (repA (z.map abs1) n)]))):
  act (EF.awp P (.mks E sz by_ z) [.v (.int k n),.v (.int k' n)] σ K):=by
 refine EF.awp_of ⟨hz,by omega,Int.le_refl _,by omega,?_,?_⟩
 ·have:((n * by_:Nat):Int)≤281474976710656:=by omega
  rw[Int.natCast_mul] at this
  rwa [Int.mul_comm]
 ·simpa[act] using hk
theorem repA_one (a:AV) (n:Nat):repA [a] n=List.replicate n a:=by
 simp only[repA]
 induction n with
 | zero=>rfl
 | succ n ih=>simp[List.replicate_succ,ih]
theorem Q6 {i w off:Nat} {a:AV} {cs:List AV} (hc:a.cells=[a]) (h1:a.one=true) (hi:σ[i]?=some (.obj w cs)) (ho:off < cs.length) (hk:act (K (.v undef) (σ.set i (.obj w (cs.set off a))))):act (EF.awp P (.st 1) [.ref i w off,a] σ K):=by
 refine EF.awp_of ⟨by rw[hc];rfl,by rw[hc];simp[h1],cs,hi,by omega,?_⟩
 rw[hc];exact hk
theorem Q8 {i w off n:Nat} {l cs:List AV} (hn:l.length=n) (h1:l.all AV.one=true) (hi:σ[i]?=some (.obj w cs)) (ho:off+n≤cs.length) (hk:act (K (.v undef) (σ.set i (.obj w (setAtA cs off l))))):act (EF.awp P (.st n) [.ref i w off,.agg l] σ K):=
 EF.awp_of ⟨hn,h1,cs,hi,ho,hk⟩
theorem Y07 {E:TypeId} {sz by_:Nat} {z:List Value} {n i w:Nat} {cs:List AV} {y:AV} {m:Nat} {news:List AV} (hz:z.length=sz) (hs:srcA σ sz y=some (m,news)) (hm:news.length=m * sz) (h1:news.all AV.one=true) (hc:cs.length=n * sz)
  (hn:n+m≤9223372036854775807) (hb:(n+m) * by_≤140737488355328) (hi:σ[i]?=some (.tail w)) (hk:act (K (.sl (n+m) (cs++news) (.id i (w+1) sz)) (σ.set i (.tail (w+1))))):
  act (EF.awp P (.app E sz by_ z) [.sl n cs (.id i w sz),y] σ K):=EF.awp_of ⟨hz,m,news,hs,hm,h1,hn,hb,hc,rfl,hi,hk⟩
theorem Jn {E:TypeId} {sz by_:Nat} {z:List Value} {y:AV} {m:Nat} {news:List AV} (hz:z.length=sz) (hs:srcA σ sz y=some (m,news)) (hm:news.length=m * sz) (h1:news.all AV.one=true)
  (hn:m≤9223372036854775807) (hb:m * by_≤140737488355328) (hk:act (K (.sl m news (.id σ.length 1 sz)) (σ++[.tail 1]))):
  act (EF.awp P (.app E sz by_ z) [.sl 0 [] .nil,y] σ K):=by
 refine EF.awp_of ⟨hz,m,news,hs,hm,h1,by simpa[AV.num] using hn,by simpa[AV.num] using hb,by simp,.inl ?_⟩
 simpa[act] using hk
theorem Y44 {E:TypeId} {sz by_:Nat} {z:List Value} {n:Nat} {cs:List AV} {y:AV} {m:Nat} {news:List AV} (hz:z.length=sz) (hs:srcA σ sz y=some (m,news)) (hm:news.length=m * sz) (h1:news.all AV.one=true) (hc:cs.length=n * sz)
  (hn:n+m≤9223372036854775807) (hb:(n+m) * by_≤140737488355328) (hk:act (K (.sl (n+m) (cs++news) (.id σ.length 1 sz)) (σ++[.tail 1]))):
  act (EF.awp P (.app E sz by_ z) [.sl n cs .full,y] σ K):=EF.awp_of ⟨hz,m,news,hs,hm,h1,hn,hb,hc,.inl hk⟩
theorem Qp {E:TypeId} {sz by_:Nat} {z:List Value} {n:Nat} {cs:List AV} {y:AV} {m:Nat} {news:List AV} (hz:z.length=sz) (hs:srcA σ sz y=some (m,news)) (hm:news.length=m * sz) (h1:news.all AV.one=true) (hc:cs.length=n * sz)
  (hn:n+m≤9223372036854775807) (hb:(n+m) * by_≤140737488355328) (hk:act (K (.sl (n+m) (cs++news) .none) σ)):
  act (EF.awp P (.app E sz by_ z) [.sl n cs .full,y] σ K):=EF.awp_of ⟨hz,m,news,hs,hm,h1,hn,hb,hc,.inr hk⟩
theorem J44 {E:TypeId} {sz by_:Nat} {z:List Value} {n i w:Nat} {cs:List AV} {y:AV} {m:Nat} {news:List AV} (hz:z.length=sz) (hs:srcA σ sz y=some (m,news)) (hm:news.length=m * sz) (h1:news.all AV.one=true) (hc:n * sz≤cs.length)
  (hn:n+m≤9223372036854775807) (hb:(n+m) * by_≤140737488355328) (hi:σ[i]?=some (.obj w cs)) (hk:act (K (.ms i (w+1) 0 (n+m) sz) (σ.set i (.obj (w+1) (cs.take (n * sz)++news))))):
  act (EF.awp P (.app E sz by_ z) [.ms i w 0 n sz,y] σ K):=EF.awp_of ⟨hz,m,news,hs,hm,h1,hn,hb,rfl,rfl,cs,hi,hc,hk⟩
theorem wpa_app_nilo {E:TypeId} {sz by_:Nat} {z:List Value} {y:AV} {m:Nat} {news:List AV} (hz:z.length=sz) (hs:srcA σ sz y=some (m,news)) (hm:news.length=m * sz) (h1:news.all AV.one=true)
  (hn:m≤9223372036854775807) (hb:m * by_≤140737488355328) (h0:0 < m) (hk:act (K (.ms σ.length 0 0 m sz) (σ++[.obj 0 news]))):
  act (EF.awp P (.app E sz by_ z) [.sl 0 [] .nil,y] σ K):=by
 refine EF.awp_of ⟨hz,m,news,hs,hm,h1,by simpa[AV.num] using hn,by simpa[AV.num] using hb,by simp,.inr (.inl ⟨h0,?_⟩)⟩
 exact hk
end
theorem Xd {P:Program} {id:Nat} {c:SCode} {K K0:AEnv→St→Prop} {X:Nat→AEnv→St→Prop} {R:AEnv→St→Prop} {ε:AEnv} {σ:St} {α:Type} (I:α→AEnv→St→Prop) (μ:α→Nat) (Q:AEnv→St→Prop) (x:α) (h0:I x ε σ)
  (hr:∀x ε σ (N E:AEnv→St→Prop),I x ε σ→(∀x' ε' σ',I x' ε' σ'→μ x' < μ x→act (N ε' σ'))→(∀ε' σ',Q ε' σ'→act (E ε' σ'))→act (wpA P c N (fun j ε σ=>if j=id then E ε σ else X j ε σ) R ε σ))
  (hK:∀ε σ,Q ε σ→act (K ε σ)):act (wpA P (.loop c) K0 (fun j ε σ=>if j=id then K ε σ else X j ε σ) R ε σ):=
 ⟨α,I,μ,x,ε,σ,.refl _ _,h0,fun x ε σ hI=>hr x ε σ _ _ hI (fun x' _ _ h1 h2=>⟨x',h1,h2⟩) hK⟩
theorem wpa_blg {P:Program} {id:Nat} {c:SCode} {K K0:AEnv→St→Prop} {X:Nat→AEnv→St→Prop} {R:AEnv→St→Prop} {ε ε0:AEnv} {σ σ0:St} (g:GU ε σ ε0 σ0) {α:Type} (I:α→AEnv→St→Prop) (μ:α→Nat) (Q:AEnv→St→Prop) (x:α) (h0:I x ε0 σ0)
  (hr:∀x ε σ (N E:AEnv→St→Prop),I x ε σ→(∀x' ε' σ',I x' ε' σ'→μ x' < μ x→act (N ε' σ'))→(∀ε' σ',Q ε' σ'→act (E ε' σ'))→act (wpA P c N (fun j ε σ=>if j=id then E ε σ else X j ε σ) R ε σ))
  (hK:∀ε σ,Q ε σ→act (K ε σ)):act (wpA P (.loop c) K0 (fun j ε σ=>if j=id then K ε σ else X j ε σ) R ε σ):=
 ⟨α,I,μ,x,ε0,σ0,g,h0,fun x ε σ hI=>hr x ε σ _ _ hI (fun x' _ _ h1 h2=>⟨x',h1,h2⟩) hK⟩
theorem GU.tok {ε:AEnv} {σ:St} (t sz:Nat) (ht:ε t=.sl 0 [] .nil):GU ε σ (ε.set t (.sl 0 [] (.id σ.length 0 sz))) (σ++[.tail 0]):=by
 intro base G h ρ H E
 obtain ⟨G1,k1,k2,k3⟩:=H.newTail ⟨0,0,0,0,0,0,true⟩ (fun b o hh=>by simp[Loc.has] at hh)
 refine ⟨G1,k1,k2,fun s=>?_⟩
 simp only[AEnv.set]
 split
 ·rename_i hs
  subst hs
  have:=E s
  rw[ht] at this
  generalize ρ s=u at this
  cases this with
  | sl _ _ _ a cap vs h1 h2 h3 h4 h5 h6=>
   obtain ⟨_,rfl,rfl⟩:=h6
   exact .sl _ _ _ _ _ vs h1 (fun i a u ha hu=>(h2 i a u ha hu).mono k1) h3 h4 (h5.mono k1.g) ⟨_,k3,rfl,rfl,rfl,by simp,by simp⟩
 ·exact (E s).mono k1
theorem GU.frz {ε:AEnv} {σ:St} (is:List Nat) (t:Nat):GU ε σ (ε.set t ((ε t).res (freeze is σ))) (freeze is σ):=by
 intro base G h ρ H E
 obtain ⟨G2,l2,H2⟩:=H.freeze is
 refine ⟨G2,l2,H2,fun s=>?_⟩
 simp only[AEnv.set]
 split
 ·rename_i hs
  subst hs
  exact J73 H2 ((E s).mono l2)
 ·exact (E s).mono l2
theorem GU.tokO {ε:AEnv} {σ:St} {i w j:Nat} {cs:List AV} (sz:Nat) (hi:σ[i]?=some (.obj w cs)) (hj:cs[j]?=some (.sl 0 [] .nil)):
  GU ε σ ε (σ.set i (.obj w (cs.set j (.sl 0 [] (.id σ.length 0 sz))))++[.tail 0]):=by
 intro base G h ρ H E
 obtain ⟨G1,k1,k2,k3⟩:=H.newTail ⟨0,0,0,0,0,0,true⟩ (fun b o hh=>by simp[Loc.has] at hh)
 have hlt:i < σ.length:=(List.getElem?_eq_some_iff.1 hi).1
 have hi2:(σ++[.tail 0])[i]?=some (.obj w cs):=by rw[List.getElem?_append_left hlt];exact hi
 obtain ⟨l,e1,e2,e3,e4,e5⟩:=k2.obj i w cs hi2
 refine ⟨G1,k1,?_,E.mono k1⟩
 have:=k2.retell hi2 (cs':=cs.set j (.sl 0 [] (.id σ.length 0 sz))) e1 (by simpa using e4) (fun m a ha=>by
  by_cases hm:j=m
  ·subst hm
   have hjl:j < cs.length:=(List.getElem?_eq_some_iff.1 hj).1
   rw[List.getElem?_set_self hjl] at ha
   cases ha
   obtain ⟨u,hu,hr⟩:=e5 j _ hj
   refine ⟨u,hu,?_⟩
   cases hr with
   | sl _ _ _ a cap vs h1 h2 h3 h4 h5 h6=>
    obtain ⟨_,rfl,rfl⟩:=h6
    exact .sl _ _ _ _ _ vs h1 h2 h3 h4 h5 ⟨_,k3,rfl,rfl,rfl,by simp,by simp⟩
  ·rw[List.getElem?_set_ne hm] at ha
   exact e5 m a ha)
 rwa [List.set_append_left _ _ hlt] at this
theorem freeze_one {σ:St} {i w:Nat} {cs:List AV} (hi:σ[i]?=some (.obj w cs)) (hr:AV.resL σ cs=cs):Go.Kx.freeze [i] σ=σ.set i (.frz w cs):=by
 simp only[Go.Kx.freeze,List.foldl_cons,List.foldl_nil,freeze1,hi,hr]
theorem res_ms {σ:St} {i w n sz:Nat} {cs:List AV} (hi:σ[i]?=some (.frz w cs)) (hn:cs.length=n * sz):AV.res σ (.ms i w 0 n sz)=.sl n cs .none:=by
 simp only[AV.res,hi,if_true,subA,List.drop_zero]
 rw[List.take_of_length_le (by omega)]
@[push_cast] theorem Qc {α:Type} (l:List α) (x:α):(l++[x])[l.length]?=some x:=by simp
@[push_cast] theorem Qq {α:Type} (l:List α) (x y:α):(l++[x]).set l.length y=l++[y]:=by simp
def aInt (x:Int):AV:=.v (.int .i64 x)
def aBool (b:Bool):AV:=.v (.bool b)
def aSl {α:Type} (f:α→AV) (xs:List α):AV:=.sl xs.length (xs.map f) .none
def aSlN {α:Type} (f:α→List AV) (xs:List α):AV:=.sl xs.length (xs.flatMap f) .none
@[push_cast] theorem res_v (σ:St) (x:Value):AV.res σ (.v x)=.v x:=by simp[AV.res]
theorem resL_flat {α:Type} (σ:St) (f:α→List AV) (xs:List α) (h:∀x,AV.resL σ (f x)=f x):AV.resL σ (xs.flatMap f)=xs.flatMap f:=by
 induction xs with
 | nil=>rfl
 | cons x xs ih=>
  simp only[List.flatMap_cons]
  rw[Q05,List.map_append,←Q05,←Q05,ih,h]
theorem Jo {α:Type} {f:α→AV} {σ:St} (h:∀x,(f x).res σ=f x) (xs:List α) (t:Tok):(AV.sl xs.length (xs.map f) t).res σ=aSl f xs:=by
 simp only[AV.res,Q05,List.map_map,aSl,AV.sl.injEq,true_and,and_true]
 congr 1
 funext x
 exact h x
theorem aSlN_res {α:Type} {f:α→List AV} {σ:St} (h:∀x,AV.resL σ (f x)=f x) (xs:List α) (t:Tok):(AV.sl xs.length (xs.flatMap f) t).res σ=aSlN f xs:=by
 simp only[AV.res,aSlN,AV.sl.injEq,true_and,and_true]
 exact resL_flat σ f xs h
theorem aSl_pure {α:Type} {f:α→AV} (h:∀x,(f x).pure=true) (xs:List α):(aSl f xs).pure=true:=by
 simp[aSl,AV.pure,Y8,h]
theorem pureL_flat {α:Type} {f:α→List AV} (h:∀x,AV.pureL (f x)=true) (xs:List α):AV.pureL (xs.flatMap f)=true:=by
 rw[Y8,List.all_eq_true]
 intro a ha
 obtain ⟨x,_,hx⟩:=List.mem_flatMap.1 ha
 have:=h x
 rw[Y8,List.all_eq_true] at this
 exact this a hx
theorem aSlN_pure {α:Type} {f:α→List AV} (h:∀x,AV.pureL (f x)=true) (xs:List α):(aSlN f xs).pure=true:=by
 simp[aSlN,AV.pure,pureL_flat h]
def aInts (xs:List Int):AV:=aSl aInt xs
theorem J3 (σ:St) (x:Int):(aInt x).res σ=aInt x:=by simp[aInt,AV.res]
theorem Qh (x:Int):(aInt x).pure=true:=by simp[aInt,AV.pure]
theorem ZG (xs:List Int):(aInts xs).pure=true:=aSl_pure Qh xs
theorem fin_v {x:Value} {b:AV} (h:AV.v x=b):∃_:List Nat,(AV.v x).pure=true∧AV.v x=b:=⟨[],rfl,h⟩
theorem J79 {a b:AV} {σ:St} (is:List Nat) (h:a.res (Go.Kx.freeze is σ)=b) (hp:b.pure=true):∃is,(a.res (Go.Kx.freeze is σ)).pure=true∧a.res (Go.Kx.freeze is σ)=b:=⟨is,by rw[h];exact hp,h⟩
end Go.Kx
namespace Go.Kx
set_option linter.unusedVariables false
set_option linter.unusedSimpArgs false
open Go
theorem Q66 {w:World} {a:Addr} {u:Value} (h:w.cell? a=some u):a.spot=none∧cellG (hp w.heap) a.block a.off=some u:=by
 refine ⟨World.cell?_spot h,?_⟩
 unfold World.cell? at h
 unfold cellG hp
 split at h
 ·rename_i heq
  rw[heq]
  split at h
  ·cases h
  ·exact h
 ·cases h
theorem Jp (a:Addr) (n:Nat) (h:a.spot=none):a.add n=⟨a.block,a.off+n,none⟩:=by
 obtain ⟨b,o,s⟩:=a
 simp only at h
 subst h
 by_cases hn:n=0<;>simp[Addr.add,hn]
theorem wf_inI {x:Int} (h:(Lit.int .i64 x).wf=true):inI x:=by
 have h1:IntKind.i64.min=-9223372036854775808:=by decide
 have h2:IntKind.i64.max=9223372036854775807:=by decide
 simp[Lit.wf,h1,h2] at h
 exact h
theorem ints_in {w:World} {A:Option Addr} {L C:Nat} {Z:List Int} (h1:L≤C) (h2:C≤maxLen) (h3:Z.length=C) (h4:∀n∈Z,(Lit.int .i64 n).wf=true) (h5:A=none→C=0)
  (h6:∀a',A=some a'→∀c,c < C→w.cell? (a'.add c)=some (.int .i64 (Z.getD c 0))):Ints (hp w.heap) (.slice A L C) (Z.take L):=by
 have hl:(Z.take L).length=L:=by simp;omega
 have hmax:maxLen≤9223372036854775807:=by decide
 refine ⟨⟨by simp,A,C,by rw[hl],by omega,by omega,?_⟩,?_⟩
 ·by_cases hL:L=0
  ·left;omega
  ·right
   cases hA:A with
   | none=>have:=h5 hA;omega
   | some a=>
    have h0:=Q66 (h6 a hA 0 (by omega))
    have hs:a.spot=none:=by simpa[Addr.add] using h0.1
    refine ⟨a.block,a.off,by obtain ⟨b,o,s⟩:=a;simp only at hs;subst hs;rfl,?_⟩
    intro i u hu
    have hi:i < L:=by have:=(List.getElem?_eq_some_iff.1 hu).1;simp at this;omega
    have hc:=(Q66 (h6 a hA i (by omega))).2
    rw[Jp a i hs] at hc
    rw[hc]
    have hiz:i < Z.length:=by omega
    simp[List.getElem?_take,hi,hiz] at hu
    simp[List.getD_eq_getElem?_getD,hiz,←hu]
 ·intro x hx
  exact wf_inI (h4 x (List.mem_of_mem_take hx))
theorem ints1_in {H:Type} {enc:TypeId×Value→H} {P:Program} {w:World} {base:Nat} {held:Bool} {t q:TypeId} {fuel:Nat} {v:Value} {x:DataW H×List MemPlace} (ht:P.underlying t=some (.slice q)) (hq:P.underlying q=some (.int .i64))
  (cq:P.cellsOf q=1) (h:DataW.trod enc P w base (fun _=>true) held fuel t [v]=some x):∃xs,Ints (hp w.heap) v xs:=by
 rcases Go.ChangeShapes.open_ints ht hq cq h with ⟨hcs,_⟩|⟨a,len,cap,zs,hcs,_,hl,hm,hz,_,hcell,hwf⟩
 ·cases hcs
  exact ⟨[],⟨rfl,none,0,rfl,by simp,by simp,.inl rfl⟩,by simp⟩
 ·cases hcs
  simp only[if_true] at hz
  exact ⟨_,ints_in hl hm hz hwf (by simp) (fun a' ha c hc=>by cases ha;exact hcell c (by omega))⟩
def gAll (h:Heap):Gh:=⟨fun b o=>cellG (hp h) b o,fun _ _=>none⟩
theorem RelV_ints {h:Heap} {v:Value} {xs:List Int} (H:Ints (hp h) v xs):RelV (gAll h) (aInts xs) v:=by
 obtain ⟨⟨h1,a,cap,rfl,h2,h3,h4⟩,_⟩:=H
 refine .sl _ _ _ _ _ (xs.map (.int .i64)) (by simp) ?_ h2 h3 ?_ trivial
 ·intro i b u hb hu
  simp only[List.getElem?_map,Option.map_eq_some_iff] at hb hu
  obtain ⟨x,hx,rfl⟩:=hb
  obtain ⟨y,hy,rfl⟩:=hu
  rw[hx] at hy;cases hy
  exact .v _
 ·rcases h4 with h4|⟨b,off,h4,h5⟩
  ·exact .inl ⟨h4,by rw[List.eq_nil_of_length_eq_zero h4];rfl⟩
  ·exact .inr ⟨b,off,h4,h5⟩
theorem law_run {P:Program} {f:FuncId} {as:List AV} (H:FnP P f as fun a=>a=aBool true) {h:Heap} {vs:List Value} (hr:RelL (gAll h) as vs) (ht:TabOk h:=by trivial):
  FnC P f vs.toArray h fun r h'=>(h.size≤h'.size∧∀b,b < h.size→h'[b]?=h[b]?)∧r=.bool true:=by
 have hH:RelH h (gAll h) h []:=by
  refine ⟨ht,Nat.le_refl _,fun _ _=>rfl,fun _ _ _ h=>h,fun i w cs hi=>by simp at hi,fun i w cs hi=>by simp at hi,fun i l hl=>?_,fun i j l m _ hl=>?_,(fun i w l hl=>by simp[gAll] at hl),⟨fun i es _ hi=>by simp at hi,fun i j es es' l m _ _ _ hi=>by simp at hi⟩⟩
  ·have:=Q13 hl;simp at this
  ·have:=Q13 hl;simp at this
 refine (H.2 h _ h vs hH hr).mono ?_
 rintro r h' ⟨G',a,σ',k1,k2,k3,k4,rfl⟩
 exact ⟨⟨k2.size,k2.keep⟩,by cases k3;rfl⟩
theorem RelL.one {G:Gh} {a:AV} {u:Value} (h:RelV G a u) {xs:List AV} {vs:List Value} (H:RelL G xs vs):RelL G (a::xs) (u::vs):=.cons h H
theorem below_of {W W':World} (H:W.heap.size≤W'.heap.size∧∀b,b < W.heap.size→W'.heap[b]?=W.heap[b]?) (S:Same W W'):Go.RowKit.Below W.heap.size W W':=
 ⟨S.1,S.2.1,S.2.2.1,H.1,H.2⟩
def Tok.shift (k:Nat):Tok→Tok
 | .id i ver sz=>.id (i+k) ver sz
 | t=>t
mutual
def AV.shift (k:Nat):AV→AV
 | .v x=>.v x
 | .agg xs=>.agg (AV.shiftL k xs)
 | .tup xs=>.tup (AV.shiftL k xs)
 | .sl n cs t=>.sl n (AV.shiftL k cs) (t.shift k)
 | .ep cs=>.ep (AV.shiftL k cs)
 | .ref i ver off=>.ref (i+k) ver off
 | .ms i ver off n sz=>.ms (i+k) ver off n sz
 | .fn f j xs=>.fn f j (AV.shiftL k xs)
 | .ifc t x=>.ifc t (AV.shift k x)
 | .mp i=>.mp (i+k)
def AV.shiftL (k:Nat):List AV→List AV
 | []=>[]
 | x::xs=>AV.shift k x::AV.shiftL k xs
end
theorem J45 (k:Nat) (xs:List AV):AV.shiftL k xs=xs.map (AV.shift k):=by
 induction xs with
 | nil=>rfl
 | cons x xs ih=>simp[AV.shiftL,ih]
theorem Y08 {k:Nat} {xs:List AV} {i:Nat} {a:AV} (h:(AV.shiftL k xs)[i]?=some a):∃b,xs[i]?=some b∧a=b.shift k:=by
 rw[J45,List.getElem?_map] at h
 cases hx:xs[i]? with
 | none=>rw[hx] at h;cases h
 | some b=>rw[hx] at h;cases h;exact ⟨b,rfl,rfl⟩
theorem Q61 (k:Nat) (xs:List AV):(AV.shiftL k xs).length=xs.length:=by rw[J45,List.length_map]
def Res.shift (k:Nat):Res→Res
 | .obj w cs=>.obj w (AV.shiftL k cs)
 | .frz w cs=>.frz w (AV.shiftL k cs)
 | .map es=>.map (es.map fun p=>(p.1,AV.shift k p.2))
 | r=>r
theorem Res.shift_live (k:Nat) (r:Res):(r.shift k).live=r.live:=by cases r<;>rfl
theorem shift_rel {G:Gh} {k:Nat} {T:Nat→Nat→Option Loc} (hT:∀i w l,G.T i w=some l→T (i+k) w=some l) {a:AV} {u:Value} (hr:RelV G a u):RelV ⟨G.g,T⟩ (a.shift k) u:=by
 have arm:∀{xs:List AV} {vs:List Value},(∀(i:Nat) (a:AV) (u:Value),xs[i]?=some a→vs[i]?=some u→RelV ⟨G.g,T⟩ (a.shift k) u)→∀(i:Nat) (a:AV) (u:Value),(AV.shiftL k xs)[i]?=some a→vs[i]?=some u→RelV ⟨G.g,T⟩ a u:=by
  intro xs vs h i a u ha hu
  obtain ⟨b,h1,rfl⟩:=Y08 ha
  exact h i b u h1 hu
 induction hr with
 | v x=>exact .v x
 | agg xs vs h1 h2 ih=>exact .agg _ _ (by rw[Q61];exact h1) (arm ih)
 | tup xs vs h1 h2 ih=>exact .tup _ _ (by rw[Q61];exact h1) (arm ih)
 | sl n cs t a cap vs h1 h2 h3 h4 h5 h6 ih=>
  refine .sl _ _ _ _ _ vs (by rw[Q61];exact h1) (arm ih) h3 h4 h5 ?_
  rw[Q61]
  cases t with
  | id i ver sz=>obtain ⟨l,e1,e2⟩:=h6;exact ⟨l,hT _ _ _ e1,e2⟩
  | _=>exact h6
 | ep cs vs b off h1 h2 h3 ih=>exact .ep _ vs _ _ (by rw[Q61];exact h1) (arm ih) h3
 | ref i ver off l h1 h2=>exact .ref _ _ _ l (hT _ _ _ h1) h2
 | ms i ver off n sz l cap h1 h2 h3 h4 h5=>exact .ms _ _ _ _ _ l cap (hT _ _ _ h1) h2 h3 h4 h5
 | fn f j xs vs h1 h2 ih=>exact .fn _ _ _ _ (by rw[Q61];exact h1) (arm ih)
 | ifc t x u h ih=>exact .ifc _ _ _ ih
 | mp i l h1 h2=>exact .mp _ l (hT _ _ _ h1) h2
theorem XL {G:Gh} {T:Nat→Nat→Option Loc} {σ τ:St} (h1:∀i w,i < σ.length→T i w=G.T i w) {i:Nat} (hi:i < σ.length) (g:Nat→Nat→Option Value):locOf ⟨g,T⟩ (σ++τ) i=locOf G σ i:=by
 unfold locOf
 rw[List.getElem?_append_left hi]
 cases hs:σ[i]? with
 | none=>rfl
 | some r=>cases r<;>simp[Res.live,h1 _ _ hi]
theorem J4 {G:Gh} {T:Nat→Nat→Option Loc} {σ τ:St} {k:Nat} (hk:σ.length=k) (h1:∀i w,T (i+k) w=G.T i w) (i:Nat) (g:Nat→Nat→Option Value):locOf ⟨g,T⟩ (σ++τ.map (Res.shift k)) (i+k)=locOf G τ i:=by
 unfold locOf
 rw[List.getElem?_append_right (by omega),hk,Nat.add_sub_cancel,List.getElem?_map]
 cases hs:τ[i]? with
 | none=>rfl
 | some r=>cases r<;>simp[Res.live,Res.shift,h1]
theorem FnG.frame {P:Program} {f:FuncId} {as:List AV} {R:AV→St→Prop} (H:FnG P f as [] R) (hpu:AV.pureL as=true) (σ:St):
  FnG P f as σ fun a σ'=>∃a0 τ,R a0 τ∧a=a0.shift σ.length∧σ'=σ++τ.map (Res.shift σ.length):=by
 intro base G h vs hH hL
 have hL0:RelL ⟨G.g,fun _ _=>none⟩ as vs:=⟨hL.1,fun i a u ha hu=>J74 (hL.2 i a u ha hu) (ZI hpu ha)⟩
 have hH0:RelH h ⟨G.g,fun _ _=>none⟩ h []:=by
  refine ⟨hH.tab.keep hH.size hH.keep,Nat.le_refl _,fun _ _=>rfl,hH.st,fun i w cs hi=>by simp at hi,fun i w cs hi=>by simp at hi,fun i l hl=>?_,fun i j l m _ hl=>?_,(fun i w l hl=>by simp at hl),⟨fun i es _ hi=>by simp at hi,fun i j es es' l m _ _ _ hi=>by simp at hi⟩⟩
  ·have:=Q13 hl;simp at this
  ·have:=Q13 hl;simp at this
 refine (H h _ h vs hH0 hL0).mono ?_
 rintro r h' ⟨G',a,τ,k1,k2,k3,k4⟩
 have hs:=k2.size
 have hHs:=hH.size
 let T:Nat→Nat→Option Loc:=fun i w=>if i < σ.length then G.T i w else G'.T (i - σ.length) w
 have t1:∀i w,i < σ.length→T i w=G.T i w:=fun i w hi=>if_pos hi
 have t2:∀i w,T (i+σ.length) w=G'.T i w:=fun i w=>by
  have:¬(i+σ.length < σ.length):=by omega
  show (if _ then _ else _)=_
  rw[if_neg this,Nat.add_sub_cancel]
 have hle:Gh.le h.size G ⟨G'.g,T⟩:=⟨k1.g,fun i w l hl=>by rw[←hl];exact t1 i w (hH.bd i w l hl).1,k1.old⟩
 have hcell:∀b o,b < h.size→cellG (hp h') b o=cellG (hp h) b o:=by
  intro b o hb
  unfold cellG hp
  rw[k2.keep b hb]
 have sh:∀{a u},RelV G' a u→RelV ⟨G'.g,T⟩ (a.shift σ.length) u:=fun hr=>shift_rel (fun i w l hl=>by rw[t2];exact hl) hr
 have kv_shift:∀{en:List MapEntry} {es:List (Value×AV)},KvRel G' en es→KvRel ⟨G'.g,T⟩ en (es.map fun p=>(p.1,AV.shift σ.length p.2)):=by
  intro en
  induction en with
  | nil=>intro es h;cases es with
   | nil=>trivial
   | cons p es=>exact h.elim
  | cons e en ih=>
   intro es h
   cases es with
   | nil=>exact h.elim
   | cons p es=>exact ⟨h.1,sh h.2.1,ih h.2.2⟩
 have split:∀i,i < (σ++τ.map (Res.shift σ.length)).length→i < σ.length∨∃j,i=j+σ.length:=by
  intro i _
  by_cases hi:i < σ.length
  ·exact .inl hi
  ·exact .inr ⟨i - σ.length,by omega⟩
 have getR:∀j,(σ++τ.map (Res.shift σ.length))[j+σ.length]?=(τ[j]?).map (Res.shift σ.length):=by
  intro j
  rw[List.getElem?_append_right (by omega),Nat.add_sub_cancel,List.getElem?_map]
 refine ⟨⟨G'.g,T⟩,a.shift σ.length,σ++τ.map (Res.shift σ.length),hle.weaken hHs,?_,sh k3,a,τ,k4,rfl,rfl⟩
 refine ⟨hH.tab,by omega,fun b hb=>by rw[k2.keep b (by omega)];exact hH.keep b hb,k2.st,?_,?_,?_,?_,?_,?_⟩
 ·intro i w cs hi
  rcases split i (List.getElem?_eq_some_iff.1 hi).1 with hlt|⟨j,rfl⟩
  ·rw[List.getElem?_append_left hlt] at hi
   obtain ⟨l,h1,h2,h3,h4,h5⟩:=hH.obj i w cs hi
   refine ⟨l,(t1 i w hlt).trans h1,h2,h3,h4,fun j a ha=>?_⟩
   obtain ⟨u,h6,h7⟩:=h5 j a ha
   exact ⟨u,by rw[hcell _ _ (Zx h6)];exact h6,h7.mono hle⟩
  ·rw[getR] at hi
   cases hx:τ[j]? with
   | none=>rw[hx] at hi;cases hi
   | some r=>
    rw[hx] at hi
    cases r with
    | obj w0 cs0=>
     cases hi
     obtain ⟨l,h1,h2,h3,h4,h5⟩:=k2.obj j _ _ hx
     refine ⟨l,(t2 j w).trans h1,h2,h3,by rw[Q61];exact h4,fun m a ha=>?_⟩
     obtain ⟨b,h6,rfl⟩:=Y08 ha
     obtain ⟨u,h7,h8⟩:=h5 m b h6
     exact ⟨u,h7,sh h8⟩
    | _=>simp[Res.shift] at hi
 ·intro i w cs hi
  rcases split i (List.getElem?_eq_some_iff.1 hi).1 with hlt|⟨j,rfl⟩
  ·rw[List.getElem?_append_left hlt] at hi
   obtain ⟨l,h1,h2,h3⟩:=hH.frz i w cs hi
   refine ⟨l,(t1 i w hlt).trans h1,h2,fun j a ha=>?_⟩
   obtain ⟨u,h6,h7⟩:=h3 j a ha
   exact ⟨u,hle.g _ _ _ h6,h7.mono hle⟩
  ·rw[getR] at hi
   cases hx:τ[j]? with
   | none=>rw[hx] at hi;cases hi
   | some r=>
    rw[hx] at hi
    cases r with
    | frz w0 cs0=>
     cases hi
     obtain ⟨l,h1,h2,h3⟩:=k2.frz j _ _ hx
     refine ⟨l,(t2 j w).trans h1,h2,fun m a ha=>?_⟩
     obtain ⟨b,h6,rfl⟩:=Y08 ha
     obtain ⟨u,h7,h8⟩:=h3 m b h6
     exact ⟨u,h7,sh h8⟩
    | _=>simp[Res.shift] at hi
 ·intro i l hl b o hh
  rcases split i (Q13 hl) with hlt|⟨j,rfl⟩
  ·rw[XL t1 hlt] at hl
   obtain ⟨h1,h2,h3⟩:=hH.own i l hl b o hh
   have hb:=h2.lt
   refine ⟨h1,?_,?_⟩
   ·obtain ⟨c,E,fz,e1,e2⟩:=h2
    exact ⟨c,E,fz,by rw[k2.keep b hb];exact e1,e2⟩
   ·show G'.g b o=none
    rw[k1.old b o hb];exact h3
  ·rw[J4 rfl t2] at hl
   obtain ⟨h1,h2,h3⟩:=k2.own j l hl b o hh
   exact ⟨by omega,h2,h3⟩
 ·intro i j l m hij hl hm b o hh hn
  rcases split i (Q13 hl) with hi|⟨i',rfl⟩<;>rcases split j (Q13 hm) with hj|⟨j',rfl⟩
  ·rw[XL t1 hi] at hl
   rw[XL t1 hj] at hm
   exact hH.disj i j l m hij hl hm b o hh hn
  ·rw[XL t1 hi] at hl
   rw[J4 rfl t2] at hm
   have e1:=(hH.own i l hl b o hh).2.1.lt
   have e2:=(k2.own j' m hm b o hn).1
   omega
  ·rw[J4 rfl t2] at hl
   rw[XL t1 hj] at hm
   have e1:=(hH.own j m hm b o hn).2.1.lt
   have e2:=(k2.own i' l hl b o hh).1
   omega
  ·rw[J4 rfl t2] at hl hm
   exact k2.disj i' j' l m (by omega) hl hm b o hh hn
 ·intro i w l hl
  by_cases hi:i < σ.length
  ·have hl':G.T i w=some l:=by rw[←t1 i w hi];exact hl
   obtain ⟨h1,h2⟩:=hH.bd i w l hl'
   exact ⟨by rw[List.length_append];omega,fun r w' hr=>h2 r w' (by rwa [List.getElem?_append_left hi] at hr)⟩
  ·obtain ⟨j,rfl⟩:∃j,i=j+σ.length:=⟨i - σ.length,by omega⟩
   have hl':G'.T j w=some l:=by rw[←t2];exact hl
   obtain ⟨h1,h2⟩:=k2.bd j w l hl'
   refine ⟨by rw[List.length_append,List.length_map];omega,fun r w' hr hw=>?_⟩
   rw[getR] at hr
   cases hx:τ[j]? with
   | none=>rw[hx] at hr;cases hr
   | some r0=>
    rw[hx] at hr;cases hr
    rw[Res.shift_live] at hw
    exact h2 _ _ hx hw
 ·have hmap:∀(i:Nat) (es:Res),es.isMi=true→(σ++τ.map (Res.shift σ.length))[i]?=some es →
    (∃l,i < σ.length∧σ[i]?=some es∧G.T i 0=some l∧l.isnil=false∧base.size≤l.b∧l.b < h.size∧l.off=0∧∃o,h'[l.b]?=some o∧MiRel ⟨G'.g,T⟩ es o) ∨
    (∃j l,i=j+σ.length∧(∃es0,es0.isMi=true∧τ[j]?=some es0)∧G'.T j 0=some l∧l.isnil=false∧h.size≤l.b∧l.off=0∧∃o,h'[l.b]?=some o∧MiRel ⟨G'.g,T⟩ es o):=by
   intro i es hmi hi
   rcases split i (List.getElem?_eq_some_iff.1 hi).1 with hlt|⟨j,rfl⟩
   ·rw[List.getElem?_append_left hlt] at hi
    obtain ⟨l,a1,a2,a3,a0,o,a4,a5⟩:=hH.maps.mp i es hmi hi
    have hlb:=(Array.getElem?_eq_some_iff.1 a4).1
    exact .inl ⟨l,hlt,hi,a1,a2,a3,hlb,a0,o,by rw[k2.keep _ hlb];exact a4,a5.mono hle.g hle.T⟩
   ·rw[getR] at hi
    cases hx:τ[j]? with
    | none=>rw[hx] at hi;cases hi
    | some r=>
     rw[hx] at hi
     cases r with
     | map es0=>
      cases hi
      obtain ⟨l,a1,a2,a3,a0,o,a4,a5⟩:=k2.maps.mp j _ rfl hx
      obtain ⟨en,c,rfl,a5⟩:=a5.ofMap
      exact .inr ⟨j,l,rfl,⟨_,rfl,hx⟩,a1,a2,a3,a0,_,a4,kv_shift a5⟩
     | itr s pos=>
      cases hi
      obtain ⟨l,a1,a2,a3,a0,o,a4,a5⟩:=k2.maps.mp j _ rfl hx
      cases a5.ofItr
      exact .inr ⟨j,l,rfl,⟨_,rfl,hx⟩,a1,a2,a3,a0,_,a4,⟨rfl,rfl⟩⟩
     | _=>simp[Res.shift] at hi;rw[←hi] at hmi;cases hmi
  refine ⟨fun i es hm1 hi=>?_,fun i j es es' l m hij hm1 hm2 hi hj (hl:T i 0=some l) (hm:T j 0=some m)=>?_⟩
  ·rcases hmap i es hm1 hi with ⟨l,a1,a2,a3,a4,a5,a6,a7⟩|⟨j,l,rfl,⟨_,g2,a2⟩,a3,a4,a5,a7⟩
   ·exact ⟨l,(t1 i 0 a1).trans a3,a4,a5,a7⟩
   ·exact ⟨l,(t2 j 0).trans a3,a4,by omega,a7⟩
  ·rcases hmap i es hm1 hi with ⟨l0,a1,a2,a3,a4,a5,a6,a7⟩|⟨i',l0,rfl,⟨_,g1,a2⟩,a3,a4,a5,a7⟩<;>rcases hmap j es' hm2 hj with ⟨m0,b1,b2,b3,b4,b5,b6,b7⟩|⟨j',m0,rfl,⟨_,g2,b2⟩,b3,b4,b5,b7⟩
   ·have e1:=(t1 i 0 a1).trans a3
    have e2:=(t1 j 0 b1).trans b3
    rw[hl] at e1;cases e1
    rw[hm] at e2;cases e2
    exact hH.maps.dj i j es es' l m hij hm1 hm2 a2 b2 a3 b3
   ·have e1:=(t1 i 0 a1).trans a3
    have e2:=(t2 j' 0).trans b3
    rw[hl] at e1;cases e1
    rw[hm] at e2;cases e2
    omega
   ·have e1:=(t2 i' 0).trans a3
    have e2:=(t1 j 0 b1).trans b3
    rw[hl] at e1;cases e1
    rw[hm] at e2;cases e2
    omega
   ·have e1:=(t2 i' 0).trans a3
    have e2:=(t2 j' 0).trans b3
    rw[hl] at e1;cases e1
    rw[hm] at e2;cases e2
    exact k2.maps.dj i' j' _ _ l m (by omega) g1 g2 a2 b2 a3 b3
end Go.Kx
namespace Go.Kx
set_option linter.unusedSectionVars false
set_option linter.unusedVariables false
set_option linter.unusedSimpArgs false
open Go
theorem AppA_mono {σ:St} {sz m:Nat} {news:List AV} {K K':AV→St→Prop} (hk:∀a σ,K a σ→K' a σ) {x:AV} (H:AppA σ sz m news K x):AppA σ sz m news K' x:=by
 unfold AppA at *
 split at H
 ·refine ⟨H.1,?_⟩
  have H2:=H.2
  split at H2
  ·rcases H2 with h|⟨h0,h⟩|h
   ·exact .inl (hk _ _ h)
   ·exact .inr (.inl ⟨h0,hk _ _ h⟩)
   ·exact .inr (.inr (hk _ _ h))
  ·rcases H2 with h|h
   ·exact .inl (hk _ _ h)
   ·exact .inr (hk _ _ h)
  ·exact ⟨H2.1,H2.2.1,hk _ _ H2.2.2⟩
  ·exact H2
 ·obtain ⟨h1,h2,cs,h3,h4,h5⟩:=H
  exact ⟨h1,h2,cs,h3,h4,hk _ _ h5⟩
 ·exact H
theorem EF.awp0_mono {P:Program} {e:EF} {as:List AV} {σ:St} {K K':AV→St→Prop} (hk:∀a σ,K a σ→K' a σ) (H:e.awp0 P as σ K):e.awp0 P as σ K':=by
 unfold EF.awp0 at *
 split at H
 ·exact hk _ _ H
 ·exact H.elim (fun h=>.inl (hk _ _ h)) fun h=>.inr (hk _ _ h)
 ·obtain ⟨h1,h2,cs,h3,h4,h5⟩:=H
  exact ⟨h1,h2,cs,h3,h4,hk _ _ h5⟩
 ·obtain ⟨h1,h2,h3⟩:=H
  exact ⟨h1,h2,h3.elim (fun h=>.inl (hk _ _ h)) fun h=>.inr (hk _ _ h)⟩
 ·obtain ⟨h1,h2,h3,h4,h5,h6⟩:=H
  exact ⟨h1,h2,h3,h4,h5,hk _ _ h6⟩
 ·obtain ⟨h1,m,news,h2,h3,h4,h5,h6,h7⟩:=H
  exact ⟨h1,m,news,h2,h3,h4,h5,h6,AppA_mono hk h7⟩
 ·exact FnG.mono H hk
 ·exact ⟨H.1,FnG.mono H.2 hk⟩
 ·exact hk _ _ H
 ·obtain ⟨es,h1,ys,h2,h3⟩:=H
  exact ⟨es,h1,ys,h2,hk _ _ h3⟩
 ·obtain ⟨es,h1,v,h2,h3⟩:=H
  exact ⟨es,h1,v,h2,hk _ _ h3⟩
 ·exact hk _ _ H
 ·obtain ⟨h1,h2,s,pos,h3,h4⟩:=H
  refine ⟨h1,h2,s,pos,h3,?_⟩
  split at h4<;>rename_i hc
  ·rw[if_pos hc];exact hk _ _ h4
  ·rw[if_neg hc];exact hk _ _ h4
 ·obtain ⟨h1,n,bs,h2,h3,h4⟩:=H
  exact ⟨h1,n,bs,h2,h3,hk _ _ h4⟩
 ·obtain ⟨h1,h2,m,news,h3,h4,h5,h6,cs,h7,h8,h9⟩:=H
  exact ⟨h1,h2,m,news,h3,h4,h5,h6,cs,h7,h8,hk _ _ h9⟩
 ·exact ⟨H.1,hk _ _ H.2⟩
 ·exact H.elim
theorem EF.awp_mono {P:Program} {e:EF} {as:List AV} {σ:St} {K K':AV→St→Prop} (hk:∀a σ,K a σ→K' a σ) (H:e.awp P as σ K):e.awp P as σ K':=by
 obtain ⟨ss,H⟩:=H
 exact ⟨ss,EF.awp0_mono hk H⟩
theorem SOp.awp_mono {P:Program} {s:SOp} {ε:AEnv} {σ:St} {K K':AV→St→Prop} (hk:∀a σ,K a σ→K' a σ) (H:s.awp P ε σ K):s.awp P ε σ K':=by
 cases s with
 | pur f xs=>obtain ⟨v,h1,h2⟩:=H;exact ⟨v,h1,hk _ _ h2⟩
 | ld n x=>obtain ⟨v,h1,h2⟩:=H;exact ⟨v,h1,hk _ _ h2⟩
 | eff e xs=>exact EF.awp_mono hk H
theorem SItem.awp_mono {P:Program} {it:SItem} {ε:AEnv} {σ:St} {K K':AV→St→Prop} (hk:∀a σ,K a σ→K' a σ) (H:it.awp P ε σ K):it.awp P ε σ K':=by
 obtain ⟨dst,guard,op⟩:=it
 cases guard with
 | none=>exact SOp.awp_mono hk H
 | some g=>
  obtain ⟨s,want⟩:=g
  have H:if gselA (ε s) want then op.awp P ε σ K else K (.v undef) σ:=H
  show if gselA (ε s) want then op.awp P ε σ K' else K' (.v undef) σ
  split at H
  ·rename_i hc;rw[if_pos hc];exact SOp.awp_mono hk H
  ·rename_i hc;rw[if_neg hc];exact hk _ _ H
theorem goRA_mono {P:Program}:∀(t:RT) {K K':AEnv→St→Prop} {ε:AEnv} {σ:St},(∀ε σ,K ε σ→K' ε σ)→goRA P t ε σ K→goRA P t ε σ K':=by
 intro t
 induction t with
 | done=>intro K K' ε σ hk H;exact hk _ _ H
 | run it rest ih=>intro K K' ε σ hk H;exact SItem.awp_mono (fun a σ' h=>ih hk h) H
 | eff it held rest ih=>intro K K' ε σ hk H;exact SItem.awp_mono (fun a σ' h=>⟨h.1,ih hk h.2⟩) H
 | both a b iha ihb=>intro K K' ε σ hk H;exact ⟨iha hk H.1,ihb hk H.2⟩
theorem wpA_mono {P:Program}:∀(c:SCode) {K K':AEnv→St→Prop} {X X':Nat→AEnv→St→Prop} {R R':AEnv→St→Prop} {ε:AEnv} {σ:St},(∀ε σ,K ε σ→K' ε σ)→(∀j ε σ,X j ε σ→X' j ε σ)→(∀ε σ,R ε σ→R' ε σ)→wpA P c K X R ε σ→wpA P c K' X' R' ε σ:=by
 intro c
 induction c with
 | skip=>intro K K' X X' R R' ε σ hk hx hr H;exact hk _ _ H
 | reg t outs=>intro K K' X X' R R' ε σ hk hx hr H;exact goRA_mono t (fun _ _=>hk _ _) H
 | seq a b iha ihb=>intro K K' X X' R R' ε σ hk hx hr H;exact iha (fun _ _=>ihb hk hx hr) hx hr H
 | cond c a b iha ihb=>
  intro K K' X X' R R' ε σ hk hx hr ⟨t,h1,h2,h3⟩
  exact ⟨t,h1,fun e=>iha hk hx hr (h2 e),fun e=>ihb hk hx hr (h3 e)⟩
 | block id c ih=>
  intro K K' X X' R R' ε σ hk hx hr H
  refine ih hk (fun j ε σ hj=>?_) hr H
  split at hj
  ·rename_i hc;rw[if_pos hc];exact hk _ _ hj
  ·rename_i hc;rw[if_neg hc];exact hx _ _ _ hj
 | loop c ih=>
  intro K K' X X' R R' ε σ hk hx hr ⟨α,I,μ,x,ε',σ',hg,h1,h2⟩
  exact ⟨α,I,μ,x,ε',σ',hg,h1,fun x ε σ hI=>ih (fun _ _ h=>h) hx hr (h2 x ε σ hI)⟩
 | exit id=>intro K K' X X' R R' ε σ hk hx hr H;exact hx _ _ _ H
 | ret=>intro K K' X X' R R' ε σ hk hx hr H;exact hr _ _ H
 | rf g ps a b iha ihb=>
  intro K K' X X' R R' ε σ hk hx hr ⟨gf,xs,vsA,ε',σ',I,h1,h2,h3,h4,h5,h6,h7,h8⟩
  exact ⟨gf,xs,vsA,ε',σ',I,h1,h2,h3,h4,h5,h6,h7,fun σ hI=>hk _ _ (h8 σ hI)⟩
section
variable {P:Program} {K:AEnv→St→Prop} {X:Nat→AEnv→St→Prop} {R:AEnv→St→Prop} {ε:AEnv} {σ:St}
theorem Qm {a b:SCode} (Q:AEnv→St→Prop) (h1:∀N:AEnv→St→Prop,(∀ε' σ',Q ε' σ'→act (N ε' σ'))→act (wpA P a N X R ε σ)) (h2:∀ε σ,Q ε σ→act (wpA P b K X R ε σ)):act (wpA P (.seq a b) K X R ε σ):=
 wpA_mono a (fun ε σ h=>h2 ε σ h) (fun _ _ _ h=>h) (fun _ _ h=>h) (h1 Q fun _ _ h=>h)
theorem Q9 {a b:SCode} (Q:AEnv→St→Prop) (h1:∀(N:AEnv→St→Prop) (X':Nat→AEnv→St→Prop) (R':AEnv→St→Prop),(∀ε' σ',Q ε' σ'→act (N ε' σ'))→act (wpA P a N X' R' ε σ)) (h2:∀ε σ,Q ε σ→act (wpA P b K X R ε σ)):act (wpA P (.seq a b) K X R ε σ):=
 Qm Q (fun N hN=>h1 N X R hN) h2
theorem Jq {id:Nat} {c:SCode} {K0:AEnv→St→Prop} {α:Type} (I:α→AEnv→St→Prop) (μ:α→Nat) (Q:AEnv→St→Prop) (x:α) (h0:I x ε σ)
  (hr:∀x ε σ (N E:AEnv→St→Prop) (X':Nat→AEnv→St→Prop) (R':AEnv→St→Prop),I x ε σ→(∀x' ε' σ',I x' ε' σ'→μ x' < μ x→act (N ε' σ'))→(∀ε' σ',Q ε' σ'→act (E ε' σ'))→act (wpA P c N (fun j ε σ=>if j=id then E ε σ else X' j ε σ) R' ε σ))
  (hK:∀ε σ,Q ε σ→act (K ε σ)):act (wpA P (.loop c) K0 (fun j ε σ=>if j=id then K ε σ else X j ε σ) R ε σ):=
 Xd I μ Q x h0 (fun x ε σ N E hI h1 h2=>hr x ε σ N E X R hI h1 h2) hK
theorem J5 {id:Nat} {c:SCode} {K0:AEnv→St→Prop} {ε0:AEnv} {σ0:St} (g:GU ε σ ε0 σ0) {α:Type} (I:α→AEnv→St→Prop) (μ:α→Nat) (Q:AEnv→St→Prop) (x:α) (h0:I x ε0 σ0)
  (hr:∀x ε σ (N E:AEnv→St→Prop) (X':Nat→AEnv→St→Prop) (R':AEnv→St→Prop),I x ε σ→(∀x' ε' σ',I x' ε' σ'→μ x' < μ x→act (N ε' σ'))→(∀ε' σ',Q ε' σ'→act (E ε' σ'))→act (wpA P c N (fun j ε σ=>if j=id then E ε σ else X' j ε σ) R' ε σ))
  (hK:∀ε σ,Q ε σ→act (K ε σ)):act (wpA P (.loop c) K0 (fun j ε σ=>if j=id then K ε σ else X j ε σ) R ε σ):=
 wpa_blg g I μ Q x h0 (fun x ε σ N E hI h1 h2=>hr x ε σ N E X R hI h1 h2) hK
end
end Go.Kx
namespace Go.Kx
set_option linter.unusedVariables false
set_option linter.unusedSimpArgs false
open Go
inductive Sh where
 | int (k:IntKind)
 | bool
 | str
 | flt (k:FloatKind)
 | sl (n:Nat) (s:Sh)
 | st (fs:Sh)
 | arr (m n:Nat) (s:Sh)
 | fnil
 | fcons (n:Nat) (s fs:Sh)
mutual
def ShOk (P:Program):Sh→TypeId→Prop
 | .int k,t=>P.underlying t=some (.int k)
 | .bool,t=>P.underlying t=some .bool
 | .str,t=>P.underlying t=some .string
 | .flt k,t=>P.underlying t=some (.float k)
 | .sl n s,t=>∃e,P.underlying t=some (.slice e)∧P.cellsOf e=n∧0 < n∧ShOk P s e
 | .st fs,t=>∃l,P.underlying t=some (.struct l)∧ShFs P fs 0 l.toList (P.cellsOf t)
 | .arr m n s,t=>∃e,P.underlying t=some (.array m e)∧P.cellsOf e=n∧P.cellsOf t=m * n∧ShOk P s e
 | _,_=>False
def ShFs (P:Program):Sh→Nat→List Field→Nat→Prop
 | .fnil,off,[],total=>off=total
 | .fcons n s fs,off,f::l,total=>f.offset=off∧P.cellsOf f.type=n∧ShOk P s f.type∧ShFs P fs (off+n) l total
 | _,_,_,_=>False
end
def Enc:Sh→List AV→Prop
 | .int k,as=>∃x,as=[.v (.int k x)]∧(Lit.int k x).wf=true
 | .bool,as=>∃b,as=[.v (.bool b)]
 | .str,as=>∃s:ByteArray,as=[.v (.string s)]∧s.size≤9223372036854775807
 | .flt k,as=>∃b,as=[.v (.float k b)]∧(Lit.float k b).wf=true
 | .sl n s,as=>∃css:List (List AV),as=[.sl css.length css.flatten .none]∧css.length≤9223372036854775807∧∀c∈css,c.length=n∧Enc s c
 | .st fs,as=>Enc fs as
 | .arr m n s,as=>∃css:List (List AV),as=css.flatten∧css.length=m∧∀c∈css,c.length=n∧Enc s c
 | .fnil,as=>as=[]
 | .fcons n s fs,as=>∃x y,as=x++y∧x.length=n∧Enc s x∧Enc fs y
theorem RelL.flatten {G:Gh}:∀{css:List (List AV)} {vss:List (List Value)},vss.length=css.length→(∀(i:Nat) (c:List AV) (u:List Value),css[i]?=some c→vss[i]?=some u→RelL G c u)→RelL G css.flatten vss.flatten:=by
 intro css
 induction css with
 | nil=>
  intro vss h _
  have:vss=[]:=List.eq_nil_of_length_eq_zero (by simpa using h)
  subst this;exact .nil G
 | cons c css ih=>
  intro vss h hr
  cases vss with
  | nil=>simp at h
  | cons v vss=>
   simp only[List.flatten_cons]
   exact (hr 0 c v rfl rfl).append (ih (by simpa using h) (fun i c u hc hu=>hr (i+1) c u (by simpa using hc) (by simpa using hu)))
theorem Jr {α β:Type} {n:Nat} {Q:Nat→α→β→Prop} (h:∀i,i < n→∃a b,Q i a b):∃(as:List α) (bs:List β),as.length=n∧bs.length=n∧∀i a b,as[i]?=some a→bs[i]?=some b→Q i a b:=by
 induction n with
 | zero=>exact ⟨[],[],rfl,rfl,fun i a b h=>by simp at h⟩
 | succ n ih=>
  obtain ⟨as,bs,h1,h2,h3⟩:=ih (fun i hi=>h i (by omega))
  obtain ⟨a,b,hab⟩:=h n (by omega)
  refine ⟨as++[a],bs++[b],by simp[h1],by simp[h2],fun i x y hx hy=>?_⟩
  by_cases hi:i < n
  ·rw[List.getElem?_append_left (by omega)] at hx hy
   exact h3 i x y hx hy
  ·have hin:i=n:=by have:=(List.getElem?_eq_some_iff.1 hx).1;simp at this;omega
   subst hin
   rw[List.getElem?_append_right (by omega)] at hx hy
   simp[h1,h2] at hx hy
   subst hx;subst hy
   exact hab
theorem flatten_at {α:Type} {n:Nat}:∀{vss:List (List α)},(∀v∈vss,v.length=n)→∀{i:Nat} {u:α},vss.flatten[i]?=some u→∃k j v,i=k * n+j∧j < n∧vss[k]?=some v∧v[j]?=some u:=by
 intro vss
 induction vss with
 | nil=>intro _ i u h;simp at h
 | cons v vss ih=>
  intro hn i u h
  have hv:=hn v (by simp)
  simp only[List.flatten_cons] at h
  by_cases hi:i < v.length
  ·rw[List.getElem?_append_left hi] at h
   exact ⟨0,i,v,by omega,by omega,rfl,h⟩
  ·rw[List.getElem?_append_right (by omega)] at h
   obtain ⟨k,j,w,h1,h2,h3,h4⟩:=ih (fun w hw=>hn w (by simp[hw])) h
   refine ⟨k+1,j,w,?_,h2,by simpa using h3,h4⟩
   rw[Nat.succ_mul];omega
theorem ShFs_le {P:Program}:∀{s:Sh} {off:Nat} {l:List Field} {total:Nat},ShFs P s off l total→off≤total:=by
 intro s
 induction s with
 | fnil=>intro off l total h;cases l with|nil=>exact Nat.le_of_eq h|cons f l=>exact h.elim
 | fcons n s fs _ ih=>intro off l total h;cases l with|nil=>exact h.elim|cons f l=>have:=ih h.2.2.2;omega
 | _=>intro off l total h;cases l<;>exact h.elim
theorem chunks {α:Type} {n:Nat}:∀{m:Nat} {l:List α},l.length=m * n→l=((List.range m).map fun i=>(l.drop (i * n)).take n).flatten:=by
 intro m
 induction m with
 | zero=>intro l h;simp at h;subst h;rfl
 | succ m ih=>
  intro l h
  rw[Nat.succ_mul] at h
  have h1:=ih (l:=l.take (m * n)) (by simp;omega)
  rw[List.range_succ,List.map_append,List.flatten_append]
  have h2:((List.range m).map fun i=>(l.drop (i * n)).take n)=(List.range m).map fun i=>((l.take (m * n)).drop (i * n)).take n:=by
   apply List.map_congr_left
   intro i hi
   have hi:i < m:=List.mem_range.1 hi
   have hle:(i+1) * n≤m * n:=Nat.mul_le_mul_right _ hi
   rw[Nat.succ_mul] at hle
   rw[List.drop_take,List.take_take,Nat.min_eq_left (by omega)]
  rw[h2,←h1]
  simp only[List.map_cons,List.map_nil,List.flatten_cons,List.flatten_nil,List.append_nil]
  rw[List.take_of_length_le (l:=l.drop (m * n)) (by simp;omega),List.take_append_drop]
theorem J6 {H:Type} {enc:TypeId×Value→H} {P:Program} {w:World} {base:Nat} {held:Bool}:∀(s:Sh),
  (∀(t:TypeId) (fuel:Nat) (cs:List Value) (x:DataW H×List MemPlace),ShOk P s t→DataW.trod enc P w base (fun _=>true) held fuel t cs=some x→∃as,Enc s as∧RelL (gAll w.heap) as cs) ∧
  (∀(off total:Nat) (l:List Field) (fuel:Nat) (cs:List Value),ShFs P s off l total→cs.length=total→(∀f∈l,∃x,DataW.trod enc P w base (fun _=>true) held fuel f.type ((cs.drop f.offset).take (P.cellsOf f.type))=some x) →
   ∃as,Enc s as∧RelL (gAll w.heap) as (cs.drop off)):=by
 intro s
 induction s with
 | int k=>
  refine ⟨fun t fuel cs x hs h=>?_,fun off total l fuel cs hs=>by cases l<;>exact hs.elim⟩
  obtain ⟨n,rfl,_,hw⟩:=DataW.trod_int hs h
  exact ⟨_,⟨n,rfl,hw⟩,.cons (.v _) (.nil _)⟩
 | bool=>
  refine ⟨fun t fuel cs x hs h=>?_,fun off total l fuel cs hs=>by cases l<;>exact hs.elim⟩
  obtain ⟨b,rfl,_⟩:=DataW.trod_bool hs h
  exact ⟨_,⟨b,rfl⟩,.cons (.v _) (.nil _)⟩
 | str=>
  refine ⟨fun t fuel cs x hs h=>?_,fun off total l fuel cs hs=>by cases l<;>exact hs.elim⟩
  obtain ⟨s,rfl,_,hsz⟩:=DataW.trod_string hs h
  have hmax:maxLen=9223372036854775807:=by decide
  exact ⟨_,⟨s,rfl,by omega⟩,.cons (.v _) (.nil _)⟩
 | flt k=>
  refine ⟨fun t fuel cs x hs h=>?_,fun off total l fuel cs hs=>by cases l<;>exact hs.elim⟩
  have hs:P.underlying t=some (.float k):=hs
  cases fuel with
  | zero=>simp[DataW.trod] at h
  | succ n=>
   unfold DataW.trod at h
   rw[hs] at h
   split at h<;>simp_all
   obtain ⟨⟨rfl,hw⟩,_⟩:=h
   exact ⟨_,⟨_,rfl,hw⟩,.cons (.v _) (.nil _)⟩
 | sl n s ih=>
  refine ⟨fun t fuel cs x hs h=>?_,fun off total l fuel cs hs=>by cases l<;>exact hs.elim⟩
  obtain ⟨e,ht,hn,h0,hse⟩:=hs
  have hmax:maxLen=9223372036854775807:=by decide
  rcases DataW.trod_slice ht h with ⟨rfl,_⟩|⟨a,len,cap,elems,rest,m,rfl,rfl,rfl,hb,hl,hm,hlen,hel,_,_⟩
  ·exact ⟨_,⟨[],rfl,by simp,by simp⟩,.cons (.sl 0 [] .none none 0 [] rfl (fun i a u h=>by simp at h) (Nat.le_refl _) (by omega) (.inl ⟨rfl,rfl⟩) trivial) (.nil _)⟩
  ·have each:∀i,i < len→∃(c:List AV) (v:List Value),(c.length=n∧Enc s c∧RelL (gAll w.heap) c v)∧∀j,j < n→w.cell? ((a.add (i * n)).add j)=v[j]?:=by
    intro i hi
    have h1:=hel i hi
    rw[hn] at h1
    have h2:i < elems.length:=by omega
    rw[List.getElem?_eq_getElem h2] at h1
    simp only[Option.bind_eq_some_iff] at h1
    obtain ⟨v,hv,hx⟩:=h1
    obtain ⟨_,hvl,hvc⟩:=World.cells?_some hv
    obtain ⟨c,hc,hr⟩:=ih.1 e m v _ hse hx
    exact ⟨c,v,⟨by rw[←hr.1,hvl],hc,hr⟩,hvc⟩
   obtain ⟨css,vss,e1,e2,e3⟩:=Jr each
   have hvn:∀v∈vss,v.length=n:=by
    intro v hv
    obtain ⟨i,hi⟩:=List.mem_iff_getElem?.1 hv
    have hlt:=(List.getElem?_eq_some_iff.1 hi).1
    have h1:=List.getElem?_eq_getElem (l:=css) (i:=i) (by omega)
    have:=(e3 i _ _ h1 hi).1
    rw[this.2.2.1,this.1]
   refine ⟨_,⟨css,rfl,by omega,?_⟩,?_⟩
   ·intro c hc
    obtain ⟨i,hi⟩:=List.mem_iff_getElem?.1 hc
    have hlt:=(List.getElem?_eq_some_iff.1 hi).1
    have h1:=List.getElem?_eq_getElem (l:=vss) (i:=i) (by omega)
    have:=(e3 i _ _ hi h1).1
    exact ⟨this.1,this.2.1⟩
   ·have hfl:=RelL.flatten (G:=gAll w.heap) (css:=css) (vss:=vss) (by omega) (fun i c u hc hu=>(e3 i c u hc hu).1.2.2)
    refine .cons ?_ (.nil _)
    rw[e1]
    refine .sl len _ .none (some a) cap vss.flatten hfl.1 hfl.2 hl (by omega) ?_ trivial
    by_cases hz:len=0
    ·left
     refine ⟨hz,?_⟩
     have:vss=[]:=List.eq_nil_of_length_eq_zero (by omega)
     rw[this];rfl
    ·right
     have hspot:a.spot=none:=by
      have hv:=List.getElem?_eq_getElem (l:=vss) (i:=0) (by omega)
      have hc:=List.getElem?_eq_getElem (l:=css) (i:=0) (by omega)
      have h1:=(e3 0 _ _ hc hv).2 0 h0
      have h2:vss[0].length=n:=hvn _ (List.getElem_mem _)
      rw[List.getElem?_eq_getElem (by omega)] at h1
      have:=(Q66 h1).1
      simpa[Addr.add] using this
     refine ⟨a.block,a.off,by obtain ⟨b,o,s⟩:=a;simp only at hspot;subst hspot;rfl,?_⟩
     intro i u hu
     obtain ⟨k,j,v,rfl,hj,hk,hju⟩:=flatten_at hvn hu
     have hkl:=(List.getElem?_eq_some_iff.1 hk).1
     have hc:=List.getElem?_eq_getElem (l:=css) (i:=k) (by omega)
     have h1:=(e3 k _ _ hc hk).2 j hj
     rw[hju,Jp a _ hspot,Jp _ _ rfl] at h1
     have:=(Q66 h1).2
     simp only at this
     show cellG (hp w.heap) a.block (a.off+(k * n+j))=some u
     rw[←Nat.add_assoc];exact this
 | st fs ih=>
  refine ⟨fun t fuel cs x hs h=>?_,fun off total l fuel cs hs=>by cases l<;>exact hs.elim⟩
  obtain ⟨l,ht,hfs⟩:=hs
  obtain ⟨xs,m,rfl,_,hlen,hxl,hat⟩:=DataW.trod_struct ht h
  obtain ⟨as,h1,h2⟩:=ih.2 0 _ l.toList m cs hfs hlen (fun f hf=>by
   obtain ⟨i,hi⟩:=List.mem_iff_getElem?.1 hf
   have hlt:=(List.getElem?_eq_some_iff.1 hi).1
   have h1:=hat i f (by simpa using hi)
   rw[List.getElem?_eq_getElem (by simp at hlt;omega)] at h1
   exact ⟨_,h1⟩)
  exact ⟨as,h1,by simpa using h2⟩
 | arr m n s ih=>
  refine ⟨fun t fuel cs x hs h=>?_,fun off total l fuel cs hs=>by cases l<;>exact hs.elim⟩
  obtain ⟨e,ht,hn,htot,hse⟩:=hs
  obtain ⟨xs,f,rfl,_,hlen,hxl,hat⟩:=DataW.trod_array ht h
  rw[htot] at hlen
  rw[hn] at hat
  have each:∀i,i < m→∃(c:List AV) (v:List Value),(c.length=n∧Enc s c∧RelL (gAll w.heap) c v)∧v=(cs.drop (i * n)).take n:=by
   intro i hi
   have h1:=hat i hi
   rw[List.getElem?_eq_getElem (by omega)] at h1
   obtain ⟨c,hc,hr⟩:=ih.1 e f _ _ hse h1
   refine ⟨c,_,⟨?_,hc,hr⟩,rfl⟩
   have hle:(i+1) * n≤m * n:=Nat.mul_le_mul_right _ hi
   rw[Nat.succ_mul] at hle
   rw[←hr.1,List.length_take,List.length_drop]
   omega
  obtain ⟨css,vss,e1,e2,e3⟩:=Jr each
  refine ⟨_,⟨css,rfl,e1,?_⟩,?_⟩
  ·intro c hc
   obtain ⟨i,hi⟩:=List.mem_iff_getElem?.1 hc
   have hlt:=(List.getElem?_eq_some_iff.1 hi).1
   have h1:=List.getElem?_eq_getElem (l:=vss) (i:=i) (by omega)
   have:=(e3 i _ _ hi h1).1
   exact ⟨this.1,this.2.1⟩
  ·have hfl:=RelL.flatten (G:=gAll w.heap) (css:=css) (vss:=vss) (by omega) (fun i c u hc hu=>(e3 i c u hc hu).1.2.2)
   have hv:vss=(List.range m).map fun i=>(cs.drop (i * n)).take n:=by
    apply List.ext_getElem?
    intro i
    by_cases hi:i < m
    ·have h1:=List.getElem?_eq_getElem (l:=vss) (i:=i) (by omega)
     have h2:=List.getElem?_eq_getElem (l:=css) (i:=i) (by omega)
     have:=(e3 i _ _ h2 h1).2
     rw[h1,this]
     simp[hi]
    ·rw[List.getElem?_eq_none (by omega),List.getElem?_eq_none (by simp;omega)]
   rw[hv,←chunks hlen] at hfl
   exact hfl
 | fnil=>
  refine ⟨fun t fuel cs x hs h=>hs.elim,fun off total l fuel cs hs hlen h=>?_⟩
  cases l with
  | nil=>
   have hs:off=total:=hs
   exact ⟨[],rfl,by rw[List.drop_of_length_le (by omega)];exact .nil _⟩
  | cons f l=>exact hs.elim
 | fcons n s fs ihs ihf=>
  refine ⟨fun t fuel cs x hs h=>hs.elim,fun off total l fuel cs hs hlen h=>?_⟩
  cases l with
  | nil=>exact hs.elim
  | cons f l=>
   obtain ⟨h1,h2,h3,h4⟩:=hs
   obtain ⟨y,hy⟩:=h f (by simp)
   rw[h1,h2] at hy
   obtain ⟨a,ha,hr⟩:=ihs.1 _ _ _ _ h3 hy
   obtain ⟨b,hb,hr2⟩:=ihf.2 _ _ _ fuel cs h4 hlen (fun g hg=>h g (by simp[hg]))
   have hle:=ShFs_le h4
   have hsum:=hr.append hr2
   rw[←List.drop_drop,List.take_append_drop] at hsum
   refine ⟨a++b,⟨a,b,rfl,?_,ha,hb⟩,hsum⟩
   rw[←hr.1,List.length_take,List.length_drop]
   omega
end Go.Kx
namespace Go.Kx
set_option linter.unusedSectionVars false
set_option linter.unusedVariables false
set_option linter.unusedSimpArgs false
open Go
@[push_cast] theorem m_app_nil {α:Type} (l:List α):[]++l=l:=rfl
@[push_cast] theorem m_app_cons {α:Type} (a:α) (k l:List α):a::k++l=a::(k++l):=rfl
theorem fzn (S:St):Go.Kx.freeze [] S=S:=rfl
theorem Js {α:Type} {l:List α} {k:Nat} {a:α} (h:l[k]?=some a):l.drop k=a::l.drop (k+1):=by
 obtain ⟨hk,rfl⟩:=List.getElem?_eq_some_iff.1 h
 exact List.drop_eq_getElem_cons hk
theorem Q09 {α:Type} {l:List α} {k:Nat} (h:k < l.length):∃a,l[k]?=some a:=⟨_,List.getElem?_eq_getElem h⟩
theorem Qe {α:Type} {l:List α} {i:Nat} {a:α} (h:l[i]?=some a):i < l.length:=(List.getElem?_eq_some_iff.1 h).1
theorem Qs {α:Type} {l:List α} {k:Nat} {a:α} (h:l[k]?=some a):l.take (k+1)=l.take k++[a]:=by
 rw[List.take_add_one,h];rfl
theorem snoc_ind {α:Type} {P:List α→Prop} (h0:P []) (hs:∀xs l,P xs→P (xs++[l])) (xs:List α):P xs:=by
 have:∀ys:List α,P ys.reverse:=by
  intro ys
  induction ys with
  | nil=>exact h0
  | cons y ys ih=>rw[List.reverse_cons];exact hs _ _ ih
 have:=this xs.reverse
 rwa [List.reverse_reverse] at this
theorem Q28 {α:Type} {f:α→List AV} {n:Nat} (hf:∀x,(f x).length=n) (l:List α):(l.flatMap f).length=l.length * n:=by
 induction l with
 | nil=>simp
 | cons a l ih=>simp only[List.flatMap_cons,List.length_append,ih,hf,List.length_cons,Nat.succ_mul];omega
theorem QH {α:Type} {f:α→List AV} {n:Nat} (hf:∀x,(f x).length=n) {l:List α}:∀{k:Nat} {a:α},l[k]?=some a→(l.flatMap f).drop (k * n)=f a++(l.drop (k+1)).flatMap f:=by
 induction l with
 | nil=>intro k a h;simp at h
 | cons b l ih=>
  intro k a h
  cases k with
  | zero=>simp at h;subst h;simp
  | succ k=>
   have:=ih (k:=k) (a:=a) (by simpa using h)
   have e:(k+1) * n=n+k * n:=by rw[Nat.succ_mul];omega
   rw[e,List.flatMap_cons,←List.drop_drop]
   have e2:(f b++l.flatMap f).drop n=l.flatMap f:=by rw[List.drop_append,List.drop_of_length_le (by rw[hf];omega),hf];simp
   rw[e2,this]
   simp
theorem both2 {A B:Prop} (h:act A) (k:act B):act (A∧B):=⟨h,k⟩
theorem Q06 {α:Type} {l:List α} {i:Nat} {a:α} (h:l[i]?=some a):l.set i a=l:=by
 obtain ⟨_,he⟩:=List.getElem?_eq_some_iff.1 h
 rw[←he];simp
theorem Q4 {σ:St} {i j:Nat} {r o:Res} (hij:i≠j) (h:σ[j]?=some r):(σ.set i o)[j]?=some r:=by rw[List.getElem?_set_ne hij];exact h
theorem Qa {σ:St} {i:Nat} {r o:Res} (h:σ[i]?=some r):(σ.set i o)[i]?=some o:=by rw[List.getElem?_set,if_pos rfl,if_pos (Qe h)]
theorem Qj {σ τ:St} {j:Nat} {r:Res} (h:σ[j]?=some r):(σ++τ)[j]?=some r:=by rw[List.getElem?_append_left (Qe h)];exact h
section
variable {P:Program} {σ:St} {K:AV→St→Prop}
theorem wpa_mkm (hk:act (K (.mp σ.length) (σ++[.map []]))):act (EF.awp P .mkm [] σ K):=EF.awp_of hk
theorem wpa_mup {ck:CK} {i:Nat} {k:Value} {x:AV} {es ys:List (Value×AV)} (hi:σ[i]?=some (.map es)) (hp:putM ck k x es=some ys) (hk:act (K (.v undef) (σ.set i (.map ys)))):act (EF.awp P (.mup ck) [.mp i,.v k,x] σ K):=
 EF.awp_of ⟨es,hi,ys,hp,hk⟩
theorem J80 {ck:CK} {z k:Value} {v:AV} {i:Nat} {es:List (Value×AV)} (hi:σ[i]?=some (.map es)) (hg:getM ck (absV z) k es=some v) (hk:act (K v σ)):act (EF.awp P (.mlk ck z) [.mp i,.v k] σ K):=
 EF.awp_of ⟨es,hi,v,hg,hk⟩
end
theorem enc_sl {α:Type} {f:α→List AV} {n:Nat} {s:Sh} (hs:∀c,Enc s c→∃x:α,c=f x) {cs:List AV} (h:Enc (.sl n s) cs):∃l:List α,cs=[aSlN f l]∧l.length≤9223372036854775807:=by
 obtain ⟨css,rfl,hl,hc⟩:=h
 have:∃l:List α,css=l.map f:=by
  clear hl
  induction css with
  | nil=>exact ⟨[],rfl⟩
  | cons c css ih=>
   obtain ⟨l,hl⟩:=ih fun d hd=>hc d (by simp[hd])
   obtain ⟨x,hx⟩:=hs c (hc c (by simp)).2
   exact ⟨x::l,by rw[hl,hx];rfl⟩
 obtain ⟨l,rfl⟩:=this
 exact ⟨l,by simp[aSlN,List.flatMap],by simpa using hl⟩
theorem flat_one {α:Type} (f:α→AV):∀l:List α,l.flatMap (fun x=>[f x])=l.map f:=by
 intro l
 induction l with
 | nil=>rfl
 | cons a l ih=>rw[List.flatMap_cons,ih];rfl
def shN:Sh:=.int .i64
theorem Q14 {c:List AV} (h:Enc shN c):∃x:Int,c=[aInt x]∧-9223372036854775808≤x∧x≤9223372036854775807:=by
 obtain ⟨x,rfl,hx⟩:=h
 refine ⟨x,rfl,?_⟩
 have:decide (IntKind.min .i64≤x)=true∧decide (x≤IntKind.max .i64)=true:=by simpa[Lit.wf] using hx
 exact ⟨of_decide_eq_true this.1,of_decide_eq_true this.2⟩
theorem enc_sl1 {α:Type} {f:α→AV} {s:Sh} (hs:∀c,Enc s c→∃x:α,c=[f x]) {cs:List AV} (h:Enc (.sl 1 s) cs):∃l:List α,cs=[aSl f l]∧l.length≤9223372036854775807:=by
 obtain ⟨l,rfl,hl⟩:=enc_sl (f:=fun x=>[f x]) hs h
 exact ⟨l,by simp only[aSlN,aSl,flat_one],hl⟩
theorem wz:((∀i:Decidable True,@decide True i=true)∧(∀i:Decidable False,@decide False i=false)∧(!true)=false∧(!false)=true∧(∀b:Bool,(!!b)=b) ∧
  (∀(α:Type) (a:α),(some a).isNone=false)∧(∀α:Type,(none:Option α).isNone=true)) ∧
  ((∀(α:Type) (l:List α),l.drop 0=l)∧(∀(α:Type) (a:α) (l:List α) (i:Nat),(a::l).drop (i+1)=l.drop i)∧(∀(α:Type) (a:α) (l:List α),(a::l)[0]?=some a)∧(∀(α:Type) (a:α) (l:List α) (i:Nat),(a::l)[i+1]?=l[i]?) ∧
  (∀(α:Type) (a:α) (l:List α),(a::l).length=l.length+1)∧(∀α:Type,([]:List α).length=0)∧(∀(α:Type) (a:α) (l:List α) (i:Nat),(a::l).take (i+1)=a::l.take i)∧(∀(α:Type) (l:List α),l.take 0=[]) ∧
  (∀(α β:Type) (f:α→β) (l:List α) (i:Nat),(l.map f)[i]?=l[i]?.map f)∧(∀(α:Type) (l:List α) (i j:Nat),(l.drop i)[j]?=l[i+j]?)∧(∀(α:Type) (l:List α) (i j:Nat),(l.take i)[j]?=if j < i then l[j]? else none) ∧
  (∀(α β:Type) (f:α→β) (l:List α),(l.map f).length=l.length)∧(∀(α β:Type) (f:α→β) (a:α),(some a).map f=some (f a))∧(∀(α:Type) (a b:α) (l:List α),(a::l).set 0 b=b::l)∧(∀(α:Type) (a b:α) (l:List α) (i:Nat),(a::l).set (i+1) b=a::l.set i b) ∧
  (∀(α β:Type) (f:α→List β) (a:α) (l:List α),(a::l).flatMap f=f a++l.flatMap f)∧(∀(α β:Type) (f:α→List β),([]:List α).flatMap f=[])) ∧
  ((∀n:Nat,n * 1=n)∧(∀n:Nat,0+n=n)∧(∀n:Nat,n+0=n)∧(∀n:Nat,1 * n=n)∧(∀n:Nat,0 * n=0)∧(∀p:Prop,(p∧True)=p)∧(∀p:Prop,(True∧p)=p)):=by
 refine ⟨⟨by simp,by simp,rfl,rfl,by simp,fun _ _=>rfl,fun _=>rfl⟩,⟨fun _ _=>rfl,fun _ _ _ _=>rfl,fun _ _ _=>rfl,fun _ _ _ _=>rfl,fun _ _ _=>rfl,fun _=>rfl,fun _ _ _ _=>rfl,fun _ _=>by simp,fun _ _ _ _ _=>by simp,fun _ _ _ _=>by simp,fun _ _ _ _=>List.getElem?_take,
  fun _ _ _ _=>by simp,fun _ _ _ _=>rfl,fun _ _ _ _=>rfl,fun _ _ _ _ _=>rfl,fun _ _ _ _ _=>by simp,fun _ _ _=>rfl⟩,⟨by simp,by simp,by simp,by simp,by simp,by simp,by simp⟩⟩
end Go.Kx
attribute [push_cast] eq_self iff_self Go.Kx.wz
namespace Go.Proofs.YtelibaobkcokdaaGreat
set_option linter.unusedVariables false
set_option linter.unusedSimpArgs false
open Go Go.Kx Go.Proofs
structure Ix where
 op:Int
 a:Int
 b:Int
 c:Int
 deriving DecidableEq
def tgtX (x:Ix):Option Int:=if x.op=18 then some x.a else if x.op=19 then some x.b else none
def endsX (x:Ix):Bool:=decide (x.op=0∨x.op=18∨x.op=25)
structure Rt (l:List Ix):Prop where
 pos:0 < l.length
 tg:∀(i:Nat) (x:Ix) (t:Int),l[i]?=some x→tgtX x=some t→0≤t∧t < l.length
 last:∀x:Ix,l[l.length - 1]?=some x→endsX x=true
end Go.Proofs.YtelibaobkcokdaaGreat
namespace Go.Kx
set_option linter.unusedSectionVars false
set_option linter.unusedVariables false
set_option linter.unusedSimpArgs false
open Go
theorem str_ext {a b:ByteArray} (h:a.data.toList=b.data.toList):a=b:=by
 cases a;cases b;simp at h;simp[h]
theorem str_beq (a b:ByteArray):(a.toList==b.toList)=decide (a=b):=by
 rw[ByteArray.toList_eq,ByteArray.toList_eq,Bool.eq_iff_iff]
 simp only[beq_iff_eq,decide_eq_true_eq]
 exact ⟨str_ext,fun h=>by rw[h]⟩
@[push_cast] theorem pv_str_eq (a b:ByteArray):PF.val (.bin .eql) [.string a,.string b]=some (.bool (decide (a=b))):=by
 simp[PF.val,binV,binS,str_beq]
theorem pv_str_ix {s:ByteArray} {k:IntKind} {i:Int} {b:UInt8} (h0:0≤i) (h:s.data.toList[i.toNat]?=some b):PF.val .ixs [.string s,.int k i]=some (.int .u8 b.toNat):=by
 simp only[PF.val,if_pos h0,h]
 rfl
@[push_cast] theorem pv_sls_lh (s:ByteArray) (k k':IntKind) (i j:Int) (h0:0≤i) (h1:i≤j) (h2:j≤s.size):PF.val (.sls true true) [.string s,.int k i,.int k' j]=some (.string (s.extract i.toNat j.toNat)):=by
 simp[PF.val,loHi,J2 s.size k' j (by omega) h2,J2 j.toNat k i h0 (by omega)]
theorem str_size (s:ByteArray):s.size=s.data.toList.length:=by cases s;rfl
theorem str_one {s:ByteArray} {i:Nat} {b:UInt8} (h:s.data.toList[i]?=some b):s.extract i (i+1)=⟨#[b]⟩:=by
 apply str_ext
 rw[ByteArray.data_extract,Array.toList_extract,List.extract_eq_take_drop]
 have:s.data.toList.drop i=b::s.data.toList.drop (i+1):=Js h
 rw[this,show i+1 - i=1 by omega]
 rfl
section
variable {P:Program} {σ:St} {K:AV→St→Prop}
end
theorem Jt {P:Program} {a b:SCode} {K:AEnv→St→Prop} {X:Nat→AEnv→St→Prop} {R:AEnv→St→Prop} {ε:AEnv} {σ:St} (h:∀N:AEnv→St→Prop,N=(fun ε σ=>wpA P b K X R ε σ)→act (wpA P a N X R ε σ)):act (wpA P (.seq a b) K X R ε σ):=h _ rfl
theorem Q89 {P:Program} {id:Nat} {c:SCode} {K:AEnv→St→Prop} {X:Nat→AEnv→St→Prop} {R:AEnv→St→Prop} {ε:AEnv} {σ:St} (h:∀X':Nat→AEnv→St→Prop,X'=(fun j ε σ=>if j=id then K ε σ else X j ε σ)→act (wpA P c K X' R ε σ)):act (wpA P (.block id c) K X R ε σ):=h _ rfl
end Go.Kx
namespace Go.Kx
set_option linter.unusedVariables false
set_option linter.unusedSimpArgs false
open Go
def isK:SItem→Bool
 | ⟨some d,none,.ld _ (.tmp t)⟩=>d != t
 | _=>false
def sameLd:SItem→SItem→Bool
 | ⟨some d,none,.ld n (.tmp t)⟩,⟨some d',none,.ld n' (.tmp t')⟩=>d==d'&&n==n'&&t==t'
 | _,_=>false
def indep (dst:Option Nat):SItem→Bool
 | ⟨some d,none,.ld _ (.tmp t)⟩=>dst != some d&&dst != some t
 | _=>false
def isAlloc (it:SItem):Bool:=it.guard.isNone&&match it.op with|.eff (.new _ _) _=>true|.eff (.bsl _ _) _=>true|_=>false
def RT.slim:RT→List SItem→RT
 | .done,_=>.done
 | .run it rest,kn=>.run it (rest.slim (if it.isEff then [] else if isK it then it::kn.filter (indep it.dst) else kn.filter (indep it.dst)))
 | .eff it held rest,kn=>
  if isAlloc it then .eff it (held.filter fun q=>!(kn.filter (indep it.dst)).any (sameLd · q)) (rest.slim (kn.filter (indep it.dst)))
  else .eff it held (rest.slim [])
 | .both a b,kn=>.both (a.slim kn) (b.slim kn)
def SCode.slim:SCode→SCode
 | .reg t outs=>.reg (t.slim []) outs
 | .seq a b=>.seq a.slim b.slim
 | .cond c a b=>.cond c a.slim b.slim
 | .block id c=>.block id c.slim
 | .loop c=>.loop c.slim
 | c=>c
def Fun.slim (F:Fun):Fun:={ F with code:=F.code.slim }
theorem sameLd_eq {a b:SItem} (h:sameLd a b=true):a=b:=by
 unfold sameLd at h
 split at h
 ·simp only[Bool.and_eq_true,beq_iff_eq] at h
  obtain ⟨⟨rfl,rfl⟩,rfl⟩:=h
  rfl
 ·cases h
theorem J46 {dst:Option Nat} {k:SItem} (h:indep dst k=true):∃d n t,k=⟨some d,none,.ld n (.tmp t)⟩∧dst≠some d∧dst≠some t:=by
 unfold indep at h
 split at h
 ·simp only[Bool.and_eq_true,bne_iff_ne] at h
  exact ⟨_,_,_,rfl,h.1,h.2⟩
 ·cases h
theorem Q01 {ε:Env} {dst:Option Nat} {v:Value} {s:Nat} (h:dst≠some s):(ε.put dst v) s=ε s:=by
 cases dst with
 | none=>rfl
 | some d=>
  simp only[Env.put,Env.set]
  rw[if_neg]
  rintro rfl
  exact h rfl
theorem holds_put {k:SItem} {dst:Option Nat} {v:Value} {ε:Env} {h:Heap} (hi:indep dst k=true) (hk:k.holds ε h):k.holds (ε.put dst v) h:=by
 obtain ⟨d,n,t,rfl,h1,h2⟩:=J46 hi
 obtain ⟨u,hu,hd⟩:=hk
 refine ⟨u,?_,fun d' e=>?_⟩
 ·simp only[SItem.qval,SOp.qv,ev] at hu ⊢
  rw[Q01 h2];exact hu
 ·cases e
  rw[Q01 h1]
  exact hd d rfl
theorem cellsG_push {h:Heap} {o:Obj} {b:Nat}:∀{n off:Nat} {l:List Value},cellsG (hp h) b off n=some l→cellsG (hp (h.push o)) b off n=some l:=by
 intro n
 induction n with
 | zero=>intro off l hl;exact hl
 | succ n ih=>
  intro off l hl
  simp only[cellsG] at hl ⊢
  cases hc:cellG (hp h) b off with
  | none=>rw[hc] at hl;cases hl
  | some v=>
   rw[hc] at hl
   rw[X23 (Zx hc),hc]
   simp only at hl ⊢
   cases hr:cellsG (hp h) b (off+1) n with
   | none=>rw[hr] at hl;cases hl
   | some r=>rw[ih hr];rw[hr] at hl;exact hl
theorem ldV_push {h:Heap} {o:Obj} {n:Option Nat} {u v:Value} (hv:ldV n u (hp h)=some v):ldV n u (hp (h.push o))=some v:=by
 unfold ldV at hv ⊢
 split at hv
 ·split at hv
  ·rw[X23 (Zx hv)];exact hv
  ·simp only[Option.map_eq_some_iff] at hv ⊢
   obtain ⟨l,h1,h2⟩:=hv
   exact ⟨l,cellsG_push h1,h2⟩
 ·cases hv
theorem holds_push {k:SItem} {ε:Env} {h:Heap} {o:Obj} {dst:Option Nat} (hi:indep dst k=true) (hk:k.holds ε h):k.holds ε (h.push o):=by
 obtain ⟨d,n,t,rfl,_,_⟩:=J46 hi
 obtain ⟨u,hu,hd⟩:=hk
 refine ⟨u,?_,hd⟩
 simp only[SItem.qval,SOp.qv] at hu ⊢
 exact ldV_push hu
theorem Y9 {P:Program} {s:SOp} {ε:Env} {h:Heap} {K K':Value→Heap→Prop} (hk:∀v h,K v h→K' v h) (H:s.wp P ε h K):s.wp P ε h K':=by
 cases s with
 | pur f xs=>obtain ⟨v,h1,h2⟩:=H;exact ⟨v,h1,hk _ _ h2⟩
 | ld n x=>obtain ⟨v,h1,h2⟩:=H;exact ⟨v,h1,hk _ _ h2⟩
 | eff e xs=>exact EF.wp_mono hk H
theorem slim_sound {P:Program}:∀(rt:RT) (kn:List SItem) (ε:Env) (h:Heap) (K:Env→Heap→Prop),(∀q∈kn,q.holds ε h)→goR P (rt.slim kn) ε h K→goR P rt ε h K:=by
 intro rt
 induction rt with
 | done=>intro kn ε h K _ H;exact H
 | both a b iha ihb=>intro kn ε h K hk H;exact ⟨iha kn ε h K hk H.1,ihb kn ε h K hk H.2⟩
 | run it rest ih=>
  intro kn ε h K hk H
  simp only[RT.slim,goR] at H ⊢
  have key:∀v,(∀q∈kn.filter (indep it.dst),q.holds (ε.put it.dst v) h):=fun v q hq=>by
   obtain ⟨h1,h2⟩:=List.mem_filter.1 hq
   exact holds_put h2 (hk q h1)
  have nn:∀(e:Env) (h':Heap),∀q∈([]:List SItem),q.holds e h':=fun _ _ q hq=>by simp at hq
  obtain ⟨dst,g,op⟩:=it
  cases op with
  | eff e xs=>
   have hE:SItem.isEff ⟨dst,g,.eff e xs⟩=true:=rfl
   rw[hE,if_pos rfl] at H
   unfold SItem.wp at H ⊢
   cases g with
   | none=>exact Y9 (fun v h' H=>ih [] (ε.put dst v) h' K (nn _ _) H) H
   | some g=>
    simp only at H ⊢
    split
    ·rename_i hs
     rw[if_pos hs] at H
     exact Y9 (fun v h' H=>ih [] (ε.put dst v) h' K (nn _ _) H) H
    ·rename_i hs
     rw[if_neg hs] at H
     exact ih [] _ _ _ (nn _ _) H
  | pur f xs=>
   have hE:SItem.isEff ⟨dst,g,.pur f xs⟩=false:=rfl
   have hK:isK ⟨dst,g,.pur f xs⟩=false:=by unfold isK;split;simp_all;rfl
   rw[hE,hK] at H
   simp only[Bool.false_eq_true,if_false] at H
   unfold SItem.wp at H ⊢
   cases g with
   | none=>obtain ⟨v,h1,h2⟩:=H;exact ⟨v,h1,ih _ _ _ _ (key v) h2⟩
   | some g=>
    simp only at H ⊢
    split
    ·rename_i hs
     rw[if_pos hs] at H
     obtain ⟨v,h1,h2⟩:=H
     exact ⟨v,h1,ih _ _ _ _ (key v) h2⟩
    ·rename_i hs
     rw[if_neg hs] at H
     exact ih _ _ _ _ (key undef) H
  | ld n x=>
   have hE:SItem.isEff ⟨dst,g,.ld n x⟩=false:=rfl
   rw[hE] at H
   simp only[Bool.false_eq_true,if_false] at H
   unfold SItem.wp at H ⊢
   cases g with
   | some g=>
    have hK:isK ⟨dst,some g,.ld n x⟩=false:=by unfold isK;split;simp_all;rfl
    rw[hK] at H
    simp only[Bool.false_eq_true,if_false] at H ⊢
    split
    ·rename_i hs
     rw[if_pos hs] at H
     obtain ⟨v,h1,h2⟩:=H
     exact ⟨v,h1,ih _ _ _ _ (key v) h2⟩
    ·rename_i hs
     rw[if_neg hs] at H
     exact ih _ _ _ _ (key undef) H
   | none=>
    obtain ⟨v,h1,h2⟩:=H
    refine ⟨v,h1,?_⟩
    cases hK:isK ⟨dst,none,.ld n x⟩ with
    | false=>
     rw[hK] at h2
     exact ih _ _ _ _ (key v) h2
    | true=>
     rw[hK] at h2
     refine ih _ _ _ _ (fun q hq=>?_) h2
     rcases List.mem_cons.1 hq with rfl|hq
     ·unfold isK at hK
      split at hK
      ·rename_i d m t heq
       cases heq
       have hdt:d≠t:=by simpa using hK
       refine ⟨v,?_,fun d' e=>by cases e;simp[Env.put,Env.set]⟩
       simp only[SItem.qval,SOp.qv,ev] at h1 ⊢
       rw[Q01 (by simpa using hdt)]
       exact h1
      ·cases hK
     ·exact key v q hq
 | eff it held rest ih=>
  intro kn ε h K hk H
  have nn:∀(e:Env) (h':Heap),∀q∈([]:List SItem),q.holds e h':=fun _ _ q hq=>by simp at hq
  simp only[RT.slim] at H
  cases ha:isAlloc it with
  | true=>
   rw[ha] at H
   simp only[if_true] at H
   obtain ⟨dst,g,op⟩:=it
   unfold isAlloc at ha
   simp only[Bool.and_eq_true] at ha
   obtain ⟨hg,ho⟩:=ha
   cases g with
   | some g=>simp at hg
   | none=>
    have step:∀v o,((∀q∈held.filter fun q=>!(kn.filter (indep dst)).any (sameLd · q),q.holds (ε.put dst v) (h.push o))∧goR P (rest.slim (kn.filter (indep dst))) (ε.put dst v) (h.push o) K) →
      ((∀q∈held,q.holds (ε.put dst v) (h.push o))∧goR P rest (ε.put dst v) (h.push o) K):=by
     intro v o ⟨h1,h2⟩
     have hkn:∀q∈kn.filter (indep dst),q.holds (ε.put dst v) (h.push o):=fun q hq=>by
      obtain ⟨a,b⟩:=List.mem_filter.1 hq
      exact holds_push b (holds_put b (hk q a))
     refine ⟨fun q hq=>?_,ih _ _ _ _ hkn h2⟩
     cases hany:(kn.filter (indep dst)).any (sameLd · q) with
     | true=>
      obtain ⟨k,hk1,hk2⟩:=List.any_eq_true.1 hany
      rw[←sameLd_eq hk2]
      exact hkn k hk1
     | false=>exact h1 q (List.mem_filter.2 ⟨hq,by rw[hany];rfl⟩)
    split at ho
    ·rename_i T z xs
     simp only[goR,SItem.wp,SOp.wp] at H ⊢
     unfold EF.wp at H ⊢
     cases hxs:xs.map (ev ε) with
     | nil=>rw[hxs] at H;exact step _ _ H
     | cons a as=>rw[hxs] at H;exact H
    ·rename_i E sz xs
     simp only[goR,SItem.wp,SOp.wp] at H ⊢
     unfold EF.wp at H ⊢
     exact ⟨H.1,step _ _ H.2⟩
    ·cases ho
  | false=>
   rw[ha] at H
   simp only[Bool.false_eq_true,if_false,goR] at H ⊢
   unfold SItem.wp at H ⊢
   cases hg:it.guard with
   | none=>
    rw[hg] at H
    simp only at H ⊢
    cases hop:it.op with
    | pur f xs=>rw[hop] at H;obtain ⟨v,h1,h2,h3⟩:=H;exact ⟨v,h1,h2,ih [] _ _ _ (nn _ _) h3⟩
    | ld n x=>rw[hop] at H;obtain ⟨v,h1,h2,h3⟩:=H;exact ⟨v,h1,h2,ih [] _ _ _ (nn _ _) h3⟩
    | eff e xs=>rw[hop] at H;exact Y9 (K:=fun v h'=>(∀q∈held,q.holds (ε.put it.dst v) h')∧goR P (rest.slim []) (ε.put it.dst v) h' K) (fun v h' H=>⟨H.1,ih [] _ _ _ (nn _ _) H.2⟩) H
   | some g=>
    rw[hg] at H
    simp only at H ⊢
    split
    ·rename_i hs
     rw[if_pos hs] at H
     cases hop:it.op with
     | pur f xs=>rw[hop] at H;obtain ⟨v,h1,h2,h3⟩:=H;exact ⟨v,h1,h2,ih [] _ _ _ (nn _ _) h3⟩
     | ld n x=>rw[hop] at H;obtain ⟨v,h1,h2,h3⟩:=H;exact ⟨v,h1,h2,ih [] _ _ _ (nn _ _) h3⟩
     | eff e xs=>rw[hop] at H;exact Y9 (K:=fun v h'=>(∀q∈held,q.holds (ε.put it.dst v) h')∧goR P (rest.slim []) (ε.put it.dst v) h' K) (fun v h' H=>⟨H.1,ih [] _ _ _ (nn _ _) H.2⟩) H
    ·rename_i hs
     rw[if_neg hs] at H
     exact ⟨H.1,ih [] _ _ _ (nn _ _) H.2⟩
theorem slimS_sound {P:Program}:∀(c:SCode) {K:Env→Heap→Prop} {X:Nat→Env→Heap→Prop} {R:Env→Heap→Prop} {ρ:Env} {h:Heap},wpS P c.slim K X R ρ h→wpS P c K X R ρ h:=by
 intro c
 induction c with
 | skip=>intro K X R ρ h H;exact H
 | reg t outs=>intro K X R ρ h H;exact slim_sound t [] _ _ _ (fun q hq=>by simp at hq) H
 | seq a b iha ihb=>intro K X R ρ h H;exact Zy a (fun _ _ H=>ihb H) (fun _ _ _ h=>h) (fun _ _ h=>h) (iha H)
 | cond c a b iha ihb=>intro K X R ρ h H;obtain ⟨t,h1,h2,h3⟩:=H;exact ⟨t,h1,fun e=>iha (h2 e),fun e=>ihb (h3 e)⟩
 | block id c ih=>intro K X R ρ h H;exact ih H
 | loop c ih=>intro K X R ρ h H;obtain ⟨α,I,μ,x,h1,h2⟩:=H;exact ⟨α,I,μ,x,h1,fun x ρ h hI=>ih (h2 x ρ h hI)⟩
 | exit id=>intro K X R ρ h H;exact H
 | ret=>intro K X R ρ h H;exact H
 | rf g ps a b iha ihb=>intro K X R ρ h H;exact H
theorem J81 {P:Program} {f:FuncId} {F:Fun} (hk:(compF P f).map Fun.slim=some F) (hm:P.follows .mixedOrders=true) {as:List AV} {σ:St} {R:AV→St→Prop} (ha:Nat.ble as.length F.N=true)
  (H:act (wpA P F.code (postA F.res R) (fun _ _ _=>False) (postA F.res R) (initA as) σ)):FnG P f as σ R:=by
 obtain ⟨F0,hk0,rfl⟩:=Option.map_eq_some_iff.1 hk
 intro base G h vs hH hL
 refine J71 hk0 hm (by rw[hL.1];exact Nat.le_of_ble_eq_true ha) ?_
 have hE:RelE G (initA as) (initE vs):=by
  intro t
  unfold initA initE
  simp only[List.getD_eq_getElem?_getD]
  by_cases ht:t < as.length
  ·have h1:=List.getElem?_eq_getElem ht
   have h2:vs[t]?=some (vs[t]'(by rw[hL.1];exact ht)):=List.getElem?_eq_getElem _
   rw[h1,h2]
   exact hL.2 t _ _ h1 h2
  ·rw[List.getElem?_eq_none (by omega),List.getElem?_eq_none (by rw[hL.1];omega)]
   exact .v _
 have hpost:∀ρ h',Real base G (postA F0.res R) ρ h'→post h.size F0.res (fun r h'=>∃G' a σ',Gh.le base.size G G'∧RelH base G' h' σ'∧RelV G' a r∧R a σ') ρ h':=by
  rintro ρ h' ⟨G',ε,σ',l,H',E',as',h1,h2⟩
  obtain ⟨vs',h3,h4⟩:=res_sound H' E' F0.res h1
  refine ⟨vs',h3,fun h2' hgr=>⟨G',_,σ',l,H'.growD hH.size hgr,?_,h2⟩⟩
  unfold resA resV
  match as',vs',h4 with
  | [],vs',h4=>rw[h4.nil_inv];exact .tup [] [] rfl (fun i a u h=>by simp at h)
  | [a],vs',h4=>
   obtain ⟨u,us,rfl,h5,h6⟩:=h4.cons_inv
   rw[h6.nil_inv];exact h5
  | a::b::cs,vs',h4=>
   obtain ⟨u,us,rfl,h5,h6⟩:=h4.cons_inv
   obtain ⟨w,ws,rfl,h7,h8⟩:=h6.cons_inv
   exact .tup _ _ h4.1 h4.2
 exact slimS_sound F0.code (Zy _ hpost (fun _ _ _ ⟨_,_,_,_,_,_,h⟩=>h.elim) hpost (wpA_sound F0.slim.code hH hE H))
mutual
def AV.low (n:Nat):AV→Bool
 | .v _=>true
 | .agg xs=>AV.lowL n xs
 | .tup xs=>AV.lowL n xs
 | .sl _ cs t=>(match t with|.id i _ _=>decide (i < n)|_=>true)&&AV.lowL n cs
 | .ep cs=>AV.lowL n cs
 | .ref i _ _=>decide (i < n)
 | .ms i _ _ _ _=>decide (i < n)
 | .fn _ _ xs=>AV.lowL n xs
 | .ifc _ x=>AV.low n x
 | .mp i=>decide (i < n)
def AV.lowL (n:Nat):List AV→Bool
 | []=>true
 | x::xs=>AV.low n x&&AV.lowL n xs
end
theorem lowL_all (n:Nat) (xs:List AV):AV.lowL n xs=xs.all (AV.low n):=by
 induction xs with
 | nil=>rfl
 | cons x xs ih=>simp[AV.lowL,ih]
theorem Z92 {n:Nat} {xs:List AV} (h:AV.lowL n xs=true) {i:Nat} {a:AV} (ha:xs[i]?=some a):a.low n=true:=by
 rw[lowL_all,List.all_eq_true] at h
 exact h a (List.mem_of_getElem? ha)
theorem lowL_of {n:Nat} {xs:List AV} (h:∀(i:Nat) (a:AV),xs[i]?=some a→a.low n=true):AV.lowL n xs=true:=by
 rw[lowL_all,List.all_eq_true]
 intro a ha
 obtain ⟨i,hi⟩:=List.mem_iff_getElem?.1 ha
 exact h i a hi
def Gh.cut (G:Gh) (n:Nat):Gh:=⟨G.g,fun i w=>if i < n then G.T i w else none⟩
theorem Gh.cut_T {G:Gh} {n i w:Nat} (h:i < n):(G.cut n).T i w=G.T i w:=if_pos h
def Res.low (n:Nat):Res→Bool
 | .obj _ cs=>AV.lowL n cs
 | .frz _ cs=>AV.lowL n cs
 | .map es=>es.all fun p=>p.2.low n
 | _=>true
theorem RelV.low {G:Gh} {n:Nat} (hT:∀i w l,G.T i w=some l→i < n) {a:AV} {u:Value} (h:RelV G a u):a.low n=true:=by
 have lst:∀{xs:List AV} {vs:List Value},vs.length=xs.length→(∀(i:Nat) (a:AV) (u:Value),xs[i]?=some a→vs[i]?=some u→a.low n=true)→AV.lowL n xs=true:=by
  intro xs vs hl ih
  refine lowL_of fun i a ha=>?_
  have hlt:i < vs.length:=by rw[hl];exact (List.getElem?_eq_some_iff.1 ha).1
  exact ih i a _ ha (List.getElem?_eq_getElem hlt)
 induction h with
 | v x=>rfl
 | agg xs vs h1 h2 ih=>exact lst h1 ih
 | tup xs vs h1 h2 ih=>exact lst h1 ih
 | sl m cs t a cap vs h1 h2 h3 h4 h5 h6 ih=>
  unfold AV.low
  rw[lst h1 ih]
  cases t with
  | id i ver sz=>obtain ⟨l,k1,_⟩:=h6;simpa using hT _ _ _ k1
  | _=>rfl
 | ep cs vs b off h1 h2 h3 ih=>exact lst h1 ih
 | ref i ver off l h1 h2=>simpa[AV.low] using hT _ _ _ h1
 | ms i ver off n sz l cap h1 h2 h3 h4 h5=>simpa[AV.low] using hT _ _ _ h1
 | fn f k xs vs h1 h2 ih=>exact lst h1 ih
 | ifc t x u h ih=>exact ih
 | mp i l h1 h2=>simpa[AV.low] using hT _ _ _ h1
theorem RelV.cut {G:Gh} {n:Nat} {a:AV} {u:Value} (h:RelV G a u) (hl:a.low n=true):RelV (G.cut n) a u:=by
 induction h with
 | v x=>exact .v x
 | agg xs vs h1 h2 ih=>exact .agg xs vs h1 fun i a u ha hu=>ih i a u ha hu (Z92 hl ha)
 | tup xs vs h1 h2 ih=>exact .tup xs vs h1 fun i a u ha hu=>ih i a u ha hu (Z92 hl ha)
 | sl m cs t a cap vs h1 h2 h3 h4 h5 h6 ih=>
  unfold AV.low at hl
  rw[Bool.and_eq_true] at hl
  refine .sl m cs t a cap vs h1 (fun i a u ha hu=>ih i a u ha hu (Z92 hl.2 ha)) h3 h4 h5 ?_
  cases t with
  | id i ver sz=>
   obtain ⟨l,k1,k2⟩:=h6
   have hi:i < n:=by simpa using hl.1
   exact ⟨l,by rw[Gh.cut_T hi];exact k1,k2⟩
  | _=>exact h6
 | ep cs vs b off h1 h2 h3 ih=>exact .ep cs vs b off h1 (fun i a u ha hu=>ih i a u ha hu (Z92 hl ha)) h3
 | ref i ver off l h1 h2=>exact .ref i ver off l (by rw[Gh.cut_T (by simpa[AV.low] using hl)];exact h1) h2
 | ms i ver off n sz l cap h1 h2 h3 h4 h5=>exact .ms i ver off n sz l cap (by rw[Gh.cut_T (by simpa[AV.low] using hl)];exact h1) h2 h3 h4 h5
 | fn f k xs vs h1 h2 ih=>exact .fn f k xs vs h1 fun i a u ha hu=>ih i a u ha hu (Z92 hl ha)
 | ifc t x u h ih=>exact .ifc t x u (ih hl)
 | mp i l h1 h2=>exact .mp i l (by rw[Gh.cut_T (by simpa[AV.low] using hl)];exact h1) h2
theorem KvRel.lows {G:Gh} {n:Nat} (hT:∀i w l,G.T i w=some l→i < n):∀{en:List MapEntry} {es:List (Value×AV)},KvRel G en es→es.all (fun p=>p.2.low n)=true
 | [],[],_=>rfl
 | e::en,p::es,h=>by
  rw[List.all_cons,Bool.and_eq_true]
  exact ⟨h.2.1.low hT,KvRel.lows hT h.2.2⟩
 | [],_::_,h=>h.elim
 | _::_,[],h=>h.elim
theorem KvRel.cut {G:Gh} {n:Nat}:∀{en:List MapEntry} {es:List (Value×AV)},KvRel G en es→es.all (fun p=>p.2.low n)=true→KvRel (G.cut n) en es
 | [],[],_,_=>trivial
 | e::en,p::es,h,hl=>by
  rw[List.all_cons,Bool.and_eq_true] at hl
  exact ⟨h.1,h.2.1.cut hl.1,KvRel.cut h.2.2 hl.2⟩
 | [],_::_,h,_=>h.elim
 | _::_,[],h,_=>h.elim
theorem X26 {α:Type} {l m:List α} {i:Nat} {a:α} (h:l[i]?=some a):(l++m)[i]?=some a:=by
 rw[List.getElem?_append_left (List.getElem?_eq_some_iff.1 h).1];exact h
theorem RelH.cut {base:Heap} {G0 G:Gh} {h0 h:Heap} {σ0 σ1 τ:St} (H0:RelH base G0 h0 σ0) (H:RelH base G h (σ1++τ)) (hle:Gh.le base.size G0 G) (hn:σ0.length≤σ1.length)
  (hc:∀(i:Nat) (r:Res),σ1[i]?=some r→σ0[i]?=some r∨r.low σ1.length=true):Gh.le base.size G0 (G.cut σ1.length)∧RelH base (G.cut σ1.length) h σ1:=by
 have hT0:∀i w l,G0.T i w=some l→i < σ1.length:=fun i w l hl=>by have:=(H0.bd i w l hl).1;omega
 have hloc:∀i l,locOf (G.cut σ1.length) σ1 i=some l→locOf G (σ1++τ) i=some l:=by
  intro i l hl
  have hi:=Q13 hl
  unfold locOf at hl ⊢
  rw[List.getElem?_append_left hi]
  have e:∀w,(G.cut σ1.length).T i w=G.T i w:=fun w=>Gh.cut_T hi
  simp only[e] at hl
  exact hl
 refine ⟨⟨hle.g,fun i w l hl=>by rw[Gh.cut_T (hT0 _ _ _ hl)];exact hle.T _ _ _ hl,hle.old⟩,H.tab,H.size,H.keep,H.st,?_,?_,?_,?_,?_,?_⟩
 ·intro i w cs hi
  have hlt:=(List.getElem?_eq_some_iff.1 hi).1
  obtain ⟨l,h1,h2,h3,h4,h5⟩:=H.obj i w cs (X26 hi)
  refine ⟨l,by rw[Gh.cut_T hlt];exact h1,h2,h3,h4,fun j a ha=>?_⟩
  obtain ⟨u,k1,k2⟩:=h5 j a ha
  refine ⟨u,k1,k2.cut ?_⟩
  rcases hc i _ hi with h|h
  ·obtain ⟨l0,_,_,_,_,e5⟩:=H0.obj i w cs h
   obtain ⟨u0,_,f2⟩:=e5 j a ha
   exact f2.low hT0
  ·exact Z92 h ha
 ·intro i w cs hi
  have hlt:=(List.getElem?_eq_some_iff.1 hi).1
  obtain ⟨l,h1,h2,h5⟩:=H.frz i w cs (X26 hi)
  refine ⟨l,by rw[Gh.cut_T hlt];exact h1,h2,fun j a ha=>?_⟩
  obtain ⟨u,k1,k2⟩:=h5 j a ha
  refine ⟨u,k1,k2.cut ?_⟩
  rcases hc i _ hi with h|h
  ·obtain ⟨l0,_,_,e5⟩:=H0.frz i w cs h
   obtain ⟨u0,_,f2⟩:=e5 j a ha
   exact f2.low hT0
  ·exact Z92 h ha
 ·intro i l hl
  exact H.own i l (hloc i l hl)
 ·intro i j l m hij hl hm
  exact H.disj i j l m hij (hloc i l hl) (hloc j m hm)
 ·intro i w l hl
  have hlt:i < σ1.length:=by
   by_cases hi:i < σ1.length
   ·exact hi
   ·simp[Gh.cut,hi] at hl
  rw[Gh.cut_T hlt] at hl
  refine ⟨hlt,fun r w' hr hw=>(H.bd i w l hl).2 r w' (X26 hr) hw⟩
 ·refine ⟨fun i r hr hi=>?_,fun i j r r' l m hij hr hr' hi hj hl hm=>?_⟩
  ·have hlt:=(List.getElem?_eq_some_iff.1 hi).1
   obtain ⟨l,h1,h2,h3,h4,o,h5,h6⟩:=H.maps.mp i r hr (X26 hi)
   refine ⟨l,by rw[Gh.cut_T hlt];exact h1,h2,h3,h4,o,h5,?_⟩
   cases r with
   | map es=>
    obtain ⟨en,c,rfl,h7⟩:=h6.ofMap
    refine KvRel.cut h7 ?_
    rcases hc i _ hi with h|h
    ·obtain ⟨l0,_,_,_,_,o0,_,f6⟩:=H0.maps.mp i _ hr h
     obtain ⟨en0,c0,_,f7⟩:=f6.ofMap
     exact f7.lows hT0
    ·exact h
   | itr s pos=>cases h6.ofItr;exact ⟨rfl,rfl⟩
   | _=>cases hr
  ·have hi1:=(List.getElem?_eq_some_iff.1 hi).1
   have hj1:=(List.getElem?_eq_some_iff.1 hj).1
   rw[Gh.cut_T hi1] at hl
   rw[Gh.cut_T hj1] at hm
   exact H.maps.dj i j r r' l m hij hr hr' (X26 hi) (X26 hj) hl hm
theorem FnG.drop {P:Program} {f:FuncId} {as:List AV} {σ:St} {R R':AV→St→Prop} (H:FnG P f as σ R)
  (hr:∀a σ',R a σ'→∃σ1 τ,σ'=σ1++τ∧σ.length≤σ1.length∧a.low σ1.length=true∧(∀(i:Nat) (r:Res),σ1[i]?=some r→σ[i]?=some r∨r.low σ1.length=true)∧R' a σ1):FnG P f as σ R':=by
 intro base G h vs h1 h2
 refine (H base G h vs h1 h2).mono ?_
 rintro v h' ⟨G',a,σ',k1,k2,k3,k4⟩
 obtain ⟨σ1,τ,rfl,e1,e2,e3,e4⟩:=hr a σ' k4
 obtain ⟨f1,f2⟩:=h1.cut k2 k1 e1 e3
 exact ⟨_,a,σ1,f1,f2,k3.cut e2,e4⟩
theorem low_set {σ:St} {j n:Nat} {x:Res} (hx:x.low n=true):∀(i:Nat) (r:Res),(σ.set j x)[i]?=some r→σ[i]?=some r∨r.low n=true:=by
 intro i r h
 rw[List.getElem?_set] at h
 split at h
 ·split at h
  ·cases h;exact .inr hx
  ·cases h
 ·exact .inl h
theorem low_ints (n:Nat) (l:List Int):AV.lowL n (l.map fun x=>AV.v (.int .i64 x))=true:=by
 induction l with
 | nil=>rfl
 | cons x l ih=>simp only[List.map_cons,AV.lowL,ih];rfl
theorem FnG.drop0 {P:Program} {f:FuncId} {as:List AV} {σ:St} {Q:AV→Prop} (hq:∀a,Q a→a.low σ.length=true) (H:FnG P f as σ fun a σ'=>Q a∧∃τ,σ'=σ++τ):FnG P f as σ fun a σ'=>Q a∧σ'=σ:=
 H.drop fun a σ' ⟨h1,τ,h2⟩=>⟨σ,τ,h2,Nat.le_refl _,hq a h1,fun _ _ h=>.inl h,h1,rfl⟩
theorem FnG.drop1 {P:Program} {f:FuncId} {as:List AV} {σ:St} {Q:AV→Prop} {j:Nat} {x:Res} (hx:x.low σ.length=true) (hq:∀a,Q a→a.low σ.length=true) (H:FnG P f as σ fun a σ'=>Q a∧∃τ,σ'=σ.set j x++τ):
  FnG P f as σ fun a σ'=>Q a∧σ'=σ.set j x:=
 H.drop fun a σ' ⟨h1,τ,h2⟩=>⟨σ.set j x,τ,h2,by simp,by simpa using hq a h1,by simpa using low_set (σ:=σ) hx,h1,rfl⟩
theorem set_app {α:Type} {σ τ:List α} {j:Nat} {x:α} (h:j < σ.length):(σ++τ).set j x=σ.set j x++τ:=List.set_append_left _ _ h
end Go.Kx
