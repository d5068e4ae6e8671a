/- Own small program logic, part j: code, and whole functions. -/
import Derived.Test.YtelibaobkcokdaaGreatTH2G03
import Derived.KernelRfl
import Derived.Deep.LoopGhost
namespace Go.Kx
set_option linter.unusedSectionVars false
set_option linter.unusedVariables false
set_option linter.unusedSimpArgs false
open Go
inductive SCode where
 | skip
 | reg (t:RT) (outs:List Nat)
 | seq (a b:SCode)
 | cond (c:Operand) (a b:SCode)
 | block (id:Nat) (c:SCode)
 | loop (c:SCode)
 | exit (id:Nat)
 | ret
 deriving Inhabited
def outEnv (outs:List Nat) (ρ ε:Env):Env:=outs.foldl (fun r d=>r.set d (ε d)) ρ
def wpS (P:Program):SCode→(Env→Heap→Prop)→(Nat→Env→Heap→Prop)→(Env→Heap→Prop)→Env→Heap→Prop
 | .skip,K,_,_,ρ,h=>K ρ h
 | .reg t outs,K,_,_,ρ,h=>goR P t ρ h fun ε h'=>K (outEnv outs ρ ε) h'
 | .seq a b,K,X,R,ρ,h=>wpS P a (fun ρ h=>wpS P b K X R ρ h) X R ρ h
 | .cond c a b,K,X,R,ρ,h=>∃t,ev ρ c=.bool t∧((t=true→wpS P a K X R ρ h)∧(t=false→wpS P b K X R ρ h))
 | .block id c,K,X,R,ρ,h=>wpS P c K (fun j ρ h=>if j=id then K ρ h else X j ρ h) R ρ h
 | .loop c,_,X,R,ρ,h=>∃(α:Type) (I:α→Env→Heap→Prop) (μ:α→Nat) (x:α),I x ρ h∧∀x ρ h,I x ρ h→wpS P c (fun ρ' h'=>∃x',I x' ρ' h'∧μ x' < μ x) X R ρ h
 | .exit id,_,X,_,ρ,h=>X id ρ h
 | .ret,_,_,R,ρ,h=>R ρ h
def compile (P:Program) (N:Nat) (pers:List Nat):Code→Option SCode
 | .skip=>some .skip
 | .region _ ops draw=>
  match ops.toList.mapM (compItem P ops) with
  | none=>none
  | some its=>
   let outs:=its.filterMap fun it=>match it.dst with|some d=>if pers.contains d then some d else none|none=>none
   if draw then
    let D:=mkDI its (ops.toList.map depsOf)
    if D.ok pers N then (D.tree (its.length+1) []).map (.reg · outs) else none
   else if chk N pers its then some (.reg (straight its) outs) else none
 | .seq a b=>match compile P N pers a,compile P N pers b with
  | some x,some y=>some (.seq x y)
  | _,_=>none
 | .cond c a b=>match compile P N pers a,compile P N pers b with
  | some x,some y=>if (opdTmp c).all (pers.contains ·) then some (.cond c x y) else none
  | _,_=>none
 | .block id c=>(compile P N pers c).map (.block id)
 | .loop c=>(compile P N pers c).map .loop
 | .exit id=>some (.exit id)
 | .ret=>some .ret
 | _=>none
def QS (N:Nat) (pers:List Nat) (w0:World) (K:Env→Heap→Prop) (X:Nat→Env→Heap→Prop) (R:Env→Heap→Prop):Exit→Act→World→Prop
 | .normal,a,w=>∃ρ,AgreeOn pers N a ρ∧Same w0 w∧K ρ w.heap
 | .exit id,a,w=>∃ρ,AgreeOn pers N a ρ∧Same w0 w∧X id ρ w.heap
 | .ret,a,w=>∃ρ,AgreeOn pers N a ρ∧Same w0 w∧R ρ w.heap
 | _,_,_=>False
theorem outEnv_get (outs:List Nat) (ρ ε:Env) (s:Nat):outEnv outs ρ ε s=if s∈outs then ε s else ρ s:=by
 unfold outEnv
 induction outs generalizing ρ with
 | nil=>simp
 | cons d outs ih=>
  simp only[List.foldl_cons,ih,List.mem_cons];by_cases h:s∈outs
  ·simp[h]
  ·by_cases hd:s=d
   ·subst hd;simp[h,Env.set]
   ·simp[h,hd,Env.set]
theorem out_agree {its:List SItem} {pers:List Nat} {N:Nat} {a:Act} {ρ ε:Env} (hd:a.defers=[]) (hN:a.tmps.size=N)
  (h1:∀it∈its,∀d,it.dst=some d→a.tmps.getD d undef=ε d) (h2:∀s,pers.contains s=true→(∀it∈its,it.dst≠some s)→a.tmps.getD s undef=ρ s):
  AgreeOn pers N a (outEnv (its.filterMap fun it=>match it.dst with|some d=>if pers.contains d then some d else none|none=>none) ρ ε):=by
 refine ⟨hd,hN,fun s hs=>?_⟩;rw[outEnv_get];by_cases h:∃it∈its,it.dst=some s
 ·obtain ⟨it,hit,hds⟩:=h;rw[if_pos]
  ·exact h1 it hit s hds
  ·simp only[List.mem_filterMap];exact ⟨it,hit,by simp[hds];simpa using hs⟩
 ·rw[if_neg]
  ·exact h2 s hs fun it hit e=>h ⟨it,hit,e⟩
  ·simp only[List.mem_filterMap,not_exists,not_and];intro it hit e;apply h;refine ⟨it,hit,?_⟩;revert e
   cases it.dst with
   | none=>simp
   | some d=>simp only;split<;>simp
theorem EF.wp_mono {P:Program} {e:EF} {vs:List Value} {h:Heap} {K K':Value→Heap→Prop} (hk:∀v h,K v h→K' v h) (H:e.wp P vs h K):e.wp P vs h K':=by
 unfold EF.wp at *;split at H
 ·exact hk _ _ H
 ·exact hk _ _ H
 ·exact ⟨H.1,H.2.choose,H.2.choose_spec.1,hk _ _ H.2.choose_spec.2⟩
 ·exact ⟨H.1,hk _ _ H.2⟩
 ·exact ⟨H.1,H.2.1,H.2.2.1,H.2.2.2.1,hk _ _ H.2.2.2.2⟩
 ·obtain ⟨m,news,h1,h2,H⟩:=H;refine ⟨m,news,h1,h2,?_⟩;split at H
  ·rename_i hc;rw[if_pos hc];split at H
   ·exact hk _ _ H
   ·obtain ⟨h',h3,h4⟩:=H;exact ⟨h',h3,hk _ _ h4⟩
   ·exact H
  ·rename_i hc;rw[if_neg hc];obtain ⟨h3,h4,olds,h5,h6,H⟩:=H;exact ⟨h3,h4,olds,h5,h6,fun c h7 h8=>hk _ _ (H c h7 h8)⟩
 ·exact FnC.mono H fun v h'=>hk v h'
 ·exact ⟨H.1,FnC.mono H.2 fun v h'=>hk v h'⟩
 ·exact hk _ _ H
 ·obtain ⟨en,clock,h1,h2⟩:=H;refine ⟨en,clock,h1,?_⟩;rcases h2 with ⟨i,e,h3,h4,h5⟩|⟨h3,h4⟩
  ·exact .inl ⟨i,e,h3,h4,hk _ _ h5⟩
  ·exact .inr ⟨h3,hk _ _ h4⟩
 ·obtain ⟨en,clock,h1,q,h2,h3⟩:=H;exact ⟨en,clock,h1,q,h2,hk _ _ h3⟩
 ·exact H.elim
theorem SOp.wp_mono {P:Program} {s:SOp} {ε:Env} {h:Heap} {K K':Value→Heap→Prop} (hk:∀v h,K v h→K' v h) (H:s.wp P ε h K):s.wp P ε h K':=by
 cases s with
 | pur f xs=>obtain ⟨v,h1,h2⟩:=H;exact ⟨v,h1,hk _ _ h2⟩
 | ld n x=>obtain ⟨v,h1,h2⟩:=H;exact ⟨v,h1,hk _ _ h2⟩
 | eff e xs=>exact EF.wp_mono hk H
theorem SItem.wp_mono {P:Program} {it:SItem} {ε:Env} {h:Heap} {K K':Value→Heap→Prop} (hk:∀v h,K v h→K' v h) (H:it.wp P ε h K):it.wp P ε h K':=by
 obtain ⟨dst,guard,op⟩:=it
 cases guard with
 | none=>exact SOp.wp_mono hk H
 | some g=>
  obtain ⟨s,want⟩:=g;have H:if gsel (ε s) want then op.wp P ε h K else K undef h:=H;show if gsel (ε s) want then op.wp P ε h K' else K' undef h;split at H
  ·rename_i hc;rw[if_pos hc];exact SOp.wp_mono hk H
  ·rename_i hc;rw[if_neg hc];exact hk _ _ H
def RT.items:RT→List SItem
 | .done=>[]
 | .run it t=>it::t.items
 | .eff it _ t=>it::t.items
 | .both a b=>a.items++b.items
theorem goR_frame {P:Program} {Ds:List Nat} {ρ:Env}:∀(t:RT) (ε:Env) (h:Heap) (K:Env→Heap→Prop),(∀it∈t.items,∀d,it.dst=some d→d∈Ds)→(∀s,s∉Ds→ε s=ρ s)→goR P t ε h K →
  goR P t ε h fun ε' h'=>K ε' h'∧∀s,s∉Ds→ε' s=ρ s:=by
 intro t;have hput:∀(ε:Env) (dst:Option Nat) (v:Value),(∀d,dst=some d→d∈Ds)→(∀s,s∉Ds→ε s=ρ s)→∀s,s∉Ds→(ε.put dst v) s=ρ s:=by intro ε dst v hd hs s hn;rw[envput,if_neg (fun e=>hn (hd s e))];exact hs s hn
 induction t with
 | done=>intro ε h K _ hs H;exact ⟨H,hs⟩
 | run it t ih=>intro ε h K hd hs H;refine SItem.wp_mono (fun v h' hk=>?_) H;exact ih _ _ _ (fun u hu=>hd u (List.mem_cons_of_mem _ hu)) (hput ε it.dst v (hd it (by simp[RT.items])) hs) hk
 | eff it held t ih=>intro ε h K hd hs H;refine SItem.wp_mono (fun v h' hk=>?_) H;exact ⟨hk.1,ih _ _ _ (fun u hu=>hd u (List.mem_cons_of_mem _ hu)) (hput ε it.dst v (hd it (by simp[RT.items])) hs) hk.2⟩
 | both a b iha ihb=>intro ε h K hd hs H;exact ⟨iha _ _ _ (fun u hu=>hd u (List.mem_append.2 (.inl hu))) hs H.1,ihb _ _ _ (fun u hu=>hd u (List.mem_append.2 (.inr hu))) hs H.2⟩
theorem Y20 (its:List SItem):(straight its).items=its:=by
 induction its with
 | nil=>rfl
 | cons it its ih=>simp[straight,RT.items,ih]
theorem orAll_items:∀(ts:List RT) (it:SItem),it∈(orAll ts).items→∃t∈ts,it∈t.items:=by
 intro ts
 induction ts with
 | nil=>intro it h;simp[orAll,RT.items] at h
 | cons t ts ih=>
  intro it h
  cases ts with
  | nil=>exact ⟨t,by simp,h⟩
  | cons u us=>
   simp only[orAll,RT.items,List.mem_append] at h;rcases h with h|h
   ·exact ⟨t,by simp,h⟩
   ·obtain ⟨x,hx,hi⟩:=ih it h;exact ⟨x,List.mem_cons_of_mem _ hx,hi⟩
theorem mapM_mem' {α β:Type} {f:α→Option β} {l:List α} {m:List β} (h:l.mapM f=some m) {y:β} (hy:y∈m):∃x∈l,f x=some y:=by
 obtain ⟨i,hi⟩:=List.mem_iff_getElem?.1 hy;obtain ⟨h1,h2⟩:=Y56 h;have hlt:i < l.length:=by rw[←h1];exact (List.getElem?_eq_some_iff.1 hi).1
 obtain ⟨z,hz,hf⟩:=h2 i l[i] (by simp[hlt]);rw[hi] at hz;cases hz;exact ⟨_,List.getElem_mem hlt,hf⟩
theorem tree_items {D:DI}:∀(f:Nat) (V:List Nat) (t:RT),D.tree f V=some t→∀it∈t.items,∃i,i < D.n∧it=D.it i:=by
 intro f
 induction f with
 | zero=>intro V t h;simp[DI.tree] at h
 | succ f ih=>
  intro V t h it hit;unfold DI.tree at h;split at h
  ·simp at h;subst h;simp[RT.items] at hit
  ·split at h
   ·rename_i q hq;simp only[Option.map_eq_some_iff] at h;obtain ⟨t',ht',rfl⟩:=h;simp only[RT.items,List.mem_cons] at hit;rcases hit with rfl|hit
    ·exact ⟨q,List.mem_range.1 (List.mem_of_find?_eq_some hq),rfl⟩
    ·exact ih _ _ ht' it hit
   ·split at h
    ·cases h
    ·rename_i cs hcs;simp only[Option.map_eq_some_iff] at h;obtain ⟨ts,hts,rfl⟩:=h;obtain ⟨u,hu,hiu⟩:=orAll_items _ _ hit;obtain ⟨e,he,hf⟩:=mapM_mem' hts hu;simp only[Option.map_eq_some_iff] at hf;obtain ⟨t',ht',rfl⟩:=hf;simp only[RT.items,List.mem_cons] at hiu;rcases hiu with rfl|hiu
     ·simp only[List.mem_filter,List.mem_range] at he;exact ⟨e,he.1,rfl⟩
     ·exact ih _ _ ht' it hiu
theorem reg_sound {P:Program} {N:Nat} {pers:List Nat} (hm:P.follows .mixedOrders=true) {id:Nat} {ops:Array Oper} {draw:Bool} {s:SCode} (hc:compile P N pers (.region id ops draw)=some s)
  {w0:World} {K:Env→Heap→Prop} {X:Nat→Env→Heap→Prop} {R:Env→Heap→Prop} {ρ:Env} {a:Act} {w:World} (h:wpS P s K X R ρ w.heap) (hag:AgreeOn pers N a ρ) (hs:Same w0 w):
  (Code.region id ops draw).wp P (QS N pers w0 K X R) a w:=by
 simp only[compile] at hc;split at hc
 ·cases hc
 rename_i its hits;split at hc
 ·rename_i hdraw;subst hdraw;split at hc
  ·rename_i hok;simp only[Option.map_eq_some_iff] at hc;obtain ⟨t,ht,rfl⟩:=hc;have ok:=DI.ok_spec hits hok;have hDn:∀i,i < (mkDI its (ops.toList.map depsOf)).n→((mkDI its (ops.toList.map depsOf)).it i)∈its:=by intro i hi;have hi':i < its.length:=hi;show its.getD i default∈its;rw[List.getD_eq_getElem?_getD,List.getElem?_eq_getElem hi'];exact List.getElem_mem hi'
   have hDn':∀it∈its,∃i,i < (mkDI its (ops.toList.map depsOf)).n∧(mkDI its (ops.toList.map depsOf)).it i=it:=by intro it hit;obtain ⟨i,hi,rfl⟩:=List.mem_iff_getElem.1 hit;refine ⟨i,hi,?_⟩;show its.getD i default=_;simp[List.getD_eq_getElem?_getD,hi]
   have hf:=goR_frame (Ds:=its.filterMap (·.dst)) (ρ:=ρ) t ρ w.heap _ (fun it hit d hd=>by obtain ⟨i,hi,rfl⟩:=tree_items _ _ _ ht it hit;simp only[List.mem_filterMap];exact ⟨_,hDn i hi,hd⟩) (fun _ _=>rfl) h;refine wp_region_any hm ?_
   have hinv:Inv P (mkDI its (ops.toList.map depsOf)) pers N [] (Array.replicate ops.size false) a ρ { w with drawn:=w.drawn+1 }:=by
    have hrep:∀j,(Array.replicate ops.size false).getD j false=false:=by intro j;simp[Array.getD]
    refine ⟨by simp[ok.n],by simp,?_,by simp,by simp,?_,hag.1,hag.2.1,?_,by simp⟩
    ·intro j hj;rw[hrep] at hj;cases hj
    ·intro j hj;rw[hrep] at hj;cases hj
    ·intro s _ hs;rcases hs with hs|⟨j,hj,_⟩
     ·exact hag.2.2 s hs
     ·cases hj
   refine tree_sound ok (w0:=w0) (K:=fun ε h'=>K (outEnv (its.filterMap fun it=>match it.dst with|some d=>if pers.contains d then some d else none|none=>none) ρ ε) h'∧∀s,s∉its.filterMap (·.dst)→ε s=ρ s) ?_ _ _ _ ht ops.size _ a ρ _ hinv ?_ ⟨hs.1,hs.2.1,hs.2.2⟩ hf
   ·intro a' ε w' hd hN hg hsw hK;refine ⟨_,out_agree hd hN ?_ ?_,hsw,hK.1⟩
    ·intro it hit d hdd;obtain ⟨i,hi,rfl⟩:=hDn' it hit;exact hg d (.inr ⟨i,hi,hdd⟩)
    ·intro s hs hno;rw[hg s (.inl hs)];refine hK.2 s ?_;simp only[List.mem_filterMap,not_exists,not_and];exact fun it hit e=>hno it hit e
   ·unfold unl;refine Nat.le_trans (List.length_filter_le _ _) ?_;simp
  ·cases hc
 ·rename_i hdraw;have hdraw':draw=false:=by simpa using hdraw
  subst hdraw';split at hc
  ·rename_i hck;simp only[Option.some.injEq] at hc;subst hc;have hf:=goR_frame (Ds:=its.filterMap (·.dst)) (ρ:=ρ) (straight its) ρ w.heap _ (fun it hit d hd=>by rw[Y20] at hit;simp only[List.mem_filterMap];exact ⟨_,hit,hd⟩) (fun _ _=>rfl) h;refine wp_region_list ?_;refine Y19 (w0:=w0) ops.toList its hits pers a ρ w hck hag hs hf ?_;intro a' ε' w' hag' hwr hsw hK;refine ⟨_,out_agree hag'.1 hag'.2.1 hwr ?_,hsw,hK.1⟩;intro s hs hno;rw[hag'.2.2 s hs];refine hK.2 s ?_;simp only[List.mem_filterMap,not_exists,not_and];exact fun it hit e=>hno it hit e
  ·cases hc
theorem code_sound {P:Program} {N:Nat} {pers:List Nat} (hm:P.follows .mixedOrders=true) {w0:World}:∀(c:Code) (s:SCode),compile P N pers c=some s→∀(K:Env→Heap→Prop) (X:Nat→Env→Heap→Prop) (R:Env→Heap→Prop) (ρ:Env) (a:Act) (w:World),
  wpS P s K X R ρ w.heap→AgreeOn pers N a ρ→Same w0 w→c.wp P (QS N pers w0 K X R) a w:=by
 intro c
 induction c with
 | skip=>intro s hc K X R ρ a w h hag hs;simp[compile] at hc;subst hc;exact wp_skip ⟨ρ,hag,hs,h⟩
 | region id ops draw=>intro s hc K X R ρ a w h hag hs;exact reg_sound hm hc h hag hs
 | seq x y ihx ihy=>
  intro s hc K X R ρ a w h hag hs;simp only[compile] at hc;split at hc
  ·rename_i sx sy hx hy;simp only[Option.some.injEq] at hc;subst hc;refine wp_seq (wp_mono (ihx sx hx _ X R ρ a w h hag hs) ?_);intro e a' w' hq
   cases e with
   | normal=>obtain ⟨ρ',h1,h2,h3⟩:=hq;exact ihy sy hy K X R ρ' a' w' h3 h1 h2
   | _=>exact hq
  ·cases hc
 | cond c x y ihx ihy=>
  intro s hc K X R ρ a w h hag hs;simp only[compile] at hc;split at hc
  ·rename_i sx sy hx hy;split at hc
   ·rename_i hcp;simp only[Option.some.injEq] at hc;subst hc;obtain ⟨t,ht,h1,h2⟩:=h;simp only[List.all_eq_true] at hcp;have hev:=eval_agree hag (x:=c) hcp;refine wp_cond_split (t:=t) (by rw[hev,ht]) (fun e=>ihx sx hx K X R ρ a w (h1 e) hag hs) (fun e=>ihy sy hy K X R ρ a w (h2 e) hag hs)
   ·cases hc
  ·cases hc
 | block id c ih=>
  intro s hc K X R ρ a w h hag hs;simp only[compile,Option.map_eq_some_iff] at hc;obtain ⟨sc,hsc,rfl⟩:=hc;refine wp_block (wp_mono (ih sc hsc K _ R ρ a w h hag hs) ?_);intro e a' w' hq
  cases e with
  | exit j=>
   obtain ⟨ρ',h1,h2,h3⟩:=hq;simp only[Exit.inBlock];split
   ·rename_i hj;rw[if_pos hj] at h3;exact ⟨ρ',h1,h2,h3⟩
   ·rename_i hj;rw[if_neg hj] at h3;exact ⟨ρ',h1,h2,h3⟩
  | _=>exact hq
 | loop c ih=>
  intro s hc K X R ρ a w h hag hs;simp only[compile,Option.map_eq_some_iff] at hc;obtain ⟨sc,hsc,rfl⟩:=hc;obtain ⟨α,I,μ,x,hI,hround⟩:=h;refine wp_loop_ghost (fun n a w=>∃x ρ,μ x=n∧I x ρ w.heap∧AgreeOn pers N a ρ∧Same w0 w) (μ x) ⟨x,ρ,rfl,hI,hag,hs⟩ ?_;rintro n a w ⟨x,ρ,rfl,hI,hag,hs⟩;refine wp_mono (ih sc hsc _ X R ρ a w (hround x ρ w.heap hI) hag hs) ?_;intro e a' w' hq
  cases e with
  | normal=>obtain ⟨ρ',h1,h2,x',h3,h4⟩:=hq;exact ⟨μ x',h4,x',ρ',rfl,h3,h1,h2⟩
  | _=>exact hq
 | exit id=>intro s hc K X R ρ a w h hag hs;simp[compile] at hc;subst hc;exact wp_exit ⟨ρ,hag,hs,h⟩
 | ret=>intro s hc K X R ρ a w h hag hs;simp[compile] at hc;subst hc;exact wp_ret ⟨ρ,hag,hs,h⟩
 | _=>intro s hc;simp[compile] at hc
inductive RV where
 | tmp (t:Nat)
 | cell (a:Nat) (n:Option Nat)
 deriving Inhabited
structure Fun where
 N:Nat
 pers:List Nat
 res:List RV
 code:SCode
 deriving Inhabited
def regExpo:List Nat→List Oper→List Nat
 | _,[]=>[]
 | wr,o::os=>(o.op.operands.toList.flatMap opdTmp).filter (fun t=>!wr.contains t)++regExpo (o.dst.toList++wr) os
def expo:Code→List Nat
 | .region _ ops _=>regExpo [] ops.toList
 | .seq a b=>expo a++expo b
 | .cond c a b=>opdTmp c++expo a++expo b
 | .block _ c|.loop c=>expo c
 | _=>[]
def compRes (P:Program):ResultVar→Option RV
 | .tmp t=>some (.tmp t)
 | .cell a t=>(aggOf P t).map (.cell a)
def RV.slot:RV→Nat
 | .tmp t=>t
 | .cell a _=>a
def compF (P:Program) (f:FuncId):Option Fun:=
 match P.funcs[f]? with
 | some fn=>match fn.body with
  | some c=>match fn.results.toList.mapM (compRes P) with
   | some rs=>
    let pers:=(rs.map RV.slot++expo c).eraseDups
    (compile P fn.ntmps pers c).map fun s=>⟨fn.ntmps,pers,rs,s⟩
   | none=>none
  | none=>none
 | none=>none
def initE (args:List Value):Env:=fun i=>args.getD i undef
def RV.val (ρ:Env) (h:Heap):RV→Option Value
 | .tmp t=>some (ρ t)
 | .cell a n=>ldV n (ρ a) (hp h)
def resV (vs:List Value):Value:=match vs with|[v]=>v|vs=>.tuple vs.toArray
def post (res:List RV) (R:Value→Heap→Prop) (ρ:Env) (h:Heap):Prop:=∃vs,res.mapM (RV.val ρ h)=some vs∧R (resV vs) h
theorem res_run {P:Program} {w:World} {ρ:Env} {tmps:Array Value}:∀(l:List ResultVar) (rs:List RV) (vs:List Value),l.mapM (compRes P)=some rs→rs.mapM (RV.val ρ w.heap)=some vs→(∀r∈rs,tmps.getD r.slot undef=ρ r.slot) →
  (l.mapM (fun|.tmp t=>pure (tmps.getD t undef)|.cell a t=>do loadVar t (←asAddr (tmps.getD a undef)):ResultVar→Sem Value)).run P w=.ok vs w:=by
 intro l
 induction l with
 | nil=>intro rs vs h1 h2 _;simp at h1;subst h1;simp at h2;subst h2;rfl
 | cons r l ih=>
  intro rs vs h1 h2 h3;rw[List.mapM_cons] at h1;simp only[bind,Option.bind_eq_some_iff,pure,Option.some.injEq] at h1;obtain ⟨x,hx,rs',hrs',rfl⟩:=h1;rw[List.mapM_cons] at h2;simp only[bind,Option.bind_eq_some_iff,pure,Option.some.injEq] at h2;obtain ⟨v,hv,vs',hvs',rfl⟩:=h2;have hih:=ih rs' vs' hrs' hvs' (fun r hr=>h3 r (List.mem_cons_of_mem _ hr));have hsl:=h3 x ke;rw[List.mapM_cons]
  cases r with
  | tmp t=>simp[compRes] at hx;subst hx;simp[RV.val] at hv;simp only[RV.slot] at hsl;simp only[Sem.run_bind,Sem.run_pure,Result.andThen_ok,hih,hsl,hv]
  | cell a t=>
   simp only[compRes,Option.map_eq_some_iff] at hx;obtain ⟨n,hn,rfl⟩:=hx;simp only[RV.val] at hv;simp only[RV.slot] at hsl;have:=ld_run (w:=w) hn hv;obtain ⟨h1,h2,i,hi⟩:=Yj (w:=w) hn;unfold ldV at hv;split at hv
   ·rename_i b off hb;simp only[hb,Instr.loadAt,Instr.sureAddr,Sem.run_bind,Sem.run_pure,Result.andThen_ok] at this;have hasA:(asAddr (Value.pointer (some ⟨b,off,none⟩))).run P w=.ok ⟨b,off,none⟩ w:=rfl;simp only[Sem.run_bind,hsl,hb,hasA,Sem.run_pure,Result.andThen_ok,this,hih]
   ·cases hv
theorem X09 {l:List Nat} {s:Nat} (h:s∈l):l.eraseDups.contains s=true:=by simpa using h
theorem fn_enter {P:Program} {f:FuncId} {F:Fun} (hk:compF P f=some F) (hm:P.follows .mixedOrders=true) {args:List Value} {h:Heap} {R:Value→Heap→Prop} (ha:args.length≤F.N)
  (H:wpS P F.code (post F.res R) (fun _ _ _=>False) (post F.res R) (initE args) h):FnC P f args.toArray h R:=by
 intro w hw;subst hw;unfold compF at hk;split at hk
 ·rename_i fn hf;split at hk
  ·rename_i c hb;split at hk
   ·rename_i rs hrs;simp only[Option.map_eq_some_iff] at hk;obtain ⟨s,hs,rfl⟩:=hk;refine calls_of_wp hf hb ?_
    have hag:AgreeOn ((rs.map RV.slot++expo c).eraseDups) fn.ntmps { tmps:=args.toArray++Array.replicate (fn.ntmps - args.toArray.size) undef,defers:=[] } (initE args):=by
     refine ⟨rfl,by simp at ha ⊢;omega,fun t _=>?_⟩;simp only[initE,Array.getD,List.getD_eq_getElem?_getD];by_cases h:t < args.length
     ·have h2:t < (args.toArray++Array.replicate (fn.ntmps - args.toArray.size) undef).size:=by simp;omega
      rw[dif_pos h2,Array.getInternal_eq_getElem,Array.getElem_append_left ey];simp[h]
     ·rw[List.getElem?_eq_none ka];split
      ·rename_i h2;rw[Array.getInternal_eq_getElem,Array.getElem_append_right ey];simp
      ·rfl
    refine wp_mono (code_sound hm (w0:=w) c s hs _ _ _ _ _ w H hag (Same.refl w)) ?_
    have hfin:∀(a':Act) (w':World) (ρ:Env),AgreeOn ((rs.map RV.slot++expo c).eraseDups) fn.ntmps a' ρ→Same w w'→post rs R ρ w'.heap→a'.defers=[]∧∃v,(results fn a'.tmps).run P w'=.ok v w'∧∃u,Ending.returned v=.returned u∧R u w'.heap∧Same w w':=by
     intro a' w' ρ h1 h2 ⟨vs,hvs,hR⟩;refine ⟨h1.1,resV vs,?_,_,rfl,hR,h2⟩;have:=res_run (P:=P) (w:=w') (ρ:=ρ) (tmps:=a'.tmps) fn.results.toList rs vs hrs hvs (fun r hr=>h1.2.2 _ (X09 (by simp only[List.mem_append,List.mem_map];exact .inl ⟨r,hr,rfl⟩)));unfold results;rw[Array.mapM_eq_mapM_toList];simp only[Sem.run_bind,Sem.run_map,Sem.run_pure];erw [this];simp only[Result.andThen_ok,Result.ok.injEq,and_true]
     cases vs with
     | nil=>simp[resV]
     | cons v vs=>
      cases vs with
      | nil=>simp[resV]
      | cons u us=>simp[resV]
    intro e a' w' hq
    cases e with
    | normal=>obtain ⟨ρ,h1,h2,h3⟩:=hq;exact hfin a' w' ρ h1 h2 h3
    | ret=>obtain ⟨ρ,h1,h2,h3⟩:=hq;exact hfin a' w' ρ h1 h2 h3
    | exit id=>obtain ⟨ρ,h1,h2,h3⟩:=hq;exact h3.elim
    | goto l=>exact hq.elim
    | panic ch=>exact hq.elim
    | outgrown=>exact hq.elim
   ·cases hk
  ·cases hk
 ·cases hk
end Go.Kx
namespace Go.Kx
open Go
abbrev qt (n:Nat):Operand:=.tmp n
abbrev qi (n:Int):Operand:=.const (.int .i64 n)
abbrev qv (n:Int):Value:=.int .i64 n
abbrev qm (d x:Nat):SItem:=⟨some d,none,.pur .mov [.tmp x]⟩
abbrev qn (d x:Nat):SItem:=⟨some d,none,.pur .nilc [.tmp x]⟩
abbrev qf (d k x:Nat):SItem:=⟨some d,none,.pur (.fla k) [.tmp x]⟩
abbrev ql (d x:Nat):SItem:=⟨some d,none,.ld none (.tmp x)⟩
abbrev qL (d n x:Nat):SItem:=⟨some d,none,.ld (some n) (.tmp x)⟩
abbrev qk (d x y z:Nat):SItem:=⟨some d,none,.pur .pick [.tmp x,.tmp y,.tmp z]⟩
abbrev qb (d:Nat) (o:BinOp) (x y:Nat):SItem:=⟨some d,none,.pur (.bin o) [.tmp x,.tmp y]⟩
abbrev qc (d:Nat) (o:BinOp) (x:Nat) (n:Int):SItem:=⟨some d,none,.pur (.bin o) [.tmp x,.const (.int .i64 n)]⟩
abbrev qx (d k x:Nat):SItem:=⟨some d,none,.pur (.ext k) [.tmp x]⟩
abbrev qp (d:Nat) (f:PF) (l:List Operand):SItem:=⟨some d,none,.pur f l⟩
abbrev qa (d f:Nat) (l:List Operand):SItem:=⟨some d,none,.eff (.call f) l⟩
abbrev qe (d:Nat) (f:EF) (l:List Operand):SItem:=⟨some d,none,.eff f l⟩
abbrev qs (n x y:Nat):SItem:=⟨none,none,.eff (.st n) [.tmp x,.tmp y]⟩
abbrev qE (f:EF) (l:List Operand):SItem:=⟨none,none,.eff f l⟩
abbrev qg (d t:Nat) (b:Bool) (o:SOp):SItem:=⟨some d,some (t,b),o⟩
abbrev qr (l:List SItem) (o:List Nat):SCode:=.reg (straight l) o
end Go.Kx
namespace Go.Kx
open Go Go.Kx
section
variable {P:Program} {N:Nat} {p:List Nat} {x y:Code} {u v:SCode}
theorem dS (a:compile P N p x=some u) (b:compile P N p y=some v):compile P N p (.seq x y)=some (.seq u v):=by simp only[compile];cases h:compile P N p x<;>cases h2:compile P N p y<;>simp_all
theorem dC {c:Operand} (a:compile P N p x=some u) (b:compile P N p y=some v) (h:(opdTmp c).all (p.contains ·)=true):compile P N p (.cond c x y)=some (.cond c u v):=by simp only[compile];cases h1:compile P N p x<;>cases h2:compile P N p y<;>simp_all
theorem dB {i:Nat} (a:compile P N p x=some u):compile P N p (.block i x)=some (.block i u):=by simp only[compile];cases h1:compile P N p x<;>simp_all
theorem dL (a:compile P N p x=some u):compile P N p (.loop x)=some (.loop u):=by simp only[compile];cases h1:compile P N p x<;>simp_all
theorem dF {f:Nat} {fn:Func} {c:Code} {rs:List RV} {pe:List Nat} {s:SCode} (h:P.funcs[f]?=some fn) (hb:fn.body=some c) (hr:fn.results.toList.mapM (compRes P)=some rs) (hp:(rs.map RV.slot++expo c).eraseDups=pe) (hc:compile P fn.ntmps pe c=some s):compF P f=some ⟨fn.ntmps,pe,rs,s⟩:=by subst hp;unfold compF;rw[h];dsimp only;rw[hb];dsimp only;rw[hr];dsimp only;cases h1:compile P fn.ntmps (rs.map RV.slot++expo c).eraseDups c<;>simp_all
end
theorem dR {P:Program} {N:Nat} {p:List Nat} {i:Nat} {ops:Array Oper} {its:List SItem} {D:DI} {u:RT} {o:List Nat} (h1:ops.toList.mapM (compItem P ops)=some its) (h2:mkDI its (ops.toList.map depsOf)=D) (h3:D.ok p N=true) (h4:D.tree (its.length+1) []=some u) (h5:(its.filterMap fun it=>match it.dst with|some d=>if p.contains d then some d else none|none=>none)=o):compile P N p (.region i ops true)=some (.reg u o):=by simp only[compile,h1];subst h2 h5;simp[h3,h4]<;>rfl
noncomputable def qH (P:Program) (n:Nat) {s:Fun} (h:compF P n=some s:=by
 first
 |cbv;done
 |apply dF rfl rfl
  case hr=>cbv
  case hp=>cbv
  case hc=>
   repeat' (first|(cbv;done)|apply dS|apply dC|apply dB|apply dL)
   all_goals (apply dR<;>first|(cbv;done)|kernel_rfl)):{s//compF P n=some s}:=⟨s,h⟩
end Go.Kx
namespace Go.Kx
set_option linter.unusedSectionVars false
set_option linter.unusedVariables false
set_option linter.unusedSimpArgs false
open Go
def act (p:Prop):Prop:=p
section
variable (P:Program) (K:Env→Heap→Prop) (X:Nat→Env→Heap→Prop) (R:Env→Heap→Prop) (ρ:Env) (h:Heap)
end
section
variable {P:Program} {K:Env→Heap→Prop} {X:Nat→Env→Heap→Prop} {R:Env→Heap→Prop} {ρ:Env} {h:Heap}
end
section
variable (P:Program) (ε:Env) (h:Heap) (K:Env→Heap→Prop)
@[push_cast] theorem goR_done:act (goR P .done ε h K)=act (K ε h):=rfl
end
@[push_cast] theorem v_add (k:IntKind) (x y:Int):PF.val (.bin .add) [.int k x,.int k y]=some (.int k (k.wrap (x+y))):=by simp[PF.val,binV,isSh,binI]
@[push_cast] theorem v_sub (k:IntKind) (x y:Int):PF.val (.bin .sub) [.int k x,.int k y]=some (.int k (k.wrap (x - y))):=by simp[PF.val,binV,isSh,binI]
@[push_cast] theorem v_mul (k:IntKind) (x y:Int):PF.val (.bin .mul) [.int k x,.int k y]=some (.int k (k.wrap (x * y))):=by simp[PF.val,binV,isSh,binI]
theorem v_quo (k:IntKind) (x y:Int) (h:y≠0):PF.val (.bin .quo) [.int k x,.int k y]=some (.int k (k.wrap (x.tdiv y))):=by simp[PF.val,binV,isSh,binI,h]
theorem v_rem (k:IntKind) (x y:Int) (h:y≠0):PF.val (.bin .rem) [.int k x,.int k y]=some (.int k (x.tmod y)):=by simp[PF.val,binV,isSh,binI,h]
@[push_cast] theorem v_rem' (k:IntKind) (x y:Int) (h:0 < y) (hx:0≤x):PF.val (.bin .rem) [.int k x,.int k y]=some (.int k (x % y)):=by rw[v_rem k x y ka,Int.tmod_eq_emod_of_nonneg hx]
@[push_cast] theorem v_eql (k:IntKind) (x y:Int):PF.val (.bin .eql) [.int k x,.int k y]=some (.bool (decide (x=y))):=by simp[PF.val,binV,isSh,binI,cmpI];rw[Bool.eq_iff_iff];simp
@[push_cast] theorem v_neq (k:IntKind) (x y:Int):PF.val (.bin .neq) [.int k x,.int k y]=some (.bool (decide (x≠y))):=by simp[PF.val,binV,isSh,binI,cmpI,bne,BEq.beq]
@[push_cast] theorem v_lss (k:IntKind) (x y:Int):PF.val (.bin .lss) [.int k x,.int k y]=some (.bool (decide (x < y))):=by simp[PF.val,binV,isSh,binI,cmpI]
@[push_cast] theorem v_leq (k:IntKind) (x y:Int):PF.val (.bin .leq) [.int k x,.int k y]=some (.bool (decide (x≤y))):=by simp[PF.val,binV,isSh,binI,cmpI]
@[push_cast] theorem v_gtr (k:IntKind) (x y:Int):PF.val (.bin .gtr) [.int k x,.int k y]=some (.bool (decide (y < x))):=by simp[PF.val,binV,isSh,binI,cmpI]
@[push_cast] theorem v_geq (k:IntKind) (x y:Int):PF.val (.bin .geq) [.int k x,.int k y]=some (.bool (decide (y≤x))):=by simp[PF.val,binV,isSh,binI,cmpI]
@[push_cast] theorem v_not (b:Bool):PF.val .not [.bool b]=some (.bool !b):=rfl
@[push_cast] theorem v_lens (s:ByteArray):PF.val (.len true) [.string s]=some (.int .i64 s.size):=rfl
@[push_cast] theorem v_ixa (b off sz n c:Nat) (k:IntKind) (i:Int) (h0:0≤i) (h1:i < n):PF.val (.ixa sz) [.slice (some ⟨b,off,none⟩) n c,.int k i]=some (.pointer (some ⟨b,off+i.toNat * sz,none⟩)):=by simp[PF.val,h0,h1,Q18]
@[push_cast] theorem v_eqnp (ng:Bool) (a:Option Addr):PF.val (.eqn ng 0) [.pointer a]=some (.bool (if ng then !a.isNone else a.isNone)):=rfl
@[push_cast] theorem v_max (k:IntKind) (x y:Int):PF.val (.minmax true) [.int k x,.int k y]=some (.int k (max x y)):=by simp only[PF.val,mms,mm,if_true,Option.bind_some,Option.some.injEq,Value.int.injEq,true_and];split<;>omega
@[push_cast] theorem v_min (k:IntKind) (x y:Int):PF.val (.minmax false) [.int k x,.int k y]=some (.int k (min x y)):=by simp only[PF.val,mms,mm,Bool.false_eq_true,if_false,Option.bind_some,Option.some.injEq,Value.int.injEq,true_and];split<;>omega
@[push_cast] theorem dec_lt_t {a b:Int} (h:a < b):decide (a < b)=true:=decide_eq_true h
@[push_cast] theorem dec_lt_f {a b:Int} (h:b≤a):decide (a < b)=false:=decide_eq_false ka
@[push_cast] theorem dec_le_t {a b:Int} (h:a≤b):decide (a≤b)=true:=decide_eq_true h
@[push_cast] theorem dec_le_f {a b:Int} (h:b < a):decide (a≤b)=false:=decide_eq_false ka
@[push_cast] theorem dec_eq_t {a b:Int} (h:a=b):decide (a=b)=true:=decide_eq_true h
@[push_cast] theorem dec_eq_f {a b:Int} (h:a≠b):decide (a=b)=false:=decide_eq_false h
@[push_cast] theorem dec_ne_t {a b:Int} (h:a≠b):decide (a≠b)=true:=decide_eq_true h
@[push_cast] theorem dec_ne_f {a b:Int} (h:a=b):decide (a≠b)=false:=decide_eq_false (by simp[h])
@[push_cast] theorem wrap_in (n:Int) (h0:-9223372036854775808≤n) (h1:n≤9223372036854775807):IntKind.i64.wrap n=n:=IntWalk.i64_in n ⟨h0,h1⟩
@[push_cast] theorem toNat_nat (n:Nat):(n:Int).toNat=n:=rfl
end Go.Kx
namespace Go.Kx
set_option linter.unusedVariables false
set_option linter.unusedSimpArgs false
open Go
abbrev PH:=Nat→Option Obj
abbrev HProp:=PH→Prop
def PH.le (g g':PH):Prop:=∀b o,g b=some o→g' b=some o
theorem PH.le_refl (g:PH):PH.le g g:=fun _ _ h=>h
theorem PH.le_trans {a b c:PH} (h:PH.le a b) (k:PH.le b c):PH.le a c:=fun x o e=>k x o (h x o e)
def own (w:Nat→Nat) (i:Nat) (g:PH):PH:=fun b=>if w b=i then g b else none
def SatG (L:List HProp) (g:PH):Prop:=∃w:Nat→Nat,∀(i:Nat) (C:HProp),L[i]?=some C→C (own w i g)
def Sat (L:List HProp) (h:Heap):Prop:=SatG L (hp h)
theorem own_le (w:Nat→Nat) (i:Nat) (g:PH):PH.le (own w i g) g:=by
 intro b o h;unfold own at h;split at h
 ·exact h
 ·cases h
theorem own_eq {w u:Nat→Nat} {i j:Nat} {g g':PH} (h:∀b,(w b=i∧u b=j∧g b=g' b)∨((w b≠i∨g b=none)∧(u b≠j∨g' b=none))):own w i g=own u j g':=by
 funext b;unfold own;rcases h b with ⟨h1,h2,h3⟩|⟨h1,h2⟩
 ·rw[if_pos h1,if_pos h2,h3]
 ·have e1:(if w b=i then g b else none)=none:=by rcases h1 with h1|h1<;>simp[h1]
  have e2:(if u b=j then g' b else none)=none:=by rcases h2 with h2|h2<;>simp[h2]
  rw[e1,e2]
def Up (C:HProp):Prop:=∀g g',PH.le g g'→C g→C g'
def base (h:Heap):HProp:=fun g=>∀b,b < h.size→g b=h[b]?
theorem base_up (h:Heap):Up (base h):=by intro g g' hle hb b hlt;have:=hb b hlt;rw[Array.getElem?_eq_getElem hlt] at this ⊢;exact hle b _ this
theorem base_le {h:Heap} {g:PH} (hb:base h g):PH.le (hp h) g:=by
 intro b o e;have hlt:b < h.size:=by unfold hp at e;exact (Array.getElem?_eq_some_iff.1 e).1
 rw[hb b hlt];exact e
theorem Sat.start (h:Heap):Sat [base h] h:=by
 refine ⟨fun _=>0,?_⟩;intro i C hC
 cases i with
 | zero=>simp at hC;subst hC;intro b _;simp[own,hp]
 | succ i=>simp at hC
theorem SatG.get {L:List HProp} {g:PH} (h:SatG L g) (i:Nat) {C:HProp} (hi:L[i]?=some C) (hu:Up C):C g:=by obtain ⟨w,hw⟩:=h;exact hu _ _ (own_le w i g) (hw i C hi)
theorem Sat.get {L:List HProp} {h:Heap} (H:Sat L h) (i:Nat) {C:HProp} (hi:L[i]?=some C) (hu:Up C):C (hp h):=SatG.get H i hi hu
theorem Sat.base {L:List HProp} {h h0:Heap} (H:Sat L h) (i:Nat) (hi:L[i]?=some (base h0)):PH.le (hp h0) (hp h):=base_le (H.get i hi (base_up h0))
theorem SatG.re {L L':List HProp} {g:PH} (H:SatG L g) (σ:Nat→Nat) (h1:∀j C,L'[j]?=some C→L[σ j]?=some C) (h2:∀j k,j < L'.length→k < L'.length→σ j=σ k→j=k):SatG L' g:=by
 obtain ⟨w,hw⟩:=H
 classical
 obtain ⟨v,hv⟩:∃v:Nat→Nat,∀b,v b=(if hex:∃j,j < L'.length∧σ j=w b then hex.choose else L'.length):=⟨_,fun _=>rfl⟩;refine ⟨v,?_⟩;intro j C hC;have hj:j < L'.length:=(List.getElem?_eq_some_iff.1 hC).1;have:=hw (σ j) C (h1 j C hC)
 have e:own v j g=own w (σ j) g:=by
  refine own_eq fun b=>?_;by_cases hb:w b=σ j
  ·have hex:∃j,j < L'.length∧σ j=w b:=⟨j,hj,hb.symm⟩;have hch:=hex.choose_spec;have:hex.choose=j:=h2 _ _ hch.1 hj (by rw[hch.2,hb]);exact .inl ⟨by rw[hv b,dif_pos hex,this],hb,rfl⟩
  ·refine .inr ⟨.inl fun hc=>?_,.inl hb⟩;rw[hv b] at hc;split at hc
   ·rename_i hex;have hch:=hex.choose_spec;rw[hc] at hch;exact hb hch.2.symm
   ·omega
 rw[e];exact this
theorem Sat.tail {C:HProp} {L:List HProp} {h:Heap} (H:Sat (C::L) h):Sat L h:=
 SatG.re H (·+1) (fun j D hD=>by simpa using hD) (fun j k _ _ e=>by simpa using e)
theorem Sat.push {L:List HProp} {h:Heap} (H:Sat L h) (o:Obj) (C:HProp) (hC:∀g:PH,g h.size=some o→C g):Sat (L++[C]) (h.push o):=by
 obtain ⟨w,hw⟩:=H;obtain ⟨v,hv⟩:∃v:Nat→Nat,∀b,v b=(if b=h.size then L.length else if w b < L.length then w b else L.length+1):=⟨_,fun _=>rfl⟩;refine ⟨v,?_⟩;intro i D hD;by_cases hi:i < L.length
 ·rw[List.getElem?_append_left hi] at hD
  have e:own v i (hp (h.push o))=own w i (hp h):=by
   refine own_eq fun b=>?_;rw[hv b];by_cases hb:b=h.size
   ·subst hb;exact .inr ⟨.inl (by rw[if_pos rfl];omega),.inr (by simp[hp])⟩
   ·rw[if_neg hb];have hpb:hp (h.push o) b=hp h b:=by simp[hp,Array.getElem?_push,hb]
    by_cases hwb:w b=i
    ·exact .inl ⟨by rw[if_pos ka,hwb],hwb,hpb⟩
    ·exact .inr ⟨.inl (by split<;>omega),.inl hwb⟩
  rw[e];exact hw i D hD
 ·rw[List.getElem?_append_right ka] at hD;have hi2:i=L.length:=by have:=(List.getElem?_eq_some_iff.1 hD).1;simp at this;omega
  subst hi2;simp at hD;subst hD;apply hC;simp[own,hp,hv]
theorem Sat.ext {L Ls:List HProp} {h h':Heap} (H:Sat L h) (H':Sat (Go.Kx.base h::Ls) h'):Sat (L++Ls) h':=by
 obtain ⟨w,hw⟩:=H;obtain ⟨u,hu⟩:=H';have hbase:=hu 0 _ rfl
 have hold:∀b,b < h.size→u b=0∧hp h' b=hp h b:=by
  intro b hb;have:=hbase b hb;unfold own at this;split at this
  ·exact ⟨‹_›,this⟩
  ·rw[Array.getElem?_eq_getElem hb] at this;cases this
 obtain ⟨v,hv⟩:∃v:Nat→Nat,∀b,v b=(if u b=0 then (if b < h.size∧w b < L.length then w b else L.length+Ls.length) else L.length+(u b - 1)):=⟨_,fun _=>rfl⟩;refine ⟨v,?_⟩;intro i D hD;by_cases hi:i < L.length
 ·rw[List.getElem?_append_left hi] at hD
  have e:own v i (hp h')=own w i (hp h):=by
   refine own_eq fun b=>?_;rw[hv b];by_cases hb:b < h.size
   ·obtain ⟨e1,e2⟩:=hold b hb;rw[if_pos e1];by_cases hwb:w b=i
    ·exact .inl ⟨by rw[if_pos ⟨hb,by omega⟩,hwb],hwb,e2⟩
    ·exact .inr ⟨.inl (by split<;>omega),.inl hwb⟩
   ·have:hp h b=none:=by simp only[hp];rw[Array.getElem?_eq_none ka]
    refine .inr ⟨.inl ?_,.inr this⟩;rw[if_neg (c:=b < h.size∧w b < L.length) ka];split<;>omega
  rw[e];exact hw i D hD
 ·rw[List.getElem?_append_right ka] at hD;have hlt:i - L.length < Ls.length:=(List.getElem?_eq_some_iff.1 hD).1;have:=hu (i - L.length+1) D (by simpa using hD)
  have e:own v i (hp h')=own u (i - L.length+1) (hp h'):=by
   refine own_eq fun b=>?_;rw[hv b];by_cases hz:u b=0
   ·rw[if_pos hz];exact .inr ⟨.inl (by split<;>omega),.inl ka⟩
   ·rw[if_neg hz];by_cases hq:u b=i - L.length+1
    ·exact .inl ⟨by omega,hq,rfl⟩
    ·exact .inr ⟨.inl ka,.inl hq⟩
  rw[e];exact this
def inI (x:Int):Prop:=-9223372036854775808≤x∧x≤9223372036854775807
theorem Z48 {g:PH} {b:Nat}:∀{l:List Value} {off:Nat},(∀j v,l[j]?=some v→cellG g b (off+j)=some v)→cellsG g b off l.length=some l:=by
 intro l
 induction l with
 | nil=>intro off _;rfl
 | cons v l ih=>intro off h;have h0:=h 0 v rfl;have:=ih (off:=off+1) (fun j u hu=>by have:=h (j+1) u (by simpa using hu);rwa [show off+1+j=off+(j+1) by omega]);simp only[List.length_cons,cellsG];rw[show off+0=off from rfl] at h0;rw[h0,this];rfl
def RSl (g:PH) (v:Value) (n sz:Nat) (cs:List Value):Prop:=
 cs.length=n * sz∧∃a cap,v=.slice a n cap∧n≤cap∧cap≤9223372036854775807 ∧
  (n=0∨∃b off,a=some ⟨b,off,none⟩∧∀i u,cs[i]?=some u→cellG g b (off+i)=some u)
theorem RSl.len {g:PH} {v:Value} {n sz:Nat} {cs:List Value} (H:RSl g v n sz cs):PF.val (.len false) [v]=some (.int .i64 n):=by obtain ⟨h1,a,cap,rfl,_⟩:=H;rfl
theorem RSl.le {g:PH} {v:Value} {n sz:Nat} {cs:List Value} (H:RSl g v n sz cs):n≤9223372036854775807:=by obtain ⟨h1,a,cap,rfl,h2,h3,_⟩:=H;omega
theorem RSl.at {g:PH} {v:Value} {n sz:Nat} {cs:List Value} (H:RSl g v n sz cs) {k:Nat} (hk:k < n):
  ∃b o,PF.val (.ixa sz) [v,.int .i64 k]=some (.pointer (some ⟨b,o,none⟩))∧∀j u,j < sz→cs[k * sz+j]?=some u→cellG g b (o+j)=some u:=by
 obtain ⟨h1,a,cap,rfl,h2,h3,h4⟩:=H;rcases h4 with h4|⟨b,off,rfl,h5⟩
 ·omega
 ·refine ⟨b,off+k * sz,?_,?_⟩
  ·rw[v_ixa _ _ _ _ _ _ _ ka ka];simp
  ·intro j u hj hu;rw[Nat.add_assoc];exact h5 _ u hu
theorem RSl.at1 {g:PH} {v:Value} {n:Nat} {cs:List Value} (H:RSl g v n 1 cs) {k:Nat} {u:Value} (hu:cs[k]?=some u):
  ∃p,PF.val (.ixa 1) [v,.int .i64 k]=some p∧ldV none p g=some u:=by
 have hk:k < n:=by have:=(List.getElem?_eq_some_iff.1 hu).1;rw[H.1] at this;omega
 obtain ⟨b,o,h1,h2⟩:=H.at hk;exact ⟨_,h1,h2 0 u ka (by simpa using hu)⟩
def Ints (g:PH) (v:Value) (xs:List Int):Prop:=RSl g v xs.length 1 (xs.map (.int .i64))∧∀x∈xs,inI x
theorem Ints.at {g:PH} {v:Value} {xs:List Int} (H:Ints g v xs) {k:Nat} (hk:k < xs.length):
  inI xs[k]∧∃p,PF.val (.ixa 1) [v,.int .i64 k]=some p∧ldV none p g=some (.int .i64 xs[k]):=
 ⟨H.2 _ (List.getElem_mem hk),H.1.at1 (by simp[hk])⟩
def RSs {α:Type} (R:PH→Value→α→Prop) (g:PH) (v:Value) (xs:List α):Prop:=∃vs,RSl g v xs.length 1 vs∧∀(i:Nat) (u:Value) (x:α),vs[i]?=some u→xs[i]?=some x→R g u x
theorem RSs.at {α:Type} {R:PH→Value→α→Prop} {g:PH} {v:Value} {xs:List α} (H:RSs R g v xs) {k:Nat} (hk:k < xs.length):
  ∃u p,R g u xs[k]∧PF.val (.ixa 1) [v,.int .i64 k]=some p∧ldV none p g=some u:=by
 obtain ⟨vs,h1,h2⟩:=H;have hkv:k < vs.length:=by rw[h1.1];omega
 obtain ⟨p,e1,e2⟩:=h1.at1 (k:=k) (u:=vs[k]) (by simp[hkv]);exact ⟨vs[k],p,h2 k _ _ (by simp[hkv]) (by simp[hk]),e1,e2⟩
theorem RSs.len {α:Type} {R:PH→Value→α→Prop} {g:PH} {v:Value} {xs:List α} (H:RSs R g v xs):PF.val (.len false) [v]=some (.int .i64 xs.length):=H.choose_spec.1.len
theorem RSs.le {α:Type} {R:PH→Value→α→Prop} {g:PH} {v:Value} {xs:List α} (H:RSs R g v xs):xs.length≤9223372036854775807:=H.choose_spec.1.le
end Go.Kx
