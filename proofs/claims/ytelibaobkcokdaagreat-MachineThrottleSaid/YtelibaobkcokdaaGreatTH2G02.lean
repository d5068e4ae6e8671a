/- Own small program logic, part g: every compiled operation is sound for the model -/
import Derived.Test.YtelibaobkcokdaaGreatTH2G01
import Derived.MapKept
namespace Go.Kx
set_option linter.unusedVariables false
set_option linter.unusedSimpArgs false
open Go
theorem zip_map_snd {α β γ:Type} (l:List (α×β)) (f:β→γ):(l.map fun (i,x)=>(i,f x))=(l.map (·.1)).zip ((l.map (·.2)).map f):=by
 induction l with
 | nil=>rfl
 | cons p ps ih=>simp[ih]
theorem ofFn_run {P:Program} {w:World} {v:Value} {args:Array Value} {f:FuncId} {first cap:Array Value} (hv:v=.func (.func f) first cap) (h:fnOk P f=true):
  (do let d ←Deferred.ofValue v args;invoke d.target d.args:Sem Next).run P w=.ok (.enter f (first++args++cap)) w:=by
 subst hv;simp[Deferred.ofValue,invoke,callFunc_run h]
theorem ld_form {P:Program} {op:Op} {n:Option Nat} {x:Operand} (hc:compileOp P op=some (.ld n x)):∃t,op=.load t x∧aggOf P t=some n:=by
 cases op with
 | load t a=>simp only[compileOp,Option.map_eq_some_iff] at hc;obtain ⟨k,hk,hc⟩:=hc;simp only[SOp.ld.injEq] at hc;obtain ⟨rfl,rfl⟩:=hc;exact ⟨t,rfl,hk⟩
 | slice t x lo hi mx=>cases mx<;>simp only[compileOp] at hc<;>(repeat' (split at hc))<;>simp at hc
 | binOp op t x y yt=>cases op<;>simp only[compileOp] at hc<;>(repeat' (split at hc))<;>simp at hc
 | unOp u t x=>cases u<;>simp[compileOp] at hc
 | makeMap t r=>cases r<;>simp[compileOp] at hc
 | lookup t x i ok=>cases ok<;>simp only[compileOp] at hc<;>(repeat' (split at hc))<;>simp at hc
 | call c=>
  obtain ⟨callee,args,ats⟩:=c
  cases callee with
  | value x=>cases x<;>simp only[compileOp,compCall] at hc<;>(try (split at hc))<;>simp at hc
  | invoke _ _=>simp[compileOp,compCall] at hc
  | builtin b=>simp only[compileOp,compCall] at hc;(repeat' (split at hc))<;>simp at hc
 | _=>simp only[compileOp] at hc<;>(repeat' (split at hc))<;>simp at hc
theorem findNow_or {u:TypeDesc} {ck:CK} (hk:ckOf u=some ck) {k:Value}:∀{es:List MapEntry} {i:Nat} {q:Option (Nat×MapEntry)},findV ck k es i=some q →
  Instr.findNow u k es i=some (q.map fun p=>(p.1,p.2.val))∨Instr.findNow u k es i=none:=by
 intro es
 induction es with
 | nil=>intro i q h;simp[findV] at h;subst h;exact .inl rfl
 | cons e es ih=>
  intro i q h;have key:∀b,Instr.sameNow u k e.key=some b→eqC ck k e.key=some b:=by intro b hb;cases u<;>simp[ckOf] at hk<;>subst hk<;>(generalize e.key=y at hb ⊢;cases k<;>cases y<;>simp_all[Instr.sameNow,eqC])
  simp only[Instr.findNow]
  cases hs:Instr.sameNow u k e.key with
  | none=>exact .inr rfl
  | some b=>
   have:=key b hs;simp only[findV,this] at h
   cases b with
   | true=>simp only[Option.some.injEq] at h;subst h;exact .inl rfl
   | false=>exact ih h
theorem Y18 {P:Program} {w:World} {t:TypeId} {u:TypeDesc} {ck:CK} (hu:P.underlying t=some u) (hk:ckOf u=some ck) {k:Value}:∀{es:List MapEntry} {i:Nat} {q:Option (Nat×MapEntry)},findV ck k es i=some q →
  (Instr.findAsking t k es i).run P w=.ok (q.map fun p=>(p.1,p.2.val)) w:=by
 intro es
 induction es with
 | nil=>intro i q h;simp[findV] at h;subst h;simp[Instr.findAsking]
 | cons e es ih=>
  intro i q h;obtain ⟨d,hd⟩:=equal_d;simp only[findV] at h
  cases hb:eqC ck k e.key with
  | none=>rw[hb] at h;cases h
  | some b=>
   rw[hb] at h;have hr:=eqC_run (P:=P) (w:=w) hu hk hb d;simp only[Instr.findAsking,hd,Sem.run_bind,hr,Result.andThen_ok]
   cases b with
   | true=>simp only[Option.some.injEq] at h;subst h;simp
   | false=>simpa using ih h
theorem Y32 {P:Program} {t:TypeId} {ck:CK} (h:keyCk P t=some ck):∃u,P.underlying t=some u∧ckOf u=some ck∧((∃k,u=.int k)∨(∃k,u=.complex k)∨u=.string):=by
 unfold keyCk at h;split at h
 ·exact ⟨_,‹_›,h,.inl ⟨_,rfl⟩⟩
 ·exact ⟨_,‹_›,h,.inr (.inl ⟨_,rfl⟩)⟩
 ·exact ⟨_,‹_›,h,.inr (.inr rfl)⟩
 ·cases h
theorem Z73 {P:Program} {w:World} {t:TypeId} {ck:CK} (hc:keyCk P t=some ck) {k:Value} {es:List MapEntry} {q:Option (Nat×MapEntry)} (h:findV ck k es 0=some q):
  (Instr.findKey t k es).run P w=.ok (q.map fun p=>(p.1,p.2.val)) w:=by
 obtain ⟨u,hu,hk,_⟩:=Y32 hc;simp only[Instr.findKey,Sem.run_bind,run_underlying hu,Result.andThen_ok];rcases findNow_or hk h with e|e
 ·rw[e];simp
 ·rw[e];exact Y18 hu hk h
theorem Z01 {P:Program} {w:World} {t:TypeId} {ck:CK} (hc:keyCk P t=some ck) (em:Bool) (k:Value):(Instr.checkKey em 10000 t k).run P w=.ok () w:=by
 obtain ⟨u,hu,_,h⟩:=Y32 hc;have key:∀n,(Instr.checkKey em (n+1) t k).run P w=.ok () w:=by intro n;rcases h with ⟨j,rfl⟩|⟨j,rfl⟩|rfl<;>simp[Instr.checkKey,run_underlying hu]
 exact key 9999
theorem XE {P:Program} {w:World} {r:Nat} {en:Array MapEntry} {c:Nat} (h:w.heap[r]?=some (.map en c)):(getObj r).run P w=.ok (.map en c) w:=MapKept.run_getObj_map h
theorem Y33 {P:Program} {w:World} {r:Nat} {en:Array MapEntry} {c:Nat} (o:Obj) (h:w.heap[r]?=some (.map en c)):(setObj r o).run P w=.ok () { w with heap:=w.heap.setIfInBounds r o }:=MapKept.run_setObj_map o h
theorem findV_get {ck:CK} {k:Value}:∀{es:List MapEntry} {i j:Nat} {e:MapEntry},findV ck k es i=some (some (j,e))→i≤j∧es[j - i]?=some e:=by
 intro es
 induction es with
 | nil=>intro i j e h;simp[findV] at h
 | cons x es ih=>
  intro i j e h;simp only[findV] at h;split at h
  ·simp only[Option.some.injEq,Prod.mk.injEq] at h;obtain ⟨rfl,rfl⟩:=h;simp
  ·obtain ⟨h1,h2⟩:=ih h;refine ⟨by omega,?_⟩;rw[show j - i=(j - (i+1))+1 by omega];simpa using h2
  ·cases h
theorem keyStays_run {P:Program} {w:World} {a b:Value} (h:Instr.sameBits 10000 a b=true):(Instr.keyThatStays a b).run P w=.ok b w:=by simp[Instr.keyThatStays,h]
theorem mup_run {P:Program} {w:World} {t kt et:TypeId} {ck:CK} (ht:P.underlying t=some (.map kt et)) (hc:keyCk P kt=some ck) {m k v:Value} {K:Value→Heap→Prop} (h:(EF.mup ck).wp P [m,k,v] w.heap K):
  ∃w',(Instr.mapUpdate t m k v).run P w=.ok () w'∧K undef w'.heap∧Same w w':=by
 cases m with
 | map o=>
  cases o with
  | none=>exact h.elim
  | some r=>
   obtain ⟨en,clock,hr,h⟩:=h;rcases h with ⟨i,e,hf,hs,hk⟩|⟨hf,hk⟩
   ·refine ⟨{ w with heap:=w.heap.setIfInBounds r (.map (en.modify i fun e=>{ e with key:=k,val:=v }) clock) },?_,hk,⟨rfl,rfl,rfl⟩⟩;obtain ⟨_,hg⟩:=findV_get hf;have hg':en[i]?=some e:=by simpa using hg
    simp only[Instr.mapUpdate,Sem.run_bind,run_underlying ht,Result.andThen_ok,XE hr,Z01 hc,Z73 hc hf,Option.map_some,hg',Option.getD_some,keyStays_run hs,Y33 _ hr]
   ·refine ⟨{ w with heap:=w.heap.setIfInBounds r (.map (en.push { key:=k,val:=v,born:=clock }) (clock+1)) },?_,hk,⟨rfl,rfl,rfl⟩⟩;simp only[Instr.mapUpdate,Sem.run_bind,run_underlying ht,Result.andThen_ok,XE hr,Z01 hc,Z73 hc hf,Option.map_none,Y33 _ hr]
 | _=>exact h.elim
theorem mlk_run {P:Program} {w:World} {t kt et:TypeId} {ck:CK} {j:TypeInfo} {z:Value} (ht:P.underlying t=some (.map kt et)) (hc:keyCk P kt=some ck) (hj:P.info? et=some j) (hz:j.zero=some z) {m k:Value} {K:Value→Heap→Prop} (h:(EF.mlk ck z).wp P [m,k] w.heap K):
  ∃v,(Instr.lookup t m k false).run P w=.ok v w∧K v w.heap:=by
 cases m with
 | map o=>
  cases o with
  | none=>exact h.elim
  | some r=>
   obtain ⟨en,clock,hr,q,hf,hk⟩:=h;refine ⟨_,?_,hk⟩
   cases q with
   | none=>simp[Instr.lookup,run_underlying ht,XE hr,Z01 hc,Z73 hc hf,zeroValue,typeInfo,hj,hz,Result.andThen]
   | some p=>simp[Instr.lookup,run_underlying ht,XE hr,Z01 hc,Z73 hc hf,Result.andThen]
 | _=>exact h.elim
set_option maxHeartbeats 1000000 in
theorem op_sound {P:Program} {op:Op} {s:SOp} (hc:compileOp P op=some s) {dst:Option Tmp} {type:TypeId} {pos:String} {after:Array Edge} {guard:Option (Nat×Bool)}
  {a:Act} {w:World} {ε:Env} {K:Value→Heap→Prop} {Q:Exit→Act→World→Prop} {next:Act→World→Prop}
  (hev:∀x∈s.opds,a.eval x=ev ε x) (h:s.wp P ε w.heap K) (hn:∀v w',K v w'.heap→Same w w'→next (a.put dst v) w'):
  Oper.wp P ⟨dst,op,type,pos,after,guard⟩ a w next Q:=by
 have hm:∀xs:List Operand,(∀x∈xs,a.eval x=ev ε x)→xs.map (ev ε)=xs.map a.eval:=by intro xs hx;exact List.map_congr_left fun x hx'=>(hx x hx').symm
 have hval:∀v w',(execOp a.eval ⟨dst,op,type,pos,after,guard⟩).run P w=.ok (.value v) w'→K v w'.heap→Same w w'→Oper.wp P ⟨dst,op,type,pos,after,guard⟩ a w next Q:=by intro v w' he hk hs;unfold Oper.wp;rw[he];exact hn v w' hk hs
 cases s with
 | pur f xs=>obtain ⟨v,hv,hk⟩:=h;rw[hm xs hev] at hv;exact hval v w (pur_run hc a.eval (fun _=>rfl) hv dst type pos after guard w) hk (Same.refl w)
 | ld n x=>obtain ⟨v,hv,hk⟩:=h;have hx:=hev x (by simp[SOp.opds]);obtain ⟨t,rfl,ha⟩:=ld_form hc;refine hval v w ?_ hk (Same.refl w);rw[←hx] at hv;simp[execOp,ld_run ha hv]
 | eff e xs=>
  have hx:=hm xs hev;simp only[SOp.wp,hx] at h
  cases op with
  | alloc T=>
   cases hi:P.info? T with
   | none=>simp[compileOp,hi] at hc
   | some i=>
    cases hz:i.zero with
    | none=>simp[compileOp,hi,hz] at hc
    | some z=>simp[compileOp,hi,hz] at hc;obtain ⟨rfl,rfl⟩:=hc;refine hval (.pointer (some ⟨w.heap.size,0,none⟩)) (w.alloc (.cells z.cells T (0,0))) ?_ (by have h:=h;simp[EF.wp] at h;exact h) ⟨rfl,rfl,rfl⟩;simp[execOp,Instr.alloc,zeroValue,typeInfo,hi,hz,newVar,newRow]
  | box T x=>simp[compileOp] at hc;obtain ⟨rfl,rfl⟩:=hc;refine hval (.pointer (some ⟨w.heap.size,0,none⟩)) (w.alloc (.cells (a.eval x).cells T (0,0))) ?_ (by have h:=h;simp[EF.wp] at h;exact h) ⟨rfl,rfl,rfl⟩;simp[execOp,Instr.box,newVar,newRow]
  | store t ad x=>
   cases hi:P.info? t with
   | none=>simp[compileOp,hi] at hc
   | some i=>
    simp[compileOp,hi] at hc;obtain ⟨rfl,rfl⟩:=hc;simp only[List.map_cons,List.map_nil] at h
    cases had:a.eval ad with
    | pointer o=>
     rw[had] at h
     cases o with
     | none=>exact h.elim
     | some ap=>
      obtain ⟨b,off,spot⟩:=ap
      cases spot with
      | some _=>exact h.elim
      | none=>
       obtain ⟨hsz,h',hst,hk⟩:=h;have:=stL_run (P:=P) (a.eval x).cells.toList w b off 0 h' hst
       have hr:(execOp a.eval ⟨dst,.store t ad x,type,pos,after,guard⟩).run P w=.ok .skip { w with heap:=h' }:=by
        have hcs:P.cellsOf t=i.size:=by simp[Program.cellsOf,hi]
        simp[execOp,Instr.storeAt,had,Instr.sureAddr,storeVar,run_sizeOf w hi,hcs,hsz,this]
       unfold Oper.wp;rw[hr];exact hn undef { w with heap:=h' } hk ⟨rfl,rfl,rfl⟩
    | _=>rw[had] at h;exact h.elim
  | buildSlice t len parts=>
   simp only[compileOp] at hc;split at hc
   ·rename_i e' i z hE;split at hc
    ·rename_i hp;simp only[Option.some.injEq,SOp.eff.injEq] at hc;obtain ⟨rfl,rfl⟩:=hc;simp only[EF.wp,List.map_map] at h;obtain ⟨hv,hk⟩:=h;have hlen:parts.toList.length=len:=by have:=congrArg List.length hp.1;simpa using this
     have hzip:=zip_map_snd parts.toList a.eval;rw[hp.1] at hzip;have hl2:(List.map (a.eval ∘ fun x=>x.2) parts.toList).length=len:=by simpa using hlen
     have:=bsl_run (w:=w) (vs:=(parts.toList.map (·.2)).map a.eval) hE (by simpa[hlen] using hp.2) (by simpa using hv);simp only[List.length_map,hlen,←hzip] at this;have e2:(parts.toList.map fun (i,x)=>(i,a.eval x)).toArray=parts.map fun (i,x)=>(i,a.eval x):=by apply Array.ext';simp
     rw[e2] at this;rw[hl2] at hk;refine hval _ _ ?_ (by simpa using hk) (Yl w _);simp only[execOp,this,Sem.run_bind,Result.andThen_ok,Sem.run_pure,List.map_map]
    ·cases hc
   ·cases hc
  | makeSlice t l c=>simp only[compileOp,Option.map_eq_some_iff] at hc;obtain ⟨⟨e',i,z⟩,hE,hc⟩:=hc;simp only[SOp.eff.injEq] at hc;obtain ⟨rfl,rfl⟩:=hc;simp only[List.map_cons,List.map_nil] at h;cases hl:a.eval l<;>simp only[hl] at h<;>(try exact h.elim)<;>cases hcc:a.eval c<;>simp only[hcc] at h<;>(try exact h.elim);obtain ⟨h0,h1,h2,h3,hk⟩:=h;rename_i n1 k2 n2;refine hval _ { w with heap:=w.heap.push (.cells (rep z n2.toNat).toArray e' (0,0)) } ?_ hk (Yl w _);simp only[execOp,hl,hcc,Sem.run_bind,mks_run hE h0 h1 h2 h3,Result.andThen_ok,Sem.run_pure]
  | call c=>
   obtain ⟨callee,args,ats⟩:=c;have hargs:∀l,args.toList=l→args=l.toArray:=by intro l h;rw[←h]
   simp only[compileOp] at hc
   cases callee with
   | invoke _ _=>simp[compCall] at hc
   | value f=>
    have hcallv:∀(vs:List Value),(EF.callv).wp P (a.eval f::vs) w.heap K→vs=args.toList.map a.eval→Oper.wp P ⟨dst,.call ⟨.value f,args,ats⟩,type,pos,after,guard⟩ a w next Q:=by
     intro vs h hvs
     cases hf:a.eval f with
     | func fn first cap=>
      rw[hf] at h
      cases fn with
      | func fi=>
       obtain ⟨hok,hcall⟩:=h
       have hr:(execOp a.eval ⟨dst,.call ⟨.value f,args,ats⟩,type,pos,after,guard⟩).run P w=.ok (.enter fi (first++vs.toArray++cap)) w:=by
        have:=ofFn_run (P:=P) (w:=w) (args:=args.map a.eval) hf hok;have e1:args.map a.eval=vs.toArray:=by rw[hvs];apply Array.ext';simp
        rw[e1] at this;simpa[execOp,resolve,e1] using this
       unfold Oper.wp;rw[hr];refine (hcall w rfl).mono ?_;rintro e w' ⟨v,rfl,hk,hs⟩;exact hn v w' hk hs
      | _=>exact h.elim
     | _=>rw[hf] at h;exact h.elim
    cases f with
    | func fi=>
     simp only[compCall] at hc;split at hc
     ·rename_i hok;simp only[Option.some.injEq,SOp.eff.injEq] at hc;obtain ⟨rfl,rfl⟩:=hc;refine hcallv _ ?_ rfl;refine ⟨hok,?_⟩;simpa[EF.wp,Act.eval] using h
     ·cases hc
    | tmp t=>simp only[compCall,Option.some.injEq,SOp.eff.injEq] at hc;obtain ⟨rfl,rfl⟩:=hc;exact hcallv _ h rfl
    | const t=>simp only[compCall,Option.some.injEq,SOp.eff.injEq] at hc;obtain ⟨rfl,rfl⟩:=hc;exact hcallv _ h rfl
    | global t=>simp only[compCall,Option.some.injEq,SOp.eff.injEq] at hc;obtain ⟨rfl,rfl⟩:=hc;exact hcallv _ h rfl
   | builtin b=>
    simp only[compCall] at hc;split at hc
    ·split at hc<;>simp at hc
    ·split at hc<;>simp at hc
    ·simp at hc
    ·simp at hc
    ·rename_i x y t u ha ht;have e1:=hargs _ ha;subst e1;have e2:ats=[t,u].toArray:=by rw[←ht]
     subst e2
     have key:∀{e' i z},elemInfo P t=some (e',i,z)→((∃e',P.underlying u=some (.slice e'))∨P.underlying u=some .string)→(EF.app e' i.size i.bytes z).wp P [a.eval x,a.eval y] w.heap K →
       Oper.wp P ⟨dst,.call ⟨.builtin .append,[x,y].toArray,[t,u].toArray⟩,type,pos,after,guard⟩ a w next Q:=by
      intro e' i z hE hu h
      cases hx:a.eval x with
      | slice base n cap=>rw[hx] at h;obtain ⟨v,w',hr,hk,hs⟩:=app_run (ty:=type) hE hu h;refine hval v w' ?_ hk hs;simp[execOp,resolve,invoke,builtin,hx,hr]
      | _=>rw[hx] at h;exact h.elim
     split at hc
     ·simp only[Option.some.injEq,SOp.eff.injEq] at hc;obtain ⟨rfl,rfl⟩:=hc;exact key ‹_› (.inl ⟨_,‹_›⟩) h
     ·split at hc
      ·simp only[Option.some.injEq,SOp.eff.injEq] at hc;obtain ⟨rfl,rfl⟩:=hc;exact key ‹_› (.inr ‹_›) h
      ·cases hc
     ·cases hc
    ·simp at hc
    ·simp at hc
    ·simp at hc
    ·cases hc
  | slice t x lo hi mx=>cases mx<;>simp only[compileOp] at hc<;>(repeat' (split at hc))<;>simp at hc
  | binOp op t x y yt=>cases op<;>simp only[compileOp] at hc<;>(repeat' (split at hc))<;>simp at hc
  | unOp u t x=>cases u<;>simp[compileOp] at hc
  | makeMap t r=>
   cases r with
   | some _=>simp[compileOp] at hc
   | none=>simp only[compileOp,Option.some.injEq,SOp.eff.injEq] at hc;obtain ⟨rfl,rfl⟩:=hc;refine hval (.map (some w.heap.size)) (w.alloc (.map #[] 0)) ?_ (by have h:=h;simp[EF.wp] at h;exact h) ⟨rfl,rfl,rfl⟩;simp[execOp,Instr.makeMap]
  | mapUpdate t m k x=>
   simp only[compileOp] at hc;split at hc
   ·rename_i kt et ht;simp only[Option.map_eq_some_iff,SOp.eff.injEq] at hc;obtain ⟨ck,hck,rfl,rfl⟩:=hc;obtain ⟨w',hr,hk,hs⟩:=mup_run ht hck h;have hr2:(execOp a.eval ⟨dst,.mapUpdate t m k x,type,pos,after,guard⟩).run P w=.ok .skip w':=by simp[execOp,hr]
    unfold Oper.wp;rw[hr2];exact hn undef w' hk hs
   ·cases hc
  | insert t m k x=>
   simp only[compileOp] at hc;split at hc
   ·rename_i kt et ht;simp only[Option.map_eq_some_iff,SOp.eff.injEq] at hc;obtain ⟨ck,hck,rfl,rfl⟩:=hc;obtain ⟨w',hr,hk,hs⟩:=mup_run ht hck h;have hr2:(execOp a.eval ⟨dst,.insert t m k x,type,pos,after,guard⟩).run P w=.ok .skip w':=by simp[execOp,hr]
    unfold Oper.wp;rw[hr2];exact hn undef w' hk hs
   ·cases hc
  | lookup t x i ok=>
   cases ok with
   | true=>simp[compileOp] at hc
   | false=>
    simp only[compileOp] at hc;split at hc
    ·rename_i kt et ht;split at hc
     ·rename_i ck j hck hj;simp only[Option.map_eq_some_iff,SOp.eff.injEq] at hc;obtain ⟨z,hz,rfl,rfl⟩:=hc;obtain ⟨v,hr,hk⟩:=mlk_run ht hck hj hz h;exact hval v w (by simp[execOp,hr]) hk (Same.refl w)
     ·cases hc
    ·cases hc
  | panic x=>simp only[compileOp,Option.some.injEq,SOp.eff.injEq] at hc;obtain ⟨rfl,rfl⟩:=hc;exact (by have h:=h;simp[EF.wp] at h)
  | _=>simp only[compileOp] at hc<;>(repeat' (split at hc))<;>simp at hc
structure SItem where
 dst:Option Nat
 guard:Option (Nat×Bool)
 op:SOp
 deriving Inhabited
def gsel (v:Value) (want:Bool):Bool:=match v with
 | .bool b=>b==want
 | _=>false
def SItem.wp (P:Program) (it:SItem) (ε:Env) (h:Heap) (K:Value→Heap→Prop):Prop:=
 match it.guard with
 | none=>it.op.wp P ε h K
 | some (s,want)=>if gsel (ε s) want then it.op.wp P ε h K else K undef h
def SOp.qv (s:SOp) (ε:Env) (h:Heap):Option Value:=
 match s with
 | .pur f xs=>f.val (xs.map (ev ε))
 | .ld n x=>ldV n (ev ε x) (hp h)
 | .eff _ _=>none
def SItem.qval (it:SItem) (ε:Env) (h:Heap):Option Value:=
 match it.guard with
 | none=>it.op.qv ε h
 | some (s,want)=>if gsel (ε s) want then it.op.qv ε h else some undef
def SItem.holds (it:SItem) (ε:Env) (h:Heap):Prop:=∃v,it.qval ε h=some v∧∀d,it.dst=some d→ε d=v
def SItem.isEff (it:SItem):Bool:=match it.op with|.eff _ _=>true|_=>false
def SItem.isLd (it:SItem):Bool:=match it.op with|.ld _ _=>true|_=>false
inductive RT where
 | done
 | run (it:SItem) (rest:RT)
 | eff (it:SItem) (held:List SItem) (rest:RT)
 | both (a b:RT)
 deriving Inhabited
def goR (P:Program):RT→Env→Heap→(Env→Heap→Prop)→Prop
 | .done,ε,h,K=>K ε h
 | .run it rest,ε,h,K=>it.wp P ε h fun v h'=>goR P rest (ε.put it.dst v) h' K
 | .eff it held rest,ε,h,K=>it.wp P ε h fun v h'=>(∀q∈held,q.holds (ε.put it.dst v) h')∧goR P rest (ε.put it.dst v) h' K
 | .both a b,ε,h,K=>goR P a ε h K∧goR P b ε h K
def opdTmp:Operand→List Nat
 | .tmp t=>[t]
 | _=>[]
def SItem.reads (it:SItem):List Nat:=it.op.opds.flatMap opdTmp++(match it.guard with|some (s,_)=>[s]|none=>[])
def compItem (P:Program) (ops:Array Oper) (o:Oper):Option SItem:=
 match compileOp P o.op with
 | none=>none
 | some s=>match o.guard with
  | none=>some ⟨o.dst,none,s⟩
  | some (j,want)=>match (ops[j]?).bind (·.dst) with
   | some t=>some ⟨o.dst,some (t,want),s⟩
   | none=>none
def straight:List SItem→RT
 | []=>.done
 | it::its=>.run it (straight its)
def chk (N:Nat):List Nat→List SItem→Bool
 | _,[]=>true
 | kn,it::its=>it.reads.all (kn.contains ·)&&(match it.dst with|some d=>decide (d < N)|none=>true)&&chk N (it.dst.toList++kn) its
def AgreeOn (kn:List Nat) (N:Nat) (a:Act) (ε:Env):Prop:=a.defers=[]∧a.tmps.size=N∧∀s,kn.contains s=true→a.tmps.getD s undef=ε s
theorem eval_agree {kn:List Nat} {N:Nat} {a:Act} {ε:Env} (h:AgreeOn kn N a ε) {x:Operand} (hx:∀t∈opdTmp x,kn.contains t=true):a.eval x=ev ε x:=by
 cases x with
 | tmp t=>exact h.2.2 t (hx t (by simp[opdTmp]))
 | _=>rfl
theorem Qz {xs:Array Value} {d s:Nat} {v:Value} (hd:d < xs.size):(xs.setIfInBounds d v).getD s undef=if s=d then v else xs.getD s undef:=by
 by_cases h:s=d
 ·subst h;simp[Array.getD,hd]
 ·simp only[if_neg h,Array.getD,Array.size_setIfInBounds];split
  ·rw[Array.getInternal_eq_getElem,Array.getInternal_eq_getElem,Array.getElem_setIfInBounds_ne];exact fun e=>h e.symm
  ·rfl
theorem agree_put {kn:List Nat} {N:Nat} {a:Act} {ε:Env} (h:AgreeOn kn N a ε) (dst:Option Nat) (v:Value) (hd:∀d,dst=some d→d < N):
  AgreeOn (dst.toList++kn) N (a.put dst v) (ε.put dst v):=by
 cases dst with
 | none=>exact h
 | some d=>
  refine ⟨h.1,by simp[Act.put,h.2.1],fun s hs=>?_⟩;simp only[Act.put,Env.put,Env.set];rw[Qz (by rw[h.2.1];exact hd d rfl)];split
  ·rfl
  ·rename_i hne;refine h.2.2 s ?_;simpa[hne] using hs
theorem guard_wanted {ops:Array Oper} {a:Act} {ε:Env} {j s:Nat} {want:Bool} {o:Oper} (hg:o.guard=some (j,want)) (hj:(ops[j]?).bind (·.dst)=some s) (ha:a.tmps.getD s undef=ε s):
  Region.wanted o (yielded ops a.tmps)=gsel (ε s) want:=by
 by_cases hlt:s < a.tmps.size
 ·have e1:a.tmps.getD s undef=a.tmps[s]:=by simp[Array.getD,hlt]
  rw[e1] at ha;rw[←ha];simp only[Region.wanted,hg,yielded,hj,Option.bind_some,Array.getElem?_eq_getElem hlt];generalize a.tmps[s]=x;cases x<;>rfl
 ·have e1:a.tmps.getD s undef=undef:=by simp[Array.getD,hlt]
  have e2:a.tmps[s]?=none:=by simp;omega
  rw[e1] at ha;rw[←ha];simp only[Region.wanted,hg,yielded,hj,Option.bind_some,e2];rfl
theorem X43 {P:Program} {ops:Array Oper} {o:Oper} {it:SItem} (hc:compItem P ops o=some it) {a:Act} {ε:Env} {w:World} {K:Value→Heap→Prop} {Q:Exit→Act→World→Prop} {next:Act→World→Prop}
  (hr:∀t∈it.reads,a.tmps.getD t undef=ε t) (h:it.wp P ε w.heap K) (hn:∀v w',K v w'.heap→Same w w'→next (a.put it.dst v) w'):
  (if Region.wanted o (yielded ops a.tmps) then o.wp P a w next Q∨(o.asks P a w∧LetsOut Q) else next (a.put o.dst undef) w):=by
 obtain ⟨dst,op,type,pos,after,guard⟩:=o;unfold compItem at hc;split at hc
 ·cases hc
 rename_i s hs
 have hev:∀x∈s.opds,(∀t∈opdTmp x,a.tmps.getD t undef=ε t)→a.eval x=ev ε x:=by
  intro x _ hx
  cases x with
  | tmp t=>exact hx t (by simp[opdTmp])
  | _=>rfl
 cases guard with
 | none=>simp only[Option.some.injEq] at hc;subst hc;have hw:Region.wanted ⟨dst,op,type,pos,after,none⟩ (yielded ops a.tmps)=true:=rfl;rw[if_pos hw];refine .inl (op_sound hs (fun x hx=>hev x hx fun t ht=>hr t ?_) h hn);simp only[SItem.reads,List.mem_append,List.mem_flatMap];exact .inl ⟨x,hx,ht⟩
 | some g=>
  obtain ⟨j,want⟩:=g;simp only at hc;split at hc
  ·rename_i t hj;simp only[Option.some.injEq] at hc;subst hc;rw[guard_wanted rfl hj (hr t (by simp[SItem.reads]))];have h:if gsel (ε t) want then s.wp P ε w.heap K else K undef w.heap:=h;split at h
   ·rename_i hgs;rw[if_pos hgs];refine .inl (op_sound hs (fun x hx=>hev x hx fun t ht=>hr t ?_) h hn);simp only[SItem.reads,List.mem_append,List.mem_flatMap];exact .inl ⟨x,hx,ht⟩
   ·rename_i hgs;rw[if_neg hgs];exact hn undef w h (Same.refl w)
  ·cases hc
theorem Y19 {P:Program} {ops:Array Oper} {N:Nat} {Q:Exit→Act→World→Prop} {K:Env→Heap→Prop} {w0:World}:∀(l:List Oper) (its:List SItem),l.mapM (compItem P ops)=some its→∀(kn:List Nat) (a:Act) (ε:Env) (w:World),
  chk N kn its=true→AgreeOn kn N a ε→Same w0 w→goR P (straight its) ε w.heap K →
  (∀a' ε' w',AgreeOn kn N a' ε'→(∀it∈its,∀d,it.dst=some d→a'.tmps.getD d undef=ε' d)→Same w0 w'→K ε' w'.heap→Q .normal a' w')→wpList P ops Q l a w:=by
 intro l
 induction l with
 | nil=>intro its hl kn a ε w _ hag hs h hQ;simp at hl;subst hl;exact hQ a ε w hag ke hs h
 | cons o l ih=>
  intro its hl kn a ε w hck hag hs h hQ;rw[List.mapM_cons] at hl;simp only[bind,Option.bind_eq_some_iff,pure,Option.some.injEq] at hl;obtain ⟨it,hit,its',hits,rfl⟩:=hl;simp only[chk,Bool.and_eq_true,List.all_eq_true] at hck;obtain ⟨⟨hrd,hd⟩,hck⟩:=hck;unfold wpList
  have:=X43 (P:=P) (ops:=ops) (Q:=Q) (next:=wpList P ops Q l) hit (a:=a) (ε:=ε) (w:=w) (K:=fun v h'=>goR P (straight its') (ε.put it.dst v) h' K)
   (fun t ht=>hag.2.2 t (hrd t ht)) h (fun v w' hk hsw=>?_)
  ·exact this
  ·have hd':∀d,it.dst=some d→d < N:=by intro d e;simpa[e] using hd
   refine ih its' hits (it.dst.toList++kn) (a.put it.dst v) (ε.put it.dst v) w' hck (agree_put hag it.dst v hd') (hs.trans hsw) hk ?_;intro a' ε' w'' h1 h2 h3 h4;refine hQ a' ε' w'' ⟨h1.1,h1.2.1,fun s hs=>h1.2.2 s (by simp only[List.contains_eq_mem,List.mem_append,decide_eq_true_eq] at hs ⊢;exact .inr hs)⟩ ?_ h3 h4;intro it2 hm d hd2;rcases List.mem_cons.1 hm with rfl|hm
   ·exact h1.2.2 d (by simp[hd2])
   ·exact h2 it2 hm d hd2
end Go.Kx
