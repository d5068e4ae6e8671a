/- Own small program logic, part e: a compiled pure operation gives what the model' -/
import Derived.Test.YtelibaobkcokdaaGreatTH2G00
namespace Go.Kx
set_option linter.unusedVariables false
set_option linter.unusedSimpArgs false
open Go
theorem Yj {P:Program} {w:World} {t:TypeId} {n:Option Nat} (h:aggOf P t=some n):(isAgg t).run P w=.ok n.isSome w∧(∀k,n=some k→P.cellsOf t=k)∧∃i,P.info? t=some i:=by
 unfold aggOf at h;split at h
 ·rename_i i _ hi hu;cases h;exact ⟨by simp[isAgg,run_underlying hu],(fun k hk=>by cases hk;simp[Program.cellsOf,hi]),_,hi⟩
 ·rename_i i _ _ hi hu;cases h;exact ⟨by simp[isAgg,run_underlying hu],(fun k hk=>by cases hk;simp[Program.cellsOf,hi]),_,hi⟩
 ·rename_i i u h1 h2 hi hu;cases h;refine ⟨?_,(fun k hk=>by cases hk),_,hi⟩;cases u<;>simp_all[isAgg,run_underlying hu]
 ·cases h
theorem Y54 {P:Program} {w:World} {t:TypeId} {n:Option Nat} {cs:Array Value} {off:Nat} {v:Value} (h:aggOf P t=some n)
  (hv:PF.val (.fld off n) [.agg cs]=some v):(part t cs off).run P w=.ok v w:=by
 obtain ⟨h1,h2,i,hi⟩:=Yj (w:=w) h
 cases n with
 | none=>simp[PF.val] at hv;simp[part,h1,hv]
 | some k=>simp[PF.val,subL] at hv;subst hv;simp only[part,h1,Sem.run_bind,Result.andThen_ok,Option.isSome_some,if_true,run_sizeOf w hi,h2 k rfl,Sem.run_pure,Result.ok.injEq,and_true];congr 1;apply Array.ext';simp[Array.toList_extract,List.extract_eq_take_drop]
theorem X07 {P:Program} {w:World} {y n:Nat} {v:Value} {c:BoundsCode} (h:bound y v=some n):(Instr.sliceBound v y c).run P w=.ok n w:=by
 unfold bound at h;split at h
 ·split at h
  ·cases h
   rename_i hb;simp[Instr.sliceBound,asIntOf,hb]
  ·cases h
 ·cases h
theorem Y55 {P:Program} {w:World} {b:Bool} {n c l h:Nat} {lo hi:Option Value} (H:loHi lo.isSome hi.isSome n c (lo.toList++hi.toList)=some (l,h)):
  (Instr.sliceBounds b n c lo hi none).run P w=.ok (l,h,c) w:=by
 cases lo with
 | none=>
  cases hi with
  | none=>simp[loHi] at H;obtain ⟨rfl,rfl⟩:=H;simp[Instr.sliceBounds]
  | some v=>simp[loHi] at H;obtain ⟨h1,rfl⟩:=H;simp[Instr.sliceBounds,X07 h1]
 | some u=>
  cases hi with
  | none=>simp[loHi] at H;obtain ⟨x,h1,rfl,rfl⟩:=H;simp[Instr.sliceBounds,X07 h1]
  | some v=>simp[loHi,Option.bind_eq_some_iff] at H;obtain ⟨a,h1,x,h2,rfl,rfl⟩:=H;simp[Instr.sliceBounds,X07 h1,X07 h2]
theorem mm_run {P:Program} {w:World} {mx:Bool} {x y v:Value} (h:mm mx x y=some v):((if mx then Builtin.max2 else Builtin.min2) x y).run P w=.ok v w:=by
 unfold mm at h;split at h
 ·cases h;cases mx<;>simp[Builtin.max2,Builtin.min2]
 ·cases h
theorem mms_run {P:Program} {w:World} {mx:Bool}:∀(ys:List Value) (x v:Value),mms mx x ys=some v→(ys.foldlM (if mx then Builtin.max2 else Builtin.min2) x).run P w=.ok v w:=by
 intro ys
 induction ys with
 | nil=>intro x v h;simp[mms] at h;simp[h]
 | cons y ys ih=>intro x v h;simp only[mms,Option.bind_eq_some_iff] at h;obtain ⟨z,h1,h2⟩:=h;simp only[List.foldlM_cons,Sem.run_bind,mm_run h1,Result.andThen_ok];exact ih z v h2
theorem setAt_eq (off:Nat):∀(vs:List Value) (k:Nat) (l:List Value),
  ((vs.zipIdx k).foldl (fun (cs:Array Value) (x:Value×Nat)=>cs.setIfInBounds (off+x.2) x.1) l.toArray)=(setAt l (off+k) vs).toArray:=by
 intro vs
 induction vs with
 | nil=>intro k l;simp[setAt]
 | cons v vs ih=>intro k l;simp only[List.zipIdx_cons,List.foldl_cons,List.setIfInBounds_toArray,setAt];rw[ih (k+1) (l.set (off+k) v)];rfl
theorem fill_run {place:Nat→Option (Nat×Nat)}:∀(is:List Nat) (ps:List (Nat×Nat)) (vs:List Value) (z l:List Value),is.mapM place=some ps→vs.length=is.length→fillL z ps vs=some l →
  Instr.fill place z.toArray (is.zip vs)=some l.toArray:=by
 intro is
 induction is with
 | nil=>intro ps vs z l hp hv h;simp at hp;subst hp;cases vs<;>simp[fillL] at h hv ⊢;simp[Instr.fill,h]
 | cons i is ih=>
  intro ps vs z l hp hv h;rw[List.mapM_cons] at hp;simp only[bind,Option.bind_eq_some_iff,pure,Option.some.injEq] at hp;obtain ⟨p,hp1,ps',hp2,rfl⟩:=hp;obtain ⟨off,sz⟩:=p
  cases vs with
  | nil=>simp at hv
  | cons v vs=>
   simp only[fillL] at h;split at h
   ·rename_i hc;simp only[List.zip_cons_cons,Instr.fill,hp1];have h1:¬((v.cells.size≠sz||decide (off+v.cells.size > z.toArray.size))=true):=by simp;omega
    rw[if_neg h1];have:=setAt_eq off v.cells.toList 0 z;rw[←Array.foldl_toList,Array.toList_zipIdx,this];exact ih ps' vs _ l hp2 (by simpa using hv) h
   ·cases h
theorem places_fill {P:Program} {w:World} {t:TypeId} {parts:List (Nat×Value)} {ps:List (Nat×Nat)} {i:TypeInfo} {z:Value} {l:List Value} (hi:P.info? t=some i) (hz:i.zero=some z)
  (hps:places P t (parts.map (·.1))=some ps) (hl:fillL z.cells.toList ps (parts.map (·.2))=some l):(Instr.build t parts.toArray).run P w=.ok (.agg l.toArray) w:=by
 have hzz:(zeroValue t).run P w=.ok z w:=by simp[zeroValue,typeInfo,hi,hz]
 have hzip:parts=(parts.map (·.1)).zip (parts.map (·.2)):=by
  clear hps hl
  induction parts with
  | nil=>rfl
  | cons p ps ih=>simp[←ih]
 unfold places at hps;split at hps
 ·rename_i fs hu;simp only[Option.bind_eq_some_iff] at hps;obtain ⟨pl,hpl,hps⟩:=hps;simp only[Instr.build,Sem.run_bind,hzz,Result.andThen_ok,run_underlying hu]
  have hrun:∀(fl:List Field) (pl:List (Nat×Nat)),(fl.mapM fun f=>(P.info? f.type).map fun i=>(f.offset,i.size))=some pl →
    (fl.mapM fun f=>do pure (f.offset,←sizeOf f.type):Sem (List (Nat×Nat))).run P w=.ok pl w:=by
   intro fl
   induction fl with
   | nil=>intro pl h;simp at h;subst h;rfl
   | cons f fl ih=>
    intro pl h;rw[List.mapM_cons] at h ⊢;simp only[bind,Option.bind_eq_some_iff,pure,Option.some.injEq,Option.map_eq_some_iff] at h;obtain ⟨p,⟨i,hi,rfl⟩,ps',hps',rfl⟩:=h;have:=ih ps' hps';have e:=run_sizeOf w hi;have e2:P.cellsOf f.type=i.size:=by simp[Program.cellsOf,hi]
    simp only[Sem.run_bind,e,e2,Result.andThen_ok,Sem.run_pure,this]
  have hpl1:(fs.mapM fun f=>do pure (f.offset,←sizeOf f.type):Sem (Array (Nat×Nat))).run P w=.ok pl.toArray w:=by rw[Array.mapM_eq_mapM_toList];simp only[Sem.run_map,hrun _ _ hpl,Result.andThen_ok]
  have:=fill_run (place:=(pl.toArray[·]?)) (parts.map (·.1)) ps (parts.map (·.2)) z.cells.toList l (by simpa using hps) ke hl;rw[←hzip] at this;simp only[Array.toArray_toList] at this;simp only[hpl1,Result.andThen_ok,this,Sem.run_pure]
 ·rename_i n e hu;obtain ⟨j,hj,rfl⟩:=Option.map_eq_some_iff.1 hps;simp only[Instr.build,Sem.run_bind,hzz,Result.andThen_ok,run_underlying hu,run_sizeOf w hj];have hcj:P.cellsOf e=j.size:=by simp[Program.cellsOf,hj]
  have:=fill_run (place:=fun i=>some (i * P.cellsOf e,P.cellsOf e)) (parts.map (·.1)) _ (parts.map (·.2)) z.cells.toList l
   (by
    rw[hcj];generalize parts.map (·.1)=is
    induction is with
    | nil=>rfl
    | cons i is ih=>rw[List.mapM_cons,ih];rfl) ke hl
  rw[←hzip] at this;simp only[Array.toArray_toList] at this;simp[this]
 ·cases hps
theorem ba_get (s:ByteArray) (n:Nat):s[n]?=s.data[n]?:=by
 by_cases h:n < s.size
 ·rw[getElem?_pos s n h,getElem?_pos s.data n h];rfl
 ·rw[getElem?_neg s n h,getElem?_neg s.data n h]
theorem equal_d:∃d,∀t x y,Op.equal t x y=Op.equalIn (d+1) t x y:=⟨9999,fun _ _ _=>rfl⟩
theorem eqN0 {P:Program} {w:World} {t e:TypeId} {d:Nat} {v:Value} {b:Bool} (hu:P.underlying t=some (.pointer e)) (h:isNil 0 v=some b):
  (Op.equalIn (d+1) t v (.pointer none)).run P w=.ok b w∧(Op.equalIn (d+1) t (.pointer none) v).run P w=.ok b w:=by
 cases v<;>simp[isNil] at h
 rename_i a;cases a<;>simp at h<;>subst h<;>simp[Op.equalIn,run_underlying hu]
theorem eqN1 {P:Program} {w:World} {t e:TypeId} {d m n:Nat} {v:Value} {b:Bool} (hu:P.underlying t=some (.slice e)) (h:isNil 1 v=some b):
  (Op.equalIn (d+1) t v (.slice none m n)).run P w=.ok b w∧(Op.equalIn (d+1) t (.slice none m n) v).run P w=.ok b w:=by
 cases v<;>simp[isNil] at h
 rename_i a _ _;cases a<;>simp at h<;>subst h<;>simp[Op.equalIn,run_underlying hu]
theorem eqN2 {P:Program} {w:World} {t:TypeId} {d:Nat} {v:Value} {b:Bool} {ps rs:Array TypeId} {vr:Bool} (hu:P.underlying t=some (.func ps rs vr)) (h:isNil 2 v=some b):
  (Op.equalIn (d+1) t v .nilFunc).run P w=.ok b w∧(Op.equalIn (d+1) t .nilFunc v).run P w=.ok b w:=by
 cases v<;>simp[isNil] at h<;>subst h<;>simp[Op.equalIn,run_underlying hu]
theorem eqN3 {P:Program} {w:World} {t e k:TypeId} {d:Nat} {v:Value} {b:Bool} (hu:P.underlying t=some (.map k e)) (h:isNil 3 v=some b):
  (Op.equalIn (d+1) t v (.map none)).run P w=.ok b w∧(Op.equalIn (d+1) t (.map none) v).run P w=.ok b w:=by
 cases v<;>simp[isNil] at h
 rename_i a;cases a<;>simp at h<;>subst h<;>simp[Op.equalIn,run_underlying hu]
theorem eqN4 {P:Program} {w:World} {t:TypeId} {d:Nat} {v:Value} {b:Bool} {ms:Array (String×TypeId)} (hu:P.underlying t=some (.interface ms)) (h:isNil 4 v=some b):
  (Op.equalIn (d+1) t v .nilIface).run P w=.ok b w∧(Op.equalIn (d+1) t .nilIface v).run P w=.ok b w:=by
 cases v<;>simp[isNil] at h<;>subst h<;>simp[Op.equalIn,run_underlying hu]
set_option maxHeartbeats 1000000 in
theorem pur_bin {P:Program} {op:BinOp} {t yt:TypeId} {x y:Operand} {f:PF} {xs:List Operand} (hc:compileOp P (.binOp op t x y yt)=some (.pur f xs)) (ρ:Operand→Value) (hρ:∀c,ρ (.const c)=c) {v:Value} (hv:f.val (xs.map ρ)=some v)
  (dst:Option Tmp) (type:TypeId) (pos:String) (after:Array Edge) (guard:Option (Nat×Bool)) (w:World):(execOp ρ ⟨dst,.binOp op t x y yt,type,pos,after,guard⟩).run P w=.ok (.value v) w:=by
 have hbin:∀{op:BinOp} {x y:Operand} {v:Value},PF.val (.bin op) [ρ x,ρ y]=some v→(execOp ρ ⟨dst,.binOp op t x y yt,type,pos,after,guard⟩).run P w=.ok (.value v) w:=by intro op x y v hv;simp only[PF.val] at hv;simp[execOp,eqGuard_run hv,binV_run hv]
 have hnil:∀{op:BinOp} {kd:Nat} {x y:Operand} {u:TypeDesc},(op=.eql∨op=.neq)→P.underlying t=some u→nilKind u=some kd→nilConst y=some kd→PF.val (.eqn (op==.neq) kd) [ρ x]=some v→
   ((execOp ρ ⟨dst,.binOp op t x y yt,type,pos,after,guard⟩).run P w=.ok (.value v) w) ∧
   ((execOp ρ ⟨dst,.binOp op t y x yt,type,pos,after,guard⟩).run P w=.ok (.value v) w):=by
  intro op kd x y u hop hu hn hy hv;have hys:(nilConst y).isSome:=by simp[hy]
  have hyy:(kd=0∧ρ y=.pointer none∨(kd=1∧∃a b,ρ y=.slice none a b)∨kd=2∧ρ y=.nilFunc∨kd=3∧ρ y=.map none∨kd=4∧ρ y=.nilIface):=by unfold nilConst at hy;split at hy<;>simp at hy<;>subst hy<;>simp[hρ]
  have hg1:(eqGuard op t x y (ρ x) (ρ y)).run P w=.ok () w:=Zu (fun _ _=>.inr hys) (by intro xs ys h1 h2;rcases hyy with ⟨_,h⟩|⟨_,_,_,h⟩|⟨_,h⟩|⟨_,h⟩|⟨_,h⟩<;>simp[h] at h2);have hg2:(eqGuard op t y x (ρ y) (ρ x)).run P w=.ok () w:=Zu (fun _ _=>.inl hys) (by intro xs ys h1 h2;rcases hyy with ⟨_,h⟩|⟨_,_,_,h⟩|⟨_,h⟩|⟨_,h⟩|⟨_,h⟩<;>simp[h] at h1);simp only[PF.val,Option.map_eq_some_iff] at hv;obtain ⟨tt,htt,rfl⟩:=hv
  have hE:(Op.equal t (ρ x) (ρ y)).run P w=.ok tt w∧(Op.equal t (ρ y) (ρ x)).run P w=.ok tt w:=by
   obtain ⟨d,hd⟩:=equal_d;rw[hd,hd];rcases hyy with ⟨rfl,h⟩|⟨rfl,_,_,h⟩|⟨rfl,h⟩|⟨rfl,h⟩|⟨rfl,h⟩<;>cases u<;>simp[nilKind] at hn<;>rw[h]
   ·exact eqN0 hu htt
   ·exact eqN1 hu htt
   ·exact eqN2 hu htt
   ·exact eqN3 hu htt
   ·exact eqN4 hu htt
  have hB:∀op,(op=.eql∨op=.neq)→(binOp op t (ρ x) (ρ y)).run P w=.ok (.bool (if (op==.neq)=true then !tt else tt)) w∧(binOp op t (ρ y) (ρ x)).run P w=.ok (.bool (if (op==.neq)=true then !tt else tt)) w:=by intro op hop;rcases hop with rfl|rfl<;>rcases hyy with ⟨rfl,h⟩|⟨rfl,_,_,h⟩|⟨rfl,h⟩|⟨rfl,h⟩|⟨rfl,h⟩<;>cases hx:ρ x<;>simp[hx,isNil] at htt<;>simp[h,hx] at hE<;>simp[h,hx,binOp,hE]
  simp only[execOp,Sem.run_bind,hg1,hg2,Result.andThen_ok,(hB op hop).1,(hB op hop).2,Sem.run_pure,and_self]
 have heq:(op=.eql∨op=.neq)→(execOp ρ ⟨dst,.binOp op t x y yt,type,pos,after,guard⟩).run P w=.ok (.value v) w:=by
  intro hop
  have hc':(match P.underlying t with
    | some (.int _)|some (.float _)|some (.complex _)|some .string=>some (SOp.pur (.bin op) [x,y])
    | some .bool=>some (.pur (.eqb (op==.neq)) [x,y])
    | some (.struct _)|some (.array _ _)=>
     if P.eqGuardType P.depth t then none else match flat P 40 t,P.info? t with
      | some l,some i=>if i.size=l.length then some (.pur (.eqs (op==.neq) l) [x,y]) else none
      | _,_=>none
    | some u=>match nilKind u with
     | some kd=>if nilConst y=some kd then some (.pur (.eqn (op==.neq) kd) [x]) else if nilConst x=some kd then some (.pur (.eqn (op==.neq) kd) [y]) else none
     | none=>none
    | none=>none)=some (.pur f xs):=by rcases hop with rfl|rfl<;>exact hc
  have hbeq:∀(a b:Value) (r:Bool),(Op.equal t a b).run P w=.ok r w→(∀op,binOp op t a b=(match op with|.eql=>(do pure (.bool (←Op.equal t a b)))|.neq=>(do pure (.bool (!(←Op.equal t a b))))|_=>binOp op t a b)) →
    (binOp op t a b).run P w=.ok (.bool (if (op==.neq)=true then !r else r)) w:=by
   intro a b r h1 h2;rw[h2];rcases hop with rfl|rfl<;>simp[h1]
  have hagg:(if P.eqGuardType P.depth t then none else match flat P 40 t,P.info? t with
       | some l,some i=>if i.size=l.length then some (SOp.pur (.eqs (op==.neq) l) [x,y]) else none
       | _,_=>none)=some (.pur f xs)→(isAgg t).run P w=.ok true w→(execOp ρ ⟨dst,.binOp op t x y yt,type,pos,after,guard⟩).run P w=.ok (.value v) w:=by
   intro h ha;split at h
   ·cases h
   rename_i hgt;split at h
   ·rename_i l i hl hi;split at h
    ·rename_i hs;simp only[Option.some.injEq,SOp.pur.injEq] at h;obtain ⟨rfl,rfl⟩:=h;simp only[List.map_cons,List.map_nil] at hv;cases hx:ρ x<;>simp only[hx,PF.val] at hv<;>(try cases hv)<;>cases hy:ρ y<;>simp only[hy] at hv<;>(try cases hv);split at hv<;>(try cases hv);rename_i X Y hsz;simp only[Option.map_eq_some_iff] at hv;obtain ⟨r,hr,rfl⟩:=hv;have h1:=eqs_run (w:=w) hl ha hi hs hsz.1 hsz.2 hr;have h2:=hbeq (.agg X) (.agg Y) _ h1 (by intro op;cases op<;>rfl);have hg:(eqGuard op t x y (.agg X) (.agg Y)).run P w=.ok () w:=Zu ke (by intros;simpa using hgt);simp only[execOp,Sem.run_bind,hx,hy,hg,h2,Result.andThen_ok,Sem.run_pure]
    ·cases h
   ·cases h
  have hnils:∀{u:TypeDesc},(match nilKind u with
      | some kd=>if nilConst y=some kd then some (SOp.pur (.eqn (op==.neq) kd) [x]) else if nilConst x=some kd then some (.pur (.eqn (op==.neq) kd) [y]) else none
      | none=>none)=some (.pur f xs)→P.underlying t=some u→(execOp ρ ⟨dst,.binOp op t x y yt,type,pos,after,guard⟩).run P w=.ok (.value v) w:=by
   intro u h hu;split at h
   ·rename_i kd hk;split at h
    ·simp only[Option.some.injEq,SOp.pur.injEq] at h;obtain ⟨rfl,rfl⟩:=h;exact (hnil hop hu hk ‹_› hv).1
    ·split at h
     ·simp only[Option.some.injEq,SOp.pur.injEq] at h;obtain ⟨rfl,rfl⟩:=h;exact (hnil hop hu hk ‹_› hv).2
     ·cases h
   ·cases h
  cases hu:P.underlying t with
  | none=>simp[hu] at hc'
  | some u=>
   rw[hu] at hc'
   cases u with
   | int k=>simp at hc';obtain ⟨rfl,rfl⟩:=hc';exact hbin hv
   | float k=>simp at hc';obtain ⟨rfl,rfl⟩:=hc';exact hbin hv
   | complex k=>simp at hc';obtain ⟨rfl,rfl⟩:=hc';exact hbin hv
   | string=>simp at hc';obtain ⟨rfl,rfl⟩:=hc';exact hbin hv
   | bool=>
    simp at hc';obtain ⟨rfl,rfl⟩:=hc';simp only[List.map_cons,List.map_nil] at hv;cases hx:ρ x<;>simp only[hx,PF.val] at hv<;>(try cases hv)<;>cases hy:ρ y<;>simp only[hy] at hv<;>(try cases hv);rename_i a b;have h1:(Op.equal t (.bool a) (.bool b)).run P w=.ok (a==b) w:=by obtain ⟨d,hd⟩:=equal_d;rw[hd];simp[Op.equalIn,run_underlying hu]
    have h2:=hbeq (.bool a) (.bool b) _ h1 (by intro op;cases op<;>rfl);have hg:(eqGuard op t x y (.bool a) (.bool b)).run P w=.ok () w:=Zu ke ke;have h3:(if (op==.neq)=true then !(a==b) else a==b)=(if (op==.neq)=true then !(a==b) else a==b):=rfl;simp only[execOp,Sem.run_bind,hx,hy,hg,h2,Result.andThen_ok,Sem.run_pure]
   | struct fs=>exact hagg o9 (by simp[isAgg,run_underlying hu])
   | array n e=>exact hagg o9 (by simp[isAgg,run_underlying hu])
   | pointer e=>exact hnils o9 hu
   | slice e=>exact hnils o9 hu
   | func a b c=>exact hnils o9 hu
   | map a b=>exact hnils o9 hu
   | interface m=>exact hnils o9 hu
   | _=>simp[nilKind] at hc'
 cases op with
 | eql=>exact heq (.inl rfl)
 | neq=>exact heq (.inr rfl)
 | _=>simp[compileOp] at hc;obtain ⟨rfl,rfl⟩:=hc;exact hbin hv
theorem real_run {P:Program} {w:World} {ats:Array TypeId} {ty:TypeId} {k:FloatKind} {a b:Nat}:(Builtin.real_ ats ty #[.complex k a b]).run P w=.ok (.float k a) w:=rfl
theorem imag_run {P:Program} {w:World} {ats:Array TypeId} {ty:TypeId} {k:FloatKind} {a b:Nat}:(Builtin.imag_ ats ty #[.complex k a b]).run P w=.ok (.float k b) w:=rfl
theorem complex_run {P:Program} {w:World} {ats:Array TypeId} {ty:TypeId} {k:FloatKind} {a b:Nat}:(Builtin.complex_ ats ty #[.float k a,.float k b]).run P w=.ok (.complex k a b) w:=by show (if k=k then (pure (.complex k a b):Sem Value) else _).run P w=_;simp
theorem pur_call {P:Program} {c:Call} {f:PF} {xs:List Operand} (hc:compCall P c=some (.pur f xs)) (ρ:Operand→Value) {v:Value} (hv:f.val (xs.map ρ)=some v)
  (dst:Option Tmp) (type:TypeId) (pos:String) (after:Array Edge) (guard:Option (Nat×Bool)) (w:World):(execOp ρ ⟨dst,.call c,type,pos,after,guard⟩).run P w=.ok (.value v) w:=by
 obtain ⟨callee,args,ats⟩:=c
 cases callee with
 | value x=>cases x<;>simp only[compCall] at hc<;>(try (split at hc))<;>simp at hc
 | invoke _ _=>simp[compCall] at hc
 | builtin b=>
  have hargs:∀l,args.toList=l→args=l.toArray:=by intro l h;rw[←h]
  have hats:∀t r,ats.toList=t::r→ats[0]?=some t:=by intro t r h;have:=congrArg (·[0]?) h;simpa using this
  simp only[compCall] at hc;split at hc
  ·rename_i x t r ha ht;have e1:=hargs _ ha;have e2:=hats _ _ ht;subst e1
   split at hc<;>simp at hc<;>obtain ⟨rfl,rfl⟩:=hc<;>simp only[List.map_cons,List.map_nil] at hv<;>cases hx:ρ x<;>simp only[hx,PF.val] at hv<;>(try cases hv) <;>
    simp[execOp,resolve,invoke,builtin,Builtin.len_,goInt,hx,e2,run_underlying ‹_=some _›]
  ·rename_i x t r ha ht;have e1:=hargs _ ha;have e2:=hats _ _ ht;subst e1;split at hc<;>simp at hc;obtain ⟨rfl,rfl⟩:=hc;simp only[List.map_cons,List.map_nil] at hv;cases hx:ρ x<;>simp only[hx,PF.val] at hv<;>cases hv;simp[execOp,resolve,invoke,builtin,Builtin.cap_,goInt,hx,e2,run_underlying ‹_=some _›]
  ·rename_i x r ha;have e1:=hargs _ ha;subst e1;simp at hc;obtain ⟨rfl,rfl⟩:=hc;have:=mms_run (P:=P) (w:=w) (mx:=false) _ _ _ (by simpa[PF.val] using hv);simp only[Bool.false_eq_true,if_false] at this;simp[execOp,resolve,invoke,builtin,Builtin.min_,this]
  ·rename_i x r ha;have e1:=hargs _ ha;subst e1;simp at hc;obtain ⟨rfl,rfl⟩:=hc;have:=mms_run (P:=P) (w:=w) (mx:=true) _ _ _ (by simpa[PF.val] using hv);simp only[if_true] at this;simp[execOp,resolve,invoke,builtin,Builtin.max_,this]
  ·split at hc<;>simp at hc
  ·rename_i r x ha;have e1:=hargs _ ha;subst e1;simp at hc;obtain ⟨rfl,rfl⟩:=hc;simp only[List.map_cons,List.map_nil] at hv;cases hx:ρ x<;>simp only[hx,PF.val] at hv<;>cases hv;simp[execOp,resolve,invoke,builtin,real_run,hx]
  ·rename_i r x ha;have e1:=hargs _ ha;subst e1;simp at hc;obtain ⟨rfl,rfl⟩:=hc;simp only[List.map_cons,List.map_nil] at hv;cases hx:ρ x<;>simp only[hx,PF.val] at hv<;>cases hv;simp[execOp,resolve,invoke,builtin,imag_run,hx]
  ·rename_i r x y ha;have e1:=hargs _ ha;subst e1;simp at hc;obtain ⟨rfl,rfl⟩:=hc;simp only[List.map_cons,List.map_nil] at hv;cases hx:ρ x<;>simp only[hx,PF.val] at hv<;>(try cases hv)<;>cases hy:ρ y<;>simp only[hy] at hv<;>(try cases hv);split at hv<;>cases hv
   subst_vars
   simp[execOp,resolve,invoke,builtin,complex_run,hx,hy]
  ·cases hc
set_option maxHeartbeats 2000000 in
theorem pur_run {P:Program} {op:Op} {f:PF} {xs:List Operand} (hc:compileOp P op=some (.pur f xs)) (ρ:Operand→Value) (hρ:∀c,ρ (.const c)=c) {v:Value} (hv:f.val (xs.map ρ)=some v)
  (dst:Option Tmp) (type:TypeId) (pos:String) (after:Array Edge) (guard:Option (Nat×Bool)) (w:World):(execOp ρ ⟨dst,op,type,pos,after,guard⟩).run P w=.ok (.value v) w:=by
 cases op with
 | move x=>simp[compileOp] at hc;obtain ⟨rfl,rfl⟩:=hc;simp[PF.val] at hv;simp[execOp,hv]
 | assign x=>simp[compileOp] at hc;obtain ⟨rfl,rfl⟩:=hc;simp[PF.val] at hv;simp[execOp,hv]
 | pick c a b=>simp[compileOp] at hc;obtain ⟨rfl,rfl⟩:=hc;simp only[List.map_cons,List.map_nil] at hv;unfold PF.val at hv;split at hv<;>simp_all[execOp,asBool]
 | build t parts=>
  simp only[compileOp] at hc;split at hc
  ·rename_i i ps hi hps;split at hc
   ·rename_i z hz;simp at hc;obtain ⟨rfl,rfl⟩:=hc;simp only[PF.val,Option.map_eq_some_iff] at hv;obtain ⟨l,hl,rfl⟩:=hv;have:=places_fill (w:=w) (parts:=(parts.toList.map fun (i,x)=>(i,ρ x))) hi hz (ps:=ps) (l:=l) (by simpa[Function.comp_def] using hps) (by simpa[Function.comp_def] using hl);have e:(parts.toList.map fun (i,x)=>(i,ρ x)).toArray=parts.map fun (i,x)=>(i,ρ x):=by apply Array.ext';simp
    rw[e] at this;simp[execOp,this]
   ·cases hc
  ·cases hc
 | nilCheck x=>simp[compileOp] at hc;obtain ⟨rfl,rfl⟩:=hc;simp only[List.map_cons,List.map_nil] at hv;unfold PF.val at hv;split at hv<;>simp_all[execOp];subst hv;rfl
 | binOp op t x y yt=>exact pur_bin hc ρ hρ hv dst type pos after guard w
 | unOp u t x=>cases u<;>simp[compileOp] at hc<;>obtain ⟨rfl,rfl⟩:=hc<;>simp only[List.map_cons,List.map_nil] at hv<;>unfold PF.val at hv<;>split at hv<;>simp_all[execOp,Op.unary,Op.intArith,Op.intBits]
 | convert s t x=>
  simp only[compileOp] at hc;split at hc<;>(try cases hc)<;>simp only[List.map_cons,List.map_nil] at hv<;>unfold PF.val at hv<;>split at hv<;>simp_all[execOp,convert,run_underlying,Conv.intToInt,Conv.intToFloat]
  ·split at hv
   ·split at hv
    ·simp at hv;subst hv;simp[Conv.floatToInt, *]
    ·cases hv
   ·cases hv
  ·subst hv;simp
 | makeInterface t x=>simp only[compileOp] at hc;split at hc<;>(try cases hc);rename_i u hu hn;simp[PF.val] at hv;subst hv;simp only[execOp,Instr.makeInterface,Sem.run_bind,run_underlying hn,Result.andThen_ok];cases u<;>simp_all
 | makeFunc fn first captured=>simp[compileOp] at hc;obtain ⟨rfl,rfl⟩:=hc;simp[PF.val] at hv;subst hv;simp[execOp,Instr.makeFunc];constructor<;>apply Array.ext'<;>simp
 | slice t x lo hi mx=>
  cases mx with
  | some m=>simp[compileOp] at hc
  | none=>
   simp only[compileOp] at hc;split at hc
   ·rename_i e hu;split at hc
    ·rename_i ii hii;simp at hc;obtain ⟨rfl,rfl⟩:=hc;have hm:∀o:Option Operand,(o.toList.map ρ)=(o.map ρ).toList:=by intro o;cases o<;>rfl
     have hms:∀o:Option Operand,(o.map ρ).isSome=o.isSome:=by intro o;cases o<;>rfl
     simp only[List.map_cons,List.map_append,hm] at hv;cases hx:ρ x<;>simp only[hx,PF.val] at hv<;>try cases hv
     simp only[Option.map_eq_some_iff] at hv;obtain ⟨⟨l,h⟩,hlh,rfl⟩:=hv;rw[←hms lo,←hms hi] at hlh;have:=Y55 (P:=P) (w:=w) (b:=true) hlh;have hci:P.cellsOf e=ii.size:=by simp[Program.cellsOf,hii]
     simp[execOp,Instr.sliceAt,Instr.slice,run_underlying hu,hx,this,run_sizeOf w hii,hci]
    ·cases hc
   ·rename_i hu;simp at hc;obtain ⟨rfl,rfl⟩:=hc;have hm:∀o:Option Operand,(o.toList.map ρ)=(o.map ρ).toList:=by intro o;cases o<;>rfl
    have hms:∀o:Option Operand,(o.map ρ).isSome=o.isSome:=by intro o;cases o<;>rfl
    simp only[List.map_cons,List.map_append,hm] at hv;cases hx:ρ x<;>simp only[hx,PF.val] at hv<;>try cases hv
    simp only[Option.map_eq_some_iff] at hv;obtain ⟨⟨l,h⟩,hlh,rfl⟩:=hv;rw[←hms lo,←hms hi] at hlh;have:=Y55 (P:=P) (w:=w) (b:=false) hlh;simp[execOp,Instr.sliceAt,Instr.slice,run_underlying hu,hx,this]
   ·rename_i n e hu;split at hc
    ·rename_i ii hii;simp at hc;obtain ⟨rfl,rfl⟩:=hc;have hm:∀o:Option Operand,(o.toList.map ρ)=(o.map ρ).toList:=by intro o;cases o<;>rfl
     have hms:∀o:Option Operand,(o.map ρ).isSome=o.isSome:=by intro o;cases o<;>rfl
     simp only[List.map_cons,List.map_append,hm] at hv;cases hx:ρ x<;>simp only[hx,PF.val] at hv<;>try cases hv
     rename_i ad
     cases ad with
     | none=>cases hv
     | some ad=>
      simp only[Option.map_eq_some_iff] at hv;obtain ⟨⟨l,h⟩,hlh,rfl⟩:=hv;rw[←hms lo,←hms hi] at hlh;have:=Y55 (P:=P) (w:=w) (b:=false) hlh;have hci:P.cellsOf e=ii.size:=by simp[Program.cellsOf,hii]
      simp[execOp,Instr.sliceAt,Instr.sureAddr,run_underlying hu,hx,this,run_sizeOf w hii,hci]
    ·cases hc
   ·cases hc
 | fieldAddr s x f=>simp only[compileOp] at hc;split at hc<;>(try cases hc);rename_i fs hu;split at hc<;>(try cases hc);rename_i fd hf;split at hc<;>(try cases hc);rename_i i hi;split at hc<;>(try cases hc);simp only[List.map_cons,List.map_nil] at hv;unfold PF.val at hv;split at hv<;>simp_all[execOp,Instr.fieldAt,run_underlying hu,Instr.sureAddr,fieldPlace,run_sizeOf w hi,Program.cellsOf]
 | field t x f=>simp only[compileOp] at hc;split at hc<;>(try cases hc);rename_i fs hu;split at hc<;>(try cases hc);rename_i fd hf;simp at hc;obtain ⟨n,hn,rfl,rfl⟩:=hc;simp only[List.map_cons,List.map_nil] at hv;cases hx:ρ x<;>simp[hx,PF.val] at hv;rename_i cs;have:=Y54 (w:=w) (cs:=cs) hn (v:=v) (by cases n<;>simpa[PF.val] using hv);simp[execOp,Instr.field,run_underlying hu,hf,asAgg,hx,this]
 | indexAddr t x i=>
  simp only[compileOp] at hc;split at hc
  ·rename_i e hu;simp at hc;obtain ⟨j,hj,rfl,rfl⟩:=hc;simp only[List.map_cons,List.map_nil] at hv;unfold PF.val at hv;have hcj:P.cellsOf e=j.size:=by simp[Program.cellsOf,hj]
   split at hv<;>simp_all[execOp,Instr.indexAt,run_underlying hu,asIntOf,run_sizeOf w hj]
  ·rename_i n e hu;simp at hc;obtain ⟨j,hj,rfl,rfl⟩:=hc;simp only[List.map_cons,List.map_nil] at hv;unfold PF.val at hv;have hcj:P.cellsOf e=j.size:=by simp[Program.cellsOf,hj]
   split at hv<;>simp_all[execOp,Instr.indexAt,run_underlying hu,asIntOf,run_sizeOf w hj,Instr.sureAddr]
  ·cases hc
 | index t x i=>
  simp only[compileOp] at hc;split at hc
  ·rename_i n e hu;split at hc
   ·rename_i a j ha hj;simp at hc;obtain ⟨rfl,rfl⟩:=hc;have hcj:P.cellsOf e=j.size:=by simp[Program.cellsOf,hj]
    simp only[List.map_cons,List.map_nil] at hv;cases hx:ρ x<;>cases a<;>simp only[hx,PF.val] at hv<;>(try cases hv)<;>cases hi:ρ i<;>simp only[hi] at hv<;>(try cases hv)<;>split at hv<;>(try cases hv)
    ·rename_i cs k q hq;have:=Y54 (w:=w) (cs:=cs) ha (v:=v) (off:=q.toNat * j.size) (by simpa[PF.val] using hv);simp[execOp,Instr.index,run_underlying hu,asIntOf,hx,hi,hq,run_sizeOf w hj,hcj,this]
    ·rename_i cs m k q hq;have:=Y54 (w:=w) (cs:=cs) ha (off:=q.toNat * j.size) rfl;simp[execOp,Instr.index,run_underlying hu,asIntOf,hx,hi,hq,run_sizeOf w hj,hcj,this]
   ·cases hc
  ·rename_i hu;simp at hc;obtain ⟨rfl,rfl⟩:=hc;simp only[List.map_cons,List.map_nil] at hv;cases hx:ρ x<;>simp only[hx,PF.val] at hv<;>(try cases hv)<;>cases hi:ρ i<;>simp only[hi] at hv<;>(try cases hv)<;>split at hv<;>(try cases hv);rename_i s k q hq;simp only[Option.map_eq_some_iff] at hv;obtain ⟨b,hb,rfl⟩:=hv;have hb':s[q.toNat]?=some b:=by rw[ba_get];simpa using hb
   simp[execOp,Instr.index,run_underlying hu,asIntOf,hx,hi,hq,hb']
  ·cases hc
 | extract t i=>simp[compileOp] at hc;obtain ⟨rfl,rfl⟩:=hc;simp only[List.map_cons,List.map_nil] at hv;cases hx:ρ t<;>simp only[hx,PF.val] at hv<;>(try cases hv);rename_i vs;simp only[Array.getElem?_toList] at hv;simp[execOp,Instr.extract,hx,hv]
 | call c=>exact pur_call hc ρ hv dst type pos after guard w
 | alloc T=>
  cases hi:P.info? T with
  | none=>simp[compileOp,hi] at hc
  | some i=>cases hz:i.zero<;>simp[compileOp,hi,hz] at hc
 | box T x=>simp[compileOp] at hc
 | buildSlice t len parts=>simp only[compileOp] at hc;repeat' (split at hc);all_goals simp at hc
 | load t a=>simp[compileOp] at hc
 | store t a x=>simp only[compileOp] at hc;repeat' (split at hc);all_goals simp at hc
 | makeSlice t l c=>simp[compileOp] at hc
 | makeMap t r=>cases r<;>simp[compileOp] at hc
 | mapUpdate t m k x=>simp only[compileOp] at hc;repeat' (split at hc);all_goals simp at hc
 | insert t m k x=>simp only[compileOp] at hc;repeat' (split at hc);all_goals simp at hc
 | lookup t x i ok=>cases ok<;>simp only[compileOp] at hc<;>(repeat' (split at hc))<;>simp at hc
 | _=>simp[compileOp] at hc
theorem cellG_hp (w:World) (b off:Nat):cellG (hp w.heap) b off=w.cell? ⟨b,off,none⟩:=by
 simp only[cellG,hp,World.cell?]
 cases w.heap[b]? with
 | none=>rfl
 | some o=>cases o<;>rfl
theorem cellsG_spec {g:Nat→Option Obj} {b:Nat}:∀{n off:Nat} {l:List Value},cellsG g b off n=some l→l.length=n∧∀j v,l[j]?=some v→cellG g b (off+j)=some v:=by
 intro n
 induction n with
 | zero=>intro off l h;simp[cellsG] at h;subst h;simp
 | succ n ih=>
  intro off l h;simp only[cellsG] at h;split at h
  ·cases h
  ·rename_i v hv;simp only[Option.map_eq_some_iff] at h;obtain ⟨l',hl',rfl⟩:=h;obtain ⟨h1,h2⟩:=ih hl';refine ⟨by simp[h1],?_⟩;intro j u hu
   cases j with
   | zero=>simp at hu;subst hu;exact hv
   | succ j=>simp at hu;have:=h2 j u hu;rwa [show off+(j+1)=off+1+j by omega]
theorem Q18 (b off n:Nat):(⟨b,off,none⟩:Addr).add n=⟨b,off+n,none⟩:=by unfold Addr.add;split<;>simp_all
theorem X08 {P:Program} {w:World} {b off n:Nat} {l:List Value} (h:cellsG (hp w.heap) b off n=some l):(loadCells ⟨b,off,none⟩ n).run P w=.ok l.toArray w:=by obtain ⟨h1,h2⟩:=cellsG_spec h;rw[←h1];exact run_loadCells_list w _ l (fun j v hv=>by rw[Q18,←cellG_hp];exact h2 j v hv)
theorem ld_run {P:Program} {w:World} {t:TypeId} {n:Option Nat} {x v:Value} (ha:aggOf P t=some n) (h:ldV n x (hp w.heap)=some v):(Instr.loadAt t x).run P w=.ok v w:=by
 obtain ⟨h1,h2,i,hi⟩:=Yj (w:=w) ha;unfold ldV at h;split at h
 ·cases n with
  | none=>simp only[cellG_hp] at h;simp[Instr.loadAt,Instr.sureAddr,loadVar,h1,h]
  | some k=>simp only[Option.map_eq_some_iff] at h;obtain ⟨l,hl,rfl⟩:=h;simp[Instr.loadAt,Instr.sureAddr,loadVar,h1,run_sizeOf w hi,h2 k rfl,X08 hl]
 ·cases h
theorem st1_run {P:Program} {w:World} {b off:Nat} {v:Value} {h':Heap} (h:st1 w.heap b off v=some h'):(store ⟨b,off,none⟩ v).run P w=.ok () { w with heap:=h' }:=by
 unfold st1 at h;split at h
 ·rename_i c E fz hb;split at h
  ·rename_i hc;simp only[Option.some.injEq] at h;subst h;have hcell:w.cell? ⟨b,off,none⟩=some (c[off]'hc.1):=by simp[World.cell?,hb,hc.1]
   have hfz:w.frozen? ⟨b,off,none⟩=false:=by have:=hc.2.1;simp only[World.frozen?,hb];simpa using this
   rw[run_store P w _ v _ hc.2.2,hcell];simp only[hfz,Bool.false_eq_true,if_false,Result.ok.injEq,true_and];simp only[World.setCell];congr 1;apply Array.ext';apply List.ext_getElem?;intro i;simp[Array.getElem?_modify];by_cases hi:b=i
   ·subst hi;obtain ⟨hlt,hb2⟩:=Array.getElem?_eq_some_iff.1 hb;simp[hlt,hb2]
   ·simp[hi]
  ·cases h
 ·cases h
theorem stL_run {P:Program}:∀(vs:List Value) (w:World) (b off i:Nat) (h':Heap),stL w.heap b (off+i) vs=some h'→(storeCells ⟨b,off,none⟩ vs i).run P w=.ok () { w with heap:=h' }:=by
 intro vs
 induction vs with
 | nil=>intro w b off i h' h;simp[stL] at h;subst h;simp[storeCells]
 | cons v vs ih=>intro w b off i h' h;simp only[stL,Option.bind_eq_some_iff] at h;obtain ⟨h1,e1,e2⟩:=h;have:=ih { w with heap:=h1 } b off (i+1) h' (by simpa[Nat.add_assoc] using e2);simp[storeCells,Q18,st1_run e1,this]
theorem rep_get {z:List Value} {k:Nat} (hz:z.length=k) (hk:0 < k):∀(c i:Nat),i < c * k→(rep z c)[i]?=z[i % k]?:=by
 intro c
 induction c with
 | zero=>intro i hi;simp at hi
 | succ c ih=>
  intro i hi;simp only[rep,List.replicate_succ,List.flatten_cons];by_cases h:i < k
  ·rw[List.getElem?_append_left ka,Nat.mod_eq_of_lt h]
  ·rw[List.getElem?_append_right ka,hz];have:=ih (i - k) (by rw[Nat.add_mul] at hi;omega);simp only[rep] at this;rw[this];congr 1;have:i=(i - k)+k:=by omega
   rw[this,Nat.add_mod_right];simp
theorem Y31 {z:List Value} {k:Nat} (hz:z.length=k) (c:Nat):(rep z c).length=c * k:=by simp[rep,hz]
theorem rep_arr {z:Array Value} {k:Nat} (hz:z.size=k) (hk:0 < k) (c n:Nat) (hn:n=c * k):((Array.range n).map (fun i=>z[i % k]!))=(rep z.toList c).toArray:=by
 subst hn;apply Array.ext';apply List.ext_getElem?;intro i;by_cases hi:i < c * k
 ·have hm:i % k < z.size:=by rw[hz];exact Nat.mod_lt _ hk
  simp only[Array.toList_map,Array.toList_range,List.getElem?_map];rw[rep_get (by simpa using hz) hk c i hi];simp[hi,hm]
 ·have h1:(rep z.toList c).length≤i:=by rw[Y31 (by simpa using hz)];omega
  rw[List.getElem?_eq_none h1];simp;omega
theorem Yk {P:Program} {t e:TypeId} {i:TypeInfo} {z:List Value} (h:elemInfo P t=some (e,i,z)):
  P.underlying t=some (.slice e)∧P.info? e=some i∧(∃zv,i.zero=some zv∧zv.cells.toList=z∧zv.cells.size=i.size)∧0 < i.size∧P.cellsOf e=i.size:=by
 unfold elemInfo at h;split at h
 ·rename_i e' hu;split at h
  ·rename_i i' hi;split at h
   ·rename_i zv hz;split at h
    ·rename_i hc;simp only[Option.some.injEq,Prod.mk.injEq] at h;obtain ⟨rfl,rfl,rfl⟩:=h;exact ⟨hu,hi,⟨zv,hz,rfl,hc.1⟩,hc.2,by simp[Program.cellsOf,hi]⟩
    ·cases h
   ·cases h
  ·cases h
 ·cases h
theorem mks_run {P:Program} {w:World} {t e:TypeId} {i:TypeInfo} {z:List Value} {k k':IntKind} {l c:Int} (h:elemInfo P t=some (e,i,z)) (h0:0≤l) (h1:l≤c) (h2:c < 9223372036854775808) (h3:i.bytes * c≤281474976710656):
  (Instr.makeSlice t (.int k l) (.int k' c)).run P w=.ok (.slice (some ⟨w.heap.size,0,none⟩) l.toNat c.toNat) { w with heap:=w.heap.push (.cells (rep z c.toNat).toArray e (0,0)) }:=by
 obtain ⟨hu,hi,⟨zv,hz,rfl,hzs⟩,hp,hc⟩:=Yk h;have:=run_make (P:=P) w t e i zv hu hi hz k k' l c h0 h1 h3 ka;rw[this];simp only[madeCells,hzs];rw[rep_arr hzs hp c.toNat _ rfl];rfl
theorem ba_all (s:ByteArray):s.extract 0 s.size=s:=by exact ByteArray.extract_zero_size
theorem src_run {P:Program} {w:World} {sz m:Nat} {y:Value} {news:List Value} (h:srcV (hp w.heap) sz y=some (m,news)):
  (Builtin.lenOf y).run P w=.ok m w∧((∃s,y=.string s)→sz=1∨True)∧(Builtin.firstCells sz m y).run P w=.ok news.toArray w:=by
 unfold srcV at h;split at h
 ·rename_i b off n c;simp only[Option.map_eq_some_iff,Prod.mk.injEq] at h;obtain ⟨l,hl,rfl,rfl⟩:=h;exact ⟨by simp[Builtin.lenOf],fun _=>.inr trivial,by simp[Builtin.firstCells,X08 hl]⟩
 ·rename_i n c;simp at h;obtain ⟨rfl,rfl⟩:=h;exact ⟨by simp[Builtin.lenOf],fun _=>.inr trivial,by simp[Builtin.firstCells]⟩
 ·rename_i a c _ _;simp at h;obtain ⟨rfl,rfl⟩:=h;refine ⟨by simp[Builtin.lenOf],fun _=>.inr trivial,?_⟩;cases a<;>simp[Builtin.firstCells,loadCells,loadCellsFrom]
 ·rename_i s;simp at h;obtain ⟨rfl,rfl⟩:=h;refine ⟨by simp[Builtin.lenOf],fun _=>.inr trivial,?_⟩;simp only[Builtin.firstCells,Sem.run_pure,Result.ok.injEq,and_true,ba_all];apply Array.ext';simp
 ·cases h
theorem Yl (w:World) (h:Heap):Same w { w with heap:=h }:=⟨rfl,rfl,rfl⟩
theorem app_run {P:Program} {w:World} {t u:TypeId} {e:TypeId} {i:TypeInfo} {z:List Value} {K:Value→Heap→Prop} {base:Option Addr} {n cap:Nat} {y:Value} {ty:TypeId} (hE:elemInfo P t=some (e,i,z))
  (hu:(∃e',P.underlying u=some (.slice e'))∨P.underlying u=some .string)
  (h:(EF.app e i.size i.bytes z).wp P [.slice base n cap,y] w.heap K):
  ∃v w',(Builtin.append_ #[t,u] ty #[.slice base n cap,y]).run P w=.ok v w'∧K v w'.heap∧Same w w':=by
 obtain ⟨ht,hi,⟨zv,hz,rfl,hzs⟩,hp0,hc⟩:=Yk hE;obtain ⟨m,news,hsrc,hlen,h⟩:=h;obtain ⟨h1,_,h2⟩:=src_run (P:=P) hsrc;by_cases hfit:n+m≤cap
 ·rw[if_pos hfit] at h
  cases base with
  | none=>refine ⟨_,w,?_,h,Same.refl w⟩;rcases hu with ⟨e',hu⟩|hu<;>simp[Builtin.append_,run_underlying ht,run_underlying hu,run_sizeOf w hi,h1,h2,hfit,hc]
  | some a=>
   obtain ⟨b,off,spot⟩:=a
   cases spot with
   | some _=>exact h.elim
   | none=>obtain ⟨h',hs,hk⟩:=h;have:=stL_run (P:=P) news w b (off+n * i.size) 0 h' hs;refine ⟨_,{ w with heap:=h' },?_,hk,Yl w h'⟩;rcases hu with ⟨e',hu⟩|hu<;>simp[Builtin.append_,run_underlying ht,run_underlying hu,run_sizeOf w hi,h1,h2,hfit,hc,Q18,this]
 ·rw[if_neg hfit] at h;obtain ⟨h63,hby,olds,ho,hol,hk⟩:=h;have hfs:=growslice_fits (need:=n+m) (old:=cap) (bytes:=i.bytes) ka hby;have hcut:=fun tp=>(show n+m≤(Question.appendCap (n+m) cap e).cut tp∧(Question.appendCap (n+m) cap e).cut tp < 9223372036854775808 by simp only[Question.cut];have:=Nat.mod_lt tp (show 0 < 2 ^ 63 - (n+m) by omega);omega);obtain ⟨_,_,o2⟩:=src_run (P:=P) (w:=w.drew) ho;obtain ⟨_,_,y2⟩:=src_run (P:=P) (w:=w.drew) hsrc;obtain ⟨c1,c2⟩:=hcut (w.tape w.drawn (.appendCap (n+m) cap e));refine ⟨_,w.drew.alloc (.cells (olds++news++rep zv.cells.toList ((Question.appendCap (n+m) cap e).cut (w.tape w.drawn (.appendCap (n+m) cap e)) - (n+m))).toArray e (0,0)),?_,hk _ c1 c2,⟨rfl,rfl,rfl⟩⟩
  ·have n1:¬(IntKind.i64.max < ((n:Int)+(m:Int))):=by simp[IntKind.max,IntKind.bits,IntKind.signed];omega
   have n2:¬(2 ^ 48 < Builtin.nextslicecap (n+m) cap * i.bytes):=by simpa using hfs
   have hzc:Builtin.zeroCells zv.cells ((Question.appendCap (n+m) cap e).cut (w.tape w.drawn (.appendCap (n+m) cap e)) - (n+m))=(rep zv.cells.toList ((Question.appendCap (n+m) cap e).cut (w.tape w.drawn (.appendCap (n+m) cap e)) - (n+m))).toArray:=by simp only[Builtin.zeroCells];exact rep_arr rfl ka _ _ rfl
   have n3:¬(9223372036854775807 < ((n:Int)+(m:Int))):=by omega
   have n4:¬(281474976710656 < Builtin.nextslicecap (n+m) cap * i.bytes):=by omega
   have hq:(Question.appendCap (n+m) cap e).forced=false:=rfl
   rcases hu with ⟨e',hu⟩|hu <;>
    simp[Builtin.append_,run_underlying ht,run_underlying hu,run_sizeOf w hi,h1,hfit,hc,typeInfo,zeroValue,hi,hz,n3,n4,hq,o2,y2,hzc,newRow]
theorem callFunc_run {P:Program} {w:World} {f:FuncId} {args:Array Value} (h:fnOk P f=true):(callFunc f args).run P w=.ok (.enter f args) w:=by
 unfold fnOk at h;split at h
 ·rename_i fn hf;simp only[Bool.and_eq_true,bne_iff_ne,ne_eq] at h;obtain ⟨h1,h2⟩:=h;obtain ⟨c,hb⟩:=Option.isSome_iff_exists.1 h2;simp[callFunc,hf,h1,hb]
 ·cases h
theorem flat_cells {sz:Nat}:∀(vs:List Value),(∀v∈vs,v.cells.size=sz)→(vs.flatMap (·.cells.toList)).length=vs.length * sz:=by
 intro vs
 induction vs with
 | nil=>simp
 | cons v vs ih=>intro h;simp[h v ke,ih (fun u hu=>h u (by simp[hu])),Nat.add_mul,Nat.add_comm]
theorem setAt_pre:∀(vs l:List Value) (off:Nat),off+vs.length≤l.length→setAt l off vs=l.take off++vs++l.drop (off+vs.length):=by
 intro vs
 induction vs with
 | nil=>intro l off h;simp[setAt]
 | cons v vs ih=>
  intro l off h;simp only[List.length_cons] at h;simp only[setAt,List.length_cons];rw[ih _ _ eG];have h1:off < l.length:=by omega
  have e1:(l.set off v).take (off+1)=l.take off++[v]:=by rw[List.take_set,List.take_succ_eq_append_getElem h1,List.set_append_right _ _ eG];simp[Nat.min_eq_left (by omega:off≤l.length)]
  have e2:(l.set off v).drop (off+1+vs.length)=l.drop (off+1+vs.length):=by rw[List.drop_set_of_lt ka]
  rw[e1,e2];simp[show off+(vs.length+1)=off+1+vs.length by omega]
theorem fill_rows {sz:Nat}:∀(vs:List Value) (k:Nat) (pre rest:List Value),pre.length=k * sz→rest.length=vs.length * sz→(∀v∈vs,v.cells.size=sz) →
  Instr.fill (fun i=>some (i * sz,sz)) (pre++rest).toArray ((List.range' k vs.length).zip vs)=some (pre++vs.flatMap (·.cells.toList)).toArray:=by
 intro vs
 induction vs with
 | nil=>intro k pre rest hp hr h;simp at hr;simp[Instr.fill,hr]
 | cons v vs ih=>
  intro k pre rest hp hr h;simp only[List.length_cons,List.range'_succ,List.zip_cons_cons,Instr.fill];have hv:=h v ke;simp only[List.length_cons,Nat.add_mul,Nat.one_mul] at hr;have h1:¬((v.cells.size≠sz||decide (k * sz+v.cells.size > (pre++rest).toArray.size))=true):=by simp[hv,hp,hr]
  rw[if_neg h1];have:=setAt_eq (k * sz) v.cells.toList 0 (pre++rest);rw[←Array.foldl_toList,Array.toList_zipIdx,this];rw[setAt_pre _ _ _ (by simp[hv,hp,hr])];have e1:(pre++rest).take (k * sz+0)=pre:=by simp[←hp]
  have e2:(pre++rest).drop (k * sz+0+v.cells.toList.length)=rest.drop sz:=by simp[←hp,hv,List.drop_append]
  rw[e1,e2];rw[ih (k+1) (pre++v.cells.toList) (rest.drop sz) (by simp[hp,hv,Nat.add_mul]) (by simp[hr]) (fun u hu=>h u (by simp[hu]))];simp
theorem bsl_run {P:Program} {w:World} {t e:TypeId} {i:TypeInfo} {z:List Value} {vs:List Value} (hE:elemInfo P t=some (e,i,z)) (hsm:vs.length * i.size≤16777216) (hv:∀v∈vs,v.cells.size=i.size):
  (Instr.buildSlice t vs.length ((List.range vs.length).zip vs).toArray).run P w=.ok (.slice (some ⟨w.heap.size,0,none⟩) vs.length vs.length) { w with heap:=w.heap.push (.cells (vs.flatMap (·.cells.toList)).toArray e (0,0)) }:=by
 obtain ⟨ht,hi,⟨zv,hz,rfl,hzs⟩,hp0,hc⟩:=Yk hE;have hfill:∀(Z:Array Value),Z.size=vs.length * i.size→Instr.fill (fun j=>some (j * i.size,i.size)) Z ((List.range vs.length).zip vs)=some (vs.flatMap (·.cells.toList)).toArray:=by intro Z hZ;have:=fill_rows (sz:=i.size) vs 0 [] Z.toList ke (by simpa using hZ) hv;simpa[List.range_eq_range'] using this
 have n1:¬(2 ^ 24 < vs.length * i.size):=by omega
 have n1':¬(16777216 < vs.length * i.size):=by omega
 by_cases h0:vs.length * i.size=0
 ·simp[Instr.buildSlice,run_underlying ht,run_sizeOf w hi,hc,h0,newRow,hfill]
 ·simp[Instr.buildSlice,run_underlying ht,run_sizeOf w hi,hc,h0,n1',zeroValue,typeInfo,hi,hz,newRow,hfill]
end Go.Kx
