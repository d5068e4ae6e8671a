/- Annotated values, part c: pure operations and loads on annotated values. -/
import Derived.Test.YtelibaobkcokdaaGreatTH2G05
namespace Go.Kx
set_option linter.unusedVariables false
set_option linter.unusedSimpArgs false
open Go
def lit1:AV→Option Value
 | .v x=>some x
 | _=>none
def lit1s:List AV→Option (List Value)
 | []=>some []
 | a::as=>match lit1 a,lit1s as with
  | some x,some xs=>some (x::xs)
  | _,_=>none
def lit:AV→Option Value
 | .v x=>some x
 | .agg xs=>(lit1s xs).map fun l=>.agg l.toArray
 | _=>none
def lits:List AV→Option (List Value)
 | []=>some []
 | a::as=>match lit a,lits as with
  | some x,some xs=>some (x::xs)
  | _,_=>none
def subA (l:List AV) (off n:Nat):List AV:=(l.drop off).take n
def setAtA:List AV→Nat→List AV→List AV
 | cs,_,[]=>cs
 | cs,off,a::as=>setAtA (cs.set off a) (off+1) as
def fillA:List AV→List (Nat×Nat)→List AV→Option (List AV)
 | cs,[],[]=>some cs
 | cs,(off,sz)::ps,a::as=>if a.cells.length=sz∧off+sz≤cs.length then fillA (setAtA cs off a.cells) ps as else none
 | _,_,_=>none
def PF.av:PF→List AV→Option AV
 | .mov,[a]=>some a
 | .pick,[.v (.bool c),a,b]=>some (if c then a else b)
 | .eqn ng 0,[.ref _ _ _]=>some (.v (.bool ng))
 | .eqn ng 0,[.ep _]=>some (.v (.bool ng))
 | .eqn ng 1,[.sl n _ t]=>match t with
  | .nil=>some (.v (.bool (!ng)))
  | .full=>some (.v (.bool ng))
  | _=>if n=0 then none else some (.v (.bool ng))
 | .eqn ng 1,[.ms _ _ _ _ _]=>some (.v (.bool ng))
 | .eqn ng 2,[.fn _ _ _]=>some (.v (.bool ng))
 | .eqn ng 3,[.mp _]=>some (.v (.bool ng))
 | .eqn ng 4,[.ifc _ _]=>some (.v (.bool ng))
 | .fld off none,[.agg cs]=>cs[off]?
 | .fld off (some n),[.agg cs]=>some (.agg (subA cs off n))
 | .bld z ps,as=>(fillA (z.map abs1) ps as).map .agg
 | .len false,[.sl n _ _]=>some (.v (.int .i64 n))
 | .len false,[.ms _ _ _ n _]=>some (.v (.int .i64 n))
 | .ixa sz,[.sl n cs _,.v (.int _ i)]=>if 0≤i∧i < n then some (.ep (cs.drop (i.toNat * sz))) else none
 | .ixa sz,[.ms id w off n sz',.v (.int _ i)]=>if 0≤i∧i < n∧sz=sz' then some (.ref id w (off+i.toNat * sz)) else none
 | .ixaA n sz,[.ref id w off,.v (.int _ i)]=>if 0≤i∧i < n then some (.ref id w (off+i.toNat * sz)) else none
 | .ixaA n sz,[.ep cs,.v (.int _ i)]=>if 0≤i∧i < n then some (.ep (cs.drop (i.toNat * sz))) else none
 | .ixv n sz none,[.agg cs,.v (.int _ i)]=>if 0≤i∧i < n then cs[i.toNat * sz]? else none
 | .ixv n sz (some m),[.agg cs,.v (.int _ i)]=>if 0≤i∧i < n then some (.agg (subA cs (i.toNat * sz) m)) else none
 | .fla off,[.ref id w o]=>some (.ref id w (o+off))
 | .fla off,[.ep cs]=>some (.ep (cs.drop off))
 | .nilc,[.ref id w o]=>some (.ref id w o)
 | .nilc,[.ep cs]=>some (.ep cs)
 | .slc sz lo hi,.sl n cs _::xs=>match lit1s xs with
  | some vs=>(loHi lo hi n n vs).map fun (l,h)=>.sl (h - l) (subA cs (l * sz) ((h - l) * sz)) .none
  | none=>none
 | .slc sz lo hi,.ms id w off n sz'::xs=>match lit1s xs with
  | some vs=>if sz=sz' then (loHi lo hi n n vs).map fun (l,h)=>if l=0 then .ms id w off h sz else if h=l then .sl 0 [] .none else .ms id w (off+l * sz) (h - l) sz else none
  | none=>none
 | .slcA n sz lo hi,.ep cs::xs=>match lit1s xs with
  | some vs=>if n≤9223372036854775807 then (loHi lo hi n n vs).map fun (l,h)=>.sl (h - l) (subA cs (l * sz) ((h - l) * sz)) .none else none
  | none=>none
 | .mkf fn n,xs=>some (.fn fn n xs)
 | .mkif t,[a]=>some (.ifc t a)
 | .ext i,[.tup xs]=>xs[i]?
 | f,as=>match lits as with
  | some vs=>(PF.val f vs).map .v
  | none=>none
theorem lit1_rel {G:Gh} {a:AV} {u x:Value} (h:lit1 a=some x) (H:RelV G a u):u=x:=by
 cases H<;>simp[lit1] at h
 exact h
theorem X10 {G:Gh}:∀{as:List AV} {vs xs:List Value},lit1s as=some xs→RelL G as vs→vs=xs:=by
 intro as
 induction as with
 | nil=>intro vs xs h H;simp[lit1s] at h;subst h;exact H.nil_inv
 | cons a as ih=>
  intro vs xs h H;obtain ⟨u,us,rfl,h1,h2⟩:=H.cons_inv;simp only[lit1s] at h;split at h
  ·rename_i x ys e1 e2;simp at h;subst h;rw[lit1_rel e1 h1,ih e2 h2]
  ·cases h
theorem lit_rel {G:Gh} {a:AV} {u x:Value} (h:lit a=some x) (H:RelV G a u):u=x:=by
 cases H with
 | v y=>simp[lit] at h;exact h
 | agg xs vs h1 h2=>simp only[lit,Option.map_eq_some_iff] at h;obtain ⟨l,hl,rfl⟩:=h;rw[X10 hl ⟨h1,h2⟩]
 | _=>simp[lit] at h
theorem lits_rel {G:Gh}:∀{as:List AV} {vs xs:List Value},lits as=some xs→RelL G as vs→vs=xs:=by
 intro as
 induction as with
 | nil=>intro vs xs h H;simp[lits] at h;subst h;exact H.nil_inv
 | cons a as ih=>
  intro vs xs h H;obtain ⟨u,us,rfl,h1,h2⟩:=H.cons_inv;simp only[lits] at h;split at h
  ·rename_i x ys e1 e2;simp at h;subst h;rw[lit_rel e1 h1,ih e2 h2]
  ·cases h
theorem RelL.setAt {G:Gh}:∀{as:List AV} {vs:List Value},RelL G as vs→∀{cs:List AV} {ws:List Value},RelL G cs ws→∀off,RelL G (setAtA cs off as) (Go.Kx.setAt ws off vs):=by
 intro as
 induction as with
 | nil=>intro vs H cs ws K off;rw[H.nil_inv];exact K
 | cons a as ih=>intro vs H cs ws K off;obtain ⟨u,us,rfl,h1,h2⟩:=H.cons_inv;exact ih h2 (K.set off h1) (off+1)
theorem fillA_rel {G:Gh}:∀(ps:List (Nat×Nat)) {as:List AV} {vs:List Value} {cs cs':List AV} {ws:List Value},fillA cs ps as=some cs'→RelL G as vs→RelL G cs ws →
  ∃ws',fillL ws ps vs=some ws'∧RelL G cs' ws':=by
 intro ps
 induction ps with
 | nil=>
  intro as vs cs cs' ws h H K
  cases as with
  | nil=>simp[fillA] at h;subst h;rw[H.nil_inv];exact ⟨ws,rfl,K⟩
  | cons a as=>simp[fillA] at h
 | cons p ps ih=>
  obtain ⟨off,sz⟩:=p;intro as vs cs cs' ws h H K
  cases as with
  | nil=>simp[fillA] at h
  | cons a as=>
   obtain ⟨u,us,rfl,h1,h2⟩:=H.cons_inv;simp only[fillA] at h;split at h
   ·rename_i hc;have hcell:=h1.cells;obtain ⟨ws',e,k⟩:=ih h h2 (RelL.setAt hcell K off);refine ⟨ws',?_,k⟩;simp only[fillL];rw[if_pos]
    ·exact e
    ·have:=hcell.1;simp at this;exact ⟨by omega,by rw[K.1];exact hc.2⟩
   ·cases h
theorem bound_le {y z:Nat} (hyz:y≤z) {b:Value} {n:Nat} (h:bound y b=some n):bound z b=some n:=by
 unfold bound at *
 cases b with
 | int k i=>
  simp only at h ⊢;split at h
  ·rename_i hc;rw[if_pos ka];exact h
  ·cases h
 | _=>simp at h
theorem X11 {y n:Nat} {b:Value} (h:bound y b=some n):n≤y:=by
 unfold bound at h
 cases b with
 | int k i=>
  simp only at h;split at h
  ·simp at h;omega
  ·cases h
 | _=>simp at h
theorem loHi_le {lo hi:Bool} {n c l h:Nat} {vs:List Value} (hc:n≤c) (H:loHi lo hi n n vs=some (l,h)):loHi lo hi n c vs=some (l,h)∧l≤h∧h≤n:=by
 unfold loHi at *;split at H
 ·simp at H;obtain ⟨rfl,rfl⟩:=H;exact ⟨rfl,Nat.zero_le _,Nat.le_refl _⟩
 ·simp only[Option.map_eq_some_iff,Prod.mk.injEq] at H;obtain ⟨x,hx,rfl,rfl⟩:=H;rw[bound_le hc hx];exact ⟨rfl,Nat.zero_le _,X11 hx⟩
 ·simp only[Option.map_eq_some_iff,Prod.mk.injEq] at H;obtain ⟨x,hx,rfl,rfl⟩:=H;exact ⟨by rw[hx];rfl,X11 hx,Nat.le_refl _⟩
 ·simp only[Option.bind_eq_some_iff,Option.map_eq_some_iff,Prod.mk.injEq] at H;obtain ⟨y,hy,x,hx,rfl,rfl⟩:=H;rw[bound_le hc hy];simp only[Option.bind_some,hx];exact ⟨rfl,X11 hx,X11 hy⟩
 ·cases H
theorem av_sound {G:Gh} {f:PF} {as:List AV} {a:AV} {vs:List Value} (h:PF.av f as=some a) (H:RelL G as vs):∃u,PF.val f vs=some u∧RelV G a u:=by
 have two:∀{x y:AV},RelL G [x,y] vs→∃u w,vs=[u,w]∧RelV G x u∧RelV G y w:=by intro x y H;obtain ⟨u,us,rfl,h1,H1⟩:=H.cons_inv;obtain ⟨w,ws,rfl,h2,H2⟩:=H1.cons_inv;rw[H2.nil_inv];exact ⟨u,w,rfl,h1,h2⟩
 have one:∀{x:AV},RelL G [x] vs→∃u,vs=[u]∧RelV G x u:=by intro x H;obtain ⟨u,us,rfl,h1,H1⟩:=H.cons_inv;rw[H1.nil_inv];exact ⟨u,rfl,h1⟩
 unfold PF.av at h;split at h
 ·
  obtain ⟨u,rfl,h1⟩:=one H;cases h;exact ⟨u,rfl,h1⟩
 ·obtain ⟨u,us,rfl,h1,H1⟩:=H.cons_inv;obtain ⟨x,xs,rfl,h2,H2⟩:=H1.cons_inv;obtain ⟨y,ys,rfl,h3,H3⟩:=H2.cons_inv;obtain rfl:=H3.nil_inv;cases h1;cases h;refine ⟨_,rfl,?_⟩;split<;>assumption
 ·obtain ⟨u,rfl,h1⟩:=one H;cases h;cases h1;exact ⟨_,rfl,by rename_i ng _ _ _ _ _ _;cases ng<;>exact .v _⟩
 ·obtain ⟨u,rfl,h1⟩:=one H;cases h;cases h1;exact ⟨_,rfl,by rename_i ng _ _ _ _ _ _ _;cases ng<;>exact .v _⟩
 ·obtain ⟨u,rfl,h1⟩:=one H;rename_i ng n cs t
  cases h1 with
  | sl _ _ _ a cap vs h1 h2 h3 h4 h5 h6=>
   cases t with
   | nil=>obtain ⟨rfl,rfl,rfl⟩:=h6;cases h;refine ⟨_,rfl,?_⟩;cases ng<;>exact .v _
   | full=>obtain ⟨_,b,off,rfl⟩:=h6;cases h;refine ⟨_,rfl,?_⟩;cases ng<;>exact .v _
   | none=>
    simp only at h;split at h
    ·cases h
    ·rcases h5 with h5|⟨b,off,rfl,_⟩
     ·exact absurd h5.1 (by assumption)
     ·cases h;refine ⟨_,rfl,?_⟩;cases ng<;>exact .v _
   | id i w s=>
    simp only at h;split at h
    ·cases h
    ·rcases h5 with h5|⟨b,off,rfl,_⟩
     ·exact absurd h5.1 (by assumption)
     ·cases h;refine ⟨_,rfl,?_⟩;cases ng<;>exact .v _
 ·obtain ⟨u,rfl,h1⟩:=one H;rename_i ng _ _ _ _ _;cases h;cases h1;exact ⟨_,rfl,by cases ng<;>exact .v _⟩
 ·obtain ⟨u,rfl,h1⟩:=one H;rename_i ng _ _ _;cases h;cases h1;exact ⟨_,rfl,by cases ng<;>exact .v _⟩
 ·obtain ⟨u,rfl,h1⟩:=one H;rename_i ng _;cases h;cases h1;exact ⟨_,rfl,by cases ng<;>exact .v _⟩
 ·obtain ⟨u,rfl,h1⟩:=one H;rename_i ng _ _;cases h;cases h1;exact ⟨_,rfl,by cases ng<;>exact .v _⟩
 ·
  obtain ⟨u,rfl,h1⟩:=one H
  cases h1 with
  | agg xs ws k1 k2=>obtain ⟨w,hw,hr⟩:=RelL.get ⟨k1,k2⟩ h;exact ⟨w,by simpa[PF.val] using hw,hr⟩
 ·obtain ⟨u,rfl,h1⟩:=one H
  cases h1 with
  | agg xs ws k1 k2=>
   cases h
   have:=fun o k=>(RelL.drop (G:=G) ⟨k1,k2⟩ o).take k;exact ⟨_,rfl,.agg _ _ (this _ _).1 (this _ _).2⟩
 ·
  simp only[Option.map_eq_some_iff] at h;obtain ⟨cs,hcs,rfl⟩:=h;obtain ⟨ws,e,k⟩:=fillA_rel _ hcs H (RelL.abs1s G _);refine ⟨.agg ws.toArray,?_,.agg _ _ k.1 k.2⟩;simp[PF.val,e]
 ·obtain ⟨u,rfl,h1⟩:=one H;cases h1;cases h;exact ⟨_,rfl,.v _⟩
 ·obtain ⟨u,rfl,h1⟩:=one H;cases h1;cases h;exact ⟨_,rfl,.v _⟩
 ·
  obtain ⟨u,w,rfl,h1,h2⟩:=two H;cases h2
  cases h1 with
  | sl _ _ _ a cap vs k1 k2 h3 h4 h5 h6=>
   split at h
   ·rename_i hi;cases h;rcases h5 with ⟨h5,_⟩|⟨b,off,rfl,h5⟩
    ·omega
    ·refine ⟨.pointer (some ⟨b,off+_ * _,none⟩),by simp[PF.val,hi,Q18];rfl,?_⟩;have:=RelL.drop ⟨k1,k2⟩;refine .ep _ _ b _ (this _).1 (this _).2 ?_;intro i u hu;rw[List.getElem?_drop] at hu;rw[Nat.add_assoc];exact h5 _ _ hu
   ·cases h
 ·obtain ⟨u,w,rfl,h1,h2⟩:=two H;cases h2
  cases h1 with
  | ms _ _ _ _ _ l cap k1 k2 k3 k4 k5=>
   split at h
   ·rename_i hi;obtain ⟨h0,hi,rfl⟩:=hi;cases h;refine ⟨_,by simp[PF.val,h0,hi,Q18];rfl,?_⟩;rw[Nat.add_assoc];exact .ref _ _ _ l k1 k2
   ·cases h
 ·obtain ⟨u,w,rfl,h1,h2⟩:=two H;cases h2
  cases h1 with
  | ref _ _ _ l k1 k2=>
   split at h
   ·rename_i hi;cases h;refine ⟨_,by simp[PF.val,hi,Q18];rfl,?_⟩;rw[Nat.add_assoc];exact .ref _ _ _ l k1 k2
   ·cases h
 ·obtain ⟨u,w,rfl,h1,h2⟩:=two H;cases h2
  cases h1 with
  | ep cs vs b off k1 k2 k3=>
   split at h
   ·rename_i hi;cases h;refine ⟨.pointer (some ⟨b,off+_ * _,none⟩),by simp[PF.val,hi,Q18];rfl,?_⟩;have:=RelL.drop ⟨k1,k2⟩;refine .ep _ _ b _ (this _).1 (this _).2 ?_;intro i u hu;rw[List.getElem?_drop] at hu;rw[Nat.add_assoc];exact k3 _ _ hu
   ·cases h
 ·obtain ⟨u,w,rfl,h1,h2⟩:=two H;cases h2
  cases h1 with
  | agg xs ws k1 k2=>
   split at h
   ·rename_i hi;obtain ⟨w,hw,hr⟩:=RelL.get ⟨k1,k2⟩ h;exact ⟨w,by simpa[PF.val,hi] using hw,hr⟩
   ·cases h
 ·obtain ⟨u,w,rfl,h1,h2⟩:=two H;cases h2
  cases h1 with
  | agg xs ws k1 k2=>
   split at h
   ·rename_i hi;cases h;have:=fun o k=>(RelL.drop (G:=G) ⟨k1,k2⟩ o).take k;exact ⟨_,by simp[PF.val,hi];rfl,.agg _ _ (this _ _).1 (this _ _).2⟩
   ·cases h
 ·obtain ⟨u,rfl,h1⟩:=one H
  cases h1 with
  | ref _ _ _ l k1 k2=>
   cases h
   refine ⟨_,by simp[PF.val,Q18];rfl,?_⟩;rw[Nat.add_assoc];exact .ref _ _ _ l k1 k2
 ·obtain ⟨u,rfl,h1⟩:=one H
  cases h1 with
  | ep cs vs b off k1 k2 k3=>
   cases h
   refine ⟨.pointer (some ⟨b,off+_,none⟩),by simp[PF.val,Q18];rfl,?_⟩;have:=RelL.drop ⟨k1,k2⟩;refine .ep _ _ b _ (this _).1 (this _).2 ?_;intro i u hu;rw[List.getElem?_drop] at hu;rw[Nat.add_assoc];exact k3 _ _ hu
 ·obtain ⟨u,rfl,h1⟩:=one H;cases h;cases h1 with|ref _ _ _ l k1 k2=>exact ⟨_,rfl,.ref _ _ _ l k1 k2⟩
 ·obtain ⟨u,rfl,h1⟩:=one H;cases h;cases h1 with|ep _ vs b off k1 k2 k3=>exact ⟨_,rfl,.ep _ vs b off k1 k2 k3⟩
 ·
  rename_i sz lo hi n cs t xs;obtain ⟨u,us,rfl,h1,H1⟩:=H.cons_inv;split at h
  ·rename_i vs hvs;obtain rfl:=X10 hvs H1;simp only[Option.map_eq_some_iff,Prod.exists] at h;obtain ⟨l,m,hlm,rfl⟩:=h
   cases h1 with
   | sl _ _ _ a cap ws k1 k2 h3 h4 h5 h6=>
    obtain ⟨e1,e2,e3⟩:=loHi_le h3 hlm;refine ⟨.slice (if cap=l then a else a.map (·.add (l * sz))) (m - l) (cap - l),by simp[PF.val,e1],?_⟩;have hsub:=(RelL.drop (G:=G) ⟨k1,k2⟩ (l * sz)).take ((m - l) * sz);refine .sl _ _ _ _ _ _ hsub.1 hsub.2 ka ka ?_ trivial;by_cases hz:m - l=0
    ·exact .inl ⟨hz,by simp[hz]⟩
    ·rw[if_neg ka];rcases h5 with ⟨h5,_⟩|⟨b,off,rfl,h5⟩
     ·omega
     ·refine .inr ⟨b,off+l * sz,by simp[Q18],?_⟩;intro i u hu;simp only[List.getElem?_take] at hu;split at hu
      ·rw[List.getElem?_drop] at hu;rw[Nat.add_assoc];exact h5 _ _ hu
      ·cases hu
  ·cases h
 ·rename_i sz lo hi id w off n sz' xs;obtain ⟨u,us,rfl,h1,H1⟩:=H.cons_inv;split at h
  ·rename_i vs hvs;obtain rfl:=X10 hvs H1;split at h
   ·rename_i hsz;subst hsz;simp only[Option.map_eq_some_iff,Prod.exists] at h;obtain ⟨l,m,hlm,rfl⟩:=h
    cases h1 with
    | ms _ _ _ _ _ loc cap k1 k2 k3 k4 k5=>
     obtain ⟨e1,e2,e3⟩:=loHi_le k3 hlm;refine ⟨.slice (if cap=l then some ⟨loc.b,loc.off+off,none⟩ else (some (⟨loc.b,loc.off+off,none⟩:Addr)).map (·.add (l * sz))) (m - l) (cap - l),by simp[PF.val,e1],?_⟩;by_cases hl:l=0
     ·subst hl;simp only[if_true,Nat.sub_zero,Nat.zero_mul]
      have:(if cap=0 then some (⟨loc.b,loc.off+off,none⟩:Addr) else (some (⟨loc.b,loc.off+off,none⟩:Addr)).map (·.add 0))=some ⟨loc.b,loc.off+off,none⟩:=by
       split
       ·rfl
       ·simp[Addr.add]
      rw[this];exact .ms _ _ _ _ _ loc cap k1 k2 ka k4 k5
     ·rw[if_neg hl];by_cases hml:m=l
      ·rw[if_pos hml,hml,Nat.sub_self];exact .sl 0 [] .none _ _ [] rfl (fun i a u h=>by simp at h) (Nat.zero_le _) ka (.inl ⟨rfl,rfl⟩) trivial
      ·rw[if_neg hml,if_neg ka];simp only[Option.map_some,Q18];rw[Nat.add_assoc];refine .ms _ _ _ _ _ loc (cap - l) k1 k2 ka ka ?_;have:cap * sz=l * sz+(cap - l) * sz:=by rw[←Nat.add_mul];congr 1;omega
       omega
   ·cases h
  ·cases h
 ·rename_i n sz lo hi cs xs;obtain ⟨u,us,rfl,h1,H1⟩:=H.cons_inv;split at h
  ·rename_i vs hvs;obtain rfl:=X10 hvs H1;split at h
   ·rename_i hn;simp only[Option.map_eq_some_iff,Prod.exists] at h;obtain ⟨l,m,hlm,rfl⟩:=h
    cases h1 with
    | ep _ ws b off k1 k2 k3=>
     obtain ⟨e1,e2,e3⟩:=loHi_le (Nat.le_refl n) hlm;refine ⟨.slice (some (if n=l then ⟨b,off,none⟩ else (⟨b,off,none⟩:Addr).add (l * sz))) (m - l) (n - l),by simp[PF.val,e1],?_⟩;have hsub:=(RelL.drop (G:=G) ⟨k1,k2⟩ (l * sz)).take ((m - l) * sz);refine .sl _ _ _ _ _ _ hsub.1 hsub.2 ka ka ?_ trivial;by_cases hz:m - l=0
     ·exact .inl ⟨hz,by simp[hz]⟩
     ·rw[if_neg ka];refine .inr ⟨b,off+l * sz,by simp[Q18],?_⟩;intro i u hu;simp only[List.getElem?_take] at hu;split at hu
      ·rw[List.getElem?_drop] at hu;rw[Nat.add_assoc];exact k3 _ _ hu
      ·cases hu
   ·cases h
  ·cases h
 ·cases h
  exact ⟨_,by simp[PF.val],.fn _ _ _ _ H.1 H.2⟩
 ·obtain ⟨u,rfl,h1⟩:=one H;cases h;exact ⟨_,rfl,.ifc _ _ _ h1⟩
 ·obtain ⟨u,rfl,h1⟩:=one H
  cases h1 with
  | tup xs ws k1 k2=>obtain ⟨w,hw,hr⟩:=RelL.get ⟨k1,k2⟩ h;exact ⟨w,by simpa[PF.val] using hw,hr⟩
 ·split at h
  ·rename_i xs hxs;obtain rfl:=lits_rel hxs H;simp only[Option.map_eq_some_iff] at h;obtain ⟨x,hx,rfl⟩:=h;exact ⟨x,hx,.v x⟩
  ·cases h
def cellsA:Option Nat→List AV→Option AV
 | none,cs=>cs[0]?
 | some k,cs=>if k≤cs.length then some (.agg (cs.take k)) else none
def ldA (n:Option Nat) (a:AV) (σ:St):Option AV:=
 match a with
 | .ep cs=>cellsA n cs
 | .ref i w off=>match σ[i]? with
  | some (.obj w' cs)=>if w=w' then cellsA n (cs.drop off) else none
  | some (.frz w' cs)=>if w=w' then cellsA n (cs.drop off) else none
  | _=>none
 | _=>none
theorem Xk {G:Gh} {h:Heap} {n:Option Nat} {cs:List AV} {a:AV} {b off:Nat} (ha:cellsA n cs=some a) (H:∀j a,cs[j]?=some a→∃u,cellG (hp h) b (off+j)=some u∧RelV G a u):
  ∃u,ldV n (.pointer (some ⟨b,off,none⟩)) (hp h)=some u∧RelV G a u:=by
 cases n with
 | none=>obtain ⟨u,h1,h2⟩:=H 0 a ha;exact ⟨u,h1,h2⟩
 | some k=>
  simp only[cellsA] at ha;split at ha
  ·rename_i hk;cases ha
   obtain ⟨vs,hvs⟩:∃vs:List Value,RelL G (cs.take k) vs∧∀(j:Nat) (u:Value),vs[j]?=some u→cellG (hp h) b (off+j)=some u:=by
    have:∀(l:List AV) (o:Nat),(∀j a,l[j]?=some a→∃u,cellG (hp h) b (o+j)=some u∧RelV G a u)→∃vs:List Value,RelL G l vs∧∀(j:Nat) (u:Value),vs[j]?=some u→cellG (hp h) b (o+j)=some u:=by
     intro l
     induction l with
     | nil=>intro o _;exact ⟨[],.nil G,fun j u h=>by simp at h⟩
     | cons x l ih=>
      intro o hl;obtain ⟨u,h1,h2⟩:=hl 0 x rfl
      obtain ⟨vs,h3,h4⟩:=ih (o+1) (fun j a ha=>by
       have:=hl (j+1) a (by simpa using ha)
       rwa [show o+1+j=o+(j+1) by omega])
      refine ⟨u::vs,.cons h2 h3,fun j w hw=>?_⟩
      cases j with
      | zero=>simp at hw;subst hw;exact h1
      | succ j=>
       have:=h4 j w (by simpa using hw)
       rwa [show o+1+j=o+(j+1) by omega] at this
    refine this _ off fun j a ha=>?_;simp only[List.getElem?_take] at ha;split at ha
    ·exact H j a ha
    ·cases ha
   obtain ⟨hr,hc⟩:=hvs;have hlen:vs.length=k:=by rw[hr.1];simp;omega
   have:=Z48 (g:=hp h) (b:=b) (l:=vs) (off:=off) hc;rw[hlen] at this;exact ⟨.agg vs.toArray,by simp[ldV,this],.agg _ _ hr.1 hr.2⟩
  ·cases ha
theorem Y60 {base:Heap} {G:Gh} {h:Heap} {σ:St} (H:RelH base G h σ) {n:Option Nat} {a r:AV} {u:Value} (hl:ldA n a σ=some r) (hr:RelV G a u):∃w,ldV n u (hp h)=some w∧RelV G r w:=by
 unfold ldA at hl;split at hl
 ·cases hr with
  | ep cs vs b off k1 k2 k3=>refine Xk hl fun j a ha=>?_;obtain ⟨u,hu,hr⟩:=RelL.get ⟨k1,k2⟩ ha;exact ⟨u,H.st _ _ _ (k3 _ _ hu),hr⟩
 ·cases hr with
  | ref i w off l k1 k2=>
   split at hl
   ·rename_i w' cs hi;split at hl
    ·rename_i hw;subst hw;obtain ⟨m,h1,h2,h3,h4,h5⟩:=H.obj _ _ _ hi;rw[k1] at h1;cases h1;refine Xk hl fun j a ha=>?_;rw[List.getElem?_drop] at ha;obtain ⟨u,h6,h7⟩:=h5 _ a ha;exact ⟨u,by rw[Nat.add_assoc];exact h6,h7⟩
    ·cases hl
   ·rename_i w' cs hi;split at hl
    ·rename_i hw;subst hw;obtain ⟨m,h1,h2,h3⟩:=H.frz _ _ _ hi;rw[k1] at h1;cases h1;refine Xk hl fun j a ha=>?_;rw[List.getElem?_drop] at ha;obtain ⟨u,h6,h7⟩:=h3 _ a ha;exact ⟨u,H.st _ _ _ (by rw[Nat.add_assoc];exact h6),h7⟩
    ·cases hl
   ·cases hl
 ·cases hl
mutual
def AV.res (σ:St):AV→AV
 | .v x=>.v x
 | .agg xs=>.agg (AV.resL σ xs)
 | .tup xs=>.tup (AV.resL σ xs)
 | .sl n cs _=>.sl n (AV.resL σ cs) .none
 | .ep cs=>.ep (AV.resL σ cs)
 | .ref i w off=>match σ[i]? with
  | some (.frz w' cs)=>if w=w' then .ep (cs.drop off) else .ref i w off
  | _=>.ref i w off
 | .ms i w off n sz=>match σ[i]? with
  | some (.frz w' cs)=>if w=w' then .sl n (subA cs off (n * sz)) .none else .ms i w off n sz
  | _=>.ms i w off n sz
 | .fn f k xs=>.fn f k (AV.resL σ xs)
 | .ifc t x=>.ifc t (AV.res σ x)
 | .mp i=>.mp i
def AV.resL (σ:St):List AV→List AV
 | []=>[]
 | x::xs=>AV.res σ x::AV.resL σ xs
end
mutual
def AV.pure:AV→Bool
 | .v _=>true
 | .agg xs=>AV.pureL xs
 | .tup xs=>AV.pureL xs
 | .sl _ cs t=>(match t with|.id _ _ _=>false|_=>true)&&AV.pureL cs
 | .ep cs=>AV.pureL cs
 | .ref _ _ _=>false
 | .ms _ _ _ _ _=>false
 | .fn _ _ xs=>AV.pureL xs
 | .ifc _ x=>AV.pure x
 | .mp _=>false
def AV.pureL:List AV→Bool
 | []=>true
 | x::xs=>AV.pure x&&AV.pureL xs
end
theorem Q19 (σ:St) (xs:List AV):AV.resL σ xs=xs.map (AV.res σ):=by
 induction xs with
 | nil=>rfl
 | cons x xs ih=>simp[AV.resL,ih]
theorem X12 (xs:List AV):AV.pureL xs=xs.all AV.pure:=by
 induction xs with
 | nil=>rfl
 | cons x xs ih=>simp[AV.pureL,ih]
theorem ZD {xs:List AV} (h:AV.pureL xs=true) {i:Nat} {a:AV} (ha:xs[i]?=some a):a.pure=true:=by rw[X12,List.all_eq_true] at h;exact h a (List.mem_of_getElem? ha)
theorem RelL.choose {G:Gh} {Q:Nat→Value→Prop}:∀{cs:List AV},(∀j a,cs[j]?=some a→∃u,Q j u∧RelV G a u)→∃vs,RelL G cs vs∧∀j u,vs[j]?=some u→Q j u:=by
 intro cs
 induction cs generalizing Q with
 | nil=>intro _;exact ⟨[],.nil G,fun j u h=>by simp at h⟩
 | cons x l ih=>
  intro hl;obtain ⟨u,h1,h2⟩:=hl 0 x rfl;obtain ⟨vs,h3,h4⟩:=ih (Q:=fun j=>Q (j+1)) (fun j a ha=>hl (j+1) a (by simpa using ha));refine ⟨u::vs,.cons h2 h3,fun j w hw=>?_⟩
  cases j with
  | zero=>simp at hw;subst hw;exact h1
  | succ j=>exact h4 j w (by simpa using hw)
theorem Y61 {base:Heap} {G:Gh} {h:Heap} {σ:St} (H:RelH base G h σ) {a:AV} {u:Value} (hr:RelV G a u):RelV G (a.res σ) u:=by
 have lst:∀{xs:List AV} {vs:List Value},(∀(i:Nat) (a:AV) (u:Value),xs[i]?=some a→vs[i]?=some u→RelV G (a.res σ) u)→∀(i:Nat) (a:AV) (u:Value),(AV.resL σ xs)[i]?=some a→vs[i]?=some u→RelV G a u:=by intro xs vs ih i a u ha hu;rw[Q19,List.getElem?_map,Option.map_eq_some_iff] at ha;obtain ⟨b,hb,rfl⟩:=ha;exact ih i b u hb hu
 induction hr with
 | v x=>exact .v x
 | agg xs vs h1 h2 ih=>exact .agg _ _ oM (lst ih)
 | tup xs vs h1 h2 ih=>exact .tup _ _ oM (lst ih)
 | sl n cs t a cap vs h1 h2 h3 h4 h5 h6 ih=>exact .sl _ _ _ _ _ vs oM (lst ih) h3 h4 h5 trivial
 | ep cs vs b off h1 h2 h3 ih=>exact .ep _ vs _ _ oM (lst ih) h3
 | ref i ver off l h1 h2=>
  simp only[AV.res];split
  ·rename_i w' cs hi;split
   ·rename_i hw;subst hw;obtain ⟨m,k1,k2,k3⟩:=H.frz _ _ _ hi;rw[h1] at k1;cases k1;obtain ⟨vs,e1,e2⟩:=RelL.choose k3;have:=e1.drop off;refine .ep _ (vs.drop off) _ _ this.1 this.2 ?_;intro i u hu;rw[List.getElem?_drop] at hu;rw[Nat.add_assoc];exact e2 _ _ hu
   ·exact .ref _ _ _ l h1 h2
  ·exact .ref _ _ _ l h1 h2
 | ms i ver off n sz l cap h1 h2 h3 h4 h5=>
  simp only[AV.res];split
  ·rename_i w' cs hi;split
   ·rename_i hw;subst hw;obtain ⟨m,k1,k2,k3⟩:=H.frz _ _ _ hi;rw[h1] at k1;cases k1;obtain ⟨vs,e1,e2⟩:=RelL.choose k3;have:=(e1.drop off).take (n * sz);refine .sl _ _ _ _ _ _ this.1 this.2 h3 h4 (.inr ⟨_,_,rfl,?_⟩) trivial;intro i u hu;simp only[List.getElem?_take] at hu;split at hu
    ·rw[List.getElem?_drop] at hu;rw[Nat.add_assoc];exact e2 _ _ hu
    ·cases hu
   ·exact .ms _ _ _ _ _ l cap h1 h2 h3 h4 h5
  ·exact .ms _ _ _ _ _ l cap h1 h2 h3 h4 h5
 | fn f k xs vs h1 h2 ih=>exact .fn _ _ _ _ oM (lst ih)
 | ifc t x u h ih=>exact .ifc _ _ _ ih
 | mp i l h1 h2=>exact .mp _ l h1 h2
theorem Y62 {G:Gh} {T:Nat→Nat→Option Loc} {a:AV} {u:Value} (hr:RelV G a u) (hp:a.pure=true):RelV ⟨G.g,T⟩ a u:=by
 induction hr with
 | v x=>exact .v x
 | agg xs vs h1 h2 ih=>exact .agg _ _ h1 fun i a u ha hu=>ih i a u ha hu (ZD oK ha)
 | tup xs vs h1 h2 ih=>exact .tup _ _ h1 fun i a u ha hu=>ih i a u ha hu (ZD oK ha)
 | sl n cs t a cap vs h1 h2 h3 h4 h5 h6 ih=>
  simp only[AV.pure,Bool.and_eq_true] at hp;refine .sl _ _ _ _ _ vs h1 (fun i a u ha hu=>ih i a u ha hu (ZD hp.2 ha)) h3 h4 h5 ?_
  cases t with
  | id i w s=>simp at hp
  | _=>exact h6
 | ep cs vs b off h1 h2 h3 ih=>exact .ep _ vs _ _ h1 (fun i a u ha hu=>ih i a u ha hu (ZD oK ha)) h3
 | ref i ver off l h1 h2=>simp[AV.pure] at hp
 | ms i ver off n sz l cap h1 h2 h3 h4 h5=>simp[AV.pure] at hp
 | fn f k xs vs h1 h2 ih=>exact .fn _ _ _ _ h1 fun i a u ha hu=>ih i a u ha hu (ZD oK ha)
 | ifc t x u h ih=>exact .ifc _ _ _ (ih oK)
 | mp i l h1 h2=>simp[AV.pure] at hp
theorem RelH.kill {base:Heap} {G:Gh} {h:Heap} {σ:St} (H:RelH base G h σ) {i w:Nat} {cs:List AV} (hi:σ[i]?=some (.obj w cs)) {cs':List AV} {l:Loc} (hl:G.T i w=some l)
  (hc:∀j a,cs'[j]?=some a→∃u,G.g l.b (l.off+j)=some u∧RelV G a u):RelH base G h (σ.set i (.frz w cs')):=by
 have hlt:i < σ.length:=(List.getElem?_eq_some_iff.1 hi).1;have hset:(σ.set i (.frz w cs'))[i]?=some (.frz w cs'):=by simp[hlt]
 have hloc:∀j l,locOf G (σ.set i (.frz w cs')) j=some l→locOf G σ j=some l:=by
  intro j l hj;by_cases hji:j=i
  ·subst hji;unfold locOf at hj;rw[hset] at hj;simp[Res.live] at hj
  ·unfold locOf at hj ⊢;rwa [List.getElem?_set_ne (Ne.symm hji)] at hj
 refine ⟨H.tab,H.size,H.keep,H.st,?_,?_,fun j m hm=>H.own j m (hloc j m hm),fun j k m n hjk hm hn=>H.disj j k m n hjk (hloc _ _ hm) (hloc _ _ hn),?_,H.maps.mono (Xj rfl) (fun _ _ _ h=>h) (fun _ _ _ h=>h) fun _ _ _ h=>h⟩
 ·intro j v ds hj;have hji:j≠i:=by rintro rfl;rw[hset] at hj;simp at hj
  rw[List.getElem?_set_ne (Ne.symm hji)] at hj;exact H.obj j v ds hj
 ·intro j v ds hj;by_cases hji:j=i
  ·subst hji;rw[hset] at hj;simp at hj;obtain ⟨rfl,rfl⟩:=hj;obtain ⟨m,h1,h2,_⟩:=H.obj j w cs hi;rw[hl] at h1;cases h1;exact ⟨l,hl,h2,hc⟩
  ·rw[List.getElem?_set_ne (Ne.symm hji)] at hj;exact H.frz j v ds hj
 ·intro j v m hm;obtain ⟨h1,h2⟩:=H.bd j v m hm;refine ⟨by simpa using h1,fun r w' hr hw'=>?_⟩;by_cases hji:j=i
  ·subst hji;rw[hset] at hr;simp at hr;subst hr;simp[Res.live] at hw'
  ·rw[List.getElem?_set_ne (Ne.symm hji)] at hr;exact h2 r w' hr hw'
def freeze1 (σ:St) (i:Nat):St:=match σ[i]? with
 | some (.obj w cs)=>σ.set i (.frz w (AV.resL σ cs))
 | _=>σ
def freeze (is:List Nat) (σ:St):St:=is.foldl freeze1 σ
theorem RelH.freeze1 {base:Heap} {G:Gh} {h:Heap} {σ:St} (H:RelH base G h σ) (i:Nat):∃G',Gh.le base.size G G'∧RelH base G' h (freeze1 σ i):=by
 unfold Go.Kx.freeze1;split
 ·rename_i w cs hi;obtain ⟨l,h1,h2,h3,h4,h5⟩:=H.obj i w cs hi;obtain ⟨vs,e1,e2⟩:=RelL.choose h5;have hlen:vs.length=cs.length:=e1.1;have hli:locOf G σ i=some l:=by unfold locOf;rw[hi];exact h1
  have hhas:∀o,l.off≤o→o < l.off+vs.length→l.has l.b o:=fun o a b=>⟨h2,rfl,by omega,by omega⟩;by_cases h0:cs.length=0
  ·refine ⟨G,.refl _ _,H.kill hi h1 fun j a ha=>?_⟩;have:=(List.getElem?_eq_some_iff.1 ha).1;rw[Q19,List.length_map] at this;omega
  ·
   have hb:base.size≤l.b:=(H.own i l hli l.b l.off (hhas _ ka ka)).1;have hgn:∀j,j < vs.length→G.g l.b (l.off+j)=none:=fun j hj=>(H.own i l hli _ _ (hhas _ ka ka)).2.2;have hle:Gh.le base.size G (G.pub l.b l.off vs):=Gh.le_pub hb hgn
   have K:RelH base G h (σ.set i .dead):=by
    have hlt:i < σ.length:=(List.getElem?_eq_some_iff.1 hi).1;have hset:(σ.set i .dead)[i]?=some .dead:=by simp[hlt]
    have hloc:∀j l,locOf G (σ.set i .dead) j=some l→locOf G σ j=some l:=by
     intro j l hj;by_cases hji:j=i
     ·subst hji;unfold locOf at hj;rw[hset] at hj;simp[Res.live] at hj
     ·unfold locOf at hj ⊢;rwa [List.getElem?_set_ne (Ne.symm hji)] at hj
    refine ⟨H.tab,H.size,H.keep,H.st,?_,?_,fun j m hm=>H.own j m (hloc j m hm),fun j k m n hjk hm hn=>H.disj j k m n hjk (hloc _ _ hm) (hloc _ _ hn),?_,H.maps.mono (Xj rfl) (fun _ _ _ h=>h) (fun _ _ _ h=>h) fun _ _ _ h=>h⟩
    ·intro j v ds hj;have hji:j≠i:=by rintro rfl;rw[hset] at hj;simp at hj
     rw[List.getElem?_set_ne (Ne.symm hji)] at hj;exact H.obj j v ds hj
    ·intro j v ds hj;have hji:j≠i:=by rintro rfl;rw[hset] at hj;simp at hj
     rw[List.getElem?_set_ne (Ne.symm hji)] at hj;exact H.frz j v ds hj
    ·intro j v m hm;obtain ⟨h1,h2⟩:=H.bd j v m hm;refine ⟨by simpa using h1,fun r w' hr hw'=>?_⟩;by_cases hji:j=i
     ·subst hji;rw[hset] at hr;simp at hr;subst hr;simp[Res.live] at hw'
     ·rw[List.getElem?_set_ne (Ne.symm hji)] at hr;exact h2 r w' hr hw'
   have hdead:∀j m,locOf G (σ.set i .dead) j=some m→j≠i∧locOf G σ j=some m:=by
    intro j m hj;have hlt:i < σ.length:=(List.getElem?_eq_some_iff.1 hi).1;by_cases hji:j=i
    ·subst hji;unfold locOf at hj;simp[hlt,Res.live] at hj
    ·unfold locOf at hj ⊢;rw[List.getElem?_set_ne (Ne.symm hji)] at hj;exact ⟨hji,hj⟩
   obtain ⟨_,K2⟩:=K.publish l.b l.off vs hb e2 hgn (fun j m hm o h6 h7 hh=>by obtain ⟨hji,hm⟩:=hdead j m hm;exact H.disj j i m l hji hm hli _ _ hh (hhas _ h6 h7));refine ⟨G.pub l.b l.off vs,hle,?_⟩;have hlt:i < σ.length:=(List.getElem?_eq_some_iff.1 hi).1;have hset:(σ.set i (.frz w (AV.resL σ cs)))[i]?=some (.frz w (AV.resL σ cs)):=by simp[hlt]
   have hother:∀j r,j≠i→(σ.set i (.frz w (AV.resL σ cs)))[j]?=some r→(σ.set i .dead)[j]?=some r:=by intro j r hji hj;rw[List.getElem?_set_ne (Ne.symm hji)] at hj ⊢;exact hj
   have hloc:∀j m,locOf (G.pub l.b l.off vs) (σ.set i (.frz w (AV.resL σ cs))) j=some m→locOf (G.pub l.b l.off vs) (σ.set i .dead) j=some m:=by
    intro j m hj;by_cases hji:j=i
    ·subst hji;unfold locOf at hj;rw[hset] at hj;simp[Res.live] at hj
    ·unfold locOf at hj ⊢;rw[List.getElem?_set_ne (Ne.symm hji)] at hj ⊢;exact hj
   refine ⟨K2.tab,K2.size,K2.keep,K2.st,?_,?_,fun j m hm=>K2.own j m (hloc j m hm),fun j k m n hjk hm hn=>K2.disj j k m n hjk (hloc _ _ hm) (hloc _ _ hn),?_,H.maps.mono (Xj rfl) hle.g hle.T fun _ _ _ h=>h⟩
   ·intro j v ds hj;have hji:j≠i:=by rintro rfl;rw[hset] at hj;simp at hj
    exact K2.obj j v ds (hother j _ hji hj)
   ·intro j v ds hj;by_cases hji:j=i
    ·subst hji;rw[hset] at hj;simp at hj;obtain ⟨rfl,rfl⟩:=hj;refine ⟨l,h1,h2,fun k a ha=>?_⟩;rw[Q19,List.getElem?_map,Option.map_eq_some_iff] at ha;obtain ⟨a',ha',rfl⟩:=ha;obtain ⟨u,hu,hr⟩:=e1.get ha';exact ⟨u,Gh.pub_get hu,(Y61 H hr).mono hle⟩
    ·exact K2.frz j v ds (hother j _ hji hj)
   ·intro j v m hm;obtain ⟨h1,h2⟩:=K2.bd j v m hm;refine ⟨by simpa using h1,fun r w' hr hw'=>?_⟩;by_cases hji:j=i
    ·subst hji;rw[hset] at hr;simp at hr;subst hr;simp[Res.live] at hw'
    ·exact h2 r w' (hother j _ hji hr) hw'
 ·exact ⟨G,.refl _ _,H⟩
theorem RelH.freeze {base:Heap} {h:Heap}:∀(is:List Nat) {G:Gh} {σ:St} (_:RelH base G h σ),∃G',Gh.le base.size G G'∧RelH base G' h (Go.Kx.freeze is σ):=by
 intro is
 induction is with
 | nil=>intro G σ H;exact ⟨G,.refl _ _,H⟩
 | cons i is ih=>intro G σ H;obtain ⟨G1,h1,H1⟩:=H.freeze1 i;obtain ⟨G2,h2,H2⟩:=ih H1;exact ⟨G2,h1.trans h2,H2⟩
theorem RelH.g_new {base:Heap} {G:Gh} {h:Heap} {σ:St} (H:RelH base G h σ) (o:Nat):G.g h.size o=none:=by
 cases hg:G.g h.size o with
 | none=>rfl
 | some u=>have:=Z02 (H.st _ _ _ hg);omega
theorem RelH.has_new {base:Heap} {G:Gh} {h:Heap} {σ:St} (H:RelH base G h σ) {i:Nat} {l:Loc} (hl:locOf G σ i=some l) (o:Nat):¬l.has h.size o:=by intro hh;have:=(H.own i l hl _ _ hh).2.1.lt;omega
theorem RelH.newObj {base:Heap} {G:Gh} {h:Heap} {σ:St} (H:RelH base G h σ) (vs rest:List Value) (cs:List AV) (E:TypeId) (hr:RelL G cs vs):
  ∃G' l,Gh.le base.size G G'∧RelH base G' (h.push (.cells (vs++rest).toArray E (0,0))) (σ++[.obj 0 cs])∧G'.T σ.length 0=some l∧l.b=h.size∧l.off=0∧l.isnil=false∧l.lim=vs.length+rest.length:=by
 have hs:=H.size
 obtain ⟨h1,h2⟩:=(H.push (.cells (vs++rest).toArray E (0,0))).name (.obj 0 cs) 0 ⟨h.size,0,0,0,0,vs.length+rest.length,false⟩ rfl
  (fun b o hh=>by obtain ⟨_,rfl,_,h4⟩:=hh;exact ⟨hs,Wr_new (by simpa using h4),H.g_new o⟩)
  (fun i m hm b o hh hk=>by obtain ⟨_,rfl,_,h4⟩:=hh;exact H.has_new hm o hk)
  (fun v ds hd=>by simp at hd;obtain ⟨rfl,rfl⟩:=hd;refine ⟨rfl,rfl,by simp[hr.1],fun j a ha=>?_⟩;obtain ⟨u,hu,hv⟩:=hr.get ha;refine ⟨u,?_,hv⟩;show cellG _ h.size (0+j)=some u;rw[Z43,Nat.zero_add,List.getElem?_toArray,List.getElem?_append_left (List.getElem?_eq_some_iff.1 hu).1];exact hu)
 exact ⟨_,_,h1,h2,Gh.Qo _ _ _ _,rfl,rfl,rfl,rfl⟩
theorem RelH.newPub {base:Heap} {G:Gh} {h:Heap} {σ:St} (H:RelH base G h σ) (vs rest:List Value) (E:TypeId):
  Gh.le base.size G (G.pub h.size 0 vs)∧RelH base (G.pub h.size 0 vs) (h.push (.cells (vs++rest).toArray E (0,0))) σ∧∀i u,vs[i]?=some u→(G.pub h.size 0 vs).g h.size (0+i)=some u:=by
 obtain ⟨h1,h2⟩:=(H.push (.cells (vs++rest).toArray E (0,0))).publish h.size 0 vs H.size (fun i u hu=>by rw[Z43,Nat.zero_add,List.getElem?_toArray,List.getElem?_append_left (List.getElem?_eq_some_iff.1 hu).1];exact hu) (fun i _=>H.g_new _) (fun i l hl o _ _=>H.has_new hl o);exact ⟨h1,h2,fun i u hu=>Gh.pub_get hu⟩
theorem RelH.newTail {base:Heap} {G:Gh} {h:Heap} {σ:St} (H:RelH base G h σ) (l:Loc) (hl:∀b o,¬l.has b o):
  ∃G',Gh.le base.size G G'∧RelH base G' h (σ++[.tail 0])∧G'.T σ.length 0=some l:=by
 obtain ⟨h1,h2⟩:=H.name (.tail 0) 0 l rfl (fun b o hh=>absurd hh (hl b o)) (fun i m hm b o hh=>absurd hh (hl b o)) (fun v ds hd=>by cases hd);exact ⟨_,h1,h2,Gh.Qo _ _ _ _⟩
theorem RelH.storeObj {base:Heap} {G:Gh} {h h':Heap} {σ:St} (H:RelH base G h σ) {i w:Nat} {cs:List AV} (hi:σ[i]?=some (.obj w cs)) {l:Loc} (hl:G.T i w=some l) {off:Nat} {vs:List Value}
  (hin:l.off+off+vs.length≤l.lim) (S:Stored h h' l.b (l.off+off) vs) (hz:vs=[]→h'=h) {cs':List AV} (hlen:l.off+cs'.length≤l.lim)
  (hc:∀j a,cs'[j]?=some a→∃u,cellG (hp h') l.b (l.off+j)=some u∧RelV G a u):RelH base G h' (σ.set i (.obj w cs')):=by
 by_cases h0:vs=[]
 ·have:=hz h0;subst this;exact H.retell hi hl hlen hc
 have hpos:0 < vs.length:=List.length_pos_iff.2 h0;obtain ⟨l',e1,e2,e3,e4,e5⟩:=H.obj i w cs hi;rw[hl] at e1;cases e1;have hli:locOf G σ i=some l:=by unfold locOf;rw[hi];exact hl
 have hhas:∀o,l.off+off≤o→o < l.off+off+vs.length→l.has l.b o:=fun o a b=>⟨e2,rfl,by omega,by omega⟩;have hlt:i < σ.length:=(List.getElem?_eq_some_iff.1 hi).1;have hset:(σ.set i (.obj w cs'))[i]?=some (.obj w cs'):=by simp[hlt]
 have hloc:∀j,locOf G (σ.set i (.obj w cs')) j=locOf G σ j:=by
  intro j;by_cases hj:j=i
  ·subst hj;unfold locOf;rw[hset,hi];rfl
  ·unfold locOf;rw[List.getElem?_set_ne (Ne.symm hj)]
 have hb:=(H.own i l hli _ _ (hhas (l.off+off) ka ka)).1;refine ⟨H.tab,by rw[S.size];exact H.size,?_,?_,?_,?_,?_,?_,?_,H.maps.mono (Xj rfl) (fun _ _ _ h=>h) (fun _ _ _ h=>h) S.maps⟩
 ·intro c hcb;rw[S.blk c ka];exact H.keep c hcb
 ·intro c o u hu;rw[S.old c o]
  ·exact H.st c o u hu
  ·by_cases hcb:c=l.b
   ·by_cases ho:l.off+off≤o∧o < l.off+off+vs.length
    ·have:=(H.own i l hli _ _ (hhas o ho.1 ho.2)).2.2;rw[←hcb,hu] at this;cases this
    ·omega
   ·exact .inl hcb
 ·intro j v ds hj;by_cases hji:j=i
  ·subst hji;rw[hset] at hj;simp at hj;obtain ⟨rfl,rfl⟩:=hj;exact ⟨l,hl,e2,e3,hlen,hc⟩
  ·rw[List.getElem?_set_ne (Ne.symm hji)] at hj;obtain ⟨m,h1,h2,h3,h4,h5⟩:=H.obj j v ds hj;refine ⟨m,h1,h2,h3,h4,fun k a ha=>?_⟩;obtain ⟨u,h6,h7⟩:=h5 k a ha;refine ⟨u,?_,h7⟩;rw[S.old _ _]
   ·exact h6
   ·by_cases hcb:m.b=l.b
    ·by_cases ho:l.off+off≤m.off+k∧m.off+k < l.off+off+vs.length
     ·have hmj:locOf G σ j=some m:=by unfold locOf;rw[hj];exact h1
      have hkl:=(List.getElem?_eq_some_iff.1 ha).1;exact absurd (hcb ▸ hhas _ ho.1 ho.2) (H.disj j i m l hji hmj hli m.b (m.off+k) ⟨h2,rfl,by omega,by omega⟩)
     ·omega
    ·exact .inl hcb
 ·intro j v ds hj;have hji:j≠i:=by rintro rfl;rw[hset] at hj;simp at hj
  rw[List.getElem?_set_ne (Ne.symm hji)] at hj;exact H.frz j v ds hj
 ·intro j m hm c o hh;rw[hloc] at hm;obtain ⟨h1,h2,h3⟩:=H.own j m hm c o hh;exact ⟨h1,S.wr _ _ h2,h3⟩
 ·intro j k m n hjk hm hn;rw[hloc] at hm hn;exact H.disj j k m n hjk hm hn
 ·intro j v m hm;obtain ⟨h1,h2⟩:=H.bd j v m hm;refine ⟨by simpa using h1,fun r w' hr hw'=>?_⟩;by_cases hji:j=i
  ·subst hji;rw[hset] at hr;simp at hr;subst hr;simp[Res.live] at hw';subst hw';exact h2 _ w hi rfl
  ·rw[List.getElem?_set_ne (Ne.symm hji)] at hr;exact h2 r w' hr hw'
theorem RelH.bump {base:Heap} {G:Gh} {h:Heap} {σ:St} (H:RelH base G h σ) {i w:Nat} {cs:List AV} (hi:σ[i]?=some (.obj w cs)) {l:Loc} (hl:G.T i w=some l):
  ∃G',Gh.le base.size G G'∧RelH base G' h (σ.set i (.obj (w+1) cs))∧G'.T i (w+1)=some l:=by
 obtain ⟨l',e1,e2,e3,e4,e5⟩:=H.obj i w cs hi;rw[hl] at e1;cases e1;have hli:locOf G σ i=some l:=by unfold locOf;rw[hi];exact hl
 obtain ⟨h1,h2⟩:=H.turn hi rfl (w+1) l (r':=.obj (w+1) cs) rfl ka (H.own i l hli) (fun j m hj hm b o hh hk=>H.disj i j l m (Ne.symm hj) hli hm b o hh hk)
  (fun v ds hd=>by cases hd;exact ⟨e2,e3,e4,e5⟩)
 exact ⟨_,h1,h2,Gh.Qo _ _ _ _⟩
theorem RelH.moveObj {base:Heap} {G:Gh} {h:Heap} {σ:St} (H:RelH base G h σ) {i w:Nat} {cs:List AV} (hi:σ[i]?=some (.obj w cs)) (vs rest:List Value) (cs':List AV) (E:TypeId) (hr:RelL G cs' vs):
  ∃G' l,Gh.le base.size G G'∧RelH base G' (h.push (.cells (vs++rest).toArray E (0,0))) (σ.set i (.obj (w+1) cs'))∧G'.T i (w+1)=some l∧l.b=h.size∧l.off=0∧l.isnil=false∧l.lim=vs.length+rest.length:=by
 have hs:=H.size
 obtain ⟨h1,h2⟩:=(H.push (.cells (vs++rest).toArray E (0,0))).turn hi rfl (w+1) ⟨h.size,0,0,0,0,vs.length+rest.length,false⟩ (r':=.obj (w+1) cs') rfl ka
  (fun b o hh=>by obtain ⟨_,rfl,_,h4⟩:=hh;exact ⟨hs,Wr_new (by simpa using h4),H.g_new o⟩)
  (fun j m _ hm b o hh hk=>by obtain ⟨_,rfl,_,h4⟩:=hh;exact H.has_new hm o hk)
  (fun v ds hd=>by
   cases hd
   refine ⟨rfl,rfl,by simp[hr.1],fun j a ha=>?_⟩;obtain ⟨u,hu,hv⟩:=hr.get ha;refine ⟨u,?_,hv⟩;show cellG _ h.size (0+j)=some u;rw[Z43,Nat.zero_add,List.getElem?_toArray,List.getElem?_append_left (List.getElem?_eq_some_iff.1 hu).1];exact hu)
 exact ⟨_,_,h1,h2,Gh.Qo _ _ _ _,rfl,rfl,rfl,rfl⟩
theorem RelH.moveTail {base:Heap} {G:Gh} {h:Heap} {σ:St} (H:RelH base G h σ) {i w:Nat} (hi:σ[i]?=some (.tail w)) (vs rest:List Value) (E:TypeId) (n cap:Nat):
  ∃G',Gh.le base.size G G'∧RelH base G' (h.push (.cells (vs++rest).toArray E (0,0))) (σ.set i (.tail (w+1)))∧(∀j u,vs[j]?=some u→G'.g h.size (0+j)=some u) ∧
   G'.T i (w+1)=some ⟨h.size,0,cap,n,vs.length,vs.length+rest.length,false⟩:=by
 have hs:=H.size;obtain ⟨h1,H1,hc⟩:=H.newPub vs rest E
 obtain ⟨h2,H2⟩:=H1.turn hi rfl (w+1) ⟨h.size,0,cap,n,vs.length,vs.length+rest.length,false⟩ (r':=.tail (w+1)) rfl ka
  (fun b o hh=>by obtain ⟨_,rfl,h3,h4⟩:=hh;refine ⟨hs,Wr_new (by simpa using h4),?_⟩;simp only[Gh.pub];rw[if_neg (by simp at h3 ⊢;omega)];exact H.g_new o)
  (fun j m _ hm b o hh hk=>by obtain ⟨_,rfl,_,h4⟩:=hh;exact H.has_new (show locOf G σ j=some m from hm) o hk)
  (fun v ds hd=>by cases hd)
 exact ⟨_,h1.trans h2,H2,hc,Gh.Qo _ _ _ _⟩
theorem RelH.growTail {base:Heap} {G:Gh} {h:Heap} {σ:St} (H:RelH base G h σ) {i w:Nat} (hi:σ[i]?=some (.tail w)) {l:Loc} (hl:G.T i w=some l) (hn:l.isnil=false) (vs:List Value) (hv:∀v∈vs,v.oneCell'=true) (hlim:l.e+vs.length≤l.lim) (n:Nat):
  ∃h' G',stL h l.b l.e vs=some h'∧Gh.le base.size G G'∧RelH base G' h' (σ.set i (.tail (w+1)))∧(∀j u,vs[j]?=some u→G'.g l.b (l.e+j)=some u) ∧
   G'.T i (w+1)=some ⟨l.b,l.off,l.cap,n,l.e+vs.length,l.lim,false⟩:=by
 have hli:locOf G σ i=some l:=by unfold locOf;rw[hi];exact hl
 have hhas:∀o,l.e≤o→o < l.e+vs.length→l.has l.b o:=fun o a b=>⟨hn,rfl,by omega,by omega⟩;have hmore:∀b o,(⟨l.b,l.off,l.cap,n,l.e+vs.length,l.lim,false⟩:Loc).has b o→l.has b o:=fun b o hh=>by obtain ⟨_,h2,h3,h4⟩:=hh;simp only at h2 h3 h4;exact ⟨hn,h2,by omega,h4⟩
 obtain ⟨h',e,S⟩:=Y59 vs (h:=h) (b:=l.b) (off:=l.e) (fun j hj=>(H.own i l hli _ _ (hhas _ ka ka)).2.1) hv;by_cases h0:vs=[]
 ·subst h0;simp[stL] at e;subst e
  obtain ⟨h2,H2⟩:=H.turn hi rfl (w+1) ⟨l.b,l.off,l.cap,n,l.e+0,l.lim,false⟩ (r':=.tail (w+1)) rfl ka
   (fun b o hh=>H.own i l hli b o (hmore b o hh)) (fun j m hj hm b o hh hk=>H.disj i j l m (Ne.symm hj) hli hm b o (hmore b o hh) hk) (fun v ds hd=>by cases hd)
  exact ⟨h,_,rfl,h2,H2,fun j u hu=>by simp at hu,Gh.Qo _ _ _ _⟩
 have hpos:0 < vs.length:=List.length_pos_iff.2 h0;have hb:=(H.own i l hli _ _ (hhas l.e ka ka)).1;have hg:∀j,j < vs.length→G.g l.b (l.e+j)=none:=fun j hj=>(H.own i l hli _ _ (hhas _ ka ka)).2.2
 have H1:=H.store S hb hg (fun j v ds hj m hm k a hk hmb h1 h2=>by
  exfalso;obtain ⟨m',f1,f2,f3,f4,_⟩:=H.obj j v ds hj;rw[hm] at f1;cases f1;have hji:j≠i:=by rintro rfl;rw[hi] at hj;cases hj
  have hmj:locOf G σ j=some m:=by unfold locOf;rw[hj];exact hm
  have hkl:=(List.getElem?_eq_some_iff.1 hk).1;exact H.disj j i m l hji hmj hli m.b (m.off+k) ⟨f2,rfl,by omega,by omega⟩ (hmb ▸ hhas _ h1 h2))
 obtain ⟨h2,H2⟩:=H1.turn hi rfl (w+1) ⟨l.b,l.off,l.cap,n,l.e+vs.length,l.lim,false⟩ (r':=.tail (w+1)) rfl ka
  (fun b o hh=>H1.own i l hli b o (hmore b o hh)) (fun j m hj hm b o hh hk=>H1.disj i j l m (Ne.symm hj) hli hm b o (hmore b o hh) hk) (fun v ds hd=>by cases hd)
 have hlt:i < σ.length:=(List.getElem?_eq_some_iff.1 hi).1
 obtain ⟨h3,H3⟩:=H2.publish l.b l.e vs hb S.new hg (fun j m hm o a b hh=>by
  by_cases hji:j=i
  ·subst hji;unfold locOf at hm;simp[hlt,Res.live,Gh.put] at hm;subst hm;obtain ⟨_,_,h5,_⟩:=hh;simp only at h5;omega
  ·have hm2:locOf G σ j=some m:=by unfold locOf at hm ⊢;rw[List.getElem?_set_ne (Ne.symm hji)] at hm;rw[←hm];congr 1;funext r;congr 1;funext v;simp only[Gh.put];rw[if_neg (fun h=>hji h.1)]
   exact H.disj j i m l hji hm2 hli _ _ hh (hhas _ a b))
 exact ⟨h',_,e,h2.trans h3,H3,fun j u hu=>Gh.pub_get hu,Gh.Qo _ _ _ _⟩
end Go.Kx
