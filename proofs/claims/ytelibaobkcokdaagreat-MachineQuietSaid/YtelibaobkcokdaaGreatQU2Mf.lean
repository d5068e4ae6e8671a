/- The machine: which numbers are taken: the walk on heaps. -/
import Derived.Test.YtelibaobkcokdaaGreatQU2Me
namespace Go.Proofs.YtelibaobkcokdaaGreat.Mx
set_option linter.unusedVariables false
set_option linter.unusedSimpArgs false
open Go Go.Kx Go.Proofs Go.Proofs.YtelibaobkcokdaaGreat
set_option maxRecDepth 8000
def idsL:List Bool→Nat→List Nat
 | [],_=>[]
 | b::l,s=>if b then s::idsL l (s+1) else idsL l (s+1)
theorem ids_at:∀(l:List Bool) (s k:Nat),l[k]?=some true→(idsL l s)[usedN (l.take k)]?=some (s+k):=by
 intro l
 induction l with
 | nil=>intro s k h;simp at h
 | cons b l ih=>
  intro s k h
  cases k with
  | zero=>simp at h;subst h;simp[idsL,usedN]
  | succ k=>
   rw[List.getElem?_cons_succ] at h
   have:=ih (s+1) k h
   cases b with
   | true=>simp only[List.take_succ_cons,usedN,List.countP_cons,id,if_true,idsL,List.getElem?_cons_succ] at this ⊢;rw[this];congr 1;omega
   | false=>simp only[List.take_succ_cons,usedN,List.countP_cons,id,idsL] at this ⊢;simpa[Nat.add_comm,Nat.add_left_comm] using this
theorem J01 (l:List Bool) {k:Nat} {b:Bool} (h:l[k]?=some b):usedN (l.take (k+1))=usedN (l.take k)+(if b then 1 else 0):=by
 rw[List.take_add_one,h]
 simp[usedN,List.countP_append]
theorem used_le (l:List Bool):usedN l≤l.length:=List.countP_le_length
theorem used_lt (l:List Bool) {k:Nat} (h:l[k]?=some true):usedN (l.take k) < usedN l:=by
 have h1:=J01 l h
 have h2:usedN (l.take (k+1))≤usedN l:=(List.take_sublist _ _).countP_le
 simp only[if_true] at h1
 omega
theorem wp_newh {P:Program} {T:TypeId} {z:List Value} {h:Heap} {K:Value→Heap→Prop} (hk:act (K (.pointer (some ⟨h.size,0,none⟩)) (h.push (.cells z.toArray T (0,0))))):act (EF.wp P (.new T z) [] h K):=hk
theorem wp_boxh {P:Program} {T:TypeId} {v:Value} {h:Heap} {K:Value→Heap→Prop} (hk:act (K (.pointer (some ⟨h.size,0,none⟩)) (h.push (.cells v.cells T (0,0))))):act (EF.wp P (.box T) [v] h K):=hk
theorem wp_callh {P:Program} {f:FuncId} {vs:List Value} {h:Heap} {K:Value→Heap→Prop} {R:Value→Heap→Prop} (H:FnC P f vs.toArray h R) (hk:∀r h',R r h'→act (K r h')):act (EF.wp P (.call f) vs h K):=FnC.mono H hk
theorem wp_monoh {P:Program} {e:EF} {vs:List Value} {h:Heap} {K R:Value→Heap→Prop} (H:EF.wp P e vs h R) (hk:∀r h',R r h'→act (K r h')):act (EF.wp P e vs h K):=EF.wp_mono hk H
theorem wp_sth {P:Program} {n b off:Nat} {v:Value} {h h':Heap} {K:Value→Heap→Prop} (h1:v.cells.size=n) (e:stL h b off v.cells.toList=some h') (hk:act (K undef h')):act (EF.wp P (.st n) [.pointer (some ⟨b,off,none⟩),v] h K):=⟨h1,h',e,hk⟩
theorem All1_it {fz:Nat→Nat→Option Value} {b0 o0 bA oA bH oH cap:Nat} {l:List Bool} (f0:fz b0 o0=some (.pointer (some ⟨bA,oA,none⟩))) (f1:fz bA oA=some (.slice (some ⟨bH,oH,none⟩) l.length cap))
  (f2:∀(k:Nat) (x:Bool),l[k]?=some x→fz bH (oH+k)=some (.bool x)) (hl:l.length≤1000000):
  IterC Tryz.prog 259 #[.pointer (some ⟨b0,o0,none⟩)] (usedN l) (fun i=>[.int .i64 (((idsL l 0).getD i 0:Nat):Int)]) fz:=by
 intro u J h0 hJf hJg hJy hJ0
 have hargs:#[u]++#[Value.pointer (some ⟨b0,o0,none⟩)]=[u,Value.pointer (some ⟨b0,o0,none⟩)].toArray:=by simp
 rw[hargs]
 refine fn_in X93 mixed rfl ?_
 simp only[ZV]
 have c0:=hJf _ _ hJ0 _ _ _ f0
 have c1:=hJf _ _ hJ0 _ _ _ f1
 simp (maxSteps:=1000000) (implicitDefEqProofs:=false) (disch:=omega) only[push_cast,↓reduceIte,Nat.reduceEqDiff,reduceCtorEq,decide_true,decide_false,Bool.not_true,Bool.not_false,Option.isNone_some,Option.isNone_none,c0,c1,Nat.add_zero]
 refine wp_bl (α:=Nat) (I:=fun k ρ h=>(ρ 0=u∧ρ 10=.slice (some ⟨bH,oH,none⟩) l.length cap∧ρ 11=.int .i64 l.length∧ρ 12=.int .i64 k)∧k≤l.length∧J (usedN (l.take k)) h)
  (μ:=fun k=>l.length - k) (Q:=fun ρ h=>J (usedN l) h) (x:=0) ?_ ?_ ?_
 ·simp (maxSteps:=1000000) (implicitDefEqProofs:=false) (disch:=omega) only[push_cast,↓reduceIte,Nat.reduceEqDiff,reduceCtorEq,decide_true,decide_false,Bool.not_true,Bool.not_false,Option.isNone_some,Option.isNone_none]
  first|exact ⟨by simp,by omega,by simpa[usedN] using hJ0⟩|exact ⟨by omega,by simpa[usedN] using hJ0⟩
 ·rintro k ρ h N E ⟨hρ,hk,hj⟩ hN hE
  simp only[Q47]
  by_cases hlt:k < l.length
  ·obtain ⟨x,hx⟩:=Q09 hlt
   have c2:=hJf _ _ hj _ _ _ (f2 k x hx)
   cases x with
   | false=>
    have ht:=J01 l hx
    simp (maxSteps:=1000000) (implicitDefEqProofs:=false) (disch:=omega) only[push_cast,↓reduceIte,Nat.reduceEqDiff,reduceCtorEq,decide_true,decide_false,Bool.not_true,Bool.not_false,Option.isNone_some,Option.isNone_none,hρ,c2,Nat.mul_one]
    refine hN (k+1) _ _ ⟨?_,by omega,?_⟩ (by omega)
    ·simp (maxSteps:=1000000) (implicitDefEqProofs:=false) (disch:=omega) only[push_cast,↓reduceIte,Nat.reduceEqDiff,reduceCtorEq,decide_true,decide_false,Bool.not_true,Bool.not_false,Option.isNone_some,Option.isNone_none,hρ,and_self]
    ·rw[ht];simpa using hj
   | true=>
    have ht:=J01 l hx
    have ha:=ids_at l 0 k hx
    have hy:=hJy _ h (used_lt l hx) hj
    have hv:(idsL l 0).getD (usedN (l.take k)) 0=k:=by rw[List.getD_eq_getElem?_getD,ha];simp
    simp only[hv] at hy
    simp (maxSteps:=1000000) (implicitDefEqProofs:=false) (disch:=omega) only[push_cast,↓reduceIte,Nat.reduceEqDiff,reduceCtorEq,decide_true,decide_false,Bool.not_true,Bool.not_false,Option.isNone_some,Option.isNone_none,hρ,c2,Nat.mul_one]
    refine wp_monoh hy ?_
    rintro r h4 ⟨rfl,hj4⟩
    simp (maxSteps:=1000000) (implicitDefEqProofs:=false) (disch:=omega) only[push_cast,↓reduceIte,Nat.reduceEqDiff,reduceCtorEq,decide_true,decide_false,Bool.not_true,Bool.not_false,Option.isNone_some,Option.isNone_none,hρ]
    refine hN (k+1) _ _ ⟨?_,by omega,?_⟩ (by omega)
    ·simp (maxSteps:=1000000) (implicitDefEqProofs:=false) (disch:=omega) only[push_cast,↓reduceIte,Nat.reduceEqDiff,reduceCtorEq,decide_true,decide_false,Bool.not_true,Bool.not_false,Option.isNone_some,Option.isNone_none,hρ,and_self]
    ·rw[ht];simpa using hj4
  ·simp (maxSteps:=1000000) (implicitDefEqProofs:=false) (disch:=omega) only[push_cast,↓reduceIte,Nat.reduceEqDiff,reduceCtorEq,decide_true,decide_false,Bool.not_true,Bool.not_false,Option.isNone_some,Option.isNone_none,hρ]
   obtain rfl:k=l.length:=by omega
   rw[List.take_length] at hj
   exact hE _ _ hj
 ·intro ρ h hj
  simp (maxSteps:=1000000) (implicitDefEqProofs:=false) (disch:=omega) only[push_cast,↓reduceIte,Nat.reduceEqDiff,reduceCtorEq,decide_true,decide_false,Bool.not_true,Bool.not_false,Option.isNone_some,Option.isNone_none]
  intro h' hg
  exact hJg _ _ _ hj hg
theorem All_h (b o:Nat) (h:Heap):FnC Tryz.prog 192 #[.pointer (some ⟨b,o,none⟩)] h fun r h'=>r=.func (.func 259) #[] #[.pointer (some ⟨h.size,0,none⟩)]∧∃T,GrowD h.size (h.push (.cells #[.pointer (some ⟨b,o,none⟩)] T (0,0))) h':=by
 refine fn_in Y35 mixed (args:=[.pointer (some ⟨b,o,none⟩)]) rfl ?_
 simp only[Z77]
 simp (maxSteps:=1000000) (implicitDefEqProofs:=false) (disch:=omega) only[push_cast,↓reduceIte,Nat.reduceEqDiff,reduceCtorEq,decide_true,decide_false,Bool.not_true,Bool.not_false,Option.isNone_some,Option.isNone_none]
 refine wp_boxh ?_
 simp (maxSteps:=1000000) (implicitDefEqProofs:=false) (disch:=omega) only[push_cast,↓reduceIte,Nat.reduceEqDiff,reduceCtorEq,decide_true,decide_false,Bool.not_true,Bool.not_false,Option.isNone_some,Option.isNone_none]
 intro h' hg
 first|exact ⟨rfl,_,hg⟩|exact ⟨_,hg⟩
def fzA (h:Heap) (b0:Nat) (v:Value):Nat→Nat→Option Value:=fun b o=>if b=b0 then (if o=0 then some v else none) else if b < h.size then cellG (hp h) b o else none
theorem Used_h {h:Heap} {bA oA bH oH cap:Nat} {l:List Bool} (c1:cellG (hp h) bA oA=some (.slice (some ⟨bH,oH,none⟩) l.length cap)) (c2:∀(k:Nat) (x:Bool),l[k]?=some x→cellG (hp h) bH (oH+k)=some (.bool x)) (hl:l.length≤1000000):
  FnC Tryz.prog 109 #[.pointer (some ⟨bA,oA,none⟩)] h fun r h'=>r=.int .i64 (usedN l)∧GrowD h.size h h':=by
 refine fn_in YR mixed (args:=[.pointer (some ⟨bA,oA,none⟩)]) rfl ?_
 simp only[Z36]
 have hbA:bA < h.size:=Zx c1
 simp (maxSteps:=1000000) (implicitDefEqProofs:=false) (disch:=omega) only[push_cast,↓reduceIte,Nat.reduceEqDiff,reduceCtorEq,decide_true,decide_false,Bool.not_true,Bool.not_false,Option.isNone_some,Option.isNone_none]
 refine wp_newh ?_
 simp (maxSteps:=1000000) (implicitDefEqProofs:=false) (disch:=omega) only[push_cast,↓reduceIte,Nat.reduceEqDiff,reduceCtorEq,decide_true,decide_false,Bool.not_true,Bool.not_false,Option.isNone_some,Option.isNone_none]
 have hst:stL (h.push (.cells #[.int .i64 0] 3 (0,0))) h.size 0 (Value.int .i64 0).cells.toList=some (h.push (.cells #[.int .i64 0] 3 (0,0))):=by
  simp[stL,st1,Value.cells,Value.oneCell']
  apply Array.ext'
  simp
 refine wp_sth rfl hst ?_
 simp (maxSteps:=1000000) (implicitDefEqProofs:=false) (disch:=omega) only[push_cast,↓reduceIte,Nat.reduceEqDiff,reduceCtorEq,decide_true,decide_false,Bool.not_true,Bool.not_false,Option.isNone_some,Option.isNone_none]
 refine wp_callh (All_h bA oA _) ?_
 rintro r h2 ⟨rfl,T,hg⟩
 have hs2:=hg.1
 simp only[Array.size_push] at hs2
 have k1:h2[h.size]?=some (.cells #[.int .i64 0] 3 (0,0)):=hg.2 _ _ (by rw[Array.getElem?_push_lt (by simp)];simp) (.inl rfl)
 have k2:h2[h.size+1]?=some (.cells #[.pointer (some ⟨bA,oA,none⟩)] T (0,0)):=hg.2 _ _ (by rw[show h.size+1=(h.push (.cells #[.int .i64 0] 3 (0,0))).size by simp];exact Array.getElem?_push_size) (.inl rfl)
 have k0:∀(b:Nat) (ob:Obj),h[b]?=some ob→h2[b]?=some ob:=by
  intro b ob e
  have hb:b < h.size:=(Array.getElem?_eq_some_iff.1 e).1
  refine hg.2 b ob ?_ (.inr (by simp;omega))
  rw[Array.getElem?_push_lt (by simp;omega),Array.getElem_push_lt hb]
  rw[Array.getElem?_eq_getElem hb] at e
  exact e
 have hok:fnOk Tryz.prog 259=true:=by kernel_rfl
 have hul:=used_le l
 simp (maxSteps:=1000000) (implicitDefEqProofs:=false) (disch:=omega) only[push_cast,↓reduceIte,Nat.reduceEqDiff,reduceCtorEq,decide_true,decide_false,Bool.not_true,Bool.not_false,Option.isNone_some,Option.isNone_none]
 refine ⟨_,_,usedN l,fun i=>[.int .i64 (((idsL l 0).getD i 0:Nat):Int)],fzA h (h.size+1) (.pointer (some ⟨bA,oA,none⟩)),
  fun i h'=>(∀(b:Nat) (ob:Obj),h[b]?=some ob→h'[b]?=some ob)∧h'[h.size]?=some (.cells #[.int .i64 (i:Nat)] 3 (0,0))∧h'[h.size+1]?=some (.cells #[.pointer (some ⟨bA,oA,none⟩)] T (0,0)),?_,hok,fun _ _=>rfl,
  All1_it (b0:=h.size+1) (o0:=0) (bA:=bA) (oA:=oA) (bH:=bH) (oH:=oH) (cap:=cap) (by simp[fzA]) (by simp only[fzA];rw[if_neg (by omega),if_pos hbA];exact c1) (fun k x hx=>by
   have:=c2 k x hx
   have hb:=Zx this
   simp only[fzA];rw[if_neg (by omega),if_pos hb];exact this) hl,?_,?_,⟨k0,k1,k2⟩,?_,?_⟩
 ·simp (maxSteps:=1000000) (implicitDefEqProofs:=false) (disch:=omega) only[push_cast,↓reduceIte,Nat.reduceEqDiff,reduceCtorEq,decide_true,decide_false,Bool.not_true,Bool.not_false,Option.isNone_some,Option.isNone_none]
  rw[Array.size_push]
 ·rintro i h' ⟨j0,j1,j2⟩ b o u hu
  simp only[fzA] at hu
  split at hu
  ·rename_i hb
   subst hb
   split at hu
   ·rename_i ho
    subst ho
    cases hu
    simp[cellG,hp,j2]
   ·cases hu
  ·split at hu
   ·rename_i hb
    unfold cellG hp at hu ⊢
    cases hh:h[b]? with
    | none=>rw[hh] at hu;cases hu
    | some ob=>rw[hh] at hu;rw[j0 b ob hh];exact hu
   ·cases hu
 ·rintro i h3 h4 ⟨j0,j1,j2⟩ g
  refine ⟨fun b ob e=>g.2 b ob (j0 b ob e) (.inr ?_),g.2 _ _ j1 (.inl rfl),g.2 _ _ j2 (.inl rfl)⟩
  have:b < h.size:=(Array.getElem?_eq_some_iff.1 e).1
  omega
 ·rintro i h3 hi ⟨j0,j1,j2⟩
  simp only[Q45,Q46]
  show ∀h'',GrowD h2.size h3 h''→_
  intro h4 g
  have j1':=g.2 _ _ j1 (.inl rfl)
  have j2':=g.2 _ _ j2 (.inl rfl)
  have c3:cellG (hp h4) h.size 0=some (.int .i64 (i:Nat)):=by simp[cellG,hp,j1']
  have hst:stL h4 h.size 0 (Value.int .i64 ((i:Int)+1)).cells.toList=some (h4.setIfInBounds h.size (.cells #[.int .i64 ((i:Int)+1)] 3 (0,0))):=by
   simp[stL,st1,Value.cells,Value.oneCell',j1']
  show act _
  simp (maxSteps:=1000000) (implicitDefEqProofs:=false) (disch:=omega) only[push_cast,↓reduceIte,Nat.reduceEqDiff,reduceCtorEq,decide_true,decide_false,Bool.not_true,Bool.not_false,Option.isNone_some,Option.isNone_none,setEnv,List.zip_cons_cons,List.zip_nil_left,List.zip_nil_right,List.foldl_cons,List.foldl_nil,c3]
  refine wp_sth rfl hst ?_
  simp (maxSteps:=1000000) (implicitDefEqProofs:=false) (disch:=omega) only[push_cast,↓reduceIte,Nat.reduceEqDiff,reduceCtorEq,decide_true,decide_false,Bool.not_true,Bool.not_false,Option.isNone_some,Option.isNone_none]
  refine ⟨fun b ob e=>?_,?_,?_⟩
  ·have hb:b < h.size:=(Array.getElem?_eq_some_iff.1 e).1
   rw[Array.getElem?_setIfInBounds_ne (by omega)]
   exact g.2 b ob (j0 b ob e) (.inr (by omega))
  ·have hs:h.size < h4.size:=(Array.getElem?_eq_some_iff.1 j1').1
   simp[Array.getElem?_setIfInBounds_self,hs]
  ·rw[Array.getElem?_setIfInBounds_ne (by omega)]
   exact j2'
 ·rintro h3 ⟨j0,j1,j2⟩
  have c3:cellG (hp h3) h.size 0=some (.int .i64 (usedN l:Nat)):=by simp[cellG,hp,j1]
  show act _
  simp (maxSteps:=1000000) (implicitDefEqProofs:=false) (disch:=omega) only[push_cast,↓reduceIte,Nat.reduceEqDiff,reduceCtorEq,decide_true,decide_false,Bool.not_true,Bool.not_false,Option.isNone_some,Option.isNone_none,c3]
  intro h5 hg5
  first|refine ⟨trivial,?_,fun b ob e _=>?_⟩|refine ⟨?_,fun b ob e _=>?_⟩
  ·have h1:=hg5.1
   have h2:h.size < h3.size:=(Array.getElem?_eq_some_iff.1 j1).1
   omega
  ·exact hg5.2 b ob (j0 b ob e) (.inr (Array.getElem?_eq_some_iff.1 e).1)
theorem Y70 {σ:Kx.St} {ja jh:Nat} {l:List Bool} {t:List AV} (ha:σ[ja]?=some (.obj 0 (.ms jh 0 0 l.length 1::t))) (hh:σ[jh]?=some (.obj 0 (l.map aBool))) (hl:l.length≤1000000):
  FnG Tryz.prog 109 [.ref ja 0 0] σ fun a σ'=>a=aInt (usedN l)∧σ'=σ:=by
 intro base G h vs hH hL
 obtain ⟨u,us,rfl,hu,hus⟩:=hL.cons_inv
 obtain rfl:=hus.nil_inv
 cases hu with
 | ref _ _ _ lA e1 e2=>
 obtain ⟨lA',f1,f2,f3,f4,f5⟩:=hH.obj _ _ _ ha
 rw[e1] at f1;cases f1
 obtain ⟨u0,g1,g2⟩:=f5 0 _ rfl
 cases g2 with
 | ms _ _ _ _ _ lH cap k1 k2 k3 k4 k5=>
 obtain ⟨lH',m1,m2,m3,m4,m5⟩:=hH.obj _ _ _ hh
 rw[k1] at m1;cases m1
 refine (Used_h (h:=h) (l:=l) (bA:=lA.b) (oA:=lA.off) (bH:=lH.b) (oH:=lH.off) (cap:=cap) g1 (fun k x hx=>?_) hl).mono ?_
 ·obtain ⟨w,n1,n2⟩:=m5 k (aBool x) (by rw[List.getElem?_map,hx];rfl)
  cases n2
  exact n1
 ·rintro r h' ⟨rfl,g⟩
  exact ⟨G,_,σ,.refl _ _,hH.growD hH.size g,.v _,rfl,rfl⟩
end Go.Proofs.YtelibaobkcokdaaGreat.Mx
