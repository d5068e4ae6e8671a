/- A slice in an argument gets a name. -/
import Derived.Test.YtncdnegdlkmicaaGreatQLd
namespace Go.Kx
set_option linter.unusedVariables false
set_option linter.unusedSimpArgs false
open Go
theorem RelH.dead {base:Heap} {G:Gh} {h:Heap} {σ:St} (H:RelH base G h σ) (l:Loc):
  Gh.le base.size G (G.put σ.length 0 l)∧RelH base (G.put σ.length 0 l) h (σ++[.dead]):=by
 have hnone:∀v,G.T σ.length v=none:=by
  intro v
  cases hv:G.T σ.length v with
  | none=>rfl
  | some m=>have:=(H.bd _ _ _ hv).1;omega
 have hle:Gh.le base.size G (G.put σ.length 0 l):=Gh.le_put (hnone 0)
 have hcase:∀i m,locOf (G.put σ.length 0 l) (σ++[Res.dead]) i=some m→i < σ.length∧locOf G σ i=some m:=by
  intro i m hm
  have hlt:=Q02 hm
  simp at hlt
  by_cases hi:i < σ.length
  ·refine ⟨hi,?_⟩
   rw[Z27 hi] at hm
   unfold locOf at hm ⊢
   simp only[Gh.put] at hm
   rw[←hm]
   congr 1;funext r;congr 1;funext v
   rw[if_neg (by omega)]
  ·have:i=σ.length:=by omega
   subst this
   unfold locOf at hm
   simp[Res.live] at hm
 have hat:∀i r,(σ++[Res.dead])[i]?=some r→(i < σ.length∧σ[i]?=some r)∨r=.dead:=by
  intro i r hi
  by_cases hlt:i < σ.length
  ·rw[List.getElem?_append_left hlt] at hi
   exact .inl ⟨hlt,hi⟩
  ·have h1:=(List.getElem?_eq_some_iff.1 hi).1
   simp at h1
   have:i=σ.length:=by omega
   subst this
   simp at hi
   exact .inr hi.symm
 refine ⟨hle,H.tab,H.size,H.keep,H.st,?_,?_,?_,?_,?_,H.maps.mono (map_app rfl) hle.g hle.T fun _ _ _ h=>h⟩
 ·intro i v cs hi
  rcases hat i _ hi with ⟨_,hi⟩|h
  ·obtain ⟨m,h1,h2,h3,h4,h5⟩:=H.obj i v cs hi
   refine ⟨m,hle.T _ _ _ h1,h2,h3,h4,fun j a ha=>?_⟩
   obtain ⟨u,h6,h7⟩:=h5 j a ha
   exact ⟨u,h6,h7.mono hle⟩
  ·cases h
 ·intro i v cs hi
  rcases hat i _ hi with ⟨_,hi⟩|h
  ·obtain ⟨m,h1,h2,h3⟩:=H.frz i v cs hi
   refine ⟨m,hle.T _ _ _ h1,h2,fun j a ha=>?_⟩
   obtain ⟨u,h6,h7⟩:=h3 j a ha
   exact ⟨u,h6,h7.mono hle⟩
  ·cases h
 ·intro i m hm
  exact H.own i m (hcase i m hm).2
 ·intro i j m m' hij hm hm'
  exact H.disj i j m m' hij (hcase i m hm).2 (hcase j m' hm').2
 ·intro i v m hm
  simp only[Gh.put] at hm
  split at hm
  ·rename_i hc
   obtain ⟨rfl,rfl⟩:=hc
   refine ⟨by simp,fun r w' hr hw=>?_⟩
   simp at hr
   subst hr
   cases hw
  ·obtain ⟨h1,h2⟩:=H.bd i v m hm
   refine ⟨by simp;omega,fun r w' hr hw=>?_⟩
   rcases hat i _ hr with ⟨_,hr⟩|h
   ·exact h2 r w' hr hw
   ·subst h;cases hw
theorem FnG.named {P:Program} {f:FuncId} {σ:St} {a:AV} {n:Nat} {cs:List AV} {rest:List AV} {R:AV→St→Prop} (sz:Nat) (hn:0 < n)
  (H:FnG P f (.agg [a,.sl n cs (.id σ.length 0 sz)]::rest) (σ++[.dead]) R):FnG P f (.agg [a,.sl n cs .none]::rest) σ R:=by
 intro base G h vs hH hL
 obtain ⟨u,us,rfl,h1,h2⟩:=hL.cons_inv
 cases h1 with
 | agg _ xs e1 e2=>
  have hx:RelL G [a,.sl n cs .none] xs:=⟨e1,e2⟩
  obtain ⟨v,ys,rfl,x1,hx2⟩:=hx.cons_inv
  obtain ⟨w,zs,rfl,x2,hx3⟩:=hx2.cons_inv
  cases hx3.nil_inv
  cases x2 with
  | sl _ _ _ ad cap ws k1 k2 k3 k4 k5 k6=>
   obtain ⟨b,off,rfl⟩:∃b off,ad=some ⟨b,off,none⟩:=by
    rcases k5 with ⟨k5,_⟩|⟨b,off,k5,_⟩
    ·omega
    ·exact ⟨b,off,k5⟩
   obtain ⟨l1,H1⟩:=hH.dead ⟨b,off,cap,n,off+cs.length,off+cap * sz,false⟩
   have hsl:RelV (G.put σ.length 0 ⟨b,off,cap,n,off+cs.length,off+cap * sz,false⟩) (.sl n cs (.id σ.length 0 sz)) (.slice (some ⟨b,off,none⟩) n cap):=by
    refine RelV.sl n cs _ _ cap ws k1 (fun i a u ha hu=>(k2 i a u ha hu).mono l1) k3 k4 (k5.mono fun b o u hu=>l1.g _ _ _ hu) ?_
    exact ⟨_,Gh.put_self _ _ _ _,rfl,rfl,rfl,rfl,by simp⟩
   have hag:RelL (G.put σ.length 0 ⟨b,off,cap,n,off+cs.length,off+cap * sz,false⟩) (.agg [a,.sl n cs (.id σ.length 0 sz)]::rest) (.agg [v,.slice (some ⟨b,off,none⟩) n cap].toArray::us):=by
    have:RelL (G.put σ.length 0 ⟨b,off,cap,n,off+cs.length,off+cap * sz,false⟩) [a,.sl n cs (.id σ.length 0 sz)] [v,.slice (some ⟨b,off,none⟩) n cap]:=.cons (x1.mono l1) (.cons hsl (.nil _))
    exact .cons (RelV.agg _ _ this.1 this.2) (h2.mono l1)
   refine (H base _ h _ H1 hag).mono ?_
   rintro r h' ⟨G',a',σ',g1,g2,g3,g4⟩
   exact ⟨G',a',σ',l1.trans g1,g2,g3,g4⟩
end Go.Kx
