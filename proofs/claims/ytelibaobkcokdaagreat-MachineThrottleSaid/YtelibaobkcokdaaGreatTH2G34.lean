/- The machine's invariant: the end of an iteration, and of a loop. -/
import Derived.Test.YtelibaobkcokdaaGreatTH2G33
namespace Go.Proofs.YtelibaobkcokdaaGreat.Mx.In
set_option linter.unusedSectionVars false
set_option linter.unusedVariables false
set_option linter.unusedSimpArgs false
open Go Go.Kx Go.Proofs Go.Proofs.YtelibaobkcokdaaGreat Go.Proofs.YtelibaobkcokdaaGreat.Mx
set_option linter.unusedSectionVars false
section
variable {q:Pm} {m:Mc} {k:Nat} {n:Int} {P:Int→Pc} {H T:Nat→Int} {cl:Nat→Nat} {cn:Int→Int} {rg:Nat→Int} {pc:Int→Int→Int}
theorem Be.ends (h:Be q m k n P H T cl cn rg pc) (hs:(wkAt m.l k).state=14):Af q m k n (endsF q (wkAt m.l k,m.c)):=by have h14:(aRC q m.c m.l).st k=14:=hs;have hp:=h.nf eI eB;have hk:=h.ci.c16b k h.kW (.inr (.inr (.inr (.inr (.inl h14)))));have hx:=h.idx hp hk.1;have hi:=h.inF hx.1;have hn:=h.nn;have e1:aRC q (m.c.setW (stW m.c.ws (q.word (m.c.at (wkAt m.l k).holds).parent (m.c.at (wkAt m.l k).holds).index 0) 1048576)) m.l=aRC q m.c m.l:=rc_ct h.g.ok h.g.ws hi _ _;have e2:aDR q (m.c.setW (stW m.c.ws (q.word (m.c.at (wkAt m.l k).holds).parent (m.c.at (wkAt m.l k).holds).index 0) 1048576)) m.l=aDR q m.c m.l:=dr_wd h.g.ok h.g.ws hi _ ka ka _;have hL:Len m.c (m.c.setW (stW m.c.ws (q.word (m.c.at (wkAt m.l k).holds).parent (m.c.at (wkAt m.l k).holds).index 0) 1048576)):=Len.rf.w (Qk _ _ _);unfold endsF noteF checksF rtLook ringF;dsimp only;have hw:w64 ((m.c.at (wkAt m.l k).holds).index+1)=(m.c.at (wkAt m.l k).holds).index+1:=Q52 ka ka;have ea:∀(ev:Vt) (x:Int),((m.c.setW (stW m.c.ws (q.word (m.c.at (wkAt m.l k).holds).parent (m.c.at (wkAt m.l k).holds).index 0) 1048576)).note ev).at x=m.c.at x:=fun _ _=>rfl;rw[ea,hw,ea];refine h.sA 11 (h.ci.checks2 h.kW h14 1048576) ?_ e2 (hP0 P) (hL.n _) h.lim ka ko ⟨fun t _ ht=>(by cases ht;exact ⟨rfl,rfl⟩),fun _ e=>(by cases e),fun _ e=>(by cases e),fun _ e=>(by cases e)⟩;dsimp only;rw[Qq h.kl,rc_noteF _ _ _ rfl rfl rfl,e1];exact agp
theorem Be.closes (h:Be q m k n P H T cl cn rg pc) (hs:(wkAt m.l k).state=15):Af q m k n (closesF q (wkAt m.l k,m.c)):=by
 have h15:(aRC q m.c m.l).st k=15:=hs;have hp:=h.nf eI eB;obtain ⟨t,et⟩:=h.ok.wake hs;have ewa:(aRC q m.c m.l).wa k=t:=by show (wkAt m.l k).wake.getD tw0=t;rw[et];rfl
 obtain ⟨g1,g2⟩:=h.vr.2.2.1 t hs et;have hk:=h.ci.c16b k h.kW (.inr (.inr (.inr (.inr (.inr (.inl h15))))));have hx:=h.idx hp hk.1;have hc:=h.ci.c14 k h.kW h15;rw[ewa] at hc;obtain ⟨d1,d2,d3,d4⟩:=hc;have d1':t.r.id=(m.c.at (wkAt m.l k).holds).parent:=d1;have d2':t.r.serial=(m.c.at (m.c.at (wkAt m.l k).holds).parent).serial:=d2;have d3':t.it=(m.c.at (wkAt m.l k).holds).index:=d3;have hpl:P t.r.id≠.free:=by rw[d1'];exact hx.1
 have hi:=h.inF hpl;have hn:=h.nn;have hS:=h.sr;have hser:=(h.ci.f3 _ hx.1 hx.2.1).2.2.1;have hser':1≤t.r.serial∧t.r.serial≤m.c.serial:=by rw[d2'];exact hser
 have hpo:=h.ho eI eB
 have hnd:nd (P (wkAt m.l k).holds)=true:=by
  rw[hpo,hs];unfold ht;split
  ·rfl
  ·split<;>rfl
 have hvr:∀t':Tw,t'.over=false→t'.won=false→Vr q { wkAt m.l k with wake:=some t' }:=fun t' o1 o2=>⟨fun _ e=>(by rw[show (wkAt m.l k).state=11 from e] at hs;cases hs),fun _ e=>(by rw[show (wkAt m.l k).state=13 from e] at hs;cases hs),fun _ _ e=>(by cases e;exact ⟨o1,o2⟩),fun _ e=>(by rw[show (wkAt m.l k).state=20 from e] at hs;cases hs)⟩
 have hend:∀t':Tw,t'.over=true→t'.won=false→1≤t.at_→wakeStep q t m.c.ws=(t',m.c.ws)→Af q m k n (closesF q (wkAt m.l k,m.c)):=by
  intro t' o1 o2 o3 o4;have o3':1≤((aRC q m.c m.l).wa k).at_:=by rw[ewa];exact o3
  unfold closesF;dsimp only;rw[et];dsimp only;simp only[o4];rw[o1,if_pos rfl,o2,Z00];refine h.sA 16 (h.ci.wakeEnd h.kW h15 o3') ?_ rfl (hP0 P) Len.rf h.lim ka ko (QL (s:=16) ko);dsimp only;rw[Qq h.kl];exact agp
 rcases d4 with d4|d4|d4
 ·have d4':((aRC q m.c m.l).wa k).at_=0:=by rw[ewa];exact d4
  have e4:wakeStep q t m.c.ws=(t.go t.looks,stW m.c.ws (q.word t.r.id t.it 3) (tokF t.r.serial t.it 0)):=by unfold wakeStep;rw[g1,if_neg ko,if_pos d4]
  have hat:(t.go t.looks).at_=1:=by unfold Tw.go;dsimp only;rw[d4];rfl
  have hv:(t.go t.looks).r=((aRC q m.c m.l).wa k).r∧(t.go t.looks).it=((aRC q m.c m.l).wa k).it∧(t.go t.looks).at_=1:=by rw[ewa];exact ⟨rfl,rfl,hat⟩
  have hI:∀i,0≤i→i < 1000000→tokF ((aRC q m.c m.l).wa k).r.serial i 0=tokF ((aRC q m.c m.l).wa k).r.serial ((aRC q m.c m.l).wa k).it 0→i=((aRC q m.c m.l).wa k).it:=by rw[ewa];intro i i0 i1 e;exact (Jh ka ka i0 i1 ka ka ka ka ka ka ka ka e).2.1
  have C:=h.ci.wake0 h.kW h15 d4' _ (by show m.c.serial < _;omega) hv hI;have e5:=rc_dn (l:=m.l) h.g.ok h.g.ws hi t.it (tokF t.r.serial t.it 0);have e6:aDR q (m.c.setW (stW m.c.ws (q.word t.r.id t.it 3) (tokF t.r.serial t.it 0))) m.l=aDR q m.c m.l:=dr_wd h.g.ok h.g.ws hi _ ka ka _;have hL:Len m.c (m.c.setW (stW m.c.ws (q.word t.r.id t.it 3) (tokF t.r.serial t.it 0))):=Len.rf.w (Qk _ _ _);unfold closesF;dsimp only;rw[et];dsimp only;simp only[e4]
  cases hlk:t.looks with
  | true=>rw[hlk] at C hat hv;rw[if_neg (by show ¬(!true)=true;decide)];refine h.sA 15 C ?_ e6 (hPu (hP0 P) _ hnd) hL h.lim ka ko (hvr _ rfl g2) hs (hgs:=fun ha=>h.gs ha);dsimp only;rw[Qq h.kl,e5,ewa];exact agp
  | false=>rw[hlk] at C hat hv;have C2:=C.wakeEnd h.kW h15 (by show 1≤(upd (aRC q m.c m.l).wa k (t.go false) k).at_;unfold upd;rw[if_pos rfl,hat];exact Int.le_refl _);rw[if_pos (by show (!false)=true;rfl)];refine h.sA 16 C2 ?_ e6 (hPu (hP0 P) _ hnd) hL h.lim ka ko (QL (s:=16) ko);dsimp only;rw[Qq h.kl,e5,ewa];have e7:(t.go false).won=false:=g2;rw[e7];exact agp
 ·by_cases c:ldW m.c.ws (q.nap t.r.id)=tokF t.r.serial t.it 0
  ·have e4:wakeStep q t m.c.ws=(t.go true,m.c.ws):=by unfold wakeStep;rw[g1,if_neg ko,if_neg ka,if_pos d4,decide_eq_true c]
   have d4':((aRC q m.c m.l).wa k).at_=1:=by rw[ewa];exact d4
   have hat:(t.go true).at_=2:=by unfold Tw.go;dsimp only;rw[d4];rfl
   have hv:(t.go true).r=((aRC q m.c m.l).wa k).r∧(t.go true).it=((aRC q m.c m.l).wa k).it∧(t.go true).at_=2:=by rw[ewa];exact ⟨rfl,rfl,hat⟩
   unfold closesF;dsimp only;rw[et];dsimp only;simp only[e4];rw[if_neg (by show ¬(!true)=true;decide),Z00];refine h.sA 15 (h.ci.wake1 h.kW h15 d4' _ hv) ?_ rfl (hP0 P) Len.rf h.lim ka ko (hvr _ rfl g2) hs (hgs:=fun ha=>h.gs ha);dsimp only;rw[Qq h.kl];exact agp
  ·exact hend (t.go false) rfl g2 ka (by unfold wakeStep;rw[g1,if_neg ko,if_neg ka,if_pos d4,decide_eq_false c])
 ·by_cases c:ldW m.c.ws (q.nap t.r.id)=tokF t.r.serial t.it 0
  ·have e4:wakeStep q t m.c.ws=({ t with won:=true,over:=true },stW m.c.ws (q.nap t.r.id) 0):=by unfold wakeStep rouse swW;rw[g1,if_neg ko,if_neg ka,if_neg ka,if_pos c]
   have hnp:P t.r.id=.nap:=(h.ci.w4 t.r.id (by rw[←nap_ld (l:=m.l) (s:=m.c) h.g.ok hi,c];exact Y16 hser'.1)).1;have hnp':P ((aRC q m.c m.l).fr ((aRC q m.c m.l).ho k)).parent=.nap:=by rw[←hnp,d1'];rfl
   have o3':1≤((aRC q m.c m.l).wa k).at_:=by rw[ewa];omega
   unfold closesF;dsimp only;rw[et];dsimp only;simp only[e4];rw[if_pos trivial];refine h.sA 16 (h.ci.wakeGot h.kW h15 o3' hnp') ?_ (dr_nap h.g.ok h.g.ws hi _) (hPu (hP0 P) _ (by rw[hnp'];rfl)) (Len.rf.w (Qk _ _ _)) h.lim ka ko (QL (s:=16) ko);dsimp only;rw[Qq h.kl,rc_nap h.g.ok h.g.ws hi,d1'];exact agp
  ·exact hend { t with won:=false,over:=true } rfl rfl ka (by unfold wakeStep rouse swW;rw[g1,if_neg ko,if_neg ka,if_neg ka,if_neg c])
theorem X61 (s:Cs) (id:Int):(s.free id).ws=s.ws:=by unfold Cs.free;split<;>rfl
theorem rc_fJ (ok:q.Ok) {s:Cs} {l:List Wk} (hw:(s.ws.length:Int)=q.size) {id l':Int} (hh:s.isHeld id=true) (hl:1≤l'∧l'≤q.F) (v:Int):
  aRC q ((s.free id).setW (stW s.ws (q.frame l') v)) l={ aRC q s l with us:=updI (aRC q s l).us id false,fr:=updI (aRC q s l).fr id (feOf fm0),J:=updI (aRC q s l).J l' v }:=by
 rw[←X61 s id,rc_J ok (by rw[X61];exact hw) hl,rc_free hh]
theorem XD {P:Int→Pc} {f:Int→Fe} {a:Int} {v:Fe} (e:P a=.free):∀id,P id≠.free→updI f a v id=f id:=by intro id hid;unfold updI;rw[if_neg];intro c;exact hid (by rw[c];exact e)
theorem Be.drop (h:Be q m k n P H T cl cn rg pc) (hs:(wkAt m.l k).state=16):Af q m k n (dropF q (wkAt m.l k,m.c)):=by
 have h16:(aRC q m.c m.l).st k=16:=hs;have hne:=h.ne eI eB;have hp:=h.nf eI eB;have hpo:P (wkAt m.l k).holds=.own k .lt:=by have:=h.ho eI eB;rw[hs] at this;exact this
 have hh:=h.held hp;have hk:=h.ci.c16b k h.kW (.inr (.inr (.inr (.inr (.inr (.inr h16))))));have hk2:(m.c.at (wkAt m.l k).holds).kind=2:=hk.1;have hx:=h.idx hp hk.1;have hcn0:cn ((aRC q m.c m.l).ho k)=0:=h.ci.h1 _ hp (by show (m.c.at (wkAt m.l k).holds).kind≠3;rw[hk2];decide) hk.2;have hz:=h.ci.hz h.g.ni h.kl hne (by rw[h16];decide) hcn0;have hc17:=h.ci.c17 k h.kW (.inr (.inr (.inl h16)));have hf9:(m.c.at (wkAt m.l k).holds).stage=0→P (m.c.at (wkAt m.l k).holds).parent=.below (wkAt m.l k).holds:=fun a=>(h.ci.f9 _ hp hk.1 a (by rw[hpo];rfl)).1;have hfx:(m.c.at (wkAt m.l k).holds).stage=0→(m.c.at (wkAt m.l k).holds).index=((aRC q m.c m.l).fr (m.c.at (wkAt m.l k).holds).parent).started - 1:=fun a=>(h.ci.f9 _ hp hk.1 a (by rw[hpo];rfl)).2;have hc12:=h.ci.c12 k h.kW (.inr h16);have hc13:(wkAt m.l k).eWoken=true→P (m.c.at (wkAt m.l k).holds).parent=.own k .wok:=h.ci.c13 k h.kW h16;unfold dropF;dsimp only;rw[X61,h.jl hx.1];dsimp only;have hl:((aRC q m.c m.l).fr ((aRC q m.c m.l).ho k)).parent=(m.c.at (wkAt m.l k).holds).parent:=rfl;have hln:(m.c.at (wkAt m.l k).holds).parent≠(wkAt m.l k).holds:=fun e=>by have:=hx.2.1;rw[e,hk2] at this;cases this
 have hl3:=hx.2.1;have hpl:=hx.1;have hi:=h.inF hx.1;have hhl:=h.held hx.1;have hJ:=h.Jb hx.1;generalize (m.c.at (wkAt m.l k).holds).parent=l at hl hln hl3 hpl hi hJ hhl hf9 hfx hc13 ⊢;have hc1:1≤cn l:=h.g.ni.child (by have:=hi.1;omega) hp (by rw[hpo];rfl) (by show (m.c.at (wkAt m.l k).holds).kind≠3;rw[hk2];decide) hl;have eR:=rc_fJ (l:=m.l) h.g.ok h.g.ws hh hi ((aRC q m.c m.l).J l - 1);have eD:aDR q ((m.c.free (wkAt m.l k).holds).setW (stW m.c.ws (q.frame l) ((aRC q m.c m.l).J l - 1))) m.l=aDR q m.c m.l:=by rw[←X61 m.c (wkAt m.l k).holds,dr_J h.g.ok (by rw[X61];exact h.g.ws) hi,dr_free]
 have eL:Len m.c ((m.c.free (wkAt m.l k).holds).setW (stW m.c.ws (q.frame l) ((aRC q m.c m.l).J l - 1))):=(Len.rf.e _).w (by rw[Qk,X61]);have hnd:nd (P ((aRC q m.c m.l).ho k))=true:=by show nd (P (wkAt m.l k).holds)=true;rw[hpo];rfl
 generalize (m.c.free (wkAt m.l k).holds).setW (stW m.c.ws (q.frame l) ((aRC q m.c m.l).J l - 1))=s2 at eR eD eL ⊢;have hPf:updI P ((aRC q m.c m.l).ho k) .free (wkAt m.l k).holds=.free:=if_pos rfl;have hPf2:∀(a:Int) (x:Pc),a≠(wkAt m.l k).holds→updI (updI P ((aRC q m.c m.l).ho k) .free) a x (wkAt m.l k).holds=.free:=fun a x ha=>by have:updI (updI P ((aRC q m.c m.l).ho k) .free) a x (wkAt m.l k).holds=updI P ((aRC q m.c m.l).ho k) .free (wkAt m.l k).holds:=if_neg fun e=>ha e.symm;rw[this];exact hPf
 split
 ·rename_i c;have hpb:=hf9 (hc17.1 c.1);have hpx:=hfx (hc17.1 c.1);refine h.sA 17 (h.ci.dropFin h.kW h16 hc1 hl hz hpb hpx) ?_ eD (hPu (hPu (hP0 P) _ hnd) _ (by rw[hpb];rfl)) eL h.lim ka ko (QL (s:=17) ko);dsimp only;rw[Qq h.kl,eR];constructor<;>try first|rfl|exact Qg _ _|exact (Z46 _ _ _ _).symm|(intro _ _;rfl)|(intro j _;exact congrFun (Qg _ _) j)|(intro j hj;by_cases c:j=k;(rw[c] at hj;simp[upd] at hj);simp[upd,c];done)
  exact XD (hPf2 l _ hln)
 rename_i c1;split
 ·rename_i c;have hpb:=hf9 (hc17.1 c);have hpx:=hfx (hc17.1 c);refine h.sA 19 (h.ci.dropHeld h.kW h16 hc1 hl hz hpb hpx) ?_ eD (hPu (hPu (hP0 P) _ hnd) _ (by rw[hpb];rfl)) eL h.lim ka ko (QL (s:=19) ko);dsimp only[Wk.loops];rw[Qq h.kl,eR];constructor<;>try first|rfl|exact Qg _ _|exact (Z46 _ _ _ _).symm|(intro _ _;rfl)|(intro j _;exact congrFun (Qg _ _) j)|(intro j hj;by_cases c:j=k;(rw[c] at hj;simp[upd] at hj);simp[upd,c];done)
  exact XD (hPf2 l _ hln)
 rename_i c2;split
 ·rename_i c;have c':(aRC q m.c m.l).J l=1:=of_decide_eq_true c;have ht:=Jg (P l);have ht0:tokc (P l)=0:=by omega
  have hcl:cn l=1:=by omega
  have hpf:P l=.fin:=by
   have g3:=h.ci.g3 l;have g7:=h.ci.g7 l
   cases e:P l with
   | fin=>rfl
   | sync=>exact absurd hl3 (g3 e)
   | own j t=>
    rw[e] at ht0
    cases t with
    | jn=>have:=g7 j e;omega
    | _=>cases ht0
   | _=>rw[e] at ht0;cases ht0
  refine h.sA 18 (h.ci.dropLast h.kW h16 hc1 hl hz hpf hcl) ?_ eD (hPu (hPu (hP0 P) _ hnd) _ (by rw[hpf];rfl)) eL h.lim ka ko (QL (s:=18) ko);dsimp only;rw[Qq h.kl,eR];constructor<;>try first|rfl|exact Qg _ _|exact (Z46 _ _ _ _).symm|(intro _ _;rfl)|(intro j _;exact congrFun (Qg _ _) j)|(intro j hj;by_cases c:j=k;(rw[c] at hj;simp[upd] at hj);simp[upd,c];done)
  exact XD (hPf2 l _ hln)
 have hfr:∀x,x≠(wkAt m.l k).holds→(s2.at x).kind=(m.c.at x).kind:=fun x hx=>by
  have:(aRC q s2 m.l).fr x=(aRC q m.c m.l).fr x:=by rw[eR];exact if_neg hx
  exact congrArg Fe.kind this
 have hus:∀x,x≠(wkAt m.l k).holds→s2.isHeld x=m.c.isHeld x:=fun x hx=>by
  have:(aRC q s2 m.l).us x=(aRC q m.c m.l).us x:=by rw[eR];exact if_neg hx
  exact this
 unfold nextF;dsimp only
 have hR:(wkAt m.l k).eRight≠0→P (wkAt m.l k).eRight=.own k .rgt∧(m.c.at (wkAt m.l k).eRight).kind=2:=fun e=>by
  rcases hc12 with x|x
  ·exact absurd x e
  ·exact x
 have hRn:(wkAt m.l k).eRight≠0→(wkAt m.l k).eRight≠(wkAt m.l k).holds:=fun e x=>by have:=(hR e).1;rw[x,hpo] at this;cases this
 split
 ·rename_i c;have he:(wkAt m.l k).eRight≠0:=by omega
  have hp2:=hc13 c.2;have hpr:P ((aRC q m.c m.l).eR k)=.own k .rgt:=(hR he).1;refine h.sU (id:=l) (h.ci.dropBoth h.kW h16 hc1 hl hz c.2 he) ?_ eD (hPu (hPu (hPu (hP0 P) _ hnd) _ (by rw[hp2];rfl)) _ (by rw[hpr];rfl)) eL h.lim ka rfl;dsimp only[Wk.pushes];rw[Qq h.kl,eR];constructor<;>try first|rfl|exact Qg _ _|exact (Z46 _ _ _ _).symm|(intro _ _;rfl)|(intro j _;exact congrFun (Qg _ _) j)|(intro j hj;by_cases c:j=k;(rw[c] at hj;simp[upd] at hj);simp[upd,c];done)
  refine XD ?_;have:updI (updI (updI P ((aRC q m.c m.l).ho k) .free) l (.own k .psh)) ((aRC q m.c m.l).eR k) (.own k .oth) (wkAt m.l k).holds=updI (updI P ((aRC q m.c m.l).ho k) .free) l (.own k .psh) (wkAt m.l k).holds:=if_neg fun e=>hRn he e.symm;rw[this];exact hPf2 l _ hln
 split
 ·rename_i c;have he:(wkAt m.l k).eRight≠0:=by omega
  have hpr:P ((aRC q m.c m.l).eR k)=.own k .rgt:=(hR he).1;have et:({ wkAt m.l k with holds:=0 }:Wk).takes s2 (wkAt m.l k).eRight=({ wkAt m.l k with holds:=0 }:Wk).runs (wkAt m.l k).eRight:=by unfold Wk.takes;rw[if_neg];rw[hfr _ (hRn he),(hR he).2];omega
  rw[et];refine h.sA 4 (h.ci.dropRight h.kW h16 hc1 hl hz he) ?_ eD (hPu (hPu (hP0 P) _ hnd) _ (by rw[hpr];rfl)) eL h.lim ka ko (QL (s:=4) ko);dsimp only[Wk.runs];rw[Qq h.kl,eR];constructor<;>try first|rfl|exact Qg _ _|exact (Z46 _ _ _ _).symm|(intro _ _;rfl)|(intro j _;exact congrFun (Qg _ _) j)|(intro j hj;by_cases c:j=k;(rw[c] at hj;simp[upd] at hj);simp[upd,c];done)
  exact XD (hPf2 _ _ (hRn he))
 split
 ·rename_i c;have hp2:=hc13 c;have et:({ wkAt m.l k with holds:=0 }:Wk).takes s2 l=({ wkAt m.l k with holds:=0 }:Wk).loops l:=by unfold Wk.takes;rw[if_pos];exact ⟨by rw[hus _ hln];exact hhl,by rw[hfr _ hln];exact hl3⟩
  rw[et];refine h.sA 19 (h.ci.dropLoop h.kW h16 hc1 hl hz c) ?_ eD (hPu (hPu (hP0 P) _ hnd) _ (by rw[hp2];rfl)) eL h.lim ka ko (QL (s:=19) ko);dsimp only[Wk.loops];rw[Qq h.kl,eR];constructor<;>try first|rfl|exact Qg _ _|exact (Z46 _ _ _ _).symm|(intro _ _;rfl)|(intro j _;exact congrFun (Qg _ _) j)|(intro j hj;by_cases c:j=k;(rw[c] at hj;simp[upd] at hj);simp[upd,c];done)
  exact XD (hPf2 _ _ hln)
 ·refine h.sP (h.ci.dropGo h.kW h16 hc1 hl hz) ?_ eD (hPu (hP0 P) _ hnd) eL h.lim ka;dsimp only[Wk.goes];rw[Qq h.kl,eR];constructor<;>try first|rfl|exact Qg _ _|exact (Z46 _ _ _ _).symm|(intro _ _;rfl)|(intro j _;exact congrFun (Qg _ _) j)|(intro j hj;by_cases c:j=k;(rw[c] at hj;simp[upd] at hj);simp[upd,c];done)
  exact XD hPf
theorem Be.finish (h:Be q m k n P H T cl cn rg pc) (hs:(wkAt m.l k).state=17):Af q m k n (finishF q (wkAt m.l k,m.c)):=by
 have h17:(aRC q m.c m.l).st k=17:=hs;obtain ⟨c0,c1⟩:=h.ci.c4 k h.kW h17;have c0':P (wkAt m.l k).other=.own k .oth:=c0;have hp:P (wkAt m.l k).other≠.free:=by rw[c0'];exact fun e=>by cases e
 have hi:=h.inF hp;have h0:(wkAt m.l k).holds=0:=h.ci.c2 k h.kW (by rw[h17];rfl);unfold finishF;dsimp only;rw[h.jl hp];dsimp only;split
 ·rename_i c;have c':(aRC q m.c m.l).J ((aRC q m.c m.l).ot k)=1:=of_decide_eq_true c;refine h.sA 18 (h.ci.finLast h.kW h17 c') ?_ (dr_J h.g.ok h.g.ws hi _) (hPu (hP0 P) _ (by rw[c0];rfl)) (Len.rf.w (Qk _ _ _)) h.lim ka ko (QL (s:=18) ko);dsimp only;rw[Qq h.kl,rc_J h.g.ok h.g.ws hi];exact agp
 ·refine h.sP (h.ci.finNot h.kW h17) ?_ (dr_J h.g.ok h.g.ws hi _) (hPu (hP0 P) _ (by rw[c0];rfl)) (Len.rf.w (Qk _ _ _)) h.lim ka;dsimp only[Wk.goes];rw[Qq h.kl,rc_J h.g.ok h.g.ws hi];have e0:upd (aRC q m.c m.l).ho k 0=(aRC q m.c m.l).ho:=by rw[←h0];exact Qg _ _
  dsimp only;rw[e0];exact agp
theorem Be.complete (h:Be q m k n P H T cl cn rg pc) (hs:(wkAt m.l k).state=18):Af q m k n (completeF (wkAt m.l k,m.c)):=by
 have h18:(aRC q m.c m.l).st k=18:=hs;have hne:=h.ne eI eB;have hp:=h.nf eI eB;have hpo:P (wkAt m.l k).holds=.own k .jn:=by have:=h.ho eI eB;rw[hs] at this;exact this
 have hh:=h.held hp;have hk3:=h.ci.c16c k h.kW (.inl h18);have hf3:=h.ci.f3 _ hp hk3;have hcn0:cn ((aRC q m.c m.l).ho k)=0:=h.ci.g7 _ k hpo;have hz:=h.ci.hz h.g.ni h.kl hne (by rw[h18];decide) hcn0;have hl:((aRC q m.c m.l).fr ((aRC q m.c m.l).ho k)).parent=(m.c.at (wkAt m.l k).holds).parent:=rfl;have hpp:P (m.c.at (wkAt m.l k).holds).parent=.pipe (wkAt m.l k).holds:=hf3.1;have hpn:(m.c.at (wkAt m.l k).holds).parent≠(wkAt m.l k).holds:=fun e=>by rw[e,hpo] at hpp;cases hpp
 unfold completeF;dsimp only;have e1:∀(ev:Vt) (g:List Int),ev.kind=5→aRC q ((m.c.note ev).setFr (m.c.at (wkAt m.l k).holds).parent { (m.c.note ev).at (m.c.at (wkAt m.l k).holds).parent with regs:=g }) m.l=aRC q m.c m.l:=fun ev g hv=>(Ji (s:=m.c.note ev) h.g.hl _ _).trans (Y80 _ _ _ (.inr hv));have e2:∀(ev:Vt) (g:List Int),aDR q ((m.c.note ev).setFr (m.c.at (wkAt m.l k).holds).parent { (m.c.note ev).at (m.c.at (wkAt m.l k).holds).parent with regs:=g }) m.l=aDR q m.c m.l:=fun ev g=>QT _ _;have e3:∀(ev:Vt) (g:List Int),Len m.c ((m.c.note ev).setFr (m.c.at (wkAt m.l k).holds).parent { (m.c.note ev).at (m.c.at (wkAt m.l k).holds).parent with regs:=g }):=fun ev g=>(Len.rf.n ev).f _ _;have e4:=e1 ⟨5,(m.c.at (wkAt m.l k).holds).serial,(m.c.at (wkAt m.l k).holds).started,0⟩ (m.c.at (wkAt m.l k).holds).regs rfl;have e5:=e2 ⟨5,(m.c.at (wkAt m.l k).holds).serial,(m.c.at (wkAt m.l k).holds).started,0⟩ (m.c.at (wkAt m.l k).holds).regs;have e6:=e3 ⟨5,(m.c.at (wkAt m.l k).holds).serial,(m.c.at (wkAt m.l k).holds).started,0⟩ (m.c.at (wkAt m.l k).holds).regs;clear e1 e2 e3;generalize (m.c.note ⟨5,(m.c.at (wkAt m.l k).holds).serial,(m.c.at (wkAt m.l k).holds).started,0⟩).setFr (m.c.at (wkAt m.l k).holds).parent { (m.c.note ⟨5,(m.c.at (wkAt m.l k).holds).serial,(m.c.at (wkAt m.l k).holds).started,0⟩).at (m.c.at (wkAt m.l k).holds).parent with regs:=(m.c.at (wkAt m.l k).holds).regs }=s2 at e4 e5 e6 ⊢;have hh2:s2.isHeld (wkAt m.l k).holds=true:=by rw[←hh];exact congrFun (congrArg RC.us e4) _
 generalize (m.c.at (wkAt m.l k).holds).parent=p at hl hpp hpn ⊢;refine h.sA 4 (h.ci.complete h.kW h18 hl hz) ?_ ((dr_free _).trans e5) (hPu (hPu (hP0 P) _ oC) _ (by rw[hpp];rfl)) (e6.e _) h.lim ka ko (QL (s:=4) ko);dsimp only[Wk.runs];rw[Qq h.kl,rc_free hh2,e4];constructor<;>try first|rfl|exact Qg _ _|exact (Z46 _ _ _ _).symm|(intro _ _;rfl)|(intro j _;exact congrFun (Qg _ _) j)|(intro j hj;by_cases c:j=k;(rw[c] at hj;simp[upd] at hj);simp[upd,c];done)
 refine XD ?_;have:updI (updI P ((aRC q m.c m.l).ho k) .free) p (.own k .hold) (wkAt m.l k).holds=updI P ((aRC q m.c m.l).ho k) .free (wkAt m.l k).holds:=if_neg fun e=>hpn e.symm;rw[this];exact if_pos rfl
end
section
variable {q:Pm} {m:Mc} {k:Nat} {n:Int} {P:Int→Pc} {H T:Nat→Int} {cl:Nat→Nat} {cn:Int→Int} {rg:Nat→Int} {pc:Int→Int→Int}
theorem mk_of {p:Pc} (h:isMk p=true):∃k,p=.own k .mk:=by
 cases p with
 | own k t=>cases t<;>first|exact ⟨k,rfl⟩|cases h
 | _=>cases h
theorem Be.start (h:Be q m k n P H T cl cn rg pc) (hs:(wkAt m.l k).state=19∨(wkAt m.l k).state=21)
  (hws:∀c,P c≠.free→((aRC q m.c m.l).fr c).kind=2→((aRC q m.c m.l).fr c).parent=(wkAt m.l k).holds→isLt (P c)=false→(m.c.at (wkAt m.l k).holds).started - q.T < ((aRC q m.c m.l).fr c).index) (hL:(wkAt m.l k).state=19→(m.c.at (wkAt m.l k).holds).started - q.T < 0):Af q m k n (startF q (wkAt m.l k,m.c)):=by
 have he:emp (wkAt m.l k).state=false:=by rcases hs with e|e<;>rw[e]<;>rfl
 have h3:(wkAt m.l k).state≠3:=by omega
 have hne:=h.ne he h3;have hp:=h.nf he h3;have hpo:P (wkAt m.l k).holds=.own k .hold:=by have:=h.ho he h3;rw[this];rcases hs with e|e<;>rw[e]<;>rfl
 have hh:=h.held hp;have hk3:(m.c.at (wkAt m.l k).holds).kind=3:=h.ci.c16c k h.kW (by rcases hs with e|e;exact .inr (.inl e);exact .inr (.inr (.inl e)));have hf3:=h.ci.f3 _ hp hk3;have hst0:0≤(m.c.at (wkAt m.l k).holds).started:=hf3.2.2.2;have hsd:=h.sd (wkAt m.l k).holds;have hn:=h.nn;have hT:=h.g.ok.2.1
 have hqs:∀c,P c≠.free→((aRC q m.c m.l).fr c).kind=2→((aRC q m.c m.l).fr c).parent=(aRC q m.c m.l).ho k→isLt (P c)=false→((aRC q m.c m.l).fr c).stage≠0:=by
  intro c c1 c2 c3 c4 c5
  cases hm:isMk (P c) with
  | true=>
   obtain ⟨j,ej⟩:=mk_of hm;obtain ⟨a1,a2,a3⟩:=h.ci.g8 c j ej;rcases a2 with a2|a2
   ·have:=(h.ci.c7 j a1 a2).2.1;rw[a3,c2] at this;cases this
   ·have b:=(h.ci.c7b j a1 a2).2.2.2.1;rw[a3,c3] at b;have hne':(aRC q m.c m.l).ho k≠0:=hne;have b1:=h.ci.c1 j a1 (by rw[←b];exact hne);rw[←b] at b1;have b2:P ((aRC q m.c m.l).ho k)=.own k .hold:=hpo;rw[b2] at b1;injection b1 with b3;subst b3;have a2':(wkAt m.l k).state=22∨(wkAt m.l k).state=23∨(wkAt m.l k).state=24:=a2;omega
  | false=>have b:=(h.ci.f9 c c1 c2 c5 hm).1;rw[c3] at b;have b2:P ((aRC q m.c m.l).ho k)=.own k .hold:=hpo;rw[b2] at b;cases b
 have hD:(aRC q m.c m.l).dn ((aRC q m.c m.l).ho k) (sR q ((aRC q m.c m.l).fr ((aRC q m.c m.l).ho k)).started)≠tokF ((aRC q m.c m.l).fr ((aRC q m.c m.l).ho k)).serial ((aRC q m.c m.l).fr ((aRC q m.c m.l).ho k)).started 0:=fun e=>absurd (h.ci.w3 ((aRC q m.c m.l).ho k) ((aRC q m.c m.l).fr ((aRC q m.c m.l).ho k)).started hp hk3 hst0 (by show (m.c.at (wkAt m.l k).holds).started < _;omega) e) (Int.lt_irrefl _);have hb:((aRC q m.c m.l).fr ((aRC q m.c m.l).ho k)).started+1 < 1000000:=by show (m.c.at (wkAt m.l k).holds).started+1 < _;omega
 have hw:w64 ((m.c.at (wkAt m.l k).holds).started+1)=(m.c.at (wkAt m.l k).holds).started+1:=Q52 ka ka;unfold startF;dsimp only;rw[hw]
 cases e:makeF q m.c ⟨2,(m.c.at (wkAt m.l k).holds).fn,0,(m.c.at (wkAt m.l k).holds).regs,(wkAt m.l k).holds,false,false,(m.c.at (wkAt m.l k).holds).started,0,0,0,0⟩ with
 | mk o s'=>
  cases o with
  | none=>dsimp only;rw[X60 e];exact h.nop (Q92 _ _ _ _) (Q67 _ _ _ _) (Len.rf.p _ _)
  | some id=>
   dsimp only;obtain ⟨hi,hf⟩:=h.made rfl rfl rfl e;have hid:(wkAt m.l k).holds≠id:=fun x=>hp (by rw[x];exact hf);have e1:=J2 (l:=m.l) h.g.ok h.g.ws h.g.hl h.g.ar.hl hi e;have hx:=(Len.rf (s:=m.c)).m e
   have hh':s'.isHeld (wkAt m.l k).holds=true:=by
    have:(aRC q s' m.l).us (wkAt m.l k).holds=true:=by rw[e1];show updI _ _ _ _=true;unfold updI;rw[if_neg hid];exact hh
    exact this
   refine h.sA 22 (h.ci.start h.kW hs hf ka hws hT.1 hb hqs hD ka hL) ?_ ((Jj _ _ _ _ _).trans (J1 h.g.ok h.g.ws hi e)) (hPu (hP0 P) _ (by rw[hf];rfl)) (hx.i _ _ _) ⟨h.lim.1,by dsimp only;exact limU (limU h.lim.2 _ (by show (m.c.at (wkAt m.l k).holds).started+1≤_;omega)) _ (by show (0:Int)≤_;omega)⟩ ka ko (QL (s:=22) ko) (hst:=fun x _ h2=>(st_new hf _ x h2).trans (st_set (aRC q m.c m.l).fr (wkAt m.l k).holds (v:={ (aRC q m.c m.l).fr (wkAt m.l k).holds with started:=(m.c.at (wkAt m.l k).holds).started+1 }) rfl x));have es:s'.setIf (m.c.isHeld (wkAt m.l k).holds) (wkAt m.l k).holds { m.c.at (wkAt m.l k).holds with started:=(m.c.at (wkAt m.l k).holds).started+1 }=s'.setFr (wkAt m.l k).holds { m.c.at (wkAt m.l k).holds with started:=(m.c.at (wkAt m.l k).holds).started+1 }:=by rw[hh];rfl
   dsimp only;rw[es,Qq h.kl,X42 (by rw[hx.he,hx.fr];exact h.g.hl) hh',e1]
   have ef:updI (updI (aRC q m.c m.l).fr id (feOf ⟨2,(m.c.at (wkAt m.l k).holds).fn,0,(m.c.at (wkAt m.l k).holds).regs,(wkAt m.l k).holds,false,false,(m.c.at (wkAt m.l k).holds).started,0,0,0,0⟩)) (wkAt m.l k).holds (feOf { m.c.at (wkAt m.l k).holds with started:=(m.c.at (wkAt m.l k).holds).started+1 })=updI (updI (aRC q m.c m.l).fr (wkAt m.l k).holds { (aRC q m.c m.l).fr (wkAt m.l k).holds with started:=(m.c.at (wkAt m.l k).holds).started+1 }) id ⟨2,(wkAt m.l k).holds,false,(m.c.at (wkAt m.l k).holds).started,0,0,0⟩:=by
    funext i;unfold updI;by_cases c1:i=(wkAt m.l k).holds
    ·rw[if_pos c1,if_neg (by rw[c1];exact hid),if_pos c1];rfl
    ·rw[if_neg c1,if_neg c1];rfl
   rw[ef];exact agp
theorem Be.start21 (h:Be q m k n P H T cl cn rg pc) (hs:(wkAt m.l k).state=21):Af q m k n (startF q (wkAt m.l k,m.c)):=
 h.start (.inr hs) (fun c c1 c2 c3 c4=>h.ci.c18 k h.kW hs c c1 c2 c3 c4) fun e=>by rw[hs] at e;cases e
theorem Be.told (h:Be q m k n P H T cl cn rg pc) {l it ser:Int} (hp:P l≠.free) (hk:(m.c.at l).kind=3) (hser:(m.c.at l).serial=ser) (e:endedR q ⟨l,ser⟩ m.c.ws it=true):∀c,P c≠.free→((aRC q m.c m.l).fr c).kind=2→((aRC q m.c m.l).fr c).parent=l→((aRC q m.c m.l).fr c).index=it→isLt (P c)=true:=by intro c c1 c2 c3 c4;refine h.ci.w3b c c1 c2 ?_;have e':ldW m.c.ws (q.word l it 3)=tokF ser it 0:=of_decide_eq_true e;rw[dn_ld (l:=m.l) h.g.ok (h.inF hp)] at e';rw[c3,c4,e',←hser];rfl
theorem Be.toldF (h:Be q m k n P H T cl cn rg pc) {l it ser:Int} (hi:1≤l∧l≤q.F) (hs:1≤ser∧ser < 1000000) (h0:0≤it∧it < 1000000) (e:endedR q ⟨l,ser⟩ m.c.ws it=true):(aRC q m.c m.l).fin ser it=true:=by have e':ldW m.c.ws (q.word l it 3)=tokF ser it 0:=of_decide_eq_true e;rw[dn_ld (l:=m.l) h.g.ok hi] at e';exact h.g.hv.v2 _ _ _ _ hs.1 hs.2 h0.1 h0.2 e'
theorem Be.loop (h:Be q m k n P H T cl cn rg pc) (hs:(wkAt m.l k).state=19):Af q m k n (loopF q (wkAt m.l k,m.c)):=by
 have h19:(aRC q m.c m.l).st k=19:=hs;have hp:=h.nf eI eB;have hpo:P (wkAt m.l k).holds=.own k .hold:=by have:=h.ho eI eB;rw[this,hs];rfl
 have hk3:(m.c.at (wkAt m.l k).holds).kind=3:=h.ci.c16c k h.kW (.inr (.inl h19));have hst0:0≤(m.c.at (wkAt m.l k).holds).started:=(h.ci.f3 _ hp hk3).2.2.2;have hsd:=h.sd (wkAt m.l k).holds;have hn:=h.nn;have hT:=h.g.ok.2.1;have hS:=h.sr;have hw:w64 ((m.c.at (wkAt m.l k).holds).started - q.T)=(m.c.at (wkAt m.l k).holds).started - q.T:=Q52 ka ka;unfold loopF;dsimp only;rw[hw];split
 ·rename_i c;refine h.start (.inl hs) (fun x x1 x2 x3 x4=>?_) fun _=>c;have:=(h.ci.f2 x x1 x2).2.2.1;omega
 rename_i c;have hn0:0≤((aRC q m.c m.l).fr ((aRC q m.c m.l).ho k)).started - q.T:=by show 0≤(m.c.at (wkAt m.l k).holds).started - q.T;omega
 split
 ·rename_i c2;have hd:=h.told hp hk3 rfl c2;refine h.sA 21 (h.ci.loop21 h.kW h19 hn0 (h.toldF (h.inF hp) (by have:1≤(m.c.at (wkAt m.l k).holds).serial∧(m.c.at (wkAt m.l k).holds).serial≤m.c.serial:=(h.ci.f3 _ hp hk3).2.2.1;show 1≤(m.c.at (wkAt m.l k).holds).serial∧(m.c.at (wkAt m.l k).holds).serial < 1000000;omega) (by show 0≤(m.c.at (wkAt m.l k).holds).started - q.T∧(m.c.at (wkAt m.l k).holds).started - q.T < 1000000;omega) c2) hd) ?_ rfl (hP0 P) Len.rf h.lim ka ko (QL (s:=21) ko);dsimp only;rw[Qq h.kl];exact agp
 ·have hS':(aRC q m.c m.l).S < 1000000:=by show m.c.serial < _;omega
  refine h.sA 20 (h.ci.loopNap h.kW h19 hn0 hT.1 hS') ?_ rfl (hPu (hP0 P) _ oC) ⟨rfl,rfl,rfl,rfl⟩ h.lim ka ko ⟨fun _ e=>(by cases e),fun _ e=>(by cases e),fun _ e=>(by cases e),fun t _ ht=>(by cases ht;exact ⟨⟨rfl,rfl⟩,h.inF hp⟩)⟩;dsimp only;rw[Qq h.kl];exact agp
theorem Be.naps (h:Be q m k n P H T cl cn rg pc) (hs:(wkAt m.l k).state=20):Af q m k n (napsF q (wkAt m.l k,m.c)):=by
 have h20:(aRC q m.c m.l).st k=20:=hs;obtain ⟨t,et⟩:=h.ok.nap hs;have enp:(aRC q m.c m.l).np k=t:=by show (wkAt m.l k).nap.getD tw0=t;rw[et];rfl
 obtain ⟨⟨g1,g2⟩,hi⟩:=h.vr.2.2.2 t hs et;have h0:(wkAt m.l k).holds=0:=h.ci.c2 k h.kW (by rw[h20];rfl);have hc6:=h.ci.c6 k h.kW h20;rw[enp] at hc6;obtain ⟨d1,d2,d3,d4,d5⟩:=hc6;have d1':t.r.id=(wkAt m.l k).other:=d1;have hn:=h.nn;have hS:=h.sr;have hT:=h.g.ok.2.1;have hser:1≤t.r.serial∧t.r.serial≤m.c.serial:=d3;have hvr:∀t':Tw,t'.over=false→t'.won=false→t'.r=t.r→Vr q { wkAt m.l k with nap:=some t' }:=fun t' o1 o2 o3=>⟨fun _ e=>(by rw[show (wkAt m.l k).state=11 from e] at hs;cases hs),fun _ e=>(by rw[show (wkAt m.l k).state=13 from e] at hs;cases hs),fun _ e=>(by rw[show (wkAt m.l k).state=15 from e] at hs;cases hs),fun _ _ e=>(by cases e;exact ⟨⟨o1,o2⟩,by rw[o3];exact hi⟩)⟩
 have hgo:∀t':Tw,t'.over=true→t'.won=false→t.at_≠0→napStep q t m.c.ws=(t',m.c.ws)→Af q m k n (napsF q (wkAt m.l k,m.c)):=by
  intro t' o1 o2 o3 o4;have o3':((aRC q m.c m.l).np k).at_≠0:=by rw[enp];exact o3
  unfold napsF;dsimp only;rw[et];dsimp only;simp only[o4];rw[o1,if_neg ko,o2,if_neg ko,Z00];refine h.sP (h.ci.napGo h.kW h20 o3') ?_ rfl (hP0 P) Len.rf h.lim ka;dsimp only[Wk.goes];rw[Qq h.kl];have e0:upd (aRC q m.c m.l).ho k 0=(aRC q m.c m.l).ho:=by rw[←h0];exact Qg _ _
  dsimp only;rw[e0];exact agp
 rcases d2 with d2|d2|d2
 ·have d2':((aRC q m.c m.l).np k).at_=0:=by rw[enp];exact d2
  have e4:napStep q t m.c.ws=(t.go true,stW m.c.ws (q.nap t.r.id) (tokF t.r.serial t.it 0)):=by unfold napStep;rw[g1,if_neg ko,if_pos d2]
  have hat:(t.go true).at_=1:=by unfold Tw.go;dsimp only;rw[d2];rfl
  have hv:(t.go true).r=((aRC q m.c m.l).np k).r∧(t.go true).it=((aRC q m.c m.l).np k).it∧(t.go true).at_=1:=by rw[enp];exact ⟨rfl,rfl,hat⟩
  have hpo:=(h.ci.c6b k h.kW h20 d2').1;unfold napsF;dsimp only;rw[et];dsimp only;simp only[e4];rw[if_pos (by show (!true)=false;rfl)];refine h.sA 20 (h.ci.nap0 h.kW h20 d2' _ hv) ?_ (dr_nap h.g.ok h.g.ws hi _) (hPu (hP0 P) _ (by rw[hpo];rfl)) (Len.rf.w (Qk _ _ _)) h.lim ka ko (hvr _ rfl g2 rfl) hs (hgs:=fun ha=>h.gs ha);dsimp only;rw[Qq h.kl,rc_nap h.g.ok h.g.ws hi,enp];exact agp
 ·by_cases c:endedR q t.r m.c.ws t.it=true
  ·have e4:napStep q t m.c.ws=(t.go true,m.c.ws):=by unfold napStep;rw[g1,if_neg ko,if_neg ka,if_pos d2,c]
   have d2':((aRC q m.c m.l).np k).at_=1:=by rw[enp];exact d2
   have hat:(t.go true).at_=2:=by unfold Tw.go;dsimp only;rw[d2];rfl
   have hv:(t.go true).r=((aRC q m.c m.l).np k).r∧(t.go true).it=((aRC q m.c m.l).np k).it∧(t.go true).at_=2:=by rw[enp];exact ⟨rfl,rfl,hat⟩
   have hd:P ((aRC q m.c m.l).ot k)≠.free→((aRC q m.c m.l).fr ((aRC q m.c m.l).ot k)).kind=3→((aRC q m.c m.l).fr ((aRC q m.c m.l).ot k)).serial=((aRC q m.c m.l).np k).r.serial→∀c,P c≠.free→((aRC q m.c m.l).fr c).kind=2→((aRC q m.c m.l).fr c).parent=(aRC q m.c m.l).ot k→((aRC q m.c m.l).fr c).index=((aRC q m.c m.l).np k).it→isLt (P c)=true:=by
    rw[enp];intro b1 b2 b3;have c':endedR q ⟨(wkAt m.l k).other,t.r.serial⟩ m.c.ws t.it=true:=by rw[←d1'];exact c
    exact h.told (l:=(wkAt m.l k).other) b1 b2 b3 c'
   unfold napsF;dsimp only;rw[et];dsimp only;simp only[e4];rw[if_pos (by show (!true)=false;rfl),Z00];refine h.sA 20 (h.ci.nap1 h.kW h20 d2' _ hv (by rw[enp];exact h.toldF hi ⟨hser.1,by omega⟩ d4 c) hd) ?_ rfl (hP0 P) Len.rf h.lim ka ko (hvr _ rfl g2 rfl) hs (hgs:=fun ha=>h.gs ha);dsimp only;rw[Qq h.kl];exact agp
  ·have c':=Bool.eq_false_iff.2 c;exact hgo (t.go false) rfl g2 ka (by unfold napStep;rw[g1,if_neg ko,if_neg ka,if_pos d2,c'])
 ·by_cases c:ldW m.c.ws (q.nap t.r.id)=tokF t.r.serial t.it 0
  ·have e4:napStep q t m.c.ws=({ t with won:=true,over:=true },stW m.c.ws (q.nap t.r.id) 0):=by unfold napStep rouse swW;rw[g1,if_neg ko,if_neg ka,if_neg ka,if_pos c]
   have d2':((aRC q m.c m.l).np k).at_=2:=by rw[enp];exact d2
   have hnp:=nap_ld (l:=m.l) (s:=m.c) h.g.ok hi;obtain ⟨a1,a2,a3⟩:=h.ci.w4 t.r.id (by rw[←hnp,c];exact Y16 hser.1);have hp1:P t.r.id≠.free:=by rw[a1];exact fun e=>by cases e
   have hk3:(m.c.at t.r.id).kind=3:=h.ci.g2 _ a1;have hf3:=h.ci.f3 _ hp1 hk3;have hsr:1≤(m.c.at t.r.id).serial∧(m.c.at t.r.id).serial≤m.c.serial:=hf3.2.2.1;have hsd:=h.sd t.r.id;have a2':0≤(m.c.at t.r.id).started - q.T:=a2;have a3':(aRC q m.c m.l).nap t.r.id=tokF (m.c.at t.r.id).serial ((m.c.at t.r.id).started - q.T) 0:=a3;rw[←hnp,c] at a3';have b:=Jh ka ka d4.1 d4.2 ka ka ka ka a2' ka ka ka a3';rw[d1'] at a1 b;have q1:((aRC q m.c m.l).fr ((aRC q m.c m.l).ot k)).serial=((aRC q m.c m.l).np k).r.serial:=by rw[enp];exact b.1.symm
   have q2:((aRC q m.c m.l).fr ((aRC q m.c m.l).ot k)).started - q.T=((aRC q m.c m.l).np k).it:=by rw[enp];exact b.2.1.symm
   have a1':P ((aRC q m.c m.l).ot k)=.nap:=a1;unfold napsF;dsimp only;rw[et];dsimp only;simp only[e4];rw[if_neg ko,if_pos trivial];refine h.sA 21 (h.ci.nap2 h.kW h20 d2' a1' q1 q2) ?_ (dr_nap h.g.ok h.g.ws hi _) (hPu (hP0 P) _ (by rw[a1'];rfl)) (Len.rf.w (Qk _ _ _)) h.lim ka ko (QL (s:=21) ko);dsimp only;rw[Qq h.kl,rc_nap h.g.ok h.g.ws hi,d1'];exact agp
  ·exact hgo { t with won:=false,over:=true } rfl rfl ka (by unfold napStep rouse swW;rw[g1,if_neg ko,if_neg ka,if_neg ka,if_neg c])
theorem Be.count (h:Be q m k n P H T cl cn rg pc) (hs:(wkAt m.l k).state=22):Af q m k n (countF q (wkAt m.l k,m.c)):=by have h22:(aRC q m.c m.l).st k=22:=hs;have hi:=h.inF (h.nf eI eB);unfold countF;dsimp only;refine h.sA 23 (h.ci.count h.kW h22) ?_ (dr_wd h.g.ok h.g.ws hi _ ka ka _) (hP0 P) (Len.rf.w (Qk _ _ _)) h.lim ka ko (QL (s:=23) ko);dsimp only;rw[Qq h.kl,rc_ct h.g.ok h.g.ws hi];exact agp
theorem Be.name (h:Be q m k n P H T cl cn rg pc) (hs:(wkAt m.l k).state=23):Af q m k n (nameF2 q (wkAt m.l k,m.c)):=by have h23:(aRC q m.c m.l).st k=23:=hs;have hi:=h.inF (h.nf eI eB);have hI:∀a b,0≤a→a≤b→b - a≤q.T→sR q a=sR q b→a=b:=fun a b h0 h1 h2 e=>sR_inj a b h0 h1 h2 e;unfold nameF2;dsimp only;refine h.sA 24 (h.ci.name h.kW h23 hI) ?_ (dr_wd h.g.ok h.g.ws hi _ ka ka _) (hP0 P) (Len.rf.w (Qk _ _ _)) h.lim ka ko (QL (s:=24) ko);dsimp only;rw[Qq h.kl,rc_lk h.g.ok h.g.ws hi];exact agp
theorem Be.joins (h:Be q m k n P H T cl cn rg pc) (hs:(wkAt m.l k).state=24):Af q m k n (joinsF q (wkAt m.l k,m.c)):=by
 have h24:(aRC q m.c m.l).st k=24:=hs;have hp:=h.nf eI eB;have hpo:P (wkAt m.l k).holds=.own k .hold:=by have:=h.ho eI eB;rw[this,hs];rfl
 have hi:=h.inF hp;have hc:=(h.ci.c7b k h.kW (.inr (.inr h24))).1;have e1:=rc_J (l:=m.l) h.g.ok h.g.ws hi ((aRC q m.c m.l).J (wkAt m.l k).holds+1);have e2:aDR q (m.c.setW (stW m.c.ws (q.frame (wkAt m.l k).holds) ((aRC q m.c m.l).J (wkAt m.l k).holds+1))) m.l=aDR q m.c m.l:=dr_J h.g.ok h.g.ws hi _;have e3:Len m.c (m.c.setW (stW m.c.ws (q.frame (wkAt m.l k).holds) ((aRC q m.c m.l).J (wkAt m.l k).holds+1))):=Len.rf.w (Qk _ _ _);unfold joinsF noteF;dsimp only;rw[h.ja hp];refine h.sA 4 (h.ci.joins h.kW h24) ?_ e2 (hPu (hPu (hP0 P) _ oC) _ (by rw[hc];rfl)) ((e3.n _).n _) h.lim ka ko (QL (s:=4) ko);dsimp only[Wk.runs];rw[Qq h.kl,Y80 _ _ _ (.inl rfl),rc_noteS _ _ _ rfl rfl rfl,e1];exact agp
end
variable {T:Int} {F W:Nat} {sI:Int→Int} {tk:Int→Int→Int→Int} {r:RC} {P:Int→Pc} {cn:Int→Int} {rg:Nat→Int} {pc:Int→Int→Int}
set_option maxHeartbeats 40000000 in
theorem CN.pushTakesL (h:CN T F W sI tk r P cn rg pc) {k:Nat} (hk:(k:Int) < (W:Int)) (h1:r.st k=3) {id:Int} (ht0:r.th k=.takes id) (hkd:(r.fr id).kind=3) {j:Nat} {n:Int}:
  CN T F W sI tk { r with st:=upd r.st k (19),ho:=upd r.ho k (id) } (updI (updI P (r.px k) (.deq j n)) id (.own k .hold)) cn rg pc:=by
 obtain ⟨q1,q2,q3,q4,q5⟩:=h.c10b k hk h1 id ht0;exact {}
end Go.Proofs.YtelibaobkcokdaaGreat.Mx.In
