/- The machine's invariant: seeks, and the ends of walks over deques. -/
import Derived.Test.YtelibaobkcokdaaGreatTH2G34
import Derived.Test.YtelibaobkcokdaaGreatProg
import Derived.KernelRfl
namespace Go.Proofs.YtelibaobkcokdaaGreat.Mx.In
set_option linter.unusedSectionVars false
set_option linter.unusedVariables false
set_option linter.unusedSimpArgs false
open Go Go.Kx Go.Proofs Go.Proofs.YtelibaobkcokdaaGreat Go.Proofs.YtelibaobkcokdaaGreat.Mx
set_option linter.unusedSectionVars false
section
variable {q:Pm} {m:Mc} {k:Nat} {n:Int} {P:Int→Pc} {H T:Nat→Int} {cl:Nat→Nat} {cn:Int→Int} {rg:Nat→Int} {pc:Int→Int→Int}
theorem wk_of19 {w:Wk} (h:w.state=19):WkOk w:=
 ⟨by omega,fun _=>by omega,fun _=>by omega,fun _=>by omega,fun _=>by omega,fun _=>by omega,fun _=>by omega⟩
theorem Tk.mono {W:Nat} {r r':DR} {n:Int} (h:Tk W r n) (e1:r'.sv=r.sv) (e2:r'.nt=r.nt):Tk W r' (n+1):=by intro j hj;have:=h j hj;rw[e1,e2];omega
theorem Be.seek (h:Be q m k n P H T cl cn rg pc) (ht:Tk m.l.length (aDR q m.c m.l) n) (hs:(wkAt m.l k).state=0) (victim:Int):Af q m k n (seekF q (wkAt m.l k,m.c) victim):=by
 have h0:(aRC q m.c m.l).st k=0:=hs;have hpr:=h.pr;have hW:=h.g.ok.1;have hown:=h.own;have hn:=h.nn;have hrm:0≤(max victim 0) % q.W∧(max victim 0) % q.W < q.W:=⟨Int.emod_nonneg _ ka,Int.emod_lt_of_pos _ ka⟩;have hv:0≤(w64 ((max victim 0) % q.W+(wkAt m.l k).probed)).tmod q.W∧(w64 ((max victim 0) % q.W+(wkAt m.l k).probed)).tmod q.W < q.W:=by rw[Q52 ka ka];exact ⟨Int.tmod_nonneg _ ka,Int.tmod_lt_of_pos _ ka⟩
 unfold seekF;dsimp only;generalize (w64 ((max victim 0) % q.W+(wkAt m.l k).probed)).tmod q.W=v at hv ⊢;split
 ·refine h.sA (wkAt m.l k).state h.ci ?_ rfl (hP0 P) ⟨rfl,rfl,rfl,rfl⟩ h.lim ka ka (QL (s:=(wkAt m.l k).state) ka) (hgs:=fun ha=>h.gs ha);dsimp only;rw[Qq h.kl];exact agp
 ·unfold stepD dqStep dqNext dqSteal;dsimp only;have hj:((v.toNat:Nat):Int)=v:=by omega
  have hjW:((v.toNat:Nat):Int) < q.W:=by omega
  have hln:=h.g.ln;have hjl:v.toNat < m.l.length:=by omega
  have htk:=ht v.toNat hjl;have hl:=nt_ld h.g hjW;rw[hj] at hl;unfold addW;rw[←hl,show w64 ((aDR q m.c m.l).nt v.toNat+1)=(aDR q m.c m.l).nt v.toNat+1 from Q52 ka ka];have hrc:=nt_rc h.g hjW ((aDR q m.c m.l).nt v.toNat+1);have hdr:=dr_nt (l:=m.l) h.g.ok h.g.ws hjW ((aDR q m.c m.l).nt v.toNat+1);rw[hj] at hrc hdr;have hL:Len m.c (m.c.setW (stW m.c.ws (q.base v+2) ((aDR q m.c m.l).nt v.toNat+1))):=Len.rf.w (Qk _ _ _);have es:∀p,({ m.c with probes:=p }:Cs).setW (stW m.c.ws (q.base v+2) ((aDR q m.c m.l).nt v.toNat+1))={ m.c.setW (stW m.c.ws (q.base v+2) ((aDR q m.c m.l).nt v.toNat+1)) with probes:=p }:=fun _=>rfl;rw[es];have hrc':∀p,aRC q { m.c.setW (stW m.c.ws (q.base v+2) ((aDR q m.c m.l).nt v.toNat+1)) with probes:=p } m.l=aRC q m.c m.l:=fun _=>hrc;have hdr':∀p l,aDR q { m.c.setW (stW m.c.ws (q.base v+2) ((aDR q m.c m.l).nt v.toNat+1)) with probes:=p } l=aDR q (m.c.setW (stW m.c.ws (q.base v+2) ((aDR q m.c m.l).nt v.toNat+1))) l:=fun _ _=>rfl;have eD:aDR q (m.c.setW (stW m.c.ws (q.base v+2) ((aDR q m.c m.l).nt v.toNat+1))) (m.l.set k { wkAt m.l k with probed:=w64 ((wkAt m.l k).probed+1),dq:=some ⟨v,0,0,0,q.base v+2,(aDR q m.c m.l).nt v.toNat,.mineF,false,false⟩,state:=1 })={ aDR q m.c m.l with st:=upd (aDR q m.c m.l).st k 1,dq:=upd (aDR q m.c m.l).dq k (dv (some ⟨v,0,0,0,q.base v+2,(aDR q m.c m.l).nt v.toNat,.mineF,false,false⟩)),nt:=upd (aDR q m.c m.l).nt v.toNat ((aDR q m.c m.l).nt v.toNat+1) }:=by rw[X41 h.kl,hdr];have e1:upd (aDR q m.c m.l).ta k (wkAt m.l k).tail=(aDR q m.c m.l).ta:=Qg _ _;dsimp only;rw[e1]
  refine h.to (T':=T) (H':=H) (cl':=cl) ⟨hL.ws,hL.fr,hL.he,hL.st⟩ rfl h.tb ?_ ?_ (R:={ aRC q m.c m.l with st:=upd (aRC q m.c m.l).st k 1 }) ?_ (h.ci.idle h.kW (by rw[h0];rfl) (.inl h0) 1 (.inr (.inl rfl))) h.lim (fun d hd _=>?_) (fun d hd _=>?_) (QL (s:=1) ko) (fun _ _ _=>rfl) (fun ha=>by cases ha)
  ·dsimp only;rw[hdr',eD];intro j hj';have:=ht j hj';show 0≤(aDR q m.c m.l).sv j∧(aDR q m.c m.l).sv j≤upd (aDR q m.c m.l).nt v.toNat _ j∧upd (aDR q m.c m.l).nt v.toNat _ j≤n+1;unfold upd;split
   ·rename_i e;subst e;omega
   ·omega
  ·dsimp only;rw[hdr',eD];exact h.g.dq.begSteal h.kl h0 (d:=dv (some ⟨v,0,0,0,q.base v+2,(aDR q m.c m.l).nt v.toNat,.mineF,false,false⟩)) hjl rfl rfl rfl htk.2.1
  ·dsimp only;rw[Qq h.kl,hrc'];exact agp
  ·cases hd;rfl
  ·cases hd;exact hv
theorem Be.walkOn (h:Be q m k n P H T cl cn rg pc) (ht:Tk m.l.length (aDR q m.c m.l) n) {d:Dq} (hd:(wkAt m.l k).dq=some d) (hs:(wkAt m.l k).state=1∨(wkAt m.l k).state=2∨(wkAt m.l k).state=3)
  (hB:InvB q ⟨m.c.setW (dqNext q d m.c.ws).2,m.l.set k { wkAt m.l k with dq:=some (dqNext q d m.c.ws).1 }⟩ n):Af q m k n ({ wkAt m.l k with dq:=some (dqNext q d m.c.ws).1 },m.c.setW (dqNext q d m.c.ws).2):=by
 intro _ _;obtain ⟨P',H',T',cl',cn',rg',pc',hi,hT⟩:=hB;have hn:=h.nn;have hln:=h.g.ln;have hwh:=h.g.wh k _ d h.hw hd hs;have hk0:=h.g.dq.k0 k h.kl;have e3:(aDR q m.c m.l).dq k=dv (some d):=by show dv (wkAt m.l k).dq=_;rw[hd]
 rw[e3] at hk0;refine ⟨P',H',T',cl',cn',rg',pc',hi,fun j=>by have:=hT j;omega,?_⟩;have:=ht.next (l':=m.l.set k { wkAt m.l k with dq:=some (dqNext q d m.c.ws).1 }) h.g.ok h.g.ws ka hwh.1 hwh.2 ka (h.g.ta k _ d h.hw hd) hk0;dsimp only;rw[List.length_set];exact this
theorem Be.dqk (h:Be q m k n P H T cl cn rg pc) {d:Dq} (hd:(wkAt m.l k).dq=some d):(aDR q m.c m.l).dq k=dv (some d):=by show dv (wkAt m.l k).dq=_;rw[hd]
theorem X62 (s:Cs) (w:Wk) (id:Int) (h:s.isHeld id=true):w.takes s id=if (s.at id).kind=3 then w.loops id else w.runs id:=by
 unfold Wk.takes;by_cases c:(s.at id).kind=3
 ·rw[if_pos ⟨h,c⟩,if_pos c]
 ·rw[if_neg fun x=>c x.2,if_neg c]
theorem Be.steal (h:Be q m k n P H T cl cn rg pc) (hT:∀j,T j≤n) (ht:Tk m.l.length (aDR q m.c m.l) n) (hs:(wkAt m.l k).state=1):Af q m k n (stealF q (wkAt m.l k,m.c)):=by
 have h1:(aRC q m.c m.l).st k=1:=hs;have h1d:(aDR q m.c m.l).st k=1:=hs;obtain ⟨d,hd⟩:=h.ok.dq (.inl hs);have hn:=h.nn;have hln:=h.g.ln;by_cases c:(dqNext q d m.c.ws).1.nx=.nil
 ·
  have hdk:=h.dqk hd;have ht0:=h.g.dq.t0 k h.kl h1d;rw[hdk] at ht0
  have hnx:d.nx=.leaveN:=by
   have hst:isSteal d.nx=true:=ht0.2;cases hx:d.nx
   all_goals (rw[hx] at hst;try (cases hst;done))
   all_goals (unfold dqNext at c;rw[hx] at c;dsimp only at c)
   all_goals first|rfl|(cases c;done)|(split at c<;>first|(cases c;done)|(rw[hx] at c;cases c;done))
  have hwh:=h.g.wh k _ d h.hw hd (.inl hs);have hj:((d.who.toNat:Nat):Int)=d.who:=by omega
  have hjW:((d.who.toNat:Nat):Int) < q.W:=by omega
  have hjl:d.who.toNat < m.l.length:=by omega
  have hta:=h.g.ta k _ d h.hw hd (by rw[hnx];rfl);have hk0:=h.g.dq.k0 k h.kl (by rw[hdk];show inq d.nx=true;rw[hnx];rfl);rw[hdk] at hk0;have hk0':(aDR q m.c m.l).sv d.who.toNat≤d.tn∧d.tn < (aDR q m.c m.l).nt d.who.toNat:=hk0;have htk:=ht d.who.toNat hjl;have ew:w64 (d.tn+1)=d.tn+1:=Q52 ka ka;have ea:d.ta+1=q.base d.who+3:=by omega
  have e4:dqNext q d m.c.ws=({ d with nx:=.nil },stW m.c.ws (q.base d.who+3) (d.tn+1)):=by unfold dqNext;rw[hnx];dsimp only;rw[ea,ew]
  have hrc:=sv_rc h.g hjW (d.tn+1);have hdr:=dr_sv (l:=m.l) h.g.ok h.g.ws hjW (d.tn+1);rw[hj] at hrc hdr;have hL:Len m.c (m.c.setW (stW m.c.ws (q.base d.who+3) (d.tn+1))):=Len.rf.w (Qk _ _ _);have htkN:∀l',Tk m.l.length (aDR q (m.c.setW (stW m.c.ws (q.base d.who+3) (d.tn+1))) l') (n+1):=fun l'=>by have:=ht.next (l':=l') h.g.ok h.g.ws ka hwh.1 hwh.2 hjl (h.g.ta k _ d h.hw hd) (fun _=>hk0');rw[e4] at this;exact this
  have hnx':((aDR q m.c m.l).dq k).nx=.leaveN:=by rw[hdk];exact hnx
  have eD:∀w':Wk,w'.tail=(wkAt m.l k).tail→w'.dq=some { d with nx:=.nil }→aDR q (m.c.setW (stW m.c.ws (q.base d.who+3) (d.tn+1))) (m.l.set k w')={ aDR q m.c m.l with dq:=upd (aDR q m.c m.l).dq k (dv (some { d with nx:=.nil })),sv:=upd (aDR q m.c m.l).sv d.who.toNat (d.tn+1),st:=upd (aDR q m.c m.l).st k w'.state }:=fun w' a b=>by rw[X41 h.kl,hdr,a,b];have e1:upd (aDR q m.c m.l).ta k (wkAt m.l k).tail=(aDR q m.c m.l).ta:=Qg _ _;dsimp only;rw[e1]
  unfold stealF stepD dqStep;dsimp only;rw[hd];dsimp only;simp only[e4];rw[if_neg (show ¬dqEnded (some { d with nx:=.nil })=false from fun e=>by cases e)];by_cases hg:d.got=true
  ·have hg':((aDR q m.c m.l).dq k).got=true:=by rw[hdk];exact hg
   have hpx:=h.g.dq.t5 k h.kl h1d hnx' hg';rw[hdk] at hpx;have hpx':P d.x=.own k .got:=hpx;have hp:P d.x≠.free:=by rw[hpx'];exact fun e=>by cases e
   have eg:dqGets (some { d with nx:=.nil })=(d.x,true):=if_pos ⟨rfl,hg⟩;rw[eg];dsimp only;rw[if_neg ko];have hL':∀p,Len m.c { m.c.setW (stW m.c.ws (q.base d.who+3) (d.tn+1)) with steals:=p }:=fun _=>⟨hL.ws,hL.fr,hL.he,hL.st⟩;have hrc':∀p,aRC q { m.c.setW (stW m.c.ws (q.base d.who+3) (d.tn+1)) with steals:=p } m.l=aRC q m.c m.l:=fun _=>hrc;have eD':∀p,∀w':Wk,w'.tail=(wkAt m.l k).tail→w'.dq=some { d with nx:=.nil }→aDR q { m.c.setW (stW m.c.ws (q.base d.who+3) (d.tn+1)) with steals:=p } (m.l.set k w')={ aDR q m.c m.l with dq:=upd (aDR q m.c m.l).dq k (dv (some { d with nx:=.nil })),sv:=upd (aDR q m.c m.l).sv d.who.toNat (d.tn+1),st:=upd (aDR q m.c m.l).st k w'.state }:=fun _=>eD;have htk':∀p l',Tk m.l.length (aDR q { m.c.setW (stW m.c.ws (q.base d.who+3) (d.tn+1)) with steals:=p } l') (n+1):=fun _=>htkN;have etk:∀(p:Int) (w:Wk),w.takes { m.c.setW (stW m.c.ws (q.base d.who+3) (d.tn+1)) with steals:=p } d.x=if (m.c.at d.x).kind=3 then w.loops d.x else w.runs d.x:=fun p w=>X62 _ _ _ (h.held hp);rw[etk];generalize w64 ((m.c.setW (stW m.c.ws (q.base d.who+3) (d.tn+1))).steals+1)=p;split
   ·rename_i c3;have hD:=h.g.dq.leaveSY h.kl h1d (e:=dv (some { d with nx:=.nil })) hnx' hg' rfl 19 ko;rw[hdk] at hD;refine h.to (T':=T) (hL' p) rfl h.tb (htk' p _) (by dsimp only;rw[eD' p _ ki ki];exact hD) ?_ (h.ci.takeL h.kW (.inl h1) hpx' c3) h.lim (fun d' hd' hi=>by cases hd';cases hi) (fun d' hd' hx=>by cases hd';exact hwh) (QL (s:=19) ko) (fun _ _ _=>rfl) (fun ha=>by cases ha);dsimp only[Wk.loops];rw[Qq h.kl,hrc'];exact agp
   ·rename_i c3;have hD:=h.g.dq.leaveSY h.kl h1d (e:=dv (some { d with nx:=.nil })) hnx' hg' rfl 4 ko;rw[hdk] at hD;refine h.to (T':=T) (hL' p) rfl h.tb (htk' p _) (by dsimp only;rw[eD' p _ ki ki];exact hD) ?_ (h.ci.takeR h.kW (.inl h1) hpx' c3) h.lim (fun d' hd' hi=>by cases hd';cases hi) (fun d' hd' hx=>by cases hd';exact hwh) (QL (s:=4) ko) (fun _ _ _=>rfl) (fun ha=>by cases ha);dsimp only[Wk.runs];rw[Qq h.kl,hrc'];exact agp
  ·have eg:dqGets (some { d with nx:=.nil })=(0,false):=if_neg fun x=>hg x.2;rw[eg,if_pos rfl];have hD:=h.g.dq.leaveSN h.kl h1d (e:=dv (some { d with nx:=.nil })) hnx' rfl;rw[hdk] at hD;refine h.to (T':=T) hL rfl h.tb (htkN _) (by dsimp only;rw[eD _ ki ki];exact hD) ?_ (h.ci.idle h.kW (by rw[h1];rfl) (.inr (.inl h1)) 0 (.inl rfl)) h.lim (fun d' hd' hi=>by cases hd';cases hi) (fun d' hd' hx=>by cases hd';exact hwh) (QL (s:=0) ko) (fun _ _ _=>rfl) (fun ha=>by cases ha);dsimp only;rw[Qq h.kl,hrc];exact agp
 ·have e:stealF q (wkAt m.l k,m.c)=({ wkAt m.l k with dq:=some (dqNext q d m.c.ws).1 },m.c.setW (dqNext q d m.c.ws).2):=by unfold stealF stepD dqStep;dsimp only;rw[hd];dsimp only;rw[if_pos];exact decide_eq_false c
  rw[e];exact h.walkOn ht hd (.inl hs) (h.g.stealOn h.hw hs hd hT ka c)
theorem Be.pop (h:Be q m k n P H T cl cn rg pc) (hT:∀j,T j≤n) (ht:Tk m.l.length (aDR q m.c m.l) n) (hs:(wkAt m.l k).state=2):Af q m k n (popF q (wkAt m.l k,m.c)):=by
 have h2:(aRC q m.c m.l).st k=2:=hs;have h2d:(aDR q m.c m.l).st k=2:=hs;obtain ⟨d,hd⟩:=h.ok.dq (.inr (.inl hs));have hn:=h.nn;have hln:=h.g.ln;have hkq:=h.kq;have hdk:=h.dqk hd;have hq0:=h.g.dq.q0 k h.kl h2d;rw[hdk] at hq0;have hwh:=h.g.wh k _ d h.hw hd (.inr (.inl hs));have hwho:d.who.toNat=k:=hq0.1;have hwi:d.who=k:=by omega
 have htk:=ht k h.kl;by_cases c:(dqNext q d m.c.ws).1.nx=.nil
 ·have hnx:d.nx=.takes∨d.nx=.leaveN:=by
   have hst:isPop d.nx=true:=hq0.2;cases hx:d.nx
   all_goals (rw[hx] at hst;try (cases hst;done))
   all_goals (unfold dqNext at c;rw[hx] at c;dsimp only at c)
   all_goals first|exact .inl rfl|exact .inr rfl|(cases c;done)|(split at c<;>first|(cases c;done)|(rw[hx] at c;cases c;done))
  rcases hnx with hnx|hnx
  ·have hnx':((aDR q m.c m.l).dq k).nx=.takes:=by rw[hdk];exact hnx
   have hq1:=h.g.dq.q1 k h.kl h2d (.inl hnx');rw[hdk] at hq1;have hTk:=hT k;have hrg:=h.g.dq.rg k h.kl;have hq1':d.t=T k+1:=hq1.1;have ew:w64 (d.t - 1)=d.t - 1:=Q52 ka ka;have hsl:=sl_ld h.g hkq (d.t - 1);have e4:dqNext q d m.c.ws=({ d with t:=d.t - 1,x:=(aDR q m.c m.l).sl k (sD q (d.t - 1)),got:=true,nx:=.nil },m.c.ws):=by unfold dqNext;rw[hnx];dsimp only;rw[ew,hwi,←hsl]
   have hpx:P ((aDR q m.c m.l).sl k (sD q (d.t - 1)))=.own k .got:=by rw[show d.t - 1=T k by omega];exact hq1.2.2
   have hp:P ((aDR q m.c m.l).sl k (sD q (d.t - 1)))≠.free:=by rw[hpx];exact fun e=>by cases e
   have eg:dqGets (some { d with t:=d.t - 1,x:=(aDR q m.c m.l).sl k (sD q (d.t - 1)),got:=true,nx:=.nil })=((aDR q m.c m.l).sl k (sD q (d.t - 1)),true):=rfl;unfold popF stepD dqStep;dsimp only;rw[hd];dsimp only;simp only[e4];rw[if_neg (show ¬dqEnded (some { d with t:=d.t - 1,x:=(aDR q m.c m.l).sl k (sD q (d.t - 1)),got:=true,nx:=.nil })=false from fun e=>by cases e),eg,Z00];dsimp only;rw[if_neg ko];rw[X62 _ _ _ (h.held hp)];split
   ·rename_i c3;have hD:=h.g.dq.takes h.kl h2d (e:=dv (some { d with t:=d.t - 1,x:=(aDR q m.c m.l).sl k (sD q (d.t - 1)),got:=true,nx:=.nil })) hnx' rfl 19 ko;rw[hdk] at hD;refine h.to (T':=T) Len.rf rfl h.tb (h.tk1 rfl rfl) (by dsimp only;rw[X41 h.kl];exact hD) ?_ (h.ci.takeL h.kW (.inr h2) hpx c3) h.lim (fun d' hd' hi=>by cases hd';cases hi) (fun d' hd' hx=>by cases hd';exact hwh) (QL (s:=19) ko) (fun _ _ _=>rfl) (fun ha=>by cases ha);dsimp only[Wk.loops];rw[Qq h.kl];exact agp
   ·rename_i c3;have hD:=h.g.dq.takes h.kl h2d (e:=dv (some { d with t:=d.t - 1,x:=(aDR q m.c m.l).sl k (sD q (d.t - 1)),got:=true,nx:=.nil })) hnx' rfl 4 ko;rw[hdk] at hD;refine h.to (T':=T) Len.rf rfl h.tb (h.tk1 rfl rfl) (by dsimp only;rw[X41 h.kl];exact hD) ?_ (h.ci.takeR h.kW (.inr h2) hpx c3) h.lim (fun d' hd' hi=>by cases hd';cases hi) (fun d' hd' hx=>by cases hd';exact hwh) (QL (s:=4) ko) (fun _ _ _=>rfl) (fun ha=>by cases ha);dsimp only[Wk.runs];rw[Qq h.kl];exact agp
  ·have hnx':((aDR q m.c m.l).dq k).nx=.leaveN:=by rw[hdk];exact hnx
   have hta:=h.g.ta k _ d h.hw hd (by rw[hnx];rfl);have hk0:=h.g.dq.k0 k h.kl (by rw[hdk];show inq d.nx=true;rw[hnx];rfl);rw[hdk] at hk0;have hk0':(aDR q m.c m.l).sv d.who.toNat≤d.tn∧d.tn < (aDR q m.c m.l).nt d.who.toNat:=hk0;have hk1:=hk0';rw[hwho] at hk1;have hgot:d.got=false:=by have:=h.g.dq.t7 k h.kl h2d;rw[hdk] at this;exact this
   have ew:w64 (d.tn+1)=d.tn+1:=Q52 ka ka;have ea:d.ta+1=q.base (k:Int)+3:=by rw[hta,hwi];omega
   have e4:dqNext q d m.c.ws=({ d with nx:=.nil },stW m.c.ws (q.base (k:Int)+3) (d.tn+1)):=by unfold dqNext;rw[hnx];dsimp only;rw[ea,ew]
   have hrc:=sv_rc h.g hkq (d.tn+1);have hdr:=dr_sv (l:=m.l) h.g.ok h.g.ws hkq (d.tn+1);have hL:Len m.c (m.c.setW (stW m.c.ws (q.base (k:Int)+3) (d.tn+1))):=Len.rf.w (Qk _ _ _);have htkN:∀l',Tk m.l.length (aDR q (m.c.setW (stW m.c.ws (q.base (k:Int)+3) (d.tn+1))) l') (n+1):=fun l'=>by have:=ht.next (l':=l') h.g.ok h.g.ws ka hwh.1 hwh.2 ka (h.g.ta k _ d h.hw hd) (fun _=>hk0');rw[e4] at this;exact this
   have eg:dqGets (some { d with nx:=.nil })=(0,false):=if_neg fun x=>by rw[hgot] at x;cases x.2
   unfold popF stepD dqStep;dsimp only;rw[hd];dsimp only;simp only[e4];rw[if_neg (show ¬dqEnded (some { d with nx:=.nil })=false from fun e=>by cases e),eg,if_pos rfl];have hD:=h.g.dq.leaveP h.kl h2d (e:=dv (some { d with nx:=.nil })) hnx' rfl;rw[hdk] at hD;refine h.to (T':=T) hL rfl h.tb (htkN _) (by dsimp only;rw[X41 h.kl,hdr];exact hD) ?_ (h.ci.idle h.kW (by rw[h2];rfl) (.inr (.inr h2)) 0 (.inl rfl)) h.lim (fun d' hd' hi=>by cases hd';cases hi) (fun d' hd' hx=>by cases hd';exact hwh) (QL (s:=0) ko) (fun _ _ _=>rfl) (fun ha=>by cases ha);dsimp only;rw[Qq h.kl,hrc];exact agp
 ·have e:popF q (wkAt m.l k,m.c)=({ wkAt m.l k with dq:=some (dqNext q d m.c.ws).1 },m.c.setW (dqNext q d m.c.ws).2):=by unfold popF stepD dqStep;dsimp only;rw[hd];dsimp only;rw[if_pos];exact decide_eq_false c
  rw[e];exact h.walkOn ht hd (.inr (.inl hs)) (h.g.popOn h.hw hs hd hT ka ka c)
theorem Be.grown (h:Be q m k n P H T cl cn rg pc) (hT:∀j,T j≤n) (hs:(wkAt m.l k).state=3) {d:Dq} (hd:(wkAt m.l k).dq=some d) (hnx:d.nx=.grow) {y:WC} {R:RC} {P':Int→Pc} {cn':Int→Int}
  (hc:y.2=m.c.setW (stW m.c.ws (q.base (k:Int)+1) (d.t+1))) (hp:nd (P d.x)=true) (hci:CN q.T q.F.toNat m.l.length (sR q) tokF R P' cn' rg pc) (a:AgP P' R (aRC q m.c (m.l.set k y.1)))
  (hP:∀id,P' id=updI P d.x (.deq k d.t) id∨nd (updI P d.x (.deq k d.t) id)=true) (hlim:R.S≤n∧∀id,(R.fr id).started≤n) (st':Int) (h2:st'≠1∧st'≠2∧st'≠3) (e2:y.1.state=st') (hvr:Vr q y.1)
  (how:y.1.own=(wkAt m.l k).own) (hq:y.1.dq=some { d with t:=d.t+1,nx:=.nil }) (ht:y.1.tail=d.t+1) (hpr:y.1.probed=(wkAt m.l k).probed)
  (hst:∀id,id≠(wkAt m.l k).holds→P id≠.free→(R.fr id).stage=((aRC q m.c m.l).fr id).stage) (hgs:atSt y.1=true→y.1.gStage=(R.fr y.1.holds).stage) (hwk:WkOk y.1):
  Be q ⟨m.c.setW (stW m.c.ws (q.base (k:Int)+1) (d.t+1)),m.l.set k y.1⟩ k n P' H (upd T k (d.t+1)) cl cn' rg pc:=by
 have hn:=h.nn;have h3d:(aDR q m.c m.l).st k=3:=hs;have hdk:=h.dqk hd;have hkq:=h.kq;have hnx':((aDR q m.c m.l).dq k).nx=.grow:=by rw[hdk];exact hnx
 have hp0:=h.g.dq.p0 k h.kl h3d;rw[hdk] at hp0;have hdt:d.t=T k:=hp0.2.1;have hwh:=h.g.wh k _ d h.hw hd (.inr (.inr hs));obtain ⟨y1,y2⟩:=y;dsimp only at hc a e2 hvr how hq ht hpr hgs hwk ⊢;subst hc;have hdr:=dr_tl (l:=m.l) h.g.ok h.g.ws hkq (d.t+1);have hrc:=tl_rc h.g hkq (d.t+1);have hL:Len m.c (m.c.setW (stW m.c.ws (q.base (k:Int)+1) (d.t+1))):=Len.rf.w (Qk _ _ _);have har:ArI q.F (m.c.setW (stW m.c.ws (q.base (k:Int)+1) (d.t+1))):=(E4.a (s:=m.c) (s':=m.c.setW (stW m.c.ws (q.base (k:Int)+1) (d.t+1))) ⟨rfl,rfl,rfl,rfl⟩).1 q.F h.g.ar;have hnd:(∀j n,P d.x≠.deq j n)∧∀i,P d.x≠.own i .got:=⟨fun j n x=>(by rw[x] at hp;cases hp),fun i x=>(by rw[x] at hp;cases hp)⟩;have hD:=h.g.dq.grow h.kl h3d (e:=dv (some { d with t:=d.t+1,nx:=.nil })) hnx' rfl st' h2 (by rw[hdk];exact hnd);rw[hdk] at hD;have eD:aDR q (m.c.setW (stW m.c.ws (q.base (k:Int)+1) (d.t+1))) (m.l.set k y1)={ aDR q m.c m.l with dq:=upd (aDR q m.c m.l).dq k (dv (some { d with t:=d.t+1,nx:=.nil })),st:=upd (aDR q m.c m.l).st k st',ta:=upd (aDR q m.c m.l).ta k (d.t+1),tl:=upd (aDR q m.c m.l).tl k (d.t+1) }:=by rw[X41 h.kl,hdr,e2,hq,ht]
 have a':AgP P' R (aRC q (m.c.setW (stW m.c.ws (q.base (k:Int)+1) (d.t+1))) (m.l.set k y1)):=by rw[Qq h.kl] at a ⊢;rw[hrc];exact a
 have hi:=h.inv (y:=(y1,m.c.setW (stW m.c.ws (q.base (k:Int)+1) (d.t+1)))) hL how (by dsimp only;rw[eD];exact hD.chP (ndP hP)) a' hci ⟨by omega,fun id=>by have:=hlim.2 id;omega⟩ (fun d' hd' hi=>by dsimp only at hd';rw[hq] at hd';cases hd';cases hi) (fun d' hd' hx=>by dsimp only at hd';rw[hq] at hd';cases hd';exact hwh) hvr hst hgs hwk har (fun e=>by dsimp only at e;omega);have htN:∀j,upd T k (d.t+1) j≤n+1:=fun j=>by unfold upd;have:=hT j;have:=hT k;split<;>omega
 refine ⟨hi,by rw[List.length_set];exact h.kl,h.nn,hL.st.trans h.st,?_,fun id=>?_,htN,?_,?_⟩
 ·have:=h.sr;exact this
 ·have:=h.sd id;exact this
 ·show Tk (m.l.set k y1).length _ _;dsimp only;rw[List.length_set,eD];exact h.tk1 rfl rfl
 ·show 0≤(wkAt (m.l.set k y1) k).probed∧(wkAt (m.l.set k y1) k).probed≤1000000;rw[Q71 h.kl,if_pos rfl,hpr];exact h.pr
theorem Be.nx {y:WC} (h:Be q ⟨y.2,m.l.set k y.1⟩ k n P H T cl cn rg pc):Af q m k n y:=fun _ _=>⟨P,H,T,cl,cn,rg,pc,h.g,h.tb,h.tk⟩
theorem Be.push (h:Be q m k n P H T cl cn rg pc) (hT:∀j,T j≤n) (ht:Tk m.l.length (aDR q m.c m.l) n) (hs:(wkAt m.l k).state=3):Af q m k n (pushF q (wkAt m.l k,m.c)):=by
 have h3:(aRC q m.c m.l).st k=3:=hs;have h3d:(aDR q m.c m.l).st k=3:=hs;obtain ⟨d,hd⟩:=h.ok.dq (.inr (.inr hs));have hn:=h.nn;have hln:=h.g.ln;have hkq:=h.kq;have hdk:=h.dqk hd;have hp0:=h.g.dq.p0 k h.kl h3d;rw[hdk] at hp0;have hwh:=h.g.wh k _ d h.hw hd (.inr (.inr hs));have hwho:d.who.toNat=k:=hp0.1;have hwi:d.who=k:=by omega
 have hdt:d.t=T k:=hp0.2.1;have hTk:=hT k;have hrg:=h.g.dq.rg k h.kl;have hpx:(aRC q m.c m.l).px k=d.x:=by show (dv (wkAt m.l k).dq).x=_;rw[hd];rfl
 by_cases c:(dqNext q d m.c.ws).1.nx=.nil
 ·by_cases hnx:d.nx=.grow
  ·have ew:w64 (d.t+1)=d.t+1:=Q52 ka ka;have e4:dqNext q d m.c.ws=({ d with t:=d.t+1,nx:=.nil },stW m.c.ws (q.base (k:Int)+1) (d.t+1)):=by unfold dqNext;rw[hnx];dsimp only;rw[ew,hwi]
   have hfl:d.full=false:=Bool.eq_false_iff.2 fun e=>by have:=(h.g.fl k _ d h.hw hs hd).1 e;rw[hnx] at this;cases this
   have hthn:=h.ci.c10d k h.kW h3;unfold pushF stepD dqStep;dsimp only;rw[hd];dsimp only;simp only[e4];rw[if_neg (show ¬dqEnded (some { d with t:=d.t+1,nx:=.nil })=false from fun e=>by cases e),if_neg (show ¬dqFull (some { d with t:=d.t+1,nx:=.nil })=true from by show ¬d.full=true;rw[hfl];decide)];have hth:(aRC q m.c m.l).th k=(wkAt m.l k).th:=rfl
   have hG:∀st':Int,st'=10∨st'=12→wk2 (wkAt m.l k).th=true→Be q ⟨m.c.setW (stW m.c.ws (q.base (k:Int)+1) (d.t+1)),m.l.set k { wkAt m.l k with dq:=some { d with t:=d.t+1,nx:=.nil },tail:=d.t+1,state:=st' }⟩ k n (updI P ((aRC q m.c m.l).px k) (.deq k d.t)) H (upd T k (d.t+1)) cl cn rg pc:=by
    intro st' hst' hw2;have c10:=h.ci.c10c k h.kW h3 hw2;have hs2:st'=10∨st'=12∨st'=4:=by omega
    refine h.grown hT hs hd hnx (y:=({ wkAt m.l k with dq:=some { d with t:=d.t+1,nx:=.nil },tail:=d.t+1,state:=st' },m.c.setW (stW m.c.ws (q.base (k:Int)+1) (d.t+1)))) rfl (by rw[←hpx,c10.2.2.2.1];rfl) (h.ci.pushEnd h.kW h3 hw2 st' hs2 (j:=k) (n:=d.t)) ?_ (fun id=>by rw[hpx];exact .inl rfl) ⟨h.sr,h.sd⟩ st' ka rfl (QL (s:=st') ka) rfl rfl rfl rfl (fun _ _ _=>rfl) (fun _=>h.gs (by unfold atSt;rw[hs,hw2];rfl)) (wk_of (by show st'=10∨st'=12∨st'=4;omega));dsimp only;rw[Qq h.kl];constructor<;>first|rfl|exact Qg _ _|(intro _ _;rfl)|(intro j _;exact congrFun (Qg _ _) j)|(intro j hj;by_cases c:j=k;(rw[c] at hj;simp[upd] at hj;omega);simp[upd,c];done)
   have eO:∀(st':Int) (z:WC),Af q ⟨m.c.setW (stW m.c.ws (q.base (k:Int)+1) (d.t+1)),m.l.set k { wkAt m.l k with dq:=some { d with t:=d.t+1,nx:=.nil },tail:=d.t+1,state:=st' }⟩ k n z→Af q m k n z:=fun st' z e=>h.on (y:=({ wkAt m.l k with dq:=some { d with t:=d.t+1,nx:=.nil },tail:=d.t+1,state:=st' },m.c.setW (stW m.c.ws (q.base (k:Int)+1) (d.t+1)))) e;have eA:∀st':Int,wkAt (m.l.set k { wkAt m.l k with dq:=some { d with t:=d.t+1,nx:=.nil },tail:=d.t+1,state:=st' }) k={ wkAt m.l k with dq:=some { d with t:=d.t+1,nx:=.nil },tail:=d.t+1,state:=st' }:=fun st'=>by rw[Q71 h.kl,if_pos rfl]
   have e0:∀w1:Wk,w1={ wkAt m.l k with dq:=some { d with t:=d.t+1,nx:=.nil },tail:=d.t+1 }→Af q m k n (thenF q (w1,m.c.setW (stW m.c.ws (q.base (k:Int)+1) (d.t+1)))):=by
    intro w1 hw1;have hth1:(wkAt m.l k).th=w1.th:=by rw[hw1]
    unfold thenF;dsimp only
    cases e':w1.th with
    | none=>exact absurd (hth1.trans e') hthn
    | looksOn=>have e:(wkAt m.l k).th=.looksOn:=hth1.trans e';subst hw1;dsimp only;have:=(hG 10 (.inl rfl) (by rw[e];rfl)).looksOn (by rw[eA]);dsimp only at this;rw[eA] at this;exact eO 10 _ this
    | decide=>have e:(wkAt m.l k).th=.decide:=hth1.trans e';subst hw1;dsimp only;have:=(hG 12 (.inr rfl) (by rw[e];rfl)).decide (by rw[eA];exact .inr (.inl rfl));dsimp only at this;rw[eA] at this;exact eO 12 _ this
    | stop=>have e:(wkAt m.l k).th=.stop:=hth1.trans e';subst hw1;dsimp only;have:=(hG 12 (.inr rfl) (by rw[e];rfl)).stop (by rw[eA];exact .inl rfl);dsimp only at this;rw[eA] at this;exact eO 12 _ this
    | runs id=>
     have e:(wkAt m.l k).th=.runs id:=hth1.trans e';subst hw1;dsimp only[Wk.runs];have c10:=h.ci.c10 k h.kW h3 id e;have hho:=h.ci.c1 k h.kW c10.1;rw[h3] at hho;have hxp:P d.x=.own k .hold:=by rw[←hpx,c10.2.1,hho];rfl
     have hid:id≠d.x:=fun x=>by have:=c10.2.2.2.1;rw[x,hxp] at this;cases this
     refine Be.nx (y:=({ wkAt m.l k with dq:=some { d with t:=d.t+1,nx:=.nil },tail:=d.t+1,holds:=id,state:=4 },m.c.setW (stW m.c.ws (q.base (k:Int)+1) (d.t+1)))) (h.grown hT hs hd hnx (y:=({ wkAt m.l k with dq:=some { d with t:=d.t+1,nx:=.nil },tail:=d.t+1,holds:=id,state:=4 },m.c.setW (stW m.c.ws (q.base (k:Int)+1) (d.t+1)))) rfl (by rw[hxp];rfl) (h.ci.pushRuns h.kW h3 e (j:=k) (n:=d.t)) ?_ (by rw[hpx];exact hPu (hP0 _) _ (by unfold updI;rw[if_neg hid,c10.2.2.2.1];rfl)) ⟨h.sr,h.sd⟩ 4 ka rfl (QL (s:=4) ka) rfl rfl rfl rfl (fun _ _ _=>rfl) (fun ha=>by cases ha) (wk_of (.inr (.inr rfl))));dsimp only;rw[Qq h.kl];exact agp
    | takes id=>
     have e:(wkAt m.l k).th=.takes id:=hth1.trans e';subst hw1;dsimp only;have c10:=h.ci.c10b k h.kW h3 id e;have hxp:P d.x=.own k .psh:=by rw[←hpx];exact c10.2.1
     have hid:id≠d.x:=fun x=>by have:=c10.2.2.1;rw[x,hxp] at this;cases this
     have hpi:P id≠.free:=by rw[c10.2.2.1];exact fun e=>by cases e
     have hn4:nd (updI P d.x (.deq k d.t) id)=true:=by unfold updI;rw[if_neg hid,c10.2.2.1];rfl
     have etk:∀w:Wk,w.takes (m.c.setW (stW m.c.ws (q.base (k:Int)+1) (d.t+1))) id=if (m.c.at id).kind=3 then w.loops id else w.runs id:=fun w=>X62 _ _ _ (h.held hpi);rw[etk];split
     ·rename_i c3;dsimp only[Wk.loops];refine Be.nx (y:=({ wkAt m.l k with dq:=some { d with t:=d.t+1,nx:=.nil },tail:=d.t+1,holds:=id,state:=19 },m.c.setW (stW m.c.ws (q.base (k:Int)+1) (d.t+1)))) (h.grown hT hs hd hnx (y:=({ wkAt m.l k with dq:=some { d with t:=d.t+1,nx:=.nil },tail:=d.t+1,holds:=id,state:=19 },m.c.setW (stW m.c.ws (q.base (k:Int)+1) (d.t+1)))) rfl (by rw[hxp];rfl) (h.ci.pushTakesL h.kW h3 e c3 (j:=k) (n:=d.t)) ?_ (by rw[hpx];exact hPu (hP0 _) _ hn4) ⟨h.sr,h.sd⟩ 19 ka rfl (QL (s:=19) ka) rfl rfl rfl rfl (fun _ _ _=>rfl) (fun ha=>by cases ha) (wk_of19 rfl));dsimp only;rw[Qq h.kl];exact agp
     ·rename_i c3;dsimp only[Wk.runs];refine Be.nx (y:=({ wkAt m.l k with dq:=some { d with t:=d.t+1,nx:=.nil },tail:=d.t+1,holds:=id,state:=4 },m.c.setW (stW m.c.ws (q.base (k:Int)+1) (d.t+1)))) (h.grown hT hs hd hnx (y:=({ wkAt m.l k with dq:=some { d with t:=d.t+1,nx:=.nil },tail:=d.t+1,holds:=id,state:=4 },m.c.setW (stW m.c.ws (q.base (k:Int)+1) (d.t+1)))) rfl (by rw[hxp];rfl) (h.ci.pushTakes h.kW h3 e c3 (j:=k) (n:=d.t)) ?_ (by rw[hpx];exact hPu (hP0 _) _ hn4) ⟨h.sr,h.sd⟩ 4 ka rfl (QL (s:=4) ka) rfl rfl rfl rfl (fun _ _ _=>rfl) (fun ha=>by cases ha) (wk_of (.inr (.inr rfl))));dsimp only;rw[Qq h.kl];exact agp
   exact e0 _ rfl
  ·
   have hD:∀d':Dq,d'.who=d.who→d'.t=d.t→d'.x=d.x→d'.full=true→d'.nx=.nil→dqNext q d m.c.ws=(d',m.c.ws)→DQI q.D (sD q) m.l.length { aDR q m.c m.l with dq:=upd (aDR q m.c m.l).dq k (dv (some d')),ta:=upd (aDR q m.c m.l).ta k d.t } P H T cl→Af q m k n (pushF q (wkAt m.l k,m.c)):=by
    intro d' e1 e2 e5 e3 e6 e4 hD;have hen:dqEnded (some d')=true:=decide_eq_true e6;unfold pushF stepD dqStep;dsimp only;rw[hd];dsimp only;simp only[e4];rw[if_neg (by rw[hen];decide),if_pos (show dqFull (some d')=true from e3),Z00];refine h.to (T':=T) (H':=H) (cl':=cl) (Len.rf.p _ _) rfl h.tb ?_ ?_ (R:=aRC q m.c m.l) ?_ h.ci h.lim (fun d'' hd' hi=>by cases hd';rw[e6] at hi;cases hi) (fun d'' hd' hx=>by cases hd';rw[e1];exact hwh) (QL (s:=3) ko hs) (fun _ _ _=>rfl) (fun ha=>h.gs ha) (fun _ d'' hd'=>by cases hd';exact ⟨fun _=>e6,fun _=>e3⟩)
    ·dsimp only;rw[Q67];exact ht.mono (by rw[X41 h.kl]) (by rw[X41 h.kl])
    ·dsimp only;rw[Q67,X41 h.kl];have ee:upd (aDR q m.c m.l).st k (wkAt m.l k).state=(aDR q m.c m.l).st:=Qg _ _;have e7:dqTail (some d')=d.t:=e2;dsimp only;rw[ee,e7];exact hD
    ·dsimp only;rw[Qq h.kl,Q92];have e8:(dv (some d')).x=(dv (wkAt m.l k).dq).x:=by rw[hd];exact e5
     dsimp only;rw[e8];exact agp
   cases hx:d.nx
   all_goals (have hpp:isPush d.nx=true:=hp0.2.2;rw[hx] at hpp;try (cases hpp;done))
   ·have hfu:=(h.g.fl k _ d h.hw hs hd).2 hx;refine hD d rfl rfl rfl hfu hx (by unfold dqNext;rw[hx]) ?_;have e1:upd (aDR q m.c m.l).dq k (dv (some d))=(aDR q m.c m.l).dq:=by rw[←hdk];exact Qg _ _
    have e2:upd (aDR q m.c m.l).ta k d.t=(aDR q m.c m.l).ta:=by
     have:(aDR q m.c m.l).ta k=d.t:=by rw[hdt];exact h.g.dq.o1 k h.kl (by rw[h3d];decide)
     rw[←this];exact Qg _ _
    rw[e1,e2];exact h.g.dq
   ·unfold dqNext at c;rw[hx] at c;dsimp only at c;by_cases c2:q.D - 1≤w64 (d.t - ldW m.c.ws (q.base d.who))
    ·have hr:=h.g.dq.roomF h.kl h3d (e:=dv (some { d with full:=true,nx:=.nil })) (by rw[hdk];exact hx) (by rw[hdk];rfl) rfl (by rw[hdk];rfl);rw[hdk] at hr;exact hD { d with full:=true,nx:=.nil } rfl rfl rfl rfl rfl (by unfold dqNext;rw[hx];dsimp only;rw[if_pos c2]) hr
    ·rw[if_neg c2] at c;cases c
   ·unfold dqNext at c;rw[hx] at c;cases c
   ·exact absurd hx hnx
 ·have e:pushF q (wkAt m.l k,m.c)=({ wkAt m.l k with dq:=some (dqNext q d m.c.ws).1 },m.c.setW (dqNext q d m.c.ws).2):=by unfold pushF stepD dqStep;dsimp only;rw[hd];dsimp only;rw[if_pos];exact decide_eq_false c
  rw[e];exact h.walkOn ht hd (.inr (.inr hs)) (h.g.pushOn h.hw hs hd hT ka c)
end
section
variable {q:Pm} {m:Mc} {k:Nat} {n:Int} {P:Int→Pc} {H T:Nat→Int} {cl:Nat→Nat} {cn:Int→Int} {rg:Nat→Int} {pc:Int→Int→Int}
theorem Be.act (h:Be q m k n P H T cl cn rg pc) (hT:∀j,T j≤n) (ht:Tk m.l.length (aDR q m.c m.l) n) (hs:(wkAt m.l k).state≠0):Af q m k n (actF q (wkAt m.l k,m.c)):=by
 have hst:=h.ok.st;have hc:(wkAt m.l k).state=1∨(wkAt m.l k).state=2∨(wkAt m.l k).state=3∨(wkAt m.l k).state=4∨(wkAt m.l k).state=5∨(wkAt m.l k).state=6∨(wkAt m.l k).state=7∨(wkAt m.l k).state=8∨(wkAt m.l k).state=9∨(wkAt m.l k).state=10∨(wkAt m.l k).state=11∨(wkAt m.l k).state=12∨(wkAt m.l k).state=13∨(wkAt m.l k).state=14∨(wkAt m.l k).state=15∨(wkAt m.l k).state=16∨(wkAt m.l k).state=17∨(wkAt m.l k).state=18∨(wkAt m.l k).state=19∨(wkAt m.l k).state=20∨(wkAt m.l k).state=21∨(wkAt m.l k).state=22∨(wkAt m.l k).state=23∨(wkAt m.l k).state=24:=by omega
 rcases hc with e|e|e|e|e|e|e|e|e|e|e|e|e|e|e|e|e|e|e|e|e|e|e|e
 ·rw[show actF q (wkAt m.l k,m.c)=stealF q (wkAt m.l k,m.c) by simp[actF,e]];exact h.steal hT ht e
 ·rw[show actF q (wkAt m.l k,m.c)=popF q (wkAt m.l k,m.c) by simp[actF,e]];exact h.pop hT ht e
 ·rw[show actF q (wkAt m.l k,m.c)=pushF q (wkAt m.l k,m.c) by simp[actF,e]];exact h.push hT ht e
 ·rw[show actF q (wkAt m.l k,m.c)=runF q (wkAt m.l k,m.c) by simp[actF,e]];exact h.run e
 ·rw[show actF q (wkAt m.l k,m.c)=joinedF q (wkAt m.l k,m.c) by simp[actF,e]];exact h.joined e
 ·rw[show actF q (wkAt m.l k,m.c)=spawnF q (wkAt m.l k,m.c) by simp[actF,e]];exact h.spawn e
 ·rw[show actF q (wkAt m.l k,m.c)=arriveF q (wkAt m.l k,m.c) by simp[actF,e]];exact h.arrive e
 ·rw[show actF q (wkAt m.l k,m.c)=resumeF q (wkAt m.l k,m.c) by simp[actF,e]];exact h.resume e
 ·rw[show actF q (wkAt m.l k,m.c)=advanceF q (wkAt m.l k,m.c) by simp[actF,e]];exact h.advance e
 ·rw[show actF q (wkAt m.l k,m.c)=peekF q (wkAt m.l k,m.c) by simp[actF,e]];exact h.peek e
 ·rw[show actF q (wkAt m.l k,m.c)=checkF2 q (wkAt m.l k,m.c) by simp[actF,e]];exact h.check e
 ·rw[show actF q (wkAt m.l k,m.c)=lookF q (wkAt m.l k,m.c) by simp[actF,e]];exact h.look e
 ·rw[show actF q (wkAt m.l k,m.c)=parksF q (wkAt m.l k,m.c) by simp[actF,e]];exact h.parks e
 ·rw[show actF q (wkAt m.l k,m.c)=endsF q (wkAt m.l k,m.c) by simp[actF,e]];exact h.ends e
 ·rw[show actF q (wkAt m.l k,m.c)=closesF q (wkAt m.l k,m.c) by simp[actF,e]];exact h.closes e
 ·rw[show actF q (wkAt m.l k,m.c)=dropF q (wkAt m.l k,m.c) by simp[actF,e]];exact h.drop e
 ·rw[show actF q (wkAt m.l k,m.c)=finishF q (wkAt m.l k,m.c) by simp[actF,e]];exact h.finish e
 ·rw[show actF q (wkAt m.l k,m.c)=completeF (wkAt m.l k,m.c) by simp[actF,e]];exact h.complete e
 ·rw[show actF q (wkAt m.l k,m.c)=loopF q (wkAt m.l k,m.c) by simp[actF,e]];exact h.loop e
 ·rw[show actF q (wkAt m.l k,m.c)=napsF q (wkAt m.l k,m.c) by simp[actF,e]];exact h.naps e
 ·rw[show actF q (wkAt m.l k,m.c)=startF q (wkAt m.l k,m.c) by simp[actF,e]];exact h.start21 e
 ·rw[show actF q (wkAt m.l k,m.c)=countF q (wkAt m.l k,m.c) by simp[actF,e]];exact h.count e
 ·rw[show actF q (wkAt m.l k,m.c)=nameF2 q (wkAt m.l k,m.c) by simp[actF,e]];exact h.name e
 ·rw[show actF q (wkAt m.l k,m.c)=joinsF q (wkAt m.l k,m.c) by simp[actF,e]];exact h.joins e
end
def IT (q:Pm) (m:Mc) (n:Int):Prop:=Nx q m n∧m.c.steps=n
theorem IT.step {q:Pm} {m:Mc} {n k0:Nat} (h:IT q m n) (hc:Cnt q m n) (hk:McOk m k0) (he:m.ended=false) (hn:n < 100000) (worker victim:Int):IT q (m.step q worker victim) (n+1:Nat):=by
 obtain ⟨⟨P,H,T,cl,cn,rg,pc,g,hT,ht⟩,hst⟩:=h;have h0:m.c.status=0∧m.c.steps < 8388608:=by unfold Mc.ended at he;have:=of_decide_eq_false he;omega
 have hln:=g.ln;have hW:=g.ok.1;have hrm:0≤(max worker 0) % q.W∧(max worker 0) % q.W < q.W:=⟨Int.emod_nonneg _ ka,Int.emod_lt_of_pos _ ka⟩;have hkl:pickN q worker < m.l.length:=by unfold pickN;omega
 have e:m.step q worker victim=⟨(wkStep q (wkAt m.l (pickN q worker),m.c) victim).2,m.l.set (pickN q worker) (wkStep q (wkAt m.l (pickN q worker),m.c) victim).1⟩:=by unfold Mc.step;rw[if_neg (by rw[he];decide)];rfl
 have hs':=(hc.step ka he worker victim).st;have har:=(hc.step ka he worker victim).ar;have hwk:=(hk.step q worker victim).wk;rw[e] at hs' har hwk ⊢;generalize pickN q worker=k at hkl hs' har hwk ⊢;have hwk':WkOk (wkStep q (wkAt m.l k,m.c) victim).1:=hwk _ (List.mem_iff_getElem?.2 ⟨k,List.getElem?_set_self hkl⟩);refine ⟨?_,hs'⟩;have ew:w64 (m.c.steps+1)=m.c.steps+1:=Q52 ka ka
 have hmem:wkAt m.l k∈m.l:=by
  have:m.l[k]?=some (wkAt m.l k):=by unfold wkAt;rw[List.getD_eq_getElem?_getD,List.getElem?_eq_getElem hkl];rfl
  exact List.mem_of_getElem? this
 have hb:Be q ⟨{ m.c with steps:=m.c.steps+1 },m.l⟩ k n P H T cl cn rg pc:=by
  have l1:=g.lim;refine ⟨⟨g.ok,g.ws,g.hl,g.ln,g.wk,g.ow,⟨g.ar.f,g.ar.hl,g.ar.h0,g.ar.nd,g.ar.bk,g.ar.fr,g.ar.ab,g.ar.pk⟩,⟨by show 0≤m.c.steps+1;omega,by show m.c.steps+1≤_;omega,by show m.c.serial≤m.c.steps+1;omega,fun id=>by have:=l1.2.2.2 id;show (m.c.at id).started≤m.c.steps+1;omega⟩,g.dq,g.ci,g.ni,g.ta,g.wh,g.gs,g.vr,g.fl,g.hv⟩,hkl,by omega,by show m.c.steps+1=_;omega,by show m.c.serial≤_;omega,fun id=>by have:=l1.2.2.2 id;show (m.c.at id).started≤_;omega,fun j=>by have:=hT j;omega,?_,?_⟩
  ·exact Tk.mono ht rfl rfl
  ·refine ⟨hc.p0 _ hmem,?_⟩;have a1:=(sum_ge Wk.probed hc.p0).2 _ hmem;have a2:=hc.pr;have a3:=hc.pn;show (wkAt m.l k).probed≤_;omega
 have key:Af q ⟨{ m.c with steps:=m.c.steps+1 },m.l⟩ k n (wkStep q (wkAt m.l k,m.c) victim):=by
  unfold wkStep;dsimp only;rw[if_neg (by rw[h0.1];decide),ew];split
  ·rename_i c;exact hb.seek ht c victim
  ·rename_i c;exact hb.act hT ht c
 have:=key hwk' har;have e2:((n+1:Nat):Int)=(n:Int)+1:=by omega
 rw[e2];exact this
end Go.Proofs.YtelibaobkcokdaaGreat.Mx.In
namespace Go.Proofs.YtelibaobkcokdaaGreat.Mx.In
set_option linter.unusedVariables false
set_option linter.unusedSimpArgs false
open Go Go.Kx Go.Proofs Go.Proofs.YtelibaobkcokdaaGreat Go.Proofs.YtelibaobkcokdaaGreat.Mx
set_option linter.unusedSectionVars false
def P1:Int→Pc:=fun id=>if id=1 then .own 0 .hold else .free
@[grind =] theorem P1_at (id:Int):P1 id=if id=1 then .own 0 .hold else .free:=rfl
set_option maxHeartbeats 4000000 in
theorem CI0 {T W:Int} {sI:Int→Int} {tk:Int→Int→Int→Int} {r:RC} (hst:∀k,r.st k=if k=0 then 4 else 0) (hho:∀k,r.ho k=if k=0 then 1 else 0) (hus:∀id,r.us id=decide (id=1)) (hfr:r.fr 1=⟨1,0,false,0,0,0,0⟩) (hJ:r.J 1=1)
  (hsw:∀l i,r.sw l i=0) (hnap:∀l,r.nap l=0) (hS:r.S=0):CI T W sI tk r P1 (fun _=>0) (fun _=>0) (fun _ _=>0):=by
 constructor
 all_goals grind (splits:=40)
theorem HV0 {T W:Int} {tk:Int→Int→Int→Int} {r:RC} (vt:(∀a b,1≤a→0≤b→tk a b 0≠0)∧∀a b a' b',1≤a→a < 1000000→0≤b→b < 1000000→1≤a'→a' < 1000000→0≤b'→b' < 1000000→tk a b 0=tk a' b' 0→a=a'∧b=b') (hst:∀k,r.st k=if k=0 then 4 else 0)
  (hfr:(r.fr 1).kind=1) (hdn:∀l i,r.dn l i=0) (h1:r.fin=fun _ _=>false) (h2:r.ns=fun _=>0) (h3:r.okS=true):HV T W tk r P1:=by
 have z:∀k,r.st k=0∨r.st k=4:=fun k=>by rw[hst];split<;>omega
 have y:∀k,cr (r.st k)=false:=fun k=>by rcases z k with e|e<;>rw[e]<;>rfl
 have x:∀l,P1 l≠.free→(r.fr l).kind≠3:=fun l hl=>by
  have:l=1:=by unfold P1 at hl;split at hl;{ assumption };exact absurd rfl hl
  rw[this,hfr];decide
 refine ⟨vt,fun s i e=>(by rw[h1] at e;cases e),fun k _ e=>(by have:=z k;omega),fun l j s i a _ b _ e=>absurd (e.symm.trans (hdn l j)) (vt.1 s i a b),fun k _ e=>(by have:=z k;omega),fun k _ e=>(by have:=z k;omega),fun k _ e=>(by rw[y] at e;cases e),fun k _ e=>(by rw[y] at e;cases e),fun l a b=>absurd b (x l a),fun s _=>by rw[h2],fun l a b=>absurd b (x l a),h3⟩
theorem DQI0 {D:Int} (hD:0≤D) {sI:Int→Int} {W:Nat} {r:DR} {P:Int→Pc} (h1:∀k,r.st k=0∨r.st k=4) (h2:∀k,r.ta k=0) (h3:∀k,(r.dq k).nx=.nil) (h4:∀j,r.hd j=0) (h5:∀j,r.tl j=0):
  DQI D sI W r P (fun _=>0) (fun _=>0) (fun _=>0):=by
 constructor
 all_goals grind (splits:=40)
theorem cnt_zero {n:Nat} {f:Nat→Int} {p:Int} (h:∀i,i < n→f i≠p):cnt n f p=0:=by
 induction n with
 | zero=>rfl
 | succ n ih=>unfold cnt;rw[ih fun i hi=>h i ka,if_neg (h n ka)];rfl
theorem Y17 (q:Pm) (n:Nat) (a:Lo):lw q (List.replicate n 0) a=0:=by
 unfold lw ldW;split
 ·rw[List.getD_eq_getElem?_getD,List.getElem?_replicate];split<;>rfl
 ·rfl
theorem mkM_IT {q:Pm} (hq:q.Ok) (M:Nat) (inp:List Int):IT q (mkM q M inp) (0:Nat):=by
 have hW:=hq.1;have hF:=hq.2.2.1;have hc:=mkM_cnt hq M inp;have hk:=mkM_ok hq M inp;have he:=mk0_eq hq M inp;have hws:((cs0 q M inp).ws.length:Int)=q.size:=by have:=hq.size_in;show ((List.replicate q.size.toNat (0:Int)).length:Int)=_;rw[List.length_replicate];omega
 have hhl:(cs0 q M inp).held.length=(cs0 q M inp).fr.length:=by simp[cs0]
 have hhF:((cs0 q M inp).held.length:Int)=q.F+1:=by simp[cs0];omega
 have hi:(1:Int)≤1∧1≤q.F:=⟨by omega,hF.1⟩
 have hwk:∀k,wkAt (mkM q M inp).l k=if k=0 then (wkNew 0).runs 1 else wkNew (wkAt (mkM q M inp).l k).own:=by
  intro k;unfold wkAt mkM;dsimp only;rw[List.getD_eq_getElem?_getD,List.getElem?_set];by_cases c:0=k
  ·subst c;rw[if_pos rfl,if_pos eG,if_pos rfl];rfl
  ·rw[if_neg c,if_neg (fun e=>c e.symm),List.getElem?_map];by_cases hk:k < q.W.toNat
   ·rw[List.getElem?_range hk];rfl
   ·rw[List.getElem?_eq_none eG];rfl
 have hst:∀k,(wkAt (mkM q M inp).l k).state=if k=0 then 4 else 0:=fun k=>by rw[hwk];split<;>rfl
 have hho:∀k,(wkAt (mkM q M inp).l k).holds=if k=0 then 1 else 0:=fun k=>by rw[hwk];split<;>rfl
 have hta:∀k,(wkAt (mkM q M inp).l k).tail=0:=fun k=>by rw[hwk];split<;>rfl
 have hdq:∀k,(wkAt (mkM q M inp).l k).dq=none:=fun k=>by rw[hwk];split<;>rfl
 have hat:∀(k:Nat) (w:Wk),(mkM q M inp).l[k]?=some w→w=wkAt (mkM q M inp).l k:=fun k w hw=>by unfold wkAt;rw[List.getD_eq_getElem?_getD,hw];rfl
 have hnone:∀(k:Nat) (w:Wk) (d:Dq),(mkM q M inp).l[k]?=some w→w.dq=some d→False:=fun k w d hw hd=>by have e:=hat k w hw;subst e;have:=hdq k;rw[hd] at this;cases this
 have hs4:∀(k:Nat) (w:Wk),(mkM q M inp).l[k]?=some w→w.state=0∨w.state=4:=fun k w hw=>by have e:=hat k w hw;subst e;rw[hst];split<;>omega
 have eC:=J2 (l:=(mkM q M inp).l) hq hws hhl hhF hi he;have eD:=J1 (l:=(mkM q M inp).l) hq hws hi he;obtain ⟨b,fr,hnx,hmk⟩:=X56 he;have hL:=(Len.rf (s:=cs0 q M inp)).m he;have hserial:(mk0 q M inp).serial=0:=by rw[hmk];rfl
 have hfr1:(aRC q (mk0 q M inp) (mkM q M inp).l).fr 1=⟨1,0,false,0,0,0,0⟩:=by rw[eC];rfl
 have hus:∀id,(aRC q (mk0 q M inp) (mkM q M inp).l).us id=decide (id=1):=fun id=>by
  rw[eC];show updI (aRC q (cs0 q M inp) (mkM q M inp).l).us 1 true id=_;unfold updI;by_cases c:id=1
  ·rw[if_pos c];simp[c]
  ·rw[if_neg c]
   have e:(cs0 q M inp).isHeld id=false:=by
    unfold Cs.isHeld;have:(cs0 q M inp).held.getD id.toNat false=false:=by show (List.replicate (q.F+1).toNat false).getD id.toNat false=false;rw[List.getD_eq_getElem?_getD,List.getElem?_replicate];split<;>rfl
    rw[this];simp
   show (cs0 q M inp).isHeld id=_;rw[e];simp[c]
 have hlog:(mk0 q M inp).log=[]:=by rw[hmk];rfl
 have hdn:∀l i,(aRC q (mk0 q M inp) (mkM q M inp).l).dn l i=0:=fun l i=>by
  rw[eC];show updZ (aRC q (cs0 q M inp) (mkM q M inp).l).dn 1 l i=0;unfold updZ;split
  ·rfl
  ·show (if 0≤i then lw q (cs0 q M inp).ws _ else 0)=0;rw[show lw q (cs0 q M inp).ws (Lo.f l (2+4 * i+3))=0 from Y17 q _ _];simp
 have hci:∀T W sI tk,CI T W sI tk (aRC q (mk0 q M inp) (mkM q M inp).l) P1 (fun _=>0) (fun _=>0) (fun _ _=>0):=fun T W sI tk=>by
  have z:∀a,lw q (cs0 q M inp).ws a=0:=fun a=>Y17 q _ a;refine CI0 hst hho hus hfr1 (by rw[eC];rfl) (fun l i=>?_) (fun l=>?_) hserial
  ·rw[eC];show updZ (aRC q (cs0 q M inp) (mkM q M inp).l).sw 1 l i=0;unfold updZ;split
   ·rfl
   ·show (if 0≤i then lw q (cs0 q M inp).ws _ else 0)=0;rw[z];simp
  ·rw[eC];show updI (aRC q (cs0 q M inp) (mkM q M inp).l).nap 1 0 l=0;unfold updI;split
   ·rfl
   ·exact z _
 refine ⟨⟨P1,fun _=>0,fun _=>0,fun _=>0,fun _=>0,fun _=>0,fun _ _=>0,⟨hq,?_,?_,hc.ln,hk.wk,hc.ow,hc.ar,?_,?_,hci _ _ _ _,⟨fun p hp=>?_,fun id hid=>?_⟩,fun k w d hw hd=>(hnone k w d hw hd).elim,fun k w d hw hd=>(hnone k w d hw hd).elim,fun k w hw ha=>?_,fun k w hw=>?_,fun k w d hw _ hd=>(hnone k w d hw hd).elim,HV0 ⟨fun a b h1 _=>Y16 h1,fun a b a' b' a1 a2 a3 a4 a5 a6 a7 a8 e=>by have:=Jh ka a2 a3 a4 (Int.le_refl 0) ka ka a6 a7 a8 (Int.le_refl 0) ka e;exact ⟨this.1,this.2.1⟩⟩ hst (congrArg Fe.kind hfr1) hdn (by show finL (mk0 q M inp).log=_;rw[hlog];rfl) (by show nsL (mk0 q M inp).log=_;rw[hlog];rfl) (by show okG _ _ (mk0 q M inp).log=true;rw[hlog];rfl)⟩,fun _=>Int.le_refl _,fun j _=>?_⟩,hc.st⟩
 ·show ((mk0 q M inp).ws.length:Int)=_;rw[hL.ws];exact hws
 ·show (mk0 q M inp).held.length=(mk0 q M inp).fr.length;rw[hL.he,hL.fr];exact hhl
 ·have e:=hc.st;have e':(mk0 q M inp).steps=0:=e;refine ⟨by show 0≤(mk0 q M inp).steps;omega,by show (mk0 q M inp).steps≤_;omega,by show (mk0 q M inp).serial≤(mk0 q M inp).steps;omega,fun id=>?_⟩;show ((aRC q (mk0 q M inp) (mkM q M inp).l).fr id).started≤(mk0 q M inp).steps;rw[eC];show (updI (aRC q (cs0 q M inp) (mkM q M inp).l).fr 1 _ id).started≤_;unfold updI;split
  ·show (0:Int)≤_;omega
  ·show ((cs0 q M inp).at id).started≤_
   have e2:(cs0 q M inp).at id=fm0:=by
    unfold Cs.at
    split
    ·show (List.replicate (q.F+1).toNat fm0).getD id.toNat fm0=fm0;rw[List.getD_eq_getElem?_getD,List.getElem?_replicate];split<;>rfl
    ·rfl
   rw[e2];show (0:Int)≤_;omega
 ·show DQI q.D (sD q) (mkM q M inp).l.length (aDR q (mk0 q M inp) (mkM q M inp).l) _ _ _ _;rw[eD];refine DQI0 (by have:=hq.2.2.2.1;omega) (fun k=>by have:=hst k;show (wkAt _ k).state=0∨(wkAt _ k).state=4;split at this<;>omega) hta (fun k=>by show (dv (wkAt _ k).dq).nx=_;rw[hdq];rfl) (fun j=>Y17 q _ _) (fun j=>Y17 q _ _)
 ·unfold CNT;rw[cnt_zero,cnt_zero]
  ·rfl
  ·intro i _;have:chW (aRC q (mk0 q M inp) (mkM q M inp).l) i=0:=by unfold chW;have e:=hst i;have e':(aRC q (mk0 q M inp) (mkM q M inp).l).st i=if i=0 then 4 else 0:=e;rw[e',if_neg (by split<;>decide)]
   show chW (aRC q (mk0 q M inp) (mkM q M inp).l) i≠p;rw[this];exact fun e=>hp e.symm
  ·intro i _;show chF (aRC q (mk0 q M inp) (mkM q M inp).l) P1 ((i:Int)+1)≠p;unfold chF;split
   ·rename_i c
    have e1:(i:Int)+1=1:=by
     by_cases e:(i:Int)+1=1
     ·exact e
     ·exact absurd (if_neg e) c.1
    rw[e1,hfr1];exact fun e=>hp e.symm
   ·exact fun e=>hp e.symm
 ·have:id=1:=by
   by_cases e:id=1
   ·exact e
   ·exact absurd (if_neg e) hid
  omega
 ·have:=hs4 k w hw;unfold atSt at ha;rcases this with e|e<;>(rw[e] at ha;simp at ha)
 ·exact QL (s:=w.state) (by have:=hs4 k w hw;omega)
 ·show 0≤lw q (mk0 q M inp).ws (.d j 3)∧lw q (mk0 q M inp).ws (.d j 3)≤lw q (mk0 q M inp).ws (.d j 2)∧lw q (mk0 q M inp).ws (.d j 2)≤0;have e1:∀i,lw q (mk0 q M inp).ws (.d j i)=0:=fun i=>by rw[hmk];show lw q (newW q (cs0 q M inp).ws 1) (.d j i)=0;rw[lw_new hq hws hi];exact Y17 q _ _
  rw[e1,e1];omega
end Go.Proofs.YtelibaobkcokdaaGreat.Mx.In
namespace Go.Proofs.YtelibaobkcokdaaGreat
open Go Go.Kx Go.Proofs
set_option linter.unusedVariables false
set_option maxRecDepth 100000
set_option maxHeartbeats 16000000
noncomputable def Q06:=qG Tryz.prog 4
end Go.Proofs.YtelibaobkcokdaaGreat
