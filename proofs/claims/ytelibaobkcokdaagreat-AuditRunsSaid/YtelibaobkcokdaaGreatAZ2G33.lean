/- The machine's invariant: loops that start iterations, and naps. -/
import Derived.Test.YtelibaobkcokdaaGreatAZ2G32
namespace Go.Proofs.YtelibaobkcokdaaGreat.Mx.In
set_option linter.unusedSectionVars false
set_option linter.unusedVariables false
set_option linter.unusedSimpArgs false
open Go Go.Kx Go.Proofs Go.Proofs.YtelibaobkcokdaaGreat Go.Proofs.YtelibaobkcokdaaGreat.Mx
set_option linter.unusedSectionVars false
section
variable {q:Pm} {m:Mc} {k:Nat} {n:Int} {P:Int→Pc} {H T:Nat→Int} {cl:Nat→Nat} {cn:Int→Int} {rg:Nat→Int} {pc:Int→Int→Int}
theorem mk_of {p:Pc} (h:isMk p=true):∃k,p=.own k .mk:=by
 cases p with
 | own k t=>cases t<;>first|exact ⟨k,rfl⟩|cases h
 | _=>cases h
theorem Be.start (h:Be q m k n P H T cl cn rg pc) (hs:(wkAt m.l k).state=19∨(wkAt m.l k).state=21)
  (hws:∀c,P c≠.free→((aRC q m.c m.l).fr c).kind=2→((aRC q m.c m.l).fr c).parent=(wkAt m.l k).holds→isLt (P c)=false→(m.c.at (wkAt m.l k).holds).started - q.T < ((aRC q m.c m.l).fr c).index):Af q m k n (startF q (wkAt m.l k,m.c)):=by
 have he:emp (wkAt m.l k).state=false:=by rcases hs with e|e<;>rw[e]<;>rfl
 have h3:(wkAt m.l k).state≠3:=by omega
 have hne:=h.ne he h3;have hp:=h.nf he h3;have hpo:P (wkAt m.l k).holds=.own k .hold:=by have:=h.ho he h3;rw[this];rcases hs with e|e<;>rw[e]<;>rfl
 have hh:=h.held hp;have hk3:(m.c.at (wkAt m.l k).holds).kind=3:=h.ci.c16c k h.kW (by rcases hs with e|e;exact .inr (.inl e);exact .inr (.inr (.inl e)));have hf3:=h.ci.f3 _ hp hk3;have hst0:0≤(m.c.at (wkAt m.l k).holds).started:=hf3.2.2.2;have hsd:=h.sd (wkAt m.l k).holds;have hn:=h.nn;have hT:=h.g.ok.2.1
 have hqs:∀c,P c≠.free→((aRC q m.c m.l).fr c).kind=2→((aRC q m.c m.l).fr c).parent=(aRC q m.c m.l).ho k→isLt (P c)=false→((aRC q m.c m.l).fr c).stage≠0:=by
  intro c c1 c2 c3 c4 c5
  cases hm:isMk (P c) with
  | true=>
   obtain ⟨j,ej⟩:=mk_of hm;obtain ⟨a1,a2,a3⟩:=h.ci.g8 c j ej;rcases a2 with a2|a2
   ·have:=(h.ci.c7 j a1 a2).2.1;rw[a3,c2] at this;cases this
   ·have b:=(h.ci.c7b j a1 a2).2.2.2.1;rw[a3,c3] at b;have hne':(aRC q m.c m.l).ho k≠0:=hne;have b1:=h.ci.c1 j a1 (by rw[←b];exact hne);rw[←b] at b1;have b2:P ((aRC q m.c m.l).ho k)=.own k .hold:=hpo;rw[b2] at b1;injection b1 with b3;subst b3;have a2':(wkAt m.l k).state=22∨(wkAt m.l k).state=23∨(wkAt m.l k).state=24:=a2;omega
  | false=>have b:=(h.ci.f9 c c1 c2 c5 hm).1;rw[c3] at b;have b2:P ((aRC q m.c m.l).ho k)=.own k .hold:=hpo;rw[b2] at b;cases b
 have hD:(aRC q m.c m.l).dn ((aRC q m.c m.l).ho k) (sR q ((aRC q m.c m.l).fr ((aRC q m.c m.l).ho k)).started)≠tokF ((aRC q m.c m.l).fr ((aRC q m.c m.l).ho k)).serial ((aRC q m.c m.l).fr ((aRC q m.c m.l).ho k)).started 0:=fun e=>absurd (h.ci.w3 ((aRC q m.c m.l).ho k) ((aRC q m.c m.l).fr ((aRC q m.c m.l).ho k)).started hp hk3 hst0 (by show (m.c.at (wkAt m.l k).holds).started < _;omega) e) (Int.lt_irrefl _);have hb:((aRC q m.c m.l).fr ((aRC q m.c m.l).ho k)).started+1 < 1000000:=by show (m.c.at (wkAt m.l k).holds).started+1 < _;omega
 have hw:w64 ((m.c.at (wkAt m.l k).holds).started+1)=(m.c.at (wkAt m.l k).holds).started+1:=Q54 ke ke;unfold startF;dsimp only;rw[hw]
 cases e:makeF q m.c ⟨2,(m.c.at (wkAt m.l k).holds).fn,0,(m.c.at (wkAt m.l k).holds).regs,(wkAt m.l k).holds,false,false,(m.c.at (wkAt m.l k).holds).started,0,0,0,0⟩ with
 | mk o s'=>
  cases o with
  | none=>dsimp only;rw[X75 e];exact h.nop (Q94 _ _ _ _) (Q70 _ _ _ _) (Len.rf.p _ _)
  | some id=>
   dsimp only;obtain ⟨hi,hf⟩:=h.made rfl rfl rfl e;have hid:(wkAt m.l k).holds≠id:=fun x=>hp (by rw[x];exact hf);have e1:=J2 (l:=m.l) h.g.ok h.g.ws h.g.hl h.g.ar.hl hi e;have hx:=(Len.rf (s:=m.c)).m e
   have hh':s'.isHeld (wkAt m.l k).holds=true:=by
    have:(aRC q s' m.l).us (wkAt m.l k).holds=true:=by rw[e1];show updI _ _ _ _=true;unfold updI;rw[if_neg hid];exact hh
    exact this
   refine h.sA 22 (h.ci.start h.kW hs hf ke hws hT.1 hb hqs hD ke) ?_ ((JF _ _ _ _ _).trans (J1 h.g.ok h.g.ws hi e)) (hPu (hP0 P) _ (by rw[hf];rfl)) (hx.i _ _ _) ⟨h.lim.1,by dsimp only;exact limU (limU h.lim.2 _ (by show (m.c.at (wkAt m.l k).holds).started+1≤_;omega)) _ (by show (0:Int)≤_;omega)⟩ ke ka (QL (s:=22) ka) (hst:=fun x _ h2=>(st_new hf _ x h2).trans (st_set (aRC q m.c m.l).fr (wkAt m.l k).holds (v:={ (aRC q m.c m.l).fr (wkAt m.l k).holds with started:=(m.c.at (wkAt m.l k).holds).started+1 }) rfl x));have es:s'.setIf (m.c.isHeld (wkAt m.l k).holds) (wkAt m.l k).holds { m.c.at (wkAt m.l k).holds with started:=(m.c.at (wkAt m.l k).holds).started+1 }=s'.setFr (wkAt m.l k).holds { m.c.at (wkAt m.l k).holds with started:=(m.c.at (wkAt m.l k).holds).started+1 }:=by rw[hh];rfl
   dsimp only;rw[es,Qq h.kl,X40 (by rw[hx.he,hx.fr];exact h.g.hl) hh',e1]
   have ef:updI (updI (aRC q m.c m.l).fr id (feOf ⟨2,(m.c.at (wkAt m.l k).holds).fn,0,(m.c.at (wkAt m.l k).holds).regs,(wkAt m.l k).holds,false,false,(m.c.at (wkAt m.l k).holds).started,0,0,0,0⟩)) (wkAt m.l k).holds (feOf { m.c.at (wkAt m.l k).holds with started:=(m.c.at (wkAt m.l k).holds).started+1 })=updI (updI (aRC q m.c m.l).fr (wkAt m.l k).holds { (aRC q m.c m.l).fr (wkAt m.l k).holds with started:=(m.c.at (wkAt m.l k).holds).started+1 }) id ⟨2,(wkAt m.l k).holds,false,(m.c.at (wkAt m.l k).holds).started,0,0,0⟩:=by
    funext i;unfold updI;by_cases c1:i=(wkAt m.l k).holds
    ·rw[if_pos c1,if_neg (by rw[c1];exact hid),if_pos c1];rfl
    ·rw[if_neg c1,if_neg c1];rfl
   rw[ef];exact agp
theorem Be.start21 (h:Be q m k n P H T cl cn rg pc) (hs:(wkAt m.l k).state=21):Af q m k n (startF q (wkAt m.l k,m.c)):=
 h.start (.inr hs) fun c c1 c2 c3 c4=>h.ci.c18 k h.kW hs c c1 c2 c3 c4
theorem Be.told (h:Be q m k n P H T cl cn rg pc) {l it ser:Int} (hp:P l≠.free) (hk:(m.c.at l).kind=3) (hser:(m.c.at l).serial=ser) (e:endedR q ⟨l,ser⟩ m.c.ws it=true):∀c,P c≠.free→((aRC q m.c m.l).fr c).kind=2→((aRC q m.c m.l).fr c).parent=l→((aRC q m.c m.l).fr c).index=it→isLt (P c)=true:=by intro c c1 c2 c3 c4;refine h.ci.w3b c c1 c2 ?_;have e':ldW m.c.ws (q.word l it 3)=tokF ser it 0:=of_decide_eq_true e;rw[dn_ld (l:=m.l) h.g.ok (h.inF hp)] at e';rw[c3,c4,e',←hser];rfl
theorem Be.loop (h:Be q m k n P H T cl cn rg pc) (hs:(wkAt m.l k).state=19):Af q m k n (loopF q (wkAt m.l k,m.c)):=by
 have h19:(aRC q m.c m.l).st k=19:=hs;have hp:=h.nf eN eI;have hpo:P (wkAt m.l k).holds=.own k .hold:=by have:=h.ho eN eI;rw[this,hs];rfl
 have hk3:(m.c.at (wkAt m.l k).holds).kind=3:=h.ci.c16c k h.kW (.inr (.inl h19));have hst0:0≤(m.c.at (wkAt m.l k).holds).started:=(h.ci.f3 _ hp hk3).2.2.2;have hsd:=h.sd (wkAt m.l k).holds;have hn:=h.nn;have hT:=h.g.ok.2.1;have hS:=h.sr;have hw:w64 ((m.c.at (wkAt m.l k).holds).started - q.T)=(m.c.at (wkAt m.l k).holds).started - q.T:=Q54 ke ke;unfold loopF;dsimp only;rw[hw];split
 ·rename_i c;refine h.start (.inl hs) fun x x1 x2 x3 x4=>?_;have:=(h.ci.f2 x x1 x2).2.2.1;omega
 rename_i c;have hn0:0≤((aRC q m.c m.l).fr ((aRC q m.c m.l).ho k)).started - q.T:=by show 0≤(m.c.at (wkAt m.l k).holds).started - q.T;omega
 split
 ·rename_i c2;have hd:=h.told hp hk3 rfl c2;refine h.sA 21 (h.ci.loop21 h.kW h19 hn0 hd) ?_ rfl (hP0 P) Len.rf h.lim ke ka (QL (s:=21) ka);dsimp only;rw[Qq h.kl];exact agp
 ·have hS':(aRC q m.c m.l).S < 1000000:=by show m.c.serial < _;omega
  refine h.sA 20 (h.ci.loopNap h.kW h19 hn0 hT.1 hS') ?_ rfl (hPu (hP0 P) _ oD) ⟨rfl,rfl,rfl,rfl⟩ h.lim ke ka ⟨fun _ e=>(by cases e),fun _ e=>(by cases e),fun _ e=>(by cases e),fun t _ ht=>(by cases ht;exact ⟨⟨rfl,rfl⟩,h.inF hp⟩)⟩;dsimp only;rw[Qq h.kl];exact agp
theorem Be.naps (h:Be q m k n P H T cl cn rg pc) (hs:(wkAt m.l k).state=20):Af q m k n (napsF q (wkAt m.l k,m.c)):=by
 have h20:(aRC q m.c m.l).st k=20:=hs;obtain ⟨t,et⟩:=h.ok.nap hs;have enp:(aRC q m.c m.l).np k=t:=by show (wkAt m.l k).nap.getD tw0=t;rw[et];rfl
 obtain ⟨⟨g1,g2⟩,hi⟩:=h.vr.2.2.2 t hs et;have h0:(wkAt m.l k).holds=0:=h.ci.c2 k h.kW (by rw[h20];rfl);have hc6:=h.ci.c6 k h.kW h20;rw[enp] at hc6;obtain ⟨d1,d2,d3,d4,d5⟩:=hc6;have d1':t.r.id=(wkAt m.l k).other:=d1;have hn:=h.nn;have hS:=h.sr;have hT:=h.g.ok.2.1;have hser:1≤t.r.serial∧t.r.serial≤m.c.serial:=d3;have hvr:∀t':Tw,t'.over=false→t'.won=false→t'.r=t.r→Vr q { wkAt m.l k with nap:=some t' }:=fun t' o1 o2 o3=>⟨fun _ e=>(by rw[show (wkAt m.l k).state=11 from e] at hs;cases hs),fun _ e=>(by rw[show (wkAt m.l k).state=13 from e] at hs;cases hs),fun _ e=>(by rw[show (wkAt m.l k).state=15 from e] at hs;cases hs),fun _ _ e=>(by cases e;exact ⟨⟨o1,o2⟩,by rw[o3];exact hi⟩)⟩
 have hgo:∀t':Tw,t'.over=true→t'.won=false→t.at_≠0→napStep q t m.c.ws=(t',m.c.ws)→Af q m k n (napsF q (wkAt m.l k,m.c)):=by
  intro t' o1 o2 o3 o4;have o3':((aRC q m.c m.l).np k).at_≠0:=by rw[enp];exact o3
  unfold napsF;dsimp only;rw[et];dsimp only;simp only[o4];rw[o1,if_neg ka,o2,if_neg ka,Z05];refine h.sP (h.ci.napGo h.kW h20 o3') ?_ rfl (hP0 P) Len.rf h.lim ke;dsimp only[Wk.goes];rw[Qq h.kl];have e0:upd (aRC q m.c m.l).ho k 0=(aRC q m.c m.l).ho:=by rw[←h0];exact Qi _ _
  dsimp only;rw[e0];exact agp
 rcases d2 with d2|d2|d2
 ·have d2':((aRC q m.c m.l).np k).at_=0:=by rw[enp];exact d2
  have e4:napStep q t m.c.ws=(t.go true,stW m.c.ws (q.nap t.r.id) (tokF t.r.serial t.it 0)):=by unfold napStep;rw[g1,if_neg ka,if_pos d2]
  have hat:(t.go true).at_=1:=by unfold Tw.go;dsimp only;rw[d2];rfl
  have hv:(t.go true).r=((aRC q m.c m.l).np k).r∧(t.go true).it=((aRC q m.c m.l).np k).it∧(t.go true).at_=1:=by rw[enp];exact ⟨rfl,rfl,hat⟩
  have hpo:=(h.ci.c6b k h.kW h20 d2').1;unfold napsF;dsimp only;rw[et];dsimp only;simp only[e4];rw[if_pos (by show (!true)=false;rfl)];refine h.sA 20 (h.ci.nap0 h.kW h20 d2' _ hv) ?_ (dr_nap h.g.ok h.g.ws hi _) (hPu (hP0 P) _ (by rw[hpo];rfl)) (Len.rf.w (Qm _ _ _)) h.lim ke ka (hvr _ rfl g2 rfl) hs (hgs:=fun ha=>h.gs ha);dsimp only;rw[Qq h.kl,rc_nap h.g.ok h.g.ws hi,enp];exact agp
 ·by_cases c:endedR q t.r m.c.ws t.it=true
  ·have e4:napStep q t m.c.ws=(t.go true,m.c.ws):=by unfold napStep;rw[g1,if_neg ka,if_neg ke,if_pos d2,c]
   have d2':((aRC q m.c m.l).np k).at_=1:=by rw[enp];exact d2
   have hat:(t.go true).at_=2:=by unfold Tw.go;dsimp only;rw[d2];rfl
   have hv:(t.go true).r=((aRC q m.c m.l).np k).r∧(t.go true).it=((aRC q m.c m.l).np k).it∧(t.go true).at_=2:=by rw[enp];exact ⟨rfl,rfl,hat⟩
   have hd:P ((aRC q m.c m.l).ot k)≠.free→((aRC q m.c m.l).fr ((aRC q m.c m.l).ot k)).kind=3→((aRC q m.c m.l).fr ((aRC q m.c m.l).ot k)).serial=((aRC q m.c m.l).np k).r.serial→∀c,P c≠.free→((aRC q m.c m.l).fr c).kind=2→((aRC q m.c m.l).fr c).parent=(aRC q m.c m.l).ot k→((aRC q m.c m.l).fr c).index=((aRC q m.c m.l).np k).it→isLt (P c)=true:=by
    rw[enp];intro b1 b2 b3;have c':endedR q ⟨(wkAt m.l k).other,t.r.serial⟩ m.c.ws t.it=true:=by rw[←d1'];exact c
    exact h.told (l:=(wkAt m.l k).other) b1 b2 b3 c'
   unfold napsF;dsimp only;rw[et];dsimp only;simp only[e4];rw[if_pos (by show (!true)=false;rfl),Z05];refine h.sA 20 (h.ci.nap1 h.kW h20 d2' _ hv hd) ?_ rfl (hP0 P) Len.rf h.lim ke ka (hvr _ rfl g2 rfl) hs (hgs:=fun ha=>h.gs ha);dsimp only;rw[Qq h.kl];exact agp
  ·have c':=Bool.eq_false_iff.2 c;exact hgo (t.go false) rfl g2 ke (by unfold napStep;rw[g1,if_neg ka,if_neg ke,if_pos d2,c'])
 ·by_cases c:ldW m.c.ws (q.nap t.r.id)=tokF t.r.serial t.it 0
  ·have e4:napStep q t m.c.ws=({ t with won:=true,over:=true },stW m.c.ws (q.nap t.r.id) 0):=by unfold napStep rouse swW;rw[g1,if_neg ka,if_neg ke,if_neg ke,if_pos c]
   have d2':((aRC q m.c m.l).np k).at_=2:=by rw[enp];exact d2
   have hnp:=nap_ld (l:=m.l) (s:=m.c) h.g.ok hi;obtain ⟨a1,a2,a3⟩:=h.ci.w4 t.r.id (by rw[←hnp,c];exact JC hser.1);have hp1:P t.r.id≠.free:=by rw[a1];exact fun e=>by cases e
   have hk3:(m.c.at t.r.id).kind=3:=h.ci.g2 _ a1;have hf3:=h.ci.f3 _ hp1 hk3;have hsr:1≤(m.c.at t.r.id).serial∧(m.c.at t.r.id).serial≤m.c.serial:=hf3.2.2.1;have hsd:=h.sd t.r.id;have a2':0≤(m.c.at t.r.id).started - q.T:=a2;have a3':(aRC q m.c m.l).nap t.r.id=tokF (m.c.at t.r.id).serial ((m.c.at t.r.id).started - q.T) 0:=a3;rw[←hnp,c] at a3';have b:=tok_inj ke ke d4.1 d4.2 ke ke ke ke a2' ke ke ke a3';rw[d1'] at a1 b;have q1:((aRC q m.c m.l).fr ((aRC q m.c m.l).ot k)).serial=((aRC q m.c m.l).np k).r.serial:=by rw[enp];exact b.1.symm
   have q2:((aRC q m.c m.l).fr ((aRC q m.c m.l).ot k)).started - q.T=((aRC q m.c m.l).np k).it:=by rw[enp];exact b.2.1.symm
   have a1':P ((aRC q m.c m.l).ot k)=.nap:=a1;unfold napsF;dsimp only;rw[et];dsimp only;simp only[e4];rw[if_neg ka,if_pos trivial];refine h.sA 21 (h.ci.nap2 h.kW h20 d2' a1' q1 q2) ?_ (dr_nap h.g.ok h.g.ws hi _) (hPu (hP0 P) _ (by rw[a1'];rfl)) (Len.rf.w (Qm _ _ _)) h.lim ke ka (QL (s:=21) ka);dsimp only;rw[Qq h.kl,rc_nap h.g.ok h.g.ws hi,d1'];exact agp
  ·exact hgo { t with won:=false,over:=true } rfl rfl ke (by unfold napStep rouse swW;rw[g1,if_neg ka,if_neg ke,if_neg ke,if_neg c])
theorem Be.count (h:Be q m k n P H T cl cn rg pc) (hs:(wkAt m.l k).state=22):Af q m k n (countF q (wkAt m.l k,m.c)):=by have h22:(aRC q m.c m.l).st k=22:=hs;have hi:=h.inF (h.nf eN eI);unfold countF;dsimp only;refine h.sA 23 (h.ci.count h.kW h22) ?_ (dr_wd h.g.ok h.g.ws hi _ ke ke _) (hP0 P) (Len.rf.w (Qm _ _ _)) h.lim ke ka (QL (s:=23) ka);dsimp only;rw[Qq h.kl,rc_ct h.g.ok h.g.ws hi];exact agp
theorem Be.name (h:Be q m k n P H T cl cn rg pc) (hs:(wkAt m.l k).state=23):Af q m k n (nameF2 q (wkAt m.l k,m.c)):=by have h23:(aRC q m.c m.l).st k=23:=hs;have hi:=h.inF (h.nf eN eI);have hI:∀a b,0≤a→a≤b→b - a≤q.T→sR q a=sR q b→a=b:=fun a b h0 h1 h2 e=>sR_inj a b h0 h1 h2 e;unfold nameF2;dsimp only;refine h.sA 24 (h.ci.name h.kW h23 hI) ?_ (dr_wd h.g.ok h.g.ws hi _ ke ke _) (hP0 P) (Len.rf.w (Qm _ _ _)) h.lim ke ka (QL (s:=24) ka);dsimp only;rw[Qq h.kl,rc_lk h.g.ok h.g.ws hi];exact agp
theorem Be.joins (h:Be q m k n P H T cl cn rg pc) (hs:(wkAt m.l k).state=24):Af q m k n (joinsF q (wkAt m.l k,m.c)):=by
 have h24:(aRC q m.c m.l).st k=24:=hs;have hp:=h.nf eN eI;have hpo:P (wkAt m.l k).holds=.own k .hold:=by have:=h.ho eN eI;rw[this,hs];rfl
 have hi:=h.inF hp;have hc:=(h.ci.c7b k h.kW (.inr (.inr h24))).1;have e1:=rc_J (l:=m.l) h.g.ok h.g.ws hi ((aRC q m.c m.l).J (wkAt m.l k).holds+1);have e2:aDR q (m.c.setW (stW m.c.ws (q.frame (wkAt m.l k).holds) ((aRC q m.c m.l).J (wkAt m.l k).holds+1))) m.l=aDR q m.c m.l:=dr_J h.g.ok h.g.ws hi _;have e3:Len m.c (m.c.setW (stW m.c.ws (q.frame (wkAt m.l k).holds) ((aRC q m.c m.l).J (wkAt m.l k).holds+1))):=Len.rf.w (Qm _ _ _);unfold joinsF noteF;dsimp only;rw[h.ja hp];refine h.sA 4 (h.ci.joins h.kW h24) ?_ e2 (hPu (hPu (hP0 P) _ oD) _ (by rw[hc];rfl)) ((e3.n _).n _) h.lim ke ka (QL (s:=4) ka);dsimp only[Wk.runs];rw[Qq h.kl,JE,JE,e1];exact agp
end
variable {T:Int} {F W:Nat} {sI:Int→Int} {tk:Int→Int→Int→Int} {r:RC} {P:Int→Pc} {cn:Int→Int} {rg:Nat→Int} {pc:Int→Int→Int}
set_option maxHeartbeats 40000000 in
theorem CN.pushTakesL (h:CN T F W sI tk r P cn rg pc) {k:Nat} (hk:(k:Int) < (W:Int)) (h1:r.st k=3) {id:Int} (ht0:r.th k=.takes id) (hkd:(r.fr id).kind=3) {j:Nat} {n:Int}:
  CN T F W sI tk { r with st:=upd r.st k (19),ho:=upd r.ho k (id) } (updI (updI P (r.px k) (.deq j n)) id (.own k .hold)) cn rg pc:=by
 obtain ⟨q1,q2,q3,q4,q5⟩:=h.c10b k hk h1 id ht0;exact {}
section
variable {q:Pm} {m:Mc} {k:Nat} {n:Int} {P:Int→Pc} {H T:Nat→Int} {cl:Nat→Nat} {cn:Int→Int} {rg:Nat→Int} {pc:Int→Int→Int}
theorem wk_of19 {w:Wk} (h:w.state=19):WkOk w:=
 ⟨by omega,fun _=>by omega,fun _=>by omega,fun _=>by omega,fun _=>by omega,fun _=>by omega,fun _=>by omega⟩
theorem Tk.mono {W:Nat} {r r':DR} {n:Int} (h:Tk W r n) (e1:r'.sv=r.sv) (e2:r'.nt=r.nt):Tk W r' (n+1):=by intro j hj;have:=h j hj;rw[e1,e2];omega
theorem Be.seek (h:Be q m k n P H T cl cn rg pc) (ht:Tk m.l.length (aDR q m.c m.l) n) (hs:(wkAt m.l k).state=0) (victim:Int):Af q m k n (seekF q (wkAt m.l k,m.c) victim):=by
 have h0:(aRC q m.c m.l).st k=0:=hs;have hpr:=h.pr;have hW:=h.g.ok.1;have hown:=h.own;have hn:=h.nn;have hrm:0≤(max victim 0) % q.W∧(max victim 0) % q.W < q.W:=⟨Int.emod_nonneg _ ke,Int.emod_lt_of_pos _ ke⟩;have hv:0≤(w64 ((max victim 0) % q.W+(wkAt m.l k).probed)).tmod q.W∧(w64 ((max victim 0) % q.W+(wkAt m.l k).probed)).tmod q.W < q.W:=by rw[Q54 ke ke];exact ⟨Int.tmod_nonneg _ ke,Int.tmod_lt_of_pos _ ke⟩
 unfold seekF;dsimp only;generalize (w64 ((max victim 0) % q.W+(wkAt m.l k).probed)).tmod q.W=v at hv ⊢;split
 ·refine h.sA (wkAt m.l k).state h.ci ?_ rfl (hP0 P) ⟨rfl,rfl,rfl,rfl⟩ h.lim ke ke (QL (s:=(wkAt m.l k).state) ke) (hgs:=fun ha=>h.gs ha);dsimp only;rw[Qq h.kl];exact agp
 ·unfold stepD dqStep dqNext dqSteal;dsimp only;have hj:((v.toNat:Nat):Int)=v:=by omega
  have hjW:((v.toNat:Nat):Int) < q.W:=by omega
  have hln:=h.g.ln;have hjl:v.toNat < m.l.length:=by omega
  have htk:=ht v.toNat hjl;have hl:=nt_ld h.g hjW;rw[hj] at hl;unfold addW;rw[←hl,show w64 ((aDR q m.c m.l).nt v.toNat+1)=(aDR q m.c m.l).nt v.toNat+1 from Q54 ke ke];have hrc:=nt_rc h.g hjW ((aDR q m.c m.l).nt v.toNat+1);have hdr:=dr_nt (l:=m.l) h.g.ok h.g.ws hjW ((aDR q m.c m.l).nt v.toNat+1);rw[hj] at hrc hdr;have hL:Len m.c (m.c.setW (stW m.c.ws (q.base v+2) ((aDR q m.c m.l).nt v.toNat+1))):=Len.rf.w (Qm _ _ _);have es:∀p,({ m.c with probes:=p }:Cs).setW (stW m.c.ws (q.base v+2) ((aDR q m.c m.l).nt v.toNat+1))={ m.c.setW (stW m.c.ws (q.base v+2) ((aDR q m.c m.l).nt v.toNat+1)) with probes:=p }:=fun _=>rfl;rw[es];have hrc':∀p,aRC q { m.c.setW (stW m.c.ws (q.base v+2) ((aDR q m.c m.l).nt v.toNat+1)) with probes:=p } m.l=aRC q m.c m.l:=fun _=>hrc;have hdr':∀p l,aDR q { m.c.setW (stW m.c.ws (q.base v+2) ((aDR q m.c m.l).nt v.toNat+1)) with probes:=p } l=aDR q (m.c.setW (stW m.c.ws (q.base v+2) ((aDR q m.c m.l).nt v.toNat+1))) l:=fun _ _=>rfl;have eD:aDR q (m.c.setW (stW m.c.ws (q.base v+2) ((aDR q m.c m.l).nt v.toNat+1))) (m.l.set k { wkAt m.l k with probed:=w64 ((wkAt m.l k).probed+1),dq:=some ⟨v,0,0,0,q.base v+2,(aDR q m.c m.l).nt v.toNat,.mineF,false,false⟩,state:=1 })={ aDR q m.c m.l with st:=upd (aDR q m.c m.l).st k 1,dq:=upd (aDR q m.c m.l).dq k (dv (some ⟨v,0,0,0,q.base v+2,(aDR q m.c m.l).nt v.toNat,.mineF,false,false⟩)),nt:=upd (aDR q m.c m.l).nt v.toNat ((aDR q m.c m.l).nt v.toNat+1) }:=by rw[X39 h.kl,hdr];have e1:upd (aDR q m.c m.l).ta k (wkAt m.l k).tail=(aDR q m.c m.l).ta:=Qi _ _;dsimp only;rw[e1]
  refine h.to (T':=T) (H':=H) (cl':=cl) ⟨hL.ws,hL.fr,hL.he,hL.st⟩ rfl h.tb ?_ ?_ (R:={ aRC q m.c m.l with st:=upd (aRC q m.c m.l).st k 1 }) ?_ (h.ci.idle h.kW (by rw[h0];rfl) (.inl h0) 1 (.inr (.inl rfl))) h.lim (fun d hd _=>?_) (fun d hd _=>?_) (QL (s:=1) ka) (fun _ _ _=>rfl) (fun ha=>by cases ha)
  ·dsimp only;rw[hdr',eD];intro j hj';have:=ht j hj';show 0≤(aDR q m.c m.l).sv j∧(aDR q m.c m.l).sv j≤upd (aDR q m.c m.l).nt v.toNat _ j∧upd (aDR q m.c m.l).nt v.toNat _ j≤n+1;unfold upd;split
   ·rename_i e;subst e;omega
   ·omega
  ·dsimp only;rw[hdr',eD];exact h.g.dq.begSteal h.kl h0 (d:=dv (some ⟨v,0,0,0,q.base v+2,(aDR q m.c m.l).nt v.toNat,.mineF,false,false⟩)) hjl rfl rfl rfl htk.2.1
  ·dsimp only;rw[Qq h.kl,hrc'];exact agp
  ·cases hd;rfl
  ·cases hd;exact hv
theorem Be.walkOn (h:Be q m k n P H T cl cn rg pc) (ht:Tk m.l.length (aDR q m.c m.l) n) {d:Dq} (hd:(wkAt m.l k).dq=some d) (hs:(wkAt m.l k).state=1∨(wkAt m.l k).state=2∨(wkAt m.l k).state=3)
  (hB:InvB q ⟨m.c.setW (dqNext q d m.c.ws).2,m.l.set k { wkAt m.l k with dq:=some (dqNext q d m.c.ws).1 }⟩ n):Af q m k n ({ wkAt m.l k with dq:=some (dqNext q d m.c.ws).1 },m.c.setW (dqNext q d m.c.ws).2):=by
 intro _ _;obtain ⟨P',H',T',cl',cn',rg',pc',hi,hT⟩:=hB;have hn:=h.nn;have hln:=h.g.ln;have hwh:=h.g.wh k _ d h.hw hd hs;have hk0:=h.g.dq.k0 k h.kl;have e3:(aDR q m.c m.l).dq k=dv (some d):=by show dv (wkAt m.l k).dq=_;rw[hd]
 rw[e3] at hk0;refine ⟨P',H',T',cl',cn',rg',pc',hi,fun j=>by have:=hT j;omega,?_⟩;have:=ht.next (l':=m.l.set k { wkAt m.l k with dq:=some (dqNext q d m.c.ws).1 }) h.g.ok h.g.ws ke hwh.1 hwh.2 ke (h.g.ta k _ d h.hw hd) hk0;dsimp only;rw[List.length_set];exact this
theorem Be.dqk (h:Be q m k n P H T cl cn rg pc) {d:Dq} (hd:(wkAt m.l k).dq=some d):(aDR q m.c m.l).dq k=dv (some d):=by show dv (wkAt m.l k).dq=_;rw[hd]
theorem X77 (s:Cs) (w:Wk) (id:Int) (h:s.isHeld id=true):w.takes s id=if (s.at id).kind=3 then w.loops id else w.runs id:=by
 unfold Wk.takes;by_cases c:(s.at id).kind=3
 ·rw[if_pos ⟨h,c⟩,if_pos c]
 ·rw[if_neg fun x=>c x.2,if_neg c]
theorem Be.steal (h:Be q m k n P H T cl cn rg pc) (hT:∀j,T j≤n) (ht:Tk m.l.length (aDR q m.c m.l) n) (hs:(wkAt m.l k).state=1):Af q m k n (stealF q (wkAt m.l k,m.c)):=by
 have h1:(aRC q m.c m.l).st k=1:=hs;have h1d:(aDR q m.c m.l).st k=1:=hs;obtain ⟨d,hd⟩:=h.ok.dq (.inl hs);have hn:=h.nn;have hln:=h.g.ln;by_cases c:(dqNext q d m.c.ws).1.nx=.nil
 ·
  have hdk:=h.dqk hd;have ht0:=h.g.dq.t0 k h.kl h1d;rw[hdk] at ht0
  have hnx:d.nx=.leaveN:=by
   have hst:isSteal d.nx=true:=ht0.2;cases hx:d.nx
   all_goals (rw[hx] at hst;try (cases hst;done))
   all_goals (unfold dqNext at c;rw[hx] at c;dsimp only at c)
   all_goals first|rfl|(cases c;done)|(split at c<;>first|(cases c;done)|(rw[hx] at c;cases c;done))
  have hwh:=h.g.wh k _ d h.hw hd (.inl hs);have hj:((d.who.toNat:Nat):Int)=d.who:=by omega
  have hjW:((d.who.toNat:Nat):Int) < q.W:=by omega
  have hjl:d.who.toNat < m.l.length:=by omega
  have hta:=h.g.ta k _ d h.hw hd (by rw[hnx];rfl);have hk0:=h.g.dq.k0 k h.kl (by rw[hdk];show inq d.nx=true;rw[hnx];rfl);rw[hdk] at hk0;have hk0':(aDR q m.c m.l).sv d.who.toNat≤d.tn∧d.tn < (aDR q m.c m.l).nt d.who.toNat:=hk0;have htk:=ht d.who.toNat hjl;have ew:w64 (d.tn+1)=d.tn+1:=Q54 ke ke;have ea:d.ta+1=q.base d.who+3:=by omega
  have e4:dqNext q d m.c.ws=({ d with nx:=.nil },stW m.c.ws (q.base d.who+3) (d.tn+1)):=by unfold dqNext;rw[hnx];dsimp only;rw[ea,ew]
  have hrc:=sv_rc h.g hjW (d.tn+1);have hdr:=dr_sv (l:=m.l) h.g.ok h.g.ws hjW (d.tn+1);rw[hj] at hrc hdr;have hL:Len m.c (m.c.setW (stW m.c.ws (q.base d.who+3) (d.tn+1))):=Len.rf.w (Qm _ _ _);have htkN:∀l',Tk m.l.length (aDR q (m.c.setW (stW m.c.ws (q.base d.who+3) (d.tn+1))) l') (n+1):=fun l'=>by have:=ht.next (l':=l') h.g.ok h.g.ws ke hwh.1 hwh.2 hjl (h.g.ta k _ d h.hw hd) (fun _=>hk0');rw[e4] at this;exact this
  have hnx':((aDR q m.c m.l).dq k).nx=.leaveN:=by rw[hdk];exact hnx
  have eD:∀w':Wk,w'.tail=(wkAt m.l k).tail→w'.dq=some { d with nx:=.nil }→aDR q (m.c.setW (stW m.c.ws (q.base d.who+3) (d.tn+1))) (m.l.set k w')={ aDR q m.c m.l with dq:=upd (aDR q m.c m.l).dq k (dv (some { d with nx:=.nil })),sv:=upd (aDR q m.c m.l).sv d.who.toNat (d.tn+1),st:=upd (aDR q m.c m.l).st k w'.state }:=fun w' a b=>by rw[X39 h.kl,hdr,a,b];have e1:upd (aDR q m.c m.l).ta k (wkAt m.l k).tail=(aDR q m.c m.l).ta:=Qi _ _;dsimp only;rw[e1]
  unfold stealF stepD dqStep;dsimp only;rw[hd];dsimp only;simp only[e4];rw[if_neg (show ¬dqEnded (some { d with nx:=.nil })=false from fun e=>by cases e)];by_cases hg:d.got=true
  ·have hg':((aDR q m.c m.l).dq k).got=true:=by rw[hdk];exact hg
   have hpx:=h.g.dq.t5 k h.kl h1d hnx' hg';rw[hdk] at hpx;have hpx':P d.x=.own k .got:=hpx;have hp:P d.x≠.free:=by rw[hpx'];exact fun e=>by cases e
   have eg:dqGets (some { d with nx:=.nil })=(d.x,true):=if_pos ⟨rfl,hg⟩;rw[eg];dsimp only;rw[if_neg ka];have hL':∀p,Len m.c { m.c.setW (stW m.c.ws (q.base d.who+3) (d.tn+1)) with steals:=p }:=fun _=>⟨hL.ws,hL.fr,hL.he,hL.st⟩;have hrc':∀p,aRC q { m.c.setW (stW m.c.ws (q.base d.who+3) (d.tn+1)) with steals:=p } m.l=aRC q m.c m.l:=fun _=>hrc;have eD':∀p,∀w':Wk,w'.tail=(wkAt m.l k).tail→w'.dq=some { d with nx:=.nil }→aDR q { m.c.setW (stW m.c.ws (q.base d.who+3) (d.tn+1)) with steals:=p } (m.l.set k w')={ aDR q m.c m.l with dq:=upd (aDR q m.c m.l).dq k (dv (some { d with nx:=.nil })),sv:=upd (aDR q m.c m.l).sv d.who.toNat (d.tn+1),st:=upd (aDR q m.c m.l).st k w'.state }:=fun _=>eD;have htk':∀p l',Tk m.l.length (aDR q { m.c.setW (stW m.c.ws (q.base d.who+3) (d.tn+1)) with steals:=p } l') (n+1):=fun _=>htkN;have etk:∀(p:Int) (w:Wk),w.takes { m.c.setW (stW m.c.ws (q.base d.who+3) (d.tn+1)) with steals:=p } d.x=if (m.c.at d.x).kind=3 then w.loops d.x else w.runs d.x:=fun p w=>X77 _ _ _ (h.held hp);rw[etk];generalize w64 ((m.c.setW (stW m.c.ws (q.base d.who+3) (d.tn+1))).steals+1)=p;split
   ·rename_i c3;have hD:=h.g.dq.leaveSY h.kl h1d (e:=dv (some { d with nx:=.nil })) hnx' hg' rfl 19 ka;rw[hdk] at hD;refine h.to (T':=T) (hL' p) rfl h.tb (htk' p _) (by dsimp only;rw[eD' p _ ku ku];exact hD) ?_ (h.ci.takeL h.kW (.inl h1) hpx' c3) h.lim (fun d' hd' hi=>by cases hd';cases hi) (fun d' hd' hx=>by cases hd';exact hwh) (QL (s:=19) ka) (fun _ _ _=>rfl) (fun ha=>by cases ha);dsimp only[Wk.loops];rw[Qq h.kl,hrc'];exact agp
   ·rename_i c3;have hD:=h.g.dq.leaveSY h.kl h1d (e:=dv (some { d with nx:=.nil })) hnx' hg' rfl 4 ka;rw[hdk] at hD;refine h.to (T':=T) (hL' p) rfl h.tb (htk' p _) (by dsimp only;rw[eD' p _ ku ku];exact hD) ?_ (h.ci.takeR h.kW (.inl h1) hpx' c3) h.lim (fun d' hd' hi=>by cases hd';cases hi) (fun d' hd' hx=>by cases hd';exact hwh) (QL (s:=4) ka) (fun _ _ _=>rfl) (fun ha=>by cases ha);dsimp only[Wk.runs];rw[Qq h.kl,hrc'];exact agp
  ·have eg:dqGets (some { d with nx:=.nil })=(0,false):=if_neg fun x=>hg x.2;rw[eg,if_pos rfl];have hD:=h.g.dq.leaveSN h.kl h1d (e:=dv (some { d with nx:=.nil })) hnx' rfl;rw[hdk] at hD;refine h.to (T':=T) hL rfl h.tb (htkN _) (by dsimp only;rw[eD _ ku ku];exact hD) ?_ (h.ci.idle h.kW (by rw[h1];rfl) (.inr (.inl h1)) 0 (.inl rfl)) h.lim (fun d' hd' hi=>by cases hd';cases hi) (fun d' hd' hx=>by cases hd';exact hwh) (QL (s:=0) ka) (fun _ _ _=>rfl) (fun ha=>by cases ha);dsimp only;rw[Qq h.kl,hrc];exact agp
 ·have e:stealF q (wkAt m.l k,m.c)=({ wkAt m.l k with dq:=some (dqNext q d m.c.ws).1 },m.c.setW (dqNext q d m.c.ws).2):=by unfold stealF stepD dqStep;dsimp only;rw[hd];dsimp only;rw[if_pos];exact decide_eq_false c
  rw[e];exact h.walkOn ht hd (.inl hs) (h.g.stealOn h.hw hs hd hT ke c)
theorem Be.pop (h:Be q m k n P H T cl cn rg pc) (hT:∀j,T j≤n) (ht:Tk m.l.length (aDR q m.c m.l) n) (hs:(wkAt m.l k).state=2):Af q m k n (popF q (wkAt m.l k,m.c)):=by
 have h2:(aRC q m.c m.l).st k=2:=hs;have h2d:(aDR q m.c m.l).st k=2:=hs;obtain ⟨d,hd⟩:=h.ok.dq (.inr (.inl hs));have hn:=h.nn;have hln:=h.g.ln;have hkq:=h.kq;have hdk:=h.dqk hd;have hq0:=h.g.dq.q0 k h.kl h2d;rw[hdk] at hq0;have hwh:=h.g.wh k _ d h.hw hd (.inr (.inl hs));have hwho:d.who.toNat=k:=hq0.1;have hwi:d.who=k:=by omega
 have htk:=ht k h.kl;by_cases c:(dqNext q d m.c.ws).1.nx=.nil
 ·have hnx:d.nx=.takes∨d.nx=.leaveN:=by
   have hst:isPop d.nx=true:=hq0.2;cases hx:d.nx
   all_goals (rw[hx] at hst;try (cases hst;done))
   all_goals (unfold dqNext at c;rw[hx] at c;dsimp only at c)
   all_goals first|exact .inl rfl|exact .inr rfl|(cases c;done)|(split at c<;>first|(cases c;done)|(rw[hx] at c;cases c;done))
  rcases hnx with hnx|hnx
  ·have hnx':((aDR q m.c m.l).dq k).nx=.takes:=by rw[hdk];exact hnx
   have hq1:=h.g.dq.q1 k h.kl h2d (.inl hnx');rw[hdk] at hq1;have hTk:=hT k;have hrg:=h.g.dq.rg k h.kl;have hq1':d.t=T k+1:=hq1.1;have ew:w64 (d.t - 1)=d.t - 1:=Q54 ke ke;have hsl:=sl_ld h.g hkq (d.t - 1);have e4:dqNext q d m.c.ws=({ d with t:=d.t - 1,x:=(aDR q m.c m.l).sl k (sD q (d.t - 1)),got:=true,nx:=.nil },m.c.ws):=by unfold dqNext;rw[hnx];dsimp only;rw[ew,hwi,←hsl]
   have hpx:P ((aDR q m.c m.l).sl k (sD q (d.t - 1)))=.own k .got:=by rw[show d.t - 1=T k by omega];exact hq1.2.2
   have hp:P ((aDR q m.c m.l).sl k (sD q (d.t - 1)))≠.free:=by rw[hpx];exact fun e=>by cases e
   have eg:dqGets (some { d with t:=d.t - 1,x:=(aDR q m.c m.l).sl k (sD q (d.t - 1)),got:=true,nx:=.nil })=((aDR q m.c m.l).sl k (sD q (d.t - 1)),true):=rfl;unfold popF stepD dqStep;dsimp only;rw[hd];dsimp only;simp only[e4];rw[if_neg (show ¬dqEnded (some { d with t:=d.t - 1,x:=(aDR q m.c m.l).sl k (sD q (d.t - 1)),got:=true,nx:=.nil })=false from fun e=>by cases e),eg,Z05];dsimp only;rw[if_neg ka];rw[X77 _ _ _ (h.held hp)];split
   ·rename_i c3;have hD:=h.g.dq.takes h.kl h2d (e:=dv (some { d with t:=d.t - 1,x:=(aDR q m.c m.l).sl k (sD q (d.t - 1)),got:=true,nx:=.nil })) hnx' rfl 19 ka;rw[hdk] at hD;refine h.to (T':=T) Len.rf rfl h.tb (h.tk1 rfl rfl) (by dsimp only;rw[X39 h.kl];exact hD) ?_ (h.ci.takeL h.kW (.inr h2) hpx c3) h.lim (fun d' hd' hi=>by cases hd';cases hi) (fun d' hd' hx=>by cases hd';exact hwh) (QL (s:=19) ka) (fun _ _ _=>rfl) (fun ha=>by cases ha);dsimp only[Wk.loops];rw[Qq h.kl];exact agp
   ·rename_i c3;have hD:=h.g.dq.takes h.kl h2d (e:=dv (some { d with t:=d.t - 1,x:=(aDR q m.c m.l).sl k (sD q (d.t - 1)),got:=true,nx:=.nil })) hnx' rfl 4 ka;rw[hdk] at hD;refine h.to (T':=T) Len.rf rfl h.tb (h.tk1 rfl rfl) (by dsimp only;rw[X39 h.kl];exact hD) ?_ (h.ci.takeR h.kW (.inr h2) hpx c3) h.lim (fun d' hd' hi=>by cases hd';cases hi) (fun d' hd' hx=>by cases hd';exact hwh) (QL (s:=4) ka) (fun _ _ _=>rfl) (fun ha=>by cases ha);dsimp only[Wk.runs];rw[Qq h.kl];exact agp
  ·have hnx':((aDR q m.c m.l).dq k).nx=.leaveN:=by rw[hdk];exact hnx
   have hta:=h.g.ta k _ d h.hw hd (by rw[hnx];rfl);have hk0:=h.g.dq.k0 k h.kl (by rw[hdk];show inq d.nx=true;rw[hnx];rfl);rw[hdk] at hk0;have hk0':(aDR q m.c m.l).sv d.who.toNat≤d.tn∧d.tn < (aDR q m.c m.l).nt d.who.toNat:=hk0;have hk1:=hk0';rw[hwho] at hk1;have hgot:d.got=false:=by have:=h.g.dq.t7 k h.kl h2d;rw[hdk] at this;exact this
   have ew:w64 (d.tn+1)=d.tn+1:=Q54 ke ke;have ea:d.ta+1=q.base (k:Int)+3:=by rw[hta,hwi];omega
   have e4:dqNext q d m.c.ws=({ d with nx:=.nil },stW m.c.ws (q.base (k:Int)+3) (d.tn+1)):=by unfold dqNext;rw[hnx];dsimp only;rw[ea,ew]
   have hrc:=sv_rc h.g hkq (d.tn+1);have hdr:=dr_sv (l:=m.l) h.g.ok h.g.ws hkq (d.tn+1);have hL:Len m.c (m.c.setW (stW m.c.ws (q.base (k:Int)+3) (d.tn+1))):=Len.rf.w (Qm _ _ _);have htkN:∀l',Tk m.l.length (aDR q (m.c.setW (stW m.c.ws (q.base (k:Int)+3) (d.tn+1))) l') (n+1):=fun l'=>by have:=ht.next (l':=l') h.g.ok h.g.ws ke hwh.1 hwh.2 ke (h.g.ta k _ d h.hw hd) (fun _=>hk0');rw[e4] at this;exact this
   have eg:dqGets (some { d with nx:=.nil })=(0,false):=if_neg fun x=>by rw[hgot] at x;cases x.2
   unfold popF stepD dqStep;dsimp only;rw[hd];dsimp only;simp only[e4];rw[if_neg (show ¬dqEnded (some { d with nx:=.nil })=false from fun e=>by cases e),eg,if_pos rfl];have hD:=h.g.dq.leaveP h.kl h2d (e:=dv (some { d with nx:=.nil })) hnx' rfl;rw[hdk] at hD;refine h.to (T':=T) hL rfl h.tb (htkN _) (by dsimp only;rw[X39 h.kl,hdr];exact hD) ?_ (h.ci.idle h.kW (by rw[h2];rfl) (.inr (.inr h2)) 0 (.inl rfl)) h.lim (fun d' hd' hi=>by cases hd';cases hi) (fun d' hd' hx=>by cases hd';exact hwh) (QL (s:=0) ka) (fun _ _ _=>rfl) (fun ha=>by cases ha);dsimp only;rw[Qq h.kl,hrc];exact agp
 ·have e:popF q (wkAt m.l k,m.c)=({ wkAt m.l k with dq:=some (dqNext q d m.c.ws).1 },m.c.setW (dqNext q d m.c.ws).2):=by unfold popF stepD dqStep;dsimp only;rw[hd];dsimp only;rw[if_pos];exact decide_eq_false c
  rw[e];exact h.walkOn ht hd (.inr (.inl hs)) (h.g.popOn h.hw hs hd hT ke ke c)
theorem Be.grown (h:Be q m k n P H T cl cn rg pc) (hT:∀j,T j≤n) (hs:(wkAt m.l k).state=3) {d:Dq} (hd:(wkAt m.l k).dq=some d) (hnx:d.nx=.grow) {y:WC} {R:RC} {P':Int→Pc} {cn':Int→Int}
  (hc:y.2=m.c.setW (stW m.c.ws (q.base (k:Int)+1) (d.t+1))) (hp:nd (P d.x)=true) (hci:CN q.T q.F.toNat m.l.length (sR q) tokF R P' cn' rg pc) (a:AgP P' R (aRC q m.c (m.l.set k y.1)))
  (hP:∀id,P' id=updI P d.x (.deq k d.t) id∨nd (updI P d.x (.deq k d.t) id)=true) (hlim:R.S≤n∧∀id,(R.fr id).started≤n) (st':Int) (h2:st'≠1∧st'≠2∧st'≠3) (e2:y.1.state=st') (hvr:Vr q y.1)
  (how:y.1.own=(wkAt m.l k).own) (hq:y.1.dq=some { d with t:=d.t+1,nx:=.nil }) (ht:y.1.tail=d.t+1) (hpr:y.1.probed=(wkAt m.l k).probed)
  (hst:∀id,id≠(wkAt m.l k).holds→P id≠.free→(R.fr id).stage=((aRC q m.c m.l).fr id).stage) (hgs:atSt y.1=true→y.1.gStage=(R.fr y.1.holds).stage) (hwk:WkOk y.1):
  Be q ⟨m.c.setW (stW m.c.ws (q.base (k:Int)+1) (d.t+1)),m.l.set k y.1⟩ k n P' H (upd T k (d.t+1)) cl cn' rg pc:=by
 have hn:=h.nn;have h3d:(aDR q m.c m.l).st k=3:=hs;have hdk:=h.dqk hd;have hkq:=h.kq;have hnx':((aDR q m.c m.l).dq k).nx=.grow:=by rw[hdk];exact hnx
 have hp0:=h.g.dq.p0 k h.kl h3d;rw[hdk] at hp0;have hdt:d.t=T k:=hp0.2.1;have hwh:=h.g.wh k _ d h.hw hd (.inr (.inr hs));obtain ⟨y1,y2⟩:=y;dsimp only at hc a e2 hvr how hq ht hpr hgs hwk ⊢;subst hc;have hdr:=dr_tl (l:=m.l) h.g.ok h.g.ws hkq (d.t+1);have hrc:=tl_rc h.g hkq (d.t+1);have hL:Len m.c (m.c.setW (stW m.c.ws (q.base (k:Int)+1) (d.t+1))):=Len.rf.w (Qm _ _ _);have har:ArI q.F (m.c.setW (stW m.c.ws (q.base (k:Int)+1) (d.t+1))):=(E4.a (s:=m.c) (s':=m.c.setW (stW m.c.ws (q.base (k:Int)+1) (d.t+1))) ⟨rfl,rfl,rfl,rfl⟩).1 q.F h.g.ar;have hnd:(∀j n,P d.x≠.deq j n)∧∀i,P d.x≠.own i .got:=⟨fun j n x=>(by rw[x] at hp;cases hp),fun i x=>(by rw[x] at hp;cases hp)⟩;have hD:=h.g.dq.grow h.kl h3d (e:=dv (some { d with t:=d.t+1,nx:=.nil })) hnx' rfl st' h2 (by rw[hdk];exact hnd);rw[hdk] at hD;have eD:aDR q (m.c.setW (stW m.c.ws (q.base (k:Int)+1) (d.t+1))) (m.l.set k y1)={ aDR q m.c m.l with dq:=upd (aDR q m.c m.l).dq k (dv (some { d with t:=d.t+1,nx:=.nil })),st:=upd (aDR q m.c m.l).st k st',ta:=upd (aDR q m.c m.l).ta k (d.t+1),tl:=upd (aDR q m.c m.l).tl k (d.t+1) }:=by rw[X39 h.kl,hdr,e2,hq,ht]
 have a':AgP P' R (aRC q (m.c.setW (stW m.c.ws (q.base (k:Int)+1) (d.t+1))) (m.l.set k y1)):=by rw[Qq h.kl] at a ⊢;rw[hrc];exact a
 have hi:=h.inv (y:=(y1,m.c.setW (stW m.c.ws (q.base (k:Int)+1) (d.t+1)))) hL how (by dsimp only;rw[eD];exact hD.chP (ndP hP)) a' hci ⟨by omega,fun id=>by have:=hlim.2 id;omega⟩ (fun d' hd' hi=>by dsimp only at hd';rw[hq] at hd';cases hd';cases hi) (fun d' hd' hx=>by dsimp only at hd';rw[hq] at hd';cases hd';exact hwh) hvr hst hgs hwk har (fun e=>by dsimp only at e;omega);have htN:∀j,upd T k (d.t+1) j≤n+1:=fun j=>by unfold upd;have:=hT j;have:=hT k;split<;>omega
 refine ⟨hi,by rw[List.length_set];exact h.kl,h.nn,hL.st.trans h.st,?_,fun id=>?_,htN,?_,?_⟩
 ·have:=h.sr;exact this
 ·have:=h.sd id;exact this
 ·show Tk (m.l.set k y1).length _ _;dsimp only;rw[List.length_set,eD];exact h.tk1 rfl rfl
 ·show 0≤(wkAt (m.l.set k y1) k).probed∧(wkAt (m.l.set k y1) k).probed≤1000000;rw[Q72 h.kl,if_pos rfl,hpr];exact h.pr
theorem Be.nx {y:WC} (h:Be q ⟨y.2,m.l.set k y.1⟩ k n P H T cl cn rg pc):Af q m k n y:=fun _ _=>⟨P,H,T,cl,cn,rg,pc,h.g,h.tb,h.tk⟩
theorem Be.push (h:Be q m k n P H T cl cn rg pc) (hT:∀j,T j≤n) (ht:Tk m.l.length (aDR q m.c m.l) n) (hs:(wkAt m.l k).state=3):Af q m k n (pushF q (wkAt m.l k,m.c)):=by
 have h3:(aRC q m.c m.l).st k=3:=hs;have h3d:(aDR q m.c m.l).st k=3:=hs;obtain ⟨d,hd⟩:=h.ok.dq (.inr (.inr hs));have hn:=h.nn;have hln:=h.g.ln;have hkq:=h.kq;have hdk:=h.dqk hd;have hp0:=h.g.dq.p0 k h.kl h3d;rw[hdk] at hp0;have hwh:=h.g.wh k _ d h.hw hd (.inr (.inr hs));have hwho:d.who.toNat=k:=hp0.1;have hwi:d.who=k:=by omega
 have hdt:d.t=T k:=hp0.2.1;have hTk:=hT k;have hrg:=h.g.dq.rg k h.kl;have hpx:(aRC q m.c m.l).px k=d.x:=by show (dv (wkAt m.l k).dq).x=_;rw[hd];rfl
 by_cases c:(dqNext q d m.c.ws).1.nx=.nil
 ·by_cases hnx:d.nx=.grow
  ·have ew:w64 (d.t+1)=d.t+1:=Q54 ke ke;have e4:dqNext q d m.c.ws=({ d with t:=d.t+1,nx:=.nil },stW m.c.ws (q.base (k:Int)+1) (d.t+1)):=by unfold dqNext;rw[hnx];dsimp only;rw[ew,hwi]
   have hfl:d.full=false:=Bool.eq_false_iff.2 fun e=>by have:=(h.g.fl k _ d h.hw hs hd).1 e;rw[hnx] at this;cases this
   have hthn:=h.ci.c10d k h.kW h3;unfold pushF stepD dqStep;dsimp only;rw[hd];dsimp only;simp only[e4];rw[if_neg (show ¬dqEnded (some { d with t:=d.t+1,nx:=.nil })=false from fun e=>by cases e),if_neg (show ¬dqFull (some { d with t:=d.t+1,nx:=.nil })=true from by show ¬d.full=true;rw[hfl];decide)];have hth:(aRC q m.c m.l).th k=(wkAt m.l k).th:=rfl
   have hG:∀st':Int,st'=10∨st'=12→wk2 (wkAt m.l k).th=true→Be q ⟨m.c.setW (stW m.c.ws (q.base (k:Int)+1) (d.t+1)),m.l.set k { wkAt m.l k with dq:=some { d with t:=d.t+1,nx:=.nil },tail:=d.t+1,state:=st' }⟩ k n (updI P ((aRC q m.c m.l).px k) (.deq k d.t)) H (upd T k (d.t+1)) cl cn rg pc:=by
    intro st' hst' hw2;have c10:=h.ci.c10c k h.kW h3 hw2;have hs2:st'=10∨st'=12∨st'=4:=by omega
    refine h.grown hT hs hd hnx (y:=({ wkAt m.l k with dq:=some { d with t:=d.t+1,nx:=.nil },tail:=d.t+1,state:=st' },m.c.setW (stW m.c.ws (q.base (k:Int)+1) (d.t+1)))) rfl (by rw[←hpx,c10.2.2.2.1];rfl) (h.ci.pushEnd h.kW h3 hw2 st' hs2 (j:=k) (n:=d.t)) ?_ (fun id=>by rw[hpx];exact .inl rfl) ⟨h.sr,h.sd⟩ st' ke rfl (QL (s:=st') ke) rfl rfl rfl rfl (fun _ _ _=>rfl) (fun _=>h.gs (by unfold atSt;rw[hs,hw2];rfl)) (wk_of (by show st'=10∨st'=12∨st'=4;omega));dsimp only;rw[Qq h.kl];constructor<;>first|rfl|exact Qi _ _|(intro _ _;rfl)|(intro j _;exact congrFun (Qi _ _) j)|(intro j hj;by_cases c:j=k;(rw[c] at hj;simp[upd] at hj;omega);simp[upd,c];done)
   have eO:∀(st':Int) (z:WC),Af q ⟨m.c.setW (stW m.c.ws (q.base (k:Int)+1) (d.t+1)),m.l.set k { wkAt m.l k with dq:=some { d with t:=d.t+1,nx:=.nil },tail:=d.t+1,state:=st' }⟩ k n z→Af q m k n z:=fun st' z e=>h.on (y:=({ wkAt m.l k with dq:=some { d with t:=d.t+1,nx:=.nil },tail:=d.t+1,state:=st' },m.c.setW (stW m.c.ws (q.base (k:Int)+1) (d.t+1)))) e;have eA:∀st':Int,wkAt (m.l.set k { wkAt m.l k with dq:=some { d with t:=d.t+1,nx:=.nil },tail:=d.t+1,state:=st' }) k={ wkAt m.l k with dq:=some { d with t:=d.t+1,nx:=.nil },tail:=d.t+1,state:=st' }:=fun st'=>by rw[Q72 h.kl,if_pos rfl]
   have e0:∀w1:Wk,w1={ wkAt m.l k with dq:=some { d with t:=d.t+1,nx:=.nil },tail:=d.t+1 }→Af q m k n (thenF q (w1,m.c.setW (stW m.c.ws (q.base (k:Int)+1) (d.t+1)))):=by
    intro w1 hw1;have hth1:(wkAt m.l k).th=w1.th:=by rw[hw1]
    unfold thenF;dsimp only
    cases e':w1.th with
    | none=>exact absurd (hth1.trans e') hthn
    | looksOn=>have e:(wkAt m.l k).th=.looksOn:=hth1.trans e';subst hw1;dsimp only;have:=(hG 10 (.inl rfl) (by rw[e];rfl)).looksOn (by rw[eA]);dsimp only at this;rw[eA] at this;exact eO 10 _ this
    | decide=>have e:(wkAt m.l k).th=.decide:=hth1.trans e';subst hw1;dsimp only;have:=(hG 12 (.inr rfl) (by rw[e];rfl)).decide (by rw[eA];exact .inr (.inl rfl));dsimp only at this;rw[eA] at this;exact eO 12 _ this
    | stop=>have e:(wkAt m.l k).th=.stop:=hth1.trans e';subst hw1;dsimp only;have:=(hG 12 (.inr rfl) (by rw[e];rfl)).stop (by rw[eA];exact .inl rfl);dsimp only at this;rw[eA] at this;exact eO 12 _ this
    | runs id=>
     have e:(wkAt m.l k).th=.runs id:=hth1.trans e';subst hw1;dsimp only[Wk.runs];have c10:=h.ci.c10 k h.kW h3 id e;have hho:=h.ci.c1 k h.kW c10.1;rw[h3] at hho;have hxp:P d.x=.own k .hold:=by rw[←hpx,c10.2.1,hho];rfl
     have hid:id≠d.x:=fun x=>by have:=c10.2.2.2.1;rw[x,hxp] at this;cases this
     refine Be.nx (y:=({ wkAt m.l k with dq:=some { d with t:=d.t+1,nx:=.nil },tail:=d.t+1,holds:=id,state:=4 },m.c.setW (stW m.c.ws (q.base (k:Int)+1) (d.t+1)))) (h.grown hT hs hd hnx (y:=({ wkAt m.l k with dq:=some { d with t:=d.t+1,nx:=.nil },tail:=d.t+1,holds:=id,state:=4 },m.c.setW (stW m.c.ws (q.base (k:Int)+1) (d.t+1)))) rfl (by rw[hxp];rfl) (h.ci.pushRuns h.kW h3 e (j:=k) (n:=d.t)) ?_ (by rw[hpx];exact hPu (hP0 _) _ (by unfold updI;rw[if_neg hid,c10.2.2.2.1];rfl)) ⟨h.sr,h.sd⟩ 4 ke rfl (QL (s:=4) ke) rfl rfl rfl rfl (fun _ _ _=>rfl) (fun ha=>by cases ha) (wk_of (.inr (.inr rfl))));dsimp only;rw[Qq h.kl];exact agp
    | takes id=>
     have e:(wkAt m.l k).th=.takes id:=hth1.trans e';subst hw1;dsimp only;have c10:=h.ci.c10b k h.kW h3 id e;have hxp:P d.x=.own k .psh:=by rw[←hpx];exact c10.2.1
     have hid:id≠d.x:=fun x=>by have:=c10.2.2.1;rw[x,hxp] at this;cases this
     have hpi:P id≠.free:=by rw[c10.2.2.1];exact fun e=>by cases e
     have hn4:nd (updI P d.x (.deq k d.t) id)=true:=by unfold updI;rw[if_neg hid,c10.2.2.1];rfl
     have etk:∀w:Wk,w.takes (m.c.setW (stW m.c.ws (q.base (k:Int)+1) (d.t+1))) id=if (m.c.at id).kind=3 then w.loops id else w.runs id:=fun w=>X77 _ _ _ (h.held hpi);rw[etk];split
     ·rename_i c3;dsimp only[Wk.loops];refine Be.nx (y:=({ wkAt m.l k with dq:=some { d with t:=d.t+1,nx:=.nil },tail:=d.t+1,holds:=id,state:=19 },m.c.setW (stW m.c.ws (q.base (k:Int)+1) (d.t+1)))) (h.grown hT hs hd hnx (y:=({ wkAt m.l k with dq:=some { d with t:=d.t+1,nx:=.nil },tail:=d.t+1,holds:=id,state:=19 },m.c.setW (stW m.c.ws (q.base (k:Int)+1) (d.t+1)))) rfl (by rw[hxp];rfl) (h.ci.pushTakesL h.kW h3 e c3 (j:=k) (n:=d.t)) ?_ (by rw[hpx];exact hPu (hP0 _) _ hn4) ⟨h.sr,h.sd⟩ 19 ke rfl (QL (s:=19) ke) rfl rfl rfl rfl (fun _ _ _=>rfl) (fun ha=>by cases ha) (wk_of19 rfl));dsimp only;rw[Qq h.kl];exact agp
     ·rename_i c3;dsimp only[Wk.runs];refine Be.nx (y:=({ wkAt m.l k with dq:=some { d with t:=d.t+1,nx:=.nil },tail:=d.t+1,holds:=id,state:=4 },m.c.setW (stW m.c.ws (q.base (k:Int)+1) (d.t+1)))) (h.grown hT hs hd hnx (y:=({ wkAt m.l k with dq:=some { d with t:=d.t+1,nx:=.nil },tail:=d.t+1,holds:=id,state:=4 },m.c.setW (stW m.c.ws (q.base (k:Int)+1) (d.t+1)))) rfl (by rw[hxp];rfl) (h.ci.pushTakes h.kW h3 e c3 (j:=k) (n:=d.t)) ?_ (by rw[hpx];exact hPu (hP0 _) _ hn4) ⟨h.sr,h.sd⟩ 4 ke rfl (QL (s:=4) ke) rfl rfl rfl rfl (fun _ _ _=>rfl) (fun ha=>by cases ha) (wk_of (.inr (.inr rfl))));dsimp only;rw[Qq h.kl];exact agp
   exact e0 _ rfl
  ·
   have hD:∀d':Dq,d'.who=d.who→d'.t=d.t→d'.x=d.x→d'.full=true→d'.nx=.nil→dqNext q d m.c.ws=(d',m.c.ws)→DQI q.D (sD q) m.l.length { aDR q m.c m.l with dq:=upd (aDR q m.c m.l).dq k (dv (some d')),ta:=upd (aDR q m.c m.l).ta k d.t } P H T cl→Af q m k n (pushF q (wkAt m.l k,m.c)):=by
    intro d' e1 e2 e5 e3 e6 e4 hD;have hen:dqEnded (some d')=true:=decide_eq_true e6;unfold pushF stepD dqStep;dsimp only;rw[hd];dsimp only;simp only[e4];rw[if_neg (by rw[hen];decide),if_pos (show dqFull (some d')=true from e3),Z05];refine h.to (T':=T) (H':=H) (cl':=cl) (Len.rf.p _ _) rfl h.tb ?_ ?_ (R:=aRC q m.c m.l) ?_ h.ci h.lim (fun d'' hd' hi=>by cases hd';rw[e6] at hi;cases hi) (fun d'' hd' hx=>by cases hd';rw[e1];exact hwh) (QL (s:=3) ka hs) (fun _ _ _=>rfl) (fun ha=>h.gs ha) (fun _ d'' hd'=>by cases hd';exact ⟨fun _=>e6,fun _=>e3⟩)
    ·dsimp only;rw[Q70];exact ht.mono (by rw[X39 h.kl]) (by rw[X39 h.kl])
    ·dsimp only;rw[Q70,X39 h.kl];have ee:upd (aDR q m.c m.l).st k (wkAt m.l k).state=(aDR q m.c m.l).st:=Qi _ _;have e7:dqTail (some d')=d.t:=e2;dsimp only;rw[ee,e7];exact hD
    ·dsimp only;rw[Qq h.kl,Q94];have e8:(dv (some d')).x=(dv (wkAt m.l k).dq).x:=by rw[hd];exact e5
     dsimp only;rw[e8];exact agp
   cases hx:d.nx
   all_goals (have hpp:isPush d.nx=true:=hp0.2.2;rw[hx] at hpp;try (cases hpp;done))
   ·have hfu:=(h.g.fl k _ d h.hw hs hd).2 hx;refine hD d rfl rfl rfl hfu hx (by unfold dqNext;rw[hx]) ?_;have e1:upd (aDR q m.c m.l).dq k (dv (some d))=(aDR q m.c m.l).dq:=by rw[←hdk];exact Qi _ _
    have e2:upd (aDR q m.c m.l).ta k d.t=(aDR q m.c m.l).ta:=by
     have:(aDR q m.c m.l).ta k=d.t:=by rw[hdt];exact h.g.dq.o1 k h.kl (by rw[h3d];decide)
     rw[←this];exact Qi _ _
    rw[e1,e2];exact h.g.dq
   ·unfold dqNext at c;rw[hx] at c;dsimp only at c;by_cases c2:q.D - 1≤w64 (d.t - ldW m.c.ws (q.base d.who))
    ·have hr:=h.g.dq.roomF h.kl h3d (e:=dv (some { d with full:=true,nx:=.nil })) (by rw[hdk];exact hx) (by rw[hdk];rfl) rfl (by rw[hdk];rfl);rw[hdk] at hr;exact hD { d with full:=true,nx:=.nil } rfl rfl rfl rfl rfl (by unfold dqNext;rw[hx];dsimp only;rw[if_pos c2]) hr
    ·rw[if_neg c2] at c;cases c
   ·unfold dqNext at c;rw[hx] at c;cases c
   ·exact absurd hx hnx
 ·have e:pushF q (wkAt m.l k,m.c)=({ wkAt m.l k with dq:=some (dqNext q d m.c.ws).1 },m.c.setW (dqNext q d m.c.ws).2):=by unfold pushF stepD dqStep;dsimp only;rw[hd];dsimp only;rw[if_pos];exact decide_eq_false c
  rw[e];exact h.walkOn ht hd (.inr (.inr hs)) (h.g.pushOn h.hw hs hd hT ke c)
end
end Go.Proofs.YtelibaobkcokdaaGreat.Mx.In
