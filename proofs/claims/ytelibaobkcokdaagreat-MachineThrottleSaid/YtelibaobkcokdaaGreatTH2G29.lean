/- The machine, plain: the arena; a step's counts. -/
import Derived.Test.YtelibaobkcokdaaGreatTH2G28
namespace Go.Proofs.YtelibaobkcokdaaGreat.Mx
set_option linter.unusedSectionVars false
set_option linter.unusedVariables false
set_option linter.unusedSimpArgs false
open Go Go.Kx Go.Proofs Go.Proofs.YtelibaobkcokdaaGreat
set_option maxRecDepth 8000
structure ArI (F:Int) (s:Cs):Prop where
 f:1≤F∧F≤256
 hl:(s.held.length:Int)=F+1
 h0:s.held.getD 0 false=false
 nd:s.back.Nodup
 bk:∀x∈s.back,0 < x∧x≤s.fresh∧s.held.getD x.toNat false=false
 fr:0≤s.fresh∧s.fresh≤F
 ab:∀i:Nat,s.fresh < i→s.held.getD i false=false
 pk:0≤s.peak∧s.peak≤F
def ArS (s s':Cs):Prop:=(∀F,ArI F s→ArI F s')∧s.peak≤s'.peak
theorem ArS.refl (s:Cs):ArS s s:=⟨fun _ h=>h,Int.le_refl _⟩
theorem ArS.trans {s s' s'':Cs} (h:ArS s s') (k:ArS s' s''):ArS s s'':=⟨fun F a=>k.1 F (h.1 F a),Int.le_trans h.2 k.2⟩
def E4 (s s':Cs):Prop:=s'.back=s.back∧s'.held=s.held∧s'.fresh=s.fresh∧s'.peak=s.peak
theorem E4.a {s s':Cs} (h:E4 s s'):ArS s s':=by obtain ⟨h1,h2,h3,h4⟩:=h;refine ⟨fun F a=>⟨a.f,by rw[h2];exact a.hl,by rw[h2];exact a.h0,by rw[h1];exact a.nd,by rw[h1,h2,h3];exact a.bk,by rw[h3];exact a.fr,by rw[h2,h3];exact a.ab,by rw[h4];exact a.pk⟩,by rw[h4];exact Int.le_refl _⟩
theorem X59 (s:Cs) (id:Int) (f:Fm):(s.setFr id f).peak=s.peak:=by unfold Cs.setFr;split<;>rfl
theorem stop_p (s:Cs) (a b:Int):(s.stop a b).peak=s.peak:=by unfold Cs.stop;split<;>rfl
theorem setIf_p (s:Cs) (c:Bool) (id:Int) (f:Fm):(s.setIf c id f).peak=s.peak:=by unfold Cs.setIf;split;exact X59 ..;rfl
theorem XR (s:Cs) (id:Int) (f:Fm):E4 s (s.setFr id f):=⟨Q46 ..,Q47 ..,Q48 ..,X59 ..⟩
theorem Je (s:Cs) (c:Bool) (id:Int) (f:Fm):E4 s (s.setIf c id f):=⟨Y95 ..,Y96 ..,Y97 ..,setIf_p ..⟩
theorem Jf (s:Cs) (a b:Int):E4 s (s.stop a b):=⟨X35 ..,X36 ..,X37 ..,stop_p ..⟩
theorem usedle (l:List Bool) (h:l.getD 0 false=false):usedN l+1≤max l.length 1:=by
 cases l with
 | nil=>simp[usedN]
 | cons a l=>have ha:a=false:=h;subst ha;have:=List.countP_le_length (p:=id) (l:=l);simp only[usedN,List.countP_cons,List.length_cons,id];simp;omega
theorem ar_free (s:Cs) (id:Int):ArS s (s.free id):=by
 unfold Cs.free;split
 ·rename_i h;obtain ⟨⟨h1,h2⟩,h3⟩:=(Y53 s id).1 h;refine ⟨fun F a=>?_,Int.le_refl _⟩
  have hidF:id≤s.fresh:=by
   by_cases c:id≤s.fresh
   ·exact c
   ·have:=a.ab id.toNat ka;rw[h3] at this;cases this
  refine ⟨a.f,by simpa using a.hl,?_,?_,?_,a.fr,?_,a.pk⟩
  ·rw[Qz];split
   ·rfl
   ·exact a.h0
  ·refine List.nodup_append.2 ⟨a.nd,by simp,?_⟩;intro x hx b hb e;simp at hb;subst hb;subst e;have:=(a.bk _ hx).2.2;rw[h3] at this;cases this
  ·intro x hx;rcases List.mem_append.1 hx with hx|hx
   ·refine ⟨(a.bk x hx).1,(a.bk x hx).2.1,?_⟩;rw[Qz];split
    ·rfl
    ·exact (a.bk x hx).2.2
   ·simp at hx;subst hx;exact ⟨h1,hidF,by rw[Qz,if_pos ⟨rfl,by omega⟩]⟩
  ·intro i hi;rw[Qz];split
   ·rfl
   ·exact a.ab i hi
 ·exact .refl s
theorem ArI.next {F:Int} {s:Cs} (a:ArI F s) {id:Int} {b:List Int} {f:Int} (e:s.nextId=some (id,b,f)):(0 < id∧id≤F)∧s.held.getD id.toNat false=false∧ArI F { s with back:=b,fresh:=f,held:=s.held.set id.toNat true,peak:=max s.peak (usedN (s.held.set id.toNat true)) }:=by
 have hF:=a.f
 have hu:id≠0→(usedN (s.held.set id.toNat true):Int)≤F∨id.toNat=0:=fun hne=>by
  by_cases c:id.toNat=0
  ·exact .inr c
  ·have h0:(s.held.set id.toNat true).getD 0 false=false:=by rw[Qz,if_neg ka];exact a.h0
   have:=usedle _ h0;rw[List.length_set] at this;have:=a.hl;left;omega
 unfold Cs.nextId at e
 cases hg:s.back.getLast? with
 | some y=>
  rw[hg] at e;cases e;obtain ⟨l,hl⟩:=List.getLast?_eq_some_iff.1 hg;have hd:s.back.dropLast=l:=by rw[hl];simp
  have hb:=a.bk id (by rw[hl];simp);have hnd:=a.nd;rw[hl] at hnd;have hu:=hu ka;have hpk:=a.pk;have hfr:=a.fr;refine ⟨⟨hb.1,by omega⟩,hb.2.2,⟨a.f,by simpa using a.hl,?_,?_,?_,a.fr,?_,?_⟩⟩
  ·rw[Qz,if_neg ka];exact a.h0
  ·rw[hd];exact (List.nodup_append.1 hnd).1
  ·rw[hd];intro x hx;have hx2:=a.bk x (by rw[hl];exact List.mem_append_left _ hx);have hne:x≠id:=(List.nodup_append.1 hnd).2.2 x hx id ke;exact ⟨hx2.1,hx2.2.1,by rw[Qz,if_neg ka];exact hx2.2.2⟩
  ·intro i hi;rw[Qz,if_neg (by dsimp only at hi;omega)];exact a.ab i hi
  ·dsimp only;omega
 | none=>
  rw[hg] at e;simp only at e;split at e
  ·cases e
  ·rename_i hlt;cases e;have hfr:=a.fr;have hhl:=a.hl;have hw:w64 (s.fresh+1)=s.fresh+1:=Q22 ka ka;rw[hw] at hlt hu ⊢;have hu:=hu ka;have hpk:=a.pk;refine ⟨⟨by omega,by omega⟩,a.ab _ ka,⟨a.f,by simpa using a.hl,?_,List.nodup_nil,by simp,by dsimp only;omega,?_,?_⟩⟩
   ·rw[Qz,if_neg ka];exact a.h0
   ·intro i hi;dsimp only at hi;rw[Qz,if_neg ka];exact a.ab i ka
   ·dsimp only;omega
theorem ar_make (q:Pm) (s:Cs) (f:Fm):ArS s (makeF q s f).2:=by
 unfold makeF Cs.make Cs.take
 cases hn:s.nextId with
 | none=>exact (Jf ..).a
 | some x=>obtain ⟨id,back,fresh⟩:=x;refine ⟨fun F a=>?_,by simp only[hn];omega⟩;simp only[hn];refine (E4.a (s:={ s with back:=back,fresh:=fresh,held:=s.held.set id.toNat true,peak:=max s.peak (usedN (s.held.set id.toNat true)) }) ?_).1 F (a.next hn).2.2;exact ⟨rfl,rfl,rfl,rfl⟩
theorem XS {q:Pm} {s:Cs} {f:Fm} {r:Option Int×Cs} (h:makeF q s f=r):ArS s r.2:=h ▸ ar_make q s f
section
variable {q:Pm} {x:WC}
theorem tmxw1 {Pr:Prop} (h:Pr:=by (try dsimp only);(repeat' split);all_goals simp[E4,Q46,Q47,Q48,X59,X35,X36,X37,stop_p,Y95,Y96,Y97,setIf_p,Cs.setW,Cs.note]):Pr:=h
theorem e_seekF (victim:Int):E4 x.2 (seekF q x victim).2:=by unfold seekF stepD;exact tmxw1
theorem e_stealF:E4 x.2 (stealF q x).2:=by unfold stealF stepD;exact tmxw1
theorem e_popF:E4 x.2 (popF q x).2:=by unfold popF stepD;exact tmxw1
theorem e_pushF:E4 x.2 (pushF q x).2:=by unfold pushF stepD thenF looksOnF checksF decideF dueF stopF;exact tmxw1
theorem e_joinedF:E4 x.2 (joinedF q x).2:=by unfold joinedF;exact tmxw1
theorem e_spawnF:E4 x.2 (spawnF q x).2:=by unfold spawnF;exact tmxw1
theorem e_arriveF:E4 x.2 (arriveF q x).2:=by unfold arriveF;exact tmxw1
theorem e_resumeF:E4 x.2 (resumeF q x).2:=by unfold resumeF;exact tmxw1
theorem e_advanceF:E4 x.2 (advanceF q x).2:=by unfold advanceF looksOnF checksF noteF;exact tmxw1
theorem e_peekF:E4 x.2 (peekF q x).2:=by unfold peekF checksF decideF dueF;exact tmxw1
theorem e_checkF2:E4 x.2 (checkF2 q x).2:=by unfold checkF2 stopF decideF dueF;exact tmxw1
theorem e_lookF:E4 x.2 (lookF q x).2:=by unfold lookF dueF checksF stopF;exact tmxw1
theorem e_parksF:E4 x.2 (parksF q x).2:=by unfold parksF;exact tmxw1
theorem e_endsF:E4 x.2 (endsF q x).2:=by unfold endsF checksF noteF;exact tmxw1
theorem e_closesF:E4 x.2 (closesF q x).2:=by unfold closesF;exact tmxw1
theorem e_finishF:E4 x.2 (finishF q x).2:=by unfold finishF;exact tmxw1
theorem e_napsF:E4 x.2 (napsF q x).2:=by unfold napsF;exact tmxw1
theorem e_countF:E4 x.2 (countF q x).2:=by unfold countF;exact tmxw1
theorem e_nameF2:E4 x.2 (nameF2 q x).2:=by unfold nameF2;exact tmxw1
theorem e_joinsF:E4 x.2 (joinsF q x).2:=by unfold joinsF noteF;exact tmxw1
theorem e_goOnF (f:Fm) (pc:Int) (e:Ef):E4 x.2 (goOnF x f pc e).2:=by unfold goOnF;exact tmxw1
theorem e_leaveF (f:Fm):E4 x.2 (leaveF x f).2:=by unfold leaveF;exact tmxw1
theorem ar_dropF:ArS x.2 (dropF q x).2:=by
 unfold dropF nextF;dsimp only;have hg:=ar_free x.2 x.1.holds;generalize x.2.free x.1.holds=s at hg;have h2:∀ws,ArS x.2 (s.setW ws):=fun ws=>hg.trans (E4.a ⟨rfl,rfl,rfl,rfl⟩)
 repeat' split
 all_goals exact h2 _
theorem ar_completeF:ArS x.2 (completeF x).2:=by unfold completeF;dsimp only;refine ArS.trans (s':=Cs.setFr (x.2.note ⟨5,(x.2.at x.1.holds).serial,(x.2.at x.1.holds).started,0⟩) (x.2.at x.1.holds).parent _) (E4.a ?_) (ar_free _ _);simp[E4,Q46,Q47,Q48,X59,Cs.note]
theorem ar_startF:ArS x.2 (startF q x).2:=by
 unfold startF;dsimp only;split
 ·rename_i s h;exact XS h
 ·rename_i id s h;exact (XS h).trans (Je ..).a
theorem ar_loopF:ArS x.2 (loopF q x).2:=by
 unfold loopF;dsimp only
 repeat' split
 ·exact ar_startF
 all_goals exact E4.a ⟨rfl,rfl,rfl,rfl⟩
theorem ar_forkF (f:Fm) (pc fn:Int):ArS x.2 (forkF q x f pc fn).2:=by
 unfold forkF;split
 ·rename_i s h;exact XS h
 ·rename_i id s h;exact (XS h).trans (Je ..).a
theorem ar_pipeF (f:Fm) (pc fn:Int):ArS x.2 (pipeF q x f pc fn).2:=by
 unfold pipeF;dsimp only;have h0:ArS x.2 { x.2 with serial:=w64 (x.2.serial+1) }:=E4.a ⟨rfl,rfl,rfl,rfl⟩;split
 ·rename_i s h;exact h0.trans (XS h)
 ·rename_i id s h;exact (h0.trans (XS h)).trans (Je ..).a
theorem ar_backF (f:Fm):ArS x.2 (backF x f).2:=by
 unfold backF;split
 ·split
  ·exact (XR ..).a
  ·exact .refl _
 ·split
  ·exact (Jf ..).a
  ·exact ar_free _ _
theorem ar_turnF (f:Fm) (pc:Int) (e:Ef):ArS x.2 (turnF q x f pc e).2:=by
 unfold turnF;split
 ·exact ar_forkF ..
 split
 ·exact ar_pipeF ..
 split
 ·exact (e_goOnF ..).a
 split
 ·exact (e_leaveF ..).a
 split
 ·exact ar_backF ..
 ·exact .refl _
theorem q_turnF (f:Fm) (pc:Int) (e:Ef) (hm:Sm x.2) (hn:x.1.state≠1):Q1 x (turnF q x f pc e):=by
 unfold turnF;split
 ·exact q_forkF _ _ _ hm hn
 split
 ·exact q_pipeF _ _ _ hm hn
 split
 ·exact q_goOnF _ _ _ hm hn
 split
 ·exact q_leaveF _ hm hn
 split
 ·exact q_backF _ hm hn
 ·exact q1_refl hn
theorem emit_c {q:Pm} {s s':Cs} {n:Int} (h:emitC q s n=some s'):C0 s s'∧E4 s s':=by
 unfold emitC at h;split at h
 ·cases h
 ·cases h;exact ⟨⟨rfl,rfl,rfl,rfl,rfl,rfl⟩,⟨rfl,rfl,rfl,rfl⟩⟩
theorem C0.q1 {y:WC} (h:C0 x.2 y.2) (h1:y.1.probed=x.1.probed) (h2:y.1.own=x.1.own) (h3:y.1.state≠1):Q1 x y:=by obtain ⟨k1,k2,k3,k4,k5,k6⟩:=h;exact ⟨k1,k2,k3,h1,h2,h3,by omega,by omega,by omega,by omega⟩
theorem Y15 {s s':Cs} (h1:s'.steps=s.steps) (h2:s'.probes=s.probes) (h3:s'.steals=s.steals) (h4:s'.parks=s.parks) (h5:s'.naps=s.naps) (h6:s'.folds=s.folds):C0 s s':=⟨h1,h2,h3,h4,h5,h6⟩
theorem ar_instrF (f:Fm) (r:Int×List Int×Ef×Int):ArS x.2 (instrF q x f r).2:=by
 unfold instrF;dsimp only;split
 ·split<;>exact E4.a ⟨rfl,rfl,rfl,rfl⟩
 split
 ·exact (Jf ..).a
 split
 ·split<;>exact E4.a (by simp[E4,Q46,Q47,Q48,X59,X35,X36,X37,stop_p])
 split
 ·split
  ·exact (Jf ..).a
  ·rename_i s h;exact (emit_c h).2.a.trans (XR ..).a
 split
 ·exact (XR ..).a
 ·exact ar_turnF ..
theorem q_instrF (f:Fm) (r:Int×List Int×Ef×Int) (hm:Sm x.2) (hn:x.1.state≠1):Q1 x (instrF q x f r):=by
 unfold instrF;dsimp only;split
 ·split
  ·exact C0.q1 (Y15 rfl rfl rfl rfl rfl rfl) rfl rfl ke
  ·exact C0.q1 (Y15 rfl rfl rfl rfl rfl rfl) rfl rfl (by simp[Wk.goes])
 split
 ·exact C0.q1 (Z45 ..) rfl rfl hn
 split
 ·split
  ·exact C0.q1 ((Y15 rfl rfl rfl rfl rfl rfl).trans (Z45 { x.2 with data:=_ } _ _)) rfl rfl hn
  ·exact C0.q1 ((Y15 rfl rfl rfl rfl rfl rfl).trans (Q51 { x.2 with data:=_ } _ _)) rfl rfl hn
 split
 ·split
  ·exact C0.q1 (Z45 ..) rfl rfl hn
  ·rename_i s h;exact C0.q1 ((emit_c h).1.trans (Q51 ..)) rfl rfl hn
 split
 ·exact C0.q1 (Q51 ..) rfl rfl hn
 ·exact q_turnF _ _ _ hm hn
theorem begin_e (s:Cs) (id:Int) (f:Fm):C0 s (beginC s id f)∧E4 s (beginC s id f):=by
 unfold beginC;split
 ·exact ⟨(Q51 ..).trans (Y15 rfl rfl rfl rfl rfl rfl),by simp[E4,Q46,Q47,Q48,X59,Cs.note]⟩
 ·exact ⟨.refl _,rfl,rfl,rfl,rfl⟩
theorem Q1.from_ {y z:WC} (h:C0 x.2 y.2) (h1:y.1=x.1) (k:Q1 y z):Q1 x z:=by obtain ⟨a1,a2,a3,a4,a5,a6⟩:=h;obtain ⟨k1,k2,k3,k4,k5,k6,k7,k8,k9,k10⟩:=k;exact ⟨by omega,by omega,by omega,by rw[k4,h1],by rw[k5,h1],k6,by omega,by omega,by omega,by omega⟩
theorem Sm.of (hm:Sm x.2) {s:Cs} (h:C0 x.2 s):Sm s:=by obtain ⟨a1,a2,a3,a4,a5,a6⟩:=h;exact ⟨by rw[a4];exact hm.a,by rw[a5];exact hm.b,by rw[a6];exact hm.c⟩
theorem ar_runF:ArS x.2 (runF q x).2:=(begin_e ..).2.a.trans (ar_instrF (x:=(x.1,beginC x.2 x.1.holds (x.2.at x.1.holds))) ..)
theorem q_runF (hm:Sm x.2) (hn:x.1.state≠1):Q1 x (runF q x):=
 Q1.from_ (y:=(x.1,beginC x.2 x.1.holds (x.2.at x.1.holds))) (begin_e ..).1 rfl (q_instrF (x:=(x.1,beginC x.2 x.1.holds (x.2.at x.1.holds))) _ _ (hm.of (begin_e ..).1) hn)
theorem ar_actF:ArS x.2 (actF q x).2:=by
 unfold actF;dsimp only;by_cases c1:x.1.state=1
 ·rw[if_pos c1];exact e_stealF.a
 rw[if_neg c1];by_cases c2:x.1.state=2
 ·rw[if_pos c2];exact e_popF.a
 rw[if_neg c2];by_cases c3:x.1.state=3
 ·rw[if_pos c3];exact e_pushF.a
 rw[if_neg c3];by_cases c4:x.1.state=4
 ·rw[if_pos c4];exact ar_runF
 rw[if_neg c4];by_cases c5:x.1.state=5
 ·rw[if_pos c5];exact e_joinedF.a
 rw[if_neg c5];by_cases c6:x.1.state=6
 ·rw[if_pos c6];exact e_spawnF.a
 rw[if_neg c6];by_cases c7:x.1.state=7
 ·rw[if_pos c7];exact e_arriveF.a
 rw[if_neg c7];by_cases c8:x.1.state=8
 ·rw[if_pos c8];exact e_resumeF.a
 rw[if_neg c8];by_cases c9:x.1.state=9
 ·rw[if_pos c9];exact e_advanceF.a
 rw[if_neg c9];by_cases c10:x.1.state=10
 ·rw[if_pos c10];exact e_peekF.a
 rw[if_neg c10];by_cases c11:x.1.state=11
 ·rw[if_pos c11];exact e_checkF2.a
 rw[if_neg c11];by_cases c12:x.1.state=12
 ·rw[if_pos c12];exact e_lookF.a
 rw[if_neg c12];by_cases c13:x.1.state=13
 ·rw[if_pos c13];exact e_parksF.a
 rw[if_neg c13];by_cases c14:x.1.state=14
 ·rw[if_pos c14];exact e_endsF.a
 rw[if_neg c14];by_cases c15:x.1.state=15
 ·rw[if_pos c15];exact e_closesF.a
 rw[if_neg c15];by_cases c16:x.1.state=16
 ·rw[if_pos c16];exact ar_dropF
 rw[if_neg c16];by_cases c17:x.1.state=17
 ·rw[if_pos c17];exact e_finishF.a
 rw[if_neg c17];by_cases c18:x.1.state=18
 ·rw[if_pos c18];exact ar_completeF
 rw[if_neg c18];by_cases c19:x.1.state=19
 ·rw[if_pos c19];exact ar_loopF
 rw[if_neg c19];by_cases c20:x.1.state=20
 ·rw[if_pos c20];exact e_napsF.a
 rw[if_neg c20];by_cases c21:x.1.state=21
 ·rw[if_pos c21];exact ar_startF
 rw[if_neg c21];by_cases c22:x.1.state=22
 ·rw[if_pos c22];exact e_countF.a
 rw[if_neg c22];by_cases c23:x.1.state=23
 ·rw[if_pos c23];exact e_nameF2.a
 rw[if_neg c23];exact e_joinsF.a
theorem q_actF (hm:Sm x.2) (hn:x.1.state≠1):Q1 x (actF q x):=by
 unfold actF;dsimp only;rw[if_neg hn];by_cases c2:x.1.state=2
 ·rw[if_pos c2];exact q_popF hm hn
 rw[if_neg c2];by_cases c3:x.1.state=3
 ·rw[if_pos c3];exact q_pushF hm hn
 rw[if_neg c3];by_cases c4:x.1.state=4
 ·rw[if_pos c4];exact q_runF hm hn
 rw[if_neg c4];by_cases c5:x.1.state=5
 ·rw[if_pos c5];exact q_joinedF hm hn
 rw[if_neg c5];by_cases c6:x.1.state=6
 ·rw[if_pos c6];exact q_spawnF hm hn
 rw[if_neg c6];by_cases c7:x.1.state=7
 ·rw[if_pos c7];exact q_arriveF hm hn
 rw[if_neg c7];by_cases c8:x.1.state=8
 ·rw[if_pos c8];exact q_resumeF hm hn
 rw[if_neg c8];by_cases c9:x.1.state=9
 ·rw[if_pos c9];exact q_advanceF hm hn
 rw[if_neg c9];by_cases c10:x.1.state=10
 ·rw[if_pos c10];exact q_peekF hm hn
 rw[if_neg c10];by_cases c11:x.1.state=11
 ·rw[if_pos c11];exact q_checkF2 hm hn
 rw[if_neg c11];by_cases c12:x.1.state=12
 ·rw[if_pos c12];exact q_lookF hm hn
 rw[if_neg c12];by_cases c13:x.1.state=13
 ·rw[if_pos c13];exact q_parksF hm hn
 rw[if_neg c13];by_cases c14:x.1.state=14
 ·rw[if_pos c14];exact q_endsF hm hn
 rw[if_neg c14];by_cases c15:x.1.state=15
 ·rw[if_pos c15];exact q_closesF hm hn
 rw[if_neg c15];by_cases c16:x.1.state=16
 ·rw[if_pos c16];exact q_dropF hm hn
 rw[if_neg c16];by_cases c17:x.1.state=17
 ·rw[if_pos c17];exact q_finishF hm hn
 rw[if_neg c17];by_cases c18:x.1.state=18
 ·rw[if_pos c18];exact q_completeF hm hn
 rw[if_neg c18];by_cases c19:x.1.state=19
 ·rw[if_pos c19];exact q_loopF hm hn
 rw[if_neg c19];by_cases c20:x.1.state=20
 ·rw[if_pos c20];exact q_napsF hm hn
 rw[if_neg c20];by_cases c21:x.1.state=21
 ·rw[if_pos c21];exact q_startF hm hn
 rw[if_neg c21];by_cases c22:x.1.state=22
 ·rw[if_pos c22];exact q_countF hm hn
 rw[if_neg c22];by_cases c23:x.1.state=23
 ·rw[if_pos c23];exact q_nameF2 hm hn
 rw[if_neg c23];exact q_joinsF hm hn
structure Q2 (q:Pm) (x y:WC):Prop where
 st:y.2.steps=w64 (x.2.steps+1)
 pr:y.2.probes - x.2.probes=y.1.probed - x.1.probed
 p1:x.1.probed≤y.1.probed∧y.1.probed≤x.1.probed+1
 s0:x.2.steals≤y.2.steals
 sl:y.2.steals+(if y.1.state=1 then 1 else 0) - (x.2.steals+(if x.1.state=1 then 1 else 0))≤y.2.probes - x.2.probes
 ow:y.1.own=x.1.own
 one:q.W=1→x.1.own=0→x.1.state≠1→y.1.state≠1∧y.2.steals=x.2.steals
 u1:x.2.parks≤y.2.parks
 u2:x.2.naps≤y.2.naps
 u3:x.2.folds≤y.2.folds
 up:y.2.parks+y.2.naps+y.2.folds≤x.2.parks+x.2.naps+x.2.folds+1
theorem q2_seek (victim:Int) (hp:w64 (x.1.probed+1)=x.1.probed+1) (hq:w64 (x.2.probes+1)=x.2.probes+1) (hs:x.1.state=0):Q2 q x (seekF q (x.1,{ x.2 with steps:=w64 (x.2.steps+1) }) victim):=by
 unfold seekF;dsimp only;split
 ·refine ⟨rfl,by show w64 (x.2.probes+1) - _=w64 (x.1.probed+1) - _;omega,by show _≤w64 (x.1.probed+1)∧w64 (x.1.probed+1)≤_;omega,Int.le_refl _,?_,rfl,fun _ _ h=>⟨h,rfl⟩,Int.le_refl _,Int.le_refl _,Int.le_refl _,by show x.2.parks+x.2.naps+x.2.folds≤_;omega⟩;show x.2.steals+(if x.1.state=1 then 1 else 0) - _≤w64 (x.2.probes+1) - _;omega
 ·rename_i hv;refine ⟨rfl,by show w64 (x.2.probes+1) - _=w64 (x.1.probed+1) - _;omega,by show _≤w64 (x.1.probed+1)∧w64 (x.1.probed+1)≤_;omega,Int.le_refl _,?_,rfl,fun hW ho h=>?_,Int.le_refl _,Int.le_refl _,Int.le_refl _,by show x.2.parks+x.2.naps+x.2.folds≤_;omega⟩
  ·show x.2.steals+(if (1:Int)=1 then 1 else 0) - _≤w64 (x.2.probes+1) - _;rw[hs,hq];simp;omega
  ·exfalso;apply hv;rw[hW,ho,Int.tmod_one]
theorem q2_steal (hs:x.1.state=1) (hw:w64 (x.2.steals+1)=x.2.steals+1):Q2 q x (stealF q (x.1,{ x.2 with steps:=w64 (x.2.steps+1) })):=by
 unfold stealF;dsimp only;split
 ·exact ⟨rfl,by show x.2.probes - _=x.1.probed - _;omega,by show _≤x.1.probed∧x.1.probed≤_;omega,Int.le_refl _,by show x.2.steals+(if x.1.state=1 then 1 else 0) - _≤x.2.probes - _;omega,rfl,fun _ _ h=>absurd hs h,Int.le_refl _,Int.le_refl _,Int.le_refl _,by show x.2.parks+x.2.naps+x.2.folds≤_;omega⟩
 split
 ·exact ⟨rfl,by show x.2.probes - _=x.1.probed - _;omega,by show _≤x.1.probed∧x.1.probed≤_;omega,Int.le_refl _,by show x.2.steals+(if (0:Int)=1 then 1 else 0) - _≤x.2.probes - _;rw[hs,if_neg ka,if_pos rfl];omega,rfl,fun _ _ h=>absurd hs h,Int.le_refl _,Int.le_refl _,Int.le_refl _,by show x.2.parks+x.2.naps+x.2.folds≤_;omega⟩
 ·obtain ⟨t1,t2,t3⟩:=takes_st (stepD q (x.1,{ x.2 with steps:=w64 (x.2.steps+1) })).1 { (stepD q (x.1,{ x.2 with steps:=w64 (x.2.steps+1) })).2 with steals:=w64 ((stepD q (x.1,{ x.2 with steps:=w64 (x.2.steps+1) })).2.steals+1) } (dqGets (stepD q (x.1,{ x.2 with steps:=w64 (x.2.steps+1) })).1.dq).1;refine ⟨rfl,?_,?_,by show x.2.steals≤w64 (x.2.steals+1);omega,?_,t3,fun _ _ h=>absurd hs h,Int.le_refl _,Int.le_refl _,Int.le_refl _,by show x.2.parks+x.2.naps+x.2.folds≤_;omega⟩
  ·show x.2.probes - _=_;rw[t2];show _=x.1.probed - _;omega
  ·show _≤Wk.probed _∧Wk.probed _≤_;rw[t2];show _≤x.1.probed∧x.1.probed≤_;omega
  ·show w64 (x.2.steals+1)+(if Wk.state _=1 then 1 else 0) - _≤x.2.probes - _;rw[if_neg t1,hs,hw,if_pos rfl];omega
theorem q2_step (victim:Int) (h0:x.2.status=0) (hm:Sm x.2) (hp:w64 (x.1.probed+1)=x.1.probed+1) (hq:w64 (x.2.probes+1)=x.2.probes+1) (hw:w64 (x.2.steals+1)=x.2.steals+1):Q2 q x (wkStep q x victim):=by
 unfold wkStep;rw[if_neg ka];dsimp only;split
 ·rename_i hs;exact q2_seek victim hp hq hs
 ·rename_i hs;by_cases c:x.1.state=1
  ·have e:actF q (x.1,{ x.2 with steps:=w64 (x.2.steps+1) })=stealF q (x.1,{ x.2 with steps:=w64 (x.2.steps+1) }):=by unfold actF;dsimp only;rw[if_pos c]
   rw[e];exact q2_steal c hw
  ·obtain ⟨k1,k2,k3,k4,k5,k6,k7,k8,k9,k10⟩:=q_actF (q:=q) (x:=(x.1,{ x.2 with steps:=w64 (x.2.steps+1) })) ⟨hm.a,hm.b,hm.c⟩ c;refine ⟨k1,by rw[k2,k4];show x.2.probes - _=x.1.probed - _;omega,by rw[k4];show _≤x.1.probed∧x.1.probed≤_;omega,by rw[k3];exact Int.le_refl _,?_,k5,fun _ _ _=>⟨k6,k3⟩,k7,k8,k9,k10⟩;rw[if_neg k6,k3,k2,if_neg c];show x.2.steals+0 - _≤x.2.probes - _;omega
theorem ar_wkStep (victim:Int):ArS x.2 (wkStep q x victim).2:=by
 unfold wkStep;split
 ·exact .refl _
 ·have h0:ArS x.2 { x.2 with steps:=w64 (x.2.steps+1) }:=E4.a ⟨rfl,rfl,rfl,rfl⟩;dsimp only;split
  ·exact h0.trans (e_seekF victim (x:=(x.1,{ x.2 with steps:=w64 (x.2.steps+1) }))).a
  ·exact h0.trans (ar_actF (x:=(x.1,{ x.2 with steps:=w64 (x.2.steps+1) })))
end
end Go.Proofs.YtelibaobkcokdaaGreat.Mx
namespace Go.Proofs.YtelibaobkcokdaaGreat.Mx
set_option linter.unusedVariables false
set_option linter.unusedSimpArgs false
open Go Go.Kx Go.Proofs Go.Proofs.YtelibaobkcokdaaGreat
set_option maxRecDepth 8000
theorem sum_set (f:Wk→Int) {l:List Wk} {k:Nat} {w:Wk} (h:l[k]?=some w) (w':Wk):((l.set k w').map f).sum=(l.map f).sum - f w+f w':=by
 induction l generalizing k with
 | nil=>cases h
 | cons a l ih=>
  cases k with
  | zero=>simp at h;subst h;simp only[List.set_cons_zero,List.map_cons,List.sum_cons];omega
  | succ k=>simp only[List.getElem?_cons_succ] at h;simp only[List.set_cons_succ,List.map_cons,List.sum_cons,ih h];omega
theorem sum_ge (f:Wk→Int) {l:List Wk} (h:∀w∈l,0≤f w):0≤(l.map f).sum∧∀w∈l,f w≤(l.map f).sum:=by
 induction l with
 | nil=>exact ⟨by simp,by simp⟩
 | cons a l ih=>
  obtain ⟨i1,i2⟩:=ih fun w hw=>h w (List.mem_cons_of_mem _ hw);have ha:=h a (List.mem_cons_self ..);simp only[List.map_cons,List.sum_cons];refine ⟨by omega,fun w hw=>?_⟩;rcases List.mem_cons.1 hw with rfl|hw
  ·omega
  ·have:=i2 w hw;omega
def st1 (w:Wk):Int:=if w.state=1 then 1 else 0
structure Cnt (q:Pm) (m:Mc) (n:Nat):Prop where
 st:m.c.steps=n
 nn:n≤8388608
 ln:(m.l.length:Int)=q.W
 ow:∀(k:Nat) (w:Wk),m.l[k]?=some w→w.own=k
 p0:∀w∈m.l,0≤w.probed
 pr:m.c.probes=(m.l.map Wk.probed).sum
 pn:m.c.probes≤n
 s0:0≤m.c.steals
 sl:m.c.steals+(m.l.map st1).sum≤m.c.probes
 one:q.W=1→m.c.steals=0∧∀w∈m.l,w.state≠1
 ct:(0≤m.c.parks∧0≤m.c.naps∧0≤m.c.folds)∧m.c.parks+m.c.naps+m.c.folds≤n
 ar:ArI q.F m.c
 pk:1≤m.c.peak
theorem Cnt.step {q:Pm} {m:Mc} {n:Nat} (h:Cnt q m n) (hW:1≤q.W) (he:m.ended=false) (worker victim:Int):Cnt q (m.step q worker victim) (n+1):=by
 have h0:m.c.status=0∧m.c.steps < 8388608:=by unfold Mc.ended at he;have:=of_decide_eq_false he;omega
 have hst:=h.st;have hln:=h.ln;have hrm:0≤(max worker 0) % q.W∧(max worker 0) % q.W < q.W:=⟨Int.emod_nonneg _ ka,Int.emod_lt_of_pos _ ka⟩;have hk:pickN q worker < m.l.length:=by unfold pickN;omega
 obtain ⟨w,hw⟩:=Q23 hk;have hmem:=List.mem_of_getElem? hw;have e:m.step q worker victim=⟨(wkStep q (w,m.c) victim).2,m.l.set (pickN q worker) (wkStep q (w,m.c) victim).1⟩:=by unfold Mc.step;rw[if_neg (by rw[he];decide),List.getD_eq_getElem?_getD,hw];rfl
 obtain ⟨a1,a2⟩:=sum_ge Wk.probed h.p0;have b1:∀w:Wk,0≤st1 w:=fun w=>by unfold st1;split<;>omega
 obtain ⟨b2,b3⟩:=sum_ge st1 (l:=m.l) fun w _=>b1 w;have hpw:=a2 w hmem;have hpr:=h.pr;have hpn:=h.pn;have hp0:=h.p0 w hmem;have hs0:=h.s0;have hsl:=h.sl;obtain ⟨⟨c1,c2,c3⟩,c4⟩:=h.ct;have hn:=h.nn;obtain ⟨k1,k2,k3,k4,k5,k6,k7,k8,k9,k10,k11⟩:=q2_step (q:=q) (x:=(w,m.c)) victim h0.1 ⟨w64_1 c1 o8,w64_1 c2 o8,w64_1 c3 o8⟩ (w64_1 hp0 o8) (w64_1 o8 o8) (w64_1 hs0 o8);have hA:=ar_wkStep (q:=q) (x:=(w,m.c)) victim;rw[w64_1 o8 o8] at k1;rw[e];generalize hy:wkStep q (w,m.c) victim=y at k1 k2 k3 k4 k5 k6 k7 k8 k9 k10 k11 hA;dsimp only at k1 k2 k3 k4 k5 k6 k7 k8 k9 k10 k11;have hself:(m.l.set (pickN q worker) y.1)[pickN q worker]?=some y.1:=List.getElem?_set_self hk
 have hall:∀(P:Wk→Prop),(∀w∈m.l,P w)→P y.1→∀w∈m.l.set (pickN q worker) y.1,P w:=fun P h1 h2 v hv=>by
  rcases List.mem_or_eq_of_mem_set hv with hv|rfl
  ·exact h1 v hv
  ·exact h2
 have hsp:=sum_set Wk.probed hw y.1;have hss:=sum_set st1 hw y.1;have hu:∀v:Wk,st1 v=if v.state=1 then 1 else 0:=fun _=>rfl;rw[←hu,←hu] at k5;refine ⟨by dsimp only;omega,by omega,by simpa using hln,fun j v hv=>?_,hall _ h.p0 ka,by dsimp only;rw[hsp];omega,by dsimp only;omega,by dsimp only;omega,by dsimp only;rw[hss];omega,fun hW1=>?_,by dsimp only;omega,hA.1 _ h.ar,by have:=h.pk;have:=hA.2;dsimp only at *;omega⟩
 ·by_cases c:pickN q worker=j
  ·subst c;rw[hself] at hv;cases hv;rw[k6];exact h.ow _ w hw
  ·rw[List.getElem?_set_ne c] at hv;exact h.ow j v hv
 ·obtain ⟨o1,o2⟩:=h.one hW1;have hj:pickN q worker=0:=by unfold pickN;rw[hW1];omega
  have how:=h.ow _ w hw;rw[hj] at how;obtain ⟨r1,r2⟩:=k7 hW1 how (o2 w hmem);exact ⟨by dsimp only;omega,hall _ o2 r1⟩
theorem cs0_next {q:Pm} (hq:q.Ok) (M:Nat) (inp:List Int):(cs0 q M inp).nextId=some (1,[],1):=by
 have hF:=hq.2.2.1;have hl:(cs0 q M inp).held.length=(q.F+1).toNat:=by simp[cs0]
 unfold Cs.nextId;have e1:(cs0 q M inp).back=[]:=rfl;have e2:(cs0 q M inp).fresh=0:=rfl;have e3:w64 ((0:Int)+1)=1:=by decide
 rw[e1,e2,hl,e3];simp only[List.getLast?_nil];rw[if_neg ka]
theorem cs0_ar {q:Pm} (hq:q.Ok) (M:Nat) (inp:List Int):ArI q.F (cs0 q M inp):=by
 have hF:=hq.2.2.1;have hl:(cs0 q M inp).held=List.replicate (q.F+1).toNat false:=rfl;have hg:∀i,(cs0 q M inp).held.getD i false=false:=fun i=>by rw[hl,List.getD_eq_getElem?_getD,List.getElem?_replicate];split<;>rfl
 refine ⟨hF,by rw[hl,List.length_replicate];omega,hg 0,List.nodup_nil,by simp[cs0],⟨Int.le_refl _,by show (0:Int)≤_;omega⟩,fun i _=>hg i,⟨Int.le_refl _,by show (0:Int)≤_;omega⟩⟩
theorem mk0_eq {q:Pm} (hq:q.Ok) (M:Nat) (inp:List Int):makeF q (cs0 q M inp) { fm0 with kind:=1 }=(some 1,mk0 q M inp):=by unfold makeF mk0 Cs.make Cs.take;rw[cs0_next hq M inp]
theorem mk0_c {q:Pm} (hq:q.Ok) (M:Nat) (inp:List Int):C0 (cs0 q M inp) (mk0 q M inp):=makeC (mk0_eq hq M inp)
theorem mk0_peak {q:Pm} (hq:q.Ok) (M:Nat) (inp:List Int):1≤(mk0 q M inp).peak:=by
 have hF:=hq.2.2.1;have e:(mk0 q M inp).peak=max 0 (usedN ((cs0 q M inp).held.set (1:Int).toNat true):Int):=by unfold mk0 Cs.make Cs.take;rw[cs0_next hq M inp];rfl
 have h1:1≤usedN ((cs0 q M inp).held.set (1:Int).toNat true):=by
  unfold usedN;refine List.countP_pos_iff.2 ⟨true,?_,rfl⟩;have hl:(cs0 q M inp).held.length=(q.F+1).toNat:=by simp[cs0]
  exact List.mem_of_getElem? (List.getElem?_set_self (by rw[hl];omega))
 rw[e];omega
theorem mkM_cnt {q:Pm} (hq:q.Ok) (M:Nat) (inp:List Int):Cnt q (mkM q M inp) 0:=by
 have hW:=hq.1;obtain ⟨c1,c2,c3,c4,c5,c6⟩:=mk0_c hq M inp;have hA:=(ar_make q (cs0 q M inp) { fm0 with kind:=1 }).1 _ (cs0_ar hq M inp);rw[mk0_eq hq M inp] at hA
 have hl:∀(k:Nat) (w:Wk),(mkM q M inp).l[k]?=some w→w.own=k∧w.probed=0∧w.state≠1:=by
  intro k w hw;unfold mkM at hw;dsimp only at hw;by_cases c:0=k
  ·subst c;rw[List.getElem?_set_self eG] at hw;cases hw;exact ⟨rfl,rfl,by simp[Wk.runs]⟩
  ·rw[List.getElem?_set_ne c,List.getElem?_map] at hw;by_cases hk:k < q.W.toNat
   ·rw[List.getElem?_range hk] at hw;cases hw;exact ⟨rfl,rfl,by simp[wkNew]⟩
   ·rw[List.getElem?_eq_none eG] at hw;cases hw
 have hm:∀w∈(mkM q M inp).l,w.probed=0∧w.state≠1:=fun w hw=>by obtain ⟨k,hk⟩:=List.mem_iff_getElem?.1 hw;exact (hl k w hk).2
 have z:∀(f:Wk→Int) (l:List Wk),(∀w∈l,f w=0)→(l.map f).sum=0:=by
  intro f l h
  induction l with
  | nil=>rfl
  | cons a l ih=>rw[List.map_cons,List.sum_cons,h a (List.mem_cons_self ..),ih fun w hw=>h w (List.mem_cons_of_mem _ hw)];rfl
 have z1:=z Wk.probed _ fun w hw=>(hm w hw).1;have z2:=z st1 _ fun w hw=>if_neg (hm w hw).2;refine ⟨c1,by omega,?_,fun k w h=>(hl k w h).1,fun w hw=>by rw[(hm w hw).1];omega,c2.trans z1.symm,by rw[show (mkM q M inp).c.probes=0 from c2];omega,by rw[show (mkM q M inp).c.steals=0 from c3];omega,?_,fun _=>⟨c3,fun w hw=>(hm w hw).2⟩,?_,hA,mk0_peak hq M inp⟩
 ·simp[mkM];omega
 ·rw[z2,show (mkM q M inp).c.steals=0 from c3,show (mkM q M inp).c.probes=0 from c2];omega
 ·rw[show (mkM q M inp).c.parks=0 from c4,show (mkM q M inp).c.naps=0 from c5,show (mkM q M inp).c.folds=0 from c6];omega
end Go.Proofs.YtelibaobkcokdaaGreat.Mx
namespace Go.Proofs.YtelibaobkcokdaaGreat.Mx.In
set_option linter.unusedSectionVars false
set_option linter.unusedVariables false
set_option linter.unusedSimpArgs false
open Go Go.Kx Go.Proofs Go.Proofs.YtelibaobkcokdaaGreat Go.Proofs.YtelibaobkcokdaaGreat.Mx
set_option linter.unusedSectionVars false
section
variable {T W:Int} {sI:Int→Int} {tk:Int→Int→Int→Int} {r r2:RC} {P:Int→Pc} {cn:Int→Int} {rg:Nat→Int} {pc:Int→Int→Int}
structure Agr (r r2:RC):Prop where
 st:r2.st=r.st
 ho:r2.ho=r.ho
 us:r2.us=r.us
 fr:r2.fr=r.fr
 J:r2.J=r.J
 nap:r2.nap=r.nap
 sw:r2.sw=r.sw
 lk:r2.lk=r.lk
 dn:r2.dn=r.dn
 S:r2.S=r.S
 px:∀k,r.st k=3→r2.px k=r.px k
 th:∀k,r.st k=3→r2.th k=r.th k
 ot:∀k,r.st k=6∨r.st k=7∨r.st k=8∨r.st k=13∨r.st k=17∨r.st k=20∨r.st k=22∨r.st k=23∨r.st k=24→r2.ot k=r.ot k
 gS:∀k,r.st k=9→r2.gS k=r.gS k
 gy:∀k,r.st k=11→r2.gy k=r.gy k
 eH:∀k,r.st k=11∨r.st k=14∨r.st k=15∨r.st k=16→r2.eH k=r.eH k
 eR:∀k,r.st k=15∨r.st k=16→r2.eR k=r.eR k
 eW:∀k,r.st k=16→r2.eW k=r.eW k
 rt:∀k,r.st k=11→r2.rt k=r.rt k
 pk:∀k,r.st k=13→r2.pk k=r.pk k
 wa:∀k,r.st k=15→r2.wa k=r.wa k
 np:∀k,r.st k=20→r2.np k=r.np k
 fin:r2.fin=r.fin
 pas:r2.pas=r.pas
 ns:r2.ns=r.ns
 okS:r2.okS=r.okS
theorem CI.of (h:CI T W sI tk r P cn rg pc) (a:Agr r r2):CI T W sI tk r2 P cn rg pc:=by
 have:=h.irr a.px a.th a.ot a.gS a.gy a.eH a.eR a.eW a.rt a.pk a.wa a.np
 have e:r2={ r with px:=r2.px,th:=r2.th,ot:=r2.ot,gS:=r2.gS,gy:=r2.gy,eH:=r2.eH,eR:=r2.eR,eW:=r2.eW,rt:=r2.rt,pk:=r2.pk,wa:=r2.wa,np:=r2.np,fin:=r2.fin,pas:=r2.pas,ns:=r2.ns,okS:=r2.okS }:=
  RC.ext a.st a.ho rfl rfl rfl rfl rfl rfl rfl rfl rfl rfl rfl rfl a.us a.fr a.J a.nap a.sw a.lk a.dn a.S rfl rfl rfl rfl
 rw[e];exact { this with }
theorem HV.of (h:HV T W tk r P) (hc:CI T W sI tk r P cn rg pc) (e1:r2.st=r.st) (e2:r2.ho=r.ho) (e3:∀id,P id≠.free→r2.fr id=r.fr id) (e4:r2.dn=r.dn) (e5:r2.S=r.S) (e6:r2.fin=r.fin) (e7:r2.pas=r.pas) (e8:r2.ns=r.ns) (e9:r2.okS=r.okS)
  (e10:∀k,r.st k=11→r2.gy k=r.gy k) (e11:∀k,r.st k=20→r2.np k=r.np k):HV T W tk r2 P:=by
 have e0:∀k:Nat,(k:Int) < W→emp (r.st k)=false→r.st k≠3→P (r.ho k)≠.free:=fun k hk h1 h2=>by rw[hc.c1 k hk (hc.c3 k hk h1 h2)];exact fun e=>by cases e
 have x:∀k:Nat,(k:Int) < W→emp (r.st k)=false→r.st k≠3→r2.fr (r.ho k)=r.fr (r.ho k):=fun k hk h1 h2=>e3 _ (e0 k hk h1 h2)
 have y:∀k:Nat,(k:Int) < W→r.st k=11∨r.st k=15∨r.st k=16→r2.fr (r.ho k)=r.fr (r.ho k)∧r2.fr (r.fr (r.ho k)).parent=r.fr (r.fr (r.ho k)).parent:=by
  intro k hk hs;have hm:emp (r.st k)=false∧r.st k≠3:=by rcases hs with hs|hs|hs<;>rw[hs]<;>exact ⟨rfl,by decide⟩
  exact ⟨x k hk hm.1 hm.2,e3 _ (hc.f2 _ (e0 k hk hm.1 hm.2) (hc.c16b k hk ka).1).1⟩
 have z:∀k:Nat,cr (r.st k)=true→emp (r.st k)=false∧r.st k≠3:=fun k hs=>by have hs:=of_decide_eq_true hs;rcases hs with hs|hs|hs<;>rw[hs]<;>exact ⟨rfl,by decide⟩
 refine ⟨h.vt,by rw[e6,e7];exact h.v0,?_,by rw[e4,e6];exact h.v2,?_,?_,?_,?_,?_,by rw[e5,e8];exact h.v8,?_,by rw[e9];exact h.vk⟩
 ·intro k hk hs;rw[e1] at hs
  have hs':(r.st k=11∧r.gy k=2)∨r.st k=15∨r.st k=16:=by
   rcases hs with ⟨a,b⟩|hs
   ·exact .inl ⟨a,by rw[←e10 k a];exact b⟩
   ·exact .inr hs
  obtain ⟨y1,y2⟩:=y k hk ka;rw[e2,e6,y1,y2];exact h.v1 k hk hs'
 ·intro k hk hs ha;rw[e1] at hs;rw[e11 k hs] at ha ⊢;rw[e6];exact h.v3 k hk hs ha
 ·intro k hk hs;rw[e1] at hs;rw[e2,e6,x k hk eI eB];exact h.v4 k hk hs
 ·intro k hk hs;rw[e1] at hs;rw[e2,e6,x k hk (z k hs).1 (z k hs).2];exact h.v5 k hk hs
 ·intro k hk hs;rw[e1] at hs;rw[e2,e7,e8,x k hk (z k hs).1 (z k hs).2];exact h.v6 k hk hs
 ·intro l hl hk hn;rw[e3 l hl] at hk ⊢;rw[e8];exact h.v7 l hl hk fun k h1 h2=>by have:=hn k h1 (by rw[e1];exact h2);rw[e2] at this;exact this
 ·intro l hl hk hb hn;rw[e3 l hl] at hk ⊢;rw[e7];exact h.v9 l hl hk hb fun k h1 h2=>by have:=hn k h1 (by rw[e1];exact h2);rw[e2] at this;exact this
theorem HV.mv (h:HV T W tk r P) {P':Int→Pc} (hp:∀id,P' id=P id∨P id≠.free∧∀c,P id≠.below c):HV T W tk r P':=
 ⟨h.vt,h.v0,h.v1,h.v2,h.v3,h.v4,h.v5,h.v6,fun l hl=>h.v7 l (by rcases hp l with e|e;{ rw[←e];exact hl };exact e.1),h.v8,
  fun l hl h1 h2=>h.v9 l (by rcases hp l with e|e;{ rw[←e];exact hl };exact e.1) h1 (by rcases hp l with e|e;{ rw[←e];exact h2 };exact e.2),h.vk⟩
theorem HV.ofA (h:HV T W tk r P) (hc:CI T W sI tk r P cn rg pc) (a:Agr r r2):HV T W tk r2 P:=h.of hc a.st a.ho (fun id _=>congrFun a.fr id) a.dn a.S a.fin a.pas a.ns a.okS a.gy a.np
theorem Qg {α:Type} (f:Nat→α) (k:Nat):upd f k (f k)=f:=by
 funext i;unfold upd;split
 ·rename_i h;rw[h]
 ·rfl
end
def atSt (w:Wk):Bool:=decide (w.state=10∨w.state=12∨(w.state=11∧w.gWhy≠2))||(decide (w.state=3)&&wk2 w.th)
def Vr (q:Pm) (w:Wk):Prop:=
 (∀t,w.state=11→w.right=some t→t.got=false∧t.frame=0)∧(∀t,w.state=13→w.park=some t→t.back=false∧1≤t.r.id∧t.r.id≤q.F) ∧
 (∀t,w.state=15→w.wake=some t→t.over=false∧t.won=false)∧∀t,w.state=20→w.nap=some t→(t.over=false∧t.won=false)∧1≤t.r.id∧t.r.id≤q.F
structure InvG (q:Pm) (m:Mc) (P:Int→Pc) (H T:Nat→Int) (cl:Nat→Nat) (cn:Int→Int) (rg:Nat→Int) (pc:Int→Int→Int):Prop where
 ok:q.Ok
 ws:(m.c.ws.length:Int)=q.size
 hl:m.c.held.length=m.c.fr.length
 ln:(m.l.length:Int)=q.W
 wk:∀w∈m.l,WkOk w
 ow:∀(k:Nat) (w:Wk),m.l[k]?=some w→w.own=k
 ar:ArI q.F m.c
 lim:0≤m.c.steps∧m.c.steps≤100000∧m.c.serial≤m.c.steps∧∀id,(m.c.at id).started≤m.c.steps
 dq:DQI q.D (sD q) m.l.length (aDR q m.c m.l) P H T cl
 ci:CI q.T q.W (sR q) tokF (aRC q m.c m.l) P cn rg pc
 ni:NI q.F.toNat m.l.length (aRC q m.c m.l) P cn
 ta:∀(k:Nat) (w:Wk) (d:Dq),m.l[k]?=some w→w.dq=some d→inq d.nx=true→d.ta=q.base d.who+2
 wh:∀(k:Nat) (w:Wk) (d:Dq),m.l[k]?=some w→w.dq=some d→w.state=1∨w.state=2∨w.state=3→0≤d.who∧d.who < q.W
 gs:∀(k:Nat) (w:Wk),m.l[k]?=some w→atSt w=true→w.gStage=(m.c.at w.holds).stage
 vr:∀(k:Nat) (w:Wk),m.l[k]?=some w→Vr q w
 fl:∀(k:Nat) (w:Wk) (d:Dq),m.l[k]?=some w→w.state=3→w.dq=some d→(d.full=true↔d.nx=.nil)
 hv:HV q.T q.W tokF (aRC q m.c m.l) P
def Inv (q:Pm) (m:Mc):Prop:=∃P H T cl cn rg pc,InvG q m P H T cl cn rg pc
variable {T:Int} {F W:Nat} {sI:Int→Int} {tk:Int→Int→Int→Int} {r:RC} {P:Int→Pc} {cn:Int→Int} {rg:Nat→Int} {pc:Int→Int→Int}
set_option maxHeartbeats 40000000 in
theorem CI.mvDG {W:Int} (h:CI T W sI tk r P cn rg pc) {P':Int→Pc} (hp:∀id,P' id=P id∨((∃j n,P id=.deq j n)∨∃i,P id=.own i .got)∧((∃j n,P' id=.deq j n)∨∃i,P' id=.own i .got)):
  CI T W sI tk r P' cn rg pc:={}
set_option maxHeartbeats 40000000 in
theorem CN.idle (h:CN T F W sI tk r P cn rg pc) {k:Nat} (hk:(k:Int) < (W:Int)) (h1:emp (r.st k)=true) (h3:r.st k=0∨r.st k=1∨r.st k=2) (s:Int) (h2:s=0∨s=1∨s=2):
  CN T F W sI tk { r with st:=upd r.st k (s) } P cn rg pc:={
  g8:=by (try dsimp only);have a0:=h.g8;have a1:=h.c2;grind (splits:=40)}
set_option maxHeartbeats 40000000 in
theorem CN.takeR (h:CN T F W sI tk r P cn rg pc) {k:Nat} (hk:(k:Int) < (W:Int)) (h1:r.st k=1∨r.st k=2) {id:Int} (hp:P id=.own k .got) (hkd:(r.fr id).kind≠3):
  CN T F W sI tk { r with st:=upd r.st k (4),ho:=upd r.ho k (id) } (updI P id (.own k .hold)) cn rg pc:={
  c3:=by (try dsimp only);have a0:=h.c3;have a1:=h.f0b;grind (splits:=40)}
set_option maxHeartbeats 40000000 in
theorem CN.takeL (h:CN T F W sI tk r P cn rg pc) {k:Nat} (hk:(k:Int) < (W:Int)) (h1:r.st k=1∨r.st k=2) {id:Int} (hp:P id=.own k .got) (hkd:(r.fr id).kind=3):
  CN T F W sI tk { r with st:=upd r.st k (19),ho:=upd r.ho k (id) } (updI P id (.own k .hold)) cn rg pc:={
  c3:=by (try dsimp only);have a0:=h.c3;have a1:=h.f0b;grind (splits:=40)}
set_option maxHeartbeats 40000000 in
theorem CN.leaveNot (h:CN T F W sI tk r P cn rg pc) {k:Nat} (hk:(k:Int) < (W:Int)) (h1:r.st k=4):
  CN T F W sI tk { r with st:=upd r.st k (2),ho:=upd r.ho k (0),J:=updI r.J (r.ho k) (r.J (r.ho k) - 1) } (updI P (r.ho k) (.sync)) cn rg pc:=by
 have e0:r.ho k≠0:=h.c3 k hk eE eE;have p0:P (r.ho k)=.own k .hold:=by rw[h.c1 k hk e0,h1];simp[ht]
 have p1:=h.c16 k hk;exact {}
set_option maxHeartbeats 40000000 in
theorem CN.leaveLast (h:CN T F W sI tk r P cn rg pc) {k:Nat} (hk:(k:Int) < (W:Int)) (h1:r.st k=4) (hJ:r.J (r.ho k)=1):
  CN T F W sI tk { r with st:=upd r.st k (5),J:=updI r.J (r.ho k) (r.J (r.ho k) - 1) } (updI P (r.ho k) (.own k .jn)) cn rg pc:=by
 have e0:r.ho k≠0:=h.c3 k hk eE eE;have p0:P (r.ho k)=.own k .hold:=by rw[h.c1 k hk e0,h1];simp[ht]
 have p1:=h.c16 k hk;have p2:=h.h2 (r.ho k);exact {}
set_option maxHeartbeats 40000000 in
theorem CN.fork (h:CN T F W sI tk r P cn rg pc) {k:Nat} (hk:(k:Int) < (W:Int)) (h1:r.st k=4) {id:Int} (hf:P id=.free) (hi:0 < id)  (hF:id≤F):
  CN T F W sI tk { r with st:=upd r.st k (6),ot:=upd r.ot k (id),us:=updI r.us id true,fr:=updI (updI r.fr (r.ho k) { r.fr (r.ho k) with dirty:=true }) id ⟨1,r.ho k,false,0,0,0,0⟩,J:=updI r.J id 1,nap:=updI r.nap id 0,sw:=updZ r.sw id,lk:=updZ r.lk id,dn:=updZ r.dn id } (updI P id (.own k .mk)) cn rg pc:=by
 have e0:r.ho k≠0:=h.c3 k hk eE eE;have p0:P (r.ho k)=.own k .hold:=by rw[h.c1 k hk e0,h1];simp[ht]
 have p1:=h.c16 k hk;have p2:r.ho k≠id:=fun e=>by rw[e,hf] at p0;cases p0
 have yf2:=h.f2;have yc1:=h.c1;have yc3:=h.c3
 exact {
  c5:=by (try dsimp only);clear yf2 yc1 yc3;have a0:=h.c5;have a1:=h.f0b;have a2:=h.c1;have a3:=h.f2;have a4:=h.c3;grind (splits:=40)
  c5d:=by (try dsimp only);clear yf2 yc1 yc3;have a0:=h.c5d;have a1:=h.c5e;have a2:=h.c1;have a3:=h.f2;have a4:=h.c3;grind (splits:=40)
  c6d:=by (try dsimp only);clear yf2 yc1 yc3;have a0:=h.c6d;have a1:=h.c6;have a2:=h.c1;have a3:=h.f2;have a4:=h.c3;grind (splits:=40)
  c7c:=by (try dsimp only);clear yf2 yc1 yc3;have a0:=h.c7c;have a1:=h.c7b;have a2:=h.c1;have a3:=h.f2;have a4:=h.c3;grind (splits:=40)
  c11:=by (try dsimp only);clear yf2 yc1 yc3;have a0:=h.c11;have a1:=h.c16b;have a2:=h.c1;have a3:=h.f2;have a4:=h.c3;grind (splits:=40)
  c14:=by (try dsimp only);clear yf2 yc1 yc3;have a0:=h.c14;have a1:=h.c16b;have a2:=h.c1;have a3:=h.f2;have a4:=h.c3;grind (splits:=40)
  f3:=by (try dsimp only);clear yf2 yc1 yc3;have a0:=h.f3;have a1:=h.f4;have a2:=h.s0;have a3:=h.c1;have a4:=h.f2;grind (splits:=40)
  f4:=by (try dsimp only);clear yf2 yc1 yc3;have a0:=h.f4;have a1:=h.f3;have a2:=h.c1;have a3:=h.f2;grind (splits:=40)
  f6:=by (try dsimp only);clear yf2 yc1 yc3;have a0:=h.f6;have a1:=h.f2;grind (splits:=40)
  f7:=by (try dsimp only);clear yf2 yc1 yc3;clear hk h1 p1;have a0:=h.f7;have a1:=h.f3;have a2:=h.s0;grind (splits:=40)
  h1:=by (try dsimp only);clear yf2 yc1 yc3;have a0:=h.h1;have a1:=h.h3;have a2:=h.c1;have a3:=h.f2;grind (splits:=40)
  h2:=by (try dsimp only);clear yf2 yc1 yc3;have a0:=h.h2;have a1:=h.h3;have a2:=h.c1;have a3:=h.f2;grind (splits:=40)
  w1:=by (try dsimp only);clear yf2 yc1 yc3;have a0:=h.w1;have a1:=h.g1;have a2:=h.c1;have a3:=h.f2;grind (splits:=40)}
set_option maxHeartbeats 40000000 in
theorem CN.pipe (h:CN T F W sI tk r P cn rg pc) {k:Nat} (hk:(k:Int) < (W:Int)) (h1:r.st k=4) {id:Int} (hf:P id=.free) (hi:0 < id) (hT0:∀a b c,1≤a→0≤b→0≤c→tk a b c≠0) (hd:(r.fr (r.ho k)).dirty=false) (hF:id≤F):
  CN T F W sI tk { r with st:=upd r.st k (19),ho:=upd r.ho k (id),S:=r.S+1,us:=updI r.us id true,fr:=updI (r.fr) id ⟨3,r.ho k,false,0,0,0,r.S+1⟩,J:=updI r.J id 1,nap:=updI r.nap id 0,sw:=updZ r.sw id,lk:=updZ r.lk id,dn:=updZ r.dn id } (updI (updI P id (.own k .hold)) (r.ho k) (.pipe id)) cn rg pc:=by
 have p3:∀i,0≤i→tk (r.S+1) i 0≠0:=fun i hi2=>hT0 _ _ _ (by have:=h.s0;omega) hi2 ka;have e0:r.ho k≠0:=h.c3 k hk eE eE;have p0:P (r.ho k)=.own k .hold:=by rw[h.c1 k hk e0,h1];simp[ht]
 have p1:=h.c16 k hk;have p2:r.ho k≠id:=fun e=>by rw[e,hf] at p0;cases p0
 have yf2:=h.f2;have yc1:=h.c1;have yc3:=h.c3
 exact {
  hv:=by
   have hk4:cr (r.st k)=false:=by rw[h1];rfl
   have nk:∀j:Nat,cr (r.st j)=true→j≠k:=fun j e c=>by rw[c,hk4] at e;cases e
   have kh:=p1 (.inl h1)
   exact {
    v7:=by
     intro x x1 x2 x3;dsimp only at x1 x2 x3 ⊢;by_cases c:x=id
     ·subst c;unfold updI;rw[if_pos rfl];exact h.hv.v8 (r.S+1) ka
     ·have ef:∀v:Fe,updI r.fr id v x=r.fr x:=fun v=>if_neg c;rw[ef] at x2 ⊢;have c2:x≠r.ho k:=fun e=>kh (by rw[←e];exact x2);have ep:updI (updI P id (.own k .hold)) (r.ho k) (.pipe id) x=P x:=by unfold updI;rw[if_neg c2,if_neg c]
      rw[ep] at x1;refine h.hv.v7 x x1 x2 fun j hj e=>?_;have y:=x3 j hj (by unfold upd;rw[if_neg (nk j e)];exact e);unfold upd at y;rw[if_neg (nk j e)] at y;exact y
    v9:=by
     intro x x1 x2 x4 x3;dsimp only at x1 x2 x3 x4 ⊢;by_cases c:x=id
     ·subst c;left;unfold updI;rw[if_pos rfl]
     ·have ef:∀v:Fe,updI r.fr id v x=r.fr x:=fun v=>if_neg c;rw[ef] at x2 ⊢;have c2:x≠r.ho k:=fun e=>kh (by rw[←e];exact x2);have ep:updI (updI P id (.own k .hold)) (r.ho k) (.pipe id) x=P x:=by unfold updI;rw[if_neg c2,if_neg c]
      rw[ep] at x1;refine h.hv.v9 x x1 x2 (fun a e=>x4 a (by rw[ep];exact e)) fun j hj e=>?_;have y:=x3 j hj (by unfold upd;rw[if_neg (nk j e)];exact e);unfold upd at y;rw[if_neg (nk j e)] at y;exact y }
  c5:=by (try dsimp only);clear yf2 yc1 yc3;clear hT0;have a0:=h.c5;have a1:=h.f0b;have a2:=h.c1;have a3:=h.f2;have a4:=h.c3;grind (splits:=40)
  c5d:=by (try dsimp only);clear yf2 yc1 yc3;clear hT0;have a0:=h.c5d;have a1:=h.c5e;have a2:=h.c1;have a3:=h.f2;have a4:=h.c3;grind (splits:=40)
  c6d:=by (try dsimp only);clear yf2 yc1 yc3;clear hT0;have a0:=h.c6d;have a1:=h.c6;have a2:=h.c1;have a3:=h.f2;have a4:=h.c3;grind (splits:=40)
  c7c:=by (try dsimp only);clear yf2 yc1 yc3;clear hT0;have a0:=h.c7c;have a1:=h.c7b;have a2:=h.c1;have a3:=h.f2;have a4:=h.c3;grind (splits:=40)
  c11:=by (try dsimp only);clear yf2 yc1 yc3;clear hT0;have a0:=h.c11;have a1:=h.c16b;have a2:=h.c1;have a3:=h.f2;have a4:=h.c3;grind (splits:=40)
  c14:=by (try dsimp only);clear yf2 yc1 yc3;clear hT0;have a0:=h.c14;have a1:=h.c16b;have a2:=h.c1;have a3:=h.f2;have a4:=h.c3;grind (splits:=40)
  f3:=by (try dsimp only);clear yf2 yc1 yc3;clear hT0;have a0:=h.f3;have a1:=h.f4;have a2:=h.s0;have a3:=h.c1;have a4:=h.f2;grind (splits:=40)
  f4:=by (try dsimp only);clear yf2 yc1 yc3;clear hT0;have a0:=h.f4;have a1:=h.f3;have a2:=h.c1;have a3:=h.f2;grind (splits:=40)
  f6:=by (try dsimp only);clear yf2 yc1 yc3;clear hT0;have a0:=h.f6;have a1:=h.f2;grind (splits:=40)
  f7:=by (try dsimp only);clear yf2 yc1 yc3;clear hT0;clear hk h1 p1;have a0:=h.f7;have a1:=h.f3;have a2:=h.s0;grind (splits:=40)
  h1:=by (try dsimp only);clear yf2 yc1 yc3;clear hT0;have a0:=h.h1;have a1:=h.h3;have a2:=h.c1;have a3:=h.f2;grind (splits:=40)
  h2:=by (try dsimp only);clear yf2 yc1 yc3;clear hT0;have a0:=h.h2;have a1:=h.h3;have a2:=h.c1;have a3:=h.f2;grind (splits:=40)
  w1:=by (try dsimp only);clear yf2 yc1 yc3;clear hT0;have a0:=h.w1;have a1:=h.g1;have a2:=h.c1;have a3:=h.f2;grind (splits:=40)
  w3:=by (try dsimp only);clear yf2 yc1 yc3;intro l i h2 h3 h4 h5 h6;by_cases c:l=id;{subst c;simp[updZ,updI] at h6;exact absurd h6.symm (p3 i h4)};{clear hT0 p3;have a0:=h.w3 l i;grind (splits:=40)}}
set_option maxHeartbeats 40000000 in
theorem CN.serial (h:CN T F W sI tk r P cn rg pc) :
  CN T F W sI tk { r with S:=r.S+1 } P cn rg pc:={}
set_option maxHeartbeats 40000000 in
theorem CN.goOn (h:CN T F W sI tk r P cn rg pc) {k:Nat} (hk:(k:Int) < (W:Int)) (h1:r.st k=4) (hd:(r.fr (r.ho k)).dirty=false) (h2:(r.fr (r.ho k)).kind=2) (v:Int) (hv:(r.fr (r.ho k)).stage < v∧v < 1048576):
  CN T F W sI tk { r with st:=upd r.st k (9),gS:=upd r.gS k (v) } P cn rg pc:=by
 have e0:r.ho k≠0:=h.c3 k hk eE eE;have p0:P (r.ho k)=.own k .hold:=by rw[h.c1 k hk e0,h1];simp[ht]
 exact {}
set_option maxHeartbeats 40000000 in
theorem CN.endIt (h:CN T F W sI tk r P cn rg pc) {k:Nat} (hk:(k:Int) < (W:Int)) (h1:r.st k=4) (hd:(r.fr (r.ho k)).dirty=false) (h2:(r.fr (r.ho k)).kind=2) (b:Bool) (hb:b=true↔(r.fr (r.ho k)).stage=0):
  CN T F W sI tk { r with st:=upd r.st k (14),eH:=upd r.eH k (b),eR:=upd r.eR k (0),eW:=upd r.eW k (false) } P cn rg pc:=by
 have e0:r.ho k≠0:=h.c3 k hk eE eE;have p0:P (r.ho k)=.own k .hold:=by rw[h.c1 k hk e0,h1];simp[ht]
 exact {}
set_option maxHeartbeats 40000000 in
theorem CN.back (h:CN T F W sI tk r P cn rg pc) {k:Nat} (hk:(k:Int) < (W:Int)) (h1:r.st k=4) (hd:(r.fr (r.ho k)).dirty=false) (h2:(r.fr (r.ho k)).kind=1) (h3:(r.fr (r.ho k)).parent≠0) (hz:(∀c,P c≠.free→(r.fr c).kind≠3→(r.fr c).parent≠r.ho k)∧∀j:Nat,(j:Int) < W→r.st j=7→r.ot j≠r.ho k):
  CN T F W sI tk { r with st:=upd r.st k (7),ho:=upd r.ho k (0),ot:=upd r.ot k ((r.fr (r.ho k)).parent),us:=updI r.us (r.ho k) false } (updI P (r.ho k) (.free)) cn rg pc:=by
 have e0:r.ho k≠0:=h.c3 k hk eE eE;have p0:P (r.ho k)=.own k .hold:=by rw[h.c1 k hk e0,h1];simp[ht]
 have p1:=h.f4 (r.ho k);have p2:=h.h1 (r.ho k)
 exact {
  c7b:=by (try dsimp only);have a0:=h.c7b;have a1:=h.c1;grind (splits:=40)
  c9:=by (try dsimp only);have a0:=h.c9;grind (splits:=40)
  f4:=by (try dsimp only);have a0:=h.f4;grind (splits:=40)
  ni:=by have z0:=h.c1 k hk;have z1:=h.c3 k hk;refine h.ni.both (a:=(r.ho k)) (k:=k) (h.ni.b _ (by grind)) ka (fun i hi=>by (clear hz;grind (splits:=40))) (fun j hj=>by (clear hz;grind (splits:=40))) (fun i=>by (clear hz;have a0:=h.f0b;have a1:=h.ni.b;grind (splits:=40))) (fun p hp=>by (clear hz;grind (splits:=40)))}
set_option maxHeartbeats 40000000 in
theorem CN.joined (h:CN T F W sI tk r P cn rg pc) {k:Nat} (hk:(k:Int) < (W:Int)) (h1:r.st k=5):
  CN T F W sI tk { r with st:=upd r.st k (4),J:=updI r.J (r.ho k) 1,fr:=updI r.fr (r.ho k) { r.fr (r.ho k) with dirty:=false } } (updI P (r.ho k) (.own k .hold)) cn rg pc:=by
 have e0:r.ho k≠0:=h.c3 k hk eE eE;have p0:P (r.ho k)=.own k .jn:=by rw[h.c1 k hk e0,h1];simp[ht]
 have p1:=h.c16 k hk;have p2:=h.g7 _ _ p0;have d0:∀i,(updI r.fr (r.ho k) { r.fr (r.ho k) with dirty:=false } i).kind=(r.fr i).kind:=fun i=>by simp only[updI];split<;>simp_all
 have d1:∀i,(updI r.fr (r.ho k) { r.fr (r.ho k) with dirty:=false } i).parent=(r.fr i).parent:=fun i=>by simp only[updI];split<;>simp_all
 have d2:∀i,(updI r.fr (r.ho k) { r.fr (r.ho k) with dirty:=false } i).index=(r.fr i).index:=fun i=>by simp only[updI];split<;>simp_all
 have d3:∀i,(updI r.fr (r.ho k) { r.fr (r.ho k) with dirty:=false } i).stage=(r.fr i).stage:=fun i=>by simp only[updI];split<;>simp_all
 have d4:∀i,(updI r.fr (r.ho k) { r.fr (r.ho k) with dirty:=false } i).started=(r.fr i).started:=fun i=>by simp only[updI];split<;>simp_all
 have d5:∀i,(updI r.fr (r.ho k) { r.fr (r.ho k) with dirty:=false } i).serial=(r.fr i).serial:=fun i=>by simp only[updI];split<;>simp_all
 have yc1:=h.c1
 exact {
  c7:=by (try dsimp only);clear yc1;have a0:=h.c7;have a1:=h.c1;have a2:=h.c3;(try simp only[d0,d1,d2,d3,d4,d5]);grind (splits:=40)
  c10:=by (try dsimp only);clear yc1;have a0:=h.c10;have a1:=h.c1;(try simp only[d0,d1,d2,d3,d4,d5]);grind (splits:=40)
  c10c:=by (try dsimp only);clear yc1;have a0:=h.c10c;have a1:=h.c1;(try simp only[d0,d1,d2,d3,d4,d5]);grind (splits:=40)}
end Go.Proofs.YtelibaobkcokdaaGreat.Mx.In
