/- The machine, plain: the arena; a step's counts. -/
import Derived.Test.YtelibaobkcokdaaGreatB2Mxv
namespace Go.Proofs.YtelibaobkcokdaaGreat.Mx
set_option linter.unusedSectionVars false
set_option linter.unusedVariables false
set_option linter.unusedSimpArgs false
open Go Go.Kx Go.Proofs Go.Proofs.YtelibaobkcokdaaGreat
set_option maxRecDepth 8000
structure ArI (F:Int) (s:Cs):Prop where
 f:1≤F∧F≤256
 hl:(s.held.length:Int)=F+1
 h0:s.held.getD 0 false=false
 nd:s.back.Nodup
 bk:∀x∈s.back,0 < x∧x≤s.fresh∧s.held.getD x.toNat false=false
 fr:0≤s.fresh∧s.fresh≤F
 ab:∀i:Nat,s.fresh < i→s.held.getD i false=false
 pk:0≤s.peak∧s.peak≤F
def ArS (s s':Cs):Prop:=(∀F,ArI F s→ArI F s')∧s.peak≤s'.peak
theorem ArS.refl (s:Cs):ArS s s:=⟨fun _ h=>h,Int.le_refl _⟩
theorem ArS.trans {s s' s'':Cs} (h:ArS s s') (k:ArS s' s''):ArS s s'':=⟨fun F a=>k.1 F (h.1 F a),Int.le_trans h.2 k.2⟩
def E4 (s s':Cs):Prop:=s'.back=s.back∧s'.held=s.held∧s'.fresh=s.fresh∧s'.peak=s.peak
theorem E4.a {s s':Cs} (h:E4 s s'):ArS s s':=by
 obtain ⟨h1,h2,h3,h4⟩:=h
 refine ⟨fun F a=>⟨a.f,by rw[h2];exact a.hl,by rw[h2];exact a.h0,by rw[h1];exact a.nd,by rw[h1,h2,h3];exact a.bk,by rw[h3];exact a.fr,by rw[h2,h3];exact a.ab,by rw[h4];exact a.pk⟩,by rw[h4];exact Int.le_refl _⟩
theorem Q09 (s:Cs) (id:Int) (f:Fm):(s.setFr id f).peak=s.peak:=by unfold Cs.setFr;split<;>rfl
theorem Q32 (s:Cs) (a b:Int):(s.stop a b).peak=s.peak:=by unfold Cs.stop;split<;>rfl
theorem Q19 (s:Cs) (c:Bool) (id:Int) (f:Fm):(s.setIf c id f).peak=s.peak:=by unfold Cs.setIf;split;exact Q09 ..;rfl
theorem GP (s:Cs) (id:Int) (f:Fm):E4 s (s.setFr id f):=⟨QI ..,QJ ..,QK ..,Q09 ..⟩
theorem GQ (s:Cs) (c:Bool) (id:Int) (f:Fm):E4 s (s.setIf c id f):=⟨QQ ..,QR ..,QT ..,Q19 ..⟩
theorem GR (s:Cs) (a b:Int):E4 s (s.stop a b):=⟨QW ..,QX ..,QY ..,Q32 ..⟩
theorem usedle (l:List Bool) (h:l.getD 0 false=false):usedN l+1≤max l.length 1:=by
 cases l with
 | nil=>simp[usedN]
 | cons a l=>
  have ha:a=false:=h
  subst ha
  have:=List.countP_le_length (p:=id) (l:=l)
  simp only[usedN,List.countP_cons,List.length_cons,id]
  simp
  omega
theorem ar_free (s:Cs) (id:Int):ArS s (s.free id):=by
 unfold Cs.free
 split
 ·rename_i h
  obtain ⟨⟨h1,h2⟩,h3⟩:=(J88 s id).1 h
  refine ⟨fun F a=>?_,Int.le_refl _⟩
  have hidF:id≤s.fresh:=by
   by_cases c:id≤s.fresh
   ·exact c
   ·have:=a.ab id.toNat (by omega)
    rw[h3] at this;cases this
  refine ⟨a.f,by simpa using a.hl,?_,?_,?_,a.fr,?_,a.pk⟩
  ·rw[Q13];split
   ·rfl
   ·exact a.h0
  ·refine List.nodup_append.2 ⟨a.nd,by simp,?_⟩
   intro x hx b hb e
   simp at hb
   subst hb;subst e
   have:=(a.bk _ hx).2.2
   rw[h3] at this;cases this
  ·intro x hx
   rcases List.mem_append.1 hx with hx|hx
   ·refine ⟨(a.bk x hx).1,(a.bk x hx).2.1,?_⟩
    rw[Q13];split
    ·rfl
    ·exact (a.bk x hx).2.2
   ·simp at hx
    subst hx
    exact ⟨h1,hidF,by rw[Q13,if_pos ⟨rfl,by omega⟩]⟩
  ·intro i hi
   rw[Q13];split
   ·rfl
   ·exact a.ab i hi
 ·exact .refl s
theorem ArI.next {F:Int} {s:Cs} (a:ArI F s) {id:Int} {b:List Int} {f:Int} (e:s.nextId=some (id,b,f)):(0 < id∧id≤F)∧s.held.getD id.toNat false=false∧ArI F { s with back:=b,fresh:=f,held:=s.held.set id.toNat true,peak:=max s.peak (usedN (s.held.set id.toNat true)) }:=by
 have hF:=a.f
 have hu:id≠0→(usedN (s.held.set id.toNat true):Int)≤F∨id.toNat=0:=fun hne=>by
  by_cases c:id.toNat=0
  ·exact .inr c
  ·have h0:(s.held.set id.toNat true).getD 0 false=false:=by rw[Q13,if_neg (by omega)];exact a.h0
   have:=usedle _ h0
   rw[List.length_set] at this
   have:=a.hl
   left;omega
 unfold Cs.nextId at e
 cases hg:s.back.getLast? with
 | some y=>
  rw[hg] at e
  cases e
  obtain ⟨l,hl⟩:=List.getLast?_eq_some_iff.1 hg
  have hd:s.back.dropLast=l:=by rw[hl];simp
  have hb:=a.bk id (by rw[hl];simp)
  have hnd:=a.nd
  rw[hl] at hnd
  have hu:=hu (by omega)
  have hpk:=a.pk
  have hfr:=a.fr
  refine ⟨⟨hb.1,by omega⟩,hb.2.2,⟨a.f,by simpa using a.hl,?_,?_,?_,a.fr,?_,?_⟩⟩
  ·rw[Q13,if_neg (by omega)];exact a.h0
  ·rw[hd];exact (List.nodup_append.1 hnd).1
  ·rw[hd]
   intro x hx
   have hx2:=a.bk x (by rw[hl];exact List.mem_append_left _ hx)
   have hne:x≠id:=(List.nodup_append.1 hnd).2.2 x hx id (by simp)
   exact ⟨hx2.1,hx2.2.1,by rw[Q13,if_neg (by omega)];exact hx2.2.2⟩
  ·intro i hi
   rw[Q13,if_neg (by dsimp only at hi;omega)]
   exact a.ab i hi
  ·dsimp only;omega
 | none=>
  rw[hg] at e
  simp only at e
  split at e
  ·cases e
  ·rename_i hlt
   cases e
   have hfr:=a.fr
   have hhl:=a.hl
   have hw:w64 (s.fresh+1)=s.fresh+1:=Q76 (by omega) (by omega)
   rw[hw] at hlt hu ⊢
   have hu:=hu (by omega)
   have hpk:=a.pk
   refine ⟨⟨by omega,by omega⟩,a.ab _ (by omega),⟨a.f,by simpa using a.hl,?_,List.nodup_nil,by simp,by dsimp only;omega,?_,?_⟩⟩
   ·rw[Q13,if_neg (by omega)];exact a.h0
   ·intro i hi
    dsimp only at hi
    rw[Q13,if_neg (by omega)]
    exact a.ab i (by omega)
   ·dsimp only;omega
theorem ar_make (q:Pm) (s:Cs) (f:Fm):ArS s (makeF q s f).2:=by
 unfold makeF Cs.make Cs.take
 cases hn:s.nextId with
 | none=>exact (GR ..).a
 | some x=>
  obtain ⟨id,back,fresh⟩:=x
  refine ⟨fun F a=>?_,by simp only[hn];omega⟩
  simp only[hn]
  refine (E4.a (s:={ s with back:=back,fresh:=fresh,held:=s.held.set id.toNat true,peak:=max s.peak (usedN (s.held.set id.toNat true)) }) ?_).1 F (a.next hn).2.2
  exact ⟨rfl,rfl,rfl,rfl⟩
theorem X61 {q:Pm} {s:Cs} {f:Fm} {r:Option Int×Cs} (h:makeF q s f=r):ArS s r.2:=h ▸ ar_make q s f
section
variable {q:Pm} {x:WC}
theorem e_seekF (victim:Int):E4 x.2 (seekF q x victim).2:=by
 unfold seekF stepD
 try dsimp only
 repeat' split
 all_goals simp[E4,QI,QJ,QK,Q09,QW,QX,QY,Q32,QQ,QR,QT,Q19,Cs.setW,Cs.note]
theorem e_stealF:E4 x.2 (stealF q x).2:=by
 unfold stealF stepD
 try dsimp only
 repeat' split
 all_goals simp[E4,QI,QJ,QK,Q09,QW,QX,QY,Q32,QQ,QR,QT,Q19,Cs.setW,Cs.note]
theorem e_popF:E4 x.2 (popF q x).2:=by
 unfold popF stepD
 try dsimp only
 repeat' split
 all_goals simp[E4,QI,QJ,QK,Q09,QW,QX,QY,Q32,QQ,QR,QT,Q19,Cs.setW,Cs.note]
theorem e_pushF:E4 x.2 (pushF q x).2:=by
 unfold pushF stepD thenF looksOnF checksF decideF dueF stopF
 try dsimp only
 repeat' split
 all_goals simp[E4,QI,QJ,QK,Q09,QW,QX,QY,Q32,QQ,QR,QT,Q19,Cs.setW,Cs.note]
theorem e_joinedF:E4 x.2 (joinedF q x).2:=by
 unfold joinedF
 try dsimp only
 repeat' split
 all_goals simp[E4,QI,QJ,QK,Q09,QW,QX,QY,Q32,QQ,QR,QT,Q19,Cs.setW,Cs.note]
theorem e_spawnF:E4 x.2 (spawnF q x).2:=by
 unfold spawnF
 try dsimp only
 repeat' split
 all_goals simp[E4,QI,QJ,QK,Q09,QW,QX,QY,Q32,QQ,QR,QT,Q19,Cs.setW,Cs.note]
theorem e_arriveF:E4 x.2 (arriveF q x).2:=by
 unfold arriveF
 try dsimp only
 repeat' split
 all_goals simp[E4,QI,QJ,QK,Q09,QW,QX,QY,Q32,QQ,QR,QT,Q19,Cs.setW,Cs.note]
theorem e_resumeF:E4 x.2 (resumeF q x).2:=by
 unfold resumeF
 try dsimp only
 repeat' split
 all_goals simp[E4,QI,QJ,QK,Q09,QW,QX,QY,Q32,QQ,QR,QT,Q19,Cs.setW,Cs.note]
theorem e_advanceF:E4 x.2 (advanceF q x).2:=by
 unfold advanceF looksOnF checksF noteF
 try dsimp only
 repeat' split
 all_goals simp[E4,QI,QJ,QK,Q09,QW,QX,QY,Q32,QQ,QR,QT,Q19,Cs.setW,Cs.note]
theorem e_peekF:E4 x.2 (peekF q x).2:=by
 unfold peekF checksF decideF dueF
 try dsimp only
 repeat' split
 all_goals simp[E4,QI,QJ,QK,Q09,QW,QX,QY,Q32,QQ,QR,QT,Q19,Cs.setW,Cs.note]
theorem e_checkF2:E4 x.2 (checkF2 q x).2:=by
 unfold checkF2 stopF decideF dueF
 try dsimp only
 repeat' split
 all_goals simp[E4,QI,QJ,QK,Q09,QW,QX,QY,Q32,QQ,QR,QT,Q19,Cs.setW,Cs.note]
theorem e_lookF:E4 x.2 (lookF q x).2:=by
 unfold lookF dueF checksF stopF
 try dsimp only
 repeat' split
 all_goals simp[E4,QI,QJ,QK,Q09,QW,QX,QY,Q32,QQ,QR,QT,Q19,Cs.setW,Cs.note]
theorem e_parksF:E4 x.2 (parksF q x).2:=by
 unfold parksF
 try dsimp only
 repeat' split
 all_goals simp[E4,QI,QJ,QK,Q09,QW,QX,QY,Q32,QQ,QR,QT,Q19,Cs.setW,Cs.note]
theorem e_endsF:E4 x.2 (endsF q x).2:=by
 unfold endsF checksF noteF
 try dsimp only
 repeat' split
 all_goals simp[E4,QI,QJ,QK,Q09,QW,QX,QY,Q32,QQ,QR,QT,Q19,Cs.setW,Cs.note]
theorem e_closesF:E4 x.2 (closesF q x).2:=by
 unfold closesF
 try dsimp only
 repeat' split
 all_goals simp[E4,QI,QJ,QK,Q09,QW,QX,QY,Q32,QQ,QR,QT,Q19,Cs.setW,Cs.note]
theorem e_finishF:E4 x.2 (finishF q x).2:=by
 unfold finishF
 try dsimp only
 repeat' split
 all_goals simp[E4,QI,QJ,QK,Q09,QW,QX,QY,Q32,QQ,QR,QT,Q19,Cs.setW,Cs.note]
theorem e_napsF:E4 x.2 (napsF q x).2:=by
 unfold napsF
 try dsimp only
 repeat' split
 all_goals simp[E4,QI,QJ,QK,Q09,QW,QX,QY,Q32,QQ,QR,QT,Q19,Cs.setW,Cs.note]
theorem e_countF:E4 x.2 (countF q x).2:=by
 unfold countF
 try dsimp only
 repeat' split
 all_goals simp[E4,QI,QJ,QK,Q09,QW,QX,QY,Q32,QQ,QR,QT,Q19,Cs.setW,Cs.note]
theorem e_nameF2:E4 x.2 (nameF2 q x).2:=by
 unfold nameF2
 try dsimp only
 repeat' split
 all_goals simp[E4,QI,QJ,QK,Q09,QW,QX,QY,Q32,QQ,QR,QT,Q19,Cs.setW,Cs.note]
theorem e_joinsF:E4 x.2 (joinsF q x).2:=by
 unfold joinsF noteF
 try dsimp only
 repeat' split
 all_goals simp[E4,QI,QJ,QK,Q09,QW,QX,QY,Q32,QQ,QR,QT,Q19,Cs.setW,Cs.note]
theorem e_goOnF (f:Fm) (pc:Int) (e:Ef):E4 x.2 (goOnF x f pc e).2:=by
 unfold goOnF
 try dsimp only
 repeat' split
 all_goals simp[E4,QI,QJ,QK,Q09,QW,QX,QY,Q32,QQ,QR,QT,Q19,Cs.setW,Cs.note]
theorem e_leaveF (f:Fm):E4 x.2 (leaveF x f).2:=by
 unfold leaveF
 try dsimp only
 repeat' split
 all_goals simp[E4,QI,QJ,QK,Q09,QW,QX,QY,Q32,QQ,QR,QT,Q19,Cs.setW,Cs.note]
theorem ar_dropF:ArS x.2 (dropF q x).2:=by
 unfold dropF nextF
 dsimp only
 have hg:=ar_free x.2 x.1.holds
 generalize x.2.free x.1.holds=s at hg
 have h2:∀ws,ArS x.2 (s.setW ws):=fun ws=>hg.trans (E4.a ⟨rfl,rfl,rfl,rfl⟩)
 repeat' split
 all_goals exact h2 _
theorem ar_completeF:ArS x.2 (completeF x).2:=by
 unfold completeF
 dsimp only
 refine ArS.trans (s':=Cs.setFr (x.2.note ⟨5,(x.2.at x.1.holds).serial,(x.2.at x.1.holds).started,0⟩) (x.2.at x.1.holds).parent _) (E4.a ?_) (ar_free _ _)
 simp[E4,QI,QJ,QK,Q09,Cs.note]
theorem ar_startF:ArS x.2 (startF q x).2:=by
 unfold startF
 dsimp only
 split
 ·rename_i s h;exact X61 h
 ·rename_i id s h;exact (X61 h).trans (GQ ..).a
theorem ar_loopF:ArS x.2 (loopF q x).2:=by
 unfold loopF
 dsimp only
 repeat' split
 ·exact ar_startF
 all_goals exact E4.a ⟨rfl,rfl,rfl,rfl⟩
theorem ar_forkF (f:Fm) (pc fn:Int):ArS x.2 (forkF q x f pc fn).2:=by
 unfold forkF
 split
 ·rename_i s h;exact X61 h
 ·rename_i id s h;exact (X61 h).trans (GQ ..).a
theorem ar_pipeF (f:Fm) (pc fn:Int):ArS x.2 (pipeF q x f pc fn).2:=by
 unfold pipeF
 dsimp only
 have h0:ArS x.2 { x.2 with serial:=w64 (x.2.serial+1) }:=E4.a ⟨rfl,rfl,rfl,rfl⟩
 split
 ·rename_i s h;exact h0.trans (X61 h)
 ·rename_i id s h;exact (h0.trans (X61 h)).trans (GQ ..).a
theorem ar_backF (f:Fm):ArS x.2 (backF x f).2:=by
 unfold backF
 split
 ·split
  ·exact (GP ..).a
  ·exact .refl _
 ·split
  ·exact (GR ..).a
  ·exact ar_free _ _
theorem ar_turnF (f:Fm) (pc:Int) (e:Ef):ArS x.2 (turnF q x f pc e).2:=by
 unfold turnF
 split
 ·exact ar_forkF ..
 split
 ·exact ar_pipeF ..
 split
 ·exact (e_goOnF ..).a
 split
 ·exact (e_leaveF ..).a
 split
 ·exact ar_backF ..
 ·exact .refl _
theorem q_turnF (f:Fm) (pc:Int) (e:Ef) (hm:Sm x.2) (hn:x.1.state≠1):Q1 x (turnF q x f pc e):=by
 unfold turnF
 split
 ·exact q_forkF _ _ _ hm hn
 split
 ·exact q_pipeF _ _ _ hm hn
 split
 ·exact q_goOnF _ _ _ hm hn
 split
 ·exact q_leaveF _ hm hn
 split
 ·exact q_backF _ hm hn
 ·exact Q08 hn
theorem emit_c {q:Pm} {s s':Cs} {n:Int} (h:emitC q s n=some s'):C0 s s'∧E4 s s':=by
 unfold emitC at h
 split at h
 ·cases h
 ·cases h;exact ⟨⟨rfl,rfl,rfl,rfl,rfl,rfl⟩,⟨rfl,rfl,rfl,rfl⟩⟩
theorem C0.q1 {y:WC} (h:C0 x.2 y.2) (h1:y.1.probed=x.1.probed) (h2:y.1.own=x.1.own) (h3:y.1.state≠1):Q1 x y:=by
 obtain ⟨k1,k2,k3,k4,k5,k6⟩:=h
 exact ⟨k1,k2,k3,h1,h2,h3,by omega,by omega,by omega,by omega⟩
theorem J43 {s s':Cs} (h1:s'.steps=s.steps) (h2:s'.probes=s.probes) (h3:s'.steals=s.steals) (h4:s'.parks=s.parks) (h5:s'.naps=s.naps) (h6:s'.folds=s.folds):C0 s s':=⟨h1,h2,h3,h4,h5,h6⟩
theorem ar_instrF (f:Fm) (r:Int×List Int×Ef×Int):ArS x.2 (instrF q x f r).2:=by
 unfold instrF
 dsimp only
 split
 ·split<;>exact E4.a ⟨rfl,rfl,rfl,rfl⟩
 split
 ·exact (GR ..).a
 split
 ·split<;>exact E4.a (by simp[E4,QI,QJ,QK,Q09,QW,QX,QY,Q32])
 split
 ·split
  ·exact (GR ..).a
  ·rename_i s h;exact (emit_c h).2.a.trans (GP ..).a
 split
 ·exact (GP ..).a
 ·exact ar_turnF ..
theorem q_instrF (f:Fm) (r:Int×List Int×Ef×Int) (hm:Sm x.2) (hn:x.1.state≠1):Q1 x (instrF q x f r):=by
 unfold instrF
 dsimp only
 split
 ·split
  ·exact C0.q1 (J43 rfl rfl rfl rfl rfl rfl) rfl rfl (by simp)
  ·exact C0.q1 (J43 rfl rfl rfl rfl rfl rfl) rfl rfl (by simp[Wk.goes])
 split
 ·exact C0.q1 (Z78 ..) rfl rfl hn
 split
 ·split
  ·exact C0.q1 ((J43 rfl rfl rfl rfl rfl rfl).trans (Z78 { x.2 with data:=_ } _ _)) rfl rfl hn
  ·exact C0.q1 ((J43 rfl rfl rfl rfl rfl rfl).trans (Q75 { x.2 with data:=_ } _ _)) rfl rfl hn
 split
 ·split
  ·exact C0.q1 (Z78 ..) rfl rfl hn
  ·rename_i s h;exact C0.q1 ((emit_c h).1.trans (Q75 ..)) rfl rfl hn
 split
 ·exact C0.q1 (Q75 ..) rfl rfl hn
 ·exact q_turnF _ _ _ hm hn
theorem begin_e (s:Cs) (id:Int) (f:Fm):C0 s (beginC s id f)∧E4 s (beginC s id f):=by
 unfold beginC
 split
 ·exact ⟨(Q75 ..).trans (J43 rfl rfl rfl rfl rfl rfl),by simp[E4,QI,QJ,QK,Q09,Cs.note]⟩
 ·exact ⟨.refl _,rfl,rfl,rfl,rfl⟩
theorem Q1.from_ {y z:WC} (h:C0 x.2 y.2) (h1:y.1=x.1) (k:Q1 y z):Q1 x z:=by
 obtain ⟨a1,a2,a3,a4,a5,a6⟩:=h
 obtain ⟨k1,k2,k3,k4,k5,k6,k7,k8,k9,k10⟩:=k
 exact ⟨by omega,by omega,by omega,by rw[k4,h1],by rw[k5,h1],k6,by omega,by omega,by omega,by omega⟩
theorem Sm.of (hm:Sm x.2) {s:Cs} (h:C0 x.2 s):Sm s:=by
 obtain ⟨a1,a2,a3,a4,a5,a6⟩:=h
 exact ⟨by rw[a4];exact hm.a,by rw[a5];exact hm.b,by rw[a6];exact hm.c⟩
theorem ar_runF:ArS x.2 (runF q x).2:=(begin_e ..).2.a.trans (ar_instrF (x:=(x.1,beginC x.2 x.1.holds (x.2.at x.1.holds))) ..)
theorem q_runF (hm:Sm x.2) (hn:x.1.state≠1):Q1 x (runF q x):=
 Q1.from_ (y:=(x.1,beginC x.2 x.1.holds (x.2.at x.1.holds))) (begin_e ..).1 rfl (q_instrF (x:=(x.1,beginC x.2 x.1.holds (x.2.at x.1.holds))) _ _ (hm.of (begin_e ..).1) hn)
theorem ar_actF:ArS x.2 (actF q x).2:=by
 unfold actF
 dsimp only
 by_cases c1:x.1.state=1
 ·rw[if_pos c1];exact e_stealF.a
 rw[if_neg c1]
 by_cases c2:x.1.state=2
 ·rw[if_pos c2];exact e_popF.a
 rw[if_neg c2]
 by_cases c3:x.1.state=3
 ·rw[if_pos c3];exact e_pushF.a
 rw[if_neg c3]
 by_cases c4:x.1.state=4
 ·rw[if_pos c4];exact ar_runF
 rw[if_neg c4]
 by_cases c5:x.1.state=5
 ·rw[if_pos c5];exact e_joinedF.a
 rw[if_neg c5]
 by_cases c6:x.1.state=6
 ·rw[if_pos c6];exact e_spawnF.a
 rw[if_neg c6]
 by_cases c7:x.1.state=7
 ·rw[if_pos c7];exact e_arriveF.a
 rw[if_neg c7]
 by_cases c8:x.1.state=8
 ·rw[if_pos c8];exact e_resumeF.a
 rw[if_neg c8]
 by_cases c9:x.1.state=9
 ·rw[if_pos c9];exact e_advanceF.a
 rw[if_neg c9]
 by_cases c10:x.1.state=10
 ·rw[if_pos c10];exact e_peekF.a
 rw[if_neg c10]
 by_cases c11:x.1.state=11
 ·rw[if_pos c11];exact e_checkF2.a
 rw[if_neg c11]
 by_cases c12:x.1.state=12
 ·rw[if_pos c12];exact e_lookF.a
 rw[if_neg c12]
 by_cases c13:x.1.state=13
 ·rw[if_pos c13];exact e_parksF.a
 rw[if_neg c13]
 by_cases c14:x.1.state=14
 ·rw[if_pos c14];exact e_endsF.a
 rw[if_neg c14]
 by_cases c15:x.1.state=15
 ·rw[if_pos c15];exact e_closesF.a
 rw[if_neg c15]
 by_cases c16:x.1.state=16
 ·rw[if_pos c16];exact ar_dropF
 rw[if_neg c16]
 by_cases c17:x.1.state=17
 ·rw[if_pos c17];exact e_finishF.a
 rw[if_neg c17]
 by_cases c18:x.1.state=18
 ·rw[if_pos c18];exact ar_completeF
 rw[if_neg c18]
 by_cases c19:x.1.state=19
 ·rw[if_pos c19];exact ar_loopF
 rw[if_neg c19]
 by_cases c20:x.1.state=20
 ·rw[if_pos c20];exact e_napsF.a
 rw[if_neg c20]
 by_cases c21:x.1.state=21
 ·rw[if_pos c21];exact ar_startF
 rw[if_neg c21]
 by_cases c22:x.1.state=22
 ·rw[if_pos c22];exact e_countF.a
 rw[if_neg c22]
 by_cases c23:x.1.state=23
 ·rw[if_pos c23];exact e_nameF2.a
 rw[if_neg c23]
 exact e_joinsF.a
theorem q_actF (hm:Sm x.2) (hn:x.1.state≠1):Q1 x (actF q x):=by
 unfold actF
 dsimp only
 rw[if_neg hn]
 by_cases c2:x.1.state=2
 ·rw[if_pos c2];exact q_popF hm hn
 rw[if_neg c2]
 by_cases c3:x.1.state=3
 ·rw[if_pos c3];exact q_pushF hm hn
 rw[if_neg c3]
 by_cases c4:x.1.state=4
 ·rw[if_pos c4];exact q_runF hm hn
 rw[if_neg c4]
 by_cases c5:x.1.state=5
 ·rw[if_pos c5];exact q_joinedF hm hn
 rw[if_neg c5]
 by_cases c6:x.1.state=6
 ·rw[if_pos c6];exact q_spawnF hm hn
 rw[if_neg c6]
 by_cases c7:x.1.state=7
 ·rw[if_pos c7];exact q_arriveF hm hn
 rw[if_neg c7]
 by_cases c8:x.1.state=8
 ·rw[if_pos c8];exact q_resumeF hm hn
 rw[if_neg c8]
 by_cases c9:x.1.state=9
 ·rw[if_pos c9];exact q_advanceF hm hn
 rw[if_neg c9]
 by_cases c10:x.1.state=10
 ·rw[if_pos c10];exact q_peekF hm hn
 rw[if_neg c10]
 by_cases c11:x.1.state=11
 ·rw[if_pos c11];exact q_checkF2 hm hn
 rw[if_neg c11]
 by_cases c12:x.1.state=12
 ·rw[if_pos c12];exact q_lookF hm hn
 rw[if_neg c12]
 by_cases c13:x.1.state=13
 ·rw[if_pos c13];exact q_parksF hm hn
 rw[if_neg c13]
 by_cases c14:x.1.state=14
 ·rw[if_pos c14];exact q_endsF hm hn
 rw[if_neg c14]
 by_cases c15:x.1.state=15
 ·rw[if_pos c15];exact q_closesF hm hn
 rw[if_neg c15]
 by_cases c16:x.1.state=16
 ·rw[if_pos c16];exact q_dropF hm hn
 rw[if_neg c16]
 by_cases c17:x.1.state=17
 ·rw[if_pos c17];exact q_finishF hm hn
 rw[if_neg c17]
 by_cases c18:x.1.state=18
 ·rw[if_pos c18];exact q_completeF hm hn
 rw[if_neg c18]
 by_cases c19:x.1.state=19
 ·rw[if_pos c19];exact q_loopF hm hn
 rw[if_neg c19]
 by_cases c20:x.1.state=20
 ·rw[if_pos c20];exact q_napsF hm hn
 rw[if_neg c20]
 by_cases c21:x.1.state=21
 ·rw[if_pos c21];exact q_startF hm hn
 rw[if_neg c21]
 by_cases c22:x.1.state=22
 ·rw[if_pos c22];exact q_countF hm hn
 rw[if_neg c22]
 by_cases c23:x.1.state=23
 ·rw[if_pos c23];exact q_nameF2 hm hn
 rw[if_neg c23]
 exact q_joinsF hm hn
structure Q2 (q:Pm) (x y:WC):Prop where
 st:y.2.steps=w64 (x.2.steps+1)
 pr:y.2.probes - x.2.probes=y.1.probed - x.1.probed
 p1:x.1.probed≤y.1.probed∧y.1.probed≤x.1.probed+1
 s0:x.2.steals≤y.2.steals
 sl:y.2.steals+(if y.1.state=1 then 1 else 0) - (x.2.steals+(if x.1.state=1 then 1 else 0))≤y.2.probes - x.2.probes
 ow:y.1.own=x.1.own
 one:q.W=1→x.1.own=0→x.1.state≠1→y.1.state≠1∧y.2.steals=x.2.steals
 u1:x.2.parks≤y.2.parks
 u2:x.2.naps≤y.2.naps
 u3:x.2.folds≤y.2.folds
 up:y.2.parks+y.2.naps+y.2.folds≤x.2.parks+x.2.naps+x.2.folds+1
theorem q2_seek (victim:Int) (hp:w64 (x.1.probed+1)=x.1.probed+1) (hq:w64 (x.2.probes+1)=x.2.probes+1) (hs:x.1.state=0):Q2 q x (seekF q (x.1,{ x.2 with steps:=w64 (x.2.steps+1) }) victim):=by
 unfold seekF
 dsimp only
 split
 ·refine ⟨rfl,by show w64 (x.2.probes+1) - _=w64 (x.1.probed+1) - _;omega,by show _≤w64 (x.1.probed+1)∧w64 (x.1.probed+1)≤_;omega,Int.le_refl _,?_,rfl,fun _ _ h=>⟨h,rfl⟩,Int.le_refl _,Int.le_refl _,Int.le_refl _,by show x.2.parks+x.2.naps+x.2.folds≤_;omega⟩
  show x.2.steals+(if x.1.state=1 then 1 else 0) - _≤w64 (x.2.probes+1) - _
  omega
 ·rename_i hv
  refine ⟨rfl,by show w64 (x.2.probes+1) - _=w64 (x.1.probed+1) - _;omega,by show _≤w64 (x.1.probed+1)∧w64 (x.1.probed+1)≤_;omega,Int.le_refl _,?_,rfl,fun hW ho h=>?_,Int.le_refl _,Int.le_refl _,Int.le_refl _,by show x.2.parks+x.2.naps+x.2.folds≤_;omega⟩
  ·show x.2.steals+(if (1:Int)=1 then 1 else 0) - _≤w64 (x.2.probes+1) - _
   rw[hs,hq];simp;omega
  ·exfalso
   apply hv
   rw[hW,ho,Int.tmod_one]
theorem q2_steal (hs:x.1.state=1) (hw:w64 (x.2.steals+1)=x.2.steals+1):Q2 q x (stealF q (x.1,{ x.2 with steps:=w64 (x.2.steps+1) })):=by
 unfold stealF
 dsimp only
 split
 ·exact ⟨rfl,by show x.2.probes - _=x.1.probed - _;omega,by show _≤x.1.probed∧x.1.probed≤_;omega,Int.le_refl _,by show x.2.steals+(if x.1.state=1 then 1 else 0) - _≤x.2.probes - _;omega,rfl,fun _ _ h=>absurd hs h,Int.le_refl _,Int.le_refl _,Int.le_refl _,by show x.2.parks+x.2.naps+x.2.folds≤_;omega⟩
 split
 ·exact ⟨rfl,by show x.2.probes - _=x.1.probed - _;omega,by show _≤x.1.probed∧x.1.probed≤_;omega,Int.le_refl _,by show x.2.steals+(if (0:Int)=1 then 1 else 0) - _≤x.2.probes - _;rw[hs,if_neg (by omega),if_pos rfl];omega,rfl,fun _ _ h=>absurd hs h,Int.le_refl _,Int.le_refl _,Int.le_refl _,by show x.2.parks+x.2.naps+x.2.folds≤_;omega⟩
 ·obtain ⟨t1,t2,t3⟩:=takes_st (stepD q (x.1,{ x.2 with steps:=w64 (x.2.steps+1) })).1 { (stepD q (x.1,{ x.2 with steps:=w64 (x.2.steps+1) })).2 with steals:=w64 ((stepD q (x.1,{ x.2 with steps:=w64 (x.2.steps+1) })).2.steals+1) } (dqGets (stepD q (x.1,{ x.2 with steps:=w64 (x.2.steps+1) })).1.dq).1
  refine ⟨rfl,?_,?_,by show x.2.steals≤w64 (x.2.steals+1);omega,?_,t3,fun _ _ h=>absurd hs h,Int.le_refl _,Int.le_refl _,Int.le_refl _,by show x.2.parks+x.2.naps+x.2.folds≤_;omega⟩
  ·show x.2.probes - _=_
   rw[t2];show _=x.1.probed - _;omega
  ·show _≤Wk.probed _∧Wk.probed _≤_
   rw[t2];show _≤x.1.probed∧x.1.probed≤_;omega
  ·show w64 (x.2.steals+1)+(if Wk.state _=1 then 1 else 0) - _≤x.2.probes - _
   rw[if_neg t1,hs,hw,if_pos rfl];omega
theorem q2_step (victim:Int) (h0:x.2.status=0) (hm:Sm x.2) (hp:w64 (x.1.probed+1)=x.1.probed+1) (hq:w64 (x.2.probes+1)=x.2.probes+1) (hw:w64 (x.2.steals+1)=x.2.steals+1):Q2 q x (wkStep q x victim):=by
 unfold wkStep
 rw[if_neg (by omega)]
 dsimp only
 split
 ·rename_i hs;exact q2_seek victim hp hq hs
 ·rename_i hs
  by_cases c:x.1.state=1
  ·have e:actF q (x.1,{ x.2 with steps:=w64 (x.2.steps+1) })=stealF q (x.1,{ x.2 with steps:=w64 (x.2.steps+1) }):=by unfold actF;dsimp only;rw[if_pos c]
   rw[e];exact q2_steal c hw
  ·obtain ⟨k1,k2,k3,k4,k5,k6,k7,k8,k9,k10⟩:=q_actF (q:=q) (x:=(x.1,{ x.2 with steps:=w64 (x.2.steps+1) })) ⟨hm.a,hm.b,hm.c⟩ c
   refine ⟨k1,by rw[k2,k4];show x.2.probes - _=x.1.probed - _;omega,by rw[k4];show _≤x.1.probed∧x.1.probed≤_;omega,by rw[k3];exact Int.le_refl _,?_,k5,fun _ _ _=>⟨k6,k3⟩,k7,k8,k9,k10⟩
   rw[if_neg k6,k3,k2,if_neg c];show x.2.steals+0 - _≤x.2.probes - _;omega
theorem ar_wkStep (victim:Int):ArS x.2 (wkStep q x victim).2:=by
 unfold wkStep
 split
 ·exact .refl _
 ·have h0:ArS x.2 { x.2 with steps:=w64 (x.2.steps+1) }:=E4.a ⟨rfl,rfl,rfl,rfl⟩
  dsimp only
  split
  ·exact h0.trans (e_seekF victim (x:=(x.1,{ x.2 with steps:=w64 (x.2.steps+1) }))).a
  ·exact h0.trans (ar_actF (x:=(x.1,{ x.2 with steps:=w64 (x.2.steps+1) })))
end
end Go.Proofs.YtelibaobkcokdaaGreat.Mx
