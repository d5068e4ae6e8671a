/- The machine, plain: what is counted. -/
import Derived.Test.YtelibaobkcokdaaGreatB2Mxu
namespace Go.Proofs.YtelibaobkcokdaaGreat.Mx
set_option linter.unusedSectionVars false
set_option linter.unusedVariables false
set_option linter.unusedSimpArgs false
open Go Go.Kx Go.Proofs Go.Proofs.YtelibaobkcokdaaGreat
set_option maxRecDepth 8000
def C0 (s s':Cs):Prop:=s'.steps=s.steps∧s'.probes=s.probes∧s'.steals=s.steals∧s'.parks=s.parks∧s'.naps=s.naps∧s'.folds=s.folds
theorem C0.refl (s:Cs):C0 s s:=⟨rfl,rfl,rfl,rfl,rfl,rfl⟩
theorem C0.trans {s s' s'':Cs} (h:C0 s s') (k:C0 s' s''):C0 s s'':=⟨k.1.trans h.1,k.2.1.trans h.2.1,k.2.2.1.trans h.2.2.1,k.2.2.2.1.trans h.2.2.2.1,k.2.2.2.2.1.trans h.2.2.2.2.1,k.2.2.2.2.2.trans h.2.2.2.2.2⟩
theorem Q75 (s:Cs) (id:Int) (f:Fm):C0 s (s.setFr id f):=by unfold Cs.setFr;split<;>exact ⟨rfl,rfl,rfl,rfl,rfl,rfl⟩
theorem Z78 (s:Cs) (a b:Int):C0 s (s.stop a b):=by unfold Cs.stop;split<;>exact ⟨rfl,rfl,rfl,rfl,rfl,rfl⟩
theorem X60 (s:Cs) (c:Bool) (id:Int) (f:Fm):C0 s (s.setIf c id f):=by unfold Cs.setIf;split;exact Q75 ..;exact .refl _
theorem Y71 (s:Cs) (id:Int):C0 s (s.free id):=by unfold Cs.free;split<;>exact ⟨rfl,rfl,rfl,rfl,rfl,rfl⟩
theorem c0_make (q:Pm) (s:Cs) (f:Fm):C0 s (makeF q s f).2:=by
 unfold makeF Cs.make Cs.take
 cases s.nextId with
 | none=>exact Z78 ..
 | some x=>exact ⟨rfl,rfl,rfl,rfl,rfl,rfl⟩
theorem Qb (s:Cs) (id:Int) (f:Fm):(s.setFr id f).steps=s.steps:=(Q75 s id f).1
theorem Q3 (s:Cs) (id:Int) (f:Fm):(s.setFr id f).probes=s.probes:=(Q75 s id f).2.1
theorem Q4 (s:Cs) (id:Int) (f:Fm):(s.setFr id f).steals=s.steals:=(Q75 s id f).2.2.1
theorem Qc (s:Cs) (id:Int) (f:Fm):(s.setFr id f).parks=s.parks:=(Q75 s id f).2.2.2.1
theorem Qo (s:Cs) (id:Int) (f:Fm):(s.setFr id f).naps=s.naps:=(Q75 s id f).2.2.2.2.1
theorem Qd (s:Cs) (id:Int) (f:Fm):(s.setFr id f).folds=s.folds:=(Q75 s id f).2.2.2.2.2
theorem Qe (s:Cs) (a b:Int):(s.stop a b).steps=s.steps:=(Z78 s a b).1
theorem Q5 (s:Cs) (a b:Int):(s.stop a b).probes=s.probes:=(Z78 s a b).2.1
theorem Q6 (s:Cs) (a b:Int):(s.stop a b).steals=s.steals:=(Z78 s a b).2.2.1
theorem Qf (s:Cs) (a b:Int):(s.stop a b).parks=s.parks:=(Z78 s a b).2.2.2.1
theorem Qp (s:Cs) (a b:Int):(s.stop a b).naps=s.naps:=(Z78 s a b).2.2.2.2.1
theorem Qg (s:Cs) (a b:Int):(s.stop a b).folds=s.folds:=(Z78 s a b).2.2.2.2.2
theorem Qh (s:Cs) (c:Bool) (id:Int) (f:Fm):(s.setIf c id f).steps=s.steps:=(X60 s c id f).1
theorem Q7 (s:Cs) (c:Bool) (id:Int) (f:Fm):(s.setIf c id f).probes=s.probes:=(X60 s c id f).2.1
theorem Q8 (s:Cs) (c:Bool) (id:Int) (f:Fm):(s.setIf c id f).steals=s.steals:=(X60 s c id f).2.2.1
theorem Qi (s:Cs) (c:Bool) (id:Int) (f:Fm):(s.setIf c id f).parks=s.parks:=(X60 s c id f).2.2.2.1
theorem Qq (s:Cs) (c:Bool) (id:Int) (f:Fm):(s.setIf c id f).naps=s.naps:=(X60 s c id f).2.2.2.2.1
theorem Qj (s:Cs) (c:Bool) (id:Int) (f:Fm):(s.setIf c id f).folds=s.folds:=(X60 s c id f).2.2.2.2.2
theorem Qk (s:Cs) (id:Int):(s.free id).steps=s.steps:=(Y71 s id).1
theorem Q9 (s:Cs) (id:Int):(s.free id).probes=s.probes:=(Y71 s id).2.1
theorem Qa (s:Cs) (id:Int):(s.free id).steals=s.steals:=(Y71 s id).2.2.1
theorem Ql (s:Cs) (id:Int):(s.free id).parks=s.parks:=(Y71 s id).2.2.2.1
theorem Qr (s:Cs) (id:Int):(s.free id).naps=s.naps:=(Y71 s id).2.2.2.2.1
theorem Qm (s:Cs) (id:Int):(s.free id).folds=s.folds:=(Y71 s id).2.2.2.2.2
theorem makeC {q:Pm} {s:Cs} {f:Fm} {r:Option Int} {s':Cs} (h:makeF q s f=(r,s')):C0 s s':=by have:=c0_make q s f;rw[h] at this;exact this
structure Q1 (x y:WC):Prop where
 st:y.2.steps=x.2.steps
 pr:y.2.probes=x.2.probes
 sl:y.2.steals=x.2.steals
 pb:y.1.probed=x.1.probed
 ow:y.1.own=x.1.own
 ns:y.1.state≠1
 u1:x.2.parks≤y.2.parks
 u2:x.2.naps≤y.2.naps
 u3:x.2.folds≤y.2.folds
 up:y.2.parks+y.2.naps+y.2.folds≤x.2.parks+x.2.naps+x.2.folds+1
structure Sm (s:Cs):Prop where
 a:w64 (s.parks+1)=s.parks+1
 b:w64 (s.naps+1)=s.naps+1
 c:w64 (s.folds+1)=s.folds+1
theorem w64_1 {n:Int} (h0:0≤n) (h1:n≤1000000000):w64 (n+1)=n+1:=Q76 (by omega) (by omega)
theorem takes_st (w:Wk) (s:Cs) (id:Int):(w.takes s id).state≠1∧(w.takes s id).probed=w.probed∧(w.takes s id).own=w.own:=by
 unfold Wk.takes Wk.loops Wk.runs
 split<;>exact ⟨by simp,rfl,rfl⟩
theorem QF {x y:WC} {w:Wk} {s:Cs} {id:Int} (e:y=(w.takes s id,s)) (hs:s.steps=x.2.steps∧s.probes=x.2.probes∧s.steals=x.2.steals∧s.parks=x.2.parks∧s.naps=x.2.naps∧s.folds=x.2.folds) (h1:w.probed=x.1.probed) (h2:w.own=x.1.own):Q1 x y:=by
 obtain ⟨a,b,c⟩:=takes_st w s id
 subst e
 obtain ⟨k1,k2,k3,k4,k5,k6⟩:=hs
 exact ⟨k1,k2,k3,b.trans h1,c.trans h2,a,by show _≤s.parks;omega,by show _≤s.naps;omega,by show _≤s.folds;omega,by show s.parks+s.naps+s.folds≤_;omega⟩
section
variable {q:Pm} {x:WC}
theorem Q08 (hn:x.1.state≠1):Q1 x x:=⟨rfl,rfl,rfl,rfl,rfl,hn,by omega,by omega,by omega,by omega⟩
theorem q_popF (hm:Sm x.2) (hn:x.1.state≠1):Q1 x (popF q x):=by
 have ha:=hm.a;have hb:=hm.b;have hc:=hm.c
 unfold popF stepD
 try dsimp only
 repeat' split
 all_goals first|exact Q08 hn|exact QF rfl ⟨rfl,rfl,rfl,rfl,rfl,rfl⟩ rfl rfl|exact QF rfl (by simp[Qb,Q3,Q4,Qc,Qo,Qd,Qe,Q5,Q6,Qf,Qp,Qg,Qh,Q7,Q8,Qi,Qq,Qj,Qk,Q9,Qa,Ql,Qr,Qm,Cs.setW,Cs.note,Wk.runs,Wk.loops,Wk.goes,Wk.pushes]) rfl rfl|(constructor<;>first|rfl|exact hn|(simp[Qb,Q3,Q4,Qc,Qo,Qd,Qe,Q5,Q6,Qf,Qp,Qg,Qh,Q7,Q8,Qi,Qq,Qj,Qk,Q9,Qa,Ql,Qr,Qm,Cs.setW,Cs.note,Wk.runs,Wk.loops,Wk.goes,Wk.pushes,hn];done)|(simp[Qb,Q3,Q4,Qc,Qo,Qd,Qe,Q5,Q6,Qf,Qp,Qg,Qh,Q7,Q8,Qi,Qq,Qj,Qk,Q9,Qa,Ql,Qr,Qm,Cs.setW,Cs.note,Wk.runs,Wk.loops,Wk.goes,Wk.pushes,ha,hb,hc];omega)|(simp[Qb,Q3,Q4,Qc,Qo,Qd,Qe,Q5,Q6,Qf,Qp,Qg,Qh,Q7,Q8,Qi,Qq,Qj,Qk,Q9,Qa,Ql,Qr,Qm,Cs.setW,Cs.note,Wk.runs,Wk.loops,Wk.goes,Wk.pushes];omega))
theorem q_pushF (hm:Sm x.2) (hn:x.1.state≠1):Q1 x (pushF q x):=by
 have ha:=hm.a;have hb:=hm.b;have hc:=hm.c
 unfold pushF stepD thenF looksOnF checksF decideF dueF stopF
 try dsimp only
 repeat' split
 all_goals first|exact Q08 hn|exact QF rfl ⟨rfl,rfl,rfl,rfl,rfl,rfl⟩ rfl rfl|exact QF rfl (by simp[Qb,Q3,Q4,Qc,Qo,Qd,Qe,Q5,Q6,Qf,Qp,Qg,Qh,Q7,Q8,Qi,Qq,Qj,Qk,Q9,Qa,Ql,Qr,Qm,Cs.setW,Cs.note,Wk.runs,Wk.loops,Wk.goes,Wk.pushes]) rfl rfl|(constructor<;>first|rfl|exact hn|(simp[Qb,Q3,Q4,Qc,Qo,Qd,Qe,Q5,Q6,Qf,Qp,Qg,Qh,Q7,Q8,Qi,Qq,Qj,Qk,Q9,Qa,Ql,Qr,Qm,Cs.setW,Cs.note,Wk.runs,Wk.loops,Wk.goes,Wk.pushes,hn];done)|(simp[Qb,Q3,Q4,Qc,Qo,Qd,Qe,Q5,Q6,Qf,Qp,Qg,Qh,Q7,Q8,Qi,Qq,Qj,Qk,Q9,Qa,Ql,Qr,Qm,Cs.setW,Cs.note,Wk.runs,Wk.loops,Wk.goes,Wk.pushes,ha,hb,hc];omega)|(simp[Qb,Q3,Q4,Qc,Qo,Qd,Qe,Q5,Q6,Qf,Qp,Qg,Qh,Q7,Q8,Qi,Qq,Qj,Qk,Q9,Qa,Ql,Qr,Qm,Cs.setW,Cs.note,Wk.runs,Wk.loops,Wk.goes,Wk.pushes];omega))
theorem q_joinedF (hm:Sm x.2) (hn:x.1.state≠1):Q1 x (joinedF q x):=by
 have ha:=hm.a;have hb:=hm.b;have hc:=hm.c
 unfold joinedF
 try dsimp only
 repeat' split
 all_goals first|exact Q08 hn|exact QF rfl ⟨rfl,rfl,rfl,rfl,rfl,rfl⟩ rfl rfl|exact QF rfl (by simp[Qb,Q3,Q4,Qc,Qo,Qd,Qe,Q5,Q6,Qf,Qp,Qg,Qh,Q7,Q8,Qi,Qq,Qj,Qk,Q9,Qa,Ql,Qr,Qm,Cs.setW,Cs.note,Wk.runs,Wk.loops,Wk.goes,Wk.pushes]) rfl rfl|(constructor<;>first|rfl|exact hn|(simp[Qb,Q3,Q4,Qc,Qo,Qd,Qe,Q5,Q6,Qf,Qp,Qg,Qh,Q7,Q8,Qi,Qq,Qj,Qk,Q9,Qa,Ql,Qr,Qm,Cs.setW,Cs.note,Wk.runs,Wk.loops,Wk.goes,Wk.pushes,hn];done)|(simp[Qb,Q3,Q4,Qc,Qo,Qd,Qe,Q5,Q6,Qf,Qp,Qg,Qh,Q7,Q8,Qi,Qq,Qj,Qk,Q9,Qa,Ql,Qr,Qm,Cs.setW,Cs.note,Wk.runs,Wk.loops,Wk.goes,Wk.pushes,ha,hb,hc];omega)|(simp[Qb,Q3,Q4,Qc,Qo,Qd,Qe,Q5,Q6,Qf,Qp,Qg,Qh,Q7,Q8,Qi,Qq,Qj,Qk,Q9,Qa,Ql,Qr,Qm,Cs.setW,Cs.note,Wk.runs,Wk.loops,Wk.goes,Wk.pushes];omega))
theorem q_spawnF (hm:Sm x.2) (hn:x.1.state≠1):Q1 x (spawnF q x):=by
 have ha:=hm.a;have hb:=hm.b;have hc:=hm.c
 unfold spawnF
 try dsimp only
 repeat' split
 all_goals first|exact Q08 hn|exact QF rfl ⟨rfl,rfl,rfl,rfl,rfl,rfl⟩ rfl rfl|exact QF rfl (by simp[Qb,Q3,Q4,Qc,Qo,Qd,Qe,Q5,Q6,Qf,Qp,Qg,Qh,Q7,Q8,Qi,Qq,Qj,Qk,Q9,Qa,Ql,Qr,Qm,Cs.setW,Cs.note,Wk.runs,Wk.loops,Wk.goes,Wk.pushes]) rfl rfl|(constructor<;>first|rfl|exact hn|(simp[Qb,Q3,Q4,Qc,Qo,Qd,Qe,Q5,Q6,Qf,Qp,Qg,Qh,Q7,Q8,Qi,Qq,Qj,Qk,Q9,Qa,Ql,Qr,Qm,Cs.setW,Cs.note,Wk.runs,Wk.loops,Wk.goes,Wk.pushes,hn];done)|(simp[Qb,Q3,Q4,Qc,Qo,Qd,Qe,Q5,Q6,Qf,Qp,Qg,Qh,Q7,Q8,Qi,Qq,Qj,Qk,Q9,Qa,Ql,Qr,Qm,Cs.setW,Cs.note,Wk.runs,Wk.loops,Wk.goes,Wk.pushes,ha,hb,hc];omega)|(simp[Qb,Q3,Q4,Qc,Qo,Qd,Qe,Q5,Q6,Qf,Qp,Qg,Qh,Q7,Q8,Qi,Qq,Qj,Qk,Q9,Qa,Ql,Qr,Qm,Cs.setW,Cs.note,Wk.runs,Wk.loops,Wk.goes,Wk.pushes];omega))
theorem q_arriveF (hm:Sm x.2) (hn:x.1.state≠1):Q1 x (arriveF q x):=by
 have ha:=hm.a;have hb:=hm.b;have hc:=hm.c
 unfold arriveF
 try dsimp only
 repeat' split
 all_goals first|exact Q08 hn|exact QF rfl ⟨rfl,rfl,rfl,rfl,rfl,rfl⟩ rfl rfl|exact QF rfl (by simp[Qb,Q3,Q4,Qc,Qo,Qd,Qe,Q5,Q6,Qf,Qp,Qg,Qh,Q7,Q8,Qi,Qq,Qj,Qk,Q9,Qa,Ql,Qr,Qm,Cs.setW,Cs.note,Wk.runs,Wk.loops,Wk.goes,Wk.pushes]) rfl rfl|(constructor<;>first|rfl|exact hn|(simp[Qb,Q3,Q4,Qc,Qo,Qd,Qe,Q5,Q6,Qf,Qp,Qg,Qh,Q7,Q8,Qi,Qq,Qj,Qk,Q9,Qa,Ql,Qr,Qm,Cs.setW,Cs.note,Wk.runs,Wk.loops,Wk.goes,Wk.pushes,hn];done)|(simp[Qb,Q3,Q4,Qc,Qo,Qd,Qe,Q5,Q6,Qf,Qp,Qg,Qh,Q7,Q8,Qi,Qq,Qj,Qk,Q9,Qa,Ql,Qr,Qm,Cs.setW,Cs.note,Wk.runs,Wk.loops,Wk.goes,Wk.pushes,ha,hb,hc];omega)|(simp[Qb,Q3,Q4,Qc,Qo,Qd,Qe,Q5,Q6,Qf,Qp,Qg,Qh,Q7,Q8,Qi,Qq,Qj,Qk,Q9,Qa,Ql,Qr,Qm,Cs.setW,Cs.note,Wk.runs,Wk.loops,Wk.goes,Wk.pushes];omega))
theorem q_resumeF (hm:Sm x.2) (hn:x.1.state≠1):Q1 x (resumeF q x):=by
 have ha:=hm.a;have hb:=hm.b;have hc:=hm.c
 unfold resumeF
 try dsimp only
 repeat' split
 all_goals first|exact Q08 hn|exact QF rfl ⟨rfl,rfl,rfl,rfl,rfl,rfl⟩ rfl rfl|exact QF rfl (by simp[Qb,Q3,Q4,Qc,Qo,Qd,Qe,Q5,Q6,Qf,Qp,Qg,Qh,Q7,Q8,Qi,Qq,Qj,Qk,Q9,Qa,Ql,Qr,Qm,Cs.setW,Cs.note,Wk.runs,Wk.loops,Wk.goes,Wk.pushes]) rfl rfl|(constructor<;>first|rfl|exact hn|(simp[Qb,Q3,Q4,Qc,Qo,Qd,Qe,Q5,Q6,Qf,Qp,Qg,Qh,Q7,Q8,Qi,Qq,Qj,Qk,Q9,Qa,Ql,Qr,Qm,Cs.setW,Cs.note,Wk.runs,Wk.loops,Wk.goes,Wk.pushes,hn];done)|(simp[Qb,Q3,Q4,Qc,Qo,Qd,Qe,Q5,Q6,Qf,Qp,Qg,Qh,Q7,Q8,Qi,Qq,Qj,Qk,Q9,Qa,Ql,Qr,Qm,Cs.setW,Cs.note,Wk.runs,Wk.loops,Wk.goes,Wk.pushes,ha,hb,hc];omega)|(simp[Qb,Q3,Q4,Qc,Qo,Qd,Qe,Q5,Q6,Qf,Qp,Qg,Qh,Q7,Q8,Qi,Qq,Qj,Qk,Q9,Qa,Ql,Qr,Qm,Cs.setW,Cs.note,Wk.runs,Wk.loops,Wk.goes,Wk.pushes];omega))
theorem q_advanceF (hm:Sm x.2) (hn:x.1.state≠1):Q1 x (advanceF q x):=by
 have ha:=hm.a;have hb:=hm.b;have hc:=hm.c
 unfold advanceF looksOnF checksF noteF
 try dsimp only
 repeat' split
 all_goals first|exact Q08 hn|exact QF rfl ⟨rfl,rfl,rfl,rfl,rfl,rfl⟩ rfl rfl|exact QF rfl (by simp[Qb,Q3,Q4,Qc,Qo,Qd,Qe,Q5,Q6,Qf,Qp,Qg,Qh,Q7,Q8,Qi,Qq,Qj,Qk,Q9,Qa,Ql,Qr,Qm,Cs.setW,Cs.note,Wk.runs,Wk.loops,Wk.goes,Wk.pushes]) rfl rfl|(constructor<;>first|rfl|exact hn|(simp[Qb,Q3,Q4,Qc,Qo,Qd,Qe,Q5,Q6,Qf,Qp,Qg,Qh,Q7,Q8,Qi,Qq,Qj,Qk,Q9,Qa,Ql,Qr,Qm,Cs.setW,Cs.note,Wk.runs,Wk.loops,Wk.goes,Wk.pushes,hn];done)|(simp[Qb,Q3,Q4,Qc,Qo,Qd,Qe,Q5,Q6,Qf,Qp,Qg,Qh,Q7,Q8,Qi,Qq,Qj,Qk,Q9,Qa,Ql,Qr,Qm,Cs.setW,Cs.note,Wk.runs,Wk.loops,Wk.goes,Wk.pushes,ha,hb,hc];omega)|(simp[Qb,Q3,Q4,Qc,Qo,Qd,Qe,Q5,Q6,Qf,Qp,Qg,Qh,Q7,Q8,Qi,Qq,Qj,Qk,Q9,Qa,Ql,Qr,Qm,Cs.setW,Cs.note,Wk.runs,Wk.loops,Wk.goes,Wk.pushes];omega))
theorem q_peekF (hm:Sm x.2) (hn:x.1.state≠1):Q1 x (peekF q x):=by
 have ha:=hm.a;have hb:=hm.b;have hc:=hm.c
 unfold peekF checksF decideF dueF
 try dsimp only
 repeat' split
 all_goals first|exact Q08 hn|exact QF rfl ⟨rfl,rfl,rfl,rfl,rfl,rfl⟩ rfl rfl|exact QF rfl (by simp[Qb,Q3,Q4,Qc,Qo,Qd,Qe,Q5,Q6,Qf,Qp,Qg,Qh,Q7,Q8,Qi,Qq,Qj,Qk,Q9,Qa,Ql,Qr,Qm,Cs.setW,Cs.note,Wk.runs,Wk.loops,Wk.goes,Wk.pushes]) rfl rfl|(constructor<;>first|rfl|exact hn|(simp[Qb,Q3,Q4,Qc,Qo,Qd,Qe,Q5,Q6,Qf,Qp,Qg,Qh,Q7,Q8,Qi,Qq,Qj,Qk,Q9,Qa,Ql,Qr,Qm,Cs.setW,Cs.note,Wk.runs,Wk.loops,Wk.goes,Wk.pushes,hn];done)|(simp[Qb,Q3,Q4,Qc,Qo,Qd,Qe,Q5,Q6,Qf,Qp,Qg,Qh,Q7,Q8,Qi,Qq,Qj,Qk,Q9,Qa,Ql,Qr,Qm,Cs.setW,Cs.note,Wk.runs,Wk.loops,Wk.goes,Wk.pushes,ha,hb,hc];omega)|(simp[Qb,Q3,Q4,Qc,Qo,Qd,Qe,Q5,Q6,Qf,Qp,Qg,Qh,Q7,Q8,Qi,Qq,Qj,Qk,Q9,Qa,Ql,Qr,Qm,Cs.setW,Cs.note,Wk.runs,Wk.loops,Wk.goes,Wk.pushes];omega))
theorem q_checkF2 (hm:Sm x.2) (hn:x.1.state≠1):Q1 x (checkF2 q x):=by
 have ha:=hm.a;have hb:=hm.b;have hc:=hm.c
 unfold checkF2 stopF decideF dueF
 try dsimp only
 repeat' split
 all_goals first|exact Q08 hn|exact QF rfl ⟨rfl,rfl,rfl,rfl,rfl,rfl⟩ rfl rfl|exact QF rfl (by simp[Qb,Q3,Q4,Qc,Qo,Qd,Qe,Q5,Q6,Qf,Qp,Qg,Qh,Q7,Q8,Qi,Qq,Qj,Qk,Q9,Qa,Ql,Qr,Qm,Cs.setW,Cs.note,Wk.runs,Wk.loops,Wk.goes,Wk.pushes]) rfl rfl|(constructor<;>first|rfl|exact hn|(simp[Qb,Q3,Q4,Qc,Qo,Qd,Qe,Q5,Q6,Qf,Qp,Qg,Qh,Q7,Q8,Qi,Qq,Qj,Qk,Q9,Qa,Ql,Qr,Qm,Cs.setW,Cs.note,Wk.runs,Wk.loops,Wk.goes,Wk.pushes,hn];done)|(simp[Qb,Q3,Q4,Qc,Qo,Qd,Qe,Q5,Q6,Qf,Qp,Qg,Qh,Q7,Q8,Qi,Qq,Qj,Qk,Q9,Qa,Ql,Qr,Qm,Cs.setW,Cs.note,Wk.runs,Wk.loops,Wk.goes,Wk.pushes,ha,hb,hc];omega)|(simp[Qb,Q3,Q4,Qc,Qo,Qd,Qe,Q5,Q6,Qf,Qp,Qg,Qh,Q7,Q8,Qi,Qq,Qj,Qk,Q9,Qa,Ql,Qr,Qm,Cs.setW,Cs.note,Wk.runs,Wk.loops,Wk.goes,Wk.pushes];omega))
theorem q_lookF (hm:Sm x.2) (hn:x.1.state≠1):Q1 x (lookF q x):=by
 have ha:=hm.a;have hb:=hm.b;have hc:=hm.c
 unfold lookF dueF checksF stopF
 try dsimp only
 repeat' split
 all_goals first|exact Q08 hn|exact QF rfl ⟨rfl,rfl,rfl,rfl,rfl,rfl⟩ rfl rfl|exact QF rfl (by simp[Qb,Q3,Q4,Qc,Qo,Qd,Qe,Q5,Q6,Qf,Qp,Qg,Qh,Q7,Q8,Qi,Qq,Qj,Qk,Q9,Qa,Ql,Qr,Qm,Cs.setW,Cs.note,Wk.runs,Wk.loops,Wk.goes,Wk.pushes]) rfl rfl|(constructor<;>first|rfl|exact hn|(simp[Qb,Q3,Q4,Qc,Qo,Qd,Qe,Q5,Q6,Qf,Qp,Qg,Qh,Q7,Q8,Qi,Qq,Qj,Qk,Q9,Qa,Ql,Qr,Qm,Cs.setW,Cs.note,Wk.runs,Wk.loops,Wk.goes,Wk.pushes,hn];done)|(simp[Qb,Q3,Q4,Qc,Qo,Qd,Qe,Q5,Q6,Qf,Qp,Qg,Qh,Q7,Q8,Qi,Qq,Qj,Qk,Q9,Qa,Ql,Qr,Qm,Cs.setW,Cs.note,Wk.runs,Wk.loops,Wk.goes,Wk.pushes,ha,hb,hc];omega)|(simp[Qb,Q3,Q4,Qc,Qo,Qd,Qe,Q5,Q6,Qf,Qp,Qg,Qh,Q7,Q8,Qi,Qq,Qj,Qk,Q9,Qa,Ql,Qr,Qm,Cs.setW,Cs.note,Wk.runs,Wk.loops,Wk.goes,Wk.pushes];omega))
theorem q_parksF (hm:Sm x.2) (hn:x.1.state≠1):Q1 x (parksF q x):=by
 have ha:=hm.a;have hb:=hm.b;have hc:=hm.c
 unfold parksF
 try dsimp only
 repeat' split
 all_goals first|exact Q08 hn|exact QF rfl ⟨rfl,rfl,rfl,rfl,rfl,rfl⟩ rfl rfl|exact QF rfl (by simp[Qb,Q3,Q4,Qc,Qo,Qd,Qe,Q5,Q6,Qf,Qp,Qg,Qh,Q7,Q8,Qi,Qq,Qj,Qk,Q9,Qa,Ql,Qr,Qm,Cs.setW,Cs.note,Wk.runs,Wk.loops,Wk.goes,Wk.pushes]) rfl rfl|(constructor<;>first|rfl|exact hn|(simp[Qb,Q3,Q4,Qc,Qo,Qd,Qe,Q5,Q6,Qf,Qp,Qg,Qh,Q7,Q8,Qi,Qq,Qj,Qk,Q9,Qa,Ql,Qr,Qm,Cs.setW,Cs.note,Wk.runs,Wk.loops,Wk.goes,Wk.pushes,hn];done)|(simp[Qb,Q3,Q4,Qc,Qo,Qd,Qe,Q5,Q6,Qf,Qp,Qg,Qh,Q7,Q8,Qi,Qq,Qj,Qk,Q9,Qa,Ql,Qr,Qm,Cs.setW,Cs.note,Wk.runs,Wk.loops,Wk.goes,Wk.pushes,ha,hb,hc];omega)|(simp[Qb,Q3,Q4,Qc,Qo,Qd,Qe,Q5,Q6,Qf,Qp,Qg,Qh,Q7,Q8,Qi,Qq,Qj,Qk,Q9,Qa,Ql,Qr,Qm,Cs.setW,Cs.note,Wk.runs,Wk.loops,Wk.goes,Wk.pushes];omega))
theorem q_endsF (hm:Sm x.2) (hn:x.1.state≠1):Q1 x (endsF q x):=by
 have ha:=hm.a;have hb:=hm.b;have hc:=hm.c
 unfold endsF checksF noteF
 try dsimp only
 repeat' split
 all_goals first|exact Q08 hn|exact QF rfl ⟨rfl,rfl,rfl,rfl,rfl,rfl⟩ rfl rfl|exact QF rfl (by simp[Qb,Q3,Q4,Qc,Qo,Qd,Qe,Q5,Q6,Qf,Qp,Qg,Qh,Q7,Q8,Qi,Qq,Qj,Qk,Q9,Qa,Ql,Qr,Qm,Cs.setW,Cs.note,Wk.runs,Wk.loops,Wk.goes,Wk.pushes]) rfl rfl|(constructor<;>first|rfl|exact hn|(simp[Qb,Q3,Q4,Qc,Qo,Qd,Qe,Q5,Q6,Qf,Qp,Qg,Qh,Q7,Q8,Qi,Qq,Qj,Qk,Q9,Qa,Ql,Qr,Qm,Cs.setW,Cs.note,Wk.runs,Wk.loops,Wk.goes,Wk.pushes,hn];done)|(simp[Qb,Q3,Q4,Qc,Qo,Qd,Qe,Q5,Q6,Qf,Qp,Qg,Qh,Q7,Q8,Qi,Qq,Qj,Qk,Q9,Qa,Ql,Qr,Qm,Cs.setW,Cs.note,Wk.runs,Wk.loops,Wk.goes,Wk.pushes,ha,hb,hc];omega)|(simp[Qb,Q3,Q4,Qc,Qo,Qd,Qe,Q5,Q6,Qf,Qp,Qg,Qh,Q7,Q8,Qi,Qq,Qj,Qk,Q9,Qa,Ql,Qr,Qm,Cs.setW,Cs.note,Wk.runs,Wk.loops,Wk.goes,Wk.pushes];omega))
theorem q_closesF (hm:Sm x.2) (hn:x.1.state≠1):Q1 x (closesF q x):=by
 have ha:=hm.a;have hb:=hm.b;have hc:=hm.c
 unfold closesF
 try dsimp only
 repeat' split
 all_goals first|exact Q08 hn|exact QF rfl ⟨rfl,rfl,rfl,rfl,rfl,rfl⟩ rfl rfl|exact QF rfl (by simp[Qb,Q3,Q4,Qc,Qo,Qd,Qe,Q5,Q6,Qf,Qp,Qg,Qh,Q7,Q8,Qi,Qq,Qj,Qk,Q9,Qa,Ql,Qr,Qm,Cs.setW,Cs.note,Wk.runs,Wk.loops,Wk.goes,Wk.pushes]) rfl rfl|(constructor<;>first|rfl|exact hn|(simp[Qb,Q3,Q4,Qc,Qo,Qd,Qe,Q5,Q6,Qf,Qp,Qg,Qh,Q7,Q8,Qi,Qq,Qj,Qk,Q9,Qa,Ql,Qr,Qm,Cs.setW,Cs.note,Wk.runs,Wk.loops,Wk.goes,Wk.pushes,hn];done)|(simp[Qb,Q3,Q4,Qc,Qo,Qd,Qe,Q5,Q6,Qf,Qp,Qg,Qh,Q7,Q8,Qi,Qq,Qj,Qk,Q9,Qa,Ql,Qr,Qm,Cs.setW,Cs.note,Wk.runs,Wk.loops,Wk.goes,Wk.pushes,ha,hb,hc];omega)|(simp[Qb,Q3,Q4,Qc,Qo,Qd,Qe,Q5,Q6,Qf,Qp,Qg,Qh,Q7,Q8,Qi,Qq,Qj,Qk,Q9,Qa,Ql,Qr,Qm,Cs.setW,Cs.note,Wk.runs,Wk.loops,Wk.goes,Wk.pushes];omega))
theorem q_dropF (hm:Sm x.2) (hn:x.1.state≠1):Q1 x (dropF q x):=by
 have ha:=hm.a;have hb:=hm.b;have hc:=hm.c
 unfold dropF nextF
 try dsimp only
 repeat' split
 all_goals first|exact Q08 hn|exact QF rfl ⟨rfl,rfl,rfl,rfl,rfl,rfl⟩ rfl rfl|exact QF rfl (by simp[Qb,Q3,Q4,Qc,Qo,Qd,Qe,Q5,Q6,Qf,Qp,Qg,Qh,Q7,Q8,Qi,Qq,Qj,Qk,Q9,Qa,Ql,Qr,Qm,Cs.setW,Cs.note,Wk.runs,Wk.loops,Wk.goes,Wk.pushes]) rfl rfl|(constructor<;>first|rfl|exact hn|(simp[Qb,Q3,Q4,Qc,Qo,Qd,Qe,Q5,Q6,Qf,Qp,Qg,Qh,Q7,Q8,Qi,Qq,Qj,Qk,Q9,Qa,Ql,Qr,Qm,Cs.setW,Cs.note,Wk.runs,Wk.loops,Wk.goes,Wk.pushes,hn];done)|(simp[Qb,Q3,Q4,Qc,Qo,Qd,Qe,Q5,Q6,Qf,Qp,Qg,Qh,Q7,Q8,Qi,Qq,Qj,Qk,Q9,Qa,Ql,Qr,Qm,Cs.setW,Cs.note,Wk.runs,Wk.loops,Wk.goes,Wk.pushes,ha,hb,hc];omega)|(simp[Qb,Q3,Q4,Qc,Qo,Qd,Qe,Q5,Q6,Qf,Qp,Qg,Qh,Q7,Q8,Qi,Qq,Qj,Qk,Q9,Qa,Ql,Qr,Qm,Cs.setW,Cs.note,Wk.runs,Wk.loops,Wk.goes,Wk.pushes];omega))
theorem q_finishF (hm:Sm x.2) (hn:x.1.state≠1):Q1 x (finishF q x):=by
 have ha:=hm.a;have hb:=hm.b;have hc:=hm.c
 unfold finishF
 try dsimp only
 repeat' split
 all_goals first|exact Q08 hn|exact QF rfl ⟨rfl,rfl,rfl,rfl,rfl,rfl⟩ rfl rfl|exact QF rfl (by simp[Qb,Q3,Q4,Qc,Qo,Qd,Qe,Q5,Q6,Qf,Qp,Qg,Qh,Q7,Q8,Qi,Qq,Qj,Qk,Q9,Qa,Ql,Qr,Qm,Cs.setW,Cs.note,Wk.runs,Wk.loops,Wk.goes,Wk.pushes]) rfl rfl|(constructor<;>first|rfl|exact hn|(simp[Qb,Q3,Q4,Qc,Qo,Qd,Qe,Q5,Q6,Qf,Qp,Qg,Qh,Q7,Q8,Qi,Qq,Qj,Qk,Q9,Qa,Ql,Qr,Qm,Cs.setW,Cs.note,Wk.runs,Wk.loops,Wk.goes,Wk.pushes,hn];done)|(simp[Qb,Q3,Q4,Qc,Qo,Qd,Qe,Q5,Q6,Qf,Qp,Qg,Qh,Q7,Q8,Qi,Qq,Qj,Qk,Q9,Qa,Ql,Qr,Qm,Cs.setW,Cs.note,Wk.runs,Wk.loops,Wk.goes,Wk.pushes,ha,hb,hc];omega)|(simp[Qb,Q3,Q4,Qc,Qo,Qd,Qe,Q5,Q6,Qf,Qp,Qg,Qh,Q7,Q8,Qi,Qq,Qj,Qk,Q9,Qa,Ql,Qr,Qm,Cs.setW,Cs.note,Wk.runs,Wk.loops,Wk.goes,Wk.pushes];omega))
theorem q_completeF (hm:Sm x.2) (hn:x.1.state≠1):Q1 x (completeF x):=by
 have ha:=hm.a;have hb:=hm.b;have hc:=hm.c
 unfold completeF
 try dsimp only
 repeat' split
 all_goals first|exact Q08 hn|exact QF rfl ⟨rfl,rfl,rfl,rfl,rfl,rfl⟩ rfl rfl|exact QF rfl (by simp[Qb,Q3,Q4,Qc,Qo,Qd,Qe,Q5,Q6,Qf,Qp,Qg,Qh,Q7,Q8,Qi,Qq,Qj,Qk,Q9,Qa,Ql,Qr,Qm,Cs.setW,Cs.note,Wk.runs,Wk.loops,Wk.goes,Wk.pushes]) rfl rfl|(constructor<;>first|rfl|exact hn|(simp[Qb,Q3,Q4,Qc,Qo,Qd,Qe,Q5,Q6,Qf,Qp,Qg,Qh,Q7,Q8,Qi,Qq,Qj,Qk,Q9,Qa,Ql,Qr,Qm,Cs.setW,Cs.note,Wk.runs,Wk.loops,Wk.goes,Wk.pushes,hn];done)|(simp[Qb,Q3,Q4,Qc,Qo,Qd,Qe,Q5,Q6,Qf,Qp,Qg,Qh,Q7,Q8,Qi,Qq,Qj,Qk,Q9,Qa,Ql,Qr,Qm,Cs.setW,Cs.note,Wk.runs,Wk.loops,Wk.goes,Wk.pushes,ha,hb,hc];omega)|(simp[Qb,Q3,Q4,Qc,Qo,Qd,Qe,Q5,Q6,Qf,Qp,Qg,Qh,Q7,Q8,Qi,Qq,Qj,Qk,Q9,Qa,Ql,Qr,Qm,Cs.setW,Cs.note,Wk.runs,Wk.loops,Wk.goes,Wk.pushes];omega))
theorem q_startF (hm:Sm x.2) (hn:x.1.state≠1):Q1 x (startF q x):=by
 have ha:=hm.a;have hb:=hm.b;have hc:=hm.c
 unfold startF
 try dsimp only
 repeat' split
 all_goals first|exact Q08 hn|exact QF rfl ⟨rfl,rfl,rfl,rfl,rfl,rfl⟩ rfl rfl|exact QF rfl (by simp[Qb,Q3,Q4,Qc,Qo,Qd,Qe,Q5,Q6,Qf,Qp,Qg,Qh,Q7,Q8,Qi,Qq,Qj,Qk,Q9,Qa,Ql,Qr,Qm,Cs.setW,Cs.note,Wk.runs,Wk.loops,Wk.goes,Wk.pushes]) rfl rfl|(constructor<;>first|rfl|exact hn|(simp[Qb,Q3,Q4,Qc,Qo,Qd,Qe,Q5,Q6,Qf,Qp,Qg,Qh,Q7,Q8,Qi,Qq,Qj,Qk,Q9,Qa,Ql,Qr,Qm,Cs.setW,Cs.note,Wk.runs,Wk.loops,Wk.goes,Wk.pushes,hn];done)|(simp[Qb,Q3,Q4,Qc,Qo,Qd,Qe,Q5,Q6,Qf,Qp,Qg,Qh,Q7,Q8,Qi,Qq,Qj,Qk,Q9,Qa,Ql,Qr,Qm,Cs.setW,Cs.note,Wk.runs,Wk.loops,Wk.goes,Wk.pushes,ha,hb,hc];omega)|(simp[Qb,Q3,Q4,Qc,Qo,Qd,Qe,Q5,Q6,Qf,Qp,Qg,Qh,Q7,Q8,Qi,Qq,Qj,Qk,Q9,Qa,Ql,Qr,Qm,Cs.setW,Cs.note,Wk.runs,Wk.loops,Wk.goes,Wk.pushes];omega))|(rename_i h;obtain ⟨k1,k2,k3,k4,k5,k6⟩:=makeC h;first|exact ⟨k1,k2,k3,rfl,rfl,hn,by show _≤_;omega,by show _≤_;omega,by show _≤_;omega,by show _≤_;omega⟩|constructor<;>first|rfl|exact hn|(simp[Qb,Q3,Q4,Qc,Qo,Qd,Qe,Q5,Q6,Qf,Qp,Qg,Qh,Q7,Q8,Qi,Qq,Qj,Qk,Q9,Qa,Ql,Qr,Qm,Cs.setW,Cs.note,Wk.runs,Wk.loops,Wk.goes,Wk.pushes,hn,k1,k2,k3,k4,k5,k6];done)|(simp[Qb,Q3,Q4,Qc,Qo,Qd,Qe,Q5,Q6,Qf,Qp,Qg,Qh,Q7,Q8,Qi,Qq,Qj,Qk,Q9,Qa,Ql,Qr,Qm,Cs.setW,Cs.note,Wk.runs,Wk.loops,Wk.goes,Wk.pushes,k1,k2,k3,k4,k5,k6];omega))
theorem q_loopF (hm:Sm x.2) (hn:x.1.state≠1):Q1 x (loopF q x):=by
 have ha:=hm.a;have hb:=hm.b;have hc:=hm.c
 unfold loopF startF
 try dsimp only
 repeat' split
 all_goals first|exact Q08 hn|exact QF rfl ⟨rfl,rfl,rfl,rfl,rfl,rfl⟩ rfl rfl|exact QF rfl (by simp[Qb,Q3,Q4,Qc,Qo,Qd,Qe,Q5,Q6,Qf,Qp,Qg,Qh,Q7,Q8,Qi,Qq,Qj,Qk,Q9,Qa,Ql,Qr,Qm,Cs.setW,Cs.note,Wk.runs,Wk.loops,Wk.goes,Wk.pushes]) rfl rfl|(constructor<;>first|rfl|exact hn|(simp[Qb,Q3,Q4,Qc,Qo,Qd,Qe,Q5,Q6,Qf,Qp,Qg,Qh,Q7,Q8,Qi,Qq,Qj,Qk,Q9,Qa,Ql,Qr,Qm,Cs.setW,Cs.note,Wk.runs,Wk.loops,Wk.goes,Wk.pushes,hn];done)|(simp[Qb,Q3,Q4,Qc,Qo,Qd,Qe,Q5,Q6,Qf,Qp,Qg,Qh,Q7,Q8,Qi,Qq,Qj,Qk,Q9,Qa,Ql,Qr,Qm,Cs.setW,Cs.note,Wk.runs,Wk.loops,Wk.goes,Wk.pushes,ha,hb,hc];omega)|(simp[Qb,Q3,Q4,Qc,Qo,Qd,Qe,Q5,Q6,Qf,Qp,Qg,Qh,Q7,Q8,Qi,Qq,Qj,Qk,Q9,Qa,Ql,Qr,Qm,Cs.setW,Cs.note,Wk.runs,Wk.loops,Wk.goes,Wk.pushes];omega))|(rename_i h;obtain ⟨k1,k2,k3,k4,k5,k6⟩:=makeC h;first|exact ⟨k1,k2,k3,rfl,rfl,hn,by show _≤_;omega,by show _≤_;omega,by show _≤_;omega,by show _≤_;omega⟩|constructor<;>first|rfl|exact hn|(simp[Qb,Q3,Q4,Qc,Qo,Qd,Qe,Q5,Q6,Qf,Qp,Qg,Qh,Q7,Q8,Qi,Qq,Qj,Qk,Q9,Qa,Ql,Qr,Qm,Cs.setW,Cs.note,Wk.runs,Wk.loops,Wk.goes,Wk.pushes,hn,k1,k2,k3,k4,k5,k6];done)|(simp[Qb,Q3,Q4,Qc,Qo,Qd,Qe,Q5,Q6,Qf,Qp,Qg,Qh,Q7,Q8,Qi,Qq,Qj,Qk,Q9,Qa,Ql,Qr,Qm,Cs.setW,Cs.note,Wk.runs,Wk.loops,Wk.goes,Wk.pushes,k1,k2,k3,k4,k5,k6];omega))
theorem q_napsF (hm:Sm x.2) (hn:x.1.state≠1):Q1 x (napsF q x):=by
 have ha:=hm.a;have hb:=hm.b;have hc:=hm.c
 unfold napsF
 try dsimp only
 repeat' split
 all_goals first|exact Q08 hn|exact QF rfl ⟨rfl,rfl,rfl,rfl,rfl,rfl⟩ rfl rfl|exact QF rfl (by simp[Qb,Q3,Q4,Qc,Qo,Qd,Qe,Q5,Q6,Qf,Qp,Qg,Qh,Q7,Q8,Qi,Qq,Qj,Qk,Q9,Qa,Ql,Qr,Qm,Cs.setW,Cs.note,Wk.runs,Wk.loops,Wk.goes,Wk.pushes]) rfl rfl|(constructor<;>first|rfl|exact hn|(simp[Qb,Q3,Q4,Qc,Qo,Qd,Qe,Q5,Q6,Qf,Qp,Qg,Qh,Q7,Q8,Qi,Qq,Qj,Qk,Q9,Qa,Ql,Qr,Qm,Cs.setW,Cs.note,Wk.runs,Wk.loops,Wk.goes,Wk.pushes,hn];done)|(simp[Qb,Q3,Q4,Qc,Qo,Qd,Qe,Q5,Q6,Qf,Qp,Qg,Qh,Q7,Q8,Qi,Qq,Qj,Qk,Q9,Qa,Ql,Qr,Qm,Cs.setW,Cs.note,Wk.runs,Wk.loops,Wk.goes,Wk.pushes,ha,hb,hc];omega)|(simp[Qb,Q3,Q4,Qc,Qo,Qd,Qe,Q5,Q6,Qf,Qp,Qg,Qh,Q7,Q8,Qi,Qq,Qj,Qk,Q9,Qa,Ql,Qr,Qm,Cs.setW,Cs.note,Wk.runs,Wk.loops,Wk.goes,Wk.pushes];omega))
theorem q_countF (hm:Sm x.2) (hn:x.1.state≠1):Q1 x (countF q x):=by
 have ha:=hm.a;have hb:=hm.b;have hc:=hm.c
 unfold countF
 try dsimp only
 repeat' split
 all_goals first|exact Q08 hn|exact QF rfl ⟨rfl,rfl,rfl,rfl,rfl,rfl⟩ rfl rfl|exact QF rfl (by simp[Qb,Q3,Q4,Qc,Qo,Qd,Qe,Q5,Q6,Qf,Qp,Qg,Qh,Q7,Q8,Qi,Qq,Qj,Qk,Q9,Qa,Ql,Qr,Qm,Cs.setW,Cs.note,Wk.runs,Wk.loops,Wk.goes,Wk.pushes]) rfl rfl|(constructor<;>first|rfl|exact hn|(simp[Qb,Q3,Q4,Qc,Qo,Qd,Qe,Q5,Q6,Qf,Qp,Qg,Qh,Q7,Q8,Qi,Qq,Qj,Qk,Q9,Qa,Ql,Qr,Qm,Cs.setW,Cs.note,Wk.runs,Wk.loops,Wk.goes,Wk.pushes,hn];done)|(simp[Qb,Q3,Q4,Qc,Qo,Qd,Qe,Q5,Q6,Qf,Qp,Qg,Qh,Q7,Q8,Qi,Qq,Qj,Qk,Q9,Qa,Ql,Qr,Qm,Cs.setW,Cs.note,Wk.runs,Wk.loops,Wk.goes,Wk.pushes,ha,hb,hc];omega)|(simp[Qb,Q3,Q4,Qc,Qo,Qd,Qe,Q5,Q6,Qf,Qp,Qg,Qh,Q7,Q8,Qi,Qq,Qj,Qk,Q9,Qa,Ql,Qr,Qm,Cs.setW,Cs.note,Wk.runs,Wk.loops,Wk.goes,Wk.pushes];omega))
theorem q_nameF2 (hm:Sm x.2) (hn:x.1.state≠1):Q1 x (nameF2 q x):=by
 have ha:=hm.a;have hb:=hm.b;have hc:=hm.c
 unfold nameF2
 try dsimp only
 repeat' split
 all_goals first|exact Q08 hn|exact QF rfl ⟨rfl,rfl,rfl,rfl,rfl,rfl⟩ rfl rfl|exact QF rfl (by simp[Qb,Q3,Q4,Qc,Qo,Qd,Qe,Q5,Q6,Qf,Qp,Qg,Qh,Q7,Q8,Qi,Qq,Qj,Qk,Q9,Qa,Ql,Qr,Qm,Cs.setW,Cs.note,Wk.runs,Wk.loops,Wk.goes,Wk.pushes]) rfl rfl|(constructor<;>first|rfl|exact hn|(simp[Qb,Q3,Q4,Qc,Qo,Qd,Qe,Q5,Q6,Qf,Qp,Qg,Qh,Q7,Q8,Qi,Qq,Qj,Qk,Q9,Qa,Ql,Qr,Qm,Cs.setW,Cs.note,Wk.runs,Wk.loops,Wk.goes,Wk.pushes,hn];done)|(simp[Qb,Q3,Q4,Qc,Qo,Qd,Qe,Q5,Q6,Qf,Qp,Qg,Qh,Q7,Q8,Qi,Qq,Qj,Qk,Q9,Qa,Ql,Qr,Qm,Cs.setW,Cs.note,Wk.runs,Wk.loops,Wk.goes,Wk.pushes,ha,hb,hc];omega)|(simp[Qb,Q3,Q4,Qc,Qo,Qd,Qe,Q5,Q6,Qf,Qp,Qg,Qh,Q7,Q8,Qi,Qq,Qj,Qk,Q9,Qa,Ql,Qr,Qm,Cs.setW,Cs.note,Wk.runs,Wk.loops,Wk.goes,Wk.pushes];omega))
theorem q_joinsF (hm:Sm x.2) (hn:x.1.state≠1):Q1 x (joinsF q x):=by
 have ha:=hm.a;have hb:=hm.b;have hc:=hm.c
 unfold joinsF noteF
 try dsimp only
 repeat' split
 all_goals first|exact Q08 hn|exact QF rfl ⟨rfl,rfl,rfl,rfl,rfl,rfl⟩ rfl rfl|exact QF rfl (by simp[Qb,Q3,Q4,Qc,Qo,Qd,Qe,Q5,Q6,Qf,Qp,Qg,Qh,Q7,Q8,Qi,Qq,Qj,Qk,Q9,Qa,Ql,Qr,Qm,Cs.setW,Cs.note,Wk.runs,Wk.loops,Wk.goes,Wk.pushes]) rfl rfl|(constructor<;>first|rfl|exact hn|(simp[Qb,Q3,Q4,Qc,Qo,Qd,Qe,Q5,Q6,Qf,Qp,Qg,Qh,Q7,Q8,Qi,Qq,Qj,Qk,Q9,Qa,Ql,Qr,Qm,Cs.setW,Cs.note,Wk.runs,Wk.loops,Wk.goes,Wk.pushes,hn];done)|(simp[Qb,Q3,Q4,Qc,Qo,Qd,Qe,Q5,Q6,Qf,Qp,Qg,Qh,Q7,Q8,Qi,Qq,Qj,Qk,Q9,Qa,Ql,Qr,Qm,Cs.setW,Cs.note,Wk.runs,Wk.loops,Wk.goes,Wk.pushes,ha,hb,hc];omega)|(simp[Qb,Q3,Q4,Qc,Qo,Qd,Qe,Q5,Q6,Qf,Qp,Qg,Qh,Q7,Q8,Qi,Qq,Qj,Qk,Q9,Qa,Ql,Qr,Qm,Cs.setW,Cs.note,Wk.runs,Wk.loops,Wk.goes,Wk.pushes];omega))
theorem q_forkF (f:Fm) (pc:Int) (fn:Int) (hm:Sm x.2) (hn:x.1.state≠1):Q1 x (forkF q x f pc fn):=by
 have ha:=hm.a;have hb:=hm.b;have hc:=hm.c
 unfold forkF
 try dsimp only
 repeat' split
 all_goals first|exact Q08 hn|exact QF rfl ⟨rfl,rfl,rfl,rfl,rfl,rfl⟩ rfl rfl|exact QF rfl (by simp[Qb,Q3,Q4,Qc,Qo,Qd,Qe,Q5,Q6,Qf,Qp,Qg,Qh,Q7,Q8,Qi,Qq,Qj,Qk,Q9,Qa,Ql,Qr,Qm,Cs.setW,Cs.note,Wk.runs,Wk.loops,Wk.goes,Wk.pushes]) rfl rfl|(constructor<;>first|rfl|exact hn|(simp[Qb,Q3,Q4,Qc,Qo,Qd,Qe,Q5,Q6,Qf,Qp,Qg,Qh,Q7,Q8,Qi,Qq,Qj,Qk,Q9,Qa,Ql,Qr,Qm,Cs.setW,Cs.note,Wk.runs,Wk.loops,Wk.goes,Wk.pushes,hn];done)|(simp[Qb,Q3,Q4,Qc,Qo,Qd,Qe,Q5,Q6,Qf,Qp,Qg,Qh,Q7,Q8,Qi,Qq,Qj,Qk,Q9,Qa,Ql,Qr,Qm,Cs.setW,Cs.note,Wk.runs,Wk.loops,Wk.goes,Wk.pushes,ha,hb,hc];omega)|(simp[Qb,Q3,Q4,Qc,Qo,Qd,Qe,Q5,Q6,Qf,Qp,Qg,Qh,Q7,Q8,Qi,Qq,Qj,Qk,Q9,Qa,Ql,Qr,Qm,Cs.setW,Cs.note,Wk.runs,Wk.loops,Wk.goes,Wk.pushes];omega))|(rename_i h;obtain ⟨k1,k2,k3,k4,k5,k6⟩:=makeC h;first|exact ⟨k1,k2,k3,rfl,rfl,hn,by show _≤_;omega,by show _≤_;omega,by show _≤_;omega,by show _≤_;omega⟩|constructor<;>first|rfl|exact hn|(simp[Qb,Q3,Q4,Qc,Qo,Qd,Qe,Q5,Q6,Qf,Qp,Qg,Qh,Q7,Q8,Qi,Qq,Qj,Qk,Q9,Qa,Ql,Qr,Qm,Cs.setW,Cs.note,Wk.runs,Wk.loops,Wk.goes,Wk.pushes,hn,k1,k2,k3,k4,k5,k6];done)|(simp[Qb,Q3,Q4,Qc,Qo,Qd,Qe,Q5,Q6,Qf,Qp,Qg,Qh,Q7,Q8,Qi,Qq,Qj,Qk,Q9,Qa,Ql,Qr,Qm,Cs.setW,Cs.note,Wk.runs,Wk.loops,Wk.goes,Wk.pushes,k1,k2,k3,k4,k5,k6];omega))
theorem q_pipeF (f:Fm) (pc:Int) (fn:Int) (hm:Sm x.2) (hn:x.1.state≠1):Q1 x (pipeF q x f pc fn):=by
 have ha:=hm.a;have hb:=hm.b;have hc:=hm.c
 unfold pipeF
 try dsimp only
 repeat' split
 all_goals first|exact Q08 hn|exact QF rfl ⟨rfl,rfl,rfl,rfl,rfl,rfl⟩ rfl rfl|exact QF rfl (by simp[Qb,Q3,Q4,Qc,Qo,Qd,Qe,Q5,Q6,Qf,Qp,Qg,Qh,Q7,Q8,Qi,Qq,Qj,Qk,Q9,Qa,Ql,Qr,Qm,Cs.setW,Cs.note,Wk.runs,Wk.loops,Wk.goes,Wk.pushes]) rfl rfl|(constructor<;>first|rfl|exact hn|(simp[Qb,Q3,Q4,Qc,Qo,Qd,Qe,Q5,Q6,Qf,Qp,Qg,Qh,Q7,Q8,Qi,Qq,Qj,Qk,Q9,Qa,Ql,Qr,Qm,Cs.setW,Cs.note,Wk.runs,Wk.loops,Wk.goes,Wk.pushes,hn];done)|(simp[Qb,Q3,Q4,Qc,Qo,Qd,Qe,Q5,Q6,Qf,Qp,Qg,Qh,Q7,Q8,Qi,Qq,Qj,Qk,Q9,Qa,Ql,Qr,Qm,Cs.setW,Cs.note,Wk.runs,Wk.loops,Wk.goes,Wk.pushes,ha,hb,hc];omega)|(simp[Qb,Q3,Q4,Qc,Qo,Qd,Qe,Q5,Q6,Qf,Qp,Qg,Qh,Q7,Q8,Qi,Qq,Qj,Qk,Q9,Qa,Ql,Qr,Qm,Cs.setW,Cs.note,Wk.runs,Wk.loops,Wk.goes,Wk.pushes];omega))|(rename_i h;obtain ⟨k1,k2,k3,k4,k5,k6⟩:=makeC h;first|exact ⟨k1,k2,k3,rfl,rfl,hn,by show _≤_;omega,by show _≤_;omega,by show _≤_;omega,by show _≤_;omega⟩|constructor<;>first|rfl|exact hn|(simp[Qb,Q3,Q4,Qc,Qo,Qd,Qe,Q5,Q6,Qf,Qp,Qg,Qh,Q7,Q8,Qi,Qq,Qj,Qk,Q9,Qa,Ql,Qr,Qm,Cs.setW,Cs.note,Wk.runs,Wk.loops,Wk.goes,Wk.pushes,hn,k1,k2,k3,k4,k5,k6];done)|(simp[Qb,Q3,Q4,Qc,Qo,Qd,Qe,Q5,Q6,Qf,Qp,Qg,Qh,Q7,Q8,Qi,Qq,Qj,Qk,Q9,Qa,Ql,Qr,Qm,Cs.setW,Cs.note,Wk.runs,Wk.loops,Wk.goes,Wk.pushes,k1,k2,k3,k4,k5,k6];omega))
theorem q_goOnF (f:Fm) (pc:Int) (e:Ef) (hm:Sm x.2) (hn:x.1.state≠1):Q1 x (goOnF x f pc e):=by
 have ha:=hm.a;have hb:=hm.b;have hc:=hm.c
 unfold goOnF
 try dsimp only
 repeat' split
 all_goals first|exact Q08 hn|exact QF rfl ⟨rfl,rfl,rfl,rfl,rfl,rfl⟩ rfl rfl|exact QF rfl (by simp[Qb,Q3,Q4,Qc,Qo,Qd,Qe,Q5,Q6,Qf,Qp,Qg,Qh,Q7,Q8,Qi,Qq,Qj,Qk,Q9,Qa,Ql,Qr,Qm,Cs.setW,Cs.note,Wk.runs,Wk.loops,Wk.goes,Wk.pushes]) rfl rfl|(constructor<;>first|rfl|exact hn|(simp[Qb,Q3,Q4,Qc,Qo,Qd,Qe,Q5,Q6,Qf,Qp,Qg,Qh,Q7,Q8,Qi,Qq,Qj,Qk,Q9,Qa,Ql,Qr,Qm,Cs.setW,Cs.note,Wk.runs,Wk.loops,Wk.goes,Wk.pushes,hn];done)|(simp[Qb,Q3,Q4,Qc,Qo,Qd,Qe,Q5,Q6,Qf,Qp,Qg,Qh,Q7,Q8,Qi,Qq,Qj,Qk,Q9,Qa,Ql,Qr,Qm,Cs.setW,Cs.note,Wk.runs,Wk.loops,Wk.goes,Wk.pushes,ha,hb,hc];omega)|(simp[Qb,Q3,Q4,Qc,Qo,Qd,Qe,Q5,Q6,Qf,Qp,Qg,Qh,Q7,Q8,Qi,Qq,Qj,Qk,Q9,Qa,Ql,Qr,Qm,Cs.setW,Cs.note,Wk.runs,Wk.loops,Wk.goes,Wk.pushes];omega))
theorem q_leaveF (f:Fm) (hm:Sm x.2) (hn:x.1.state≠1):Q1 x (leaveF x f):=by
 have ha:=hm.a;have hb:=hm.b;have hc:=hm.c
 unfold leaveF
 try dsimp only
 repeat' split
 all_goals first|exact Q08 hn|exact QF rfl ⟨rfl,rfl,rfl,rfl,rfl,rfl⟩ rfl rfl|exact QF rfl (by simp[Qb,Q3,Q4,Qc,Qo,Qd,Qe,Q5,Q6,Qf,Qp,Qg,Qh,Q7,Q8,Qi,Qq,Qj,Qk,Q9,Qa,Ql,Qr,Qm,Cs.setW,Cs.note,Wk.runs,Wk.loops,Wk.goes,Wk.pushes]) rfl rfl|(constructor<;>first|rfl|exact hn|(simp[Qb,Q3,Q4,Qc,Qo,Qd,Qe,Q5,Q6,Qf,Qp,Qg,Qh,Q7,Q8,Qi,Qq,Qj,Qk,Q9,Qa,Ql,Qr,Qm,Cs.setW,Cs.note,Wk.runs,Wk.loops,Wk.goes,Wk.pushes,hn];done)|(simp[Qb,Q3,Q4,Qc,Qo,Qd,Qe,Q5,Q6,Qf,Qp,Qg,Qh,Q7,Q8,Qi,Qq,Qj,Qk,Q9,Qa,Ql,Qr,Qm,Cs.setW,Cs.note,Wk.runs,Wk.loops,Wk.goes,Wk.pushes,ha,hb,hc];omega)|(simp[Qb,Q3,Q4,Qc,Qo,Qd,Qe,Q5,Q6,Qf,Qp,Qg,Qh,Q7,Q8,Qi,Qq,Qj,Qk,Q9,Qa,Ql,Qr,Qm,Cs.setW,Cs.note,Wk.runs,Wk.loops,Wk.goes,Wk.pushes];omega))
theorem q_backF (f:Fm) (hm:Sm x.2) (hn:x.1.state≠1):Q1 x (backF x f):=by
 have ha:=hm.a;have hb:=hm.b;have hc:=hm.c
 unfold backF
 try dsimp only
 repeat' split
 all_goals first|exact Q08 hn|exact QF rfl ⟨rfl,rfl,rfl,rfl,rfl,rfl⟩ rfl rfl|exact QF rfl (by simp[Qb,Q3,Q4,Qc,Qo,Qd,Qe,Q5,Q6,Qf,Qp,Qg,Qh,Q7,Q8,Qi,Qq,Qj,Qk,Q9,Qa,Ql,Qr,Qm,Cs.setW,Cs.note,Wk.runs,Wk.loops,Wk.goes,Wk.pushes]) rfl rfl|(constructor<;>first|rfl|exact hn|(simp[Qb,Q3,Q4,Qc,Qo,Qd,Qe,Q5,Q6,Qf,Qp,Qg,Qh,Q7,Q8,Qi,Qq,Qj,Qk,Q9,Qa,Ql,Qr,Qm,Cs.setW,Cs.note,Wk.runs,Wk.loops,Wk.goes,Wk.pushes,hn];done)|(simp[Qb,Q3,Q4,Qc,Qo,Qd,Qe,Q5,Q6,Qf,Qp,Qg,Qh,Q7,Q8,Qi,Qq,Qj,Qk,Q9,Qa,Ql,Qr,Qm,Cs.setW,Cs.note,Wk.runs,Wk.loops,Wk.goes,Wk.pushes,ha,hb,hc];omega)|(simp[Qb,Q3,Q4,Qc,Qo,Qd,Qe,Q5,Q6,Qf,Qp,Qg,Qh,Q7,Q8,Qi,Qq,Qj,Qk,Q9,Qa,Ql,Qr,Qm,Cs.setW,Cs.note,Wk.runs,Wk.loops,Wk.goes,Wk.pushes];omega))
end
end Go.Proofs.YtelibaobkcokdaaGreat.Mx
