/- Two machines at once; picks by greater numbers; results compared. -/
import Derived.Test.YtelibaobkcokdaaGreatQU2Mxu
namespace Go.Proofs.YtelibaobkcokdaaGreat.Mx
set_option linter.unusedVariables false
set_option linter.unusedSimpArgs false
open Go Go.Kx Go.Proofs Go.Proofs.YtelibaobkcokdaaGreat
set_option maxRecDepth 8000
theorem mod_more {a W:Int} (k:Int) (h0:0≤a) (hW:1≤W) (hk:0≤k):(max (a+k * W) 0) % W=(max a 0) % W:=by
 have:0≤k * W:=Int.mul_nonneg hk (by omega)
 rw[show max (a+k * W) 0=a+k * W by omega,show max a 0=a by omega,Int.add_mul_emod_self_right]
theorem step_more {q:Pm} (hW:1≤q.W) (m:Mc) {a b:Int} (ha:0≤a) (hb:0≤b):m.step q (a+3 * q.W) (b+2 * q.W)=m.step q a b:=by
 have e1:pickN q (a+3 * q.W)=pickN q a:=by unfold pickN;rw[mod_more 3 ha hW (by omega)]
 have e2:∀x:WC,seekF q x (b+2 * q.W)=seekF q x b:=fun x=>by unfold seekF;rw[mod_more 2 hb hW (by omega)]
 unfold Mc.step wkStep
 simp only[e1,e2]
theorem MM.kept {q:Pm} {pl:Pl} {σ σ':Kx.St} {L:List Wk} {s:Cs} (h:MM q pl σ L s) (hk:∀ro,σ'[pl.p ro]?=σ[pl.p ro]?) (hl:σ.length≤σ'.length):MM q pl σ' L s:=
 ⟨fun ro r e=>(hk ro).trans (h.at_ ro r e),h.inj,h.sd,fun ro=>Nat.lt_of_lt_of_le (h.lt ro) hl⟩
theorem MaM.kept {jm:Nat} {q:Pm} {pl:Pl} {σ σ':Kx.St} {m:Mc} (h:MaM jm q pl σ m) (hk:∀ro,σ'[pl.p ro]?=σ[pl.p ro]?) (hj:σ'[jm]?=σ[jm]?) (hl:σ.length≤σ'.length):MaM jm q pl σ' m:=
 ⟨h.mm.kept hk hl,by obtain ⟨t,ht⟩:=h.mo;exact ⟨t,hj.trans ht⟩,h.ne,h.ln⟩
structure Two (jm jx:Nat) (q:Pm) (pl px:Pl) (σ:Kx.St) (m:Mc):Prop where
 a:MaM jm q pl σ m
 b:MaM jx q px σ m
 d:∀ro ro',pl.p ro≠px.p ro'
 da:∀ro,pl.p ro≠jx
 db:∀ro,px.p ro≠jm
theorem Two.app {jm jx:Nat} {q:Pm} {pl px:Pl} {σ:Kx.St} {m:Mc} (h:Two jm jx q pl px σ m) (τ:Kx.St):Two jm jx q pl px (σ++τ) m:=⟨h.a.app τ,h.b.app τ,h.d,h.da,h.db⟩
theorem Two.set {jm jx:Nat} {q:Pm} {pl px:Pl} {σ:Kx.St} {m:Mc} (h:Two jm jx q pl px σ m) {j:Nat} (h1:∀ro,pl.p ro≠j) (h2:∀ro,px.p ro≠j) (h3:jm≠j) (h4:jx≠j) (x:Res):Two jm jx q pl px (σ.set j x) m:=
 ⟨h.a.kept (fun ro=>List.getElem?_set_ne fun e=>h1 ro e.symm) (List.getElem?_set_ne fun e=>h3 e.symm) (by simp),h.b.kept (fun ro=>List.getElem?_set_ne fun e=>h2 ro e.symm) (List.getElem?_set_ne fun e=>h4 e.symm) (by simp),h.d,h.da,h.db⟩
theorem MaM.jlt {jm:Nat} {q:Pm} {pl:Pl} {σ:Kx.St} {m:Mc} (h:MaM jm q pl σ m):jm < σ.length:=by
 obtain ⟨t,ht⟩:=h.mo;exact Qe ht
structure Half (jm jx:Nat) (q:Pm) (pl px:Pl) (σ:Kx.St) (m m':Mc):Prop where
 a:MaM jm q pl σ m'
 b:MaM jx q px σ m
 d:∀ro ro',pl.p ro≠px.p ro'
 da:∀ro,pl.p ro≠jx
 db:∀ro,px.p ro≠jm
theorem Two.half {jm jx:Nat} {q:Pm} {pl pl' px:Pl} {σ σ':Kx.St} {m m':Mc} (h:Two jm jx q pl px σ m) (h':MaM jm q pl' σ' m') (X:Ext pl pl' σ σ'):Half jm jx q pl' px σ' m m':=by
 have hb:=h.b.jlt
 have ha:=h.a.jlt
 refine ⟨h',h.b.kept (fun ro=>X.keep _ (h.b.mm.lt ro) fun r=>h.d r ro) (X.keep _ hb h.da) X.len,fun ro ro'=>?_,fun ro=>?_,h.db⟩
 ·rcases X.new ro with e|e
  ·rw[e];exact h.d ro ro'
  ·have:=h.b.mm.lt ro';omega
 ·rcases X.new ro with e|e
  ·rw[e];exact h.da ro
  ·omega
theorem Half.set {jm jx:Nat} {q:Pm} {pl px:Pl} {σ:Kx.St} {m m':Mc} (h:Half jm jx q pl px σ m m') {j:Nat} (h1:∀ro,pl.p ro≠j) (h2:∀ro,px.p ro≠j) (h3:jm≠j) (h4:jx≠j) (x:Res):Half jm jx q pl px (σ.set j x) m m':=
 ⟨h.a.kept (fun ro=>List.getElem?_set_ne fun e=>h1 ro e.symm) (List.getElem?_set_ne fun e=>h3 e.symm) (by simp),h.b.kept (fun ro=>List.getElem?_set_ne fun e=>h2 ro e.symm) (List.getElem?_set_ne fun e=>h4 e.symm) (by simp),h.d,h.da,h.db⟩
theorem Half.two {jm jx:Nat} {q:Pm} {pl px px':Pl} {σ σ':Kx.St} {m m':Mc} (h:Half jm jx q pl px σ m m') (h':MaM jx q px' σ' m') (X:Ext px px' σ σ'):Two jm jx q pl px' σ' m':=by
 have hb:=h.b.jlt
 have ha:=h.a.jlt
 refine ⟨h.a.kept (fun ro=>X.keep _ (h.a.mm.lt ro) fun r e=>h.d ro r e.symm) (X.keep _ ha h.db) X.len,h',fun ro ro'=>?_,h.da,fun ro=>?_⟩
 ·rcases X.new ro' with e|e
  ·rw[e];exact h.d ro ro'
  ·have:=h.a.mm.lt ro;omega
 ·rcases X.new ro with e|e
  ·rw[e];exact h.db ro
  ·omega
theorem two_new {jm jx:Nat} {q:Pm} {pl px:Pl} {σ σ':Kx.St} {m:Mc} {n:Nat} (h:MaM jm q pl σ m) (h':MaR σ jx q px σ' m n):Two jm jx q pl px σ' m:=by
 have ha:=h.jlt
 refine ⟨h.kept (fun ro=>h'.keep _ (h.mm.lt ro)) (h'.keep _ ha) h'.ln,h'.ma,fun ro ro' e=>?_,fun ro e=>?_,fun ro e=>?_⟩
 ·have:=h.mm.lt ro;have:=h'.new ro';omega
 ·have:=h.mm.lt ro;have:=h'.jn;omega
 ·have:=h'.new ro;omega
theorem rs_exact {st:Int} {c:Cs} {pk:Int} {n1 n2:Nat} {c1 c2:List AV} {t1 t2:Tok} {d1 d2:List Int} (k1:TkOk d1 t1) (k2:TkOk d2 t2):(AV.agg (aRg st c pk (.sl n1 c1 t1) (.sl n2 c2 t2))).exact=true:=by
 rcases k1 with ⟨rfl,_⟩|⟨i,v,rfl⟩<;>rcases k2 with ⟨rfl,_⟩|⟨i,v,rfl⟩<;>rfl
theorem rs_res (σ:Kx.St) (st:Int) (c:Cs) (pk:Int) (t1 t2:Tok):(AV.agg (aRg st c pk (.sl c.out.length (c.out.map aInt) t1) (.sl c.data.length (c.data.map aInt) t2))).res σ=.agg (aRs st c pk):=by
 have e1:=Jo (f:=aInt) (σ:=σ) (J3 _) c.out t1
 have e2:=Jo (f:=aInt) (σ:=σ) (J3 _) c.data t2
 simp only[aRg,AV.res,AV.resL] at e1 e2 ⊢
 rw[e1,e2];rfl
theorem rs_res0 (σ:Kx.St) (st:Int) (c:Cs) (pk:Int):(AV.agg (aRs st c pk)).res σ=.agg (aRs st c pk):=rs_res σ st c pk .none .none
theorem rs_pure (st:Int) (c:Cs) (pk:Int):(AV.agg (aRs st c pk)).pure=true:=by
 simp[aRs,aRg,AV.pure,AV.pureL,ZG]
theorem SameResult_a (st:Int) (c:Cs) (pk:Int) (h1:c.out.length≤1000000) (h2:c.data.length≤1000000):FnP Tryz.prog 29 [.agg (aRs st c pk),.agg (aRs st c pk)] fun a=>a=aBool true:=by
 refine Qg Z52 mixed rfl (by simp[AV.pureL,rs_pure]) ?_
 simp only[Q12]
 have hc:(AV.agg (aRs st c pk)).cells=aRs st c pk:=rfl
 have g0:(aRs st c pk)[0]?=some (.v (.int .i64 st)):=rfl
 have g1:(aRs st c pk)[1]?=some (.v (.int .i64 c.why)):=rfl
 have g2:(aRs st c pk)[2]?=some (aInts c.out):=rfl
 have g3:(aRs st c pk)[3]?=some (aInts c.data):=rfl
 have g4:cellsA (some 7) ((aRs st c pk).drop 4)=some (.agg [.v (.int .i64 c.steps),.v (.int .i64 c.probes),.v (.int .i64 c.steals),.v (.int .i64 c.parks),.v (.int .i64 c.naps),.v (.int .i64 c.folds),.v (.int .i64 pk)]):=rfl
 have ge:PF.av (.eqs false [.int .i64,.int .i64,.int .i64,.int .i64,.int .i64,.int .i64,.int .i64]) [.agg [.v (.int .i64 c.steps),.v (.int .i64 c.probes),.v (.int .i64 c.steals),.v (.int .i64 c.parks),.v (.int .i64 c.naps),.v (.int .i64 c.folds),.v (.int .i64 pk)],.agg [.v (.int .i64 c.steps),.v (.int .i64 c.probes),.v (.int .i64 c.steals),.v (.int .i64 c.parks),.v (.int .i64 c.naps),.v (.int .i64 c.folds),.v (.int .i64 pk)]]=some (.v (.bool true)):=by
  show ((PF.val (.eqs false [.int .i64,.int .i64,.int .i64,.int .i64,.int .i64,.int .i64,.int .i64]) [.agg [.int .i64 c.steps,.int .i64 c.probes,.int .i64 c.steals,.int .i64 c.parks,.int .i64 c.naps,.int .i64 c.folds,.int .i64 pk].toArray,.agg [.int .i64 c.steps,.int .i64 c.probes,.int .i64 c.steals,.int .i64 c.parks,.int .i64 c.naps,.int .i64 c.folds,.int .i64 pk].toArray]).map AV.v)=_
  simp[PF.val,eqCs,eqC]
 refine Q9 (fun ε σ=>(ε 2=.ep (aRs st c pk)∧ε 3=.ep (aRs st c pk))∧σ=[]) ?_ ?_
 ·intro N X R hN
  push_cast (maxSteps:=999999) -implicitDefEqProofs (disch:=omega)
  refine Q3 ?_
  push_cast (maxSteps:=999999) -implicitDefEqProofs (disch:=omega)[hc]
  refine Q3 ?_
  push_cast (maxSteps:=999999) -implicitDefEqProofs (disch:=omega)[hc]
  exact hN _ _ ⟨by push_cast (maxSteps:=999999) -implicitDefEqProofs (disch:=omega),rfl⟩
 rintro ε σ ⟨hρ,rfl⟩
 push_cast (maxSteps:=999999) -implicitDefEqProofs (disch:=omega)[hρ,g0,g1,g2,g3]
 refine Q1 (X20 c.out c.out h1 h1) ?_
 rintro a rfl
 rw[beq_self_eq_true]
 push_cast (maxSteps:=999999) -implicitDefEqProofs (disch:=omega)[hρ,aBool,g3]
 refine Q1 (X20 c.data c.data h2 h2) ?_
 rintro a rfl
 rw[beq_self_eq_true]
 push_cast (maxSteps:=999999) -implicitDefEqProofs (disch:=omega)[hρ,aBool,g4,ge]
 first|exact ⟨[],rfl,rfl⟩|exact ⟨[],rfl⟩
end Go.Proofs.YtelibaobkcokdaaGreat.Mx
