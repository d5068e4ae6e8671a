/- The machine: a worker's walks are made; what it does at once. -/
import Derived.Test.YtelibaobkcokdaaGreatQU2Ml
namespace Go.Proofs.YtelibaobkcokdaaGreat.Mx
set_option linter.unusedSectionVars false
set_option linter.unusedVariables false
set_option linter.unusedSimpArgs false
open Go Go.Kx Go.Proofs Go.Proofs.YtelibaobkcokdaaGreat
set_option maxRecDepth 8000
theorem J08 (q:Pm) (σ:Kx.St) (who t:Int):FnG Tryz.prog 138 [.agg (aPl q),.v (.int .i64 who),.v (.int .i64 t)] σ fun a σ'=>a=.ref σ.length 0 0∧σ'=σ++[.obj 0 (aDqN q ⟨who,clT t,0,0,0,0,.nil,false,false⟩ (.v .nilFunc))]:=by
 refine Q2 K_deque_walk mixed rfl ?_
 simp only[Y61]
 have hb:fillA [AV.v (.int .i64 0),AV.v (.int .i64 0),AV.v (.int .i64 0),AV.v (.int .i64 0),AV.v (.int .i64 0),AV.v (.int .i64 0),AV.v (.int .i64 0),AV.v (.int .i64 0),AV.v (.int .i64 0),AV.v (.int .i64 0),AV.v .nilFunc,AV.v (.bool false),AV.v (.bool false)] [(0,4),(4,1),(5,1)] [.agg (aPl q),.v (.int .i64 who),.v (.int .i64 (min (max t 0) 1099511627776))]=some (aDqN q ⟨who,clT t,0,0,0,0,.nil,false,false⟩ (.v .nilFunc)):=by simp[fillA,AV.cells,Value.cells,setAtA,aPl,aDqN,clT]
 have hac:(AV.agg (aDqN q ⟨who,clT t,0,0,0,0,.nil,false,false⟩ (.v .nilFunc))).cells=aDqN q ⟨who,clT t,0,0,0,0,.nil,false,false⟩ (.v .nilFunc):=rfl
 push_cast (maxSteps:=999999) -implicitDefEqProofs (disch:=omega)
 refine Q3 ?_
 push_cast (maxSteps:=999999) -implicitDefEqProofs (disch:=omega)[cells4,hb]
 refine Qn ?_
 push_cast (maxSteps:=999999) -implicitDefEqProofs (disch:=omega)[hac]
 exact trivial
theorem dq_Push_a (q:Pm) (σ:Kx.St) (who t x:Int):FnG Tryz.prog 233 [.agg (aPl q),.v (.int .i64 who),.v (.int .i64 t),.v (.int .i64 x)] σ fun a σ'=>a=.ref σ.length 0 0∧σ'=σ++[.obj 0 (aDq q σ.length (dqPush who t x))]:=by
 refine Q2 K_deque_Push mixed rfl ?_
 simp only[Y63]
 push_cast (maxSteps:=999999) -implicitDefEqProofs (disch:=omega)
 refine Q3 ?_
 push_cast (maxSteps:=999999) -implicitDefEqProofs (disch:=omega)[cells4]
 refine Q0 (J08 q σ who t) ?_
 rintro a σ' ⟨rfl,rfl⟩
 push_cast (maxSteps:=999999) -implicitDefEqProofs (disch:=omega)
 refine Q6 rfl rfl (Qc _ _) (by simp[QA]) ?_
 push_cast (maxSteps:=999999) -implicitDefEqProofs (disch:=omega)
 refine Q6 rfl rfl (Qc _ _) (by simp[QA]) ?_
 push_cast (maxSteps:=999999) -implicitDefEqProofs (disch:=omega)
 exact rfl
theorem dq_Pop_a (q:Pm) (σ:Kx.St) (who t:Int):FnG Tryz.prog 226 [.agg (aPl q),.v (.int .i64 who),.v (.int .i64 t)] σ fun a σ'=>a=.ref σ.length 0 0∧σ'=σ++[.obj 0 (aDq q σ.length (dqPop who t))]:=by
 refine Q2 K_deque_Pop mixed rfl ?_
 simp only[JK]
 push_cast (maxSteps:=999999) -implicitDefEqProofs (disch:=omega)
 refine Q3 ?_
 push_cast (maxSteps:=999999) -implicitDefEqProofs (disch:=omega)[cells4]
 refine Q0 (J08 q σ who t) ?_
 rintro a σ' ⟨rfl,rfl⟩
 push_cast (maxSteps:=999999) -implicitDefEqProofs (disch:=omega)
 refine Q6 rfl rfl (Qc _ _) (by simp[QA]) ?_
 push_cast (maxSteps:=999999) -implicitDefEqProofs (disch:=omega)
 exact rfl
theorem dq_Steal_a (q:Pm) (σ:Kx.St) (who:Int):FnG Tryz.prog 91 [.agg (aPl q),.v (.int .i64 who)] σ fun a σ'=>a=.ref σ.length 0 0∧σ'=σ++[.obj 0 (aDq q σ.length (dqSteal who))]:=by
 refine Q2 J89 mixed rfl ?_
 simp only[Yx]
 push_cast (maxSteps:=999999) -implicitDefEqProofs (disch:=omega)
 refine Q3 ?_
 push_cast (maxSteps:=999999) -implicitDefEqProofs (disch:=omega)[cells4]
 refine Q0 (J08 q σ who 0) ?_
 rintro a σ' ⟨rfl,rfl⟩
 push_cast (maxSteps:=999999) -implicitDefEqProofs (disch:=omega)
 refine Q0 (dq_asks_a (σ:=σ++[.obj 0 (aDqN q ⟨who,clT 0,0,0,0,0,.nil,false,false⟩ (.v .nilFunc))]) (jd:=σ.length) (.fn (.func 140) 1 [.ref σ.length 0 0]) rfl) ?_
 rintro a σ' ⟨rfl,rfl⟩
 push_cast (maxSteps:=999999) -implicitDefEqProofs (disch:=omega)
 refine Q6 rfl rfl (Qc _ _) (by simp[QA]) ?_
 push_cast (maxSteps:=999999) -implicitDefEqProofs (disch:=omega)
 exact rfl
section
variable (pl:Pl) (k:Nat) (w:Wk)
theorem wi0:(aWk pl k w)[0]?=some (.v (.int .i64 w.own)):=rfl
theorem wst0 (x:Int):(aWk pl k w).set 0 (.v (.int .i64 x))=aWk pl k { w with own:=x }:=rfl
theorem wi1:(aWk pl k w)[1]?=some (.v (.int .i64 w.state)):=rfl
theorem wst1 (x:Int):(aWk pl k w).set 1 (.v (.int .i64 x))=aWk pl k { w with state:=x }:=rfl
theorem wi2:(aWk pl k w)[2]?=some (.v (.int .i64 w.holds)):=rfl
theorem wst2 (x:Int):(aWk pl k w).set 2 (.v (.int .i64 x))=aWk pl k { w with holds:=x }:=rfl
theorem wi3:(aWk pl k w)[3]?=some (.v (.int .i64 w.tail)):=rfl
theorem wst3 (x:Int):(aWk pl k w).set 3 (.v (.int .i64 x))=aWk pl k { w with tail:=x }:=rfl
theorem wi4:(aWk pl k w)[4]?=some (.v (.int .i64 w.probed)):=rfl
theorem wst4 (x:Int):(aWk pl k w).set 4 (.v (.int .i64 x))=aWk pl k { w with probed:=x }:=rfl
theorem wi7:(aWk pl k w)[7]?=some (.v (.int .i64 w.other)):=rfl
theorem wst7 (x:Int):(aWk pl k w).set 7 (.v (.int .i64 x))=aWk pl k { w with other:=x }:=rfl
theorem wi8:(aWk pl k w)[8]?=some (.v (.int .i64 w.gStage)):=rfl
theorem wst8 (x:Int):(aWk pl k w).set 8 (.v (.int .i64 x))=aWk pl k { w with gStage:=x }:=rfl
theorem wi9:(aWk pl k w)[9]?=some (.v (.bool w.gWaits)):=rfl
theorem wst9 (x:Bool):(aWk pl k w).set 9 (.v (.bool x))=aWk pl k { w with gWaits:=x }:=rfl
theorem wi10:(aWk pl k w)[10]?=some (.v (.bool w.gLooked)):=rfl
theorem wst10 (x:Bool):(aWk pl k w).set 10 (.v (.bool x))=aWk pl k { w with gLooked:=x }:=rfl
theorem wi11:(aWk pl k w)[11]?=some (.v (.int .i64 w.gWhy)):=rfl
theorem wst11 (x:Int):(aWk pl k w).set 11 (.v (.int .i64 x))=aWk pl k { w with gWhy:=x }:=rfl
theorem wi12:(aWk pl k w)[12]?=some (.v (.bool w.eHeld)):=rfl
theorem wst12 (x:Bool):(aWk pl k w).set 12 (.v (.bool x))=aWk pl k { w with eHeld:=x }:=rfl
theorem wi13:(aWk pl k w)[13]?=some (.v (.bool w.eBreaks)):=rfl
theorem wst13 (x:Bool):(aWk pl k w).set 13 (.v (.bool x))=aWk pl k { w with eBreaks:=x }:=rfl
theorem wi14:(aWk pl k w)[14]?=some (.v (.int .i64 w.eRight)):=rfl
theorem wst14 (x:Int):(aWk pl k w).set 14 (.v (.int .i64 x))=aWk pl k { w with eRight:=x }:=rfl
theorem wi15:(aWk pl k w)[15]?=some (.v (.bool w.eWoken)):=rfl
theorem wst15 (x:Bool):(aWk pl k w).set 15 (.v (.bool x))=aWk pl k { w with eWoken:=x }:=rfl
theorem wi5:(aWk pl k w)[5]?=some (aPtr w.dq (pl.p (.dq k))):=rfl
theorem wi16:(aWk pl k w)[16]?=some (aPtr w.right (pl.p (.rt k))):=rfl
theorem wi17:(aWk pl k w)[17]?=some (aPtr w.park (pl.p (.pk k))):=rfl
theorem wi18:(aWk pl k w)[18]?=some (aPtr w.wake (pl.p (.wa k))):=rfl
theorem wi19:(aWk pl k w)[19]?=some (aPtr w.nap (pl.p (.np k))):=rfl
theorem wi6:(aWk pl k w)[6]?=some (aTh (pl.p (.wk k)) w.th):=rfl
theorem X78:(aWk pl k w).length=20:=rfl
theorem wst8g (a:Int) (b c:Bool) (e:Int):setAtA (aWk pl k w) 8 [.v (.int .i64 a),.v (.bool b),.v (.bool c),.v (.int .i64 e)]=aWk pl k { w with gStage:=a,gWaits:=b,gLooked:=c,gWhy:=e }:=rfl
theorem wst12e (a b:Bool) (c:Int) (e:Bool):setAtA (aWk pl k w) 12 [.v (.bool a),.v (.bool b),.v (.int .i64 c),.v (.bool e)]=aWk pl k { w with eHeld:=a,eBreaks:=b,eRight:=c,eWoken:=e }:=rfl
end
attribute [push_cast] wi6 X78 wi0 wst0 wi1 wst1 wi2 wst2 wi3 wst3 wi4 wst4 wi7 wst7 wi8 wst8 wi9 wst9 wi10 wst10 wi11 wst11 wi12 wst12 wi13 wst13 wi14 wst14 wi15 wst15 wi5 wi16 wi17 wi18 wi19
section
variable {q:Pm} {pl:Pl} {σ:Kx.St} {L:List Wk} {s:Cs}
theorem MM.new_dq (h:MM q pl σ L s) {k:Nat} {w:Wk} (hk:L[k]?=some w) (d:Dq) (hok:DqOk q d):
  MM q (pl.put (.dq k) σ.length) ((σ++[Res.obj 0 (aDq q σ.length d)]).set (pl.p (.wk k)) (.obj 0 ((aWk pl k w).set 5 (.ref σ.length 0 0)))) (L.set k { w with dq:=some d }) s ∧
  Ext pl (pl.put (.dq k) σ.length) σ ((σ++[Res.obj 0 (aDq q σ.length d)]).set (pl.p (.wk k)) (.obj 0 ((aWk pl k w).set 5 (.ref σ.length 0 0)))):=by
 have hkl:=Qe hk
 have hself:(L.set k { w with dq:=some d })[k]?=some { w with dq:=some d }:=List.getElem?_set_self hkl
 have hp:∀ro,ro≠Ro.dq k→(pl.put (.dq k) σ.length).p ro=pl.p ro:=fun ro hr=>Q01 hr
 have hpb:(pl.put (.dq k) σ.length).p (.dq k)=σ.length:=Qi pl (.dq k) σ.length
 have hw:(img q pl L s (.wk k)).isSome=true:=by simp[img,hk]
 have himg:∀ro,ro≠Ro.dq k→ro≠Ro.wk k→img q (pl.put (.dq k) σ.length) (L.set k { w with dq:=some d }) s ro=img q pl L s ro:=by
  intro ro h1 h2
  cases ro with
  | wk j=>
   have hj:k≠j:=fun e=>h2 (by rw[e])
   simp only[img,List.getElem?_set_ne hj,aWk]
   cases L[j]? with
   | none=>rfl
   | some v=>simp only[Option.map_some];rw[hp _ (by simp;try omega),hp _ (by simp;try omega),hp _ (by simp;try omega),hp _ (by simp;try omega),hp _ (by simp;try omega),hp _ (by simp;try omega)]
  | dq j|rt j|pk j|wa j|np j=>
   by_cases hj:k=j
   ·subst hj
    first|exact absurd rfl h1|(simp only[img,hself,hk,Option.bind_some];try (rw[hp _ (by simp)]))
   ·simp only[img,List.getElem?_set_ne hj]
    try (rw[hp _ (by simp;try omega)])
  | _=>rfl
 have hs:∀ro,ro≠Ro.dq k→(img q (pl.put (.dq k) σ.length) (L.set k { w with dq:=some d }) s ro).isSome=true→(img q pl L s ro).isSome=true:=fun ro hr he=>by
  by_cases e2:ro=.wk k
  ·subst e2;exact hw
  ·rw[←himg ro hr e2];exact he
 refine ⟨⟨fun ro r er=>?_,fun a b ha hb hab=>?_,⟨h.sd.ok,h.sd.ws,h.sd.fr,h.sd.hl,h.sd.rg,h.sd.bk,h.sd.ib,h.sd.f0,h.sd.o0,h.sd.l0,h.sd.ol,h.sd.dt,fun j v e hv he=>?_,h.sd.fs⟩,fun ro=>?_⟩,⟨by simp,fun j hj hpj=>?_,fun ro=>?_,fun ro hf=>hp _ fun e=>by subst e;cases hf⟩⟩
 ·by_cases e1:ro=(.dq k)
  ·subst e1
   rw[hpb]
   simp only[img,hself,Option.bind_some,Option.map_some,Option.some.injEq] at er
   try (rw[hpb] at er)
   subst er
   have:=h.lt (.wk k)
   rw[List.getElem?_set_ne (by omega)]
   exact Qc _ _
  by_cases e2:ro=.wk k
  ·subst e2
   rw[hp _ e1]
   simp only[img,hself,Option.map_some,Option.some.injEq] at er
   subst er
   have:=h.lt (.wk k)
   rw[List.getElem?_set_self (by simp;omega)]
   simp only[aWk,hpb]
   rw[hp _ (by simp),hp _ (by simp),hp _ (by simp),hp _ (by simp),hp _ (by simp)]
   rfl
  ·have er2:img q pl L s ro=some r:=by rw[←himg ro e1 e2];exact er
   have hs2:(img q pl L s ro).isSome=true:=by rw[er2];rfl
   rw[hp _ e1,List.getElem?_set_ne (h.ne hw hs2 (Ne.symm e2))]
   exact Qj (h.at_ _ _ er2)
 ·by_cases ea:a=(.dq k)
  ·by_cases eb:b=(.dq k)
   ·rw[ea,eb]
   ·subst ea
    rw[hpb,hp _ eb] at hab
    have:=h.lt b;omega
  ·by_cases eb:b=(.dq k)
   ·subst eb
    rw[hpb,hp _ ea] at hab
    have:=h.lt a;omega
   ·rw[hp _ ea,hp _ eb] at hab
    exact h.inj a b (hs a ea ha) (hs b eb hb) hab
 ·by_cases hj:k=j
  ·subst hj
   rw[hself] at hv;cases hv
   exact (by cases he;exact hok)
  ·rw[List.getElem?_set_ne hj] at hv
   exact h.sd.dq j v e hv he
 ·by_cases e1:ro=(.dq k)
  ·subst e1;rw[hpb];simp
  ·rw[hp _ e1];have:=h.lt ro;simp;omega
 ·rw[List.getElem?_set_ne (hpj _),List.getElem?_append_left hj]
 ·by_cases e1:ro=(.dq k)
  ·subst e1;rw[hpb];exact .inr (Nat.le_refl _)
  ·exact .inl (hp _ e1)
theorem MM.new_right (h:MM q pl σ L s) {k:Nat} {w:Wk} (hk:L[k]?=some w) (d:Rt):
  MM q (pl.put (.rt k) σ.length) ((σ++[Res.obj 0 (aRt q d)]).set (pl.p (.wk k)) (.obj 0 ((aWk pl k w).set 16 (.ref σ.length 0 0)))) (L.set k { w with right:=some d }) s ∧
  Ext pl (pl.put (.rt k) σ.length) σ ((σ++[Res.obj 0 (aRt q d)]).set (pl.p (.wk k)) (.obj 0 ((aWk pl k w).set 16 (.ref σ.length 0 0)))):=by
 have hkl:=Qe hk
 have hself:(L.set k { w with right:=some d })[k]?=some { w with right:=some d }:=List.getElem?_set_self hkl
 have hp:∀ro,ro≠Ro.rt k→(pl.put (.rt k) σ.length).p ro=pl.p ro:=fun ro hr=>Q01 hr
 have hpb:(pl.put (.rt k) σ.length).p (.rt k)=σ.length:=Qi pl (.rt k) σ.length
 have hw:(img q pl L s (.wk k)).isSome=true:=by simp[img,hk]
 have himg:∀ro,ro≠Ro.rt k→ro≠Ro.wk k→img q (pl.put (.rt k) σ.length) (L.set k { w with right:=some d }) s ro=img q pl L s ro:=by
  intro ro h1 h2
  cases ro with
  | wk j=>
   have hj:k≠j:=fun e=>h2 (by rw[e])
   simp only[img,List.getElem?_set_ne hj,aWk]
   cases L[j]? with
   | none=>rfl
   | some v=>simp only[Option.map_some];rw[hp _ (by simp;try omega),hp _ (by simp;try omega),hp _ (by simp;try omega),hp _ (by simp;try omega),hp _ (by simp;try omega),hp _ (by simp;try omega)]
  | dq j|rt j|pk j|wa j|np j=>
   by_cases hj:k=j
   ·subst hj
    first|exact absurd rfl h1|(simp only[img,hself,hk,Option.bind_some];try (rw[hp _ (by simp)]))
   ·simp only[img,List.getElem?_set_ne hj]
    try (rw[hp _ (by simp;try omega)])
  | _=>rfl
 have hs:∀ro,ro≠Ro.rt k→(img q (pl.put (.rt k) σ.length) (L.set k { w with right:=some d }) s ro).isSome=true→(img q pl L s ro).isSome=true:=fun ro hr he=>by
  by_cases e2:ro=.wk k
  ·subst e2;exact hw
  ·rw[←himg ro hr e2];exact he
 refine ⟨⟨fun ro r er=>?_,fun a b ha hb hab=>?_,⟨h.sd.ok,h.sd.ws,h.sd.fr,h.sd.hl,h.sd.rg,h.sd.bk,h.sd.ib,h.sd.f0,h.sd.o0,h.sd.l0,h.sd.ol,h.sd.dt,fun j v e hv he=>?_,h.sd.fs⟩,fun ro=>?_⟩,⟨by simp,fun j hj hpj=>?_,fun ro=>?_,fun ro hf=>hp _ fun e=>by subst e;cases hf⟩⟩
 ·by_cases e1:ro=(.rt k)
  ·subst e1
   rw[hpb]
   simp only[img,hself,Option.bind_some,Option.map_some,Option.some.injEq] at er
   try (rw[hpb] at er)
   subst er
   have:=h.lt (.wk k)
   rw[List.getElem?_set_ne (by omega)]
   exact Qc _ _
  by_cases e2:ro=.wk k
  ·subst e2
   rw[hp _ e1]
   simp only[img,hself,Option.map_some,Option.some.injEq] at er
   subst er
   have:=h.lt (.wk k)
   rw[List.getElem?_set_self (by simp;omega)]
   simp only[aWk,hpb]
   rw[hp _ (by simp),hp _ (by simp),hp _ (by simp),hp _ (by simp),hp _ (by simp)]
   rfl
  ·have er2:img q pl L s ro=some r:=by rw[←himg ro e1 e2];exact er
   have hs2:(img q pl L s ro).isSome=true:=by rw[er2];rfl
   rw[hp _ e1,List.getElem?_set_ne (h.ne hw hs2 (Ne.symm e2))]
   exact Qj (h.at_ _ _ er2)
 ·by_cases ea:a=(.rt k)
  ·by_cases eb:b=(.rt k)
   ·rw[ea,eb]
   ·subst ea
    rw[hpb,hp _ eb] at hab
    have:=h.lt b;omega
  ·by_cases eb:b=(.rt k)
   ·subst eb
    rw[hpb,hp _ ea] at hab
    have:=h.lt a;omega
   ·rw[hp _ ea,hp _ eb] at hab
    exact h.inj a b (hs a ea ha) (hs b eb hb) hab
 ·by_cases hj:k=j
  ·subst hj
   rw[hself] at hv;cases hv
   exact h.sd.dq k w e hk he
  ·rw[List.getElem?_set_ne hj] at hv
   exact h.sd.dq j v e hv he
 ·by_cases e1:ro=(.rt k)
  ·subst e1;rw[hpb];simp
  ·rw[hp _ e1];have:=h.lt ro;simp;omega
 ·rw[List.getElem?_set_ne (hpj _),List.getElem?_append_left hj]
 ·by_cases e1:ro=(.rt k)
  ·subst e1;rw[hpb];exact .inr (Nat.le_refl _)
  ·exact .inl (hp _ e1)
theorem MM.new_park (h:MM q pl σ L s) {k:Nat} {w:Wk} (hk:L[k]?=some w) (d:Pk):
  MM q (pl.put (.pk k) σ.length) ((σ++[Res.obj 0 (aPk q d)]).set (pl.p (.wk k)) (.obj 0 ((aWk pl k w).set 17 (.ref σ.length 0 0)))) (L.set k { w with park:=some d }) s ∧
  Ext pl (pl.put (.pk k) σ.length) σ ((σ++[Res.obj 0 (aPk q d)]).set (pl.p (.wk k)) (.obj 0 ((aWk pl k w).set 17 (.ref σ.length 0 0)))):=by
 have hkl:=Qe hk
 have hself:(L.set k { w with park:=some d })[k]?=some { w with park:=some d }:=List.getElem?_set_self hkl
 have hp:∀ro,ro≠Ro.pk k→(pl.put (.pk k) σ.length).p ro=pl.p ro:=fun ro hr=>Q01 hr
 have hpb:(pl.put (.pk k) σ.length).p (.pk k)=σ.length:=Qi pl (.pk k) σ.length
 have hw:(img q pl L s (.wk k)).isSome=true:=by simp[img,hk]
 have himg:∀ro,ro≠Ro.pk k→ro≠Ro.wk k→img q (pl.put (.pk k) σ.length) (L.set k { w with park:=some d }) s ro=img q pl L s ro:=by
  intro ro h1 h2
  cases ro with
  | wk j=>
   have hj:k≠j:=fun e=>h2 (by rw[e])
   simp only[img,List.getElem?_set_ne hj,aWk]
   cases L[j]? with
   | none=>rfl
   | some v=>simp only[Option.map_some];rw[hp _ (by simp;try omega),hp _ (by simp;try omega),hp _ (by simp;try omega),hp _ (by simp;try omega),hp _ (by simp;try omega),hp _ (by simp;try omega)]
  | dq j|rt j|pk j|wa j|np j=>
   by_cases hj:k=j
   ·subst hj
    first|exact absurd rfl h1|(simp only[img,hself,hk,Option.bind_some];try (rw[hp _ (by simp)]))
   ·simp only[img,List.getElem?_set_ne hj]
    try (rw[hp _ (by simp;try omega)])
  | _=>rfl
 have hs:∀ro,ro≠Ro.pk k→(img q (pl.put (.pk k) σ.length) (L.set k { w with park:=some d }) s ro).isSome=true→(img q pl L s ro).isSome=true:=fun ro hr he=>by
  by_cases e2:ro=.wk k
  ·subst e2;exact hw
  ·rw[←himg ro hr e2];exact he
 refine ⟨⟨fun ro r er=>?_,fun a b ha hb hab=>?_,⟨h.sd.ok,h.sd.ws,h.sd.fr,h.sd.hl,h.sd.rg,h.sd.bk,h.sd.ib,h.sd.f0,h.sd.o0,h.sd.l0,h.sd.ol,h.sd.dt,fun j v e hv he=>?_,h.sd.fs⟩,fun ro=>?_⟩,⟨by simp,fun j hj hpj=>?_,fun ro=>?_,fun ro hf=>hp _ fun e=>by subst e;cases hf⟩⟩
 ·by_cases e1:ro=(.pk k)
  ·subst e1
   rw[hpb]
   simp only[img,hself,Option.bind_some,Option.map_some,Option.some.injEq] at er
   try (rw[hpb] at er)
   subst er
   have:=h.lt (.wk k)
   rw[List.getElem?_set_ne (by omega)]
   exact Qc _ _
  by_cases e2:ro=.wk k
  ·subst e2
   rw[hp _ e1]
   simp only[img,hself,Option.map_some,Option.some.injEq] at er
   subst er
   have:=h.lt (.wk k)
   rw[List.getElem?_set_self (by simp;omega)]
   simp only[aWk,hpb]
   rw[hp _ (by simp),hp _ (by simp),hp _ (by simp),hp _ (by simp),hp _ (by simp)]
   rfl
  ·have er2:img q pl L s ro=some r:=by rw[←himg ro e1 e2];exact er
   have hs2:(img q pl L s ro).isSome=true:=by rw[er2];rfl
   rw[hp _ e1,List.getElem?_set_ne (h.ne hw hs2 (Ne.symm e2))]
   exact Qj (h.at_ _ _ er2)
 ·by_cases ea:a=(.pk k)
  ·by_cases eb:b=(.pk k)
   ·rw[ea,eb]
   ·subst ea
    rw[hpb,hp _ eb] at hab
    have:=h.lt b;omega
  ·by_cases eb:b=(.pk k)
   ·subst eb
    rw[hpb,hp _ ea] at hab
    have:=h.lt a;omega
   ·rw[hp _ ea,hp _ eb] at hab
    exact h.inj a b (hs a ea ha) (hs b eb hb) hab
 ·by_cases hj:k=j
  ·subst hj
   rw[hself] at hv;cases hv
   exact h.sd.dq k w e hk he
  ·rw[List.getElem?_set_ne hj] at hv
   exact h.sd.dq j v e hv he
 ·by_cases e1:ro=(.pk k)
  ·subst e1;rw[hpb];simp
  ·rw[hp _ e1];have:=h.lt ro;simp;omega
 ·rw[List.getElem?_set_ne (hpj _),List.getElem?_append_left hj]
 ·by_cases e1:ro=(.pk k)
  ·subst e1;rw[hpb];exact .inr (Nat.le_refl _)
  ·exact .inl (hp _ e1)
theorem MM.new_wake (h:MM q pl σ L s) {k:Nat} {w:Wk} (hk:L[k]?=some w) (d:Tw):
  MM q (pl.put (.wa k) σ.length) ((σ++[Res.obj 0 (aTw q d [.v (.bool d.looks)])]).set (pl.p (.wk k)) (.obj 0 ((aWk pl k w).set 18 (.ref σ.length 0 0)))) (L.set k { w with wake:=some d }) s ∧
  Ext pl (pl.put (.wa k) σ.length) σ ((σ++[Res.obj 0 (aTw q d [.v (.bool d.looks)])]).set (pl.p (.wk k)) (.obj 0 ((aWk pl k w).set 18 (.ref σ.length 0 0)))):=by
 have hkl:=Qe hk
 have hself:(L.set k { w with wake:=some d })[k]?=some { w with wake:=some d }:=List.getElem?_set_self hkl
 have hp:∀ro,ro≠Ro.wa k→(pl.put (.wa k) σ.length).p ro=pl.p ro:=fun ro hr=>Q01 hr
 have hpb:(pl.put (.wa k) σ.length).p (.wa k)=σ.length:=Qi pl (.wa k) σ.length
 have hw:(img q pl L s (.wk k)).isSome=true:=by simp[img,hk]
 have himg:∀ro,ro≠Ro.wa k→ro≠Ro.wk k→img q (pl.put (.wa k) σ.length) (L.set k { w with wake:=some d }) s ro=img q pl L s ro:=by
  intro ro h1 h2
  cases ro with
  | wk j=>
   have hj:k≠j:=fun e=>h2 (by rw[e])
   simp only[img,List.getElem?_set_ne hj,aWk]
   cases L[j]? with
   | none=>rfl
   | some v=>simp only[Option.map_some];rw[hp _ (by simp;try omega),hp _ (by simp;try omega),hp _ (by simp;try omega),hp _ (by simp;try omega),hp _ (by simp;try omega),hp _ (by simp;try omega)]
  | dq j|rt j|pk j|wa j|np j=>
   by_cases hj:k=j
   ·subst hj
    first|exact absurd rfl h1|(simp only[img,hself,hk,Option.bind_some];try (rw[hp _ (by simp)]))
   ·simp only[img,List.getElem?_set_ne hj]
    try (rw[hp _ (by simp;try omega)])
  | _=>rfl
 have hs:∀ro,ro≠Ro.wa k→(img q (pl.put (.wa k) σ.length) (L.set k { w with wake:=some d }) s ro).isSome=true→(img q pl L s ro).isSome=true:=fun ro hr he=>by
  by_cases e2:ro=.wk k
  ·subst e2;exact hw
  ·rw[←himg ro hr e2];exact he
 refine ⟨⟨fun ro r er=>?_,fun a b ha hb hab=>?_,⟨h.sd.ok,h.sd.ws,h.sd.fr,h.sd.hl,h.sd.rg,h.sd.bk,h.sd.ib,h.sd.f0,h.sd.o0,h.sd.l0,h.sd.ol,h.sd.dt,fun j v e hv he=>?_,h.sd.fs⟩,fun ro=>?_⟩,⟨by simp,fun j hj hpj=>?_,fun ro=>?_,fun ro hf=>hp _ fun e=>by subst e;cases hf⟩⟩
 ·by_cases e1:ro=(.wa k)
  ·subst e1
   rw[hpb]
   simp only[img,hself,Option.bind_some,Option.map_some,Option.some.injEq] at er
   try (rw[hpb] at er)
   subst er
   have:=h.lt (.wk k)
   rw[List.getElem?_set_ne (by omega)]
   exact Qc _ _
  by_cases e2:ro=.wk k
  ·subst e2
   rw[hp _ e1]
   simp only[img,hself,Option.map_some,Option.some.injEq] at er
   subst er
   have:=h.lt (.wk k)
   rw[List.getElem?_set_self (by simp;omega)]
   simp only[aWk,hpb]
   rw[hp _ (by simp),hp _ (by simp),hp _ (by simp),hp _ (by simp),hp _ (by simp)]
   rfl
  ·have er2:img q pl L s ro=some r:=by rw[←himg ro e1 e2];exact er
   have hs2:(img q pl L s ro).isSome=true:=by rw[er2];rfl
   rw[hp _ e1,List.getElem?_set_ne (h.ne hw hs2 (Ne.symm e2))]
   exact Qj (h.at_ _ _ er2)
 ·by_cases ea:a=(.wa k)
  ·by_cases eb:b=(.wa k)
   ·rw[ea,eb]
   ·subst ea
    rw[hpb,hp _ eb] at hab
    have:=h.lt b;omega
  ·by_cases eb:b=(.wa k)
   ·subst eb
    rw[hpb,hp _ ea] at hab
    have:=h.lt a;omega
   ·rw[hp _ ea,hp _ eb] at hab
    exact h.inj a b (hs a ea ha) (hs b eb hb) hab
 ·by_cases hj:k=j
  ·subst hj
   rw[hself] at hv;cases hv
   exact h.sd.dq k w e hk he
  ·rw[List.getElem?_set_ne hj] at hv
   exact h.sd.dq j v e hv he
 ·by_cases e1:ro=(.wa k)
  ·subst e1;rw[hpb];simp
  ·rw[hp _ e1];have:=h.lt ro;simp;omega
 ·rw[List.getElem?_set_ne (hpj _),List.getElem?_append_left hj]
 ·by_cases e1:ro=(.wa k)
  ·subst e1;rw[hpb];exact .inr (Nat.le_refl _)
  ·exact .inl (hp _ e1)
theorem MM.new_nap (h:MM q pl σ L s) {k:Nat} {w:Wk} (hk:L[k]?=some w) (d:Tw):
  MM q (pl.put (.np k) σ.length) ((σ++[Res.obj 0 (aTw q d [])]).set (pl.p (.wk k)) (.obj 0 ((aWk pl k w).set 19 (.ref σ.length 0 0)))) (L.set k { w with nap:=some d }) s ∧
  Ext pl (pl.put (.np k) σ.length) σ ((σ++[Res.obj 0 (aTw q d [])]).set (pl.p (.wk k)) (.obj 0 ((aWk pl k w).set 19 (.ref σ.length 0 0)))):=by
 have hkl:=Qe hk
 have hself:(L.set k { w with nap:=some d })[k]?=some { w with nap:=some d }:=List.getElem?_set_self hkl
 have hp:∀ro,ro≠Ro.np k→(pl.put (.np k) σ.length).p ro=pl.p ro:=fun ro hr=>Q01 hr
 have hpb:(pl.put (.np k) σ.length).p (.np k)=σ.length:=Qi pl (.np k) σ.length
 have hw:(img q pl L s (.wk k)).isSome=true:=by simp[img,hk]
 have himg:∀ro,ro≠Ro.np k→ro≠Ro.wk k→img q (pl.put (.np k) σ.length) (L.set k { w with nap:=some d }) s ro=img q pl L s ro:=by
  intro ro h1 h2
  cases ro with
  | wk j=>
   have hj:k≠j:=fun e=>h2 (by rw[e])
   simp only[img,List.getElem?_set_ne hj,aWk]
   cases L[j]? with
   | none=>rfl
   | some v=>simp only[Option.map_some];rw[hp _ (by simp;try omega),hp _ (by simp;try omega),hp _ (by simp;try omega),hp _ (by simp;try omega),hp _ (by simp;try omega),hp _ (by simp;try omega)]
  | dq j|rt j|pk j|wa j|np j=>
   by_cases hj:k=j
   ·subst hj
    first|exact absurd rfl h1|(simp only[img,hself,hk,Option.bind_some];try (rw[hp _ (by simp)]))
   ·simp only[img,List.getElem?_set_ne hj]
    try (rw[hp _ (by simp;try omega)])
  | _=>rfl
 have hs:∀ro,ro≠Ro.np k→(img q (pl.put (.np k) σ.length) (L.set k { w with nap:=some d }) s ro).isSome=true→(img q pl L s ro).isSome=true:=fun ro hr he=>by
  by_cases e2:ro=.wk k
  ·subst e2;exact hw
  ·rw[←himg ro hr e2];exact he
 refine ⟨⟨fun ro r er=>?_,fun a b ha hb hab=>?_,⟨h.sd.ok,h.sd.ws,h.sd.fr,h.sd.hl,h.sd.rg,h.sd.bk,h.sd.ib,h.sd.f0,h.sd.o0,h.sd.l0,h.sd.ol,h.sd.dt,fun j v e hv he=>?_,h.sd.fs⟩,fun ro=>?_⟩,⟨by simp,fun j hj hpj=>?_,fun ro=>?_,fun ro hf=>hp _ fun e=>by subst e;cases hf⟩⟩
 ·by_cases e1:ro=(.np k)
  ·subst e1
   rw[hpb]
   simp only[img,hself,Option.bind_some,Option.map_some,Option.some.injEq] at er
   try (rw[hpb] at er)
   subst er
   have:=h.lt (.wk k)
   rw[List.getElem?_set_ne (by omega)]
   exact Qc _ _
  by_cases e2:ro=.wk k
  ·subst e2
   rw[hp _ e1]
   simp only[img,hself,Option.map_some,Option.some.injEq] at er
   subst er
   have:=h.lt (.wk k)
   rw[List.getElem?_set_self (by simp;omega)]
   simp only[aWk,hpb]
   rw[hp _ (by simp),hp _ (by simp),hp _ (by simp),hp _ (by simp),hp _ (by simp)]
   rfl
  ·have er2:img q pl L s ro=some r:=by rw[←himg ro e1 e2];exact er
   have hs2:(img q pl L s ro).isSome=true:=by rw[er2];rfl
   rw[hp _ e1,List.getElem?_set_ne (h.ne hw hs2 (Ne.symm e2))]
   exact Qj (h.at_ _ _ er2)
 ·by_cases ea:a=(.np k)
  ·by_cases eb:b=(.np k)
   ·rw[ea,eb]
   ·subst ea
    rw[hpb,hp _ eb] at hab
    have:=h.lt b;omega
  ·by_cases eb:b=(.np k)
   ·subst eb
    rw[hpb,hp _ ea] at hab
    have:=h.lt a;omega
   ·rw[hp _ ea,hp _ eb] at hab
    exact h.inj a b (hs a ea ha) (hs b eb hb) hab
 ·by_cases hj:k=j
  ·subst hj
   rw[hself] at hv;cases hv
   exact h.sd.dq k w e hk he
  ·rw[List.getElem?_set_ne hj] at hv
   exact h.sd.dq j v e hv he
 ·by_cases e1:ro=(.np k)
  ·subst e1;rw[hpb];simp
  ·rw[hp _ e1];have:=h.lt ro;simp;omega
 ·rw[List.getElem?_set_ne (hpj _),List.getElem?_append_left hj]
 ·by_cases e1:ro=(.np k)
  ·subst e1;rw[hpb];exact .inr (Nat.le_refl _)
  ·exact .inl (hp _ e1)
end
end Go.Proofs.YtelibaobkcokdaaGreat.Mx
