/- The machine: a worker's walks go on. -/
import Derived.Test.YtelibaobkcokdaaGreatQU2Mo
namespace Go.Proofs.YtelibaobkcokdaaGreat.Mx
set_option linter.unusedSectionVars false
set_option linter.unusedVariables false
set_option linter.unusedSimpArgs false
open Go Go.Kx Go.Proofs Go.Proofs.YtelibaobkcokdaaGreat
set_option maxRecDepth 8000
section
variable {q:Pm} {L:List Wk} {k jw jc:Nat} {pl0 pl:Pl} {σ0 σ:Kx.St} {x:WC} {s:Cs}
theorem MM.set_dq (h:MM q pl σ L s) {w:Wk} (hk:L[k]?=some w) {d0:Dq} (hd:w.dq=some d0) (d:Dq) (hok:DqOk q d):MM q pl (σ.set (pl.p (.dq k)) (Res.obj 0 (aDq q (pl.p (.dq k)) d))) (L.set k { w with dq:=some d }) s:=by
 have hkl:=Qe hk
 have hself:(L.set k { w with dq:=some d })[k]?=some { w with dq:=some d }:=List.getElem?_set_self hkl
 refine h.upd1 rfl (by simp[img,hk,hd]) (by simp[img,hself]) (fun ro hro=>?_) ⟨h.sd.ok,h.sd.ws,h.sd.fr,h.sd.hl,h.sd.rg,h.sd.bk,h.sd.ib,h.sd.f0,h.sd.o0,h.sd.l0,h.sd.ol,h.sd.dt,fun j v e hv he=>?_,h.sd.fs⟩
 ·cases ro with
  | wk j=>
   by_cases hj:k=j
   ·subst hj;simp only[img,hself,hk,Option.map_some,aWk,hd,aPtr]
   ·simp only[img,List.getElem?_set_ne hj]
  | dq j|rt j|pk j|wa j|np j=>
   by_cases hj:k=j
   ·subst hj;first|exact absurd rfl hro|(simp only[img,hself,hk,Option.bind_some])
   ·simp only[img,List.getElem?_set_ne hj]
  | _=>rfl
 ·by_cases hj:k=j
  ·subst hj
   rw[hself] at hv;cases hv
   exact (by cases he;exact hok)
  ·rw[List.getElem?_set_ne hj] at hv
   exact h.sd.dq j v e hv he
theorem MM.set_right (h:MM q pl σ L s) {w:Wk} (hk:L[k]?=some w) {d0:Rt} (hd:w.right=some d0) (d:Rt):MM q pl (σ.set (pl.p (.rt k)) (Res.obj 0 (aRt q d))) (L.set k { w with right:=some d }) s:=by
 have hkl:=Qe hk
 have hself:(L.set k { w with right:=some d })[k]?=some { w with right:=some d }:=List.getElem?_set_self hkl
 refine h.upd1 rfl (by simp[img,hk,hd]) (by simp[img,hself]) (fun ro hro=>?_) ⟨h.sd.ok,h.sd.ws,h.sd.fr,h.sd.hl,h.sd.rg,h.sd.bk,h.sd.ib,h.sd.f0,h.sd.o0,h.sd.l0,h.sd.ol,h.sd.dt,fun j v e hv he=>?_,h.sd.fs⟩
 ·cases ro with
  | wk j=>
   by_cases hj:k=j
   ·subst hj;simp only[img,hself,hk,Option.map_some,aWk,hd,aPtr]
   ·simp only[img,List.getElem?_set_ne hj]
  | dq j|rt j|pk j|wa j|np j=>
   by_cases hj:k=j
   ·subst hj;first|exact absurd rfl hro|(simp only[img,hself,hk,Option.bind_some])
   ·simp only[img,List.getElem?_set_ne hj]
  | _=>rfl
 ·by_cases hj:k=j
  ·subst hj
   rw[hself] at hv;cases hv
   exact h.sd.dq k w e hk he
  ·rw[List.getElem?_set_ne hj] at hv
   exact h.sd.dq j v e hv he
theorem MM.set_park (h:MM q pl σ L s) {w:Wk} (hk:L[k]?=some w) {d0:Pk} (hd:w.park=some d0) (d:Pk):MM q pl (σ.set (pl.p (.pk k)) (Res.obj 0 (aPk q d))) (L.set k { w with park:=some d }) s:=by
 have hkl:=Qe hk
 have hself:(L.set k { w with park:=some d })[k]?=some { w with park:=some d }:=List.getElem?_set_self hkl
 refine h.upd1 rfl (by simp[img,hk,hd]) (by simp[img,hself]) (fun ro hro=>?_) ⟨h.sd.ok,h.sd.ws,h.sd.fr,h.sd.hl,h.sd.rg,h.sd.bk,h.sd.ib,h.sd.f0,h.sd.o0,h.sd.l0,h.sd.ol,h.sd.dt,fun j v e hv he=>?_,h.sd.fs⟩
 ·cases ro with
  | wk j=>
   by_cases hj:k=j
   ·subst hj;simp only[img,hself,hk,Option.map_some,aWk,hd,aPtr]
   ·simp only[img,List.getElem?_set_ne hj]
  | dq j|rt j|pk j|wa j|np j=>
   by_cases hj:k=j
   ·subst hj;first|exact absurd rfl hro|(simp only[img,hself,hk,Option.bind_some])
   ·simp only[img,List.getElem?_set_ne hj]
  | _=>rfl
 ·by_cases hj:k=j
  ·subst hj
   rw[hself] at hv;cases hv
   exact h.sd.dq k w e hk he
  ·rw[List.getElem?_set_ne hj] at hv
   exact h.sd.dq j v e hv he
theorem MM.set_wake (h:MM q pl σ L s) {w:Wk} (hk:L[k]?=some w) {d0:Tw} (hd:w.wake=some d0) (d:Tw):MM q pl (σ.set (pl.p (.wa k)) (Res.obj 0 (aTw q d [.v (.bool d.looks)]))) (L.set k { w with wake:=some d }) s:=by
 have hkl:=Qe hk
 have hself:(L.set k { w with wake:=some d })[k]?=some { w with wake:=some d }:=List.getElem?_set_self hkl
 refine h.upd1 rfl (by simp[img,hk,hd]) (by simp[img,hself]) (fun ro hro=>?_) ⟨h.sd.ok,h.sd.ws,h.sd.fr,h.sd.hl,h.sd.rg,h.sd.bk,h.sd.ib,h.sd.f0,h.sd.o0,h.sd.l0,h.sd.ol,h.sd.dt,fun j v e hv he=>?_,h.sd.fs⟩
 ·cases ro with
  | wk j=>
   by_cases hj:k=j
   ·subst hj;simp only[img,hself,hk,Option.map_some,aWk,hd,aPtr]
   ·simp only[img,List.getElem?_set_ne hj]
  | dq j|rt j|pk j|wa j|np j=>
   by_cases hj:k=j
   ·subst hj;first|exact absurd rfl hro|(simp only[img,hself,hk,Option.bind_some])
   ·simp only[img,List.getElem?_set_ne hj]
  | _=>rfl
 ·by_cases hj:k=j
  ·subst hj
   rw[hself] at hv;cases hv
   exact h.sd.dq k w e hk he
  ·rw[List.getElem?_set_ne hj] at hv
   exact h.sd.dq j v e hv he
theorem MM.set_nap (h:MM q pl σ L s) {w:Wk} (hk:L[k]?=some w) {d0:Tw} (hd:w.nap=some d0) (d:Tw):MM q pl (σ.set (pl.p (.np k)) (Res.obj 0 (aTw q d []))) (L.set k { w with nap:=some d }) s:=by
 have hkl:=Qe hk
 have hself:(L.set k { w with nap:=some d })[k]?=some { w with nap:=some d }:=List.getElem?_set_self hkl
 refine h.upd1 rfl (by simp[img,hk,hd]) (by simp[img,hself]) (fun ro hro=>?_) ⟨h.sd.ok,h.sd.ws,h.sd.fr,h.sd.hl,h.sd.rg,h.sd.bk,h.sd.ib,h.sd.f0,h.sd.o0,h.sd.l0,h.sd.ol,h.sd.dt,fun j v e hv he=>?_,h.sd.fs⟩
 ·cases ro with
  | wk j=>
   by_cases hj:k=j
   ·subst hj;simp only[img,hself,hk,Option.map_some,aWk,hd,aPtr]
   ·simp only[img,List.getElem?_set_ne hj]
  | dq j|rt j|pk j|wa j|np j=>
   by_cases hj:k=j
   ·subst hj;first|exact absurd rfl hro|(simp only[img,hself,hk,Option.bind_some])
   ·simp only[img,List.getElem?_set_ne hj]
  | _=>rfl
 ·by_cases hj:k=j
  ·subst hj
   rw[hself] at hv;cases hv
   exact h.sd.dq k w e hk he
  ·rw[List.getElem?_set_ne hj] at hv
   exact h.sd.dq j v e hv he
theorem rt_len2 (q:Pm) (d:Rt) (ws:List Int):(rtStep q d ws).2.length=ws.length:=by
 unfold rtStep
 repeat' split
 all_goals first|rfl|exact Z50 _ _ _|exact Q62 _ _ _|(unfold rouse;first|rfl|exact Z50 _ _ _)
theorem pk_len2 (q:Pm) (d:Pk) (ws:List Int):(pkStep q d ws).2.length=ws.length:=by
 unfold pkStep
 repeat' split
 all_goals first|rfl|exact Z50 _ _ _|exact Q62 _ _ _|(unfold rouse;first|rfl|exact Z50 _ _ _)
theorem np_len2 (q:Pm) (d:Tw) (ws:List Int):(napStep q d ws).2.length=ws.length:=by
 unfold napStep
 repeat' split
 all_goals first|rfl|exact Z50 _ _ _|exact Q62 _ _ _|(unfold rouse;first|rfl|exact Z50 _ _ _)
theorem wa_len2 (q:Pm) (d:Tw) (ws:List Int):(wakeStep q d ws).2.length=ws.length:=by
 unfold wakeStep
 repeat' split
 all_goals first|rfl|exact Z50 _ _ _|exact Q62 _ _ _|(unfold rouse;first|rfl|exact Z50 _ _ _)
theorem wa_looks (q:Pm) (d:Tw) (ws:List Int):(wakeStep q d ws).1.looks=d.looks:=by
 unfold wakeStep
 repeat' split
 all_goals first|rfl|exact Z50 _ _ _|exact Q62 _ _ _|(unfold rouse;first|rfl|exact Z50 _ _ _)
theorem WM.step_dq (h:WM q L k jw jc pl0 σ0 pl σ x) {d:Dq} (hd:x.1.dq=some d):FnG Tryz.prog 92 [.ref (pl.p (.dq k)) 0 0,.ref (pl.p .sw) 0 0] σ fun a σ'=>a=aBool (dqNext q d x.2.ws).1.ended∧WM q L k jw jc pl0 σ0 pl σ' ({ x.1 with dq:=some (dqNext q d x.2.ws).1 },x.2.setW (dqNext q d x.2.ws).2)∧Ext pl pl σ σ':=by
 have hlive:(img q pl (L.set k x.1) x.2 (.dq k)).isSome=true:=by simp[img,h.hk,hd]
 have hc:=h.mm.at_ (.dq k) _ (by simp[img,h.hk,hd];rfl)
 have n1:=h.mm.ne hlive (b:=.sw) rfl (by simp)
 have n2:=h.mm.ne hlive (b:=.w) rfl (by simp)
 refine FnG.mono (dq_Step_a h.mm.sd.ok hc h.mm.words h.mm.sd.ws n1 n2 (h.mm.sd.dq k x.1 d h.hk hd)) ?_
 rintro a σ' ⟨rfl,rfl⟩
 obtain ⟨h1,X1⟩:=h.setW (ws:=(dqNext q d x.2.ws).2) (dq_len2 q d x.2.ws)
 have hm:=h1.mm.set_dq h.hk hd (dqNext q d x.2.ws).1 (dq_ok2 (h.mm.sd.dq k x.1 d h.hk hd) _)
 rw[List.set_set] at hm
 exact ⟨rfl,⟨hm,h.kl,h.ew,h.ec,h.ex.trans (X1.trans (Ext.set ..))⟩,X1.trans (Ext.set ..)⟩
theorem WM.step_right (h:WM q L k jw jc pl0 σ0 pl σ x) {d:Rt} (hd:x.1.right=some d):FnG Tryz.prog 170 [.ref (pl.p (.rt k)) 0 0,.ref (pl.p .sw) 0 0] σ fun a σ'=>a=aBool (decide ((rtStep q d x.2.ws).1.next=3))∧WM q L k jw jc pl0 σ0 pl σ' ({ x.1 with right:=some (rtStep q d x.2.ws).1 },x.2.setW (rtStep q d x.2.ws).2)∧Ext pl pl σ σ':=by
 have hlive:(img q pl (L.set k x.1) x.2 (.rt k)).isSome=true:=by simp[img,h.hk,hd]
 have hc:=h.mm.at_ (.rt k) _ (by simp[img,h.hk,hd];rfl)
 have n1:=h.mm.ne hlive (b:=.sw) rfl (by simp)
 have n2:=h.mm.ne hlive (b:=.w) rfl (by simp)
 refine FnG.mono (right_Step_a h.mm.sd.ok h.mm.words h.mm.sd.ws n1 n2 hc) ?_
 rintro a σ' ⟨rfl,rfl⟩
 obtain ⟨h1,X1⟩:=h.setW (ws:=(rtStep q d x.2.ws).2) (rt_len2 q d x.2.ws)
 have hm:=h1.mm.set_right h.hk hd (rtStep q d x.2.ws).1
 rw[List.set_set] at hm
 exact ⟨rfl,⟨hm,h.kl,h.ew,h.ec,h.ex.trans (X1.trans (Ext.set ..))⟩,X1.trans (Ext.set ..)⟩
theorem WM.step_park (h:WM q L k jw jc pl0 σ0 pl σ x) {d:Pk} (hd:x.1.park=some d):FnG Tryz.prog 177 [.ref (pl.p (.pk k)) 0 0,.ref (pl.p .sw) 0 0] σ fun a σ'=>a=aBool (decide ((pkStep q d x.2.ws).1.next=3))∧WM q L k jw jc pl0 σ0 pl σ' ({ x.1 with park:=some (pkStep q d x.2.ws).1 },x.2.setW (pkStep q d x.2.ws).2)∧Ext pl pl σ σ':=by
 have hlive:(img q pl (L.set k x.1) x.2 (.pk k)).isSome=true:=by simp[img,h.hk,hd]
 have hc:=h.mm.at_ (.pk k) _ (by simp[img,h.hk,hd];rfl)
 have n1:=h.mm.ne hlive (b:=.sw) rfl (by simp)
 have n2:=h.mm.ne hlive (b:=.w) rfl (by simp)
 refine FnG.mono (park_Step_a h.mm.sd.ok h.mm.words h.mm.sd.ws n1 n2 hc) ?_
 rintro a σ' ⟨rfl,rfl⟩
 obtain ⟨h1,X1⟩:=h.setW (ws:=(pkStep q d x.2.ws).2) (pk_len2 q d x.2.ws)
 have hm:=h1.mm.set_park h.hk hd (pkStep q d x.2.ws).1
 rw[List.set_set] at hm
 exact ⟨rfl,⟨hm,h.kl,h.ew,h.ec,h.ex.trans (X1.trans (Ext.set ..))⟩,X1.trans (Ext.set ..)⟩
theorem WM.step_nap (h:WM q L k jw jc pl0 σ0 pl σ x) {d:Tw} (hd:x.1.nap=some d):FnG Tryz.prog 252 [.ref (pl.p (.np k)) 0 0,.ref (pl.p .sw) 0 0] σ fun a σ'=>a=aBool (napStep q d x.2.ws).1.over∧WM q L k jw jc pl0 σ0 pl σ' ({ x.1 with nap:=some (napStep q d x.2.ws).1 },x.2.setW (napStep q d x.2.ws).2)∧Ext pl pl σ σ':=by
 have hlive:(img q pl (L.set k x.1) x.2 (.np k)).isSome=true:=by simp[img,h.hk,hd]
 have hc:=h.mm.at_ (.np k) _ (by simp[img,h.hk,hd];rfl)
 have n1:=h.mm.ne hlive (b:=.sw) rfl (by simp)
 have n2:=h.mm.ne hlive (b:=.w) rfl (by simp)
 refine FnG.mono (nap_Step_a h.mm.sd.ok h.mm.words h.mm.sd.ws n1 n2 hc) ?_
 rintro a σ' ⟨rfl,rfl⟩
 obtain ⟨h1,X1⟩:=h.setW (ws:=(napStep q d x.2.ws).2) (np_len2 q d x.2.ws)
 have hm:=h1.mm.set_nap h.hk hd (napStep q d x.2.ws).1
 rw[List.set_set] at hm
 exact ⟨rfl,⟨hm,h.kl,h.ew,h.ec,h.ex.trans (X1.trans (Ext.set ..))⟩,X1.trans (Ext.set ..)⟩
theorem WM.step_wake (h:WM q L k jw jc pl0 σ0 pl σ x) {d:Tw} (hd:x.1.wake=some d):FnG Tryz.prog 245 [.ref (pl.p (.wa k)) 0 0,.ref (pl.p .sw) 0 0] σ fun a σ'=>a=aBool (wakeStep q d x.2.ws).1.over∧WM q L k jw jc pl0 σ0 pl σ' ({ x.1 with wake:=some (wakeStep q d x.2.ws).1 },x.2.setW (wakeStep q d x.2.ws).2)∧Ext pl pl σ σ':=by
 have hlive:(img q pl (L.set k x.1) x.2 (.wa k)).isSome=true:=by simp[img,h.hk,hd]
 have hc:=h.mm.at_ (.wa k) _ (by simp[img,h.hk,hd];rfl)
 have n1:=h.mm.ne hlive (b:=.sw) rfl (by simp)
 have n2:=h.mm.ne hlive (b:=.w) rfl (by simp)
 refine FnG.mono (wake_Step_a h.mm.sd.ok h.mm.words h.mm.sd.ws n1 n2 hc) ?_
 rintro a σ' ⟨rfl,rfl⟩
 obtain ⟨h1,X1⟩:=h.setW (ws:=(wakeStep q d x.2.ws).2) (wa_len2 q d x.2.ws)
 have hm:=h1.mm.set_wake h.hk hd (wakeStep q d x.2.ws).1
 rw[wa_looks] at hm
 rw[List.set_set] at hm
 exact ⟨rfl,⟨hm,h.kl,h.ew,h.ec,h.ex.trans (X1.trans (Ext.set ..))⟩,X1.trans (Ext.set ..)⟩
theorem WM.dqc (h:WM q L k jw jc pl0 σ0 pl σ x) {d:Dq} (hd:x.1.dq=some d):σ[pl.p (.dq k)]?=some (.obj 0 (aDq q (pl.p (.dq k)) d)):=h.mm.at_ (.dq k) _ (by simp[img,h.hk,hd])
theorem WM.rtc (h:WM q L k jw jc pl0 σ0 pl σ x) {d:Rt} (hd:x.1.right=some d):σ[pl.p (.rt k)]?=some (.obj 0 (aRt q d)):=h.mm.at_ (.rt k) _ (by simp[img,h.hk,hd])
theorem WM.pkc (h:WM q L k jw jc pl0 σ0 pl σ x) {d:Pk} (hd:x.1.park=some d):σ[pl.p (.pk k)]?=some (.obj 0 (aPk q d)):=h.mm.at_ (.pk k) _ (by simp[img,h.hk,hd])
theorem WM.wac (h:WM q L k jw jc pl0 σ0 pl σ x) {d:Tw} (hd:x.1.wake=some d):σ[pl.p (.wa k)]?=some (.obj 0 (aTw q d [.v (.bool d.looks)])):=h.mm.at_ (.wa k) _ (by simp[img,h.hk,hd])
theorem WM.npc (h:WM q L k jw jc pl0 σ0 pl σ x) {d:Tw} (hd:x.1.nap=some d):σ[pl.p (.np k)]?=some (.obj 0 (aTw q d [])):=h.mm.at_ (.np k) _ (by simp[img,h.hk,hd])
theorem QC {α:Type} {o:Option α} {a:α} {j:Nat} (h:o=some a):aPtr o j=.ref j 0 0:=by rw[h];rfl
end
end Go.Proofs.YtelibaobkcokdaaGreat.Mx
