/- The machine: a worker and what is shared, as a whole; what a worker does at once. -/
import Derived.Test.YtelibaobkcokdaaGreatQU2Mm
namespace Go.Proofs.YtelibaobkcokdaaGreat.Mx
set_option linter.unusedSectionVars false
set_option linter.unusedVariables false
set_option linter.unusedSimpArgs false
open Go Go.Kx Go.Proofs Go.Proofs.YtelibaobkcokdaaGreat
set_option maxRecDepth 8000
structure WM (q:Pm) (L:List Wk) (k jw jc:Nat) (pl0:Pl) (σ0:Kx.St) (pl:Pl) (σ:Kx.St) (x:WC):Prop where
 mm:MM q pl σ (L.set k x.1) x.2
 kl:k < L.length
 ew:pl.p (.wk k)=jw
 ec:pl.p .c=jc
 ex:Ext pl0 pl σ0 σ
section
variable {q:Pm} {L:List Wk} {k jw jc:Nat} {pl0 pl:Pl} {σ0 σ:Kx.St} {x:WC}
theorem WM.re (h:WM q L k jw jc pl0 σ0 pl σ x):WM q L k jw jc pl σ pl σ x:=⟨h.mm,h.kl,h.ew,h.ec,.refl _ _⟩
theorem WM.hk (h:WM q L k jw jc pl0 σ0 pl σ x):(L.set k x.1)[k]?=some x.1:=List.getElem?_set_self h.kl
theorem WM.wk (h:WM q L k jw jc pl0 σ0 pl σ x):σ[jw]?=some (.obj 0 (aWk pl k x.1)):=by rw[←h.ew];exact h.mm.wk h.hk
theorem WM.c (h:WM q L k jw jc pl0 σ0 pl σ x):σ[jc]?=some (.obj 0 (aCore q pl x.2)):=by rw[←h.ec];exact h.mm.c
theorem WM.tr (h:WM q L k jw jc pl0 σ0 pl σ x) {pl':Pl} {σ':Kx.St} {y:WC} (h':WM q L k jw jc pl σ pl' σ' y):WM q L k jw jc pl0 σ0 pl' σ' y:=⟨h'.mm,h'.kl,h'.ew,h'.ec,h.ex.trans h'.ex⟩
theorem Q5 (h:WM q L k jw jc pl0 σ0 pl σ x) {P:Program} {f:FuncId} {vs:List AV} {K:AV→Kx.St→Prop} {y:WC} (H:FnG P f vs σ fun _ σ'=>∃pl',WM q L k jw jc pl σ pl' σ' y)
  (hk:∀a pl' σ',WM q L k jw jc pl0 σ0 pl' σ' y→Ext pl pl' σ σ'→act (K a σ')):act (EF.awp P (.call f) vs σ K):=
 Q0 H fun a σ' ⟨pl',h'⟩=>hk a pl' σ' (h.tr h') h'.ex
theorem WM.st (h:WM q L k jw jc pl0 σ0 pl σ x) {w':Wk} (e:w'.dq=x.1.dq∧w'.right=x.1.right∧w'.park=x.1.park∧w'.wake=x.1.wake∧w'.nap=x.1.nap):
  WM q L k jw jc pl0 σ0 pl (σ.set jw (.obj 0 (aWk pl k w'))) (w',x.2)∧Ext pl pl σ (σ.set jw (.obj 0 (aWk pl k w'))):=by
 have hm:=h.mm.setWk h.hk e
 rw[List.set_set,h.ew] at hm
 have hx:Ext pl pl σ (σ.set jw (.obj 0 (aWk pl k w'))):=by rw[←h.ew];exact Ext.set ..
 exact ⟨⟨hm,h.kl,h.ew,h.ec,h.ex.trans hx⟩,hx⟩
theorem Qd (h:WM q L k jw jc pl0 σ0 pl σ x) {P:Program} {K:AV→Kx.St→Prop} {j:Nat} {a:AV} {w':Wk} (ha:a.cells=[a]) (h1:a.one=true) (hj:j < 20) (hs:(aWk pl k x.1).set j a=aWk pl k w')
  (e:w'.dq=x.1.dq∧w'.right=x.1.right∧w'.park=x.1.park∧w'.wake=x.1.wake∧w'.nap=x.1.nap) (hk:∀σ',WM q L k jw jc pl0 σ0 pl σ' (w',x.2)→Ext pl pl σ σ'→act (K (.v undef) σ')):
  act (EF.awp P (.st 1) [.ref jw 0 j,a] σ K):=by
 refine Q6 ha h1 h.wk (by rw[X78];exact hj) ?_
 rw[hs]
 obtain ⟨h2,hx⟩:=h.st e
 exact hk _ h2 hx
theorem WM.core (h:WM q L k jw jc pl0 σ0 pl σ x) {s':Cs} (e:s'={ x.2 with steps:=s'.steps,probes:=s'.probes,steals:=s'.steals,parks:=s'.parks,naps:=s'.naps,folds:=s'.folds,serial:=s'.serial,status:=s'.status,why:=s'.why }):
  WM q L k jw jc pl0 σ0 pl (σ.set jc (.obj 0 (aCore q pl s'))) (x.1,s')∧Ext pl pl σ (σ.set jc (.obj 0 (aCore q pl s'))):=by
 have hm:=h.mm.core e
 rw[h.ec] at hm
 have hx:Ext pl pl σ (σ.set jc (.obj 0 (aCore q pl s'))):=by rw[←h.ec];exact Ext.set ..
 exact ⟨⟨hm,h.kl,h.ew,h.ec,h.ex.trans hx⟩,hx⟩
theorem Y38 (h:WM q L k jw jc pl0 σ0 pl σ x) {P:Program} {K:AV→Kx.St→Prop} {j:Nat} {a:AV} {s':Cs} (ha:a.cells=[a]) (h1:a.one=true) (hj:j < 23) (hs:(aCore q pl x.2).set j a=aCore q pl s')
  (e:s'={ x.2 with steps:=s'.steps,probes:=s'.probes,steals:=s'.steals,parks:=s'.parks,naps:=s'.naps,folds:=s'.folds,serial:=s'.serial,status:=s'.status,why:=s'.why }) (hk:∀σ',WM q L k jw jc pl0 σ0 pl σ' (x.1,s')→Ext pl pl σ σ'→act (K (.v undef) σ')):
  act (EF.awp P (.st 1) [.ref jc 0 j,a] σ K):=by
 refine Q6 ha h1 h.c (by rw[J60];exact hj) ?_
 rw[hs]
 obtain ⟨h2,hx⟩:=h.core e
 exact hk _ h2 hx
theorem WM.setW (h:WM q L k jw jc pl0 σ0 pl σ x) {ws:List Int} (hl:ws.length=x.2.ws.length):WM q L k jw jc pl0 σ0 pl (σ.set (pl.p .w) (.obj 0 (ws.map aInt))) (x.1,x.2.setW ws)∧Ext pl pl σ (σ.set (pl.p .w) (.obj 0 (ws.map aInt))):=
 ⟨⟨h.mm.setW hl,h.kl,h.ew,h.ec,h.ex.trans (Ext.set ..)⟩,Ext.set ..⟩
theorem WM.app (h:WM q L k jw jc pl0 σ0 pl σ x) (τ:Kx.St):WM q L k jw jc pl0 σ0 pl (σ++τ) x:=⟨h.mm.app τ,h.kl,h.ew,h.ec,h.ex.trans (Ext.app ..)⟩
theorem WM.out (h:WM q L k jw jc pl0 σ0 pl σ x) {σ':Kx.St} {s':Cs} (o:Out q pl σ σ' (L.set k x.1) s'):∃pl',WM q L k jw jc pl0 σ0 pl' σ' (x.1,s')∧Ext pl pl' σ σ':=by
 obtain ⟨pl',hm,hx⟩:=o
 exact ⟨pl',⟨hm,h.kl,(hx.fix _ rfl).trans h.ew,(hx.fix _ rfl).trans h.ec,h.ex.trans hx⟩,hx⟩
theorem WM.Plan_a (h:WM q L k jw jc pl0 σ0 pl σ x):FnG Tryz.prog 66 [.ref jc 0 0] σ fun a σ'=>a=.agg (aPl q)∧σ'=σ:=by
 rw[←h.ec];exact core_Plan_a h.mm
theorem WM.Params_a (h:WM q L k jw jc pl0 σ0 pl σ x):FnG Tryz.prog 90 [.ref jc 0 0] σ fun a σ'=>a=.agg (aPr q)∧σ'=σ:=by
 rw[←h.ec];exact Y02 h.mm
theorem WM.Words_a (h:WM q L k jw jc pl0 σ0 pl σ x):FnG Tryz.prog 67 [.ref jc 0 0] σ fun a σ'=>a=.ref (pl.p .sw) 0 0∧σ'=σ:=by
 rw[←h.ec];exact core_Words_a h.mm
theorem WM.Frames_a (h:WM q L k jw jc pl0 σ0 pl σ x):FnG Tryz.prog 56 [.ref jc 0 0] σ fun a σ'=>a=.ref (pl.p .t) 0 0∧σ'=σ:=by
 rw[←h.ec];exact ZD h.mm
theorem WM.Out_a (h:WM q L k jw jc pl0 σ0 pl σ x):FnG Tryz.prog 47 [.ref jc 0 0] σ fun a σ'=>a=.ref (pl.p .so) 0 0∧σ'=σ:=by
 rw[←h.ec];exact Y37 h.mm
theorem WM.Log_a (h:WM q L k jw jc pl0 σ0 pl σ x):FnG Tryz.prog 58 [.ref jc 0 0] σ fun a σ'=>a=.ref (pl.p .lo) 0 0∧σ'=σ:=by
 rw[←h.ec];exact J61 h.mm
theorem WM.Stats_a (h:WM q L k jw jc pl0 σ0 pl σ x):FnG Tryz.prog 50 [.ref jc 0 0] σ fun a σ'=>a=.ref jc 0 13∧σ'=σ:=by
 rw[←h.ec];exact QR h.mm
theorem WM.Status_a (h:WM q L k jw jc pl0 σ0 pl σ x):FnG Tryz.prog 46 [.ref jc 0 0] σ fun a σ'=>a=.tup [aInt x.2.status,aInt x.2.why]∧σ'=σ:=by
 rw[←h.ec];exact Z98 h.mm
theorem WM.Stop_a (h:WM q L k jw jc pl0 σ0 pl σ x) (st why:Int):FnG Tryz.prog 146 [.ref jc 0 0,.v (.int .i64 st),.v (.int .i64 why)] σ fun _ σ'=>∃pl',WM q L k jw jc pl0 σ0 pl' σ' (x.1,x.2.stop st why):=by
 rw[←h.ec]
 exact FnG.mono (core_Stop_a h.mm st why) fun _ σ' ⟨hm,hx⟩=>⟨pl,hm,h.kl,h.ew,rfl,h.ex.trans hx⟩
theorem WM.Serial_a (h:WM q L k jw jc pl0 σ0 pl σ x):FnG Tryz.prog 276 [.ref jc 0 0] σ fun a σ'=>a=aInt (w64 (x.2.serial+1))∧WM q L k jw jc pl0 σ0 pl σ' (x.1,{ x.2 with serial:=w64 (x.2.serial+1) })∧Ext pl pl σ σ':=by
 rw[←h.ec]
 exact FnG.mono (G6 h.mm) fun _ σ' ⟨e,hm,hx⟩=>⟨e,⟨hm,h.kl,h.ew,rfl,h.ex.trans hx⟩,hx⟩
theorem WM.Code_a (h:WM q L k jw jc pl0 σ0 pl σ x) (fn pc:Int):FnG Tryz.prog 151 [.ref jc 0 0,.v (.int .i64 fn),.v (.int .i64 pc)] σ fun a σ'=>a=.agg (aIx (q.code fn pc))∧σ'=σ:=by
 rw[←h.ec];exact core_Code_a h.mm fn pc
theorem WM.Ask_a (h:WM q L k jw jc pl0 σ0 pl σ x) (e:Ef) (hk:1≤e.k∧e.k≤4):FnG Tryz.prog 156 [.ref jc 0 0,.agg (aEf e)] σ fun a σ'=>a=.tup [aInt (askD x.2.data e).1,aBool (askD x.2.data e).2.1]∧WM q L k jw jc pl0 σ0 pl σ' (x.1,{ x.2 with data:=(askD x.2.data e).2.2 })∧Ext pl pl σ σ':=by
 rw[←h.ec]
 exact FnG.mono (core_Ask_a h.mm e hk) fun _ σ' ⟨e,hm,hx⟩=>⟨e,⟨hm,h.kl,h.ew,rfl,h.ex.trans hx⟩,hx⟩
theorem WM.at_a (h:WM q L k jw jc pl0 σ0 pl σ x) (id:Int):FnG Tryz.prog 149 [.ref jc 0 0,.v (.int .i64 id)] σ fun a σ'=>(∃i off,a=.ref i 0 off∧FP σ0.length pl σ' x.2 id (x.2.at id) i off)∧WM q L k jw jc pl0 σ0 pl σ' x∧Ext pl pl σ σ':=by
 rw[←h.ec]
 refine FnG.mono (J06 h.mm (.refl pl σ) id) ?_
 rintro a σ' ⟨⟨i,off,rfl,hf⟩,hm,hx⟩
 exact ⟨⟨i,off,rfl,hf.cs,hf.wh.imp (fun w=>w) fun ⟨a1,a2,a3⟩=>⟨a1,a2,Nat.le_trans h.ex.len a3⟩⟩,⟨hm,h.kl,h.ew,rfl,h.ex.trans hx⟩,hx⟩
theorem WM.frame_a (h:WM q L k jw jc pl0 σ0 pl σ x):FnG Tryz.prog 147 [.ref jw 0 0,.ref jc 0 0] σ fun a σ'=>(∃i off,a=.ref i 0 off∧FP σ0.length pl σ' x.2 x.1.holds (x.2.at x.1.holds) i off)∧WM q L k jw jc pl0 σ0 pl σ' x∧Ext pl pl σ σ':=by
 rw[←h.ec,←h.ew]
 refine FnG.mono (J29 h.mm (.refl pl σ) h.hk) ?_
 rintro a σ' ⟨⟨i,off,rfl,hf⟩,hm,hx⟩
 exact ⟨⟨i,off,rfl,hf.cs,hf.wh.imp (fun w=>w) fun ⟨a1,a2,a3⟩=>⟨a1,a2,Nat.le_trans h.ex.len a3⟩⟩,⟨hm,h.kl,rfl,rfl,h.ex.trans hx⟩,hx⟩
theorem FP.ext {n:Nat} {s s':Cs} {id:Int} {f:Fm} {i off:Nat} (hf:FP n pl σ s id f i off) {pl':Pl} {σ':Kx.St} {L':List Wk} (X:Ext pl pl' σ σ') (M:MM q pl' σ' L' s') (hfr:s'.fr=s.fr) (hh:s'.held=s.held):FP n pl' σ' s' id f i off:=by
 have e:s'.isHeld id=s.isHeld id:=by unfold Cs.isHeld;rw[hh]
 rcases hf.wh with ⟨w1,w2,w3,w4⟩|⟨w1,w2,w3⟩
 ·have M4:s'.fr[id.toNat]?=some f:=by rw[hfr];exact w4
  refine ⟨⟨_,_,by rw[w2,←X.fix _ rfl];exact M.fl,by rw[w3];exact QH Q03 M4,?_⟩,.inl ⟨e.trans w1,by rw[w2,X.fix _ rfl],w3,M4⟩⟩
  rw[fr_len]
  have:=Qe M4
  omega
 ·obtain ⟨cs,t,h1,h2,h3⟩:=hf.cs
  refine ⟨⟨cs,t,by rw[X.keep i (Qe h1) w2];exact h1,h2,h3⟩,.inr ⟨e.trans w1,fun ro=>?_,w3⟩⟩
  rcases X.new ro with e2|e2
  ·rw[e2];exact w2 ro
  ·have:=Qe h1;omega
theorem WM.turn (h:WM q L k jw jc pl0 σ0 pl σ x) {id:Int} {f f':Fm} {i off:Nat} (hf:FP σ0.length pl σ x.2 id f i off) (hr:f'.regs.length=8) {cs cs':List AV} (hcs:σ[i]?=some (.obj 0 cs)) (hl:cs'.length=cs.length)
  (hc:∀A B,A.length=off→cs=A++aFm f++B→cs'=A++aFm f'++B):WM q L k jw jc pl0 σ0 pl (σ.set i (.obj 0 cs')) (x.1,x.2.setFr id f')∧FP σ0.length pl (σ.set i (.obj 0 cs')) (x.2.setFr id f') id f' i off:=by
 obtain ⟨h1,h2,h3⟩:=FP.turn h.mm h.ex hf hr hcs hl hc
 exact ⟨⟨h1,h.kl,h.ew,h.ec,h3⟩,h2⟩
theorem Q35 (h:WM q L k jw jc pl0 σ0 pl σ x) {P:Program} {K:AV→Kx.St→Prop} {id:Int} {f f':Fm} {i off j:Nat} {a:AV} (hf:FP σ0.length pl σ x.2 id f i off) (hr:f'.regs.length=8) (ha:a.cells=[a]) (h1:a.one=true) (hj:j < 19) (hs:(aFm f).set j a=aFm f')
  (hk:∀σ',WM q L k jw jc pl0 σ0 pl σ' (x.1,x.2.setFr id f')→FP σ0.length pl σ' (x.2.setFr id f') id f' i off→act (K (.v undef) σ')):act (EF.awp P (.st 1) [.ref i 0 (off+j),a] σ K):=by
 obtain ⟨cs,hcs,_,_,_,hlen⟩:=hf.get
 refine Q6 ha h1 hcs (by omega) ?_
 obtain ⟨g1,g2⟩:=h.turn hf hr hcs (List.length_set) (fm_set1 hj hs)
 exact hk _ g1 g2
theorem X28 (h:WM q L k jw jc pl0 σ0 pl σ x) {P:Program} {K:AV→Kx.St→Prop} {id:Int} {f:Fm} {i off:Nat} {rs:List Int} (hf:FP σ0.length pl σ x.2 id f i off) (hr:rs.length=8)
  (hk:∀σ',WM q L k jw jc pl0 σ0 pl σ' (x.1,x.2.setFr id { f with regs:=rs })→FP σ0.length pl σ' (x.2.setFr id { f with regs:=rs }) id { f with regs:=rs } i off→act (K (.v undef) σ')):act (EF.awp P (.st 8) [.ref i 0 (off+3),.agg (aRg rs)] σ K):=by
 obtain ⟨cs,hcs,_,_,_,hlen⟩:=hf.get
 refine Q8 (Q18 rs) rfl hcs (by omega) ?_
 obtain ⟨g1,g2⟩:=h.turn hf (f':={ f with regs:=rs }) hr hcs (Z85 ..) (fm_setR rs)
 exact hk _ g1 g2
end
end Go.Proofs.YtelibaobkcokdaaGreat.Mx
