/- Serial: the machine's small steps: an instruction. -/
import Derived.Test.YtncdnegdlkmicaaGreatQSez
namespace Go.Proofs.YtncdnegdlkmicaaGreat
set_option linter.unusedVariables false
set_option linter.unusedSimpArgs false
open Go Go.Kx Go.Proofs
def Zt:Fun:=⟨115,[0,2,5,56,6,74,80,3,4,89,101,108],[],
 .seq (.reg (straight [⟨some 7,none,.pur .mov [.tmp 0]⟩,⟨some 8,none,.eff (.call 58) [.tmp 7]⟩,⟨some 2,none,.pur .mov [.tmp 8]⟩]) [2])
 (.seq (.reg (straight [⟨some 9,none,.pur .mov [.tmp 0]⟩,⟨some 10,none,.pur .nilc [.tmp 9]⟩,⟨some 11,none,.pur (.fla 6) [.tmp 10]⟩,⟨some 12,none,.pur (.fla 4) [.tmp 11]⟩,⟨some 13,none,.ld none (.tmp 12)⟩,⟨some 14,none,.pur (.bin .add) [.tmp 13,.const (.int .i64 1)]⟩,⟨some 15,none,.pur .nilc [.tmp 9]⟩,⟨some 16,none,.pur (.fla 6) [.tmp 15]⟩,⟨some 17,none,.pur (.fla 4) [.tmp 16]⟩,⟨none,none,.eff (.st 1) [.tmp 17,.tmp 14]⟩]) [])
 (.seq (.reg (.run ⟨some 19,none,.pur .mov [.tmp 0]⟩ (.run ⟨some 20,none,.pur .nilc [.tmp 19]⟩ (.run ⟨some 21,none,.pur (.fla 0) [.tmp 20]⟩ (.run ⟨some 22,none,.pur (.fla 1) [.tmp 21]⟩ (.run ⟨some 23,none,.ld none (.tmp 22)⟩ (.run ⟨some 24,none,.pur .mov [.tmp 2]⟩ (.run ⟨some 25,none,.pur .nilc [.tmp 24]⟩ (.run ⟨some 26,none,.pur (.fla 1) [.tmp 25]⟩ (.run ⟨some 27,none,.ld none (.tmp 26)⟩ (.run ⟨some 28,none,.pur (.ixa 1) [.tmp 23,.tmp 27]⟩ (.run ⟨some 29,none,.ld none (.tmp 28)⟩ (.run ⟨some 30,none,.pur .mov [.tmp 2]⟩ (.run ⟨some 31,none,.pur .nilc [.tmp 30]⟩ (.run ⟨some 32,none,.pur (.fla 2) [.tmp 31]⟩ (.run ⟨some 33,none,.ld none (.tmp 32)⟩ (.run ⟨some 34,none,.pur (.ixa 4) [.tmp 29,.tmp 33]⟩ (.run ⟨some 35,none,.ld (some 4) (.tmp 34)⟩ (.run ⟨some 36,none,.pur .mov [.tmp 2]⟩ (.run ⟨some 37,none,.pur .nilc [.tmp 36]⟩ (.run ⟨some 38,none,.pur (.fla 2) [.tmp 37]⟩ (.run ⟨some 39,none,.ld none (.tmp 38)⟩ (.run ⟨some 40,none,.pur .mov [.tmp 2]⟩ (.run ⟨some 41,none,.pur .nilc [.tmp 40]⟩ (.run ⟨some 42,none,.pur (.fla 3) [.tmp 41]⟩ (.run ⟨some 43,none,.ld (some 8) (.tmp 42)⟩ (.both (.eff ⟨some 44,none,.eff (.call 59) [.tmp 35,.tmp 39,.tmp 43]⟩ [] (.run ⟨some 18,none,.pur .mov [.tmp 44]⟩ (.run ⟨some 45,none,.pur (.ext 0) [.tmp 18]⟩ (.run ⟨some 46,none,.pur (.ext 1) [.tmp 18]⟩ (.run ⟨some 47,none,.pur (.ext 2) [.tmp 18]⟩ (.run ⟨some 48,none,.pur (.ext 3) [.tmp 18]⟩ (.both (.eff ⟨some 4,none,.eff (.new 90 [.int .i64 0,.int .i64 0,.int .i64 0,.int .i64 0,.int .i64 0,.int .i64 0,.int .i64 0,.int .i64 0]) []⟩ [] (.eff ⟨some 5,none,.eff (.new 152 [.int .i64 0,.int .i64 0,.int .i64 0,.int .i64 0,.int .i64 0]) []⟩ [] (.run ⟨some 3,none,.pur .mov [.tmp 45]⟩ (.eff ⟨none,none,.eff (.st 8) [.tmp 4,.tmp 46]⟩ [] (.eff ⟨none,none,.eff (.st 5) [.tmp 5,.tmp 47]⟩ [] (.run ⟨some 6,none,.pur .mov [.tmp 48]⟩ .done)))))) (.eff ⟨some 5,none,.eff (.new 152 [.int .i64 0,.int .i64 0,.int .i64 0,.int .i64 0,.int .i64 0]) []⟩ [] (.eff ⟨some 4,none,.eff (.new 90 [.int .i64 0,.int .i64 0,.int .i64 0,.int .i64 0,.int .i64 0,.int .i64 0,.int .i64 0,.int .i64 0]) []⟩ [] (.run ⟨some 3,none,.pur .mov [.tmp 45]⟩ (.eff ⟨none,none,.eff (.st 8) [.tmp 4,.tmp 46]⟩ [] (.eff ⟨none,none,.eff (.st 5) [.tmp 5,.tmp 47]⟩ [] (.run ⟨some 6,none,.pur .mov [.tmp 48]⟩ .done))))))))))))) (.both (.eff ⟨some 4,none,.eff (.new 90 [.int .i64 0,.int .i64 0,.int .i64 0,.int .i64 0,.int .i64 0,.int .i64 0,.int .i64 0,.int .i64 0]) []⟩ [] (.both (.eff ⟨some 44,none,.eff (.call 59) [.tmp 35,.tmp 39,.tmp 43]⟩ [] (.run ⟨some 18,none,.pur .mov [.tmp 44]⟩ (.run ⟨some 45,none,.pur (.ext 0) [.tmp 18]⟩ (.run ⟨some 46,none,.pur (.ext 1) [.tmp 18]⟩ (.run ⟨some 47,none,.pur (.ext 2) [.tmp 18]⟩ (.run ⟨some 48,none,.pur (.ext 3) [.tmp 18]⟩ (.eff ⟨some 5,none,.eff (.new 152 [.int .i64 0,.int .i64 0,.int .i64 0,.int .i64 0,.int .i64 0]) []⟩ [] (.run ⟨some 3,none,.pur .mov [.tmp 45]⟩ (.eff ⟨none,none,.eff (.st 8) [.tmp 4,.tmp 46]⟩ [] (.eff ⟨none,none,.eff (.st 5) [.tmp 5,.tmp 47]⟩ [] (.run ⟨some 6,none,.pur .mov [.tmp 48]⟩ .done))))))))))) (.eff ⟨some 5,none,.eff (.new 152 [.int .i64 0,.int .i64 0,.int .i64 0,.int .i64 0,.int .i64 0]) []⟩ [] (.eff ⟨some 44,none,.eff (.call 59) [.tmp 35,.tmp 39,.tmp 43]⟩ [] (.run ⟨some 18,none,.pur .mov [.tmp 44]⟩ (.run ⟨some 45,none,.pur (.ext 0) [.tmp 18]⟩ (.run ⟨some 46,none,.pur (.ext 1) [.tmp 18]⟩ (.run ⟨some 47,none,.pur (.ext 2) [.tmp 18]⟩ (.run ⟨some 48,none,.pur (.ext 3) [.tmp 18]⟩ (.run ⟨some 3,none,.pur .mov [.tmp 45]⟩ (.eff ⟨none,none,.eff (.st 8) [.tmp 4,.tmp 46]⟩ [] (.eff ⟨none,none,.eff (.st 5) [.tmp 5,.tmp 47]⟩ [] (.run ⟨some 6,none,.pur .mov [.tmp 48]⟩ .done))))))))))))) (.eff ⟨some 5,none,.eff (.new 152 [.int .i64 0,.int .i64 0,.int .i64 0,.int .i64 0,.int .i64 0]) []⟩ [] (.both (.eff ⟨some 44,none,.eff (.call 59) [.tmp 35,.tmp 39,.tmp 43]⟩ [] (.run ⟨some 18,none,.pur .mov [.tmp 44]⟩ (.run ⟨some 45,none,.pur (.ext 0) [.tmp 18]⟩ (.run ⟨some 46,none,.pur (.ext 1) [.tmp 18]⟩ (.run ⟨some 47,none,.pur (.ext 2) [.tmp 18]⟩ (.run ⟨some 48,none,.pur (.ext 3) [.tmp 18]⟩ (.eff ⟨some 4,none,.eff (.new 90 [.int .i64 0,.int .i64 0,.int .i64 0,.int .i64 0,.int .i64 0,.int .i64 0,.int .i64 0,.int .i64 0]) []⟩ [] (.run ⟨some 3,none,.pur .mov [.tmp 45]⟩ (.eff ⟨none,none,.eff (.st 8) [.tmp 4,.tmp 46]⟩ [] (.eff ⟨none,none,.eff (.st 5) [.tmp 5,.tmp 47]⟩ [] (.run ⟨some 6,none,.pur .mov [.tmp 48]⟩ .done))))))))))) (.eff ⟨some 4,none,.eff (.new 90 [.int .i64 0,.int .i64 0,.int .i64 0,.int .i64 0,.int .i64 0,.int .i64 0,.int .i64 0,.int .i64 0]) []⟩ [] (.eff ⟨some 44,none,.eff (.call 59) [.tmp 35,.tmp 39,.tmp 43]⟩ [] (.run ⟨some 18,none,.pur .mov [.tmp 44]⟩ (.run ⟨some 45,none,.pur (.ext 0) [.tmp 18]⟩ (.run ⟨some 46,none,.pur (.ext 1) [.tmp 18]⟩ (.run ⟨some 47,none,.pur (.ext 2) [.tmp 18]⟩ (.run ⟨some 48,none,.pur (.ext 3) [.tmp 18]⟩ (.run ⟨some 3,none,.pur .mov [.tmp 45]⟩ (.eff ⟨none,none,.eff (.st 8) [.tmp 4,.tmp 46]⟩ [] (.eff ⟨none,none,.eff (.st 5) [.tmp 5,.tmp 47]⟩ [] (.run ⟨some 6,none,.pur .mov [.tmp 48]⟩ .done)))))))))))))))))))))))))))))))))))))))) [4,5,3,6])
 (.seq (.seq (.reg (straight [⟨some 49,none,.ld (some 5) (.tmp 5)⟩,⟨some 50,none,.eff (.call 60) [.tmp 49]⟩,⟨some 51,none,.pur .mov [.tmp 50]⟩,⟨some 52,some (51,true),.pur .mov [.tmp 2]⟩,⟨some 53,some (51,true),.pur .nilc [.tmp 52]⟩,⟨some 54,some (51,true),.pur (.fla 11) [.tmp 53]⟩,⟨some 55,some (51,true),.ld none (.tmp 54)⟩,⟨some 56,none,.pur .pick [.tmp 51,.tmp 55,.const (.bool false)]⟩]) [56])
 (.cond (.tmp 56) (.seq (.reg (straight [⟨some 57,none,.pur .mov [.tmp 2]⟩,⟨some 58,none,.pur .nilc [.tmp 57]⟩,⟨some 59,none,.pur (.fla 11) [.tmp 58]⟩,⟨none,none,.eff (.st 1) [.tmp 59,.const (.bool false)]⟩]) [])
 (.reg (straight [⟨some 60,none,.pur .mov [.tmp 0]⟩,⟨some 61,none,.eff (.call 61) [.tmp 60,.const (.int .i64 6),.const (.int .i64 0)]⟩]) [])) (.skip)))
 (.block 0 (.seq (.reg (straight [⟨some 75,none,.pur .mov [.tmp 6]⟩,⟨some 76,none,.pur (.bin .neq) [.tmp 75,.const (.int .i64 0)]⟩,⟨some 74,none,.pur .mov [.tmp 76]⟩]) [74])
 (.cond (.tmp 74) (.reg (straight [⟨some 77,none,.pur .mov [.tmp 0]⟩,⟨some 78,none,.pur .mov [.tmp 6]⟩,⟨some 79,none,.eff (.call 38) [.tmp 77,.const (.int .i64 4),.tmp 78]⟩]) []) (.seq (.reg (straight [⟨some 81,none,.ld (some 5) (.tmp 5)⟩,⟨some 82,none,.eff (.call 62) [.tmp 81]⟩,⟨some 80,none,.pur .mov [.tmp 82]⟩]) [80])
 (.cond (.tmp 80) (.reg (straight [⟨some 83,none,.pur .mov [.tmp 0]⟩,⟨some 84,none,.pur .mov [.tmp 2]⟩,⟨some 85,none,.pur .mov [.tmp 3]⟩,⟨some 86,none,.ld (some 8) (.tmp 4)⟩,⟨some 87,none,.ld (some 5) (.tmp 5)⟩,⟨some 88,none,.eff (.call 63) [.tmp 83,.tmp 84,.tmp 85,.tmp 86,.tmp 87]⟩]) []) (.seq (.seq (.reg (straight [⟨some 90,none,.pur (.fla 0) [.tmp 5]⟩,⟨some 91,none,.ld none (.tmp 90)⟩,⟨some 92,none,.pur (.bin .eql) [.tmp 91,.const (.int .i64 9)]⟩,⟨some 89,none,.pur .mov [.tmp 92]⟩]) [89])
 (.cond (.tmp 89) (.skip) (.reg (straight [⟨some 93,none,.pur (.fla 0) [.tmp 5]⟩,⟨some 94,none,.ld none (.tmp 93)⟩,⟨some 95,none,.pur (.bin .eql) [.tmp 94,.const (.int .i64 10)]⟩,⟨some 89,none,.pur .mov [.tmp 95]⟩]) [89])))
 (.cond (.tmp 89) (.reg (straight [⟨some 96,none,.pur .mov [.tmp 0]⟩,⟨some 97,none,.pur .mov [.tmp 2]⟩,⟨some 98,none,.pur .mov [.tmp 3]⟩,⟨some 99,none,.ld (some 5) (.tmp 5)⟩,⟨some 100,none,.eff (.call 64) [.tmp 96,.tmp 97,.tmp 98,.tmp 99]⟩]) []) (.seq (.reg (straight [⟨some 102,none,.pur (.fla 0) [.tmp 5]⟩,⟨some 103,none,.ld none (.tmp 102)⟩,⟨some 104,none,.pur (.bin .eql) [.tmp 103,.const (.int .i64 11)]⟩,⟨some 101,none,.pur .mov [.tmp 104]⟩]) [101])
 (.cond (.tmp 101) (.reg (straight [⟨some 105,none,.pur .mov [.tmp 0]⟩,⟨some 106,none,.pur .mov [.tmp 2]⟩,⟨some 107,none,.eff (.call 65) [.tmp 105,.tmp 106]⟩]) []) (.seq (.reg (straight [⟨some 109,none,.pur (.fla 0) [.tmp 5]⟩,⟨some 110,none,.ld none (.tmp 109)⟩,⟨some 111,none,.pur (.bin .eql) [.tmp 110,.const (.int .i64 12)]⟩,⟨some 108,none,.pur .mov [.tmp 111]⟩]) [108])
 (.cond (.tmp 108) (.reg (straight [⟨some 112,none,.pur .mov [.tmp 0]⟩,⟨some 113,none,.pur .mov [.tmp 2]⟩,⟨some 114,none,.eff (.call 66) [.tmp 112,.tmp 113]⟩]) []) (.seq (.reg (.run ⟨some 62,none,.pur .mov [.tmp 2]⟩ (.run ⟨some 63,none,.pur .mov [.tmp 2]⟩ (.run ⟨some 64,none,.pur .mov [.tmp 3]⟩ (.run ⟨some 65,none,.ld (some 8) (.tmp 4)⟩ (.run ⟨some 66,none,.pur .nilc [.tmp 62]⟩ (.run ⟨some 67,none,.pur (.fla 2) [.tmp 66]⟩ (.eff ⟨none,none,.eff (.st 1) [.tmp 67,.tmp 64]⟩ [⟨some 65,none,.ld (some 8) (.tmp 4)⟩] (.run ⟨some 68,none,.pur .nilc [.tmp 63]⟩ (.run ⟨some 69,none,.pur (.fla 3) [.tmp 68]⟩ (.eff ⟨none,none,.eff (.st 8) [.tmp 69,.tmp 65]⟩ [] .done)))))))))) [])
 (.reg (straight [⟨some 70,none,.pur .mov [.tmp 0]⟩,⟨some 71,none,.pur .mov [.tmp 2]⟩,⟨some 72,none,.ld (some 5) (.tmp 5)⟩,⟨some 73,none,.eff (.call 67) [.tmp 70,.tmp 71,.tmp 72]⟩]) []))))))))))))))))⟩
theorem XE:(compF Tryz.prog 37).map Fun.slim=some Zt:=by kernel_rfl
section
variable {m:Int} {fs:List (List Ix)} {σ:Kx.St} {w:Nat} {s:Sv}
theorem Zu (σ:Kx.St) (A B:Res):(σ++[A]++[B])[σ.length+1]?=some B:=by simp
theorem Zv (σ:Kx.St) (A B:Res):(σ++[A]++[B])[σ.length]?=some A:=by simp
theorem leaf45 (h:MA m fs σ w s) (A B a b:Res):MA m fs (((σ++[A]++[B]).set σ.length a).set (σ.length+1) b) w s∧Kp σ (((σ++[A]++[B]).set σ.length a).set (σ.length+1) b) ∧
  (((σ++[A]++[B]).set σ.length a).set (σ.length+1) b)[σ.length]?=some a∧(((σ++[A]++[B]).set σ.length a).set (σ.length+1) b)[σ.length+1]?=some b:=by
 have h8:=h.len
 refine ⟨((h.app.app).set (by omega) _).set (by omega) _,Kp.setLen _ _ (Kp.setLen _ _ ((Kp.app _ _).trans (Kp.app _ _)) (Nat.le_refl _)) (by omega),Q0 (by omega) (Q4 (Zv _ _ _)),Q4 (Q0 (by omega) (Zu _ _ _))⟩
theorem leaf54 (h:MA m fs σ w s) (A B a b:Res):MA m fs (((σ++[A]++[B]).set (σ.length+1) b).set σ.length a) w s∧Kp σ (((σ++[A]++[B]).set (σ.length+1) b).set σ.length a) ∧
  (((σ++[A]++[B]).set (σ.length+1) b).set σ.length a)[σ.length]?=some a∧(((σ++[A]++[B]).set (σ.length+1) b).set σ.length a)[σ.length+1]?=some b:=by
 have h8:=h.len
 refine ⟨((h.app.app).set (by omega) _).set (by omega) _,Kp.setLen _ _ (Kp.setLen _ _ ((Kp.app _ _).trans (Kp.app _ _)) (by omega)) (by omega),Q4 (Q0 (by omega) (Zv _ _ _)),Q0 (by omega) (Q4 (Zu _ _ _))⟩
theorem cells4x (x:Ix) (t:List AV):cellsA (some 4) (aIx x++t)=some (.agg (aIx x)):=by rw[Z07 _ _ (by simp[aIx])];rfl
set_option maxHeartbeats 16000000 in
theorem eval_one_a (hF:Fns fs) (hW:Wf fs s) (h:MA m fs σ w s) (hb:s.l.length≤999990) (hb2:s.marks.length≤999990) (hb3:s.out.length≤999990):
  FnG Tryz.prog 37 [.ref 4 0 0] σ fun _ σ'=>∃w',MA m fs σ' w' (oneS fs s)∧Kp σ σ':=by
 refine Z11 XE mixed rfl ?_
 simp only[Zt]
 obtain ⟨f,r,hl⟩:=hW.st.ne
 have hfo:=hW.ok f (by rw[hl];simp)
 obtain ⟨l,t1,t2,t3,t4⟩:=hfo.at_
 have htop:s.top=f:=by simp[Sv.top,hl]
 obtain ⟨x,hx⟩:=Ql (l:=l) (k:=f.pc.toNat) (by omega)
 have e1:fs.getD f.fn.toNat []=l:=by rw[List.getD_eq_getElem?_getD,t1];rfl
 have hins:insAt fs f=x:=by unfold insAt;rw[e1,List.getD_eq_getElem?_getD,hx];rfl
 have hdo:=do_ok hF (List.mem_of_getElem? t1) t3 hx hfo.regs
 have hds:doS fs s=doF x f.pc f.regs:=by unfold doS;rw[htop,hins]
 have hone:oneS fs s=(({ s with steps:=IntKind.i64.wrap (s.steps+1) }:Sv).meet (doF x f.pc f.regs).2.2.1).act (doF x f.pc f.regs):=by unfold oneS;rw[hds]
 rw[hone]
 have hfl:=Qm t1
 have hflt:(fs.map aIxs)[f.fn.toNat]?=some (aIxs l):=by rw[List.getElem?_map,t1];rfl
 have hxd:(l.flatMap aIx).drop (f.pc.toNat * 4)=aIx x++(l.drop (f.pc.toNat+1)).flatMap aIx:=Qp Z93 hx
 have hbr:s.l.length=r.length+1:=by rw[hl];rfl
 refine Q1 (fun ε σ1=>(ε 0=.ref 4 0 0∧ε 2=.ref 6 w (r.length * 15))∧σ1=σ) ?_ ?_
 ·intro N X R hN
  push_cast (disch:=omega)
  refine Q2 (X00 h hl (by omega)) ?_
  rintro a σ' ⟨rfl,h'⟩
  push_cast (disch:=omega)
  exact hN _ _ ⟨by push_cast (disch:=omega),h'⟩
 rintro ε σ1 ⟨hρ,e1⟩
 rw[e1]
 clear e1 σ1
 obtain ⟨wm,wo,he,hm,ho⟩:=h.ev
 have e10:(evC m fs.length w wm wo s)[6+4]?=some (.v (.int .i64 s.steps)):=rfl
 have hev:(evC m fs.length w wm wo s).set (6+4) (.v (.int .i64 (IntKind.i64.wrap (s.steps+1))))=evC m fs.length w wm wo { s with steps:=IntKind.i64.wrap (s.steps+1) }:=rfl
 have h1:=h.evs (s':={ s with steps:=IntKind.i64.wrap (s.steps+1) }) rfl rfl hm ho
 have k1:Kp σ (σ.set 4 (.obj 0 (evC m fs.length w wm wo { s with steps:=IntKind.i64.wrap (s.steps+1) }))):=Kp.set _ (by decide) _
 refine Q1 (fun ε σ1=>(ε 0=.ref 4 0 0∧ε 2=.ref 6 w (r.length * 15))∧σ1=σ.set 4 (.obj 0 (evC m fs.length w wm wo { s with steps:=IntKind.i64.wrap (s.steps+1) }))) ?_ ?_
 ·intro N X R hN
  push_cast (disch:=omega)[hρ,he,e10]
  refine Q6 rfl rfl he (by simp[evC]) ?_
  rw[hev]
  push_cast (disch:=omega)
  exact hN _ _ ⟨by push_cast (disch:=omega)[hρ],rfl⟩
 clear hρ ε
 rintro ε σ1 ⟨hρ,rfl⟩
 generalize σ.set 4 (.obj 0 (evC m fs.length w wm wo { s with steps:=IntKind.i64.wrap (s.steps+1) }))=σ1 at h1 k1
 clear he e10 hev hm ho
 clear wm wo
 obtain ⟨s1,hs1⟩:∃s1,s1=({ s with steps:=IntKind.i64.wrap (s.steps+1) }:Sv):=⟨_,rfl⟩
 rw[←hs1] at h1 ⊢
 have hl1:s1.l=f::r:=by rw[hs1];exact hl
 have hm1:s1.marks=s.marks:=by rw[hs1]
 have ho1:s1.out=s.out:=by rw[hs1]
 clear hs1 hone hds
 obtain ⟨wm,wo,he,hm,ho⟩:=h1.ev
 obtain ⟨cs,hc,hf⟩:=h1.fr1 hl1
 have q1:=hf.get (QV f r) (j:=1) (x:=.v (.int .i64 f.fn)) rfl
 have q2:=hf.get (QV f r) (j:=2) (x:=.v (.int .i64 f.pc)) rfl
 obtain ⟨tr,hr⟩:=hf.regs (QV f r)
 have hfz:=h1.fz
 have hset8:∀r:List Int,setAtA (aRg z8) 0 (aRg r)=aRg r:=fun r=>rfl
 have hset5:∀e:Ef,setAtA (aEf ef0) 0 (aEf e)=aEf e:=fun e=>rfl
 have hDo:=step_Do_a x f.pc f.regs hfo.regs
 generalize doF x f.pc f.regs=p at hdo hDo ⊢
 have h8:=h1.len
 refine Q1 (fun ε σ2=>∃i4 i5,(ε 0=.ref 4 0 0∧ε 2=.ref 6 w (r.length * 15)∧ε 3=.v (.int .i64 p.1)∧ε 4=.ref i4 0 0∧ε 5=.ref i5 0 0∧ε 6=.v (.int .i64 p.2.2.2))∧8 < i4∧8 < i5 ∧
   σ2[i4]?=some (.obj 0 (aRg p.2.1))∧σ2[i5]?=some (.obj 0 (aEf p.2.2.1))∧MA m fs σ2 w s1∧Kp σ1 σ2) ?_ ?_
 ·intro N X R hN
  push_cast (disch:=omega)[hρ,he,ev1,hc,q1,hfz,hflt,q2,aIxs,aSlN,hxd,cells4x,hr,cells8a]
  refine both2 ?_ (both2 ?_ ?_)
  ·refine Q3 hDo ?_
   rintro a rfl
   push_cast (disch:=omega)[aDo,aInt,List.length_append]
   refine both2 ?_ ?_
   ·refine Qb ?_
    push_cast (disch:=omega)[List.length_append]
    refine Qb ?_
    push_cast (disch:=omega)[List.length_append]
    refine Q5 (cs:=aRg z8) (Q62 _) rfl (Zv _ _ _) (by decide) ?_
    rw[hset8]
    push_cast (disch:=omega)[List.length_append]
    refine Q5 (cs:=aEf ef0) rfl rfl (Q0 (by omega) (Zu _ _ _)) (by decide) ?_
    rw[hset5]
    push_cast (disch:=omega)
    obtain ⟨z1,z2,z3,z4⟩:=leaf45 h1 (Res.obj 0 (aRg z8)) (Res.obj 0 (aEf ef0)) (Res.obj 0 (aRg p.2.1)) (Res.obj 0 (aEf p.2.2.1))
    exact hN _ _ ⟨σ1.length,σ1.length+1,by push_cast (disch:=omega)[hρ,List.length_append],h8,by omega,z3,z4,z1,z2⟩
   ·refine Qb ?_
    push_cast (disch:=omega)[List.length_append]
    refine Qb ?_
    push_cast (disch:=omega)[List.length_append]
    refine Q5 (cs:=aRg z8) (Q62 _) rfl (Zu _ _ _) (by decide) ?_
    rw[hset8]
    push_cast (disch:=omega)[List.length_append]
    refine Q5 (cs:=aEf ef0) rfl rfl (Q0 (by omega) (Zv _ _ _)) (by decide) ?_
    rw[hset5]
    push_cast (disch:=omega)
    obtain ⟨z1,z2,z3,z4⟩:=leaf54 h1 (Res.obj 0 (aEf ef0)) (Res.obj 0 (aRg z8)) (Res.obj 0 (aEf p.2.2.1)) (Res.obj 0 (aRg p.2.1))
    exact hN _ _ ⟨σ1.length+1,σ1.length,by push_cast (disch:=omega)[hρ,List.length_append],by omega,h8,z4,z3,z1,z2⟩
  ·refine Qb ?_
   push_cast (disch:=omega)[List.length_append]
   refine both2 ?_ ?_
   ·refine Q3 hDo ?_
    rintro a rfl
    push_cast (disch:=omega)[aDo,aInt,List.length_append]
    refine Qb ?_
    push_cast (disch:=omega)[List.length_append]
    refine Q5 (cs:=aRg z8) (Q62 _) rfl (Zv _ _ _) (by decide) ?_
    rw[hset8]
    push_cast (disch:=omega)[List.length_append]
    refine Q5 (cs:=aEf ef0) rfl rfl (Q0 (by omega) (Zu _ _ _)) (by decide) ?_
    rw[hset5]
    push_cast (disch:=omega)
    obtain ⟨z1,z2,z3,z4⟩:=leaf45 h1 (Res.obj 0 (aRg z8)) (Res.obj 0 (aEf ef0)) (Res.obj 0 (aRg p.2.1)) (Res.obj 0 (aEf p.2.2.1))
    exact hN _ _ ⟨σ1.length,σ1.length+1,by push_cast (disch:=omega)[hρ,List.length_append],h8,by omega,z3,z4,z1,z2⟩
   ·refine Qb ?_
    push_cast (disch:=omega)[List.length_append]
    refine Q3 hDo ?_
    rintro a rfl
    push_cast (disch:=omega)[aDo,aInt,List.length_append]
    refine Q5 (cs:=aRg z8) (Q62 _) rfl (Zv _ _ _) (by decide) ?_
    rw[hset8]
    push_cast (disch:=omega)[List.length_append]
    refine Q5 (cs:=aEf ef0) rfl rfl (Q0 (by omega) (Zu _ _ _)) (by decide) ?_
    rw[hset5]
    push_cast (disch:=omega)
    obtain ⟨z1,z2,z3,z4⟩:=leaf45 h1 (Res.obj 0 (aRg z8)) (Res.obj 0 (aEf ef0)) (Res.obj 0 (aRg p.2.1)) (Res.obj 0 (aEf p.2.2.1))
    exact hN _ _ ⟨σ1.length,σ1.length+1,by push_cast (disch:=omega)[hρ,List.length_append],h8,by omega,z3,z4,z1,z2⟩
  ·refine Qb ?_
   push_cast (disch:=omega)[List.length_append]
   refine both2 ?_ ?_
   ·refine Q3 hDo ?_
    rintro a rfl
    push_cast (disch:=omega)[aDo,aInt,List.length_append]
    refine Qb ?_
    push_cast (disch:=omega)[List.length_append]
    refine Q5 (cs:=aRg z8) (Q62 _) rfl (Zu _ _ _) (by decide) ?_
    rw[hset8]
    push_cast (disch:=omega)[List.length_append]
    refine Q5 (cs:=aEf ef0) rfl rfl (Q0 (by omega) (Zv _ _ _)) (by decide) ?_
    rw[hset5]
    push_cast (disch:=omega)
    obtain ⟨z1,z2,z3,z4⟩:=leaf54 h1 (Res.obj 0 (aEf ef0)) (Res.obj 0 (aRg z8)) (Res.obj 0 (aEf p.2.2.1)) (Res.obj 0 (aRg p.2.1))
    exact hN _ _ ⟨σ1.length+1,σ1.length,by push_cast (disch:=omega)[hρ,List.length_append],by omega,h8,z4,z3,z1,z2⟩
   ·refine Qb ?_
    push_cast (disch:=omega)[List.length_append]
    refine Q3 hDo ?_
    rintro a rfl
    push_cast (disch:=omega)[aDo,aInt,List.length_append]
    refine Q5 (cs:=aRg z8) (Q62 _) rfl (Zu _ _ _) (by decide) ?_
    rw[hset8]
    push_cast (disch:=omega)[List.length_append]
    refine Q5 (cs:=aEf ef0) rfl rfl (Q0 (by omega) (Zv _ _ _)) (by decide) ?_
    rw[hset5]
    push_cast (disch:=omega)
    obtain ⟨z1,z2,z3,z4⟩:=leaf54 h1 (Res.obj 0 (aEf ef0)) (Res.obj 0 (aRg z8)) (Res.obj 0 (aEf p.2.2.1)) (Res.obj 0 (aRg p.2.1))
    exact hN _ _ ⟨σ1.length+1,σ1.length,by push_cast (disch:=omega)[hρ,List.length_append],by omega,h8,z4,z3,z1,z2⟩
 clear hρ ε he hm ho hc hf q1 q2 hr hfz hDo
 clear cs wm wo tr
 rintro ε σ2 ⟨i4,i5,hρ,g4,g5,hB4,hB5,h2,k2⟩
 have k12:=k1.trans k2
 clear h1 k1 k2 h8
 clear σ1
 obtain ⟨pc',rs',e,ft⟩:=p
 simp only at hdo hρ hB4 hB5 ⊢
 have g0:(aEf e)[0]?=some (.v (.int .i64 e.k)):=rfl
 obtain ⟨hr8,hpc,hfn⟩:=hdo
 refine Q1 (fun ε σ3=>(ε 0=.ref 4 0 0∧ε 2=.ref 6 w (r.length * 15)∧ε 3=.v (.int .i64 pc')∧ε 4=.ref i4 0 0∧ε 5=.ref i5 0 0∧ε 6=.v (.int .i64 ft)) ∧
   σ3[i4]?=some (.obj 0 (aRg rs'))∧σ3[i5]?=some (.obj 0 (aEf e))∧MA m fs σ3 w (s1.meet e)∧Kp σ2 σ3) ?_ ?_
 ·intro N X R hN
  obtain ⟨cs,hc,hf⟩:=h2.fr1 hl1
  have q11:=hf.get (QV f r) (j:=11) (x:=.v (.bool f.dirty)) rfl
  have htop1:s1.top=f:=by simp[Sv.top,hl1]
  push_cast (disch:=omega)[hρ,hB5,cells5]
  refine Q3 (step_Ends_a e) ?_
  rintro a rfl
  have hno:(endsE e&&f.dirty)=false→s1.meet e=s1:=fun hh=>by unfold Sv.meet;rw[htop1,if_neg (by rw[hh];simp)]
  have hyes:(endsE e&&f.dirty)=true→s1.meet e=({ s1 with l:={ f with dirty:=false }::r }:Sv).mark 6 0:=fun hh=>by unfold Sv.meet;rw[htop1,if_pos hh];simp[Sv.setTop,hl1]
  cases hE:endsE e with
  | false=>
   rw[hE] at hno
   push_cast (disch:=omega)[hρ,aBool,hE,hc,q11]
   exact hN _ _ ⟨by push_cast (disch:=omega)[hρ],hB4,hB5,by rw[hno rfl];exact h2,Kp.refl _⟩
  | true=>
   cases hD:f.dirty with
   | false=>
    rw[hE,hD] at hno
    rw[hD] at q11
    push_cast (disch:=omega)[hρ,aBool,hE,hc,q11]
    exact hN _ _ ⟨by push_cast (disch:=omega)[hρ],hB4,hB5,by rw[hno rfl];exact h2,Kp.refl _⟩
   | true=>
    rw[hE,hD] at hyes
    rw[hD] at q11
    obtain ⟨h3,hlt⟩:=h2.st1 hl1 hf (j:=11) (by decide) (x:=.v (.bool false)) (g:={ f with dirty:=false }) rfl
    have k3:Kp σ2 (σ2.set 6 (.obj w (cs.set (r.length * 15+11) (.v (.bool false))))):=Kp.set _ (by decide) _
    push_cast (disch:=omega)[hρ,aBool,hE,hc,q11]
    refine Q6 rfl rfl hc hlt ?_
    generalize σ2.set 6 (.obj w (cs.set (r.length * 15+11) (.v (.bool false))))=σ3 at h3 k3
    push_cast (disch:=omega)[hρ]
    refine Q2 (Qu h3 6 0 (by show s1.marks.length≤_;rw[hm1];omega)) ?_
    rintro a σ4 ⟨h4,k4⟩
    push_cast (disch:=omega)
    have kk:=k3.trans k4
    exact hN _ _ ⟨by push_cast (disch:=omega)[hρ],kk.at g4 hB4,kk.at g5 hB5,by rw[hyes rfl];exact h4,kk⟩
 clear hρ ε
 rintro ε σ3 ⟨hρ,hC4,hC5,h3,k3⟩
 have kk:=k12.trans k3
 clear k12 k3 h2 hB4 hB5
 clear σ2
 obtain ⟨b,hl2⟩:=meet_l s1 e hl1
 have hm2:(s1.meet e).marks.length≤999991:=by
  obtain ⟨m1,e1,e2⟩:=(Yi s1 e).marks
  rw[e1,List.length_append,hm1];omega
 have ho2:(s1.meet e).out.length≤999991:=by
  obtain ⟨m1,e1,e2⟩:=(Yi s1 e).out
  rw[e1,List.length_append,ho1];omega
 have hst:stk ({ f with dirty:=b }::r):=by
  have:=hW.st
  rw[hl] at this
  exact this.turn rfl
 generalize s1.meet e=s2 at h3 hl2 hm2 ho2 ⊢
 clear hl1 hm1 ho1
 clear s1
 generalize ({ f with dirty:=b }:Sf)=f2 at hl2 hst
 have hq:f2.kind=2→∃q r',r=q::r':=fun hk=>by
  obtain ⟨q,r',e1,e2,e3⟩:=hst.loop hk
  exact ⟨q,r',e1⟩
 have hq2:f2.kind=2→∃q p r',r=q::p::r':=fun hk=>by
  obtain ⟨q,r',e1,e2,e3⟩:=hst.loop hk
  obtain ⟨p,r'',e4⟩:=e3.ne
  exact ⟨q,p,r'',by rw[e1,e4]⟩
 have hb':s2.l.length≤999990:=by rw[hl2];simp only[List.length_cons];omega
 refine QM fun X' _=>?_
 by_cases c0:ft=0
 ·by_cases cA:1≤e.k∧e.k≤4
  ·have es:s2.act (pc',rs',e,ft)=s2.ask pc' rs' e:=by unfold Sv.act;rw[if_neg (by simpa using c0),if_pos cA]
   rw[es]
   push_cast (disch:=omega)[hρ,c0,hC5,cells5]
   refine Q3 (Q93 e) ?_
   rintro a rfl
   rw[decide_eq_true cA]
   push_cast (disch:=omega)[hρ,aBool,hC4,hC5,cells8',cells5]
   refine Q2 (eval_ask_a h3 hl2 pc' rs' e hr8 cA (by omega)) ?_
   rintro a σ' ⟨h4,k4⟩
   push_cast (disch:=omega)
   exact ⟨w,h4,kk.trans k4⟩
  by_cases c9:e.k=9∨e.k=10
  ·have es:s2.act (pc',rs',e,ft)=s2.goOn pc' e:=by unfold Sv.act;rw[if_neg (by simpa using c0),if_neg cA,if_pos c9]
   rw[es]
   push_cast (disch:=omega)[hρ,c0,hC5,cells5]
   refine Q3 (Q93 e) ?_
   rintro a rfl
   rw[decide_eq_false cA]
   rcases c9 with c9|c9
   ·push_cast (disch:=omega)[hρ,aBool,hC5,g0,c9,cells5]
    refine Q2 (X59 h3 hl2 hq pc' e (by omega) (by omega)) ?_
    rintro a σ' ⟨h4,k4⟩
    push_cast (disch:=omega)
    exact ⟨w,h4,kk.trans k4⟩
   ·push_cast (disch:=omega)[hρ,aBool,hC5,g0,c9,cells5]
    refine Q2 (X59 h3 hl2 hq pc' e (by omega) (by omega)) ?_
    rintro a σ' ⟨h4,k4⟩
    push_cast (disch:=omega)
    exact ⟨w,h4,kk.trans k4⟩
  have c9a:¬e.k=9:=fun h=>c9 (.inl h)
  have c9b:¬e.k=10:=fun h=>c9 (.inr h)
  by_cases c11:e.k=11
  ·have es:s2.act (pc',rs',e,ft)=s2.leave:=by unfold Sv.act;rw[if_neg (by simpa using c0),if_neg cA,if_neg c9,if_pos c11]
   rw[es]
   push_cast (disch:=omega)[hρ,c0,hC5,cells5]
   refine Q3 (Q93 e) ?_
   rintro a rfl
   rw[decide_eq_false cA]
   push_cast (disch:=omega)[hρ,aBool,hC5,g0,c11]
   refine Q2 (eval_leave_a h3 hl2 hq2 (by omega) (by omega)) ?_
   rintro a σ' ⟨h4,k4⟩
   push_cast (disch:=omega)
   exact ⟨w,h4,kk.trans k4⟩
  by_cases c12:e.k=12
  ·have es:s2.act (pc',rs',e,ft)=s2.back:=by unfold Sv.act;rw[if_neg (by simpa using c0),if_neg cA,if_neg c9,if_neg c11,if_pos c12]
   rw[es]
   push_cast (disch:=omega)[hρ,c0,hC5,cells5]
   refine Q3 (Q93 e) ?_
   rintro a rfl
   rw[decide_eq_false cA]
   push_cast (disch:=omega)[hρ,aBool,hC5,g0,c12]
   refine Q2 (eval_back_a h3 hl2 hq (by omega) (by omega)) ?_
   rintro a σ' ⟨w',h4,k4⟩
   push_cast (disch:=omega)
   exact ⟨w',h4,kk.trans k4⟩
  have es:s2.act (pc',rs',e,ft)=({ s2 with l:={ f2 with pc:=pc',regs:=rs' }::r }:Sv).begins e:=by
   unfold Sv.act
   rw[if_neg (by simpa using c0),if_neg cA,if_neg c9,if_neg c11,if_neg c12]
   simp[Sv.setTop,hl2]
  rw[es]
  obtain ⟨cs,hc,hf⟩:=h3.fr1 hl2
  obtain ⟨h4,hlt⟩:=h3.st1 hl2 hf (j:=2) (by decide) (x:=.v (.int .i64 pc')) (g:={ f2 with pc:=pc' }) rfl
  have k4:Kp σ3 (σ3.set 6 (.obj w (cs.set (r.length * 15+2) (.v (.int .i64 pc'))))):=Kp.set _ (by decide) _
  push_cast (disch:=omega)[hρ,c0,hC5,cells5]
  refine Q3 (Q93 e) ?_
  rintro a rfl
  rw[decide_eq_false cA]
  push_cast (disch:=omega)[hρ,aBool,hC4,hC5,g0,c9a,c9b,c11,c12,cells8']
  refine Q6 rfl rfl hc hlt ?_
  have hD4:=k4.at g4 hC4
  have hD5:=k4.at g5 hC5
  generalize σ3.set 6 (.obj w (cs.set (r.length * 15+2) (.v (.int .i64 pc'))))=σ4 at h4 k4 hD4 hD5
  obtain ⟨cs4,hc4,hf4⟩:=h4.fr1 rfl
  obtain ⟨h5,hlt5⟩:=h4.stR rfl hf4 rs'
  have k5:Kp σ4 (σ4.set 6 (.obj w (setAtA cs4 (r.length * 15+3) (aRg rs')))):=Kp.set _ (by decide) _
  push_cast (disch:=omega)[hρ]
  refine ⟨Q8 (by push_cast (disch:=omega)[hρ,hD4,cells8',ex_Rg]),?_⟩
  refine Q5 (Q62 _) rfl hc4 hlt5 ?_
  have hE5:=k5.at g5 hD5
  generalize σ4.set 6 (.obj w (setAtA cs4 (r.length * 15+3) (aRg rs')))=σ5 at h5 k5 hE5
  push_cast (disch:=omega)[hρ,hE5,cells5]
  refine Q2 (Ys h5 rfl e (by show (_::r:List Sf).length≤_;simp only[List.length_cons];omega) (by show s2.marks.length≤_;omega) (by show s2.out.length≤_;omega)) ?_
  rintro a σ' ⟨w',h6,k6⟩
  push_cast (disch:=omega)
  exact ⟨w',h6,((kk.trans k4).trans k5).trans k6⟩
 ·have es:s2.act (pc',rs',e,ft)=s2.stop 4 ft:=by unfold Sv.act;rw[if_pos c0]
  rw[es]
  push_cast (disch:=omega)[hρ,c0]
  refine Q2 (QN h3 4 ft) ?_
  rintro a σ' ⟨h4,k4⟩
  push_cast (disch:=omega)
  exact ⟨w,h4,kk.trans k4⟩
end
end Go.Proofs.YtncdnegdlkmicaaGreat
