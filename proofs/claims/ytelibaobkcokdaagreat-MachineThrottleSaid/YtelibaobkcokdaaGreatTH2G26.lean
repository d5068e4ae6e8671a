/- The machine: the most that were active, of any token. -/
import Derived.Test.YtelibaobkcokdaaGreatTH2G25
import Derived.Test.YtelibaobkcokdaaGreatProg
import Derived.KernelRfl
namespace Go.Proofs.YtelibaobkcokdaaGreat.Mx
set_option linter.unusedVariables false
set_option linter.unusedSimpArgs false
open Go Go.Kx Go.Proofs Go.Proofs.YtelibaobkcokdaaGreat
set_option maxRecDepth 8000
set_option maxHeartbeats 4000000 in
theorem Y29 (l:List Vt) (hl:l.length≤1000000) (t:Tok) (ht:t=.nil∨t=.none):FnP Tryz.prog 24 [.sl l.length (l.flatMap aVt) t] fun a=>a=aInt (mostF l):=by
 refine Qj Q69.2 mixed rfl ox ?_;simp only[Q69,qH];push_cast -implicitDefEqProofs (disch:=omega);refine wpa_mkm ?_;push_cast -implicitDefEqProofs (disch:=omega)
 refine ZE (α:=Nat) (I:=fun k ε σ=>(ε 3=.v (.int .i64 (mostAt l k))∧ε 4=.mp 0∧ε 8=.sl l.length (l.flatMap aVt) t∧ε 9=.v (.int .i64 l.length)∧ε 10=.v (.int .i64 k))∧k≤l.length∧∃A,σ[0]?=some (.map (esI A))∧∀p,getI A p=actv (l.take k) p)
  (μ:=fun k=>l.length - k) (Q:=fun ε σ=>ε 3=.v (.int .i64 (mostF l))) (x:=0) ?_ ?_ ?_
 ·have e0:mostAt l 0=0:=rfl;push_cast -implicitDefEqProofs (disch:=omega)[e0];refine ⟨by omega,[],rfl,fun p=>rfl⟩
 ·rintro k ε σ N E ⟨hρ,hk,A,hA,hp⟩ hN hE;by_cases hlt:k < l.length
  ·obtain ⟨e,he⟩:=Q23 hlt;have hd:=QQ YX he;have hset:setAtA [AV.v (.int .i64 0),AV.v (.int .i64 0),AV.v (.int .i64 0),AV.v (.int .i64 0)] 0 (aVt e)=aVt e:=rfl;have g1:(aVt e)[1]?=some (.v (.int .i64 e.loop)):=rfl;have c4:cellsA (some 4) (aVt e)=some (.agg (aVt e)):=rfl;have x4:(AV.agg (aVt e)).exact=true:=rfl;have hs:=X39 (l.take k) e;rw[←Qp he] at hs;have hb:=actv_b (l.take k) e.loop;have hlk:(l.take k).length=k:=by rw[List.length_take];omega
   have hm:=moreI_b e.kind;have hw:=w64_sm (n:=actv (l.take k) e.loop+moreI e.kind) ka ka;have hlp:lpAt l k=e.loop:=by unfold lpAt;rw[he]
   have hat:mostAt l (k+1)=max (mostAt l k) (actv (l.take (k+1)) e.loop):=by rw[←hlp];rfl
   have hsl:=hs e.loop;rw[if_pos rfl] at hsl;have hmb:=mostAt_b l k;have hgm:=getM_I A e.loop;rw[hp] at hgm;have hpu:=putM_I A e.loop (actv (l.take k) e.loop+moreI e.kind);have hgm2:=getM_I (putI A e.loop (actv (l.take k) e.loop+moreI e.kind)) e.loop;rw[X40,if_pos rfl] at hgm2
   have hp2:∀p,getI (putI A e.loop (actv (l.take k) e.loop+moreI e.kind)) p=actv (l.take (k+1)) p:=by
    intro p;rw[X40,hs p];by_cases c:p=e.loop
    ·subst c;simp
    ·rw[if_neg c,if_neg (fun e=>c e.symm),hp]
   have hA1:(σ++[Res.obj 0 (aVt e)])[0]?=some (.map (esI A)):=Qn hA;have hb1:(σ++[Res.obj 0 (aVt e)])[σ.length]?=some (.obj 0 (aVt e)):=Qe _ _;have hpos:=Qh hA;push_cast -implicitDefEqProofs (disch:=omega)[hρ,hd,c4v];refine Qm ?_;push_cast -implicitDefEqProofs (disch:=omega);refine Qd (cs:=[AV.v (.int .i64 0),AV.v (.int .i64 0),AV.v (.int .i64 0),AV.v (.int .i64 0)]) rfl rfl (Qe _ _) ke ?_;rw[hset,Qu];generalize hS:σ++[Res.obj 0 (aVt e)]=S at hA1 hb1 ⊢;generalize hb:σ.length=i0 at hb1 hpos ⊢;clear hS hb;have hb2:∀r,(S.set 0 r)[i0]?=some (.obj 0 (aVt e)):=fun r=>Qa ka hb1;have hA2:∀r,(S.set 0 r)[0]?=some r:=fun r=>Qb hA1;have fin:∀ε':AEnv,((ε' 3=.v (.int .i64 (mostAt l (k+1)))∧ε' 4=.mp 0∧ε' 8=.sl l.length (l.flatMap aVt) t∧ε' 9=.v (.int .i64 l.length)∧ε' 10=.v (.int .i64 ((k+1:Nat):Int))))→Go.Kx.act (N ε' (S.set 0 (.map (esI (putI A e.loop (actv (l.take k) e.loop+moreI e.kind)))))):=fun ε' h=>hN (k+1) _ _ ⟨h,by omega,_,hA2 _,hp2⟩ ka;have hmx:max (mostAt l k) (actv (l.take k) e.loop+moreI e.kind)=mostAt l (k+1):=by rw[hat,hsl]
   push_cast -implicitDefEqProofs (disch:=omega)[hρ,hb1,g1,c4,x4];refine both2 ?_ ?_
   ·refine Xm hA1 hgm ?_;push_cast -implicitDefEqProofs (disch:=omega)[hb1,c4,x4];refine Q5 (Q70 e) ?_;push_cast -implicitDefEqProofs (disch:=omega)[aInt,hw];refine Y70 hA1 hpu ?_;push_cast -implicitDefEqProofs (disch:=omega)[hρ,hb2,g1];refine Xm (hA2 _) hgm2 ?_;push_cast -implicitDefEqProofs (disch:=omega)[hmx,hρ];refine fin _ ?_;push_cast -implicitDefEqProofs (disch:=omega)[hρ]
   ·refine Q5 (Q70 e) ?_;push_cast -implicitDefEqProofs (disch:=omega)[aInt,hb1,g1];refine Xm hA1 hgm ?_;push_cast -implicitDefEqProofs (disch:=omega)[hw];refine Y70 hA1 hpu ?_;push_cast -implicitDefEqProofs (disch:=omega)[hρ,hb2,g1];refine Xm (hA2 _) hgm2 ?_;push_cast -implicitDefEqProofs (disch:=omega)[hmx,hρ];refine fin _ ?_;push_cast -implicitDefEqProofs (disch:=omega)[hρ]
  ·push_cast -implicitDefEqProofs (disch:=omega)[hρ];refine hE _ _ ?_;obtain rfl:k=l.length:=by omega
   push_cast -implicitDefEqProofs (disch:=omega)[hρ];rfl
 ·intro ε σ hρ;push_cast -implicitDefEqProofs (disch:=omega)[hρ];exact oo
end Go.Proofs.YtelibaobkcokdaaGreat.Mx
namespace Go.Proofs.YtelibaobkcokdaaGreat.Mx.In
set_option linter.unusedSectionVars false
set_option linter.unusedVariables false
set_option linter.unusedSimpArgs false
open Go Go.Kx Go.Proofs Go.Proofs.YtelibaobkcokdaaGreat Go.Proofs.YtelibaobkcokdaaGreat.Mx
set_option linter.unusedSectionVars false
section
variable {q:Pm} {s:Cs} {l:List Wk} {k:Nat}
theorem rc_d (h:q.Ok) (hw:(s.ws.length:Int)=q.size) {j:Nat} {i:Int} (ha:okL q (.d j i)) (v:Int):aRC q (s.setW (stW s.ws (addr q (.d j i)) v)) l=aRC q s l:=by have e:=X47 h hw ha v;apply RC.ext<;>simp only[aRC,Cs.setW,e,reduceCtorEq,if_false]<;>rfl
theorem dr_f (h:q.Ok) (hw:(s.ws.length:Int)=q.size) {id i:Int} (ha:okL q (.f id i)) (v:Int):aDR q (s.setW (stW s.ws (addr q (.f id i)) v)) l=aDR q s l:=by have e:=X47 h hw ha v;apply DR.ext<;>simp only[aDR,Cs.setW,e,reduceCtorEq,if_false]
theorem okd (hk:(k:Int) < q.W) (h:q.Ok) {i:Int} (h0:0≤i) (h3:i≤3):okL q (.d k i):=⟨hk,h0,by have:=h.wide_in;omega⟩
theorem dr_hd (h:q.Ok) (hw:(s.ws.length:Int)=q.size) (hk:(k:Int) < q.W) (v:Int):aDR q (s.setW (stW s.ws (q.base k) v)) l={ aDR q s l with hd:=upd (aDR q s l).hd k v }:=by
 rw[QR hk];have e:=X47 h hw (okd hk h (Int.le_refl 0) ka) v;apply DR.ext<;>simp only[aDR,Cs.setW,e,Lo.d.injEq]
 all_goals (funext j)
 ·simp only[upd];by_cases c:j=k<;>simp[c]
 ·simp
 ·simp
 ·simp
 ·funext i;split
  ·rw[if_neg ka]
  ·rfl
theorem dr_tl (h:q.Ok) (hw:(s.ws.length:Int)=q.size) (hk:(k:Int) < q.W) (v:Int):aDR q (s.setW (stW s.ws (q.base k+1) v)) l={ aDR q s l with tl:=upd (aDR q s l).tl k v }:=by
 have ea:q.base k+1=addr q (.d k 1):=by rw[QR hk];show (k:Int) * q.wide+0+1=(k:Int) * q.wide+1;omega
 rw[ea];have e:=X47 h hw (okd hk h (show (0:Int)≤1 by omega) ka) v;apply DR.ext<;>simp only[aDR,Cs.setW,e,Lo.d.injEq]
 all_goals (funext j)
 ·simp
 ·simp only[upd];by_cases c:j=k<;>simp[c]
 ·simp
 ·simp
 ·funext i;split
  ·rw[if_neg ka]
  ·rfl
theorem dr_nt (h:q.Ok) (hw:(s.ws.length:Int)=q.size) (hk:(k:Int) < q.W) (v:Int):aDR q (s.setW (stW s.ws (q.base k+2) v)) l={ aDR q s l with nt:=upd (aDR q s l).nt k v }:=by
 have ea:q.base k+2=addr q (.d k 2):=by rw[QR hk];show (k:Int) * q.wide+0+2=(k:Int) * q.wide+2;omega
 rw[ea];have e:=X47 h hw (okd hk h (show (0:Int)≤2 by omega) ka) v;apply DR.ext<;>simp only[aDR,Cs.setW,e,Lo.d.injEq]
 all_goals (funext j)
 ·simp
 ·simp
 ·simp only[upd];by_cases c:j=k<;>simp[c]
 ·simp
 ·funext i;split
  ·rw[if_neg ka]
  ·rfl
theorem dr_sv (h:q.Ok) (hw:(s.ws.length:Int)=q.size) (hk:(k:Int) < q.W) (v:Int):aDR q (s.setW (stW s.ws (q.base k+3) v)) l={ aDR q s l with sv:=upd (aDR q s l).sv k v }:=by
 have ea:q.base k+3=addr q (.d k 3):=by rw[QR hk];show (k:Int) * q.wide+0+3=(k:Int) * q.wide+3;omega
 rw[ea];have e:=X47 h hw (okd hk h (show (0:Int)≤3 by omega) ka) v;apply DR.ext<;>simp only[aDR,Cs.setW,e,Lo.d.injEq]
 all_goals (funext j)
 ·simp
 ·simp
 ·simp
 ·simp only[upd];by_cases c:j=k<;>simp[c]
 ·funext i;split
  ·rw[if_neg ka]
  ·rfl
theorem dr_sl (h:q.Ok) (hw:(s.ws.length:Int)=q.size) (hk:(k:Int) < q.W) (n v:Int):aDR q (s.setW (stW s.ws (q.slot k n) v)) l={ aDR q s l with sl:=updS (aDR q s l).sl k (sD q n) v }:=by
 have hs:=sD_in h n;rw[YH hk];have e:=X47 h hw (show okL q (.d k (4+sD q n)) from ⟨hk,by omega,by show _ < 4+q.D;omega⟩) v;apply DR.ext<;>simp only[aDR,Cs.setW,e,Lo.d.injEq]
 all_goals (funext j)
 ·rw[if_neg ka]
 ·rw[if_neg ka]
 ·rw[if_neg ka]
 ·rw[if_neg ka]
 ·funext i;simp only[updS];by_cases c:j=k∧i=sD q n
  ·rw[if_pos c,if_pos ka,if_pos ⟨c.1,by omega⟩]
  ·rw[if_neg c];split
   ·rw[if_neg ka]
   ·rfl
theorem okf {id:Int} (hid:1≤id∧id≤q.F) (h:q.Ok) {i:Int} (h0:0≤i) (h3:i < q.room):okL q (.f id i):=⟨hid,h0,h3⟩
theorem rc_J (h:q.Ok) (hw:(s.ws.length:Int)=q.size) {id:Int} (hid:1≤id∧id≤q.F) (v:Int):aRC q (s.setW (stW s.ws (q.frame id) v)) l={ aRC q s l with J:=updI (aRC q s l).J id v }:=by
 rw[ZB hid];have e:=X47 h hw (okf hid h (Int.le_refl 0) (by have:=h.room_in;omega)) v;apply RC.ext<;>simp only[aRC,Cs.setW,e,Lo.f.injEq]<;>try rfl
 ·funext j;simp only[updI];by_cases c:j=id<;>simp[c]
 ·funext j;simp
 all_goals
  funext j i;split
  ·rw[if_neg ka]
  ·rfl
theorem rc_nap (h:q.Ok) (hw:(s.ws.length:Int)=q.size) {id:Int} (hid:1≤id∧id≤q.F) (v:Int):aRC q (s.setW (stW s.ws (q.nap id) v)) l={ aRC q s l with nap:=updI (aRC q s l).nap id v }:=by
 rw[Y78 hid];have e:=X47 h hw (okf hid h (show (0:Int)≤1 by omega) (by have:=h.room_in;omega)) v;apply RC.ext<;>simp only[aRC,Cs.setW,e,Lo.f.injEq]<;>try rfl
 ·funext j;simp
 ·funext j;simp only[updI];by_cases c:j=id<;>simp[c]
 all_goals
  funext j i;split
  ·rw[if_neg ka]
  ·rfl
theorem okw {id:Int} (hid:1≤id∧id≤q.F) (h:q.Ok) (it:Int) {n:Int} (h0:0≤n) (h3:n≤3):okL q (.f id (2+4 * sR q it+n)):=by have:=sR_in h it;exact ⟨hid,by omega,by show _ < 2+4 * (q.T+1);omega⟩
theorem rc_ct (h:q.Ok) (hw:(s.ws.length:Int)=q.size) {id:Int} (hid:1≤id∧id≤q.F) (it v:Int):aRC q (s.setW (stW s.ws (q.word id it 0) v)) l=aRC q s l:=by
 have hs:=sR_in h it;rw[Z62 hid];have e:=X47 h hw (okw hid h it (Int.le_refl 0) ka) v;apply RC.ext<;>simp only[aRC,Cs.setW,e,Lo.f.injEq]<;>try rfl
 ·funext j;rw[if_neg ka]
 ·funext j;rw[if_neg ka]
 all_goals
  funext j i;split
  ·rw[if_neg ka]
  ·rfl
theorem rc_sw (h:q.Ok) (hw:(s.ws.length:Int)=q.size) {id:Int} (hid:1≤id∧id≤q.F) (it v:Int):aRC q (s.setW (stW s.ws (q.word id it 1) v)) l={ aRC q s l with sw:=upd2 (aRC q s l).sw id (sR q it) v }:=by
 have hs:=sR_in h it;rw[Z62 hid];have e:=X47 h hw (okw hid h it (show (0:Int)≤1 by omega) ka) v;apply RC.ext<;>simp only[aRC,Cs.setW,e,Lo.f.injEq]<;>try rfl
 ·funext j;rw[if_neg ka]
 ·funext j;rw[if_neg ka]
 ·funext j i;simp only[upd2];by_cases c:j=id∧i=sR q it
  ·rw[if_pos c,if_pos ka,if_pos ⟨c.1,by omega⟩]
  ·rw[if_neg c];split
   ·rw[if_neg ka]
   ·rfl
 all_goals
  funext j i;split
  ·rw[if_neg ka]
  ·rfl
theorem rc_lk (h:q.Ok) (hw:(s.ws.length:Int)=q.size) {id:Int} (hid:1≤id∧id≤q.F) (it v:Int):aRC q (s.setW (stW s.ws (q.word id it 2) v)) l={ aRC q s l with lk:=upd2 (aRC q s l).lk id (sR q it) v }:=by
 have hs:=sR_in h it;rw[Z62 hid];have e:=X47 h hw (okw hid h it (show (0:Int)≤2 by omega) ka) v;apply RC.ext<;>simp only[aRC,Cs.setW,e,Lo.f.injEq]<;>try rfl
 ·funext j;rw[if_neg ka]
 ·funext j;rw[if_neg ka]
 ·funext j i;split
  ·rw[if_neg ka]
  ·rfl
 ·funext j i;simp only[upd2];by_cases c:j=id∧i=sR q it
  ·rw[if_pos c,if_pos ka,if_pos ⟨c.1,by omega⟩]
  ·rw[if_neg c];split
   ·rw[if_neg ka]
   ·rfl
 ·funext j i;split
  ·rw[if_neg ka]
  ·rfl
theorem rc_dn (h:q.Ok) (hw:(s.ws.length:Int)=q.size) {id:Int} (hid:1≤id∧id≤q.F) (it v:Int):aRC q (s.setW (stW s.ws (q.word id it 3) v)) l={ aRC q s l with dn:=upd2 (aRC q s l).dn id (sR q it) v }:=by
 have hs:=sR_in h it;rw[Z62 hid];have e:=X47 h hw (okw hid h it (show (0:Int)≤3 by omega) ka) v;apply RC.ext<;>simp only[aRC,Cs.setW,e,Lo.f.injEq]<;>try rfl
 ·funext j;rw[if_neg ka]
 ·funext j;rw[if_neg ka]
 ·funext j i;split
  ·rw[if_neg ka]
  ·rfl
 ·funext j i;split
  ·rw[if_neg ka]
  ·rfl
 ·funext j i;simp only[upd2];by_cases c:j=id∧i=sR q it
  ·rw[if_pos c,if_pos ka,if_pos ⟨c.1,by omega⟩]
  ·rw[if_neg c];split
   ·rw[if_neg ka]
   ·rfl
end
section
variable {q:Pm} {s:Cs} {l:List Wk} {k:Nat}
theorem Q71 (hk:k < l.length) (w:Wk) (j:Nat):wkAt (l.set k w) j=if j=k then w else wkAt l j:=by
 unfold wkAt;rw[List.getD_eq_getElem?_getD,List.getElem?_set,List.getD_eq_getElem?_getD];by_cases c:j=k
 ·subst c;rw[if_pos rfl,if_pos hk,if_pos rfl];rfl
 ·rw[if_neg (fun e=>c e.symm),if_neg c]
theorem Q90 {α:Type} (hk:k < l.length) (w:Wk) (f:Wk→α):(fun j=>f (wkAt (l.set k w) j))=upd (fun j=>f (wkAt l j)) k (f w):=by funext j;rw[Q71 hk];unfold upd;split<;>rfl
theorem Qq (hk:k < l.length) (w:Wk):aRC q s (l.set k w)={ aRC q s l with
  st:=upd (aRC q s l).st k w.state,ho:=upd (aRC q s l).ho k w.holds,ot:=upd (aRC q s l).ot k w.other,px:=upd (aRC q s l).px k (dv w.dq).x,th:=upd (aRC q s l).th k w.th,
  gS:=upd (aRC q s l).gS k w.gStage,gy:=upd (aRC q s l).gy k w.gWhy,eH:=upd (aRC q s l).eH k w.eHeld,eR:=upd (aRC q s l).eR k w.eRight,eW:=upd (aRC q s l).eW k w.eWoken,
  rt:=upd (aRC q s l).rt k (w.right.getD rt0),pk:=upd (aRC q s l).pk k (w.park.getD pk0),wa:=upd (aRC q s l).wa k (w.wake.getD tw0),np:=upd (aRC q s l).np k (w.nap.getD tw0) }:=by
 apply RC.ext<;>try rfl
 ·exact Q90 hk w Wk.state
 ·exact Q90 hk w Wk.holds
 ·exact Q90 hk w Wk.other
 ·exact Q90 hk w fun w=>(dv w.dq).x
 ·exact Q90 hk w Wk.th
 ·exact Q90 hk w Wk.gStage
 ·exact Q90 hk w Wk.gWhy
 ·exact Q90 hk w Wk.eHeld
 ·exact Q90 hk w Wk.eRight
 ·exact Q90 hk w Wk.eWoken
 ·exact Q90 hk w fun w=>w.right.getD rt0
 ·exact Q90 hk w fun w=>w.park.getD pk0
 ·exact Q90 hk w fun w=>w.wake.getD tw0
 ·exact Q90 hk w fun w=>w.nap.getD tw0
theorem X41 (hk:k < l.length) (w:Wk):aDR q s (l.set k w)={ aDR q s l with st:=upd (aDR q s l).st k w.state,ta:=upd (aDR q s l).ta k w.tail,dq:=upd (aDR q s l).dq k (dv w.dq) }:=by
 apply DR.ext<;>try rfl
 ·exact Q90 hk w Wk.state
 ·exact Q90 hk w Wk.tail
 ·exact Q90 hk w fun w=>dv w.dq
theorem QT (id:Int) (f:Fm):aDR q (s.setFr id f) l=aDR q s l:=by unfold Cs.setFr;split<;>rfl
theorem at_setFr (hl:s.held.length=s.fr.length) {id:Int} (hh:s.isHeld id=true) (f:Fm) (j:Int):(s.setFr id f).at j=if j=id then f else s.at j:=by
 have hb:0 < id∧id < s.held.length:=by unfold Cs.isHeld at hh;simp at hh;exact hh.1
 have e:s.setFr id f={ s with fr:=s.fr.set id.toNat f }:=if_pos hh;rw[e];unfold Cs.at
 by_cases c:j=id
 ·subst c;have h1:Cs.isHeld { s with fr:=s.fr.set j.toNat f } j=true:=hh;rw[if_pos h1,if_pos rfl,List.getD_eq_getElem?_getD,List.getElem?_set_self ka];rfl
 ·rw[if_neg c];show (if s.isHeld j=true then (s.fr.set id.toNat f).getD j.toNat fm0 else fm0)=_;split
  ·rename_i hj;have hj0:0 < j:=by unfold Cs.isHeld at hj;simp at hj;exact hj.1.1
   rw[List.getD_eq_getElem?_getD,List.getElem?_set_ne ka,List.getD_eq_getElem?_getD]
  ·rfl
theorem X42 (hl:s.held.length=s.fr.length) {id:Int} (hh:s.isHeld id=true) (f:Fm):aRC q (s.setFr id f) l={ aRC q s l with fr:=updI (aRC q s l).fr id (feOf f) }:=by
 have e:=at_setFr hl hh f;have e2:s.setFr id f={ s with fr:=s.fr.set id.toNat f }:=if_pos hh;apply RC.ext
 case fr=>funext j;show feOf ((s.setFr id f).at j)=if j=id then feOf f else feOf (s.at j);rw[e];split<;>rfl
 all_goals (rw[e2];rfl)
end
variable {T W:Int} {sI:Int→Int} {tk:Int→Int→Int→Int} {r:RC} {P:Int→Pc} {cn:Int→Int} {rg:Nat→Int} {pc:Int→Int→Int}
set_option maxHeartbeats 4000000 in
theorem CI.irr (h:CI T W sI tk r P cn rg pc) {px':Nat→Int} {th':Nat→Th} {ot':Nat→Int} {gS':Nat→Int} {gy':Nat→Int} {eH':Nat→Bool} {eR':Nat→Int} {eW':Nat→Bool} {rt':Nat→Rt} {pk':Nat→Pk} {wa':Nat→Tw} {np':Nat→Tw}
  (e_px:∀k,r.st k=3→px' k=r.px k) (e_th:∀k,r.st k=3→th' k=r.th k) (e_ot:∀k,r.st k=6∨r.st k=7∨r.st k=8∨r.st k=13∨r.st k=17∨r.st k=20∨r.st k=22∨r.st k=23∨r.st k=24→ot' k=r.ot k) (e_gS:∀k,r.st k=9→gS' k=r.gS k) (e_gy:∀k,r.st k=11→gy' k=r.gy k) (e_eH:∀k,r.st k=11∨r.st k=14∨r.st k=15∨r.st k=16→eH' k=r.eH k) (e_eR:∀k,r.st k=15∨r.st k=16→eR' k=r.eR k) (e_eW:∀k,r.st k=16→eW' k=r.eW k) (e_rt:∀k,r.st k=11→rt' k=r.rt k) (e_pk:∀k,r.st k=13→pk' k=r.pk k) (e_wa:∀k,r.st k=15→wa' k=r.wa k) (e_np:∀k,r.st k=20→np' k=r.np k):
  CI T W sI tk { r with px:=px',th:=th',ot:=ot',gS:=gS',gy:=gy',eH:=eH',eR:=eR',eW:=eW',rt:=rt',pk:=pk',wa:=wa',np:=np' } P cn rg pc:={}
set_option maxHeartbeats 4000000 in
theorem CI.irf (h:CI T W sI tk r P cn rg pc) {fr':Int→Fe} (e:∀id,P id≠.free→fr' id=r.fr id):
  CI T W sI tk { r with fr:=fr' } P cn rg pc:={
  c5:=by (try dsimp only);have a0:=h.c5;have a1:=h.f2;grind (splits:=40)
  c5c:=by (try dsimp only);have a0:=h.c5c;have a1:=h.f2;grind (splits:=40)
  c7:=by (try dsimp only);have a0:=h.c7;have a1:=h.c1;have a2:=h.c3;grind (splits:=40)
  c7b:=by (try dsimp only);have a0:=h.c7b;have a1:=h.c1;have a2:=h.c3;grind (splits:=40)
  c7c:=by (try dsimp only);have a0:=h.c7c;have a1:=h.c7b;have a2:=h.c1;have a3:=h.c3;grind (splits:=40)
  c10:=by (try dsimp only);have a0:=h.c10;have a1:=h.c1;grind (splits:=40)
  c10c:=by (try dsimp only);have a0:=h.c10c;have a1:=h.c1;grind (splits:=40)
  c11:=by (try dsimp only);have a0:=h.c11;have a1:=h.c1;have a2:=h.c3;have a3:=h.c16b;have a4:=h.f2;grind (splits:=40)
  c13:=by (try dsimp only);have a0:=h.c13;have a1:=h.c1;have a2:=h.c3;grind (splits:=40)
  c14:=by (try dsimp only);have a0:=h.c14;have a1:=h.c1;have a2:=h.c3;have a3:=h.c16b;have a4:=h.f2;grind (splits:=40)
  c15:=by (try dsimp only);have a0:=h.c15;have a1:=h.c1;have a2:=h.c3;grind (splits:=40)
  c16:=by (try dsimp only);have a0:=h.c16;have a1:=h.c1;have a2:=h.c3;grind (splits:=40)
  c16b:=by (try dsimp only);have a0:=h.c16b;have a1:=h.c1;have a2:=h.c3;grind (splits:=40)
  c16c:=by (try dsimp only);have a0:=h.c16c;have a1:=h.c1;have a2:=h.c3;grind (splits:=40)
  c17:=by (try dsimp only);have a0:=h.c17;have a1:=h.c1;have a2:=h.c3;grind (splits:=40)
  c18:=by (try dsimp only);have a0:=h.c18;have a1:=h.c1;have a2:=h.c3;grind (splits:=40)
  f8:=by (try dsimp only);have a0:=h.f8;have a1:=h.f2;grind (splits:=40)
  w1:=by (try dsimp only);have a0:=h.w1;have a1:=h.g1;have a2:=h.f2;grind (splits:=40)
  w3b:=by (try dsimp only);have a0:=h.w3b;have a1:=h.f2;grind (splits:=40)}
section
variable {q:Pm} {s:Cs} {l:List Wk} {k:Nat}
theorem ld_fill (ws:List Int) {a b:Int} (hb:0≤b) (m n:Int):ldW (fillW ws a m n) b=if a≤b∧b - a < m∧b < ws.length then n else ldW ws b:=by
 unfold ldW fillW;rw[List.getD_eq_getElem?_getD,List.getElem?_mapIdx,List.getD_eq_getElem?_getD]
 cases c:ws[b.toNat]? with
 | none=>have:=List.getElem?_eq_none_iff.1 c;rw[if_neg ka];rfl
 | some x=>
  have:=(List.getElem?_eq_some_iff.1 c).1;simp only[Option.map_some,Option.getD_some];by_cases d:a≤b∧b - a < m
  ·rw[if_pos ka,if_pos ka]
  ·rw[if_neg ka,if_neg ka]
theorem gds (l:List Bool) (i j:Nat) (b:Bool):(l.set i b).getD j false=if i=j∧i < l.length then b else l.getD j false:=by
 rw[List.getD_eq_getElem?_getD,List.getElem?_set,List.getD_eq_getElem?_getD];by_cases h:i=j
 ·subst h;by_cases c:i < l.length
  ·simp[c]
  ·simp[c]
 ·simp[h]
theorem fill_len (ws:List Int) (a m n:Int):(fillW ws a m n).length=ws.length:=by simp[fillW]
def newW (q:Pm) (ws:List Int) (id:Int):List Int:=fillW (fillW ws (q.frame id) q.room 0) (q.frame id) 1 1
theorem lw_new (h:q.Ok) {ws:List Int} (hw:(ws.length:Int)=q.size) {id:Int} (hid:1≤id∧id≤q.F) (b:Lo):
  lw q (newW q ws id) b=match b with|.d j i=>lw q ws (.d j i)|.f id' i=>if id'=id then (if i=0 then 1 else 0) else lw q ws (.f id' i):=by
 have hr:=h.room_in;have h0:okL q (.f id 0):=⟨hid,by omega,by omega⟩;have hfa:=ZB hid;by_cases c:okB q b=true
 ·have hb:=YI.1 c;have ⟨b1,b2⟩:=addr_in h hb;unfold lw newW;rw[if_pos c,ld_fill _ b1,ld_fill _ b1,fill_len,hfa]
  cases b with
  | d j i=>
   dsimp only;rw[if_pos c];have hn:¬(addr q (.f id 0)≤addr q (.d j i)∧addr q (.d j i) - addr q (.f id 0) < q.room):=by intro ⟨e1,e2⟩;have ho:okL q (.f id (addr q (.d j i) - addr q (.f id 0))):=⟨hid,by omega,e2⟩;have:=Y77 h hb ho (by show addr q (.d j i)=q.W * q.wide+((id - 1) * q.room+(addr q (.d j i) - addr q (.f id 0)));have:addr q (.f id 0)=q.W * q.wide+((id - 1) * q.room+0):=rfl;omega);cases this
   rw[if_neg ka,if_neg ka]
  | f id' i=>
   dsimp only;have e0:addr q (.f id 0)=q.W * q.wide+((id - 1) * q.room+0):=rfl;have e1:∀x y,addr q (.f x y)=q.W * q.wide+((x - 1) * q.room+y):=fun _ _=>rfl;obtain ⟨k1,k2,k3⟩:=hb;by_cases ci:id'=id
   ·subst ci;rw[if_pos rfl];by_cases c0:i=0
    ·subst c0;rw[if_pos rfl,if_pos ka]
    ·rw[if_neg c0,if_neg (by rw[e1,e1];omega),if_pos (by rw[e1,e1];rw[e1] at b2;omega)]
   ·rw[if_neg ci,if_pos c];have hn:¬(addr q (.f id 0)≤addr q (.f id' i)∧addr q (.f id' i) - addr q (.f id 0) < q.room):=by intro ⟨f1,f2⟩;have ho:okL q (.f id (addr q (.f id' i) - addr q (.f id 0))):=⟨hid,by omega,f2⟩;have:=Y77 h (a:=.f id' i) (b:=.f id (addr q (.f id' i) - addr q (.f id 0))) ⟨k1,k2,k3⟩ ho (by rw[e1 id];omega);injection this with z1 z2;exact ci z1
    rw[if_neg ka,if_neg ka]
 ·have e:lw q (newW q ws id) b=0:=if_neg c;rw[e]
  cases b with
  | d j i=>exact (if_neg c).symm
  | f id' i=>
   dsimp only;by_cases ci:id'=id
   ·subst ci;rw[if_pos rfl,if_neg];intro e0;subst e0;exact c (YI.2 h0)
   ·rw[if_neg ci];exact (if_neg c).symm
theorem X56 {f:Fm} {id:Int} {s':Cs} (e:makeF q s f=(some id,s')):∃b fr,s.nextId=some (id,b,fr)∧s'={ s with back:=b,fresh:=fr,held:=s.held.set id.toNat true,peak:=max s.peak (usedN (s.held.set id.toNat true)),fr:=s.fr.set id.toNat f,ws:=newW q s.ws id }:=by
 unfold makeF Cs.make Cs.take at e
 cases hn:s.nextId with
 | none=>rw[hn] at e;cases e
 | some x=>obtain ⟨id',b,fr⟩:=x;rw[hn] at e;cases e;exact ⟨b,fr,rfl,rfl⟩
theorem J1 (h:q.Ok) (hw:(s.ws.length:Int)=q.size) {f:Fm} {id:Int} {s':Cs} (hid:1≤id∧id≤q.F) (e:makeF q s f=(some id,s')):aDR q s' l=aDR q s l:=by obtain ⟨b,fr,_,rfl⟩:=X56 e;have hl:=lw_new h hw hid;apply DR.ext<;>simp only[aDR,hl]
theorem J2 (h:q.Ok) (hw:(s.ws.length:Int)=q.size) (hl:s.held.length=s.fr.length) (hF:(s.held.length:Int)=q.F+1) {f:Fm} {id:Int} {s':Cs} (hid:1≤id∧id≤q.F) (e:makeF q s f=(some id,s')):
  aRC q s' l={ aRC q s l with us:=updI (aRC q s l).us id true,fr:=updI (aRC q s l).fr id (feOf f),J:=updI (aRC q s l).J id 1,nap:=updI (aRC q s l).nap id 0,sw:=updZ (aRC q s l).sw id,lk:=updZ (aRC q s l).lk id,dn:=updZ (aRC q s l).dn id }:=by
 obtain ⟨b,fr,_,rfl⟩:=X56 e;have hlw:=lw_new h hw hid
 have hheld:∀j:Int,Cs.isHeld { s with back:=b,fresh:=fr,held:=s.held.set id.toNat true,peak:=max s.peak (usedN (s.held.set id.toNat true)),fr:=s.fr.set id.toNat f,ws:=newW q s.ws id } j=if j=id then true else s.isHeld j:=by
  intro j;unfold Cs.isHeld;dsimp only;rw[List.length_set,gds];by_cases c:j=id
  ·subst c;rw[if_pos ⟨rfl,by omega⟩,if_pos rfl];simp;omega
  ·rw[if_neg c];by_cases d:0 < j∧j < s.held.length
   ·rw[if_neg ka]
   ·simp[d]
 apply RC.ext<;>try rfl
 ·funext j;show Cs.isHeld _ j=if j=id then true else s.isHeld j;exact hheld j
 ·funext j;show feOf (Cs.at _ j)=if j=id then feOf f else feOf (s.at j);unfold Cs.at
  rw[hheld j];dsimp only;by_cases c:j=id
  ·subst c;rw[if_pos rfl,if_pos rfl,if_pos rfl,List.getD_eq_getElem?_getD,List.getElem?_set_self ka];rfl
  ·rw[if_neg c,if_neg c];split
   ·rename_i hj;have hj0:0 < j:=by unfold Cs.isHeld at hj;simp at hj;exact hj.1.1
    rw[List.getD_eq_getElem?_getD,List.getElem?_set_ne ka,List.getD_eq_getElem?_getD]
   ·rfl
 ·funext j;show lw q (newW q s.ws id) (.f j 0)=if j=id then 1 else lw q s.ws (.f j 0);rw[hlw];simp
 ·funext j;show lw q (newW q s.ws id) (.f j 1)=if j=id then 0 else lw q s.ws (.f j 1);rw[hlw];simp
 all_goals
  funext j i;simp only[aRC,updZ,hlw];by_cases c:j=id
  ·subst c;simp only[if_true];split
   ·rw[if_neg ka]
   ·rfl
  ·simp only[if_neg c]
theorem rc_free {id:Int} (hh:s.isHeld id=true):aRC q (s.free id) l={ aRC q s l with us:=updI (aRC q s l).us id false,fr:=updI (aRC q s l).fr id (feOf fm0) }:=by
 have hb:0 < id∧id < s.held.length:=by unfold Cs.isHeld at hh;simp at hh;exact hh.1
 have e:s.free id={ s with held:=s.held.set id.toNat false,back:=s.back++[id] }:=if_pos hh
 have hheld:∀j:Int,Cs.isHeld { s with held:=s.held.set id.toNat false,back:=s.back++[id] } j=if j=id then false else s.isHeld j:=by
  intro j;unfold Cs.isHeld;dsimp only;rw[List.length_set,gds];by_cases c:j=id
  ·subst c;rw[if_pos ⟨rfl,by omega⟩,if_pos rfl];simp
  ·rw[if_neg c];by_cases d:0 < j∧j < s.held.length
   ·rw[if_neg ka]
   ·simp[d]
 rw[e];apply RC.ext<;>try rfl
 ·funext j;exact hheld j
 ·funext j;show feOf (Cs.at _ j)=if j=id then feOf fm0 else feOf (s.at j);unfold Cs.at
  rw[hheld j];by_cases c:j=id
  ·rw[if_pos c,if_pos c];rfl
  ·rw[if_neg c,if_neg c]
theorem dr_free (id:Int):aDR q (s.free id) l=aDR q s l:=by unfold Cs.free;split<;>rfl
end
end Go.Proofs.YtelibaobkcokdaaGreat.Mx.In
namespace Go.Proofs.YtelibaobkcokdaaGreat
open Go Go.Kx Go.Proofs
set_option linter.unusedVariables false
set_option maxRecDepth 100000
set_option maxHeartbeats 16000000
noncomputable def Zo:=qH Tryz.prog 54
end Go.Proofs.YtelibaobkcokdaaGreat
namespace Go.Proofs.YtelibaobkcokdaaGreat
set_option linter.unusedVariables false
set_option linter.unusedSimpArgs false
open Go Go.Kx Go.Proofs
set_option maxRecDepth 100000
set_option maxHeartbeats 16000000
noncomputable def ZV:=qG Tryz.prog 20
set_option maxHeartbeats 8000000 in
theorem J3 (m:Int) (fs:List (List Ix)) (hl:fs.length≤9223372036854775807):FnP Tryz.prog 54 [.agg (aPr m fs)] fun a=>∃b,a=aBool b∧(b=false→okF fs):=by
 refine Qj Zo.2 mixed rfl (by simp[AV.pureL,AV.pure,Zv]) ?_;simp only[Zo,qH];have hac:(AV.agg (aPr m fs)).cells=aPr m fs:=rfl;have g1:(aPr m fs)[1]?=some (.sl fs.length (fs.map aIxs) .none):=rfl;push_cast -implicitDefEqProofs (disch:=omega);refine Qs ?_;by_cases h40:40 < fs.length
 ·push_cast -implicitDefEqProofs (disch:=omega)[hac,g1,h40];exact ⟨[],rfl,true,rfl,by simp⟩
 push_cast -implicitDefEqProofs (disch:=omega)[hac,g1,h40]
 refine ZE (α:=Nat) (I:=fun k ε σ=>(ε 1=.ref 0 0 0∧ε 3=.v (.int .i64 k))∧k≤fs.length∧σ[0]?=some (.obj 0 (aPr m fs))∧∀l∈fs.take k,l.length≤300)
  (μ:=fun k=>fs.length - k) (Q:=fun ε σ=>∀l∈fs,l.length≤300) (x:=0) ?_ ?_ ?_
 ·push_cast -implicitDefEqProofs (disch:=omega)
  first|exact ⟨by omega,rfl,fun l hl=>by simp at hl⟩|exact ⟨by omega,fun l hl=>by simp at hl⟩|exact fun l hl=>by simp at hl
 ·rintro k ε σ N E ⟨hρ,hk,hs,hall⟩ hN hE;by_cases hlt:k < fs.length
  ·obtain ⟨l,hl'⟩:=Q23 hlt;have hIL:aIxs l=.sl l.length (l.flatMap aIx) .none:=rfl;by_cases h300:300 < l.length
   ·push_cast -implicitDefEqProofs (disch:=omega)[hρ,hs,g1,hl',hIL,h300];exact ⟨[],rfl,true,rfl,by simp⟩
   ·push_cast -implicitDefEqProofs (disch:=omega)[hρ,hs,g1,hl',hIL,h300];refine hN (k+1) _ _ ⟨by push_cast -implicitDefEqProofs (disch:=omega)[hρ],by omega,hs,fun x hx=>?_⟩ ka;rw[Qp hl'] at hx;rcases List.mem_append.1 hx with hx|hx
    ·exact hall x hx
    ·simp at hx;subst hx;omega
  ·push_cast -implicitDefEqProofs (disch:=omega)[hρ,hs,g1];refine hE _ _ ?_;rw[List.take_of_length_le ka] at hall;exact hall
 ·intro ε σ hall;push_cast -implicitDefEqProofs (disch:=omega);exact ⟨[],rfl,false,rfl,fun _=>⟨by omega,hall⟩⟩
set_option maxHeartbeats 8000000 in
theorem Y14 (m:Int) (fs:List (List Ix)) (hf:okF fs):FnP Tryz.prog 20 [.agg (aPr m fs)] fun a=>a=.agg (aPr m fs):=by
 refine ⟨by simp[AV.pureL,AV.pure,Zv],FnG.fz ?_⟩;refine Y71 ZV.2 mixed rfl ?_;simp only[ZV,qG];obtain ⟨hf1,hf2⟩:=hf;have hac:(AV.agg (aPr m fs)).cells=aPr m fs:=rfl;have g0:(aPr m fs)[0]?=some (.v (.int .i64 m)):=rfl;have g1:(aPr m fs)[1]?=some (.sl fs.length (fs.map aIxs) .none):=rfl;have hb:fillA [AV.v (.int .i64 0),AV.sl 0 [] .nil] [(0,1)] [AV.v (.int .i64 m)]=some [AV.v (.int .i64 m),AV.sl 0 [] .nil]:=by simp[fillA,AV.cells,Value.cells,setAtA]
 refine Qc (fun ε σ=>(ε 1=.ref 0 0 0∧ε 2=.ref 1 0 0)∧σ=[.obj 0 (aPr m fs),.obj 0 [.v (.int .i64 0),.sl 0 [] .nil]]) ?_ ?_
 ·intro N X R hN;push_cast -implicitDefEqProofs (disch:=omega);refine Qs ?_;push_cast -implicitDefEqProofs (disch:=omega)[hac];refine Qm ?_;push_cast -implicitDefEqProofs (disch:=omega);exact hN _ _ (by push_cast -implicitDefEqProofs (disch:=omega))
 rintro ε σ ⟨hρ,rfl⟩;refine Qc (fun ε σ=>(ε 1=.ref 0 0 0∧ε 2=.ref 1 0 0∧ε 3=.ref 2 0 0)∧σ=[.obj 0 (aPr m fs),.obj 0 [.v (.int .i64 0),.sl 0 [] .nil],.obj 0 [.v (.int .i64 m),.sl 0 [] .nil]]) ?_ ?_
 ·intro N X R hN;push_cast -implicitDefEqProofs (disch:=omega)[hρ,g0,hb];refine Qm ?_;push_cast -implicitDefEqProofs (disch:=omega);refine Qd (cs:=[AV.v (.int .i64 0),AV.sl 0 [] .nil]) rfl rfl rfl ko ?_;have hset:setAtA [AV.v (.int .i64 0),AV.sl 0 [] .nil] 0 [AV.v (.int .i64 m),AV.sl 0 [] .nil]=[AV.v (.int .i64 m),AV.sl 0 [] .nil]:=rfl;rw[hset];push_cast -implicitDefEqProofs (disch:=omega);exact hN _ _ oz
 clear hρ ε;rintro ε σ ⟨hρ,rfl⟩;refine Qc (fun ε σ=>(ε 2=.ref 1 0 0∧ε 3=.ref 2 0 0)∧∃w,σ=[.obj 0 (aPr m fs),.obj 0 [.v (.int .i64 0),.sl 0 [] .nil],.obj 0 [.v (.int .i64 m),.sl fs.length (fs.map aIxs) (.id 3 w 1)],.tail w]) ?_ ?_
 ·intro N X R hN;push_cast -implicitDefEqProofs (disch:=omega)[hρ]
  refine Y8 (GU.tokO (i:=2) (j:=1) 1 rfl rfl) (α:=Nat) (I:=fun k ε σ=>(ε 1=.ref 0 0 0∧ε 2=.ref 1 0 0∧ε 3=.ref 2 0 0∧ε 4=.v (.int .i64 k))∧k≤fs.length∧∃w,σ=[.obj 0 (aPr m fs),.obj 0 [.v (.int .i64 0),.sl 0 [] .nil],.obj 0 [.v (.int .i64 m),.sl k ((fs.take k).map aIxs) (.id 3 w 1)],.tail w])
   (μ:=fun k=>fs.length - k) (Q:=fun ε σ=>(ε 2=.ref 1 0 0∧ε 3=.ref 2 0 0)∧∃w,σ=[.obj 0 (aPr m fs),.obj 0 [.v (.int .i64 0),.sl 0 [] .nil],.obj 0 [.v (.int .i64 m),.sl fs.length (fs.map aIxs) (.id 3 w 1)],.tail w]) (x:=0) ?_ ?_ hN
  ·push_cast -implicitDefEqProofs (disch:=omega)[hρ];exact ⟨by omega,0,rfl⟩
  ·clear hN N X R hρ ε;rintro k ε σ N E X R ⟨hρ,hk,w,rfl⟩ hN hE;by_cases hlt:k < fs.length
   ·obtain ⟨l,hl⟩:=Q23 hlt;have hll:=hf2 l (List.mem_of_getElem? hl);have hIL:aIxs l=.sl l.length (l.flatMap aIx) .none:=rfl;have hfl:=Q36 X04 l;have hex:(AV.sl k ((fs.take k).map aIxs) (.id 3 w 1)).exact=true:=rfl;have hlk:(fs.take k).length=k:=by rw[List.length_take];omega
    push_cast -implicitDefEqProofs (disch:=omega)[hρ,g1,hl];refine QA (sz:=4) (by intro a ha;simp at ha) ke ?_;push_cast -implicitDefEqProofs (disch:=omega)[hIL];refine QP (m:=l.length) rfl rfl hfl (by rw[List.all_flatMap];simp only[show ∀x,(aIx x).all AV.one=true from fun x=>rfl];simp) rfl ka ka ?_;push_cast -implicitDefEqProofs (disch:=omega)[hρ];refine ⟨by first|exact hex|exact Qw (by push_cast -implicitDefEqProofs (disch:=omega)[hρ,hex]),?_⟩;refine QA (sz:=1) oG ke ?_;push_cast -implicitDefEqProofs (disch:=omega);refine ⟨by first|exact hex|exact Qw (by push_cast -implicitDefEqProofs (disch:=omega)[hρ,hex]),?_⟩;refine X44 (m:=1) rfl rfl rfl rfl eG ka ka rfl ?_;push_cast -implicitDefEqProofs (disch:=omega)[hρ];refine Q9 rfl rfl rfl ke ?_;push_cast -implicitDefEqProofs (disch:=omega)[hρ];refine hN (k+1) _ _ ⟨by push_cast -implicitDefEqProofs (disch:=omega)[hρ],by omega,w+1,?_⟩ ka;rw[Qp hl];simp[AV.cells,aIxs,aSlN]
   ·push_cast -implicitDefEqProofs (disch:=omega)[hρ,g1];obtain rfl:k=fs.length:=by omega
    rw[List.take_length];exact hE _ _ ⟨by push_cast -implicitDefEqProofs (disch:=omega)[hρ],w,rfl⟩
 clear hρ ε;rintro ε σ ⟨hρ,w,rfl⟩;have hc2:cellsA (some 2) [AV.v (.int .i64 m),.sl fs.length (fs.map aIxs) (.id 3 w 1)]=some (.agg [AV.v (.int .i64 m),.sl fs.length (fs.map aIxs) (.id 3 w 1)]):=rfl;push_cast -implicitDefEqProofs (disch:=omega)[hρ,hc2];refine Qd (cs:=[AV.v (.int .i64 0),AV.sl 0 [] .nil]) rfl rfl rfl ko ?_;have hset:setAtA [AV.v (.int .i64 0),AV.sl 0 [] .nil] 0 [AV.v (.int .i64 m),.sl fs.length (fs.map aIxs) (.id 3 w 1)]=[AV.v (.int .i64 m),.sl fs.length (fs.map aIxs) (.id 3 w 1)]:=rfl;rw[hset];push_cast -implicitDefEqProofs (disch:=omega)[hρ,hc2];have hr:∀σ,(AV.agg [AV.v (.int .i64 m),.sl fs.length (fs.map aIxs) (.id 3 w 1)]).res σ=.agg (aPr m fs):=fun σ=>by have h1:=aFs_res σ fs (.id 3 w 1);simp only[AV.res,AV.resL] at h1 ⊢;rw[h1];rfl
 refine ⟨[],?_,?_⟩
 ·rw[hr];simp[AV.pure,Zv]
 ·rw[hr]
end Go.Proofs.YtelibaobkcokdaaGreat
namespace Go.Proofs.YtelibaobkcokdaaGreat
open Go Go.Kx Go.Proofs
set_option linter.unusedVariables false
set_option maxRecDepth 100000
set_option maxHeartbeats 16000000
noncomputable def Zp:=qH Tryz.prog 17
noncomputable def ZW:=qH Tryz.prog 41
noncomputable def Zq:=qH Tryz.prog 53
noncomputable def Q91:=qG Tryz.prog 40
end Go.Proofs.YtelibaobkcokdaaGreat
