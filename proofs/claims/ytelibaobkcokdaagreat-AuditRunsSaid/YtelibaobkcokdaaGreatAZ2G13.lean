/- The machine's invariant: all but deques. -/
import Derived.Test.YtelibaobkcokdaaGreatAZ2G12
namespace Go.Proofs.YtelibaobkcokdaaGreat.Mx.In
set_option linter.unusedVariables false
set_option linter.unusedSimpArgs false
open Go Go.Kx Go.Proofs Go.Proofs.YtelibaobkcokdaaGreat Go.Proofs.YtelibaobkcokdaaGreat.Mx
set_option linter.unusedSectionVars false
structure Fe where
 kind:Int
 parent:Int
 dirty:Bool
 index:Int
 stage:Int
 started:Int
 serial:Int
@[ext] structure RC where
 st:Nat→Int
 ho:Nat→Int
 ot:Nat→Int
 px:Nat→Int
 th:Nat→Th
 gS:Nat→Int
 gy:Nat→Int
 eH:Nat→Bool
 eR:Nat→Int
 eW:Nat→Bool
 rt:Nat→Rt
 pk:Nat→Pk
 wa:Nat→Tw
 np:Nat→Tw
 us:Int→Bool
 fr:Int→Fe
 J:Int→Int
 nap:Int→Int
 sw:Int→Int→Int
 lk:Int→Int→Int
 dn:Int→Int→Int
 S:Int
def ht (st wat:Int):Tg:=if st=5∨st=18 then .jn else if st=16∨(st=15∧1≤wat) then .lt else .hold
def emp (st:Int):Bool:=decide (st=0∨st=1∨st=2∨st=7∨st=8∨st=13∨st=17∨st=20)
def isLt:Pc→Bool|.own _ .lt=>true|_=>false
def isMk:Pc→Bool|.own _ .mk=>true|_=>false
def tokc:Pc→Int|.sync=>0|.fin=>0|.own _ .jn=>0|_=>1
attribute [grind] ht emp isLt isMk tokc
def chF (r:RC) (P:Int→Pc) (id:Int):Int:=if P id≠.free∧isMk (P id)=false∧(r.fr id).kind≠3 then (r.fr id).parent else 0
def chW (r:RC) (k:Nat):Int:=if r.st k=7 then r.ot k else 0
def wk2 (th:Th):Bool:=match th with|.looksOn|.decide|.stop=>true|_=>false
attribute [grind] wk2 chF chW
def updZ (f:Int→Int→Int) (a:Int):Int→Int→Int:=fun x i=>if x=a then 0 else f x i
@[grind =] theorem updZ_at (f:Int→Int→Int) (a x i:Int):updZ f a x i=if x=a then 0 else f x i:=rfl
def upd2 (f:Int→Int→Int) (a b v:Int):Int→Int→Int:=fun x i=>if x=a∧i=b then v else f x i
@[grind =] theorem upd2_at (f:Int→Int→Int) (a b v x i:Int):upd2 f a b v x i=if x=a∧i=b then v else f x i:=rfl
theorem ct {A:Prop} (h:A:=by first|exact a0|((try dsimp only);(try clear hz);(try clear hT0);(try clear hI);(try simp only[d0,d1,d2,d3,d4,d5]);grind (splits:=40))):A:=h
structure CI (T W:Int) (sI:Int→Int) (tk:Int→Int→Int→Int) (r:RC) (P:Int→Pc) (cn:Int→Int) (rg:Nat→Int) (pc:Int→Int→Int):Prop where
 c1:∀k:Nat,(k:Int) < W→r.ho k≠0→P (r.ho k)=.own k (ht (r.st k) (r.wa k).at_):=by have a0:=h.c1;exact ct
 c2:∀k:Nat,(k:Int) < W→emp (r.st k)=true→r.ho k=0:=by have a0:=h.c2;exact ct
 c3:∀k:Nat,(k:Int) < W→emp (r.st k)=false→r.st k≠3→r.ho k≠0:=by have a0:=h.c3;exact ct
 c4:∀k:Nat,(k:Int) < W→r.st k=17→P (r.ot k)=.own k .oth∧(r.fr (r.ot k)).kind=3:=by have a0:=h.c4;exact ct
 c5:∀k:Nat,(k:Int) < W→r.st k=13→(r.pk k).next=0→P (r.ot k)=.own k .oth∧(r.fr (r.ot k)).kind=2∧(r.fr (r.ot k)).dirty=false∧(r.pk k).r.id=(r.fr (r.ot k)).parent∧(r.pk k).r.serial=(r.fr (r.fr (r.ot k)).parent).serial∧(r.pk k).it=(r.fr (r.ot k)).index∧(r.pk k).stage=(r.fr (r.ot k)).stage:=by have a0:=h.c5;exact ct
 c5b:∀k:Nat,(k:Int) < W→r.st k=13→(r.pk k).next=0∨(r.pk k).next=1∨(r.pk k).next=2:=by have a0:=h.c5b;exact ct
 c5c:∀k:Nat,(k:Int) < W→r.st k=13→∀c,P c≠.free→(r.fr c).kind=2→(r.fr c).parent=(r.pk k).r.id→(r.fr (r.pk k).r.id).serial=(r.pk k).r.serial→(r.fr c).index=(r.pk k).it→c=r.ot k:=by have a0:=h.c5c;exact ct
 c5d:∀k:Nat,(k:Int) < W→r.st k=13→P (r.pk k).r.id≠.free→(r.fr (r.pk k).r.id).kind=3→(r.fr (r.pk k).r.id).serial=(r.pk k).r.serial→(r.pk k).it < (r.fr (r.pk k).r.id).started:=by have a0:=h.c5d;exact ct
 c5e:∀k:Nat,(k:Int) < W→r.st k=13→(1≤(r.pk k).r.serial∧(r.pk k).r.serial≤r.S)∧(0≤(r.pk k).it∧(r.pk k).it < 1000000)∧(0≤(r.pk k).stage∧(r.pk k).stage < 1048576)∧r.ot k≠0:=by have a0:=h.c5e;exact ct
 c6:∀k:Nat,(k:Int) < W→r.st k=20→(r.np k).r.id=r.ot k∧((r.np k).at_=0∨(r.np k).at_=1∨(r.np k).at_=2)∧(1≤(r.np k).r.serial∧(r.np k).r.serial≤r.S)∧(0≤(r.np k).it∧(r.np k).it < 1000000)∧r.ot k≠0:=by have a0:=h.c6;exact ct
 c6b:∀k:Nat,(k:Int) < W→r.st k=20→(r.np k).at_=0→P (r.ot k)=.own k .oth∧(r.fr (r.ot k)).kind=3∧(r.fr (r.ot k)).serial=(r.np k).r.serial∧(r.np k).it=(r.fr (r.ot k)).started - T:=by have a0:=h.c6b;exact ct
 c6c:∀k:Nat,(k:Int) < W→r.st k=20→(r.np k).at_=2→P (r.ot k)≠.free→(r.fr (r.ot k)).kind=3→(r.fr (r.ot k)).serial=(r.np k).r.serial→∀c,P c≠.free→(r.fr c).kind=2→(r.fr c).parent=r.ot k→(r.fr c).index=(r.np k).it→isLt (P c)=true:=by have a0:=h.c6c;exact ct
 c6d:∀k:Nat,(k:Int) < W→r.st k=20→P (r.ot k)≠.free→(r.fr (r.ot k)).kind=3→(r.fr (r.ot k)).serial=(r.np k).r.serial→(r.np k).it < (r.fr (r.ot k)).started:=by have a0:=h.c6d;exact ct
 c7:∀k:Nat,(k:Int) < W→r.st k=6→P (r.ot k)=.own k .mk∧(r.fr (r.ot k)).kind=1∧(r.fr (r.ot k)).parent=r.ho k∧r.ot k≠0∧(r.fr (r.ho k)).dirty=true:=by have a0:=h.c7;exact ct
 c7b:∀k:Nat,(k:Int) < W→r.st k=22∨r.st k=23∨r.st k=24→P (r.ot k)=.own k .mk∧(r.fr (r.ot k)).kind=2∧(r.fr (r.ot k)).dirty=false∧(r.fr (r.ot k)).parent=r.ho k∧(r.fr (r.ot k)).stage=0∧(r.fr (r.ot k)).index=(r.fr (r.ho k)).started - 1∧r.ot k≠0:=by have a0:=h.c7b;exact ct
 c7c:∀k:Nat,(k:Int) < W→r.st k=24→r.lk (r.ho k) (sI (r.fr (r.ot k)).index)=r.ot k:=by have a0:=h.c7c;exact ct
 c8:∀k:Nat,(k:Int) < W→r.st k=8→P (r.ot k)=.own k .jn∧(r.fr (r.ot k)).kind≠3∧r.ot k≠0:=by have a0:=h.c8;exact ct
 c9:∀k:Nat,(k:Int) < W→r.st k=7→r.ot k≠0∧P (r.ot k)≠.free∧(r.fr (r.ot k)).kind≠3:=by have a0:=h.c9;exact ct
 c10:∀k:Nat,(k:Int) < W→r.st k=3→∀id,r.th k=.runs id→r.ho k≠0∧r.px k=r.ho k∧(r.fr (r.ho k)).kind≠3∧P id=.own k .oth∧(r.fr id).kind=1∧id≠0∧(r.fr (r.ho k)).dirty=true:=by have a0:=h.c10;exact ct
 c10b:∀k:Nat,(k:Int) < W→r.st k=3→∀id,r.th k=.takes id→r.ho k=0∧P (r.px k)=.own k .psh∧P id=.own k .oth∧id≠0∧r.px k≠0:=by have a0:=h.c10b;exact ct
 c10c:∀k:Nat,(k:Int) < W→r.st k=3→wk2 (r.th k)=true→r.ho k≠0∧(r.fr (r.ho k)).kind=2∧(r.fr (r.ho k)).dirty=false∧P (r.px k)=.own k .psh∧r.px k≠0:=by have a0:=h.c10c;exact ct
 c10d:∀k:Nat,(k:Int) < W→r.st k=3→r.th k≠.none:=by have a0:=h.c10d;exact ct
 c11:∀k:Nat,(k:Int) < W→r.st k=11→(r.rt k).r.id=(r.fr (r.ho k)).parent∧(r.rt k).r.serial=(r.fr (r.fr (r.ho k)).parent).serial∧(r.rt k).it=(r.fr (r.ho k)).index+1∧((r.rt k).next=0∨(r.rt k).next=1∨(r.rt k).next=2)∧(0≤(r.rt k).stage∧(r.rt k).stage < 1048576)∧(r.gy k=0∨r.gy k=1∨r.gy k=2):=by have a0:=h.c11;exact ct
 c11b:∀k:Nat,(k:Int) < W→r.st k=11→(r.rt k).next=2→P (rg k)=.own k .rgt∧(r.fr (rg k)).kind=2∧(r.fr (rg k)).parent=(r.rt k).r.id∧(r.fr (rg k)).index=(r.rt k).it∧rg k≠0:=by have a0:=h.c11b;exact ct
 c12:∀k:Nat,(k:Int) < W→r.st k=15∨r.st k=16→r.eR k=0∨(P (r.eR k)=.own k .rgt∧(r.fr (r.eR k)).kind=2):=by have a0:=h.c12;exact ct
 c13:∀k:Nat,(k:Int) < W→r.st k=16→r.eW k=true→P (r.fr (r.ho k)).parent=.own k .wok:=by have a0:=h.c13;exact ct
 c14:∀k:Nat,(k:Int) < W→r.st k=15→(r.wa k).r.id=(r.fr (r.ho k)).parent∧(r.wa k).r.serial=(r.fr (r.fr (r.ho k)).parent).serial∧(r.wa k).it=(r.fr (r.ho k)).index∧((r.wa k).at_=0∨(r.wa k).at_=1∨(r.wa k).at_=2):=by have a0:=h.c14;exact ct
 c15:∀k:Nat,(k:Int) < W→r.st k=9→(r.fr (r.ho k)).stage < r.gS k∧r.gS k < 1048576:=by have a0:=h.c15;exact ct
 c16:∀k:Nat,(k:Int) < W→r.st k=4∨r.st k=5∨r.st k=6→(r.fr (r.ho k)).kind≠3:=by have a0:=h.c16;exact ct
 c16b:∀k:Nat,(k:Int) < W→r.st k=9∨r.st k=10∨r.st k=11∨r.st k=12∨r.st k=14∨r.st k=15∨r.st k=16→(r.fr (r.ho k)).kind=2∧(r.fr (r.ho k)).dirty=false:=by have a0:=h.c16b;exact ct
 c16c:∀k:Nat,(k:Int) < W→r.st k=18∨r.st k=19∨r.st k=21∨r.st k=22∨r.st k=23∨r.st k=24→(r.fr (r.ho k)).kind=3:=by have a0:=h.c16c;exact ct
 c17:∀k:Nat,(k:Int) < W→r.st k=14∨r.st k=15∨r.st k=16∨(r.st k=11∧r.gy k=2)→(r.eH k=true↔(r.fr (r.ho k)).stage=0):=by have a0:=h.c17;exact ct
 c18:∀k:Nat,(k:Int) < W→r.st k=21→∀c,P c≠.free→(r.fr c).kind=2→(r.fr c).parent=r.ho k→isLt (P c)=false→(r.fr (r.ho k)).started - T < (r.fr c).index:=by have a0:=h.c18;exact ct
 f0:∀id,r.us id=true↔P id≠.free:=by have a0:=h.f0;exact ct
 f0b:∀id,P id≠.free→0 < id:=by have a0:=h.f0b;exact ct
 f1:∀id,P id≠.free→(r.fr id).kind=1∨(r.fr id).kind=2∨(r.fr id).kind=3:=by have a0:=h.f1;exact ct
 f2:∀id,P id≠.free→(r.fr id).kind=2→P (r.fr id).parent≠.free∧(r.fr (r.fr id).parent).kind=3∧0≤(r.fr id).index∧(r.fr id).index < (r.fr (r.fr id).parent).started:=by have a0:=h.f2;exact ct
 f3:∀id,P id≠.free→(r.fr id).kind=3→P (r.fr id).parent=.pipe id∧(r.fr (r.fr id).parent).kind≠3∧(1≤(r.fr id).serial∧(r.fr id).serial≤r.S)∧0≤(r.fr id).started:=by have a0:=h.f3;exact ct
 f4:∀id,P id≠.free→(r.fr id).kind=1→(r.fr id).parent=0∨(P (r.fr id).parent≠.free∧(r.fr (r.fr id).parent).kind≠3):=by have a0:=h.f4;exact ct
 f5:∀id,P id≠.free→0≤(r.fr id).stage∧(r.fr id).stage < 1048576∧(r.fr id).started < 1000000:=by have a0:=h.f5;exact ct
 f6:∀a b,P a≠.free→P b≠.free→(r.fr a).kind=2→(r.fr b).kind=2→(r.fr a).parent=(r.fr b).parent→(r.fr a).index=(r.fr b).index→a=b:=by have a0:=h.f6;exact ct
 f7:∀a b,P a≠.free→P b≠.free→(r.fr a).kind=3→(r.fr b).kind=3→(r.fr a).serial=(r.fr b).serial→a=b:=by have a0:=h.f7;exact ct
 f8:∀c,P c≠.free→(r.fr c).kind=2→isLt (P c)=false→(r.fr (r.fr c).parent).started - T≤(r.fr c).index:=by have a0:=h.f8;exact ct
 f9:∀c,P c≠.free→(r.fr c).kind=2→(r.fr c).stage=0→isMk (P c)=false→P (r.fr c).parent=.below c∧(r.fr c).index=(r.fr (r.fr c).parent).started - 1:=by have a0:=h.f9;exact ct
 g1:∀id,P id=.parked→(r.fr id).kind=2:=by have a0:=h.g1;exact ct
 g2:∀id,P id=.nap→(r.fr id).kind=3:=by have a0:=h.g2;exact ct
 g3:∀id,P id=.sync→(r.fr id).kind≠3:=by have a0:=h.g3;exact ct
 g4:∀id l,P id=.pipe l→(r.fr id).kind≠3:=by have a0:=h.g4;exact ct
 g5:∀id c,P id=.below c→(r.fr id).kind=3:=by have a0:=h.g5;exact ct
 g6:∀id,P id=.fin→(r.fr id).kind=3:=by have a0:=h.g6;exact ct
 g7:∀id k,P id=.own k .jn→cn id=0:=by have a0:=h.g7;exact ct
 g8:∀id k,P id=.own k .mk→(k:Int) < W∧(r.st k=6∨r.st k=22∨r.st k=23∨r.st k=24)∧r.ot k=id:=by have a0:=h.g8;exact ct
 g9:∀id k,P id=.own k .wok→(r.fr id).kind=3:=by have a0:=h.g9;exact ct
 g10:∀id k,P id=.own k .rgt→(r.fr id).kind=2:=by have a0:=h.g10;exact ct
 h1:∀id,P id≠.free→(r.fr id).kind≠3→(r.fr id).dirty=false→cn id=0:=by have a0:=h.h1;exact ct
 h2:∀id,P id≠.free→r.J id=tokc (P id)+cn id:=by have a0:=h.h2;exact ct
 h3:∀id,P id=.free→cn id=0:=by have a0:=h.h3;exact ct
 w1:∀l i,r.sw l i≠0→P (pc l i)=.parked∧(r.fr (pc l i)).parent=l∧sI (r.fr (pc l i)).index=i∧r.sw l i=tk (r.fr l).serial (r.fr (pc l i)).index (r.fr (pc l i)).stage:=by have a0:=h.w1;exact ct
 w2:∀c,P c≠.free→(r.fr c).kind=2→isLt (P c)=false→isMk (P c)=false→r.lk (r.fr c).parent (sI (r.fr c).index)=c:=by have a0:=h.w2;exact ct
 w3:∀l i,P l≠.free→(r.fr l).kind=3→0≤i→i < 1000000→r.dn l (sI i)=tk (r.fr l).serial i 0→i < (r.fr l).started:=by have a0:=h.w3;exact ct
 w3b:∀c,P c≠.free→(r.fr c).kind=2→r.dn (r.fr c).parent (sI (r.fr c).index)=tk (r.fr (r.fr c).parent).serial (r.fr c).index 0→isLt (P c)=true:=by have a0:=h.w3b;exact ct
 s0:0≤r.S:=by have a0:=h.s0;exact ct
 w4:∀l,r.nap l≠0→P l=.nap∧0≤(r.fr l).started - T∧r.nap l=tk (r.fr l).serial ((r.fr l).started - T) 0:=by have a0:=h.w4;exact ct
end Go.Proofs.YtelibaobkcokdaaGreat.Mx.In
namespace Go.Proofs.YtelibaobkcokdaaGreat.Mx.In
set_option linter.unusedSectionVars false
set_option linter.unusedVariables false
set_option linter.unusedSimpArgs false
open Go Go.Kx Go.Proofs Go.Proofs.YtelibaobkcokdaaGreat Go.Proofs.YtelibaobkcokdaaGreat.Mx
set_option linter.unusedSectionVars false
def cnt:Nat→(Nat→Int)→Int→Int
 | 0,_,_=>0
 | n+1,f,p=>cnt n f p+if f n=p then 1 else 0
theorem X38 {n:Nat} {f g:Nat→Int} (p:Int) (h:∀i,i < n→g i=f i):cnt n g p=cnt n f p:=by
 induction n with
 | zero=>rfl
 | succ n ih=>simp only[cnt];rw[ih fun i hi=>h i ke,h n ke]
theorem Y97 {n:Nat} {f g:Nat→Int} {a:Nat} (ha:a < n) (h:∀i,i≠a→g i=f i) (p:Int):cnt n g p=cnt n f p - (if f a=p then 1 else 0)+(if g a=p then 1 else 0):=by
 induction n with
 | zero=>omega
 | succ n ih=>
  simp only[cnt];by_cases c:a=n
  ·subst c;rw[X38 p fun i hi=>h i ke];omega
  ·rw[ih ke,h n (fun e=>c e.symm)];omega
theorem cnt_nn (n:Nat) (f:Nat→Int) (p:Int):0≤cnt n f p:=by
 induction n with
 | zero=>simp[cnt]
 | succ n ih=>simp only[cnt];split<;>omega
theorem cnt_pos {n:Nat} {f:Nat→Int} {p:Int} {i:Nat} (hi:i < n) (h:f i=p):1≤cnt n f p:=by
 induction n with
 | zero=>omega
 | succ n ih=>
  simp only[cnt];by_cases c:i=n
  ·subst c;rw[if_pos h];have:=cnt_nn i f p;omega
  ·have:=ih ke;split<;>omega
def CNT (F W:Nat) (r:RC) (P:Int→Pc) (p:Int):Int:=cnt F (fun i=>chF r P ((i:Int)+1)) p+cnt W (chW r) p
structure NI (F W:Nat) (r:RC) (P:Int→Pc) (cn:Int→Int):Prop where
 n:∀p,p≠0→cn p=CNT F W r P p
 b:∀id,P id≠.free→0 < id∧id≤F
variable {T:Int} {F W:Nat} {sI:Int→Int} {tk:Int→Int→Int→Int} {r:RC} {P:Int→Pc} {cn:Int→Int} {rg:Nat→Int} {pc:Int→Int→Int}
theorem NI.child (h:NI F W r P cn) {c p:Int} (hp:p≠0) (h1:P c≠.free) (h2:isMk (P c)=false) (h3:(r.fr c).kind≠3) (h4:(r.fr c).parent=p):1≤cn p:=by
 have hb:=h.b c h1;rw[h.n p hp];have e:chF r P (((c - 1).toNat:Int)+1)=p:=by rw[show (((c - 1).toNat:Nat):Int)+1=c by omega];unfold chF;rw[if_pos ⟨h1,h2,h3⟩];exact h4
 have:=cnt_pos (n:=F) (f:=fun i=>chF r P ((i:Int)+1)) (p:=p) (i:=(c - 1).toNat) ke e;have:=cnt_nn W (chW r) p;unfold CNT;omega
theorem NI.arr (h:NI F W r P cn) {k:Nat} {p:Int} (hk:k < W) (hp:p≠0) (h1:r.st k=7) (h2:r.ot k=p):1≤cn p:=by
 rw[h.n p hp];have e:chW r k=p:=by unfold chW;rw[if_pos h1];exact h2
 have:=cnt_pos (n:=W) (f:=chW r) (p:=p) hk e;have:=cnt_nn F (fun i=>chF r P ((i:Int)+1)) p;unfold CNT;omega
theorem NI.nn (h:NI F W r P cn) {p:Int} (hp:p≠0):0≤cn p:=by rw[h.n p hp];have:=cnt_nn W (chW r) p;have:=cnt_nn F (fun i=>chF r P ((i:Int)+1)) p;unfold CNT;omega
theorem CI.hz (h:CI T W sI tk r P cn rg pc) (hn:NI F W r P cn) {k:Nat} (hk:k < W) (h0:r.ho k≠0) (hs:r.st k≠6∧r.st k≠22∧r.st k≠23∧r.st k≠24) (hc:cn (r.ho k)=0):
  (∀c,P c≠.free→(r.fr c).kind≠3→(r.fr c).parent≠r.ho k)∧∀j:Nat,(j:Int) < W→r.st j=7→r.ot j≠r.ho k:=by
 refine ⟨fun c h1 h3 h4=>?_,fun j hj h1 h2=>?_⟩
 ·cases hm:isMk (P c) with
  | false=>have:=hn.child h0 h1 hm h3 h4;omega
  | true=>
   obtain ⟨k',e⟩:∃k',P c=.own k' .mk:=by
    cases hP:P c<;>rw[hP] at hm<;>simp only[isMk] at hm<;>try cases hm
    rename_i k' t;cases t<;>simp only[isMk] at hm<;>first|exact ⟨k',rfl⟩|cases hm
   obtain ⟨a1,a2,a3⟩:=h.g8 c k' e;have e1:=h.c1 k ke h0
   have hpar:(r.fr c).parent=r.ho k':=by
    rcases a2 with a2|a2
    ·have:=(h.c7 k' a1 a2).2.2.1;rw[a3] at this;exact this
    ·have:=(h.c7b k' a1 a2).2.2.2.1;rw[a3] at this;exact this
   have e2:=h.c1 k' a1 (by rw[←hpar,h4];exact h0);rw[←hpar,h4,e1] at e2;injection e2 with e3;subst e3;omega
 ·have:=hn.arr (k:=j) ke h0 h1 h2;omega
theorem NI.same (h:NI F W r P cn) {r':RC} {P':Int→Pc} (h1:∀id,chF r' P' id=chF r P id) (h2:∀k,chW r' k=chW r k) (h3:∀id,P' id≠.free→0 < id∧id≤F):NI F W r' P' cn:=by refine ⟨fun p hp=>?_,h3⟩;rw[h.n p hp];unfold CNT;rw[X38 (n:=F) (f:=fun i=>chF r P ((i:Int)+1)) (g:=fun i=>chF r' P' ((i:Int)+1)) p (fun i _=>h1 _),X38 (n:=W) (f:=chW r) (g:=chW r') p (fun i _=>h2 i)]
theorem NI.id1 (h:NI F W r P cn) {r':RC} {P':Int→Pc} {cn':Int→Int} {a:Int} (ha:0 < a∧a≤F) (h1:∀id,id≠a→chF r' P' id=chF r P id) (h2:∀k,chW r' k=chW r k) (h3:∀id,P' id≠.free→0 < id∧id≤F)
  (hc:∀p,p≠0→cn' p=cn p - (if chF r P a=p then 1 else 0)+(if chF r' P' a=p then 1 else 0)):NI F W r' P' cn':=by
 refine ⟨fun p hp=>?_,h3⟩;rw[hc p hp,h.n p hp];unfold CNT;have e:((a - 1).toNat:Int)+1=a:=by omega
 have:=Y97 (n:=F) (f:=fun i=>chF r P ((i:Int)+1)) (g:=fun i=>chF r' P' ((i:Int)+1)) (a:=(a - 1).toNat) ke (fun i hi=>h1 _ ke) p;rw[X38 (n:=W) (f:=chW r) (g:=chW r') p (fun i _=>h2 i),this];simp only[e];omega
theorem NI.w1 (h:NI F W r P cn) {r':RC} {P':Int→Pc} {cn':Int→Int} {a:Nat} (ha:a < W) (h1:∀id,chF r' P' id=chF r P id) (h2:∀k,k≠a→chW r' k=chW r k) (h3:∀id,P' id≠.free→0 < id∧id≤F)
  (hc:∀p,p≠0→cn' p=cn p - (if chW r a=p then 1 else 0)+(if chW r' a=p then 1 else 0)):NI F W r' P' cn':=by
 refine ⟨fun p hp=>?_,h3⟩;rw[hc p hp,h.n p hp];unfold CNT;have:=Y97 (n:=W) (f:=chW r) (g:=chW r') (a:=a) ha h2 p;rw[X38 (n:=F) (f:=fun i=>chF r P ((i:Int)+1)) (g:=fun i=>chF r' P' ((i:Int)+1)) p (fun i _=>h1 _),this];omega
theorem NI.both (h:NI F W r P cn) {r':RC} {P':Int→Pc} {cn':Int→Int} {a:Int} {k:Nat} (ha:0 < a∧a≤F) (hk:k < W) (h1:∀id,id≠a→chF r' P' id=chF r P id) (h2:∀j,j≠k→chW r' j=chW r j) (h3:∀id,P' id≠.free→0 < id∧id≤F)
  (hc:∀p,p≠0→cn' p=cn p - (if chF r P a=p then 1 else 0)+(if chF r' P' a=p then 1 else 0) - (if chW r k=p then 1 else 0)+(if chW r' k=p then 1 else 0)):NI F W r' P' cn':=by
 refine ⟨fun p hp=>?_,h3⟩;rw[hc p hp,h.n p hp];unfold CNT;have e:((a - 1).toNat:Int)+1=a:=by omega
 have q1:=Y97 (n:=F) (f:=fun i=>chF r P ((i:Int)+1)) (g:=fun i=>chF r' P' ((i:Int)+1)) (a:=(a - 1).toNat) ke (fun i hi=>h1 _ ke) p;have q2:=Y97 (n:=W) (f:=chW r) (g:=chW r') (a:=k) hk h2 p;rw[q1,q2];simp only[e];omega
variable {T:Int} {F W:Nat} {sI:Int→Int} {tk:Int→Int→Int→Int} {r:RC} {P:Int→Pc} {cn:Int→Int} {rg:Nat→Int} {pc:Int→Int→Int}
structure CN (T:Int) (F W:Nat) (sI:Int→Int) (tk:Int→Int→Int→Int) (r:RC) (P:Int→Pc) (cn:Int→Int) (rg:Nat→Int) (pc:Int→Int→Int):Prop extends CI T (W:Int) sI tk r P cn rg pc where
 ni:NI F W r P cn:=by first|exact h.ni|((try have z0:=h.c1 k hk);(try have z1:=h.c3 k hk);(try clear hz);(try clear hT0);(try clear hI);exact h.ni.same (fun i=>by grind (splits:=40)) (fun j=>by grind (splits:=40)) (fun i=>by have a0:=h.f0b;have a1:=h.ni.b;grind (splits:=40)))
end Go.Proofs.YtelibaobkcokdaaGreat.Mx.In
namespace Go.Proofs.YtelibaobkcokdaaGreat.Mx.In
set_option linter.unusedVariables false
set_option linter.unusedSimpArgs false
open Go Go.Kx Go.Proofs Go.Proofs.YtelibaobkcokdaaGreat Go.Proofs.YtelibaobkcokdaaGreat.Mx
set_option linter.unusedSectionVars false
theorem mix_inj {w a b i j:Int} (h0:0≤i) (h1:i < w) (k0:0≤j) (k1:j < w) (e:a * w+i=b * w+j):a=b∧i=j:=by
 have ha:(i+a * w) / w=a:=by rw[Int.add_mul_ediv_right _ _ ke,Int.ediv_eq_zero_of_lt h0 h1];omega
 have hb:(j+b * w) / w=b:=by rw[Int.add_mul_ediv_right _ _ ke,Int.ediv_eq_zero_of_lt k0 k1];omega
 have hab:a=b:=by rw[←ha,←hb,Int.add_comm i,Int.add_comm j,e]
 subst hab;exact ⟨rfl,by omega⟩
inductive Lo|d (j:Nat) (i:Int)|f (id i:Int)
 deriving DecidableEq
def addr (q:Pm):Lo→Int
 | .d j i=>(j:Int) * q.wide+i
 | .f id i=>q.W * q.wide+((id - 1) * q.room+i)
def okL (q:Pm):Lo→Prop
 | .d j i=>(j:Int) < q.W∧0≤i∧i < q.wide
 | .f id i=>(1≤id∧id≤q.F)∧0≤i∧i < q.room
theorem addr_in {q:Pm} (h:q.Ok) {a:Lo} (ha:okL q a):0≤addr q a∧addr q a < q.size:=by
 have ⟨w1,w2⟩:=h.wide_in;have ⟨r1,r2⟩:=h.room_in;have hWW:=h.WW;have hFF:=h.FF
 cases a with
 | d j i=>obtain ⟨h1,h2,h3⟩:=ha;have e1:=Int.mul_le_mul_of_nonneg_right (show (j:Int)≤q.W - 1 by omega) (show 0≤q.wide by omega);have e2:=Int.mul_nonneg (show (0:Int)≤j by omega) (show 0≤q.wide by omega);rw[Int.sub_mul] at e1;simp only[addr,Pm.size];omega
 | f id i=>obtain ⟨⟨h1,h4⟩,h2,h3⟩:=ha;have e1:=Int.mul_le_mul_of_nonneg_right (show id - 1≤q.F - 1 by omega) (show 0≤q.room by omega);have e2:=Int.mul_nonneg (show (0:Int)≤id - 1 by omega) (show 0≤q.room by omega);rw[Int.sub_mul q.F] at e1;simp only[addr,Pm.size];omega
theorem Y98 {q:Pm} (h:q.Ok) {a b:Lo} (ha:okL q a) (hb:okL q b) (e:addr q a=addr q b):a=b:=by
 have ⟨w1,w2⟩:=h.wide_in;have ⟨r1,r2⟩:=h.room_in;have key:∀{j:Nat} {i id i':Int},okL q (.d j i)→okL q (.f id i')→addr q (.d j i)=addr q (.f id i')→False:=by intro j i id i' ⟨h1,h2,h3⟩ ⟨⟨k1,k4⟩,k2,k3⟩ e;have e1:=Int.mul_le_mul_of_nonneg_right (show (j:Int)≤q.W - 1 by omega) (show 0≤q.wide by omega);have e2:=Int.mul_nonneg (show (0:Int)≤id - 1 by omega) (show 0≤q.room by omega);rw[Int.sub_mul] at e1;simp only[addr] at e;omega
 cases a with
 | d j i=>
  cases b with
  | d j' i'=>
   obtain ⟨h1,h2,h3⟩:=ha;obtain ⟨k1,k2,k3⟩:=hb;obtain ⟨x,y⟩:=mix_inj h2 h3 k2 k3 e;have:j=j':=by omega
   subst this;subst y;rfl
  | f id i'=>exact (key ha hb e).elim
 | f id i=>
  cases b with
  | d j' i'=>exact (key hb ha e.symm).elim
  | f id' i'=>
   obtain ⟨h1,h2,h3⟩:=ha;obtain ⟨k1,k2,k3⟩:=hb;simp only[addr] at e;obtain ⟨x,y⟩:=mix_inj h2 h3 k2 k3 (show (id - 1) * q.room+i=(id' - 1) * q.room+i' by omega);have:id=id':=by omega
   subst this;subst y;rfl
theorem ld_st {q:Pm} (h:q.Ok) {ws:List Int} (hw:(ws.length:Int)=q.size) {a b:Lo} (ha:okL q a) (hb:okL q b) (v:Int):ldW (stW ws (addr q a) v) (addr q b)=if b=a then v else ldW ws (addr q b):=by
 have ⟨a1,a2⟩:=addr_in h ha;have ⟨b1,b2⟩:=addr_in h hb;unfold ldW stW;rw[List.getD_eq_getElem?_getD,List.getElem?_set];by_cases c:b=a
 ·subst c;rw[if_pos rfl,if_pos ke,if_pos rfl];rfl
 ·rw[if_neg c,if_neg,List.getD_eq_getElem?_getD];intro e;exact c (Y98 h hb ha ke)
theorem QR {q:Pm} {j:Nat} (hj:(j:Int) < q.W):q.base j=addr q (.d j 0):=by show _=(j:Int) * q.wide+0;unfold Pm.base;rw[cl_in ke ke];omega
theorem ZF {q:Pm} {id:Int} (h:1≤id∧id≤q.F):q.frame id=addr q (.f id 0):=by show _=q.W * q.wide+((id - 1) * q.room+0);unfold Pm.frame;rw[cl_in h.1 h.2];omega
def sD (q:Pm) (n:Int):Int:=(max n 0) % q.D
def sR (q:Pm) (n:Int):Int:=(max n 0) % (q.T+1)
theorem sD_in {q:Pm} (h:q.Ok) (n:Int):0≤sD q n∧sD q n < q.D:=by have:=h.2.2.2.1;exact ⟨Int.emod_nonneg _ ke,Int.emod_lt_of_pos _ ke⟩
theorem sR_in {q:Pm} (h:q.Ok) (n:Int):0≤sR q n∧sR q n≤q.T:=by have:=h.2.1;have h1:0≤sR q n:=Int.emod_nonneg _ ke;have h2:sR q n < q.T+1:=Int.emod_lt_of_pos _ ke;exact ⟨h1,by omega⟩
theorem emod_inj {a b d:Int} (ha:0≤a) (hab:a≤b) (hd:b - a < d) (e:a % d=b % d):a=b:=by
 have h1:=Int.emod_add_mul_ediv a d;have h2:=Int.emod_add_mul_ediv b d;have h3:d * (b / d - a / d)=b - a:=by rw[Int.mul_sub];omega
 by_cases c:b / d - a / d=0
 ·rw[c] at h3;omega
 ·exfalso;have h4:a / d≤b / d:=Int.ediv_le_ediv ke hab;have h5:=Int.mul_le_mul_of_nonneg_left (show 1≤b / d - a / d by omega) (show 0≤d by omega);omega
theorem sD_inj {q:Pm} (a b:Int) (ha:0≤a) (hab:a≤b) (hd:b - a < q.D) (e:sD q a=sD q b):a=b:=by unfold sD at e;rw[show max a 0=a by omega,show max b 0=b by omega] at e;exact emod_inj ha hab hd e
theorem sR_inj {q:Pm} (a b:Int) (ha:0≤a) (hab:a≤b) (hd:b - a≤q.T) (e:sR q a=sR q b):a=b:=by unfold sR at e;rw[show max a 0=a by omega,show max b 0=b by omega] at e;exact emod_inj ha hab ke e
theorem Y01 {q:Pm} {j:Nat} (hj:(j:Int) < q.W) (n:Int):q.slot j n=addr q (.d j (4+sD q n)):=by unfold Pm.slot;rw[QR hj];simp only[addr,sD];omega
theorem Z72 {q:Pm} {id:Int} (h:1≤id∧id≤q.F) (it n:Int):q.word id it n=addr q (.f id (2+4 * sR q it+n)):=by unfold Pm.word;rw[ZF h];simp only[addr,sR];omega
theorem Y99 {q:Pm} {id:Int} (h:1≤id∧id≤q.F):q.nap id=addr q (.f id 1):=by unfold Pm.nap;rw[ZF h];simp only[addr];omega
def dv (d:Option Dq):Dv:=match d with|none=>⟨0,0,0,0,0,.nil,false⟩|some d=>⟨d.who.toNat,d.t,d.x,d.h,d.tn,d.nx,d.got⟩
def wkAt (l:List Wk) (k:Nat):Wk:=l.getD k (wkNew 0)
def okB (q:Pm) (a:Lo):Bool:=match a with
 | .d j i=>decide ((j:Int) < q.W∧0≤i∧i < q.wide)
 | .f id i=>decide ((1≤id∧id≤q.F)∧0≤i∧i < q.room)
theorem Y02 {q:Pm} {a:Lo}:okB q a=true↔okL q a:=by cases a<;>simp[okB,okL]
def lw (q:Pm) (ws:List Int) (a:Lo):Int:=if okB q a then ldW ws (addr q a) else 0
theorem J0 {q:Pm} {ws:List Int} {a:Lo} (h:okL q a):lw q ws a=ldW ws (addr q a):=if_pos (Y02.2 h)
theorem X62 {q:Pm} (h:q.Ok) {ws:List Int} (hw:(ws.length:Int)=q.size) {a:Lo} (ha:okL q a) (v:Int) (b:Lo):lw q (stW ws (addr q a) v) b=if b=a then v else lw q ws b:=by
 unfold lw;by_cases c:okB q b=true
 ·rw[if_pos c,if_pos c,ld_st h hw ha (Y02.1 c)]
 ·rw[if_neg c,if_neg c,if_neg];intro e;subst e;exact c (Y02.2 ha)
def aDR (q:Pm) (s:Cs) (l:List Wk):DR:=
 {st:=fun k=>(wkAt l k).state,ta:=fun k=>(wkAt l k).tail,dq:=fun k=>dv (wkAt l k).dq,
  hd:=fun j=>lw q s.ws (.d j 0),tl:=fun j=>lw q s.ws (.d j 1),nt:=fun j=>lw q s.ws (.d j 2),sv:=fun j=>lw q s.ws (.d j 3),sl:=fun j i=>if 0≤i then lw q s.ws (.d j (4+i)) else 0 }
def feOf (f:Fm):Fe:=⟨f.kind,f.parent,f.dirty,f.index,f.stage,f.started,f.serial⟩
def rt0:Rt:=⟨⟨0,0⟩,0,0,0,0,0,false⟩
def pk0:Pk:=⟨⟨0,0⟩,0,0,0,false⟩
def tw0:Tw:=⟨⟨0,0⟩,0,0,false,false,false⟩
def aRC (q:Pm) (s:Cs) (l:List Wk):RC:=
 {st:=fun k=>(wkAt l k).state,ho:=fun k=>(wkAt l k).holds,ot:=fun k=>(wkAt l k).other,px:=fun k=>(dv (wkAt l k).dq).x,th:=fun k=>(wkAt l k).th,
  gS:=fun k=>(wkAt l k).gStage,gy:=fun k=>(wkAt l k).gWhy,eH:=fun k=>(wkAt l k).eHeld,eR:=fun k=>(wkAt l k).eRight,eW:=fun k=>(wkAt l k).eWoken,
  rt:=fun k=>(wkAt l k).right.getD rt0,pk:=fun k=>(wkAt l k).park.getD pk0,wa:=fun k=>(wkAt l k).wake.getD tw0,np:=fun k=>(wkAt l k).nap.getD tw0,
  us:=fun id=>s.isHeld id,fr:=fun id=>feOf (s.at id),J:=fun id=>lw q s.ws (.f id 0),nap:=fun id=>lw q s.ws (.f id 1),
  sw:=fun id i=>if 0≤i then lw q s.ws (.f id (2+4 * i+1)) else 0,
  lk:=fun id i=>if 0≤i then lw q s.ws (.f id (2+4 * i+2)) else 0,
  dn:=fun id i=>if 0≤i then lw q s.ws (.f id (2+4 * i+3)) else 0,
  S:=s.serial }
end Go.Proofs.YtelibaobkcokdaaGreat.Mx.In
namespace Go.Proofs.YtelibaobkcokdaaGreat.Mx.In
set_option linter.unusedSectionVars false
set_option linter.unusedVariables false
set_option linter.unusedSimpArgs false
open Go Go.Kx Go.Proofs Go.Proofs.YtelibaobkcokdaaGreat Go.Proofs.YtelibaobkcokdaaGreat.Mx
set_option linter.unusedSectionVars false
section
variable {q:Pm} {s:Cs} {l:List Wk} {k:Nat}
theorem rc_d (h:q.Ok) (hw:(s.ws.length:Int)=q.size) {j:Nat} {i:Int} (ha:okL q (.d j i)) (v:Int):aRC q (s.setW (stW s.ws (addr q (.d j i)) v)) l=aRC q s l:=by have e:=X62 h hw ha v;apply RC.ext<;>simp only[aRC,Cs.setW,e,reduceCtorEq,if_false]<;>rfl
theorem dr_f (h:q.Ok) (hw:(s.ws.length:Int)=q.size) {id i:Int} (ha:okL q (.f id i)) (v:Int):aDR q (s.setW (stW s.ws (addr q (.f id i)) v)) l=aDR q s l:=by have e:=X62 h hw ha v;apply DR.ext<;>simp only[aDR,Cs.setW,e,reduceCtorEq,if_false]
theorem okd (hk:(k:Int) < q.W) (h:q.Ok) {i:Int} (h0:0≤i) (h3:i≤3):okL q (.d k i):=⟨hk,h0,by have:=h.wide_in;omega⟩
theorem dr_hd (h:q.Ok) (hw:(s.ws.length:Int)=q.size) (hk:(k:Int) < q.W) (v:Int):aDR q (s.setW (stW s.ws (q.base k) v)) l={ aDR q s l with hd:=upd (aDR q s l).hd k v }:=by
 rw[QR hk];have e:=X62 h hw (okd hk h (Int.le_refl 0) ke) v;apply DR.ext<;>simp only[aDR,Cs.setW,e,Lo.d.injEq]
 all_goals (funext j)
 ·simp only[upd];by_cases c:j=k<;>simp[c]
 ·simp
 ·simp
 ·simp
 ·funext i;split
  ·rw[if_neg ke]
  ·rfl
theorem dr_tl (h:q.Ok) (hw:(s.ws.length:Int)=q.size) (hk:(k:Int) < q.W) (v:Int):aDR q (s.setW (stW s.ws (q.base k+1) v)) l={ aDR q s l with tl:=upd (aDR q s l).tl k v }:=by
 have ea:q.base k+1=addr q (.d k 1):=by rw[QR hk];show (k:Int) * q.wide+0+1=(k:Int) * q.wide+1;omega
 rw[ea];have e:=X62 h hw (okd hk h (show (0:Int)≤1 by omega) ke) v;apply DR.ext<;>simp only[aDR,Cs.setW,e,Lo.d.injEq]
 all_goals (funext j)
 ·simp
 ·simp only[upd];by_cases c:j=k<;>simp[c]
 ·simp
 ·simp
 ·funext i;split
  ·rw[if_neg ke]
  ·rfl
theorem dr_nt (h:q.Ok) (hw:(s.ws.length:Int)=q.size) (hk:(k:Int) < q.W) (v:Int):aDR q (s.setW (stW s.ws (q.base k+2) v)) l={ aDR q s l with nt:=upd (aDR q s l).nt k v }:=by
 have ea:q.base k+2=addr q (.d k 2):=by rw[QR hk];show (k:Int) * q.wide+0+2=(k:Int) * q.wide+2;omega
 rw[ea];have e:=X62 h hw (okd hk h (show (0:Int)≤2 by omega) ke) v;apply DR.ext<;>simp only[aDR,Cs.setW,e,Lo.d.injEq]
 all_goals (funext j)
 ·simp
 ·simp
 ·simp only[upd];by_cases c:j=k<;>simp[c]
 ·simp
 ·funext i;split
  ·rw[if_neg ke]
  ·rfl
theorem dr_sv (h:q.Ok) (hw:(s.ws.length:Int)=q.size) (hk:(k:Int) < q.W) (v:Int):aDR q (s.setW (stW s.ws (q.base k+3) v)) l={ aDR q s l with sv:=upd (aDR q s l).sv k v }:=by
 have ea:q.base k+3=addr q (.d k 3):=by rw[QR hk];show (k:Int) * q.wide+0+3=(k:Int) * q.wide+3;omega
 rw[ea];have e:=X62 h hw (okd hk h (show (0:Int)≤3 by omega) ke) v;apply DR.ext<;>simp only[aDR,Cs.setW,e,Lo.d.injEq]
 all_goals (funext j)
 ·simp
 ·simp
 ·simp
 ·simp only[upd];by_cases c:j=k<;>simp[c]
 ·funext i;split
  ·rw[if_neg ke]
  ·rfl
theorem dr_sl (h:q.Ok) (hw:(s.ws.length:Int)=q.size) (hk:(k:Int) < q.W) (n v:Int):aDR q (s.setW (stW s.ws (q.slot k n) v)) l={ aDR q s l with sl:=updS (aDR q s l).sl k (sD q n) v }:=by
 have hs:=sD_in h n;rw[Y01 hk];have e:=X62 h hw (show okL q (.d k (4+sD q n)) from ⟨hk,by omega,by show _ < 4+q.D;omega⟩) v;apply DR.ext<;>simp only[aDR,Cs.setW,e,Lo.d.injEq]
 all_goals (funext j)
 ·rw[if_neg ke]
 ·rw[if_neg ke]
 ·rw[if_neg ke]
 ·rw[if_neg ke]
 ·funext i;simp only[updS];by_cases c:j=k∧i=sD q n
  ·rw[if_pos c,if_pos ke,if_pos ⟨c.1,by omega⟩]
  ·rw[if_neg c];split
   ·rw[if_neg ke]
   ·rfl
theorem okf {id:Int} (hid:1≤id∧id≤q.F) (h:q.Ok) {i:Int} (h0:0≤i) (h3:i < q.room):okL q (.f id i):=⟨hid,h0,h3⟩
theorem rc_J (h:q.Ok) (hw:(s.ws.length:Int)=q.size) {id:Int} (hid:1≤id∧id≤q.F) (v:Int):aRC q (s.setW (stW s.ws (q.frame id) v)) l={ aRC q s l with J:=updI (aRC q s l).J id v }:=by
 rw[ZF hid];have e:=X62 h hw (okf hid h (Int.le_refl 0) (by have:=h.room_in;omega)) v;apply RC.ext<;>simp only[aRC,Cs.setW,e,Lo.f.injEq]<;>try rfl
 ·funext j;simp only[updI];by_cases c:j=id<;>simp[c]
 ·funext j;simp
 all_goals
  funext j i;split
  ·rw[if_neg ke]
  ·rfl
theorem rc_nap (h:q.Ok) (hw:(s.ws.length:Int)=q.size) {id:Int} (hid:1≤id∧id≤q.F) (v:Int):aRC q (s.setW (stW s.ws (q.nap id) v)) l={ aRC q s l with nap:=updI (aRC q s l).nap id v }:=by
 rw[Y99 hid];have e:=X62 h hw (okf hid h (show (0:Int)≤1 by omega) (by have:=h.room_in;omega)) v;apply RC.ext<;>simp only[aRC,Cs.setW,e,Lo.f.injEq]<;>try rfl
 ·funext j;simp
 ·funext j;simp only[updI];by_cases c:j=id<;>simp[c]
 all_goals
  funext j i;split
  ·rw[if_neg ke]
  ·rfl
theorem okw {id:Int} (hid:1≤id∧id≤q.F) (h:q.Ok) (it:Int) {n:Int} (h0:0≤n) (h3:n≤3):okL q (.f id (2+4 * sR q it+n)):=by have:=sR_in h it;exact ⟨hid,by omega,by show _ < 2+4 * (q.T+1);omega⟩
theorem rc_ct (h:q.Ok) (hw:(s.ws.length:Int)=q.size) {id:Int} (hid:1≤id∧id≤q.F) (it v:Int):aRC q (s.setW (stW s.ws (q.word id it 0) v)) l=aRC q s l:=by
 have hs:=sR_in h it;rw[Z72 hid];have e:=X62 h hw (okw hid h it (Int.le_refl 0) ke) v;apply RC.ext<;>simp only[aRC,Cs.setW,e,Lo.f.injEq]<;>try rfl
 ·funext j;rw[if_neg ke]
 ·funext j;rw[if_neg ke]
 all_goals
  funext j i;split
  ·rw[if_neg ke]
  ·rfl
theorem rc_sw (h:q.Ok) (hw:(s.ws.length:Int)=q.size) {id:Int} (hid:1≤id∧id≤q.F) (it v:Int):aRC q (s.setW (stW s.ws (q.word id it 1) v)) l={ aRC q s l with sw:=upd2 (aRC q s l).sw id (sR q it) v }:=by
 have hs:=sR_in h it;rw[Z72 hid];have e:=X62 h hw (okw hid h it (show (0:Int)≤1 by omega) ke) v;apply RC.ext<;>simp only[aRC,Cs.setW,e,Lo.f.injEq]<;>try rfl
 ·funext j;rw[if_neg ke]
 ·funext j;rw[if_neg ke]
 ·funext j i;simp only[upd2];by_cases c:j=id∧i=sR q it
  ·rw[if_pos c,if_pos ke,if_pos ⟨c.1,by omega⟩]
  ·rw[if_neg c];split
   ·rw[if_neg ke]
   ·rfl
 all_goals
  funext j i;split
  ·rw[if_neg ke]
  ·rfl
theorem rc_lk (h:q.Ok) (hw:(s.ws.length:Int)=q.size) {id:Int} (hid:1≤id∧id≤q.F) (it v:Int):aRC q (s.setW (stW s.ws (q.word id it 2) v)) l={ aRC q s l with lk:=upd2 (aRC q s l).lk id (sR q it) v }:=by
 have hs:=sR_in h it;rw[Z72 hid];have e:=X62 h hw (okw hid h it (show (0:Int)≤2 by omega) ke) v;apply RC.ext<;>simp only[aRC,Cs.setW,e,Lo.f.injEq]<;>try rfl
 ·funext j;rw[if_neg ke]
 ·funext j;rw[if_neg ke]
 ·funext j i;split
  ·rw[if_neg ke]
  ·rfl
 ·funext j i;simp only[upd2];by_cases c:j=id∧i=sR q it
  ·rw[if_pos c,if_pos ke,if_pos ⟨c.1,by omega⟩]
  ·rw[if_neg c];split
   ·rw[if_neg ke]
   ·rfl
 ·funext j i;split
  ·rw[if_neg ke]
  ·rfl
theorem rc_dn (h:q.Ok) (hw:(s.ws.length:Int)=q.size) {id:Int} (hid:1≤id∧id≤q.F) (it v:Int):aRC q (s.setW (stW s.ws (q.word id it 3) v)) l={ aRC q s l with dn:=upd2 (aRC q s l).dn id (sR q it) v }:=by
 have hs:=sR_in h it;rw[Z72 hid];have e:=X62 h hw (okw hid h it (show (0:Int)≤3 by omega) ke) v;apply RC.ext<;>simp only[aRC,Cs.setW,e,Lo.f.injEq]<;>try rfl
 ·funext j;rw[if_neg ke]
 ·funext j;rw[if_neg ke]
 ·funext j i;split
  ·rw[if_neg ke]
  ·rfl
 ·funext j i;split
  ·rw[if_neg ke]
  ·rfl
 ·funext j i;simp only[upd2];by_cases c:j=id∧i=sR q it
  ·rw[if_pos c,if_pos ke,if_pos ⟨c.1,by omega⟩]
  ·rw[if_neg c];split
   ·rw[if_neg ke]
   ·rfl
end
section
variable {q:Pm} {s:Cs} {l:List Wk} {k:Nat}
theorem Q72 (hk:k < l.length) (w:Wk) (j:Nat):wkAt (l.set k w) j=if j=k then w else wkAt l j:=by
 unfold wkAt;rw[List.getD_eq_getElem?_getD,List.getElem?_set,List.getD_eq_getElem?_getD];by_cases c:j=k
 ·subst c;rw[if_pos rfl,if_pos hk,if_pos rfl];rfl
 ·rw[if_neg (fun e=>c e.symm),if_neg c]
theorem Q76 {α:Type} (hk:k < l.length) (w:Wk) (f:Wk→α):(fun j=>f (wkAt (l.set k w) j))=upd (fun j=>f (wkAt l j)) k (f w):=by funext j;rw[Q72 hk];unfold upd;split<;>rfl
theorem Qq (hk:k < l.length) (w:Wk):aRC q s (l.set k w)={ aRC q s l with
  st:=upd (aRC q s l).st k w.state,ho:=upd (aRC q s l).ho k w.holds,ot:=upd (aRC q s l).ot k w.other,px:=upd (aRC q s l).px k (dv w.dq).x,th:=upd (aRC q s l).th k w.th,
  gS:=upd (aRC q s l).gS k w.gStage,gy:=upd (aRC q s l).gy k w.gWhy,eH:=upd (aRC q s l).eH k w.eHeld,eR:=upd (aRC q s l).eR k w.eRight,eW:=upd (aRC q s l).eW k w.eWoken,
  rt:=upd (aRC q s l).rt k (w.right.getD rt0),pk:=upd (aRC q s l).pk k (w.park.getD pk0),wa:=upd (aRC q s l).wa k (w.wake.getD tw0),np:=upd (aRC q s l).np k (w.nap.getD tw0) }:=by
 apply RC.ext<;>try rfl
 ·exact Q76 hk w Wk.state
 ·exact Q76 hk w Wk.holds
 ·exact Q76 hk w Wk.other
 ·exact Q76 hk w fun w=>(dv w.dq).x
 ·exact Q76 hk w Wk.th
 ·exact Q76 hk w Wk.gStage
 ·exact Q76 hk w Wk.gWhy
 ·exact Q76 hk w Wk.eHeld
 ·exact Q76 hk w Wk.eRight
 ·exact Q76 hk w Wk.eWoken
 ·exact Q76 hk w fun w=>w.right.getD rt0
 ·exact Q76 hk w fun w=>w.park.getD pk0
 ·exact Q76 hk w fun w=>w.wake.getD tw0
 ·exact Q76 hk w fun w=>w.nap.getD tw0
theorem X39 (hk:k < l.length) (w:Wk):aDR q s (l.set k w)={ aDR q s l with st:=upd (aDR q s l).st k w.state,ta:=upd (aDR q s l).ta k w.tail,dq:=upd (aDR q s l).dq k (dv w.dq) }:=by
 apply DR.ext<;>try rfl
 ·exact Q76 hk w Wk.state
 ·exact Q76 hk w Wk.tail
 ·exact Q76 hk w fun w=>dv w.dq
theorem QT (id:Int) (f:Fm):aDR q (s.setFr id f) l=aDR q s l:=by unfold Cs.setFr;split<;>rfl
theorem at_setFr (hl:s.held.length=s.fr.length) {id:Int} (hh:s.isHeld id=true) (f:Fm) (j:Int):(s.setFr id f).at j=if j=id then f else s.at j:=by
 have hb:0 < id∧id < s.held.length:=by unfold Cs.isHeld at hh;simp at hh;exact hh.1
 have e:s.setFr id f={ s with fr:=s.fr.set id.toNat f }:=if_pos hh;rw[e];unfold Cs.at
 by_cases c:j=id
 ·subst c;have h1:Cs.isHeld { s with fr:=s.fr.set j.toNat f } j=true:=hh;rw[if_pos h1,if_pos rfl,List.getD_eq_getElem?_getD,List.getElem?_set_self ke];rfl
 ·rw[if_neg c];show (if s.isHeld j=true then (s.fr.set id.toNat f).getD j.toNat fm0 else fm0)=_;split
  ·rename_i hj;have hj0:0 < j:=by unfold Cs.isHeld at hj;simp at hj;exact hj.1.1
   rw[List.getD_eq_getElem?_getD,List.getElem?_set_ne ke,List.getD_eq_getElem?_getD]
  ·rfl
theorem X40 (hl:s.held.length=s.fr.length) {id:Int} (hh:s.isHeld id=true) (f:Fm):aRC q (s.setFr id f) l={ aRC q s l with fr:=updI (aRC q s l).fr id (feOf f) }:=by
 have e:=at_setFr hl hh f;have e2:s.setFr id f={ s with fr:=s.fr.set id.toNat f }:=if_pos hh;apply RC.ext
 case fr=>funext j;show feOf ((s.setFr id f).at j)=if j=id then feOf f else feOf (s.at j);rw[e];split<;>rfl
 all_goals (rw[e2];rfl)
end
variable {T W:Int} {sI:Int→Int} {tk:Int→Int→Int→Int} {r:RC} {P:Int→Pc} {cn:Int→Int} {rg:Nat→Int} {pc:Int→Int→Int}
set_option maxHeartbeats 4000000 in
theorem CI.irr (h:CI T W sI tk r P cn rg pc) {px':Nat→Int} {th':Nat→Th} {ot':Nat→Int} {gS':Nat→Int} {gy':Nat→Int} {eH':Nat→Bool} {eR':Nat→Int} {eW':Nat→Bool} {rt':Nat→Rt} {pk':Nat→Pk} {wa':Nat→Tw} {np':Nat→Tw}
  (e_px:∀k,r.st k=3→px' k=r.px k) (e_th:∀k,r.st k=3→th' k=r.th k) (e_ot:∀k,r.st k=6∨r.st k=7∨r.st k=8∨r.st k=13∨r.st k=17∨r.st k=20∨r.st k=22∨r.st k=23∨r.st k=24→ot' k=r.ot k) (e_gS:∀k,r.st k=9→gS' k=r.gS k) (e_gy:∀k,r.st k=11→gy' k=r.gy k) (e_eH:∀k,r.st k=11∨r.st k=14∨r.st k=15∨r.st k=16→eH' k=r.eH k) (e_eR:∀k,r.st k=15∨r.st k=16→eR' k=r.eR k) (e_eW:∀k,r.st k=16→eW' k=r.eW k) (e_rt:∀k,r.st k=11→rt' k=r.rt k) (e_pk:∀k,r.st k=13→pk' k=r.pk k) (e_wa:∀k,r.st k=15→wa' k=r.wa k) (e_np:∀k,r.st k=20→np' k=r.np k):
  CI T W sI tk { r with px:=px',th:=th',ot:=ot',gS:=gS',gy:=gy',eH:=eH',eR:=eR',eW:=eW',rt:=rt',pk:=pk',wa:=wa',np:=np' } P cn rg pc:={}
set_option maxHeartbeats 4000000 in
theorem CI.irf (h:CI T W sI tk r P cn rg pc) {fr':Int→Fe} (e:∀id,P id≠.free→fr' id=r.fr id):
  CI T W sI tk { r with fr:=fr' } P cn rg pc:={
  c5:=by (try dsimp only);have a0:=h.c5;have a1:=h.f2;grind (splits:=40)
  c5c:=by (try dsimp only);have a0:=h.c5c;have a1:=h.f2;grind (splits:=40)
  c7:=by (try dsimp only);have a0:=h.c7;have a1:=h.c1;have a2:=h.c3;grind (splits:=40)
  c7b:=by (try dsimp only);have a0:=h.c7b;have a1:=h.c1;have a2:=h.c3;grind (splits:=40)
  c7c:=by (try dsimp only);have a0:=h.c7c;have a1:=h.c7b;have a2:=h.c1;have a3:=h.c3;grind (splits:=40)
  c10:=by (try dsimp only);have a0:=h.c10;have a1:=h.c1;grind (splits:=40)
  c10c:=by (try dsimp only);have a0:=h.c10c;have a1:=h.c1;grind (splits:=40)
  c11:=by (try dsimp only);have a0:=h.c11;have a1:=h.c1;have a2:=h.c3;have a3:=h.c16b;have a4:=h.f2;grind (splits:=40)
  c13:=by (try dsimp only);have a0:=h.c13;have a1:=h.c1;have a2:=h.c3;grind (splits:=40)
  c14:=by (try dsimp only);have a0:=h.c14;have a1:=h.c1;have a2:=h.c3;have a3:=h.c16b;have a4:=h.f2;grind (splits:=40)
  c15:=by (try dsimp only);have a0:=h.c15;have a1:=h.c1;have a2:=h.c3;grind (splits:=40)
  c16:=by (try dsimp only);have a0:=h.c16;have a1:=h.c1;have a2:=h.c3;grind (splits:=40)
  c16b:=by (try dsimp only);have a0:=h.c16b;have a1:=h.c1;have a2:=h.c3;grind (splits:=40)
  c16c:=by (try dsimp only);have a0:=h.c16c;have a1:=h.c1;have a2:=h.c3;grind (splits:=40)
  c17:=by (try dsimp only);have a0:=h.c17;have a1:=h.c1;have a2:=h.c3;grind (splits:=40)
  c18:=by (try dsimp only);have a0:=h.c18;have a1:=h.c1;have a2:=h.c3;grind (splits:=40)
  f8:=by (try dsimp only);have a0:=h.f8;have a1:=h.f2;grind (splits:=40)
  w1:=by (try dsimp only);have a0:=h.w1;have a1:=h.g1;have a2:=h.f2;grind (splits:=40)
  w3b:=by (try dsimp only);have a0:=h.w3b;have a1:=h.f2;grind (splits:=40)}
section
variable {q:Pm} {s:Cs} {l:List Wk} {k:Nat}
theorem ld_fill (ws:List Int) {a b:Int} (hb:0≤b) (m n:Int):ldW (fillW ws a m n) b=if a≤b∧b - a < m∧b < ws.length then n else ldW ws b:=by
 unfold ldW fillW;rw[List.getD_eq_getElem?_getD,List.getElem?_mapIdx,List.getD_eq_getElem?_getD]
 cases c:ws[b.toNat]? with
 | none=>have:=List.getElem?_eq_none_iff.1 c;rw[if_neg ke];rfl
 | some x=>
  have:=(List.getElem?_eq_some_iff.1 c).1;simp only[Option.map_some,Option.getD_some];by_cases d:a≤b∧b - a < m
  ·rw[if_pos ke,if_pos ke]
  ·rw[if_neg ke,if_neg ke]
theorem gds (l:List Bool) (i j:Nat) (b:Bool):(l.set i b).getD j false=if i=j∧i < l.length then b else l.getD j false:=by
 rw[List.getD_eq_getElem?_getD,List.getElem?_set,List.getD_eq_getElem?_getD];by_cases h:i=j
 ·subst h;by_cases c:i < l.length
  ·simp[c]
  ·simp[c]
 ·simp[h]
theorem fill_len (ws:List Int) (a m n:Int):(fillW ws a m n).length=ws.length:=by simp[fillW]
def newW (q:Pm) (ws:List Int) (id:Int):List Int:=fillW (fillW ws (q.frame id) q.room 0) (q.frame id) 1 1
theorem lw_new (h:q.Ok) {ws:List Int} (hw:(ws.length:Int)=q.size) {id:Int} (hid:1≤id∧id≤q.F) (b:Lo):
  lw q (newW q ws id) b=match b with|.d j i=>lw q ws (.d j i)|.f id' i=>if id'=id then (if i=0 then 1 else 0) else lw q ws (.f id' i):=by
 have hr:=h.room_in;have h0:okL q (.f id 0):=⟨hid,by omega,by omega⟩;have hfa:=ZF hid;by_cases c:okB q b=true
 ·have hb:=Y02.1 c;have ⟨b1,b2⟩:=addr_in h hb;unfold lw newW;rw[if_pos c,ld_fill _ b1,ld_fill _ b1,fill_len,hfa]
  cases b with
  | d j i=>
   dsimp only;rw[if_pos c];have hn:¬(addr q (.f id 0)≤addr q (.d j i)∧addr q (.d j i) - addr q (.f id 0) < q.room):=by intro ⟨e1,e2⟩;have ho:okL q (.f id (addr q (.d j i) - addr q (.f id 0))):=⟨hid,by omega,e2⟩;have:=Y98 h hb ho (by show addr q (.d j i)=q.W * q.wide+((id - 1) * q.room+(addr q (.d j i) - addr q (.f id 0)));have:addr q (.f id 0)=q.W * q.wide+((id - 1) * q.room+0):=rfl;omega);cases this
   rw[if_neg ke,if_neg ke]
  | f id' i=>
   dsimp only;have e0:addr q (.f id 0)=q.W * q.wide+((id - 1) * q.room+0):=rfl;have e1:∀x y,addr q (.f x y)=q.W * q.wide+((x - 1) * q.room+y):=fun _ _=>rfl;obtain ⟨k1,k2,k3⟩:=hb;by_cases ci:id'=id
   ·subst ci;rw[if_pos rfl];by_cases c0:i=0
    ·subst c0;rw[if_pos rfl,if_pos ke]
    ·rw[if_neg c0,if_neg (by rw[e1,e1];omega),if_pos (by rw[e1,e1];rw[e1] at b2;omega)]
   ·rw[if_neg ci,if_pos c];have hn:¬(addr q (.f id 0)≤addr q (.f id' i)∧addr q (.f id' i) - addr q (.f id 0) < q.room):=by intro ⟨f1,f2⟩;have ho:okL q (.f id (addr q (.f id' i) - addr q (.f id 0))):=⟨hid,by omega,f2⟩;have:=Y98 h (a:=.f id' i) (b:=.f id (addr q (.f id' i) - addr q (.f id 0))) ⟨k1,k2,k3⟩ ho (by rw[e1 id];omega);injection this with z1 z2;exact ci z1
    rw[if_neg ke,if_neg ke]
 ·have e:lw q (newW q ws id) b=0:=if_neg c;rw[e]
  cases b with
  | d j i=>exact (if_neg c).symm
  | f id' i=>
   dsimp only;by_cases ci:id'=id
   ·subst ci;rw[if_pos rfl,if_neg];intro e0;subst e0;exact c (Y02.2 h0)
   ·rw[if_neg ci];exact (if_neg c).symm
theorem X63 {f:Fm} {id:Int} {s':Cs} (e:makeF q s f=(some id,s')):∃b fr,s.nextId=some (id,b,fr)∧s'={ s with back:=b,fresh:=fr,held:=s.held.set id.toNat true,peak:=max s.peak (usedN (s.held.set id.toNat true)),fr:=s.fr.set id.toNat f,ws:=newW q s.ws id }:=by
 unfold makeF Cs.make Cs.take at e
 cases hn:s.nextId with
 | none=>rw[hn] at e;cases e
 | some x=>obtain ⟨id',b,fr⟩:=x;rw[hn] at e;cases e;exact ⟨b,fr,rfl,rfl⟩
theorem J1 (h:q.Ok) (hw:(s.ws.length:Int)=q.size) {f:Fm} {id:Int} {s':Cs} (hid:1≤id∧id≤q.F) (e:makeF q s f=(some id,s')):aDR q s' l=aDR q s l:=by obtain ⟨b,fr,_,rfl⟩:=X63 e;have hl:=lw_new h hw hid;apply DR.ext<;>simp only[aDR,hl]
theorem J2 (h:q.Ok) (hw:(s.ws.length:Int)=q.size) (hl:s.held.length=s.fr.length) (hF:(s.held.length:Int)=q.F+1) {f:Fm} {id:Int} {s':Cs} (hid:1≤id∧id≤q.F) (e:makeF q s f=(some id,s')):
  aRC q s' l={ aRC q s l with us:=updI (aRC q s l).us id true,fr:=updI (aRC q s l).fr id (feOf f),J:=updI (aRC q s l).J id 1,nap:=updI (aRC q s l).nap id 0,sw:=updZ (aRC q s l).sw id,lk:=updZ (aRC q s l).lk id,dn:=updZ (aRC q s l).dn id }:=by
 obtain ⟨b,fr,_,rfl⟩:=X63 e;have hlw:=lw_new h hw hid
 have hheld:∀j:Int,Cs.isHeld { s with back:=b,fresh:=fr,held:=s.held.set id.toNat true,peak:=max s.peak (usedN (s.held.set id.toNat true)),fr:=s.fr.set id.toNat f,ws:=newW q s.ws id } j=if j=id then true else s.isHeld j:=by
  intro j;unfold Cs.isHeld;dsimp only;rw[List.length_set,gds];by_cases c:j=id
  ·subst c;rw[if_pos ⟨rfl,by omega⟩,if_pos rfl];simp;omega
  ·rw[if_neg c];by_cases d:0 < j∧j < s.held.length
   ·rw[if_neg ke]
   ·simp[d]
 apply RC.ext<;>try rfl
 ·funext j;show Cs.isHeld _ j=if j=id then true else s.isHeld j;exact hheld j
 ·funext j;show feOf (Cs.at _ j)=if j=id then feOf f else feOf (s.at j);unfold Cs.at
  rw[hheld j];dsimp only;by_cases c:j=id
  ·subst c;rw[if_pos rfl,if_pos rfl,if_pos rfl,List.getD_eq_getElem?_getD,List.getElem?_set_self ke];rfl
  ·rw[if_neg c,if_neg c];split
   ·rename_i hj;have hj0:0 < j:=by unfold Cs.isHeld at hj;simp at hj;exact hj.1.1
    rw[List.getD_eq_getElem?_getD,List.getElem?_set_ne ke,List.getD_eq_getElem?_getD]
   ·rfl
 ·funext j;show lw q (newW q s.ws id) (.f j 0)=if j=id then 1 else lw q s.ws (.f j 0);rw[hlw];simp
 ·funext j;show lw q (newW q s.ws id) (.f j 1)=if j=id then 0 else lw q s.ws (.f j 1);rw[hlw];simp
 all_goals
  funext j i;simp only[aRC,updZ,hlw];by_cases c:j=id
  ·subst c;simp only[if_true];split
   ·rw[if_neg ke]
   ·rfl
  ·simp only[if_neg c]
theorem rc_free {id:Int} (hh:s.isHeld id=true):aRC q (s.free id) l={ aRC q s l with us:=updI (aRC q s l).us id false,fr:=updI (aRC q s l).fr id (feOf fm0) }:=by
 have hb:0 < id∧id < s.held.length:=by unfold Cs.isHeld at hh;simp at hh;exact hh.1
 have e:s.free id={ s with held:=s.held.set id.toNat false,back:=s.back++[id] }:=if_pos hh
 have hheld:∀j:Int,Cs.isHeld { s with held:=s.held.set id.toNat false,back:=s.back++[id] } j=if j=id then false else s.isHeld j:=by
  intro j;unfold Cs.isHeld;dsimp only;rw[List.length_set,gds];by_cases c:j=id
  ·subst c;rw[if_pos ⟨rfl,by omega⟩,if_pos rfl];simp
  ·rw[if_neg c];by_cases d:0 < j∧j < s.held.length
   ·rw[if_neg ke]
   ·simp[d]
 rw[e];apply RC.ext<;>try rfl
 ·funext j;exact hheld j
 ·funext j;show feOf (Cs.at _ j)=if j=id then feOf fm0 else feOf (s.at j);unfold Cs.at
  rw[hheld j];by_cases c:j=id
  ·rw[if_pos c,if_pos c];rfl
  ·rw[if_neg c,if_neg c]
theorem dr_free (id:Int):aDR q (s.free id) l=aDR q s l:=by unfold Cs.free;split<;>rfl
end
end Go.Proofs.YtelibaobkcokdaaGreat.Mx.In
