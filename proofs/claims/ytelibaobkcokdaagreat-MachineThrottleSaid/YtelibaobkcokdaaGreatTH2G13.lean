/- The machine's invariant: all but deques. -/
import Derived.Test.YtelibaobkcokdaaGreatTH2G12
import Derived.Test.YtelibaobkcokdaaGreatProg
import Derived.KernelRfl
namespace Go.Proofs.YtelibaobkcokdaaGreat.Mx.In
set_option linter.unusedVariables false
set_option linter.unusedSimpArgs false
open Go Go.Kx Go.Proofs Go.Proofs.YtelibaobkcokdaaGreat Go.Proofs.YtelibaobkcokdaaGreat.Mx
set_option linter.unusedSectionVars false
structure Fe where
 kind:Int
 parent:Int
 dirty:Bool
 index:Int
 stage:Int
 started:Int
 serial:Int
@[ext] structure RC where
 st:Nat→Int
 ho:Nat→Int
 ot:Nat→Int
 px:Nat→Int
 th:Nat→Th
 gS:Nat→Int
 gy:Nat→Int
 eH:Nat→Bool
 eR:Nat→Int
 eW:Nat→Bool
 rt:Nat→Rt
 pk:Nat→Pk
 wa:Nat→Tw
 np:Nat→Tw
 us:Int→Bool
 fr:Int→Fe
 J:Int→Int
 nap:Int→Int
 sw:Int→Int→Int
 lk:Int→Int→Int
 dn:Int→Int→Int
 S:Int
 fin:Int→Int→Bool
 pas:Int→Int→Bool
 ns:Int→Int
 okS:Bool
def ht (st wat:Int):Tg:=if st=5∨st=18 then .jn else if st=16∨(st=15∧1≤wat) then .lt else .hold
def emp (st:Int):Bool:=decide (st=0∨st=1∨st=2∨st=7∨st=8∨st=13∨st=17∨st=20)
def isLt:Pc→Bool|.own _ .lt=>true|_=>false
def isMk:Pc→Bool|.own _ .mk=>true|_=>false
def tokc:Pc→Int|.sync=>0|.fin=>0|.own _ .jn=>0|_=>1
attribute [grind] ht emp isLt isMk tokc
def chF (r:RC) (P:Int→Pc) (id:Int):Int:=if P id≠.free∧isMk (P id)=false∧(r.fr id).kind≠3 then (r.fr id).parent else 0
def chW (r:RC) (k:Nat):Int:=if r.st k=7 then r.ot k else 0
def wk2 (th:Th):Bool:=match th with|.looksOn|.decide|.stop=>true|_=>false
attribute [grind] wk2 chF chW
def updZ (f:Int→Int→Int) (a:Int):Int→Int→Int:=fun x i=>if x=a then 0 else f x i
@[grind =] theorem updZ_at (f:Int→Int→Int) (a x i:Int):updZ f a x i=if x=a then 0 else f x i:=rfl
def upd2 (f:Int→Int→Int) (a b v:Int):Int→Int→Int:=fun x i=>if x=a∧i=b then v else f x i
@[grind =] theorem upd2_at (f:Int→Int→Int) (a b v x i:Int):upd2 f a b v x i=if x=a∧i=b then v else f x i:=rfl
theorem ct {A:Prop} (h:A:=by first|exact a0|((try dsimp only);(try clear hz);(try clear hT0);(try clear hI);(try simp only[d0,d1,d2,d3,d4,d5]);grind (splits:=40))):A:=h
structure CI (T W:Int) (sI:Int→Int) (tk:Int→Int→Int→Int) (r:RC) (P:Int→Pc) (cn:Int→Int) (rg:Nat→Int) (pc:Int→Int→Int):Prop where
 c1:∀k:Nat,(k:Int) < W→r.ho k≠0→P (r.ho k)=.own k (ht (r.st k) (r.wa k).at_):=by have a0:=h.c1;exact ct
 c2:∀k:Nat,(k:Int) < W→emp (r.st k)=true→r.ho k=0:=by have a0:=h.c2;exact ct
 c3:∀k:Nat,(k:Int) < W→emp (r.st k)=false→r.st k≠3→r.ho k≠0:=by have a0:=h.c3;exact ct
 c4:∀k:Nat,(k:Int) < W→r.st k=17→P (r.ot k)=.own k .oth∧(r.fr (r.ot k)).kind=3:=by have a0:=h.c4;exact ct
 c5:∀k:Nat,(k:Int) < W→r.st k=13→(r.pk k).next=0→P (r.ot k)=.own k .oth∧(r.fr (r.ot k)).kind=2∧(r.fr (r.ot k)).dirty=false∧(r.pk k).r.id=(r.fr (r.ot k)).parent∧(r.pk k).r.serial=(r.fr (r.fr (r.ot k)).parent).serial∧(r.pk k).it=(r.fr (r.ot k)).index∧(r.pk k).stage=(r.fr (r.ot k)).stage:=by have a0:=h.c5;exact ct
 c5b:∀k:Nat,(k:Int) < W→r.st k=13→(r.pk k).next=0∨(r.pk k).next=1∨(r.pk k).next=2:=by have a0:=h.c5b;exact ct
 c5c:∀k:Nat,(k:Int) < W→r.st k=13→∀c,P c≠.free→(r.fr c).kind=2→(r.fr c).parent=(r.pk k).r.id→(r.fr (r.pk k).r.id).serial=(r.pk k).r.serial→(r.fr c).index=(r.pk k).it→c=r.ot k:=by have a0:=h.c5c;exact ct
 c5d:∀k:Nat,(k:Int) < W→r.st k=13→P (r.pk k).r.id≠.free→(r.fr (r.pk k).r.id).kind=3→(r.fr (r.pk k).r.id).serial=(r.pk k).r.serial→(r.pk k).it < (r.fr (r.pk k).r.id).started:=by have a0:=h.c5d;exact ct
 c5e:∀k:Nat,(k:Int) < W→r.st k=13→(1≤(r.pk k).r.serial∧(r.pk k).r.serial≤r.S)∧(0≤(r.pk k).it∧(r.pk k).it < 1000000)∧(0≤(r.pk k).stage∧(r.pk k).stage < 1048576)∧r.ot k≠0:=by have a0:=h.c5e;exact ct
 c6:∀k:Nat,(k:Int) < W→r.st k=20→(r.np k).r.id=r.ot k∧((r.np k).at_=0∨(r.np k).at_=1∨(r.np k).at_=2)∧(1≤(r.np k).r.serial∧(r.np k).r.serial≤r.S)∧(0≤(r.np k).it∧(r.np k).it < 1000000)∧r.ot k≠0:=by have a0:=h.c6;exact ct
 c6b:∀k:Nat,(k:Int) < W→r.st k=20→(r.np k).at_=0→P (r.ot k)=.own k .oth∧(r.fr (r.ot k)).kind=3∧(r.fr (r.ot k)).serial=(r.np k).r.serial∧(r.np k).it=(r.fr (r.ot k)).started - T:=by have a0:=h.c6b;exact ct
 c6c:∀k:Nat,(k:Int) < W→r.st k=20→(r.np k).at_=2→P (r.ot k)≠.free→(r.fr (r.ot k)).kind=3→(r.fr (r.ot k)).serial=(r.np k).r.serial→∀c,P c≠.free→(r.fr c).kind=2→(r.fr c).parent=r.ot k→(r.fr c).index=(r.np k).it→isLt (P c)=true:=by have a0:=h.c6c;exact ct
 c6d:∀k:Nat,(k:Int) < W→r.st k=20→P (r.ot k)≠.free→(r.fr (r.ot k)).kind=3→(r.fr (r.ot k)).serial=(r.np k).r.serial→(r.np k).it < (r.fr (r.ot k)).started:=by have a0:=h.c6d;exact ct
 c7:∀k:Nat,(k:Int) < W→r.st k=6→P (r.ot k)=.own k .mk∧(r.fr (r.ot k)).kind=1∧(r.fr (r.ot k)).parent=r.ho k∧r.ot k≠0∧(r.fr (r.ho k)).dirty=true:=by have a0:=h.c7;exact ct
 c7b:∀k:Nat,(k:Int) < W→r.st k=22∨r.st k=23∨r.st k=24→P (r.ot k)=.own k .mk∧(r.fr (r.ot k)).kind=2∧(r.fr (r.ot k)).dirty=false∧(r.fr (r.ot k)).parent=r.ho k∧(r.fr (r.ot k)).stage=0∧(r.fr (r.ot k)).index=(r.fr (r.ho k)).started - 1∧r.ot k≠0:=by have a0:=h.c7b;exact ct
 c7c:∀k:Nat,(k:Int) < W→r.st k=24→r.lk (r.ho k) (sI (r.fr (r.ot k)).index)=r.ot k:=by have a0:=h.c7c;exact ct
 c8:∀k:Nat,(k:Int) < W→r.st k=8→P (r.ot k)=.own k .jn∧(r.fr (r.ot k)).kind≠3∧r.ot k≠0:=by have a0:=h.c8;exact ct
 c9:∀k:Nat,(k:Int) < W→r.st k=7→r.ot k≠0∧P (r.ot k)≠.free∧(r.fr (r.ot k)).kind≠3:=by have a0:=h.c9;exact ct
 c10:∀k:Nat,(k:Int) < W→r.st k=3→∀id,r.th k=.runs id→r.ho k≠0∧r.px k=r.ho k∧(r.fr (r.ho k)).kind≠3∧P id=.own k .oth∧(r.fr id).kind=1∧id≠0∧(r.fr (r.ho k)).dirty=true:=by have a0:=h.c10;exact ct
 c10b:∀k:Nat,(k:Int) < W→r.st k=3→∀id,r.th k=.takes id→r.ho k=0∧P (r.px k)=.own k .psh∧P id=.own k .oth∧id≠0∧r.px k≠0:=by have a0:=h.c10b;exact ct
 c10c:∀k:Nat,(k:Int) < W→r.st k=3→wk2 (r.th k)=true→r.ho k≠0∧(r.fr (r.ho k)).kind=2∧(r.fr (r.ho k)).dirty=false∧P (r.px k)=.own k .psh∧r.px k≠0:=by have a0:=h.c10c;exact ct
 c10d:∀k:Nat,(k:Int) < W→r.st k=3→r.th k≠.none:=by have a0:=h.c10d;exact ct
 c11:∀k:Nat,(k:Int) < W→r.st k=11→(r.rt k).r.id=(r.fr (r.ho k)).parent∧(r.rt k).r.serial=(r.fr (r.fr (r.ho k)).parent).serial∧(r.rt k).it=(r.fr (r.ho k)).index+1∧((r.rt k).next=0∨(r.rt k).next=1∨(r.rt k).next=2)∧(0≤(r.rt k).stage∧(r.rt k).stage < 1048576)∧(r.gy k=0∨r.gy k=1∨r.gy k=2):=by have a0:=h.c11;exact ct
 c11b:∀k:Nat,(k:Int) < W→r.st k=11→(r.rt k).next=2→P (rg k)=.own k .rgt∧(r.fr (rg k)).kind=2∧(r.fr (rg k)).parent=(r.rt k).r.id∧(r.fr (rg k)).index=(r.rt k).it∧rg k≠0:=by have a0:=h.c11b;exact ct
 c12:∀k:Nat,(k:Int) < W→r.st k=15∨r.st k=16→r.eR k=0∨(P (r.eR k)=.own k .rgt∧(r.fr (r.eR k)).kind=2):=by have a0:=h.c12;exact ct
 c13:∀k:Nat,(k:Int) < W→r.st k=16→r.eW k=true→P (r.fr (r.ho k)).parent=.own k .wok:=by have a0:=h.c13;exact ct
 c14:∀k:Nat,(k:Int) < W→r.st k=15→(r.wa k).r.id=(r.fr (r.ho k)).parent∧(r.wa k).r.serial=(r.fr (r.fr (r.ho k)).parent).serial∧(r.wa k).it=(r.fr (r.ho k)).index∧((r.wa k).at_=0∨(r.wa k).at_=1∨(r.wa k).at_=2):=by have a0:=h.c14;exact ct
 c15:∀k:Nat,(k:Int) < W→r.st k=9→(r.fr (r.ho k)).stage < r.gS k∧r.gS k < 1048576:=by have a0:=h.c15;exact ct
 c16:∀k:Nat,(k:Int) < W→r.st k=4∨r.st k=5∨r.st k=6→(r.fr (r.ho k)).kind≠3:=by have a0:=h.c16;exact ct
 c16b:∀k:Nat,(k:Int) < W→r.st k=9∨r.st k=10∨r.st k=11∨r.st k=12∨r.st k=14∨r.st k=15∨r.st k=16→(r.fr (r.ho k)).kind=2∧(r.fr (r.ho k)).dirty=false:=by have a0:=h.c16b;exact ct
 c16c:∀k:Nat,(k:Int) < W→r.st k=18∨r.st k=19∨r.st k=21∨r.st k=22∨r.st k=23∨r.st k=24→(r.fr (r.ho k)).kind=3:=by have a0:=h.c16c;exact ct
 c17:∀k:Nat,(k:Int) < W→r.st k=14∨r.st k=15∨r.st k=16∨(r.st k=11∧r.gy k=2)→(r.eH k=true↔(r.fr (r.ho k)).stage=0):=by have a0:=h.c17;exact ct
 c18:∀k:Nat,(k:Int) < W→r.st k=21→∀c,P c≠.free→(r.fr c).kind=2→(r.fr c).parent=r.ho k→isLt (P c)=false→(r.fr (r.ho k)).started - T < (r.fr c).index:=by have a0:=h.c18;exact ct
 f0:∀id,r.us id=true↔P id≠.free:=by have a0:=h.f0;exact ct
 f0b:∀id,P id≠.free→0 < id:=by have a0:=h.f0b;exact ct
 f1:∀id,P id≠.free→(r.fr id).kind=1∨(r.fr id).kind=2∨(r.fr id).kind=3:=by have a0:=h.f1;exact ct
 f2:∀id,P id≠.free→(r.fr id).kind=2→P (r.fr id).parent≠.free∧(r.fr (r.fr id).parent).kind=3∧0≤(r.fr id).index∧(r.fr id).index < (r.fr (r.fr id).parent).started:=by have a0:=h.f2;exact ct
 f3:∀id,P id≠.free→(r.fr id).kind=3→P (r.fr id).parent=.pipe id∧(r.fr (r.fr id).parent).kind≠3∧(1≤(r.fr id).serial∧(r.fr id).serial≤r.S)∧0≤(r.fr id).started:=by have a0:=h.f3;exact ct
 f4:∀id,P id≠.free→(r.fr id).kind=1→(r.fr id).parent=0∨(P (r.fr id).parent≠.free∧(r.fr (r.fr id).parent).kind≠3):=by have a0:=h.f4;exact ct
 f5:∀id,P id≠.free→0≤(r.fr id).stage∧(r.fr id).stage < 1048576∧(r.fr id).started < 1000000:=by have a0:=h.f5;exact ct
 f6:∀a b,P a≠.free→P b≠.free→(r.fr a).kind=2→(r.fr b).kind=2→(r.fr a).parent=(r.fr b).parent→(r.fr a).index=(r.fr b).index→a=b:=by have a0:=h.f6;exact ct
 f7:∀a b,P a≠.free→P b≠.free→(r.fr a).kind=3→(r.fr b).kind=3→(r.fr a).serial=(r.fr b).serial→a=b:=by have a0:=h.f7;exact ct
 f8:∀c,P c≠.free→(r.fr c).kind=2→isLt (P c)=false→(r.fr (r.fr c).parent).started - T≤(r.fr c).index:=by have a0:=h.f8;exact ct
 f9:∀c,P c≠.free→(r.fr c).kind=2→(r.fr c).stage=0→isMk (P c)=false→P (r.fr c).parent=.below c∧(r.fr c).index=(r.fr (r.fr c).parent).started - 1:=by have a0:=h.f9;exact ct
 g1:∀id,P id=.parked→(r.fr id).kind=2:=by have a0:=h.g1;exact ct
 g2:∀id,P id=.nap→(r.fr id).kind=3:=by have a0:=h.g2;exact ct
 g3:∀id,P id=.sync→(r.fr id).kind≠3:=by have a0:=h.g3;exact ct
 g4:∀id l,P id=.pipe l→(r.fr id).kind≠3:=by have a0:=h.g4;exact ct
 g5:∀id c,P id=.below c→(r.fr id).kind=3:=by have a0:=h.g5;exact ct
 g6:∀id,P id=.fin→(r.fr id).kind=3:=by have a0:=h.g6;exact ct
 g7:∀id k,P id=.own k .jn→cn id=0:=by have a0:=h.g7;exact ct
 g8:∀id k,P id=.own k .mk→(k:Int) < W∧(r.st k=6∨r.st k=22∨r.st k=23∨r.st k=24)∧r.ot k=id:=by have a0:=h.g8;exact ct
 g9:∀id k,P id=.own k .wok→(r.fr id).kind=3:=by have a0:=h.g9;exact ct
 g10:∀id k,P id=.own k .rgt→(r.fr id).kind=2:=by have a0:=h.g10;exact ct
 h1:∀id,P id≠.free→(r.fr id).kind≠3→(r.fr id).dirty=false→cn id=0:=by have a0:=h.h1;exact ct
 h2:∀id,P id≠.free→r.J id=tokc (P id)+cn id:=by have a0:=h.h2;exact ct
 h3:∀id,P id=.free→cn id=0:=by have a0:=h.h3;exact ct
 w1:∀l i,r.sw l i≠0→P (pc l i)=.parked∧(r.fr (pc l i)).parent=l∧sI (r.fr (pc l i)).index=i∧r.sw l i=tk (r.fr l).serial (r.fr (pc l i)).index (r.fr (pc l i)).stage:=by have a0:=h.w1;exact ct
 w2:∀c,P c≠.free→(r.fr c).kind=2→isLt (P c)=false→isMk (P c)=false→r.lk (r.fr c).parent (sI (r.fr c).index)=c:=by have a0:=h.w2;exact ct
 w3:∀l i,P l≠.free→(r.fr l).kind=3→0≤i→i < 1000000→r.dn l (sI i)=tk (r.fr l).serial i 0→i < (r.fr l).started:=by have a0:=h.w3;exact ct
 w3b:∀c,P c≠.free→(r.fr c).kind=2→r.dn (r.fr c).parent (sI (r.fr c).index)=tk (r.fr (r.fr c).parent).serial (r.fr c).index 0→isLt (P c)=true:=by have a0:=h.w3b;exact ct
 s0:0≤r.S:=by have a0:=h.s0;exact ct
 w4:∀l,r.nap l≠0→P l=.nap∧0≤(r.fr l).started - T∧r.nap l=tk (r.fr l).serial ((r.fr l).started - T) 0:=by have a0:=h.w4;exact ct
end Go.Proofs.YtelibaobkcokdaaGreat.Mx.In
namespace Go.Proofs.YtelibaobkcokdaaGreat.Mx.In
set_option linter.unusedSectionVars false
set_option linter.unusedVariables false
set_option linter.unusedSimpArgs false
open Go Go.Kx Go.Proofs Go.Proofs.YtelibaobkcokdaaGreat Go.Proofs.YtelibaobkcokdaaGreat.Mx
set_option linter.unusedSectionVars false
def cnt:Nat→(Nat→Int)→Int→Int
 | 0,_,_=>0
 | n+1,f,p=>cnt n f p+if f n=p then 1 else 0
theorem X23 {n:Nat} {f g:Nat→Int} (p:Int) (h:∀i,i < n→g i=f i):cnt n g p=cnt n f p:=by
 induction n with
 | zero=>rfl
 | succ n ih=>simp only[cnt];rw[ih fun i hi=>h i ka,h n ka]
theorem Y76 {n:Nat} {f g:Nat→Int} {a:Nat} (ha:a < n) (h:∀i,i≠a→g i=f i) (p:Int):cnt n g p=cnt n f p - (if f a=p then 1 else 0)+(if g a=p then 1 else 0):=by
 induction n with
 | zero=>omega
 | succ n ih=>
  simp only[cnt];by_cases c:a=n
  ·subst c;rw[X23 p fun i hi=>h i ka];omega
  ·rw[ih ka,h n (fun e=>c e.symm)];omega
theorem cnt_nn (n:Nat) (f:Nat→Int) (p:Int):0≤cnt n f p:=by
 induction n with
 | zero=>simp[cnt]
 | succ n ih=>simp only[cnt];split<;>omega
theorem cnt_pos {n:Nat} {f:Nat→Int} {p:Int} {i:Nat} (hi:i < n) (h:f i=p):1≤cnt n f p:=by
 induction n with
 | zero=>omega
 | succ n ih=>
  simp only[cnt];by_cases c:i=n
  ·subst c;rw[if_pos h];have:=cnt_nn i f p;omega
  ·have:=ih ka;split<;>omega
def CNT (F W:Nat) (r:RC) (P:Int→Pc) (p:Int):Int:=cnt F (fun i=>chF r P ((i:Int)+1)) p+cnt W (chW r) p
structure NI (F W:Nat) (r:RC) (P:Int→Pc) (cn:Int→Int):Prop where
 n:∀p,p≠0→cn p=CNT F W r P p
 b:∀id,P id≠.free→0 < id∧id≤F
variable {T:Int} {F W:Nat} {sI:Int→Int} {tk:Int→Int→Int→Int} {r:RC} {P:Int→Pc} {cn:Int→Int} {rg:Nat→Int} {pc:Int→Int→Int}
theorem NI.child (h:NI F W r P cn) {c p:Int} (hp:p≠0) (h1:P c≠.free) (h2:isMk (P c)=false) (h3:(r.fr c).kind≠3) (h4:(r.fr c).parent=p):1≤cn p:=by
 have hb:=h.b c h1;rw[h.n p hp];have e:chF r P (((c - 1).toNat:Int)+1)=p:=by rw[show (((c - 1).toNat:Nat):Int)+1=c by omega];unfold chF;rw[if_pos ⟨h1,h2,h3⟩];exact h4
 have:=cnt_pos (n:=F) (f:=fun i=>chF r P ((i:Int)+1)) (p:=p) (i:=(c - 1).toNat) ka e;have:=cnt_nn W (chW r) p;unfold CNT;omega
theorem NI.arr (h:NI F W r P cn) {k:Nat} {p:Int} (hk:k < W) (hp:p≠0) (h1:r.st k=7) (h2:r.ot k=p):1≤cn p:=by
 rw[h.n p hp];have e:chW r k=p:=by unfold chW;rw[if_pos h1];exact h2
 have:=cnt_pos (n:=W) (f:=chW r) (p:=p) hk e;have:=cnt_nn F (fun i=>chF r P ((i:Int)+1)) p;unfold CNT;omega
theorem NI.nn (h:NI F W r P cn) {p:Int} (hp:p≠0):0≤cn p:=by rw[h.n p hp];have:=cnt_nn W (chW r) p;have:=cnt_nn F (fun i=>chF r P ((i:Int)+1)) p;unfold CNT;omega
theorem CI.hz (h:CI T W sI tk r P cn rg pc) (hn:NI F W r P cn) {k:Nat} (hk:k < W) (h0:r.ho k≠0) (hs:r.st k≠6∧r.st k≠22∧r.st k≠23∧r.st k≠24) (hc:cn (r.ho k)=0):
  (∀c,P c≠.free→(r.fr c).kind≠3→(r.fr c).parent≠r.ho k)∧∀j:Nat,(j:Int) < W→r.st j=7→r.ot j≠r.ho k:=by
 refine ⟨fun c h1 h3 h4=>?_,fun j hj h1 h2=>?_⟩
 ·cases hm:isMk (P c) with
  | false=>have:=hn.child h0 h1 hm h3 h4;omega
  | true=>
   obtain ⟨k',e⟩:∃k',P c=.own k' .mk:=by
    cases hP:P c<;>rw[hP] at hm<;>simp only[isMk] at hm<;>try cases hm
    rename_i k' t;cases t<;>simp only[isMk] at hm<;>first|exact ⟨k',rfl⟩|cases hm
   obtain ⟨a1,a2,a3⟩:=h.g8 c k' e;have e1:=h.c1 k ka h0
   have hpar:(r.fr c).parent=r.ho k':=by
    rcases a2 with a2|a2
    ·have:=(h.c7 k' a1 a2).2.2.1;rw[a3] at this;exact this
    ·have:=(h.c7b k' a1 a2).2.2.2.1;rw[a3] at this;exact this
   have e2:=h.c1 k' a1 (by rw[←hpar,h4];exact h0);rw[←hpar,h4,e1] at e2;injection e2 with e3;subst e3;omega
 ·have:=hn.arr (k:=j) ka h0 h1 h2;omega
theorem NI.same (h:NI F W r P cn) {r':RC} {P':Int→Pc} (h1:∀id,chF r' P' id=chF r P id) (h2:∀k,chW r' k=chW r k) (h3:∀id,P' id≠.free→0 < id∧id≤F):NI F W r' P' cn:=by refine ⟨fun p hp=>?_,h3⟩;rw[h.n p hp];unfold CNT;rw[X23 (n:=F) (f:=fun i=>chF r P ((i:Int)+1)) (g:=fun i=>chF r' P' ((i:Int)+1)) p (fun i _=>h1 _),X23 (n:=W) (f:=chW r) (g:=chW r') p (fun i _=>h2 i)]
theorem NI.id1 (h:NI F W r P cn) {r':RC} {P':Int→Pc} {cn':Int→Int} {a:Int} (ha:0 < a∧a≤F) (h1:∀id,id≠a→chF r' P' id=chF r P id) (h2:∀k,chW r' k=chW r k) (h3:∀id,P' id≠.free→0 < id∧id≤F)
  (hc:∀p,p≠0→cn' p=cn p - (if chF r P a=p then 1 else 0)+(if chF r' P' a=p then 1 else 0)):NI F W r' P' cn':=by
 refine ⟨fun p hp=>?_,h3⟩;rw[hc p hp,h.n p hp];unfold CNT;have e:((a - 1).toNat:Int)+1=a:=by omega
 have:=Y76 (n:=F) (f:=fun i=>chF r P ((i:Int)+1)) (g:=fun i=>chF r' P' ((i:Int)+1)) (a:=(a - 1).toNat) ka (fun i hi=>h1 _ ka) p;rw[X23 (n:=W) (f:=chW r) (g:=chW r') p (fun i _=>h2 i),this];simp only[e];omega
theorem NI.w1 (h:NI F W r P cn) {r':RC} {P':Int→Pc} {cn':Int→Int} {a:Nat} (ha:a < W) (h1:∀id,chF r' P' id=chF r P id) (h2:∀k,k≠a→chW r' k=chW r k) (h3:∀id,P' id≠.free→0 < id∧id≤F)
  (hc:∀p,p≠0→cn' p=cn p - (if chW r a=p then 1 else 0)+(if chW r' a=p then 1 else 0)):NI F W r' P' cn':=by
 refine ⟨fun p hp=>?_,h3⟩;rw[hc p hp,h.n p hp];unfold CNT;have:=Y76 (n:=W) (f:=chW r) (g:=chW r') (a:=a) ha h2 p;rw[X23 (n:=F) (f:=fun i=>chF r P ((i:Int)+1)) (g:=fun i=>chF r' P' ((i:Int)+1)) p (fun i _=>h1 _),this];omega
theorem NI.both (h:NI F W r P cn) {r':RC} {P':Int→Pc} {cn':Int→Int} {a:Int} {k:Nat} (ha:0 < a∧a≤F) (hk:k < W) (h1:∀id,id≠a→chF r' P' id=chF r P id) (h2:∀j,j≠k→chW r' j=chW r j) (h3:∀id,P' id≠.free→0 < id∧id≤F)
  (hc:∀p,p≠0→cn' p=cn p - (if chF r P a=p then 1 else 0)+(if chF r' P' a=p then 1 else 0) - (if chW r k=p then 1 else 0)+(if chW r' k=p then 1 else 0)):NI F W r' P' cn':=by
 refine ⟨fun p hp=>?_,h3⟩;rw[hc p hp,h.n p hp];unfold CNT;have e:((a - 1).toNat:Int)+1=a:=by omega
 have q1:=Y76 (n:=F) (f:=fun i=>chF r P ((i:Int)+1)) (g:=fun i=>chF r' P' ((i:Int)+1)) (a:=(a - 1).toNat) ka (fun i hi=>h1 _ ka) p;have q2:=Y76 (n:=W) (f:=chW r) (g:=chW r') (a:=k) hk h2 p;rw[q1,q2];simp only[e];omega
variable {T:Int} {F W:Nat} {sI:Int→Int} {tk:Int→Int→Int→Int} {r:RC} {P:Int→Pc} {cn:Int→Int} {rg:Nat→Int} {pc:Int→Int→Int}
def updB (f:Int→Int→Bool) (a b:Int):Int→Int→Bool:=fun x i=>if x=a∧i=b then true else f x i
@[grind =] theorem updB_at (f:Int→Int→Bool) (a b x i:Int):updB f a b x i=if x=a∧i=b then true else f x i:=rfl
def cr (st:Int):Bool:=decide (st=22∨st=23∨st=24)
attribute [grind] cr
structure HV (T W:Int) (tk:Int→Int→Int→Int) (r:RC) (P:Int→Pc):Prop where
 vt:(∀a b,1≤a→0≤b→tk a b 0≠0)∧∀a b a' b',1≤a→a < 1000000→0≤b→b < 1000000→1≤a'→a' < 1000000→0≤b'→b' < 1000000→tk a b 0=tk a' b' 0→a=a'∧b=b':=by exact h.hv.vt
 v0:∀s i,r.fin s i=true→r.pas s i=true:=by have a0:=h.hv.v0;exact ct
 v1:∀k:Nat,(k:Int) < W→(r.st k=11∧r.gy k=2)∨r.st k=15∨r.st k=16→r.fin (r.fr (r.fr (r.ho k)).parent).serial (r.fr (r.ho k)).index=true:=by have a0:=h.hv.v1;have a1:=h.c1;have a2:=h.c3;have a3:=h.f2;have a4:=h.c16b;exact ct
 v2:∀l j s i,1≤s→s < 1000000→0≤i→i < 1000000→r.dn l j=tk s i 0→r.fin s i=true:=by have a0:=h.hv.v2;have a1:=h.hv.vt.1;exact ct
 v3:∀k:Nat,(k:Int) < W→r.st k=20→(r.np k).at_=2→r.fin (r.np k).r.serial (r.np k).it=true:=by have a0:=h.hv.v3;exact ct
 v4:∀k:Nat,(k:Int) < W→r.st k=21→(r.fr (r.ho k)).started - T < 0∨r.fin (r.fr (r.ho k)).serial ((r.fr (r.ho k)).started - T)=true:=by have a0:=h.hv.v4;have a1:=h.c1;have a2:=h.c3;have a3:=h.c16c;exact ct
 v5:∀k:Nat,(k:Int) < W→cr (r.st k)=true→(r.fr (r.ho k)).started - 1 - T < 0∨r.fin (r.fr (r.ho k)).serial ((r.fr (r.ho k)).started - 1 - T)=true:=by have a0:=h.hv.v5;have a1:=h.c1;have a2:=h.c3;have a3:=h.c16c;exact ct
 v6:∀k:Nat,(k:Int) < W→cr (r.st k)=true→r.ns (r.fr (r.ho k)).serial=(r.fr (r.ho k)).started - 1∧((r.fr (r.ho k)).started - 1=0∨r.pas (r.fr (r.ho k)).serial ((r.fr (r.ho k)).started - 2)=true):=by have a0:=h.hv.v6;have a1:=h.c1;have a2:=h.c3;have a3:=h.c16c;exact ct
 v7:∀l,P l≠.free→(r.fr l).kind=3→(∀k:Nat,(k:Int) < W→cr (r.st k)=true→r.ho k≠l)→r.ns (r.fr l).serial=(r.fr l).started:=by have a0:=h.hv.v7;have a1:=h.c1;have a2:=h.c3;exact ct
 v8:∀s,r.S < s→r.ns s=0:=by have a0:=h.hv.v8;exact ct
 v9:∀l,P l≠.free→(r.fr l).kind=3→(∀c,P l≠.below c)→(∀k:Nat,(k:Int) < W→cr (r.st k)=true→r.ho k≠l)→(r.fr l).started=0∨r.pas (r.fr l).serial ((r.fr l).started - 1)=true:=by have a0:=h.hv.v9;have a1:=h.c1;have a2:=h.c3;exact ct
 vk:r.okS=true:=by exact h.hv.vk
structure CN (T:Int) (F W:Nat) (sI:Int→Int) (tk:Int→Int→Int→Int) (r:RC) (P:Int→Pc) (cn:Int→Int) (rg:Nat→Int) (pc:Int→Int→Int):Prop extends CI T (W:Int) sI tk r P cn rg pc where
 hv:HV T (W:Int) tk r P:=by exact {}
 ni:NI F W r P cn:=by first|exact h.ni|((try have z0:=h.c1 k hk);(try have z1:=h.c3 k hk);(try clear hz);(try clear hT0);(try clear hI);exact h.ni.same (fun i=>by grind (splits:=40)) (fun j=>by grind (splits:=40)) (fun i=>by have a0:=h.f0b;have a1:=h.ni.b;grind (splits:=40)))
theorem mix_inj {w a b i j:Int} (h0:0≤i) (h1:i < w) (k0:0≤j) (k1:j < w) (e:a * w+i=b * w+j):a=b∧i=j:=by
 have ha:(i+a * w) / w=a:=by rw[Int.add_mul_ediv_right _ _ ka,Int.ediv_eq_zero_of_lt h0 h1];omega
 have hb:(j+b * w) / w=b:=by rw[Int.add_mul_ediv_right _ _ ka,Int.ediv_eq_zero_of_lt k0 k1];omega
 have hab:a=b:=by rw[←ha,←hb,Int.add_comm i,Int.add_comm j,e]
 subst hab;exact ⟨rfl,by omega⟩
inductive Lo|d (j:Nat) (i:Int)|f (id i:Int)
 deriving DecidableEq
def addr (q:Pm):Lo→Int
 | .d j i=>(j:Int) * q.wide+i
 | .f id i=>q.W * q.wide+((id - 1) * q.room+i)
def okL (q:Pm):Lo→Prop
 | .d j i=>(j:Int) < q.W∧0≤i∧i < q.wide
 | .f id i=>(1≤id∧id≤q.F)∧0≤i∧i < q.room
theorem addr_in {q:Pm} (h:q.Ok) {a:Lo} (ha:okL q a):0≤addr q a∧addr q a < q.size:=by
 have ⟨w1,w2⟩:=h.wide_in;have ⟨r1,r2⟩:=h.room_in;have hWW:=h.WW;have hFF:=h.FF
 cases a with
 | d j i=>obtain ⟨h1,h2,h3⟩:=ha;have e1:=Int.mul_le_mul_of_nonneg_right (show (j:Int)≤q.W - 1 by omega) (show 0≤q.wide by omega);have e2:=Int.mul_nonneg (show (0:Int)≤j by omega) (show 0≤q.wide by omega);rw[Int.sub_mul] at e1;simp only[addr,Pm.size];omega
 | f id i=>obtain ⟨⟨h1,h4⟩,h2,h3⟩:=ha;have e1:=Int.mul_le_mul_of_nonneg_right (show id - 1≤q.F - 1 by omega) (show 0≤q.room by omega);have e2:=Int.mul_nonneg (show (0:Int)≤id - 1 by omega) (show 0≤q.room by omega);rw[Int.sub_mul q.F] at e1;simp only[addr,Pm.size];omega
theorem Y77 {q:Pm} (h:q.Ok) {a b:Lo} (ha:okL q a) (hb:okL q b) (e:addr q a=addr q b):a=b:=by
 have ⟨w1,w2⟩:=h.wide_in;have ⟨r1,r2⟩:=h.room_in;have key:∀{j:Nat} {i id i':Int},okL q (.d j i)→okL q (.f id i')→addr q (.d j i)=addr q (.f id i')→False:=by intro j i id i' ⟨h1,h2,h3⟩ ⟨⟨k1,k4⟩,k2,k3⟩ e;have e1:=Int.mul_le_mul_of_nonneg_right (show (j:Int)≤q.W - 1 by omega) (show 0≤q.wide by omega);have e2:=Int.mul_nonneg (show (0:Int)≤id - 1 by omega) (show 0≤q.room by omega);rw[Int.sub_mul] at e1;simp only[addr] at e;omega
 cases a with
 | d j i=>
  cases b with
  | d j' i'=>
   obtain ⟨h1,h2,h3⟩:=ha;obtain ⟨k1,k2,k3⟩:=hb;obtain ⟨x,y⟩:=mix_inj h2 h3 k2 k3 e;have:j=j':=by omega
   subst this;subst y;rfl
  | f id i'=>exact (key ha hb e).elim
 | f id i=>
  cases b with
  | d j' i'=>exact (key hb ha e.symm).elim
  | f id' i'=>
   obtain ⟨h1,h2,h3⟩:=ha;obtain ⟨k1,k2,k3⟩:=hb;simp only[addr] at e;obtain ⟨x,y⟩:=mix_inj h2 h3 k2 k3 (show (id - 1) * q.room+i=(id' - 1) * q.room+i' by omega);have:id=id':=by omega
   subst this;subst y;rfl
theorem ld_st {q:Pm} (h:q.Ok) {ws:List Int} (hw:(ws.length:Int)=q.size) {a b:Lo} (ha:okL q a) (hb:okL q b) (v:Int):ldW (stW ws (addr q a) v) (addr q b)=if b=a then v else ldW ws (addr q b):=by
 have ⟨a1,a2⟩:=addr_in h ha;have ⟨b1,b2⟩:=addr_in h hb;unfold ldW stW;rw[List.getD_eq_getElem?_getD,List.getElem?_set];by_cases c:b=a
 ·subst c;rw[if_pos rfl,if_pos ka,if_pos rfl];rfl
 ·rw[if_neg c,if_neg,List.getD_eq_getElem?_getD];intro e;exact c (Y77 h hb ha ka)
theorem QR {q:Pm} {j:Nat} (hj:(j:Int) < q.W):q.base j=addr q (.d j 0):=by show _=(j:Int) * q.wide+0;unfold Pm.base;rw[cl_in ka ka];omega
theorem ZB {q:Pm} {id:Int} (h:1≤id∧id≤q.F):q.frame id=addr q (.f id 0):=by show _=q.W * q.wide+((id - 1) * q.room+0);unfold Pm.frame;rw[cl_in h.1 h.2];omega
def sD (q:Pm) (n:Int):Int:=(max n 0) % q.D
def sR (q:Pm) (n:Int):Int:=(max n 0) % (q.T+1)
theorem sD_in {q:Pm} (h:q.Ok) (n:Int):0≤sD q n∧sD q n < q.D:=by have:=h.2.2.2.1;exact ⟨Int.emod_nonneg _ ka,Int.emod_lt_of_pos _ ka⟩
theorem sR_in {q:Pm} (h:q.Ok) (n:Int):0≤sR q n∧sR q n≤q.T:=by have:=h.2.1;have h1:0≤sR q n:=Int.emod_nonneg _ ka;have h2:sR q n < q.T+1:=Int.emod_lt_of_pos _ ka;exact ⟨h1,by omega⟩
theorem emod_inj {a b d:Int} (ha:0≤a) (hab:a≤b) (hd:b - a < d) (e:a % d=b % d):a=b:=by
 have h1:=Int.emod_add_mul_ediv a d;have h2:=Int.emod_add_mul_ediv b d;have h3:d * (b / d - a / d)=b - a:=by rw[Int.mul_sub];omega
 by_cases c:b / d - a / d=0
 ·rw[c] at h3;omega
 ·exfalso;have h4:a / d≤b / d:=Int.ediv_le_ediv ka hab;have h5:=Int.mul_le_mul_of_nonneg_left (show 1≤b / d - a / d by omega) (show 0≤d by omega);omega
theorem sD_inj {q:Pm} (a b:Int) (ha:0≤a) (hab:a≤b) (hd:b - a < q.D) (e:sD q a=sD q b):a=b:=by unfold sD at e;rw[show max a 0=a by omega,show max b 0=b by omega] at e;exact emod_inj ha hab hd e
theorem sR_inj {q:Pm} (a b:Int) (ha:0≤a) (hab:a≤b) (hd:b - a≤q.T) (e:sR q a=sR q b):a=b:=by unfold sR at e;rw[show max a 0=a by omega,show max b 0=b by omega] at e;exact emod_inj ha hab ka e
theorem YH {q:Pm} {j:Nat} (hj:(j:Int) < q.W) (n:Int):q.slot j n=addr q (.d j (4+sD q n)):=by unfold Pm.slot;rw[QR hj];simp only[addr,sD];omega
theorem Z62 {q:Pm} {id:Int} (h:1≤id∧id≤q.F) (it n:Int):q.word id it n=addr q (.f id (2+4 * sR q it+n)):=by unfold Pm.word;rw[ZB h];simp only[addr,sR];omega
theorem Y78 {q:Pm} {id:Int} (h:1≤id∧id≤q.F):q.nap id=addr q (.f id 1):=by unfold Pm.nap;rw[ZB h];simp only[addr];omega
def dv (d:Option Dq):Dv:=match d with|none=>⟨0,0,0,0,0,.nil,false⟩|some d=>⟨d.who.toNat,d.t,d.x,d.h,d.tn,d.nx,d.got⟩
def wkAt (l:List Wk) (k:Nat):Wk:=l.getD k (wkNew 0)
def okB (q:Pm) (a:Lo):Bool:=match a with
 | .d j i=>decide ((j:Int) < q.W∧0≤i∧i < q.wide)
 | .f id i=>decide ((1≤id∧id≤q.F)∧0≤i∧i < q.room)
theorem YI {q:Pm} {a:Lo}:okB q a=true↔okL q a:=by cases a<;>simp[okB,okL]
def lw (q:Pm) (ws:List Int) (a:Lo):Int:=if okB q a then ldW ws (addr q a) else 0
theorem Y79 {q:Pm} {ws:List Int} {a:Lo} (h:okL q a):lw q ws a=ldW ws (addr q a):=if_pos (YI.2 h)
theorem X47 {q:Pm} (h:q.Ok) {ws:List Int} (hw:(ws.length:Int)=q.size) {a:Lo} (ha:okL q a) (v:Int) (b:Lo):lw q (stW ws (addr q a) v) b=if b=a then v else lw q ws b:=by
 unfold lw;by_cases c:okB q b=true
 ·rw[if_pos c,if_pos c,ld_st h hw ha (YI.1 c)]
 ·rw[if_neg c,if_neg c,if_neg];intro e;subst e;exact c (YI.2 ha)
def aDR (q:Pm) (s:Cs) (l:List Wk):DR:=
 {st:=fun k=>(wkAt l k).state,ta:=fun k=>(wkAt l k).tail,dq:=fun k=>dv (wkAt l k).dq,
  hd:=fun j=>lw q s.ws (.d j 0),tl:=fun j=>lw q s.ws (.d j 1),nt:=fun j=>lw q s.ws (.d j 2),sv:=fun j=>lw q s.ws (.d j 3),sl:=fun j i=>if 0≤i then lw q s.ws (.d j (4+i)) else 0 }
def feOf (f:Fm):Fe:=⟨f.kind,f.parent,f.dirty,f.index,f.stage,f.started,f.serial⟩
def rt0:Rt:=⟨⟨0,0⟩,0,0,0,0,0,false⟩
def pk0:Pk:=⟨⟨0,0⟩,0,0,0,false⟩
def tw0:Tw:=⟨⟨0,0⟩,0,0,false,false,false⟩
def finL (l:List Vt) (a b:Int):Bool:=l.any fun e=>decide (e.kind=4∧e.loop=a∧e.iter=b)
def pasL (l:List Vt) (a b:Int):Bool:=l.any fun e=>decide ((e.kind=3∨e.kind=6∨e.kind=4)∧e.loop=a∧e.iter=b)
def nsL (l:List Vt) (a:Int):Int:=(l.countP fun e=>decide (e.kind=1∧e.loop=a):Nat)
def okC (T:Int) (l:List Vt) (e:Vt):Bool:=decide (nsL l e.loop=e.iter)&&(decide (e.iter=0)||pasL l e.loop (e.iter - 1))&&(decide (e.iter < T)||finL l e.loop (e.iter - T))
def okG (T:Int):List Vt→List Vt→Bool
 | _,[]=>true
 | p,e::l=>(decide (e.kind≠1)||okC T p e)&&okG T (p++[e]) l
theorem okG_n (T:Int) (e:Vt):∀(l p:List Vt),okG T p (l++[e])=(okG T p l&&(decide (e.kind≠1)||okC T (p++l) e))
 | [],p=>by simp[okG]
 | x::l,p=>by simp only[List.cons_append,okG];rw[okG_n T e l];simp[Bool.and_assoc]
theorem finL_n (l:List Vt) (e:Vt):finL (l++[e])=if e.kind=4 then updB (finL l) e.loop e.iter else finL l:=by
 funext a b;unfold finL;rw[List.any_append];by_cases c:e.kind=4
 ·rw[if_pos c,updB_at];by_cases d:a=e.loop∧b=e.iter
  ·rw[if_pos d];simp[c,d.1,d.2]
  ·rw[if_neg d];have:¬(e.loop=a∧e.iter=b):=fun x=>d ⟨x.1.symm,x.2.symm⟩;simp[c,this]
 ·rw[if_neg c];simp[c]
theorem pasL_n (l:List Vt) (e:Vt):pasL (l++[e])=if e.kind=3∨e.kind=6∨e.kind=4 then updB (pasL l) e.loop e.iter else pasL l:=by
 funext a b;unfold pasL;rw[List.any_append];by_cases c:e.kind=3∨e.kind=6∨e.kind=4
 ·rw[if_pos c,updB_at];by_cases d:a=e.loop∧b=e.iter
  ·rw[if_pos d];simp[c,d.1,d.2]
  ·rw[if_neg d];have:¬(e.loop=a∧e.iter=b):=fun x=>d ⟨x.1.symm,x.2.symm⟩;simp[c,this]
 ·rw[if_neg c];simp[c]
theorem nsL_n (l:List Vt) (e:Vt):nsL (l++[e])=if e.kind=1 then updI (nsL l) e.loop (nsL l e.loop+1) else nsL l:=by
 funext a;unfold nsL;rw[List.countP_append];by_cases c:e.kind=1
 ·rw[if_pos c];unfold updI;by_cases d:a=e.loop
  ·rw[if_pos d];subst d;simp[c]
  ·rw[if_neg d];have:¬e.loop=a:=fun x=>d x.symm;simp[c,this]
 ·rw[if_neg c];simp[c]
def aRC (q:Pm) (s:Cs) (l:List Wk):RC:=
 {st:=fun k=>(wkAt l k).state,ho:=fun k=>(wkAt l k).holds,ot:=fun k=>(wkAt l k).other,px:=fun k=>(dv (wkAt l k).dq).x,th:=fun k=>(wkAt l k).th,
  gS:=fun k=>(wkAt l k).gStage,gy:=fun k=>(wkAt l k).gWhy,eH:=fun k=>(wkAt l k).eHeld,eR:=fun k=>(wkAt l k).eRight,eW:=fun k=>(wkAt l k).eWoken,
  rt:=fun k=>(wkAt l k).right.getD rt0,pk:=fun k=>(wkAt l k).park.getD pk0,wa:=fun k=>(wkAt l k).wake.getD tw0,np:=fun k=>(wkAt l k).nap.getD tw0,
  us:=fun id=>s.isHeld id,fr:=fun id=>feOf (s.at id),J:=fun id=>lw q s.ws (.f id 0),nap:=fun id=>lw q s.ws (.f id 1),
  sw:=fun id i=>if 0≤i then lw q s.ws (.f id (2+4 * i+1)) else 0,
  lk:=fun id i=>if 0≤i then lw q s.ws (.f id (2+4 * i+2)) else 0,
  dn:=fun id i=>if 0≤i then lw q s.ws (.f id (2+4 * i+3)) else 0,
  S:=s.serial,fin:=finL s.log,pas:=pasL s.log,ns:=nsL s.log,okS:=okG q.T [] s.log }
section
variable {q:Pm}
theorem Y80 (s:Cs) (l:List Wk) (e:Vt) (h:e.kind=2∨e.kind=5):aRC q (s.note e) l=aRC q s l:=by show ({ aRC q s l with fin:=finL (s.log++[e]),pas:=pasL (s.log++[e]),ns:=nsL (s.log++[e]),okS:=okG q.T [] (s.log++[e]) }:RC)=aRC q s l;rw[finL_n,pasL_n,nsL_n,okG_n,if_neg ka,if_neg ka,if_neg ka,decide_eq_true (p:=e.kind≠1) ka];simp only[Bool.true_or,Bool.and_true];rfl
theorem rc_noteP (s:Cs) (l:List Wk) (e:Vt) (h:e.kind=3∨e.kind=6) {a b:Int} (ha:e.loop=a) (hb:e.iter=b):aRC q (s.note e) l={ aRC q s l with pas:=updB (aRC q s l).pas a b }:=by show ({ aRC q s l with fin:=finL (s.log++[e]),pas:=pasL (s.log++[e]),ns:=nsL (s.log++[e]),okS:=okG q.T [] (s.log++[e]) }:RC)=_;rw[finL_n,pasL_n,nsL_n,okG_n,if_neg ka,if_pos ka,if_neg ka,decide_eq_true (p:=e.kind≠1) ka,ha,hb];simp only[Bool.true_or,Bool.and_true];rfl
theorem rc_noteF (s:Cs) (l:List Wk) (e:Vt) (h:e.kind=4) {a b:Int} (ha:e.loop=a) (hb:e.iter=b):aRC q (s.note e) l={ aRC q s l with fin:=updB (aRC q s l).fin a b,pas:=updB (aRC q s l).pas a b }:=by show ({ aRC q s l with fin:=finL (s.log++[e]),pas:=pasL (s.log++[e]),ns:=nsL (s.log++[e]),okS:=okG q.T [] (s.log++[e]) }:RC)=_;rw[finL_n,pasL_n,nsL_n,okG_n,if_pos h,if_pos ka,if_neg ka,decide_eq_true (p:=e.kind≠1) ka,ha,hb];simp only[Bool.true_or,Bool.and_true];rfl
theorem rc_noteS (s:Cs) (l:List Wk) (e:Vt) (h:e.kind=1) {a b:Int} (ha:e.loop=a) (hb:e.iter=b):aRC q (s.note e) l={ aRC q s l with ns:=updI (aRC q s l).ns a ((aRC q s l).ns a+1),okS:=(aRC q s l).okS&&(decide ((aRC q s l).ns a=b)&&(decide (b=0)||(aRC q s l).pas a (b - 1))&&(decide (b < q.T)||(aRC q s l).fin a (b - q.T))) }:=by show ({ aRC q s l with fin:=finL (s.log++[e]),pas:=pasL (s.log++[e]),ns:=nsL (s.log++[e]),okS:=okG q.T [] (s.log++[e]) }:RC)=_;rw[finL_n,pasL_n,nsL_n,okG_n,if_neg ka,if_neg ka,if_pos h,decide_eq_false (p:=e.kind≠1) ka];subst ha hb;rfl
end
end Go.Proofs.YtelibaobkcokdaaGreat.Mx.In
namespace Go.Proofs.YtelibaobkcokdaaGreat
set_option linter.unusedSectionVars false
set_option linter.unusedVariables false
set_option linter.unusedSimpArgs false
open Go Go.Kx Go.Proofs
def aSf (f:Sf):List AV:=[.v (.int .i64 f.kind),.v (.int .i64 f.fn),.v (.int .i64 f.pc),aR1 f.regs 0,aR1 f.regs 1,aR1 f.regs 2,aR1 f.regs 3,aR1 f.regs 4,aR1 f.regs 5,aR1 f.regs 6,aR1 f.regs 7,.v (.bool f.dirty),.v (.int .i64 f.index),.v (.int .i64 f.stage),.v (.int .i64 f.serial)]
theorem X48 (f:Sf):(aSf f).length=15:=rfl
def aMk (p:Int×Int):List AV:=[.v (.int .i64 p.1),.v (.int .i64 p.2),.v (.int .i64 0)]
def evC (m:Int) (n w wm wo:Nat) (s:Sv):List AV:=
 [.v (.int .i64 m),.ms 0 0 0 n 1,.ms 6 w 0 s.l.length 15,.ref 3 0 0,.sl s.marks.length (s.marks.flatMap aMk) (.id 7 wm 3),.v (.int .i64 s.serial),.v (.int .i64 s.status),.v (.int .i64 s.why),
  .sl s.out.length (s.out.map aInt) (.id 8 wo 1),.sl 0 [] .nil,.v (.int .i64 s.steps),.v (.int .i64 s.frames),.v (.int .i64 s.deepest)]
def FrAt (cs:List AV) (l:List Sf):Prop:=l.length * 15≤cs.length∧cs.take (l.length * 15)=l.reverse.flatMap aSf
structure MA (m:Int) (fs:List (List Ix)) (σ:Kx.St) (w:Nat) (s:Sv):Prop where
 fz:σ[0]?=some (.frz 0 (fs.map aIxs))
 wd:σ[2]?=some (.obj 0 (s.data.map aInt))
 st:σ[3]?=some (.obj 0 [.ms 2 0 0 s.data.length 1,.v .nilFunc])
 ev:∃wm wo,σ[4]?=some (.obj 0 (evC m fs.length w wm wo s))∧σ[7]?=some (.tail wm)∧σ[8]?=some (.tail wo)
 fr:∃cs,σ[6]?=some (.obj w cs)∧FrAt cs s.l
theorem MA.app {m:Int} {fs:List (List Ix)} {σ τ:Kx.St} {w:Nat} {s:Sv} (h:MA m fs σ w s):MA m fs (σ++τ) w s:=by obtain ⟨wm,wo,h1,h2,h3⟩:=h.ev;obtain ⟨cs,h4,h5⟩:=h.fr;exact ⟨Qn h.fz,Qn h.wd,Qn h.st,⟨wm,wo,Qn h1,Qn h2,Qn h3⟩,⟨cs,Qn h4,h5⟩⟩
theorem MA.len {m:Int} {fs:List (List Ix)} {σ:Kx.St} {w:Nat} {s:Sv} (h:MA m fs σ w s):8 < σ.length:=by obtain ⟨wm,wo,h1,h2,h3⟩:=h.ev;exact Qh h3
theorem MA.set {m:Int} {fs:List (List Ix)} {σ:Kx.St} {w:Nat} {s:Sv} (h:MA m fs σ w s) {j:Nat} (hj:8 < j) (o:Res):MA m fs (σ.set j o) w s:=by obtain ⟨wm,wo,h1,h2,h3⟩:=h.ev;obtain ⟨cs,h4,h5⟩:=h.fr;exact ⟨Qa ka h.fz,Qa ka h.wd,Qa ka h.st,⟨wm,wo,Qa ka h1,Qa ka h2,Qa ka h3⟩,⟨cs,Qa ka h4,h5⟩⟩
theorem XI (A B:List AV) (off:Nat):∀(l:List AV) (B:List AV) (off:Nat),setAtA (A++B) (A.length+off) l=A++setAtA B off l:=by
 intro l
 induction l with
 | nil=>intro B off;rfl
 | cons a l ih=>intro B off;show setAtA ((A++B).set (A.length+off) a) (A.length+off+1) l=A++setAtA (B.set off a) (off+1) l;rw[List.set_append_right _ _ ka,show A.length+off - A.length=off by omega,show A.length+off+1=A.length+(off+1) by omega,ih]
theorem flat_setN {α:Type} {f:α→List AV} {n:Nat} (hn:∀a,(f a).length=n) {x:AV} {j:Nat} (hj:j < n):∀{L:List α} {k:Nat} {g g':α},L[k]?=some g→(f g).set j x=f g'→(L.flatMap f).set (k * n+j) x=(L.set k g').flatMap f:=by
 intro L
 induction L with
 | nil=>intro k g g' h;simp at h
 | cons y L ih=>
  intro k g g' h hs
  cases k with
  | zero=>simp at h;subst h;simp only[Nat.zero_mul,Nat.zero_add,List.set_cons_zero,List.flatMap_cons];rw[List.set_append_left _ _ (by rw[hn];exact hj),hs]
  | succ k=>rw[List.getElem?_cons_succ] at h;simp only[List.set_cons_succ,List.flatMap_cons];rw[List.set_append_right _ _ (by rw[hn];rw[Nat.succ_mul];omega),hn,show (k+1) * n+j - n=k * n+j by rw[Nat.succ_mul];omega,ih h hs]
theorem FrAt.split {cs:List AV} {l:List Sf} (h:FrAt cs l):cs=l.reverse.flatMap aSf++cs.drop (l.length * 15):=by rw[←h.2,List.take_append_drop]
theorem FrAt.of {A B:List AV} {l:List Sf} (h:A=l.reverse.flatMap aSf):FrAt (A++B) l:=by subst h;have hl:=Q36 X48 l.reverse;rw[List.length_reverse] at hl;refine ⟨by rw[List.length_append,hl];omega,?_⟩;rw[List.take_append_of_le_length ka,List.take_of_length_le ka]
theorem FrAt.drop {cs:List AV} {l:List Sf} (h:FrAt cs l) {k:Nat} {g:Sf} (hg:l.reverse[k]?=some g):∃t,cs.drop (k * 15)=aSf g++t:=by have hk:=Qh hg;have hl:=Q36 X48 l.reverse;rw[h.split,List.drop_append_of_le_length (by rw[hl];omega),QQ X48 hg,List.append_assoc];exact ⟨_,rfl⟩
theorem FrAt.get {cs:List AV} {l:List Sf} (h:FrAt cs l) {k:Nat} {g:Sf} (hg:l.reverse[k]?=some g) {j:Nat} {x:AV} (hx:(aSf g)[j]?=some x):cs[k * 15+j]?=some x:=by obtain ⟨t,ht⟩:=h.drop hg;rw[←List.getElem?_drop,ht,List.getElem?_append_left (Qh hx)];exact hx
theorem FrAt.regs {cs:List AV} {l:List Sf} (h:FrAt cs l) {k:Nat} {g:Sf} (hg:l.reverse[k]?=some g):∃t,cs.drop (k * 15+3)=aRg g.regs++t:=by obtain ⟨t,ht⟩:=h.drop hg;rw[←List.drop_drop,ht];exact ⟨_,rfl⟩
theorem FrAt.set {cs:List AV} {l:List Sf} (h:FrAt cs l) {k:Nat} {g g':Sf} (hg:l.reverse[k]?=some g) {j:Nat} (hj:j < 15) {x:AV} (hx:(aSf g).set j x=aSf g') {l':List Sf} (hl':l.reverse.set k g'=l'.reverse):FrAt (cs.set (k * 15+j) x) l':=by have hk:=Qh hg;have hl:=Q36 X48 l.reverse;rw[h.split,List.set_append_left _ _ (by rw[hl];omega)];exact FrAt.of (by rw[flat_setN X48 hj hg hx,hl'])
theorem setAtA_left (A B:List AV):∀(l:List AV) (A:List AV) (off:Nat),off+l.length≤A.length→setAtA (A++B) off l=setAtA A off l++B:=by
 intro l
 induction l with
 | nil=>intro A off _;rfl
 | cons a l ih=>intro A off h;simp only[List.length_cons] at h;show setAtA ((A++B).set off a) (off+1) l=setAtA (A.set off a) (off+1) l++B;rw[List.set_append_left _ _ ka,ih _ _ eG]
theorem FrAt.pop {cs:List AV} {f:Sf} {r:List Sf} (h:FrAt cs (f::r)):FrAt cs r:=by have hl:=Q36 X48 r.reverse;rw[List.length_reverse] at hl;rw[h.split,List.reverse_cons,List.flatMap_append,List.append_assoc];exact FrAt.of rfl
theorem FrAt.push {cs:List AV} {l:List Sf} (h:FrAt cs l) (f:Sf):FrAt (cs.take (l.length * 15)++aSf f) (f::l):=by
 rw[h.2];have:l.reverse.flatMap aSf++aSf f=(f::l).reverse.flatMap aSf:=by simp
 rw[this,←List.append_nil ((f::l).reverse.flatMap aSf)];exact FrAt.of rfl
theorem Yb {d:List Int} {at_:Int} (h:¬(at_ < 0∨(d.length:Int)≤at_)):(d.map aInt)[at_.toNat]?=some (.v (.int .i64 (d.getD at_.toNat 0))):=by obtain ⟨x,hx⟩:=Q23 (l:=d) (k:=at_.toNat) ka;rw[List.getElem?_map,List.getD_eq_getElem?_getD,hx];rfl
theorem Q20 {α:Type} {l:List α} {i:Nat} {x:α} (h:l[i]?=some x):l.set i x=l:=by
 refine List.ext_getElem? fun j=>?_;by_cases e:i=j
 ·subst e;rw[List.getElem?_set_self (Qh h),h]
 ·rw[List.getElem?_set_ne e]
theorem Yc (d:List Int) (k:Nat) (v:Int):(d.map aInt).set k (.v (.int .i64 v))=(d.set k v).map aInt:=by rw[List.map_set];rfl
section
variable {σ:Kx.St} {d:List Int} (hst:σ[3]?=some (.obj 0 [.ms 2 0 0 d.length 1,.v .nilFunc])) (hwd:σ[2]?=some (.obj 0 (d.map aInt)))
include hst hwd
end
end Go.Proofs.YtelibaobkcokdaaGreat
namespace Go.Proofs.YtelibaobkcokdaaGreat
open Go Go.Kx Go.Proofs
set_option linter.unusedVariables false
set_option maxRecDepth 100000
set_option maxHeartbeats 16000000
noncomputable def X24:=qH Tryz.prog 91
noncomputable def Z63:=qH Tryz.prog 92
noncomputable def X83:=qH Tryz.prog 138
noncomputable def Z64:=qH Tryz.prog 139
noncomputable def Z19:=qH Tryz.prog 140
noncomputable def Z20:=qH Tryz.prog 141
noncomputable def Z98:=qH Tryz.prog 142
noncomputable def Z65:=qH Tryz.prog 144
noncomputable def Z66:=qH Tryz.prog 145
noncomputable def ZN:=qH Tryz.prog 213
noncomputable def X84:=qH Tryz.prog 214
noncomputable def Q74:=qH Tryz.prog 215
noncomputable def Z21:=qH Tryz.prog 216
noncomputable def Z67:=qH Tryz.prog 217
noncomputable def ZO:=qH Tryz.prog 218
noncomputable def YJ:=qH Tryz.prog 226
noncomputable def X85:=qH Tryz.prog 233
noncomputable def Z99:=qH Tryz.prog 269
noncomputable def Z22:=qH Tryz.prog 270
noncomputable def Z68:=qH Tryz.prog 273
noncomputable def Z69:=qH Tryz.prog 277
noncomputable def Q96:=qH Tryz.prog 298
noncomputable def Q97:=qH Tryz.prog 299
noncomputable def ZP:=qH Tryz.prog 300
noncomputable def Z23:=qH Tryz.prog 301
noncomputable def X0:=qH Tryz.prog 302
noncomputable def X9:=qH Tryz.prog 303
noncomputable def Q75:=qH Tryz.prog 310
noncomputable def ZQ:=qH Tryz.prog 311
noncomputable def Z24:=qH Tryz.prog 312
noncomputable def Q76:=qH Tryz.prog 313
noncomputable def Z70:=qH Tryz.prog 314
noncomputable def Q53:=qH Tryz.prog 316
noncomputable def Q38:=qH Tryz.prog 317
noncomputable def Q24:=qH Tryz.prog 318
end Go.Proofs.YtelibaobkcokdaaGreat
