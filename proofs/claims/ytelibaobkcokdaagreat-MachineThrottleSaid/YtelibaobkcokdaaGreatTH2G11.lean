/- The machine: its state, and what each worker's step does. Plain. -/
import Derived.Test.YtelibaobkcokdaaGreatTH2G10
namespace Go.Proofs.YtelibaobkcokdaaGreat.Mx
set_option linter.unusedVariables false
set_option linter.unusedSimpArgs false
open Go Go.Kx Go.Proofs Go.Proofs.YtelibaobkcokdaaGreat
abbrev w64 (n:Int):Int:=IntKind.i64.wrap n
def cl (n a b:Int):Int:=min (max n a) b
structure Pm where
 W:Int
 T:Int
 F:Int
 D:Int
 O:Int
 fold:Bool
 lazy:Bool
 fs:List (List Ix)
def Pm.Ok (q:Pm):Prop:=(1≤q.W∧q.W≤64)∧(1≤q.T∧q.T≤64)∧(1≤q.F∧q.F≤256)∧(2≤q.D∧q.D≤256)∧(0≤q.O∧q.O≤1000)
def Pm.wide (q:Pm):Int:=4+q.D
def Pm.room (q:Pm):Int:=2+4 * (q.T+1)
def Pm.size (q:Pm):Int:=q.W * q.wide+q.F * q.room
def Pm.base (q:Pm) (w:Int):Int:=cl w 0 (q.W - 1) * q.wide
def Pm.slot (q:Pm) (w n:Int):Int:=q.base w+4+(max n 0) % q.D
def Pm.frame (q:Pm) (id:Int):Int:=q.W * q.wide+(cl id 1 q.F - 1) * q.room
def Pm.nap (q:Pm) (id:Int):Int:=q.frame id+1
def Pm.word (q:Pm) (id it n:Int):Int:=q.frame id+2+4 * ((max it 0) % (q.T+1))+n
structure Fm where
 kind:Int
 fn:Int
 pc:Int
 regs:List Int
 parent:Int
 dirty:Bool
 due:Bool
 index:Int
 stage:Int
 fold:Int
 started:Int
 serial:Int
def fm0:Fm:=⟨0,0,0,z8,0,false,false,0,0,0,0,0⟩
structure Vt where
 kind:Int
 loop:Int
 iter:Int
 stage:Int
 deriving DecidableEq
structure Cs where
 ws:List Int
 data:List Int
 fr:List Fm
 held:List Bool
 back:List Int
 fresh:Int
 peak:Int
 out:List Int
 log:List Vt
 steps:Int
 probes:Int
 steals:Int
 parks:Int
 naps:Int
 folds:Int
 serial:Int
 status:Int
 why:Int
def ldW (ws:List Int) (a:Int):Int:=ws.getD a.toNat 0
def stW (ws:List Int) (a v:Int):List Int:=ws.set a.toNat v
def addW (ws:List Int) (a v:Int):List Int:=stW ws a (w64 (ldW ws a+v))
def swW (ws:List Int) (a n:Int):Bool×List Int:=if ldW ws a=n then (true,stW ws a 0) else (false,ws)
def fillW (ws:List Int) (a m n:Int):List Int:=ws.mapIdx fun i x=>if a≤i∧(i:Int) - a < m then n else x
def heldT (n:Int):Int:=min (max n 0) 1048575
def tokF (loop it st:Int):Int:=heldT loop * 1099511627776+heldT it * 1048576+heldT st
def wholeT (t:Int):Int:=min (max t 0) 1152921504606846975
def tokStage (t:Int):Int:=wholeT t % 1048576
def tokIs (t:Int):Bool:=decide (1099511627776≤t∧t≤1152921504606846975)
structure Rg where
 id:Int
 serial:Int
def Rg.may (r:Rg) (t it counter:Int):Int×Bool:=if tokIs t=true∧tokStage t < counter∧t=tokF r.serial it (tokStage t) then (tokStage t,true) else (0,false)
def joinLeave (ws:List Int) (a:Int):Bool×List Int:=(decide (ldW ws a=1),addW ws a (-1))
inductive DN where
 | nil|room|lay|grow|less|looks|takes|restores|askL|mineL|lessAgain|looksAgain|leaveT|backP|leaveN|askF|mineF|first|claims|finds|backS|carries
 deriving DecidableEq
structure Dq where
 who:Int
 t:Int
 x:Int
 h:Int
 ta:Int
 tn:Int
 nx:DN
 got:Bool
 full:Bool
def clT (t:Int):Int:=min (max t 0) 1099511627776
def dqPush (who t x:Int):Dq:=⟨who,clT t,x,0,0,0,.room,false,false⟩
def dqPop (who t:Int):Dq:=⟨who,clT t,0,0,0,0,.less,false,false⟩
def dqSteal (who:Int):Dq:=⟨who,0,0,0,0,0,.askF,false,false⟩
def dqNext (q:Pm) (d:Dq) (ws:List Int):Dq×List Int:=
 match d.nx with
 | .nil=>(d,ws)
 | .room=>if q.D - 1≤w64 (d.t - ldW ws (q.base d.who)) then ({ d with full:=true,nx:=.nil },ws) else ({ d with nx:=.lay },ws)
 | .lay=>({ d with nx:=.grow },stW ws (q.slot d.who d.t) d.x)
 | .grow=>({ d with t:=w64 (d.t+1),nx:=.nil },stW ws (q.base d.who+1) (w64 (d.t+1)))
 | .less=>({ d with nx:=.looks },stW ws (q.base d.who+1) (w64 (d.t - 1)))
 | .looks=>if ldW ws (q.base d.who)≤w64 (d.t - 1) then ({ d with nx:=.takes },ws) else ({ d with nx:=.restores },ws)
 | .takes=>({ d with t:=w64 (d.t - 1),x:=ldW ws (q.slot d.who (w64 (d.t - 1))),got:=true,nx:=.nil },ws)
 | .restores=>({ d with nx:=.askL },stW ws (q.base d.who+1) d.t)
 | .askL=>({ d with ta:=q.base d.who+2,tn:=ldW ws (q.base d.who+2),nx:=.mineL },addW ws (q.base d.who+2) 1)
 | .mineL=>if ldW ws (d.ta+1)=d.tn then ({ d with nx:=.lessAgain },ws) else (d,ws)
 | .lessAgain=>({ d with nx:=.looksAgain },stW ws (q.base d.who+1) (w64 (d.t - 1)))
 | .looksAgain=>if ldW ws (q.base d.who)≤w64 (d.t - 1) then ({ d with nx:=.leaveT },ws) else ({ d with nx:=.backP },ws)
 | .leaveT=>({ d with nx:=.takes },stW ws (d.ta+1) (w64 (d.tn+1)))
 | .backP=>({ d with nx:=.leaveN },stW ws (q.base d.who+1) d.t)
 | .leaveN=>({ d with nx:=.nil },stW ws (d.ta+1) (w64 (d.tn+1)))
 | .askF=>({ d with ta:=q.base d.who+2,tn:=ldW ws (q.base d.who+2),nx:=.mineF },addW ws (q.base d.who+2) 1)
 | .mineF=>if ldW ws (d.ta+1)=d.tn then ({ d with nx:=.first },ws) else (d,ws)
 | .first=>({ d with h:=ldW ws (q.base d.who),nx:=.claims },ws)
 | .claims=>({ d with nx:=.finds },stW ws (q.base d.who) (w64 (d.h+1)))
 | .finds=>if w64 (d.h+1)≤ldW ws (q.base d.who+1) then ({ d with nx:=.carries },ws) else ({ d with nx:=.backS },ws)
 | .backS=>({ d with nx:=.leaveN },stW ws (q.base d.who) d.h)
 | .carries=>({ d with x:=ldW ws (q.slot d.who d.h),got:=true,nx:=.leaveN },ws)
def Dq.ended (d:Dq):Bool:=decide (d.nx=.nil)
def Dq.gets (d:Dq):Int×Bool:=if d.nx=.nil∧d.got=true then (d.x,true) else (0,false)
structure Rt where
 r:Rg
 it:Int
 counter:Int
 stage:Int
 next:Int
 frame:Int
 got:Bool
def rtLook (r:Rg) (it counter:Int):Rt:=⟨r,w64 (it+1),counter,0,0,0,false⟩
def goesN (ok:Bool) (n:Int):Int:=if ok then n else 3
def rtStep (q:Pm) (w:Rt) (ws:List Int):Rt×List Int:=
 if w.next=0 then ({ w with stage:=(w.r.may (ldW ws (q.word w.r.id w.it 1)) w.it w.counter).1,next:=goesN (w.r.may (ldW ws (q.word w.r.id w.it 1)) w.it w.counter).2 1 },ws)
 else if w.next=1 then ({ w with next:=goesN (swW ws (q.word w.r.id w.it 1) (tokF w.r.serial w.it w.stage)).1 2 },(swW ws (q.word w.r.id w.it 1) (tokF w.r.serial w.it w.stage)).2)
 else if w.next=2 then ({ w with frame:=ldW ws (q.word w.r.id w.it 2),got:=true,next:=3 },ws)
 else (w,ws)
structure Pk where
 r:Rg
 it:Int
 stage:Int
 next:Int
 back:Bool
def pkStop (r:Rg) (it stage:Int):Pk:=⟨r,it,stage,0,false⟩
def pkStep (q:Pm) (w:Pk) (ws:List Int):Pk×List Int:=
 if w.next=0 then ({ w with next:=1 },stW ws (q.word w.r.id w.it 1) (tokF w.r.serial w.it w.stage))
 else if w.next=1 then ({ w with next:=goesN (decide (w.stage < ldW ws (q.word w.r.id (w64 (w.it - 1)) 0))) 2 },ws)
 else if w.next=2 then ({ w with back:=(swW ws (q.word w.r.id w.it 1) (tokF w.r.serial w.it w.stage)).1,next:=3 },(swW ws (q.word w.r.id w.it 1) (tokF w.r.serial w.it w.stage)).2)
 else (w,ws)
structure Tw where
 r:Rg
 it:Int
 at_:Int
 over:Bool
 won:Bool
 looks:Bool
def napNew (r:Rg) (it:Int):Tw:=⟨r,it,0,false,false,false⟩
def wakeNew (r:Rg) (it:Int) (looks:Bool):Tw:=⟨r,it,0,false,false,looks⟩
def Tw.go (w:Tw) (on:Bool):Tw:={ w with at_:=w64 (w.at_+1),over:=!on }
def rouse (q:Pm) (w:Tw) (ws:List Int):Tw×List Int:=({ w with won:=(swW ws (q.nap w.r.id) (tokF w.r.serial w.it 0)).1,over:=true },(swW ws (q.nap w.r.id) (tokF w.r.serial w.it 0)).2)
def endedR (q:Pm) (r:Rg) (ws:List Int) (it:Int):Bool:=decide (ldW ws (q.word r.id it 3)=tokF r.serial it 0)
def napStep (q:Pm) (w:Tw) (ws:List Int):Tw×List Int:=
 if w.over then (w,ws)
 else if w.at_=0 then (w.go true,stW ws (q.nap w.r.id) (tokF w.r.serial w.it 0))
 else if w.at_=1 then (w.go (endedR q w.r ws w.it),ws)
 else rouse q w ws
def wakeStep (q:Pm) (w:Tw) (ws:List Int):Tw×List Int:=
 if w.over then (w,ws)
 else if w.at_=0 then (w.go w.looks,stW ws (q.word w.r.id w.it 3) (tokF w.r.serial w.it 0))
 else if w.at_=1 then (w.go (decide (ldW ws (q.nap w.r.id)=tokF w.r.serial w.it 0)),ws)
 else rouse q w ws
def Cs.isHeld (s:Cs) (id:Int):Bool:=decide (0 < id∧id < s.held.length)&&s.held.getD id.toNat false
def Cs.at (s:Cs) (id:Int):Fm:=if s.isHeld id then s.fr.getD id.toNat fm0 else fm0
def Cs.setFr (s:Cs) (id:Int) (f:Fm):Cs:=if s.isHeld id then { s with fr:=s.fr.set id.toNat f } else s
def Cs.setIf (s:Cs) (b:Bool) (id:Int) (f:Fm):Cs:=if b then s.setFr id f else s
def usedN (l:List Bool):Nat:=l.countP id
def Cs.nextId (s:Cs):Option (Int×List Int×Int):=
 match s.back.getLast? with
 | some id=>some (id,s.back.dropLast,s.fresh)
 | none=>if (s.held.length:Int)≤w64 (s.fresh+1) then none else some (w64 (s.fresh+1),[],w64 (s.fresh+1))
def Cs.take (s:Cs):Option (Int×Cs):=
 match s.nextId with
 | none=>none
 | some (id,back,fresh)=>some (id,{ s with back:=back,fresh:=fresh,held:=s.held.set id.toNat true,peak:=max s.peak (usedN (s.held.set id.toNat true)) })
def Cs.make (q:Pm) (s:Cs) (f:Fm):Option (Int×Cs):=
 match s.take with
 | none=>none
 | some (id,s)=>some (id,{ s with fr:=s.fr.set id.toNat f,ws:=fillW (fillW s.ws (q.frame id) q.room 0) (q.frame id) 1 1 })
def Cs.free (s:Cs) (id:Int):Cs:=if s.isHeld id then { s with held:=s.held.set id.toNat false,back:=s.back++[id] } else s
def Cs.stop (s:Cs) (st why:Int):Cs:=if s.status=0 then { s with status:=st,why:=why } else s
def Cs.note (s:Cs) (e:Vt):Cs:={ s with log:=s.log++[e] }
def Cs.setW (s:Cs) (ws:List Int):Cs:={ s with ws:=ws }
inductive Th where
 | none|looksOn|decide|stop|runs (id:Int)|takes (id:Int)
structure Wk where
 own:Int
 state:Int
 holds:Int
 tail:Int
 probed:Int
 dq:Option Dq
 th:Th
 other:Int
 gStage:Int
 gWaits:Bool
 gLooked:Bool
 gWhy:Int
 eHeld:Bool
 eBreaks:Bool
 eRight:Int
 eWoken:Bool
 right:Option Rt
 park:Option Pk
 wake:Option Tw
 nap:Option Tw
def wkNew (own:Int):Wk:=⟨own,0,0,0,0,none,.none,0,0,false,false,0,false,false,0,false,none,none,none,none⟩
abbrev WC:=Wk×Cs
def Wk.runs (w:Wk) (id:Int):Wk:={ w with holds:=id,state:=4 }
def Wk.loops (w:Wk) (id:Int):Wk:={ w with holds:=id,state:=19 }
def Wk.takes (w:Wk) (s:Cs) (id:Int):Wk:=if s.isHeld id=true∧(s.at id).kind=3 then w.loops id else w.runs id
def Wk.goes (w:Wk):Wk:={ w with holds:=0,state:=2,dq:=some (dqPop w.own w.tail) }
def Wk.pushes (w:Wk) (id:Int) (th:Th):Wk:={ w with dq:=some (dqPush w.own w.tail id),th:=th,state:=3 }
def ringF (s:Cs) (loop:Int):Rg:=⟨loop,(s.at loop).serial⟩
def dqStep (q:Pm) (d:Option Dq) (ws:List Int):Option Dq×List Int:=match d with|none=>(none,ws)|some d=>(some (dqNext q d ws).1,(dqNext q d ws).2)
def dqEnded (d:Option Dq):Bool:=match d with|none=>true|some d=>d.ended
def dqGets (d:Option Dq):Int×Bool:=match d with|none=>(0,false)|some d=>d.gets
def dqTail (d:Option Dq):Int:=match d with|none=>0|some d=>d.t
def dqFull (d:Option Dq):Bool:=match d with|none=>false|some d=>d.full
def stepD (q:Pm) (x:WC):WC:=({ x.1 with dq:=(dqStep q x.1.dq x.2.ws).1 },x.2.setW (dqStep q x.1.dq x.2.ws).2)
def seekF (q:Pm) (x:WC) (victim:Int):WC:=
 let v:=(w64 ((max victim 0) % q.W+x.1.probed)).tmod q.W
 let w:={ x.1 with probed:=w64 (x.1.probed+1) }
 let s:={ x.2 with probes:=w64 (x.2.probes+1) }
 if v=w.own then (w,s) else stepD q ({ w with dq:=some (dqSteal v),state:=1 },s)
def stealF (q:Pm) (x:WC):WC:=
 let y:=stepD q x
 if dqEnded y.1.dq=false then y
 else if (dqGets y.1.dq).2=false then ({ y.1 with state:=0 },y.2)
 else (y.1.takes { y.2 with steals:=w64 (y.2.steals+1) } (dqGets y.1.dq).1,{ y.2 with steals:=w64 (y.2.steals+1) })
def popF (q:Pm) (x:WC):WC:=
 let y:=stepD q x
 if dqEnded y.1.dq=false then y
 else
  let w:={ y.1 with tail:=dqTail y.1.dq }
  if (dqGets y.1.dq).2=false then ({ w with state:=0 },y.2) else (w.takes y.2 (dqGets y.1.dq).1,y.2)
def dueF (x:WC):WC:=({ x.1 with state:=4 },x.2.setFr x.1.holds { x.2.at x.1.holds with due:=true })
def decideF (q:Pm) (x:WC):WC:=
 let f:=x.2.at x.1.holds
 if x.1.gWaits=false∨f.index=0 then dueF x
 else if q.fold=true∧x.1.gStage < f.fold then dueF (x.1,{ x.2 with folds:=w64 (x.2.folds+1) })
 else ({ x.1 with state:=12 },x.2)
def checksF (x:WC) (why counter:Int):WC:=
 let f:=x.2.at x.1.holds
 ({ x.1 with gWhy:=why,state:=11,right:=some (rtLook (ringF x.2 f.parent) f.index counter) },x.2)
def looksOnF (q:Pm) (x:WC):WC:=if q.lazy then ({ x.1 with state:=10 },x.2) else checksF x 0 x.1.gStage
def stopF (x:WC):WC:=
 let f:={ x.2.at x.1.holds with due:=true }
 let s0:=x.2.setFr x.1.holds f
 let s:={ s0 with parks:=w64 (s0.parks+1) }
 ({ x.1 with park:=some (pkStop (ringF s f.parent) f.index x.1.gStage),other:=x.1.holds,holds:=0,state:=13 },s)
def thenF (q:Pm) (x:WC):WC:=
 match x.1.th with
 | .none=>x
 | .looksOn=>looksOnF q x
 | .decide=>decideF q x
 | .stop=>stopF x
 | .runs id=>(x.1.runs id,x.2)
 | .takes id=>(x.1.takes x.2 id,x.2)
def pushF (q:Pm) (x:WC):WC:=
 let y:=stepD q x
 if dqEnded y.1.dq=false then y
 else
  let w:={ y.1 with tail:=dqTail y.1.dq }
  if dqFull y.1.dq then (w,y.2.stop 5 2) else thenF q (w,y.2)
def joinedF (q:Pm) (x:WC):WC:=
 let s:=x.2.setW (stW x.2.ws (q.frame x.1.holds) 1)
 ({ x.1 with state:=4 },s.setFr x.1.holds { s.at x.1.holds with dirty:=false })
def spawnF (q:Pm) (x:WC):WC:=(x.1.pushes x.1.holds (.runs x.1.other),x.2.setW (addW x.2.ws (q.frame x.1.holds) 1))
def arriveF (q:Pm) (x:WC):WC:=
 let s:=x.2.setW (joinLeave x.2.ws (q.frame x.1.other)).2
 if (joinLeave x.2.ws (q.frame x.1.other)).1 then ({ x.1 with state:=8 },s) else (x.1.goes,s)
def resumeF (q:Pm) (x:WC):WC:=
 let s:=x.2.setW (stW x.2.ws (q.frame x.1.other) 1)
 (x.1.runs x.1.other,s.setFr x.1.other { s.at x.1.other with dirty:=false })
def noteF (x:WC) (kind:Int):WC:=
 let f:=x.2.at x.1.holds
 (x.1,x.2.note ⟨kind,(x.2.at f.parent).serial,f.index,f.stage⟩)
def advanceF (q:Pm) (x:WC):WC:=
 let f:=x.2.at x.1.holds
 let s:=x.2.setW (stW x.2.ws (q.word f.parent f.index 0) x.1.gStage)
 let y:=noteF (x.1,s.setFr x.1.holds { f with stage:=x.1.gStage }) (if x.1.gWaits then 3 else 6)
 if f.stage=0 then (y.1.pushes f.parent .looksOn,y.2) else looksOnF q y
def peekF (q:Pm) (x:WC):WC:=
 if x.1.tail≤ldW x.2.ws (q.base x.1.own) then checksF x 0 x.1.gStage else decideF q ({ x.1 with gLooked:=false },x.2)
def checkF2 (q:Pm) (x:WC):WC:=
 let r:=match x.1.right with|none=>(none,x.2.ws)|some r=>(some (rtStep q r x.2.ws).1,(rtStep q r x.2.ws).2)
 let y:WC:=({ x.1 with right:=r.1 },x.2.setW r.2)
 if (match r.1 with|none=>true|some r=>decide (r.next=3))=false then y
 else
  let id:=match r.1 with|none=>0|some r=>r.frame
  let ok:=match r.1 with|none=>false|some r=>r.got
  if y.1.gWhy=2 then
   let f:=y.2.at y.1.holds
   ({ y.1 with eRight:=id,wake:=some (wakeNew (ringF y.2 f.parent) f.index (!y.1.eHeld)),state:=15 },y.2)
  else if ok then (y.1.pushes id (if y.1.gWhy=1 then .stop else .decide),y.2)
  else if y.1.gWhy=1 then stopF y else decideF q y
def lookF (q:Pm) (x:WC):WC:=
 let f:=x.2.at x.1.holds
 let n:=ldW x.2.ws (q.word f.parent (w64 (f.index - 1)) 0)
 let y:WC:=(x.1,x.2.setFr x.1.holds { f with fold:=n })
 if x.1.gStage < n then dueF y
 else if q.lazy=true∧x.1.gLooked=false then checksF ({ y.1 with gLooked:=true },y.2) 1 x.1.gStage
 else stopF y
def parksF (q:Pm) (x:WC):WC:=
 let r:=match x.1.park with|none=>(none,x.2.ws)|some r=>(some (pkStep q r x.2.ws).1,(pkStep q r x.2.ws).2)
 let y:WC:=({ x.1 with park:=r.1 },x.2.setW r.2)
 if (match r.1 with|none=>true|some r=>decide (r.next=3))=false then y
 else if (match r.1 with|none=>false|some r=>r.back) then (y.1.runs y.1.other,y.2)
 else (y.1.goes,y.2)
def endsF (q:Pm) (x:WC):WC:=
 let f:=x.2.at x.1.holds
 checksF (noteF (x.1,x.2.setW (stW x.2.ws (q.word f.parent f.index 0) 1048576)) 4) 2 1048576
def closesF (q:Pm) (x:WC):WC:=
 let r:=match x.1.wake with|none=>(none,x.2.ws)|some r=>(some (wakeStep q r x.2.ws).1,(wakeStep q r x.2.ws).2)
 let y:WC:=({ x.1 with wake:=r.1 },x.2.setW r.2)
 if (match r.1 with|none=>true|some r=>r.over) then ({ y.1 with eWoken:=(match r.1 with|none=>false|some r=>r.won),state:=16 },y.2) else y
def nextF (x:WC) (loop:Int):WC:=
 if 0 < x.1.eRight∧x.1.eWoken=true then (x.1.pushes loop (.takes x.1.eRight),x.2)
 else if 0 < x.1.eRight then (x.1.takes x.2 x.1.eRight,x.2)
 else if x.1.eWoken then (x.1.takes x.2 loop,x.2)
 else (x.1.goes,x.2)
def dropF (q:Pm) (x:WC):WC:=
 let loop:=(x.2.at x.1.holds).parent
 let s:=x.2.free x.1.holds
 let s:=s.setW (joinLeave s.ws (q.frame loop)).2
 let w:Wk:={ x.1 with holds:=0 }
 if w.eHeld=true∧w.eBreaks=true then ({ w with other:=loop,state:=17 },s)
 else if w.eHeld then (w.loops loop,s)
 else if (joinLeave x.2.ws (q.frame loop)).1 then ({ w with holds:=loop,state:=18 },s)
 else nextF (w,s) loop
def finishF (q:Pm) (x:WC):WC:=
 let s:=x.2.setW (joinLeave x.2.ws (q.frame x.1.other)).2
 if (joinLeave x.2.ws (q.frame x.1.other)).1 then ({ x.1 with holds:=x.1.other,state:=18 },s) else (x.1.goes,s)
def completeF (x:WC):WC:=
 let f:=x.2.at x.1.holds
 let s:=x.2.note ⟨5,f.serial,f.started,0⟩
 let s:=s.setFr f.parent { s.at f.parent with regs:=f.regs }
 (x.1.runs f.parent,s.free x.1.holds)
def makeF (q:Pm) (s:Cs) (f:Fm):Option Int×Cs:=match s.make q f with|some (id,s)=>(some id,s)|none=>(none,s.stop 5 1)
def startF (q:Pm) (x:WC):WC:=
 let f:=x.2.at x.1.holds
 match makeF q x.2 ⟨2,f.fn,0,f.regs,x.1.holds,false,false,f.started,0,0,0,0⟩ with
 | (none,s)=>(x.1,s)
 | (some id,s)=>({ x.1 with other:=id,state:=22 },s.setIf (x.2.isHeld x.1.holds) x.1.holds { f with started:=w64 (f.started+1) })
def loopF (q:Pm) (x:WC):WC:=
 let f:=x.2.at x.1.holds
 let n:=w64 (f.started - q.T)
 let r:=ringF x.2 x.1.holds
 if n < 0 then startF q x
 else if endedR q r x.2.ws n then ({ x.1 with state:=21 },x.2)
 else ({ x.1 with nap:=some (napNew r n),other:=x.1.holds,holds:=0,state:=20 },{ x.2 with naps:=w64 (x.2.naps+1) })
def napsF (q:Pm) (x:WC):WC:=
 let r:=match x.1.nap with|none=>(none,x.2.ws)|some r=>(some (napStep q r x.2.ws).1,(napStep q r x.2.ws).2)
 let y:WC:=({ x.1 with nap:=r.1 },x.2.setW r.2)
 if (match r.1 with|none=>true|some r=>r.over)=false then y
 else if (match r.1 with|none=>false|some r=>r.won) then ({ y.1 with holds:=y.1.other,state:=21 },y.2)
 else (y.1.goes,y.2)
def countF (q:Pm) (x:WC):WC:=({ x.1 with state:=23 },x.2.setW (stW x.2.ws (q.word x.1.holds (x.2.at x.1.other).index 0) 0))
def nameF2 (q:Pm) (x:WC):WC:=({ x.1 with state:=24 },x.2.setW (stW x.2.ws (q.word x.1.holds (x.2.at x.1.other).index 2) x.1.other))
def joinsF (q:Pm) (x:WC):WC:=noteF (noteF (x.1.runs x.1.other,x.2.setW (addW x.2.ws (q.frame x.1.holds) 1)) 1) 2
def Pm.code (q:Pm) (fn pc:Int):Ix:=if fn < 0∨pc < 0 then ⟨0,0,0,0⟩ else (q.fs.getD fn.toNat []).getD pc.toNat ⟨0,0,0,0⟩
def forkF (q:Pm) (x:WC) (f:Fm) (pc fn:Int):WC:=
 match makeF q x.2 ⟨1,fn,0,f.regs,x.1.holds,false,false,0,0,0,0,0⟩ with
 | (none,s)=>(x.1,s)
 | (some id,s)=>({ x.1 with other:=id,state:=6 },s.setIf (x.2.isHeld x.1.holds) x.1.holds { f with pc:=pc,dirty:=true })
def pipeF (q:Pm) (x:WC) (f:Fm) (pc fn:Int):WC:=
 let s:={ x.2 with serial:=w64 (x.2.serial+1) }
 match makeF q s ⟨3,fn,0,f.regs,x.1.holds,false,false,0,0,0,0,s.serial⟩ with
 | (none,s)=>(x.1,s)
 | (some id,s)=>(x.1.loops id,s.setIf (x.2.isHeld x.1.holds) x.1.holds { f with pc:=pc })
def goOnF (x:WC) (f:Fm) (pc:Int) (e:Ef):WC:=
 if f.kind≠2 then (x.1,x.2.stop 4 4)
 else if goE f.stage e.v≠0 then (x.1,x.2.stop 4 (goE f.stage e.v))
 else
  let f:={ f with pc:=pc }
  let s:=x.2.setFr x.1.holds f
  ({ x.1 with gStage:=e.v,gWaits:=decide (e.k=9),gLooked:=true,gWhy:=0,state:=9 },if f.stage=0 then s.setFr f.parent { s.at f.parent with regs:=f.regs } else s)
def leaveF (x:WC) (f:Fm):WC:=
 if f.kind≠2 then (x.1,x.2.stop 4 4)
 else if f.stage≠0 then (x.1,x.2.stop 4 5)
 else ({ x.1 with eHeld:=true,eBreaks:=true,eRight:=0,eWoken:=false,state:=14 },x.2.setFr f.parent { x.2.at f.parent with regs:=f.regs })
def backF (x:WC) (f:Fm):WC:=
 if f.kind=2 then
  ({ x.1 with eHeld:=decide (f.stage=0),eBreaks:=false,eRight:=0,eWoken:=false,state:=14 },if f.stage=0 then x.2.setFr f.parent { x.2.at f.parent with regs:=f.regs } else x.2)
 else if f.parent=0 then (x.1,x.2.stop 1 0)
 else ({ x.1 with other:=f.parent,holds:=0,state:=7 },x.2.free x.1.holds)
def turnF (q:Pm) (x:WC) (f:Fm) (pc:Int) (e:Ef):WC:=
 if e.k=6 then forkF q x f pc e.v
 else if e.k=8 then pipeF q x f pc e.v
 else if e.k=9∨e.k=10 then goOnF x f pc e
 else if e.k=11 then leaveF x f
 else if e.k=12 then backF x f
 else x
def emitC (q:Pm) (s:Cs) (n:Int):Option Cs:=if q.O≤s.out.length then none else some { s with out:=s.out++[n] }
def beginC (s:Cs) (id:Int) (f:Fm):Cs:=if f.due then (s.setFr id { f with due:=false }).note ⟨2,(s.at f.parent).serial,f.index,f.stage⟩ else s
def instrF (q:Pm) (x:WC) (f:Fm) (r:Int×List Int×Ef×Int):WC:=
 let pc:=r.1;let regs:=r.2.1;let e:=r.2.2.1;let fault:=r.2.2.2
 if endsE e=true∧f.dirty=true then
  let s:=x.2.setW (joinLeave x.2.ws (q.frame x.1.holds)).2
  if (joinLeave x.2.ws (q.frame x.1.holds)).1 then ({ x.1 with state:=5 },s) else (x.1.goes,s)
 else if fault≠0 then (x.1,x.2.stop 4 fault)
 else if 1≤e.k∧e.k≤4 then
  let a:=askD x.2.data e
  if a.2.1=false then (x.1,{ x.2 with data:=a.2.2 }.stop 4 2)
  else (x.1,{ x.2 with data:=a.2.2 }.setFr x.1.holds { f with pc:=pc,regs:=tookR regs e a.1 })
 else if e.k=5 then
  match emitC q x.2 e.v with
  | none=>(x.1,x.2.stop 5 3)
  | some s=>(x.1,s.setFr x.1.holds { f with pc:=pc })
 else if e.k=0∨e.k=7 then (x.1,x.2.setFr x.1.holds { f with pc:=pc,regs:=regs })
 else turnF q x f pc e
def runF (q:Pm) (x:WC):WC:=
 let f:=x.2.at x.1.holds
 let g:={ f with due:=false }
 instrF q (x.1,beginC x.2 x.1.holds f) g (doF (q.code g.fn g.pc) g.pc g.regs)
def actF (q:Pm) (x:WC):WC:=
 let st:=x.1.state
 if st=1 then stealF q x else if st=2 then popF q x else if st=3 then pushF q x else if st=4 then runF q x else if st=5 then joinedF q x
 else if st=6 then spawnF q x else if st=7 then arriveF q x else if st=8 then resumeF q x else if st=9 then advanceF q x else if st=10 then peekF q x
 else if st=11 then checkF2 q x else if st=12 then lookF q x else if st=13 then parksF q x else if st=14 then endsF q x else if st=15 then closesF q x
 else if st=16 then dropF q x else if st=17 then finishF q x else if st=18 then completeF x else if st=19 then loopF q x else if st=20 then napsF q x
 else if st=21 then startF q x else if st=22 then countF q x else if st=23 then nameF2 q x else joinsF q x
def wkStep (q:Pm) (x:WC) (victim:Int):WC:=
 if x.2.status≠0 then x
 else
  let x:WC:=(x.1,{ x.2 with steps:=w64 (x.2.steps+1) })
  if x.1.state=0 then seekF q x victim else actF q x
structure Mc where
 c:Cs
 l:List Wk
def Mc.ended (m:Mc):Bool:=decide (m.c.status≠0∨8388608≤m.c.steps)
def pickN (q:Pm) (w:Int):Nat:=((max w 0) % q.W).toNat
def Mc.step (q:Pm) (m:Mc) (worker victim:Int):Mc:=
 if m.ended then m
 else
  let x:=wkStep q (m.l.getD (pickN q worker) (wkNew 0),m.c) victim
  ⟨x.2,m.l.set (pickN q worker) x.1⟩
def cs0 (q:Pm) (mem:Int) (input:List Int):Cs:=
 ⟨List.replicate q.size.toNat 0,input++List.replicate (mem.toNat - input.length) 0,List.replicate (q.F+1).toNat fm0,List.replicate (q.F+1).toNat false,[],0,0,[],[],0,0,0,0,0,0,0,0,0⟩
def Mc.run (q:Pm) (m:Mc) (script:List (Int×Int)):Mc:=script.foldl (fun m x=>m.step q x.1 x.2) m
end Go.Proofs.YtelibaobkcokdaaGreat.Mx
namespace Go.Proofs.YtelibaobkcokdaaGreat
set_option linter.unusedVariables false
set_option linter.unusedSimpArgs false
open Go Go.Kx Go.Proofs
def aR1 (rs:List Int) (i:Nat):AV:=.v (.int .i64 (rs.getD i 0))
def aRg (rs:List Int):List AV:=[aR1 rs 0,aR1 rs 1,aR1 rs 2,aR1 rs 3,aR1 rs 4,aR1 rs 5,aR1 rs 6,aR1 rs 7]
theorem YD (rs:List Int):(aRg rs).length=8:=rfl
theorem XH (rs:List Int):AV.pureL (aRg rs)=true:=by simp[aRg,aR1,AV.pureL,AV.pure]
theorem aRg_res (σ:St) (rs:List Int):AV.resL σ (aRg rs)=aRg rs:=by simp[aRg,aR1,AV.resL,AV.res]
theorem k8 {k:Nat} (h:k < 8):k=0∨k=1∨k=2∨k=3∨k=4∨k=5∨k=6∨k=7:=by omega
theorem aRg_at (rs:List Int) {k:Nat} (h:k < 8):(aRg rs)[k]?=some (.v (.int .i64 (rs.getD k 0))):=by rcases k8 h with rfl|rfl|rfl|rfl|rfl|rfl|rfl|rfl<;>rfl
theorem aRg_set {rs:List Int} (hr:rs.length=8) {k:Nat} (h:k < 8) (v:Int):(aRg rs).set k (.v (.int .i64 v))=aRg (rs.set k v):=by
 match rs,hr with
 | [a0,a1,a2,a3,a4,a5,a6,a7],_=>rcases k8 h with rfl|rfl|rfl|rfl|rfl|rfl|rfl|rfl<;>rfl
theorem Y74 (n:Int):(heldN n).toNat < 8:=by unfold heldN;omega
theorem held_in (n:Int):0≤heldN n∧heldN n < 8:=by unfold heldN;omega
theorem rg_at (rs:List Int) (n:Int):(aRg rs)[(heldN n).toNat]?=some (.v (.int .i64 (rg rs n))):=aRg_at rs (Y74 n)
theorem rg_set {rs:List Int} (hr:rs.length=8) (n v:Int):(aRg rs).set (heldN n).toNat (.v (.int .i64 v))=aRg (setR rs n v):=aRg_set hr (Y74 n) v
def aEf (e:Ef):List AV:=[.v (.int .i64 e.k),.v (.int .i64 e.at_),.v (.int .i64 e.v),.v (.int .i64 e.o),.v (.int .i64 e.r)]
theorem X17 (e:Ef):AV.pureL (aEf e)=true:=by simp[aEf,AV.pureL,AV.pure]
theorem aEf_res (σ:St) (e:Ef):AV.resL σ (aEf e)=aEf e:=by simp[aEf,AV.resL,AV.res]
theorem cells8 (rs:List Int):cellsA (some 8) (aRg rs)=some (.agg (aRg rs)):=rfl
theorem cells5 (e:Ef):cellsA (some 5) (aEf e)=some (.agg (aEf e)):=rfl
theorem QJ (n:Int):FnP Tryz.prog 220 [aInt n] fun a=>a=aInt (heldN n):=by refine Qj Yx.2 mixed rfl o7 ?_;simp only[Yx,aInt,qH];push_cast;exact oo
theorem ZH (rs:List Int) (n:Int):FnP Tryz.prog 221 [.agg (aRg rs),aInt n] fun a=>a=aInt (rg rs n):=by refine Qj XU.2 mixed rfl (by simp[AV.pureL,AV.pure,Ql,XH]) ?_;simp only[XU,aInt,qH];have hac:(AV.agg (aRg rs)).cells=aRg rs:=rfl;obtain ⟨h0,h1⟩:=held_in n;push_cast (disch:=omega);refine Qs ?_;push_cast (disch:=omega)[hac];refine Q5 (QJ n) ?_;push_cast (disch:=omega)[aInt,rg_at];exact oo
theorem YE (e:Ef):FnP Tryz.prog 155 [.agg (aEf e)] fun a=>a=aBool (decide (1≤e.k∧e.k≤4)):=by
 refine Qj Yv.2 mixed rfl (by simp[AV.pureL,AV.pure,X17]) ?_;simp only[Yv,qH];have hac:(AV.agg (aEf e)).cells=aEf e:=rfl;have g0:(aEf e)[0]?=some (.v (.int .i64 e.k)):=rfl;have hd:decide (1≤e.k∧e.k≤4)=(decide (1≤e.k)&&decide (e.k≤4)):=by rw[Bool.eq_iff_iff];simp
 rw[hd];push_cast;refine Qs ?_;by_cases c:1≤e.k<;>(push_cast[hac,g0,c];first|exact ⟨[],rfl,rfl⟩|exact ⟨[],rfl,by simp[AV.res,aBool]⟩)
theorem step_Ends_a (e:Ef):FnP Tryz.prog 152 [.agg (aEf e)] fun a=>a=aBool (endsE e):=by
 refine Qj Yu.2 mixed rfl (by simp[AV.pureL,AV.pure,X17]) ?_;simp only[Yu,qH];have hac:(AV.agg (aEf e)).cells=aEf e:=rfl;have g0:(aEf e)[0]?=some (.v (.int .i64 e.k)):=rfl;have hd:endsE e=(decide (7≤e.k)&&decide (e.k≤12)):=by unfold endsE;rw[Bool.eq_iff_iff];simp
 rw[hd];push_cast;refine Qs ?_;by_cases c:7≤e.k<;>(push_cast[hac,g0,c];first|exact ⟨[],rfl,rfl⟩|exact ⟨[],rfl,by simp[AV.res,aBool]⟩)
theorem Z08 (op:Int):FnP Tryz.prog 222 [aInt op] fun a=>a=aBool (knownB op):=by
 refine Qj X70.2 mixed rfl o7 ?_;simp only[X70,aInt,qH];have hd:knownB op=(decide (3≤op)&&decide (op≤12)):=by unfold knownB;rw[Bool.eq_iff_iff];simp
 rw[hd];by_cases c:3≤op<;>(push_cast[c];first|exact ⟨[],rfl,rfl⟩|exact ⟨[],rfl,by simp[AV.res,aBool]⟩)
theorem Y42 (b:Bool):FnP Tryz.prog 272 [aBool b] fun a=>a=aInt (if b then 1 else 0):=by refine Qj Y38.2 mixed rfl (by cases b<;>simp[AV.pureL,aBool,AV.pure]) ?_;simp only[Y38,aBool,qH];cases b<;>(push_cast;exact ⟨[],rfl,rfl⟩)
theorem X18 (op a b:Int):FnP Tryz.prog 271 [aInt op,aInt a,aInt b] fun r=>r=if b=0 then .tup [aInt 0,aInt 1] else if op=6 then .tup [aInt (IntKind.i64.wrap (a.tdiv b)),aInt 0] else .tup [aInt (a.tmod b),aInt 0]:=by
 refine Qj X15.2 mixed rfl o7 ?_;simp only[X15,aInt,qH];by_cases c0:b=0
 ·rw[if_pos c0];push_cast[c0];exact oo
 rw[if_neg c0];by_cases c1:op=6
 ·rw[if_pos c1];have hq:=v_quo .i64 a b c0;push_cast[c0,c1,hq];exact oo
 ·rw[if_neg c1];have hq:=v_rem .i64 a b c0;push_cast[c0,c1,hq];exact oo
theorem pv_and (a b:Int):PF.val (.bin .and) [.int .i64 a,.int .i64 b]=some (.int .i64 (bAnd a b)):=by simp[PF.val,binV,isSh,binI,bAnd]
theorem pv_or (a b:Int):PF.val (.bin .or) [.int .i64 a,.int .i64 b]=some (.int .i64 (bOr a b)):=by simp[PF.val,binV,isSh,binI,bOr]
theorem pv_xor (a b:Int):PF.val (.bin .xor) [.int .i64 a,.int .i64 b]=some (.int .i64 (bXor a b)):=by simp[PF.val,binV,isSh,binI,bXor]
set_option maxHeartbeats 4000000 in
theorem wrap_Do_a (op a b:Int):FnP Tryz.prog 223 [aInt op,aInt a,aInt b] fun r=>r=.tup [aInt (wrapD op a b).1,aInt (wrapD op a b).2]:=by
 refine Qj S_wrap_Do.2 mixed rfl o7 ?_;simp only[S_wrap_Do,aInt,qH];by_cases c3:op=3
 ·have e:wrapD op a b=(IntKind.i64.wrap (a+b),0):=by unfold wrapD;rw[if_pos c3]
  rw[e];push_cast[c3];exact oo
 by_cases c4:op=4
 ·have e:wrapD op a b=(IntKind.i64.wrap (a - b),0):=by unfold wrapD;rw[if_neg c3,if_pos c4]
  rw[e];push_cast[c3,c4];exact oo
 by_cases c5:op=5
 ·have e:wrapD op a b=(IntKind.i64.wrap (a * b),0):=by unfold wrapD;rw[if_neg c3,if_neg c4,if_pos c5]
  rw[e];push_cast[c3,c4,c5];exact oo
 by_cases c6:op=6
 ·have e:wrapD op a b=if b=0 then (0,1) else (IntKind.i64.wrap (a.tdiv b),0):=by unfold wrapD;rw[if_neg c3,if_neg c4,if_neg c5,if_pos (.inl c6),if_pos c6]
  rw[e];push_cast[c3,c4,c5,c6];refine Qv (X18 6 a b) ?_;rintro r rfl;by_cases cb:b=0
  ·rw[if_pos cb,if_pos cb];push_cast[aInt];exact oo
  ·rw[if_neg cb,if_neg cb,if_pos rfl];push_cast[aInt];exact oo
 by_cases c7:op=7
 ·have e:wrapD op a b=if b=0 then (0,1) else (a.tmod b,0):=by unfold wrapD;rw[if_neg c3,if_neg c4,if_neg c5,if_pos (.inr c7),if_neg c6]
  rw[e];push_cast[c3,c4,c5,c6,c7];refine Qv (X18 7 a b) ?_;rintro r rfl;by_cases cb:b=0
  ·rw[if_pos cb,if_pos cb];push_cast[aInt];exact oo
  ·rw[if_neg cb,if_neg cb,if_neg ko];push_cast[aInt];exact oo
 by_cases c8:op=8
 ·have e:wrapD op a b=(if a < b then 1 else 0,0):=by unfold wrapD;rw[if_neg c3,if_neg c4,if_neg c5,if_neg ka,if_pos c8]
  rw[e];push_cast[c3,c4,c5,c6,c7,c8];refine Qv (Y42 (decide (a < b))) ?_;rintro r rfl;push_cast[aInt];exact ⟨[],rfl,by simp[AV.res,AV.resL]⟩
 by_cases c9:op=9
 ·have e:wrapD op a b=(if a=b then 1 else 0,0):=by unfold wrapD;rw[if_neg c3,if_neg c4,if_neg c5,if_neg ka,if_neg c8,if_pos c9]
  rw[e];push_cast[c3,c4,c5,c6,c7,c8,c9];refine Qv (Y42 (decide (a=b))) ?_;rintro r rfl;push_cast[aInt];exact ⟨[],rfl,by simp[AV.res,AV.resL]⟩
 by_cases c10:op=10
 ·have e:wrapD op a b=(bAnd a b,0):=by unfold wrapD;rw[if_neg c3,if_neg c4,if_neg c5,if_neg ka,if_neg c8,if_neg c9,if_pos c10]
  rw[e];push_cast[c3,c4,c5,c6,c7,c8,c9,c10,pv_and];exact oo
 by_cases c11:op=11
 ·have e:wrapD op a b=(bOr a b,0):=by unfold wrapD;rw[if_neg c3,if_neg c4,if_neg c5,if_neg ka,if_neg c8,if_neg c9,if_neg c10,if_pos c11]
  rw[e];push_cast[c3,c4,c5,c6,c7,c8,c9,c10,c11,pv_or];exact oo
 by_cases c12:op=12
 ·have e:wrapD op a b=(bXor a b,0):=by unfold wrapD;rw[if_neg c3,if_neg c4,if_neg c5,if_neg ka,if_neg c8,if_neg c9,if_neg c10,if_neg c11,if_pos c12]
  rw[e];push_cast[c3,c4,c5,c6,c7,c8,c9,c10,c11,c12,pv_xor];exact oo
 have e:wrapD op a b=(0,0):=by unfold wrapD;rw[if_neg c3,if_neg c4,if_neg c5,if_neg ka,if_neg c8,if_neg c9,if_neg c10,if_neg c11,if_neg c12]
 rw[e];push_cast[c3,c4,c5,c6,c7,c8,c9,c10,c11,c12];exact oo
theorem stage_Go_a (st to:Int):FnP Tryz.prog 263 [aInt st,aInt to] fun a=>a=aInt (goE st to):=by
 refine Qj Y37.2 mixed rfl o7 ?_;simp only[Y37,aInt,qH];unfold goE;by_cases c1:to≤st
 ·rw[if_pos (.inl c1)];push_cast[c1];exact oo
 by_cases c2:1048575 < to
 ·rw[if_pos (.inr c2)];push_cast[c1,c2];exact oo
 rw[if_neg ka];push_cast[c1,c2];exact oo
set_option maxHeartbeats 8000000 in
theorem step_of_a (x:Ix) (rs:List Int):FnP Tryz.prog 224 [.agg (aIx x),.agg (aRg rs)] fun a=>a=.agg (aEf (ofE x rs)):=by
 refine Qj S_step_of.2 mixed rfl (by simp[AV.pureL,AV.pure,Z76,XH]) ?_;simp only[S_step_of,qH];have hax:(AV.agg (aIx x)).cells=aIx x:=rfl;have har:(AV.agg (aRg rs)).cells=aRg rs:=rfl;have g0:(aIx x)[0]?=some (.v (.int .i64 x.op)):=rfl;have g1:(aIx x)[1]?=some (.v (.int .i64 x.a)):=rfl;have g2:(aIx x)[2]?=some (.v (.int .i64 x.b)):=rfl;have g3:(aIx x)[3]?=some (.v (.int .i64 x.c)):=rfl;have ex8:(AV.agg (aRg rs)).exact=true:=rfl;refine Qc (fun ε σ=>(ε 2=.ref 0 0 0∧ε 3=.ref 1 0 0∧ε 4=.ref 2 0 0)∧σ=[.obj 0 (aIx x),.obj 0 (aRg rs),.obj 0 (aEf ef0)]) ?_ ?_
 ·intro N X R hN;push_cast;refine Qs ?_;push_cast[hax];refine Qs ?_;push_cast[har];refine Qm ?_;push_cast;exact hN _ _ ⟨by push_cast,rfl⟩
 rintro ε σ ⟨hρ,rfl⟩;refine Qc (fun ε σ=>(ε 2=.ref 0 0 0∧ε 4=.ref 2 0 0∧ε 5=.v (.int .i64 (rg rs x.a))∧ε 6=.v (.int .i64 (rg rs x.b))∧ε 7=.v (.int .i64 (rg rs x.c)))∧σ=[.obj 0 (aIx x),.obj 0 (aRg rs),.obj 0 (aEf ef0)]) ?_ ?_
 ·intro N X R hN;push_cast[hρ,cells8,g1,g2,g3];refine Q5 (ZH rs x.a) ?_;push_cast[hρ];refine ⟨Qw (by push_cast[hρ,g3,Y73]),Qw (by push_cast[hρ,cells8,ex8]),Qw (by push_cast[hρ,g2,Y73]),Qw (by push_cast[hρ,cells8,ex8]),?_⟩;refine Q5 (ZH rs x.b) ?_;push_cast[hρ];refine ⟨Qw (by push_cast[hρ,g3,Y73]),Qw (by push_cast[hρ,cells8,ex8]),?_⟩;refine Q5 (ZH rs x.c) ?_;push_cast[aInt];exact hN _ _ ⟨by push_cast[hρ,aInt],rfl⟩
 clear hρ ε;rintro ε σ ⟨hρ,rfl⟩;have hset:∀e:Ef,setAtA (aEf ef0) 0 (aEf e)=aEf e:=fun e=>rfl;have fin:∀(e:Ef) (σ:Kx.St),e=ofE x rs→∃is,((AV.agg (aEf e)).res (Go.Kx.freeze is σ)).pure=true∧(AV.agg (aEf e)).res (Go.Kx.freeze is σ)=.agg (aEf (ofE x rs)):=fun e σ h=>by rw[h];exact Y67 [] (by simp[AV.res,aEf_res]) (by simp[AV.pure,X17])
 generalize hA:rg rs x.a=ra at hρ;generalize hB:rg rs x.b=rb at hρ;generalize hC:rg rs x.c=rc at hρ;by_cases c13:x.op=13
 ·have hb:fillA [AV.v (.int .i64 0),AV.v (.int .i64 0),AV.v (.int .i64 0),AV.v (.int .i64 0),AV.v (.int .i64 0)] [(0,1),(1,1),(4,1)] [AV.v (.int .i64 1),AV.v (.int .i64 (rb)),AV.v (.int .i64 (heldN x.a))]=some (aEf ⟨1,rb,0,0,heldN x.a⟩):=by simp[fillA,AV.cells,Value.cells,setAtA,aEf]
  have he:(⟨1,rb,0,0,heldN x.a⟩:Ef)=ofE x rs:=by unfold ofE;simp only[hA,hB,hC];rw[if_pos c13]
  push_cast[hρ,g0,g1,c13,hb];refine Q5 (QJ x.a) ?_;push_cast[hρ,aInt,hb];refine Qd (cs:=aEf ef0) rfl rfl rfl ko ?_;rw[hset];push_cast[hρ,cells5];exact fin _ _ he
 by_cases c14:x.op=14
 ·have hb:fillA [AV.v (.int .i64 0),AV.v (.int .i64 0),AV.v (.int .i64 0),AV.v (.int .i64 0),AV.v (.int .i64 0)] [(0,1),(1,1),(2,1)] [AV.v (.int .i64 2),AV.v (.int .i64 (ra)),AV.v (.int .i64 (rb))]=some (aEf ⟨2,ra,rb,0,0⟩):=by simp[fillA,AV.cells,Value.cells,setAtA,aEf]
  have he:(⟨2,ra,rb,0,0⟩:Ef)=ofE x rs:=by unfold ofE;simp only[hA,hB,hC];rw[if_neg c13];rw[if_pos c14]
  push_cast[hρ,g0,g1,c13,c14,hb];refine Qd (cs:=aEf ef0) rfl rfl rfl ko ?_;rw[hset];push_cast[hρ,cells5];exact fin _ _ he
 by_cases c15:x.op=15
 ·have hb:fillA [AV.v (.int .i64 0),AV.v (.int .i64 0),AV.v (.int .i64 0),AV.v (.int .i64 0),AV.v (.int .i64 0)] [(0,1),(1,1),(2,1),(4,1)] [AV.v (.int .i64 3),AV.v (.int .i64 (rb)),AV.v (.int .i64 (rc)),AV.v (.int .i64 (heldN x.a))]=some (aEf ⟨3,rb,rc,0,heldN x.a⟩):=by simp[fillA,AV.cells,Value.cells,setAtA,aEf]
  have he:(⟨3,rb,rc,0,heldN x.a⟩:Ef)=ofE x rs:=by unfold ofE;simp only[hA,hB,hC];rw[if_neg c13];rw[if_neg c14];rw[if_pos c15]
  push_cast[hρ,g0,g1,c13,c14,c15,hb];refine Q5 (QJ x.a) ?_;push_cast[hρ,aInt,hb];refine Qd (cs:=aEf ef0) rfl rfl rfl ko ?_;rw[hset];push_cast[hρ,cells5];exact fin _ _ he
 by_cases c16:x.op=16
 ·have hb:fillA [AV.v (.int .i64 0),AV.v (.int .i64 0),AV.v (.int .i64 0),AV.v (.int .i64 0),AV.v (.int .i64 0)] [(0,1),(1,1),(2,1),(3,1),(4,1)] [AV.v (.int .i64 4),AV.v (.int .i64 (rb)),AV.v (.int .i64 (ra)),AV.v (.int .i64 (rc)),AV.v (.int .i64 (heldN x.a))]=some (aEf ⟨4,rb,ra,rc,heldN x.a⟩):=by simp[fillA,AV.cells,Value.cells,setAtA,aEf]
  have he:(⟨4,rb,ra,rc,heldN x.a⟩:Ef)=ofE x rs:=by unfold ofE;simp only[hA,hB,hC];rw[if_neg c13];rw[if_neg c14];rw[if_neg c15];rw[if_pos c16]
  push_cast[hρ,g0,g1,c13,c14,c15,c16,hb];refine Q5 (QJ x.a) ?_;push_cast[hρ,aInt,hb];refine Qd (cs:=aEf ef0) rfl rfl rfl ko ?_;rw[hset];push_cast[hρ,cells5];exact fin _ _ he
 by_cases c17:x.op=17
 ·have hb:fillA [AV.v (.int .i64 0),AV.v (.int .i64 0),AV.v (.int .i64 0),AV.v (.int .i64 0),AV.v (.int .i64 0)] [(0,1),(2,1)] [AV.v (.int .i64 5),AV.v (.int .i64 (ra))]=some (aEf ⟨5,0,ra,0,0⟩):=by simp[fillA,AV.cells,Value.cells,setAtA,aEf]
  have he:(⟨5,0,ra,0,0⟩:Ef)=ofE x rs:=by unfold ofE;simp only[hA,hB,hC];rw[if_neg c13];rw[if_neg c14];rw[if_neg c15];rw[if_neg c16];rw[if_pos c17]
  push_cast[hρ,g0,g1,c13,c14,c15,c16,c17,hb];refine Qd (cs:=aEf ef0) rfl rfl rfl ko ?_;rw[hset];push_cast[hρ,cells5];exact fin _ _ he
 by_cases c20:x.op=20
 ·have hb:fillA [AV.v (.int .i64 0),AV.v (.int .i64 0),AV.v (.int .i64 0),AV.v (.int .i64 0),AV.v (.int .i64 0)] [(0,1),(2,1)] [AV.v (.int .i64 6),AV.v (.int .i64 (x.a))]=some (aEf ⟨6,0,x.a,0,0⟩):=by simp[fillA,AV.cells,Value.cells,setAtA,aEf]
  have he:(⟨6,0,x.a,0,0⟩:Ef)=ofE x rs:=by unfold ofE;simp only[hA,hB,hC];rw[if_neg c13];rw[if_neg c14];rw[if_neg c15];rw[if_neg c16];rw[if_neg c17];rw[if_pos c20]
  push_cast[hρ,g0,g1,c13,c14,c15,c16,c17,c20,hb];refine Qd (cs:=aEf ef0) rfl rfl rfl ko ?_;rw[hset];push_cast[hρ,cells5];exact fin _ _ he
 by_cases c21:x.op=21
 ·have hb:fillA [AV.v (.int .i64 0),AV.v (.int .i64 0),AV.v (.int .i64 0),AV.v (.int .i64 0),AV.v (.int .i64 0)] [(0,1)] [AV.v (.int .i64 7)]=some (aEf ⟨7,0,0,0,0⟩):=by simp[fillA,AV.cells,Value.cells,setAtA,aEf]
  have he:(⟨7,0,0,0,0⟩:Ef)=ofE x rs:=by unfold ofE;simp only[hA,hB,hC];rw[if_neg c13];rw[if_neg c14];rw[if_neg c15];rw[if_neg c16];rw[if_neg c17];rw[if_neg c20];rw[if_pos c21]
  push_cast[hρ,g0,g1,c13,c14,c15,c16,c17,c20,c21,hb];refine Qd (cs:=aEf ef0) rfl rfl rfl ko ?_;rw[hset];push_cast[hρ,cells5];exact fin _ _ he
 by_cases c22:x.op=22
 ·have hb:fillA [AV.v (.int .i64 0),AV.v (.int .i64 0),AV.v (.int .i64 0),AV.v (.int .i64 0),AV.v (.int .i64 0)] [(0,1),(2,1)] [AV.v (.int .i64 8),AV.v (.int .i64 (x.a))]=some (aEf ⟨8,0,x.a,0,0⟩):=by simp[fillA,AV.cells,Value.cells,setAtA,aEf]
  have he:(⟨8,0,x.a,0,0⟩:Ef)=ofE x rs:=by unfold ofE;simp only[hA,hB,hC];rw[if_neg c13];rw[if_neg c14];rw[if_neg c15];rw[if_neg c16];rw[if_neg c17];rw[if_neg c20];rw[if_neg c21];rw[if_pos c22]
  push_cast[hρ,g0,g1,c13,c14,c15,c16,c17,c20,c21,c22,hb];refine Qd (cs:=aEf ef0) rfl rfl rfl ko ?_;rw[hset];push_cast[hρ,cells5];exact fin _ _ he
 by_cases c23:x.op=23
 ·have hb:fillA [AV.v (.int .i64 0),AV.v (.int .i64 0),AV.v (.int .i64 0),AV.v (.int .i64 0),AV.v (.int .i64 0)] [(0,1),(2,1)] [AV.v (.int .i64 9),AV.v (.int .i64 (ra))]=some (aEf ⟨9,0,ra,0,0⟩):=by simp[fillA,AV.cells,Value.cells,setAtA,aEf]
  have he:(⟨9,0,ra,0,0⟩:Ef)=ofE x rs:=by unfold ofE;simp only[hA,hB,hC];rw[if_neg c13];rw[if_neg c14];rw[if_neg c15];rw[if_neg c16];rw[if_neg c17];rw[if_neg c20];rw[if_neg c21];rw[if_neg c22];rw[if_pos c23]
  push_cast[hρ,g0,g1,c13,c14,c15,c16,c17,c20,c21,c22,c23,hb];refine Qd (cs:=aEf ef0) rfl rfl rfl ko ?_;rw[hset];push_cast[hρ,cells5];exact fin _ _ he
 by_cases c24:x.op=24
 ·have hb:fillA [AV.v (.int .i64 0),AV.v (.int .i64 0),AV.v (.int .i64 0),AV.v (.int .i64 0),AV.v (.int .i64 0)] [(0,1),(2,1)] [AV.v (.int .i64 10),AV.v (.int .i64 (ra))]=some (aEf ⟨10,0,ra,0,0⟩):=by simp[fillA,AV.cells,Value.cells,setAtA,aEf]
  have he:(⟨10,0,ra,0,0⟩:Ef)=ofE x rs:=by unfold ofE;simp only[hA,hB,hC];rw[if_neg c13];rw[if_neg c14];rw[if_neg c15];rw[if_neg c16];rw[if_neg c17];rw[if_neg c20];rw[if_neg c21];rw[if_neg c22];rw[if_neg c23];rw[if_pos c24]
  push_cast[hρ,g0,g1,c13,c14,c15,c16,c17,c20,c21,c22,c23,c24,hb];refine Qd (cs:=aEf ef0) rfl rfl rfl ko ?_;rw[hset];push_cast[hρ,cells5];exact fin _ _ he
 by_cases c25:x.op=25
 ·have hb:fillA [AV.v (.int .i64 0),AV.v (.int .i64 0),AV.v (.int .i64 0),AV.v (.int .i64 0),AV.v (.int .i64 0)] [(0,1)] [AV.v (.int .i64 11)]=some (aEf ⟨11,0,0,0,0⟩):=by simp[fillA,AV.cells,Value.cells,setAtA,aEf]
  have he:(⟨11,0,0,0,0⟩:Ef)=ofE x rs:=by unfold ofE;simp only[hA,hB,hC];rw[if_neg c13];rw[if_neg c14];rw[if_neg c15];rw[if_neg c16];rw[if_neg c17];rw[if_neg c20];rw[if_neg c21];rw[if_neg c22];rw[if_neg c23];rw[if_neg c24];rw[if_pos c25]
  push_cast[hρ,g0,g1,c13,c14,c15,c16,c17,c20,c21,c22,c23,c24,c25,hb];refine Qd (cs:=aEf ef0) rfl rfl rfl ko ?_;rw[hset];push_cast[hρ,cells5];exact fin _ _ he
 by_cases c0:x.op=0
 ·have hb:fillA [AV.v (.int .i64 0),AV.v (.int .i64 0),AV.v (.int .i64 0),AV.v (.int .i64 0),AV.v (.int .i64 0)] [(0,1)] [AV.v (.int .i64 12)]=some (aEf ⟨12,0,0,0,0⟩):=by simp[fillA,AV.cells,Value.cells,setAtA,aEf]
  have he:(⟨12,0,0,0,0⟩:Ef)=ofE x rs:=by unfold ofE;simp only[hA,hB,hC];rw[if_neg c13];rw[if_neg c14];rw[if_neg c15];rw[if_neg c16];rw[if_neg c17];rw[if_neg c20];rw[if_neg c21];rw[if_neg c22];rw[if_neg c23];rw[if_neg c24];rw[if_neg c25];rw[if_pos c0]
  push_cast[hρ,g0,g1,c13,c14,c15,c16,c17,c20,c21,c22,c23,c24,c25,c0,hb];refine Qd (cs:=aEf ef0) rfl rfl rfl ko ?_;rw[hset];push_cast[hρ,cells5];exact fin _ _ he
 have hb:fillA [AV.v (.int .i64 0),AV.v (.int .i64 0),AV.v (.int .i64 0),AV.v (.int .i64 0),AV.v (.int .i64 0)] [] []=some (aEf ef0):=by simp[fillA,aEf,ef0]
 have he:ef0=ofE x rs:=by unfold ofE;skip;rw[if_neg c13];rw[if_neg c14];rw[if_neg c15];rw[if_neg c16];rw[if_neg c17];rw[if_neg c20];rw[if_neg c21];rw[if_neg c22];rw[if_neg c23];rw[if_neg c24];rw[if_neg c25];rw[if_neg c0]
 push_cast[hρ,g0,g1,c13,c14,c15,c16,c17,c20,c21,c22,c23,c24,c25,c0,hb];refine Qd (cs:=aEf ef0) rfl rfl rfl ko ?_;rw[hset];push_cast[hρ,cells5];exact fin _ _ he
end Go.Proofs.YtelibaobkcokdaaGreat
