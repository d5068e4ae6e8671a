/- Own small program logic, part a: values. Pure operations as functions on values, their compilation out of the model's operations, and that they agree with the model's semantics. Own small program logic, part b: operations: loads, effects, calls; compilation of an operation. Own small program logic, part c: the pure operations agree with the model. Own small program logic, part d: equality of flat values; all pure operations agree with the model. Own small program logic, part e: a compiled pure operation gives what the model's operation gives. Own small program logic, part f: a compiled operation agrees with the model's: loads, effects, calls. -/
import Derived.WalkKit
import Derived.KernelRfl
import Derived.RangeFuncFrom
import Derived.ChangeKeysEq
namespace Go.Kx
set_option linter.unusedVariables false
set_option linter.unusedSimpArgs false
open Go
abbrev Heap:=Array Obj
abbrev Env:=Nat→Value
def Env.set (ρ:Env) (d:Nat) (v:Value):Env:=fun i=>if i=d then v else ρ i
def Env.put (ρ:Env) (d:Option Nat) (v:Value):Env:=match d with|some d=>ρ.set d v|none=>ρ
def ev (ρ:Env):Operand→Value
 | .tmp t=>ρ t
 | .const v=>v
 | .global g=>.pointer (some ⟨g,0,none⟩)
 | .func f=>.func (.func f) #[] #[]
def cellG (g:Nat→Option Obj) (b off:Nat):Option Value:=
 match g b with
 | some (.cells c _ _)=>c[off]?
 | _=>none
def hp (h:Heap):Nat→Option Obj:=fun b=>h[b]?
def cellsG (g:Nat→Option Obj) (b off:Nat):Nat→Option (List Value)
 | 0=>some []
 | n+1=>match cellG g b off with
  | none=>none
  | some v=>(cellsG g b (off+1) n).map (v::·)
inductive CK where
 | bool|int (k:IntKind)|float (k:FloatKind)|complex (k:FloatKind)|string
 deriving DecidableEq,Repr
inductive PF where
 | mov|pick
 | bin (op:BinOp)
 | eqb (neg:Bool)
 | eqn (neg:Bool) (kd:Nat)
 | eqs (neg:Bool) (l:List CK)
 | not|neg|cpl
 | toInt (k:IntKind)
 | intF (k:FloatKind)
 | fInt (k:IntKind)
 | strId
 | fld (off:Nat) (n:Option Nat)
 | bld (zero:List Value) (places:List (Nat×Nat))
 | len (str:Bool)|cap
 | ixa (sz:Nat)
 | ixaA (n sz:Nat)
 | ixv (n sz:Nat) (agg:Option Nat)
 | ixs
 | fla (off:Nat)
 | nilc
 | slc (sz:Nat) (lo hi:Bool)
 | slcA (n sz:Nat) (lo hi:Bool)
 | sls (lo hi:Bool)
 | minmax (mx:Bool)
 | mkf (fn:Fn) (n:Nat)
 | cpx (k:FloatKind)|re|im
 | ext (i:Nat)
 | mkif (t:TypeId)
 deriving Inhabited
def cmpI (op:BinOp) (x y:Int):Option Bool:=
 match op with
 | .eql=>some (x==y)|.neq=>some (x != y)|.lss=>some (decide (x < y))|.leq=>some (decide (x≤y))
 | .gtr=>some (decide (x > y))|.geq=>some (decide (x≥y))|_=>none
def binI (op:BinOp) (k:IntKind) (x y:Int):Option Value:=
 match op with
 | .add=>some (.int k (k.wrap (x+y)))
 | .sub=>some (.int k (k.wrap (x - y)))
 | .mul=>some (.int k (k.wrap (x * y)))
 | .quo=>if y=0 then none else some (.int k (k.wrap (x.tdiv y)))
 | .rem=>if y=0 then none else some (.int k (x.tmod y))
 | .and=>some (.int k (k.wrap (BitVec.ofInt k.bits x &&& BitVec.ofInt k.bits y).toNat))
 | .or=>some (.int k (k.wrap (BitVec.ofInt k.bits x ||| BitVec.ofInt k.bits y).toNat))
 | .xor=>some (.int k (k.wrap (BitVec.ofInt k.bits x ^^^ BitVec.ofInt k.bits y).toNat))
 | .andNot=>some (.int k (k.wrap (BitVec.ofInt k.bits x &&& ~~~(BitVec.ofInt k.bits y)).toNat))
 | .shl|.shr=>none
 | op=>(cmpI op x y).map .bool
def shI (op:BinOp) (k:IntKind) (x y:Int):Option Value:=
 if y < 0 then none else
 match op with
 | .shl=>some (.int k (k.wrap (x * 2 ^ (min y.toNat k.bits))))
 | .shr=>some (.int k (x.fdiv (2 ^ (min y.toNat k.bits))))
 | _=>none
def binF (op:BinOp) (k:FloatKind) (x y:Nat):Option Value:=
 let c:=k.format.order x y
 match op with
 | .eql=>some (.bool (c==some .eq))
 | .neq=>some (.bool (c != some .eq))
 | .lss=>some (.bool (c==some .lt))
 | .leq=>some (.bool (c==some .lt||c==some .eq))
 | .gtr=>some (.bool (c==some .gt))
 | .geq=>some (.bool (c==some .gt||c==some .eq))
 | .add=>(k.format.add x y).map (.float k)
 | .sub=>(k.format.sub x y).map (.float k)
 | .mul=>(k.format.mul x y).map (.float k)
 | .quo=>(k.format.div x y).map (.float k)
 | _=>none
def binC (op:BinOp) (k:FloatKind) (xr xi yr yi:Nat):Option Value:=
 let c:=(k.format.order xr yr==some .eq)&&(k.format.order xi yi==some .eq)
 match op with
 | .eql=>some (.bool c)
 | .neq=>some (.bool (!c))
 | .add=>match k.format.add xr yr,k.format.add xi yi with|some a,some b=>some (.complex k a b)|_,_=>none
 | .sub=>match k.format.sub xr yr,k.format.sub xi yi with|some a,some b=>some (.complex k a b)|_,_=>none
 | _=>none
def binS (op:BinOp) (x y:ByteArray):Option Value:=
 match op with
 | .add=>if ((x.size+y.size:Nat):Int) > IntKind.i64.max then none else some (.string (x++y))
 | .eql=>some (.bool (x.toList==y.toList))
 | .neq=>some (.bool (!(x.toList==y.toList)))
 | .lss=>some (.bool (Op.bytesLess x.toList y.toList))
 | .leq=>some (.bool (Op.bytesLess x.toList y.toList||x.toList==y.toList))
 | .gtr=>some (.bool (!(Op.bytesLess x.toList y.toList||x.toList==y.toList)))
 | .geq=>some (.bool (!(Op.bytesLess x.toList y.toList)))
 | _=>none
def isSh:BinOp→Bool
 | .shl|.shr=>true
 | _=>false
def binV (op:BinOp) (x y:Value):Option Value:=
 match x,y with
 | .int k a,.int k' b=>if isSh op then shI op k a b else if k=k' then binI op k a b else none
 | .float k a,.float k' b=>if k=k' then binF op k a b else none
 | .complex k a b,.complex k' c d=>if k=k' then binC op k a b c d else none
 | .string a,.string b=>binS op a b
 | _,_=>none
def isNil (kd:Nat) (v:Value):Option Bool:=
 match kd,v with
 | 0,.pointer a=>some a.isNone
 | 1,.slice a _ _=>some a.isNone
 | 2,.nilFunc=>some true
 | 2,.func _ _ _=>some false
 | 3,.map a=>some a.isNone
 | 4,.nilIface=>some true
 | 4,.iface _ _=>some false
 | _,_=>none
def eqC (k:CK) (x y:Value):Option Bool:=
 match k,x,y with
 | .bool,.bool a,.bool b=>some (a==b)
 | .int _,.int j a,.int j' b=>if j=j' then some (a==b) else none
 | .float _,.float j a,.float j' b=>if j=j' then some (Op.floatEq j a b) else none
 | .complex _,.complex j a b,.complex j' c d=>if j=j' then some (Op.floatEq j a c&&Op.floatEq j b d) else none
 | .string,.string a,.string b=>some (a==b)
 | _,_,_=>none
def eqCs:List CK→List Value→List Value→Option Bool
 | [],_,_=>some true
 | k::ks,x::xs,y::ys=>match eqC k x y with
  | some true=>eqCs ks xs ys
  | some false=>some false
  | none=>none
 | _,_,_=>none
def subL (l:List Value) (off n:Nat):List Value:=(l.drop off).take n
def setAt:List Value→Nat→List Value→List Value
 | cs,_,[]=>cs
 | cs,off,v::vs=>setAt (cs.set off v) (off+1) vs
def fillL:List Value→List (Nat×Nat)→List Value→Option (List Value)
 | cs,[],[]=>some cs
 | cs,(off,sz)::ps,v::vs=>if v.cells.size=sz∧off+sz≤cs.length then fillL (setAt cs off v.cells.toList) ps vs else none
 | _,_,_=>none
def bound (y:Nat):Value→Option Nat
 | .int _ i=>if 0≤i∧i≤y then some i.toNat else none
 | _=>none
def loHi (lo hi:Bool) (len cap:Nat) (xs:List Value):Option (Nat×Nat):=
 match lo,hi,xs with
 | false,false,[]=>some (0,len)
 | false,true,[b]=>(bound cap b).map ((0,·))
 | true,false,[a]=>(bound len a).map ((·,len))
 | true,true,[a,b]=>(bound cap b).bind fun h=>(bound h a).map ((·,h))
 | _,_,_=>none
def mm (mx:Bool) (x y:Value):Option Value:=
 match x,y with
 | .int k a,.int _ b=>some (.int k (if mx then (if b > a then b else a) else (if b < a then b else a)))
 | _,_=>none
def mms (mx:Bool):Value→List Value→Option Value
 | x,[]=>some x
 | x,y::ys=>(mm mx x y).bind fun z=>mms mx z ys
def PF.val:PF→List Value→Option Value
 | .mov,[x]=>some x
 | .pick,[.bool c,a,b]=>some (if c then a else b)
 | .bin op,[x,y]=>binV op x y
 | .eqb ng,[.bool a,.bool b]=>some (.bool (if ng then !(a==b) else a==b))
 | .eqn ng kd,[x]=>(isNil kd x).map fun t=>.bool (if ng then !t else t)
 | .eqs ng ks,[.agg xs,.agg ys]=>if xs.size=ks.length∧ys.size=ks.length then (eqCs ks xs.toList ys.toList).map fun t=>.bool (if ng then !t else t) else none
 | .not,[.bool b]=>some (.bool !b)
 | .neg,[.int k n]=>some (.int k (k.wrap (0 - n)))
 | .cpl,[.int k n]=>some (.int k (k.wrap (BitVec.ofInt k.bits (if k.signed then -1 else k.max) ^^^ BitVec.ofInt k.bits n).toNat))
 | .toInt k,[.int _ n]=>some (.int k (k.wrap n))
 | .intF k,[.int _ n]=>some (.float k (k.nearest n))
 | .fInt k,[.float s b]=>match (s.decode b).toInt .zero with
  | some n=>if k.min≤n∧n≤k.max then some (.int k n) else none
  | none=>none
 | .strId,[.string s]=>some (.string s)
 | .fld off none,[.agg cs]=>cs.toList[off]?
 | .fld off (some n),[.agg cs]=>some (.agg (subL cs.toList off n).toArray)
 | .bld z ps,vs=>(fillL z ps vs).map fun l=>.agg l.toArray
 | .len false,[.slice _ n _]=>some (.int .i64 n)
 | .len true,[.string s]=>some (.int .i64 s.size)
 | .cap,[.slice _ _ c]=>some (.int .i64 c)
 | .ixa sz,[.slice (some a) n _,.int _ i]=>if 0≤i∧i < n then some (.pointer (some (a.add (i.toNat * sz)))) else none
 | .ixaA n sz,[.pointer (some a),.int _ i]=>if 0≤i∧i < n then some (.pointer (some (a.add (i.toNat * sz)))) else none
 | .ixv n sz none,[.agg cs,.int _ i]=>if 0≤i∧i < n then cs.toList[i.toNat * sz]? else none
 | .ixv n sz (some m),[.agg cs,.int _ i]=>if 0≤i∧i < n then some (.agg (subL cs.toList (i.toNat * sz) m).toArray) else none
 | .ixs,[.string s,.int _ i]=>if 0≤i then (s.data.toList[i.toNat]?).map fun b=>.int .u8 b.toNat else none
 | .fla off,[.pointer (some a)]=>some (.pointer (some (a.add off)))
 | .nilc,[.pointer (some a)]=>some (.pointer (some a))
 | .slc sz lo hi,.slice a n c::xs=>(loHi lo hi n c xs).map fun (l,h)=>.slice (if c=l then a else a.map (·.add (l * sz))) (h - l) (c - l)
 | .slcA n sz lo hi,.pointer (some a)::xs=>(loHi lo hi n n xs).map fun (l,h)=>.slice (some (if n=l then a else a.add (l * sz))) (h - l) (n - l)
 | .sls lo hi,.string s::xs=>(loHi lo hi s.size s.size xs).map fun (l,h)=>.string (s.extract l h)
 | .minmax mx,x::xs=>mms mx x xs
 | .mkf fn n,xs=>some (.func fn (xs.take n).toArray (xs.drop n).toArray)
 | .cpx _,[.float k a,.float k' b]=>if k=k' then some (.complex k a b) else none
 | .re,[.complex k a _]=>some (.float k a)
 | .im,[.complex k _ b]=>some (.float k b)
 | .ext i,[.tuple vs]=>vs.toList[i]?
 | .mkif t,[x]=>some (.iface t x)
 | _,_=>none
def isLD:Obj→Bool
 | .loop _=>true
 | .deferred _=>true
 | _=>false
def KeepD (h h':Heap):Prop:=h.size≤h'.size∧∀(b:Nat) (o:Obj),h[b]?=some o→isLD o=true→h'[b]?=some o
theorem KeepD.refl (h:Heap):KeepD h h:=⟨Nat.le_refl _,fun _ _ e _=>e⟩
theorem KeepD.trans {a b c:Heap} (h:KeepD a b) (k:KeepD b c):KeepD a c:=⟨Nat.le_trans h.1 k.1,fun i o e l=>k.2 i o (h.2 i o e l) l⟩
theorem KeepD.push (h:Heap) (o:Obj):KeepD h (h.push o):=⟨by simp,fun b o' e _=>by
 have hlt:=(Array.getElem?_eq_some_iff.1 e).1
 rw[Array.getElem?_push_lt hlt]
 exact e ▸ (Array.getElem?_eq_getElem hlt).symm⟩
theorem KeepD.set {h:Heap} {r:Nat} {o:Obj} (o':Obj) (hr:h[r]?=some o) (ho:isLD o=false):KeepD h (h.setIfInBounds r o'):=⟨by simp,fun b x e l=>by
 by_cases hb:r=b
 ·subst hb
  rw[hr] at e
  cases e
  rw[ho] at l
  cases l
 ·rw[Array.getElem?_setIfInBounds_ne hb];exact e⟩
def Same (w w':World):Prop:=w'.os=w.os∧w'.tape=w.tape∧w'.output=w.output∧KeepD w.heap w'.heap
theorem Same.refl (w:World):Same w w:=⟨rfl,rfl,rfl,.refl _⟩
theorem Same.trans {a b c:World} (h:Same a b) (k:Same b c):Same a c:=⟨k.1.trans h.1,k.2.1.trans h.2.1,k.2.2.1.trans h.2.2.1,h.2.2.2.trans k.2.2.2⟩
def FnC (P:Program) (f:FuncId) (args:Array Value) (h:Heap) (R:Value→Heap→Prop):Prop:=
 ∀w:World,w.heap=h→Calls P f args w fun e w'=>∃v,e=.returned v∧R v w'.heap∧Same w w'
theorem FnC.mono {P:Program} {f:FuncId} {args:Array Value} {h:Heap} {R R':Value→Heap→Prop} (H:FnC P f args h R) (hr:∀v h',R v h'→R' v h'):FnC P f args h R':=
 fun w hw=>(H w hw).mono fun _ _ ⟨v,e,r,s⟩=>⟨v,e,hr _ _ r,s⟩
def YldC (P:Program) (l:Nat) (args:Array Value) (h:Heap) (R:Value→Heap→Prop):Prop:=
 ∀w:World,w.heap=h→YieldAt Fence.wide 0 P l args w fun e w'=>∃v,e=.returned v∧R v w'.heap∧Same w w'
theorem YldC.mono {P:Program} {l:Nat} {args:Array Value} {h:Heap} {R R':Value→Heap→Prop} (H:YldC P l args h R) (hr:∀v h',R v h'→R' v h'):YldC P l args h R':=fun w hw=>by
 obtain ⟨fn,tmps,a,b,h1,h2⟩:=H w hw
 exact ⟨fn,tmps,a,b,h1,h2.mono fun e w' ⟨v,e1,r,s⟩=>⟨v,e1,hr _ _ r,s⟩⟩
inductive EF where
 | new (T:TypeId) (zero:List Value)
 | box (T:TypeId)
 | st (n:Nat)
 | bsl (E:TypeId) (sz:Nat)
 | mks (E:TypeId) (sz bytes:Nat) (zero:List Value)
 | app (E:TypeId) (sz bytes:Nat) (zero:List Value)
 | call (f:FuncId)
 | callv
 | mkm
 | mup (ck:CK)
 | mlk (ck:CK) (z:Value)
 | sit
 | nxt
 | b2s
 | cpy (sz:Nat)
 | s2b (E:TypeId)
 | die
 deriving Inhabited
inductive SOp where
 | pur (f:PF) (xs:List Operand)
 | ld (n:Option Nat) (x:Operand)
 | eff (e:EF) (xs:List Operand)
 deriving Inhabited
def SOp.opds:SOp→List Operand
 | .pur _ xs=>xs
 | .ld _ x=>[x]
 | .eff _ xs=>xs
def ldV (n:Option Nat) (v:Value) (g:Nat→Option Obj):Option Value:=
 match v with
 | .pointer (some ⟨b,off,none⟩)=>match n with
  | none=>cellG g b off
  | some n=>(cellsG g b off n).map fun l=>.agg l.toArray
 | _=>none
def st1 (h:Heap) (b off:Nat) (v:Value):Option Heap:=
 match h[b]? with
 | some (.cells c E fz)=>if off < c.size∧¬(fz.1≤off∧off < fz.2)∧v.oneCell'=true then some (h.setIfInBounds b (.cells (c.setIfInBounds off v) E fz)) else none
 | _=>none
def stL (h:Heap) (b off:Nat):List Value→Option Heap
 | []=>some h
 | v::vs=>(st1 h b off v).bind fun h'=>stL h' b (off+1) vs
def rep (z:List Value) (c:Nat):List Value:=(List.replicate c z).flatten
def srcV (g:Nat→Option Obj) (sz:Nat):Value→Option (Nat×List Value)
 | .slice (some ⟨b,off,none⟩) n _=>(cellsG g b off (n * sz)).map (n,·)
 | .slice none n _=>some (n,[])
 | .slice _ 0 _=>some (0,[])
 | .string s=>some (s.size,s.data.toList.map fun b=>.int .u8 b.toNat)
 | _=>none
def fnOk (P:Program) (f:FuncId):Bool:=
 match P.funcs[f]? with
 | some fn => fn.name != "runtime.NumGoroutine" && fn.body.isSome
 | none=>false
def findV (ck:CK) (k:Value):List MapEntry→Nat→Option (Option (Nat×MapEntry))
 | [],_=>some none
 | e::es,i=>match eqC ck k e.key with
  | some true=>some (some (i,e))
  | some false=>findV ck k es (i+1)
  | none=>none
def cpyV (g:Nat→Option Obj) (sz k:Nat) (l:List Value):Option Addr→Prop
 | some ⟨b,off,none⟩=>cellsG g b off (k * sz)=some l
 | none=>l=[]
 | _=>k=0∧l=[]
def EF.wp (P:Program) (e:EF) (vs:List Value) (h:Heap) (K:Value→Heap→Prop):Prop:=
 match e,vs with
 | .new T z,[]=>K (.pointer (some ⟨h.size,0,none⟩)) (h.push (.cells z.toArray T (0,0)))
 | .box T,[v]=>K (.pointer (some ⟨h.size,0,none⟩)) (h.push (.cells v.cells T (0,0)))
 | .st n,[.pointer (some ⟨b,off,none⟩),v]=>v.cells.size=n∧∃h',stL h b off v.cells.toList=some h'∧K undef h'
 | .bsl E sz,vs=>(∀v∈vs,v.cells.size=sz) ∧
   K (.slice (some ⟨h.size,0,none⟩) vs.length vs.length) (h.push (.cells (vs.flatMap (·.cells.toList)).toArray E (0,0)))
 | .mks E _ by_ z,[.int _ l,.int _ c]=>0≤l∧l≤c∧c < 9223372036854775808∧by_ * c≤281474976710656 ∧
   K (.slice (some ⟨h.size,0,none⟩) l.toNat c.toNat) (h.push (.cells (rep z c.toNat).toArray E (0,0)))
 | .app E sz by_ z,[.slice base n cap,y]=>∃m news,srcV (hp h) sz y=some (m,news)∧news.length=m * sz ∧
   if n+m≤cap then
    match base with
    | none=>K (.slice none (n+m) cap) h
    | some ⟨b,off,none⟩=>∃h',stL h b (off+n * sz) news=some h'∧K (.slice base (n+m) cap) h'
    | _=>False
   else n+m≤9223372036854775807∧(n+m) * by_≤140737488355328∧∃olds,srcV (hp h) sz (.slice base n cap)=some (n,olds)∧olds.length=n * sz ∧
    ∀c,n+m≤c→c < 9223372036854775808 →
     K (.slice (some ⟨h.size,0,none⟩) (n+m) c) (h.push (.cells (olds++news++rep z (c - (n+m))).toArray E (0,0)))
 | .call f,vs=>FnC P f vs.toArray h K
 | .callv,.func (.func f) first cap::vs=>fnOk P f=true∧FnC P f (first++vs.toArray++cap) h K
 | .callv,.func (.yield l) first cap::vs=>first=#[]∧cap=#[]∧YldC P l vs.toArray h K
 | .mkm,[]=>K (.map (some h.size)) (h.push (.map #[] 0))
 | .mup ck,[.map (some r),k,v]=>∃en clock,h[r]?=some (.map en clock) ∧
   ((∃i e,findV ck k en.toList 0=some (some (i,e))∧Instr.sameBits 10000 e.key k=true∧K undef (h.setIfInBounds r (.map (en.modify i fun e=>{ e with key:=k,val:=v }) clock))) ∨
    (findV ck k en.toList 0=some none∧K undef (h.setIfInBounds r (.map (en.push { key:=k,val:=v,born:=clock }) (clock+1)))))
 | .mlk ck z,[.map (some r),k]=>∃en clock,h[r]?=some (.map en clock)∧∃q,findV ck k en.toList 0=some q∧K (match q with|some (_,e)=>e.val|none=>z) h
 | .sit,[.string s]=>K (.pointer (some ⟨h.size,0,none⟩)) (h.push (.stringIter s 0))
 | .nxt,[.pointer (some ⟨r,0,none⟩)]=>∃s pos,h[r]?=some (.stringIter s pos) ∧
   (if pos < s.size then K (.tuple #[.bool true,.int .i64 pos,.int .i32 (Utf8.decode s pos).1]) (h.setIfInBounds r (.stringIter s (pos+(Utf8.decode s pos).2))) else K (.tuple #[.bool false]) h)
 | .b2s,[x]=>∃n,∃bs:List UInt8,(∃a c,x=.slice a n c)∧srcV (hp h) 1 x=some (n,bs.map fun b=>.int .u8 b.toNat)∧K (.string ⟨bs.toArray⟩) h
 | .cpy sz,[.slice d n _,.slice a m _]=>∃l,cpyV (hp h) sz (min m n) l a ∧
   (match d with|some ⟨b,off,none⟩=>∃h',stL h b off l=some h'∧K (.int .i64 (min m n:Nat)) h'|none=>K (.int .i64 (min m n:Nat)) h|_=>False)
 | .s2b E,[.string s]=>s.size≤9223372036854775807∧∀c,s.size≤c→c < 9223372036854775808 →
   K (.slice (some ⟨h.size,0,none⟩) s.size c) (h.push (.cells ((s.data.toList.map fun b=>Value.int .u8 b.toNat)++rep [.int .u8 0] (c - s.size)).toArray E (c,c+1)))
 | _,_=>False
def SOp.wp (P:Program) (s:SOp) (ε:Env) (h:Heap) (K:Value→Heap→Prop):Prop:=
 match s with
 | .pur f xs=>∃v,f.val (xs.map (ev ε))=some v∧K v h
 | .ld n x=>∃v,ldV n (ev ε x) (hp h)=some v∧K v h
 | .eff e xs=>e.wp P (xs.map (ev ε)) h K
def aggOf (P:Program) (t:TypeId):Option (Option Nat):=
 match P.info? t,P.underlying t with
 | some i,some (.struct _)=>some (some i.size)
 | some i,some (.array _ _)=>some (some i.size)
 | some _,some _=>some none
 | _,_=>none
def nilConst:Operand→Option Nat
 | .const (.pointer none)=>some 0
 | .const (.slice none _ _)=>some 1
 | .const .nilFunc=>some 2
 | .const (.map none)=>some 3
 | .const .nilIface=>some 4
 | _=>none
def nilKind:TypeDesc→Option Nat
 | .pointer _=>some 0
 | .slice _=>some 1
 | .func _ _ _=>some 2
 | .map _ _=>some 3
 | .interface _=>some 4
 | _=>none
def ckOf:TypeDesc→Option CK
 | .bool=>some .bool
 | .int k=>some (.int k)
 | .float k=>some (.float k)
 | .complex k=>some (.complex k)
 | .string=>some .string
 | _=>none
def flatFields (fl:TypeId→Option (List CK)) (P:Program):Nat→List Field→Option (List CK)
 | _,[]=>some []
 | off,f::fs=>
  if f.name == "_" || f.offset != off then none else
  match fl f.type,P.info? f.type with
  | some l,some i=>if i.size=l.length then (flatFields fl P (off+l.length) fs).map (l++·) else none
  | _,_=>none
def flat (P:Program):Nat→TypeId→Option (List CK)
 | 0,_=>none
 | d+1,t=>match P.underlying t with
  | some (.struct fs)=>if P.stoodInHeld t then none else flatFields (flat P d) P 0 fs.toList
  | some (.array n e)=>match flat P d e,P.info? e with
   | some l,some i=>if i.size=l.length then some (List.replicate n l).flatten else none
   | _,_=>none
  | some u=>(ckOf u).map ([·])
  | none=>none
def elemInfo (P:Program) (t:TypeId):Option (TypeId×TypeInfo×List Value):=
 match P.underlying t with
 | some (.slice e)=>match P.info? e with
  | some i=>match i.zero with
   | some z=>if z.cells.size=i.size∧0 < i.size then some (e,i,z.cells.toList) else none
   | none=>none
  | none=>none
 | _=>none
def places (P:Program) (t:TypeId) (parts:List Nat):Option (List (Nat×Nat)):=
 match P.underlying t with
 | some (.struct fs)=>(fs.toList.mapM fun f=>(P.info? f.type).map fun i=>(f.offset,i.size)).bind fun pl=>parts.mapM fun i=>pl[i]?
 | some (.array _ e)=>(P.info? e).map fun j=>parts.map fun i=>(i * j.size,j.size)
 | _=>none
def compCall (P:Program) (c:Call):Option SOp:=
 match c.callee with
 | .value (.func f)=>if fnOk P f then some (.eff (.call f) c.args.toList) else none
 | .value x=>some (.eff .callv (x::c.args.toList))
 | .invoke _ _=>none
 | .builtin b=>
  match b,c.args.toList,c.argTypes.toList with
  | .len,[x],t::_=>match P.underlying t with
   | some (.slice _)=>some (.pur (.len false) [x])
   | some .string=>some (.pur (.len true) [x])
   | _=>none
  | .cap,[x],t::_=>match P.underlying t with
   | some (.slice _)=>some (.pur .cap [x])
   | _=>none
  | .min,x::xs,_=>some (.pur (.minmax false) (x::xs))
  | .max,x::xs,_=>some (.pur (.minmax true) (x::xs))
  | .append,[x,y],[t,u]=>match elemInfo P t,P.underlying u with
   | some (e,i,z),some (.slice _)=>some (.eff (.app e i.size i.bytes z) [x,y])
   | some (e,i,z),some .string=>if i.size=1 then some (.eff (.app e i.size i.bytes z) [x,y]) else none
   | _,_=>none
  | .real,[x],_=>some (.pur .re [x])
  | .imag,[x],_=>some (.pur .im [x])
  | .complex,[x,y],_=>some (.pur (.cpx .f64) [x,y])
  | .copy,[x,y],[t,u]=>match P.underlying t,P.underlying u with
   | some (.slice e),some (.slice _)=>(P.info? e).map fun i=>.eff (.cpy i.size) [x,y]
   | _,_=>none
  | _,_,_=>none
def keyCk (P:Program) (t:TypeId):Option CK:=
 match P.underlying t with
 | some (.int k)=>ckOf (.int k)
 | some (.complex k)=>ckOf (.complex k)
 | some .string=>ckOf .string
 | _=>none
def compileOp (P:Program) (op:Op):Option SOp:=
 match op with
 | .move x|.assign x=>some (.pur .mov [x])
 | .pick c a b=>some (.pur .pick [c,a,b])
 | .alloc T=>match P.info? T with
  | some i=>match i.zero with
   | some z=>some (.eff (.new T z.cells.toList) [])
   | none=>none
  | none=>none
 | .box T x=>some (.eff (.box T) [x])
 | .build t parts=>match P.info? t,places P t (parts.toList.map (·.1)) with
  | some i,some ps=>match i.zero with
   | some z=>some (.pur (.bld z.cells.toList ps) (parts.toList.map (·.2)))
   | none=>none
  | _,_=>none
 | .buildSlice t len parts=>match elemInfo P t with
  | some (e,i,_)=>if parts.toList.map (·.1)=List.range len∧len * i.size≤16777216 then some (.eff (.bsl e i.size) (parts.toList.map (·.2))) else none
  | none=>none
 | .load t a=>(aggOf P t).map fun n=>.ld n a
 | .store t a x=>match P.info? t with
  | some i=>some (.eff (.st i.size) [a,x])
  | none=>none
 | .nilCheck x=>some (.pur .nilc [x])
 | .binOp op t x y _=>
  match op with
  | .eql|.neq=>match P.underlying t with
   | some (.int _)|some (.float _)|some (.complex _)|some .string=>some (.pur (.bin op) [x,y])
   | some .bool=>some (.pur (.eqb (op==.neq)) [x,y])
   | some (.struct _)|some (.array _ _)=>
    if P.eqGuardType P.depth t then none else match flat P 40 t,P.info? t with
     | some l,some i=>if i.size=l.length then some (.pur (.eqs (op==.neq) l) [x,y]) else none
     | _,_=>none
   | some u=>match nilKind u with
    | some kd=>if nilConst y=some kd then some (.pur (.eqn (op==.neq) kd) [x]) else if nilConst x=some kd then some (.pur (.eqn (op==.neq) kd) [y]) else none
    | none=>none
   | none=>none
  | _=>some (.pur (.bin op) [x,y])
 | .unOp u _ x=>match u with
  | .neg=>some (.pur .neg [x])
  | .xor=>some (.pur .cpl [x])
  | .not=>some (.pur .not [x])
  | .plus=>none
 | .convert s t x=>match P.underlying s,P.underlying t with
  | some (.int _),some (.int k)=>some (.pur (.toInt k) [x])
  | some (.int _),some (.float k)=>some (.pur (.intF k) [x])
  | some (.float _),some (.int k)=>some (.pur (.fInt k) [x])
  | some .string,some .string=>some (.pur .strId [x])
  | some (.slice e),some .string=>match P.underlying e with
   | some (.int .u8)=>some (.eff .b2s [x])
   | _=>none
  | some .string,some (.slice e)=>match P.underlying e with
   | some (.int .u8)=>some (.eff (.s2b e) [x])
   | _=>none
  | _,_=>none
 | .makeFunc fn first captured=>some (.pur (.mkf fn first.size) (first.toList++captured.toList))
 | .makeInterface t x=>match P.underlying t with
  | some (.interface _)|none=>none
  | some _=>some (.pur (.mkif t) [x])
 | .makeSlice t l c=>(elemInfo P t).map fun (e,i,z)=>.eff (.mks e i.size i.bytes z) [l,c]
 | .slice t x lo hi none=>match P.underlying t with
  | some (.slice e)=>match P.info? e with
   | some i=>some (.pur (.slc i.size lo.isSome hi.isSome) (x::(lo.toList++hi.toList)))
   | none=>none
  | some .string=>some (.pur (.sls lo.isSome hi.isSome) (x::(lo.toList++hi.toList)))
  | some (.array n e)=>match P.info? e with
   | some i=>some (.pur (.slcA n i.size lo.isSome hi.isSome) (x::(lo.toList++hi.toList)))
   | none=>none
  | _=>none
 | .fieldAddr s x f=>match P.underlying s with
  | some (.struct fs)=>match fs[f]? with
   | some fd=>match P.info? fd.type with
    | some i=>if i.size=0 then none else some (.pur (.fla fd.offset) [x])
    | none=>none
   | none=>none
  | _=>none
 | .field t x f=>match P.underlying t with
  | some (.struct fs)=>match fs[f]? with
   | some fd=>(aggOf P fd.type).map fun n=>.pur (.fld fd.offset n) [x]
   | none=>none
  | _=>none
 | .indexAddr t x i=>match P.underlying t with
  | some (.slice e)=>(P.info? e).map fun j=>.pur (.ixa j.size) [x,i]
  | some (.array n e)=>(P.info? e).map fun j=>.pur (.ixaA n j.size) [x,i]
  | _=>none
 | .index t x i=>match P.underlying t with
  | some (.array n e)=>match aggOf P e,P.info? e with
   | some a,some j=>some (.pur (.ixv n j.size a) [x,i])
   | _,_=>none
  | some .string=>some (.pur .ixs [x,i])
  | _=>none
 | .extract t i=>some (.pur (.ext i) [t])
 | .call c=>compCall P c
 | .makeMap _ none=>some (.eff .mkm [])
 | .mapUpdate t m k x|.insert t m k x=>match P.underlying t with
  | some (.map kt _)=>(keyCk P kt).map fun ck=>.eff (.mup ck) [m,k,x]
  | _=>none
 | .lookup t x i false=>match P.underlying t with
  | some (.map kt et)=>match keyCk P kt,P.info? et with
   | some ck,some j=>j.zero.map fun z=>.eff (.mlk ck z) [x,i]
   | _,_=>none
  | _=>none
 | .range t x=>match P.underlying t with
  | some .string=>some (.eff .sit [x])
  | _=>none
 | .next x true=>some (.eff .nxt [x])
 | .panic x=>some (.eff .die [x])
 | _=>none
theorem J38 {P:Program} {w:World} {op:BinOp} {k:IntKind} {x y:Int} {v:Value} (h:binI op k x y=some v) (ho:op=.quo∨op=.rem):(Op.intDiv op k x y).run P w=.ok v w:=by
 rcases ho with rfl|rfl<;>simp only[binI] at h<;>split at h<;>simp_all[Op.intDiv]
theorem binI_run {P:Program} {w:World} {op:BinOp} {t:TypeId} {k:IntKind} {x y:Int} {v:Value} (h:binI op k x y=some v):(binOp op t (.int k x) (.int k y)).run P w=.ok v w:=by
 cases op
 case quo=>simpa[binOp] using J38 h (.inl rfl)
 case rem=>simpa[binOp] using J38 h (.inr rfl)
 all_goals simp[binI,cmpI] at h<;>(try subst h)<;>simp[binOp,Op.intArith,Op.intBits,Op.intCmp]
theorem shI_run {P:Program} {w:World} {op:BinOp} {t:TypeId} {k k':IntKind} {x y:Int} {v:Value} (hs:isSh op=true) (h:shI op k x y=some v):(binOp op t (.int k x) (.int k' y)).run P w=.ok v w:=by
 cases op<;>simp[isSh] at hs<;>simp only[shI] at h<;>split at h<;>simp_all[binOp,Op.shift]<;>intro _<;>omega
theorem binF_run {P:Program} {w:World} {op:BinOp} {t:TypeId} {k:FloatKind} {x y:Nat} {v:Value} (h:binF op k x y=some v):(binOp op t (.float k x) (.float k y)).run P w=.ok v w:=by
 cases op<;>simp[binF] at h<;>(try subst h)<;>(try (obtain ⟨r,hr,rfl⟩:=h))<;>simp[binOp,Op.floatCmp,Op.floatArith, *]
theorem binC_run {P:Program} {w:World} {op:BinOp} {t:TypeId} {k:FloatKind} {a b c d:Nat} {v:Value} (h:binC op k a b c d=some v):(binOp op t (.complex k a b) (.complex k c d)).run P w=.ok v w:=by
 cases op<;>simp[binC] at h<;>(try subst h)<;>(try (split at h))<;>(try cases h)<;>simp[binOp,Op.complexOp,Op.Complex.cmp,Op.Complex.arith,Op.floatCmp,Op.floatArith,asBool, *]
 all_goals simp[*,asBool]
theorem binS_run {P:Program} {w:World} {op:BinOp} {t:TypeId} {x y:ByteArray} {v:Value} (h:binS op x y=some v):(binOp op t (.string x) (.string y)).run P w=.ok v w:=by
 cases op<;>simp only[binS] at h<;>(try cases h)<;>(try (split at h))<;>(try cases h)<;>simp_all[binOp,Op.stringOp]
theorem binV_run {P:Program} {w:World} {op:BinOp} {t:TypeId} {a b:Value} {v:Value} (h:binV op a b=some v):(binOp op t a b).run P w=.ok v w:=by
 unfold binV at h
 split at h
 ·split at h
  ·exact shI_run ‹_› h
  ·split at h
   ·subst_vars;exact binI_run h
   ·cases h
 ·split at h
  ·subst_vars;exact binF_run h
  ·cases h
 ·split at h
  ·subst_vars;exact binC_run h
  ·cases h
 ·exact binS_run h
 ·cases h
theorem eqGuard_run {P:Program} {w:World} {op:BinOp} {t:TypeId} {x y:Operand} {a b v:Value} (h:binV op a b=some v):(eqGuard op t x y a b).run P w=.ok () w:=by
 unfold binV at h
 split at h<;>first|(cases h;done)|(cases op<;>rfl)
theorem Zw {P:Program} {w:World} {op:BinOp} {t:TypeId} {x y:Operand} {a b:Value} (h1:(a=.nilIface→b=.nilIface→(nilConst x).isSome∨(nilConst y).isSome))
  (h2:∀xs ys,a=.agg xs→b=.agg ys→P.eqGuardType P.depth t=false):(eqGuard op t x y a b).run P w=.ok () w:=by
 have key:∀(a b:Value) (h1:(a=.nilIface→b=.nilIface→(nilConst x).isSome∨(nilConst y).isSome)) (h2:∀xs ys,a=.agg xs→b=.agg ys→P.eqGuardType P.depth t=false),
   (eqGuard .eql t x y a b).run P w=.ok () w∧(eqGuard .neq t x y a b).run P w=.ok () w:=by
  intro a b h1 h2
  cases a<;>cases b<;>first|exact ⟨rfl,rfl⟩|skip
  ·rcases h1 rfl rfl with h1|h1
   ·cases x<;>simp[nilConst] at h1
    simp[eqGuard]
   ·cases y<;>simp[nilConst] at h1
    simp[eqGuard]
  ·have:=h2 _ _ rfl rfl
   simp[eqGuard,this]
 cases op<;>first|exact (key a b h1 h2).1|exact (key a b h1 h2).2|rfl
theorem eqC_run {P:Program} {w:World} {t:TypeId} {u:TypeDesc} {k:CK} {x y:Value} {b:Bool} (hu:P.underlying t=some u) (hk:ckOf u=some k) (h:eqC k x y=some b) (D:Nat):
  (Op.equalIn (D+1) t x y).run P w=.ok b w:=by
 cases u<;>simp[ckOf] at hk<;>subst hk<;>cases x<;>simp[eqC] at h<;>cases y<;>simp[eqC] at h <;>
  (try obtain ⟨rfl,rfl⟩:=h)<;>simp[Op.equalIn,run_underlying hu, *]
theorem Jf (l1 l2:List CK):∀(xs ys:List Value) (b:Bool),eqCs (l1++l2) xs ys=some b →
  ∃b1,eqCs l1 xs ys=some b1∧(b1=false→b=false)∧(b1=true→eqCs l2 (xs.drop l1.length) (ys.drop l1.length)=some b):=by
 induction l1 with
 | nil=>intro xs ys b h;exact ⟨true,by simp[eqCs],by simp,fun _=>by simpa using h⟩
 | cons k ks ih=>
  intro xs ys b h
  cases xs<;>cases ys<;>simp only[List.cons_append,eqCs] at h<;>try cases h
  rename_i x xs y ys
  cases hk:eqC k x y with
  | none=>simp[hk] at h
  | some r=>
   cases r
   ·simp[hk] at h
    exact ⟨false,by simp[eqCs,hk],by simp[h],by simp⟩
   ·simp only[hk] at h
    obtain ⟨b1,h1,h2,h3⟩:=ih xs ys b h
    exact ⟨b1,by simp[eqCs,hk,h1],h2,by simpa using h3⟩
theorem eqCs_take (l:List CK):∀(n:Nat) (xs ys:List Value) (b:Bool),l.length≤n→eqCs l xs ys=some b→eqCs l (xs.take n) (ys.take n)=some b:=by
 induction l with
 | nil=>intro n xs ys b _ h;simpa[eqCs] using h
 | cons k ks ih=>
  intro n xs ys b hn h
  cases n with
  | zero=>simp at hn
  | succ n=>
   cases xs<;>cases ys<;>simp only[eqCs] at h<;>try cases h
   rename_i x xs y ys
   simp only[List.take_succ_cons,eqCs]
   cases hk:eqC k x y with
   | none=>simp[hk] at h
   | some r=>
    cases r
    ·simpa[hk] using h
    ·simp only[hk] at h ⊢
     exact ih n xs ys b (by simpa using hn) h
def cmpAt (P:Program) (D:Nat) (t:TypeId) (xs ys:Array Value) (off:Nat):Sem Bool:=do
 let a ←part t xs off
 let b ←part t ys off
 Op.equalIn D t a b
theorem flat_eq (P:Program):∀(d:Nat) (t:TypeId) (l:List CK),flat P d t=some l→∀(i:TypeInfo),P.info? t=some i→i.size=l.length→∀(D:Nat),d≤D→∀(w:World) (xs ys:Array Value) (off:Nat) (b:Bool),
  eqCs l (xs.toList.drop off) (ys.toList.drop off)=some b→(cmpAt P D t xs ys off).run P w=.ok b w
 | 0,t,l,h=>by simp[flat] at h
 | d+1,t,l,h=>by
  intro i hi hsz D hD w xs ys off b hb
  obtain ⟨D,rfl⟩:∃D',D=D'+1:=⟨D - 1,by omega⟩
  have hcells:P.cellsOf t=l.length:=by simp[Program.cellsOf,hi,hsz]
  unfold flat at h
  cases hu:P.underlying t with
  | none=>simp[hu] at h
  | some u=>
   simp only[hu] at h
   cases u with
   | struct fs=>
    simp only at h
    split at h
    ·cases h
    rename_i hst
    have hagg:(isAgg t).run P w=.ok true w:=by simp[isAgg,run_underlying hu]
    have hin:∀(fl:List Field) (o:Nat) (l':List CK) (w:World) (X Y:Array Value),flatFields (flat P d) P o fl=some l'→∀b,eqCs l' (X.toList.drop o) (Y.toList.drop o)=some b→(Op.eqFields D X Y fl).run P w=.ok b w:=by
     intro fl
     induction fl with
     | nil=>
      intro o l' w X Y hf b hb
      simp[flatFields] at hf
      subst hf
      simp[eqCs] at hb
      subst hb
      simp[Op.eqFields]
     | cons f fl ih=>
      intro o l' w X Y hf b hb
      unfold flatFields at hf
      split at hf
      ·cases hf
      rename_i hno
      simp only[Bool.or_eq_true,beq_iff_eq,bne_iff_ne,ne_eq,not_or,Decidable.not_not] at hno
      obtain ⟨hn,ho⟩:=hno
      split at hf
      ·rename_i lf jf hlf hjf
       split at hf
       ·rename_i hjs
        simp only[Option.map_eq_some_iff] at hf
        obtain ⟨l2,hl2,rfl⟩:=hf
        obtain ⟨b1,e1,e2,e3⟩:=Jf _ _ _ _ _ hb
        have hone:=flat_eq P d f.type lf hlf jf hjf hjs D (by omega) w X Y o b1 e1
        simp only[cmpAt,Sem.run_bind] at hone
        simp only[Op.eqFields,hn,ne_eq,not_false_eq_true,if_true,Sem.run_bind,ho]
        revert hone
        generalize (part f.type X o).run P w=r1
        cases r1 with
        | halt x w1=>simp[Result.andThen]
        | ok a w1=>
         simp only[Result.andThen_ok]
         generalize (part f.type Y o).run P w1=r2
         cases r2 with
         | halt x w2=>simp[Result.andThen]
         | ok a2 w2=>
          simp only[Result.andThen_ok]
          intro hone
          rw[hone]
          cases b1
          ·simp[e2 rfl]
          ·simp only[Result.andThen_ok,Bool.not_true,Bool.false_eq_true,if_false]
           exact ih _ l2 w X Y hl2 b (by have:=e3 rfl;simpa[List.drop_drop] using this)
       ·cases hf
      ·cases hf
    have hpart:∀(X:Array Value),(part t X off).run P w=.ok (.agg (X.extract off (off+l.length))) w:=by
     intro X
     simp[part,hagg,run_sizeOf w hi,hcells]
    simp only[cmpAt,Sem.run_bind,hpart,Result.andThen_ok]
    have hfo:P.fieldsOf t=fs:=by simp[Program.fieldsOf,hu]
    have:=run_equalIn_struct (P:=P) w D (t:=t) (xs.extract off (off+l.length)) (ys.extract off (off+l.length)) (by rw[hfo];exact hu) (by simpa using hst)
    rw[this,hfo]
    refine hin _ 0 l w _ _ h b ?_
    have:=eqCs_take l l.length _ _ b (Nat.le_refl _) hb
    simpa[Array.toList_extract,List.extract_eq_take_drop] using this
   | array n e=>
    simp only at h
    split at h
    ·rename_i le je hle hje
     split at h
     ·rename_i hjs
      simp only[Option.some.injEq] at h
      subst h
      have hagg:(isAgg t).run P w=.ok true w:=by simp[isAgg,run_underlying hu]
      have hce:P.cellsOf e=le.length:=by simp[Program.cellsOf,hje,hjs]
      have hin:∀(m k:Nat) (w:World) (X Y:Array Value) (b:Bool),eqCs (List.replicate m le).flatten (X.toList.drop (k * le.length)) (Y.toList.drop (k * le.length))=some b →
        (Op.eqItems D e le.length X Y (List.range' k m)).run P w=.ok b w:=by
       intro m
       induction m with
       | zero=>
        intro k w X Y b hb
        simp[eqCs] at hb
        subst hb
        simp[Op.eqItems]
       | succ m ih=>
        intro k w X Y b hb
        rw[List.replicate_succ,List.flatten_cons] at hb
        obtain ⟨b1,e1,e2,e3⟩:=Jf _ _ _ _ _ hb
        have hone:=flat_eq P d e le hle je hje hjs D (by omega) w X Y (k * le.length) b1 e1
        simp only[cmpAt,Sem.run_bind] at hone
        simp only[List.range'_succ,Op.eqItems,Sem.run_bind]
        revert hone
        generalize (part e X (k * le.length)).run P w=r1
        cases r1 with
        | halt x w1=>simp[Result.andThen]
        | ok a w1=>
         simp only[Result.andThen_ok]
         generalize (part e Y (k * le.length)).run P w1=r2
         cases r2 with
         | halt x w2=>simp[Result.andThen]
         | ok a2 w2=>
          simp only[Result.andThen_ok]
          intro hone
          rw[hone]
          cases b1
          ·simp[e2 rfl]
          ·simp only[Result.andThen_ok,Bool.not_true,Bool.false_eq_true,if_false]
           exact ih (k+1) w X Y b (by have:=e3 rfl;simpa[List.drop_drop,Nat.add_mul,Nat.add_comm] using this)
      have hpart:∀(X:Array Value),(part t X off).run P w=.ok (.agg (X.extract off (off+(List.replicate n le).flatten.length))) w:=by
       intro X
       simp[part,hagg,run_sizeOf w hi,hcells]
      simp only[cmpAt,Sem.run_bind,hpart,Result.andThen_ok]
      rw[run_equalIn_array (P:=P) w D (t:=t) _ _ hu hje,hce,List.range_eq_range']
      refine hin n 0 w _ _ b ?_
      have:=eqCs_take _ _ _ _ b (Nat.le_refl _) hb
      simpa[Array.toList_extract,List.extract_eq_take_drop] using this
     ·cases h
    ·cases h
   | _=>
    obtain ⟨k,hk,rfl⟩:=Option.map_eq_some_iff.1 h
    ·cases hx:xs.toList.drop off with
     | nil=>simp[hx,eqCs] at hb
     | cons x xr=>
      cases hy:ys.toList.drop off with
      | nil=>simp[hx,hy,eqCs] at hb
      | cons y yr=>
       have hx0:xs[off]?=some x:=by have:=congrArg (·[0]?) hx;simpa using this
       have hy0:ys[off]?=some y:=by have:=congrArg (·[0]?) hy;simpa using this
       have hbb:eqC k x y=some b:=by
        simp only[hx,hy,eqCs] at hb
        revert hb
        cases hq:eqC k x y with
        | none=>simp
        | some r=>cases r<;>simp
       simp only[cmpAt,part,isAgg,run_underlying hu,Sem.run_bind,Result.andThen_ok,Sem.run_pure,Sem.run_ite,Bool.false_eq_true,if_false,hx0,hy0]
       exact eqC_run hu hk hbb D
theorem eqs_run {P:Program} {w:World} {t:TypeId} {l:List CK} {xs ys:Array Value} {b:Bool} (hl:flat P 40 t=some l) (ha:(isAgg t).run P w=.ok true w)
  {i:TypeInfo} (hi:P.info? t=some i) (hs:i.size=l.length) (hx:xs.size=l.length) (hy:ys.size=l.length)
  (hb:eqCs l xs.toList ys.toList=some b):(Op.equal t (.agg xs) (.agg ys)).run P w=.ok b w:=by
 have hc:P.cellsOf t=l.length:=by simp[Program.cellsOf,hi,hs]
 have h:=flat_eq P 40 t l hl i hi hs Op.maxDepth (by decide) w xs ys 0 b (by simpa using hb)
 have e1:xs.extract 0 l.length=xs:=by rw[←hx];simp
 have e2:ys.extract 0 l.length=ys:=by rw[←hy];simp
 simpa[cmpAt,part,ha,run_sizeOf w hi,hc,e1,e2,Op.equal] using h
theorem Jg {P:Program} {w:World} {t:TypeId} {n:Option Nat} (h:aggOf P t=some n):(isAgg t).run P w=.ok n.isSome w∧(∀k,n=some k→P.cellsOf t=k)∧∃i,P.info? t=some i:=by
 unfold aggOf at h
 split at h
 ·rename_i i _ hi hu;cases h;exact ⟨by simp[isAgg,run_underlying hu],(fun k hk=>by cases hk;simp[Program.cellsOf,hi]),_,hi⟩
 ·rename_i i _ _ hi hu;cases h;exact ⟨by simp[isAgg,run_underlying hu],(fun k hk=>by cases hk;simp[Program.cellsOf,hi]),_,hi⟩
 ·rename_i i u h1 h2 hi hu
  cases h
  refine ⟨?_,(fun k hk=>by cases hk),_,hi⟩
  cases u<;>simp_all[isAgg,run_underlying hu]
 ·cases h
theorem J64 {P:Program} {w:World} {t:TypeId} {n:Option Nat} {cs:Array Value} {off:Nat} {v:Value} (h:aggOf P t=some n)
  (hv:PF.val (.fld off n) [.agg cs]=some v):(part t cs off).run P w=.ok v w:=by
 obtain ⟨h1,h2,i,hi⟩:=Jg (w:=w) h
 cases n with
 | none=>
  simp[PF.val] at hv
  simp[part,h1,hv]
 | some k=>
  simp[PF.val,subL] at hv
  subst hv
  simp only[part,h1,Sem.run_bind,Result.andThen_ok,Option.isSome_some,if_true,run_sizeOf w hi,h2 k rfl,Sem.run_pure,Result.ok.injEq,and_true]
  congr 1
  apply Array.ext'
  simp[Array.toList_extract,List.extract_eq_take_drop]
theorem Y3 {P:Program} {w:World} {y n:Nat} {v:Value} {c:BoundsCode} (h:bound y v=some n):(Instr.sliceBound v y c).run P w=.ok n w:=by
 unfold bound at h
 split at h
 ·split at h
  ·cases h
   rename_i hb
   simp[Instr.sliceBound,asIntOf,hb]
  ·cases h
 ·cases h
theorem J65 {P:Program} {w:World} {b:Bool} {n c l h:Nat} {lo hi:Option Value} (H:loHi lo.isSome hi.isSome n c (lo.toList++hi.toList)=some (l,h)):
  (Instr.sliceBounds b n c lo hi none).run P w=.ok (l,h,c) w:=by
 cases lo with
 | none=>
  cases hi with
  | none=>simp[loHi] at H;obtain ⟨rfl,rfl⟩:=H;simp[Instr.sliceBounds]
  | some v=>simp[loHi] at H;obtain ⟨h1,rfl⟩:=H;simp[Instr.sliceBounds,Y3 h1]
 | some u=>
  cases hi with
  | none=>simp[loHi] at H;obtain ⟨x,h1,rfl,rfl⟩:=H;simp[Instr.sliceBounds,Y3 h1]
  | some v=>
   simp[loHi,Option.bind_eq_some_iff] at H
   obtain ⟨a,h1,x,h2,rfl,rfl⟩:=H
   simp[Instr.sliceBounds,Y3 h1,Y3 h2]
theorem mm_run {P:Program} {w:World} {mx:Bool} {x y v:Value} (h:mm mx x y=some v):((if mx then Builtin.max2 else Builtin.min2) x y).run P w=.ok v w:=by
 unfold mm at h
 split at h
 ·cases h;cases mx<;>simp[Builtin.max2,Builtin.min2]
 ·cases h
theorem mms_run {P:Program} {w:World} {mx:Bool}:∀(ys:List Value) (x v:Value),mms mx x ys=some v→(ys.foldlM (if mx then Builtin.max2 else Builtin.min2) x).run P w=.ok v w:=by
 intro ys
 induction ys with
 | nil=>intro x v h;simp[mms] at h;simp[h]
 | cons y ys ih=>
  intro x v h
  simp only[mms,Option.bind_eq_some_iff] at h
  obtain ⟨z,h1,h2⟩:=h
  simp only[List.foldlM_cons,Sem.run_bind,mm_run h1,Result.andThen_ok]
  exact ih z v h2
theorem setAt_eq (off:Nat):∀(vs:List Value) (k:Nat) (l:List Value),
  ((vs.zipIdx k).foldl (fun (cs:Array Value) (x:Value×Nat)=>cs.setIfInBounds (off+x.2) x.1) l.toArray)=(setAt l (off+k) vs).toArray:=by
 intro vs
 induction vs with
 | nil=>intro k l;simp[setAt]
 | cons v vs ih=>
  intro k l
  simp only[List.zipIdx_cons,List.foldl_cons,List.setIfInBounds_toArray,setAt]
  rw[ih (k+1) (l.set (off+k) v)]
  rfl
theorem fill_run {place:Nat→Option (Nat×Nat)}:∀(is:List Nat) (ps:List (Nat×Nat)) (vs:List Value) (z l:List Value),is.mapM place=some ps→vs.length=is.length→fillL z ps vs=some l →
  Instr.fill place z.toArray (is.zip vs)=some l.toArray:=by
 intro is
 induction is with
 | nil=>
  intro ps vs z l hp hv h
  simp at hp
  subst hp
  cases vs<;>simp[fillL] at h hv ⊢
  simp[Instr.fill,h]
 | cons i is ih=>
  intro ps vs z l hp hv h
  rw[List.mapM_cons] at hp
  simp only[bind,Option.bind_eq_some_iff,pure,Option.some.injEq] at hp
  obtain ⟨p,hp1,ps',hp2,rfl⟩:=hp
  obtain ⟨off,sz⟩:=p
  cases vs with
  | nil=>simp at hv
  | cons v vs=>
   simp only[fillL] at h
   split at h
   ·rename_i hc
    simp only[List.zip_cons_cons,Instr.fill,hp1]
    have h1:¬((v.cells.size≠sz||decide (off+v.cells.size > z.toArray.size))=true):=by
     simp;omega
    rw[if_neg h1]
    have:=setAt_eq off v.cells.toList 0 z
    rw[←Array.foldl_toList,Array.toList_zipIdx,this]
    exact ih ps' vs _ l hp2 (by simpa using hv) h
   ·cases h
theorem places_fill {P:Program} {w:World} {t:TypeId} {parts:List (Nat×Value)} {ps:List (Nat×Nat)} {i:TypeInfo} {z:Value} {l:List Value} (hi:P.info? t=some i) (hz:i.zero=some z)
  (hps:places P t (parts.map (·.1))=some ps) (hl:fillL z.cells.toList ps (parts.map (·.2))=some l):(Instr.build t parts.toArray).run P w=.ok (.agg l.toArray) w:=by
 have hzz:(zeroValue t).run P w=.ok z w:=by simp[zeroValue,typeInfo,hi,hz]
 have hzip:parts=(parts.map (·.1)).zip (parts.map (·.2)):=by
  clear hps hl
  induction parts with
  | nil=>rfl
  | cons p ps ih=>simp[←ih]
 unfold places at hps
 split at hps
 ·rename_i fs hu
  simp only[Option.bind_eq_some_iff] at hps
  obtain ⟨pl,hpl,hps⟩:=hps
  simp only[Instr.build,Sem.run_bind,hzz,Result.andThen_ok,run_underlying hu]
  have hrun:∀(fl:List Field) (pl:List (Nat×Nat)),(fl.mapM fun f=>(P.info? f.type).map fun i=>(f.offset,i.size))=some pl →
    (fl.mapM fun f=>do pure (f.offset,←sizeOf f.type):Sem (List (Nat×Nat))).run P w=.ok pl w:=by
   intro fl
   induction fl with
   | nil=>intro pl h;simp at h;subst h;rfl
   | cons f fl ih=>
    intro pl h
    rw[List.mapM_cons] at h ⊢
    simp only[bind,Option.bind_eq_some_iff,pure,Option.some.injEq,Option.map_eq_some_iff] at h
    obtain ⟨p,⟨i,hi,rfl⟩,ps',hps',rfl⟩:=h
    have:=ih ps' hps'
    have e:=run_sizeOf w hi
    have e2:P.cellsOf f.type=i.size:=by simp[Program.cellsOf,hi]
    simp only[Sem.run_bind,e,e2,Result.andThen_ok,Sem.run_pure,this]
  have hpl1:(fs.mapM fun f=>do pure (f.offset,←sizeOf f.type):Sem (Array (Nat×Nat))).run P w=.ok pl.toArray w:=by
   rw[Array.mapM_eq_mapM_toList]
   simp only[Sem.run_map,hrun _ _ hpl,Result.andThen_ok]
  have:=fill_run (place:=(pl.toArray[·]?)) (parts.map (·.1)) ps (parts.map (·.2)) z.cells.toList l (by simpa using hps) (by simp) hl
  rw[←hzip] at this
  simp only[Array.toArray_toList] at this
  simp only[hpl1,Result.andThen_ok,this,Sem.run_pure]
 ·rename_i n e hu
  obtain ⟨j,hj,rfl⟩:=Option.map_eq_some_iff.1 hps
  simp only[Instr.build,Sem.run_bind,hzz,Result.andThen_ok,run_underlying hu,run_sizeOf w hj]
  have hcj:P.cellsOf e=j.size:=by simp[Program.cellsOf,hj]
  have:=fill_run (place:=fun i=>some (i * P.cellsOf e,P.cellsOf e)) (parts.map (·.1)) _ (parts.map (·.2)) z.cells.toList l
   (by
    rw[hcj]
    generalize parts.map (·.1)=is
    induction is with
    | nil=>rfl
    | cons i is ih=>rw[List.mapM_cons,ih];rfl) (by simp) hl
  rw[←hzip] at this
  simp only[Array.toArray_toList] at this
  simp[this]
 ·cases hps
theorem ba_get (s:ByteArray) (n:Nat):s[n]?=s.data[n]?:=by
 by_cases h:n < s.size
 ·rw[getElem?_pos s n h,getElem?_pos s.data n h];rfl
 ·rw[getElem?_neg s n h,getElem?_neg s.data n h]
theorem equal_d:∃d,∀t x y,Op.equal t x y=Op.equalIn (d+1) t x y:=⟨9999,fun _ _ _=>rfl⟩
theorem eqN0 {P:Program} {w:World} {t e:TypeId} {d:Nat} {v:Value} {b:Bool} (hu:P.underlying t=some (.pointer e)) (h:isNil 0 v=some b):
  (Op.equalIn (d+1) t v (.pointer none)).run P w=.ok b w∧(Op.equalIn (d+1) t (.pointer none) v).run P w=.ok b w:=by
 cases v<;>simp[isNil] at h
 rename_i a
 cases a<;>simp at h<;>subst h<;>simp[Op.equalIn,run_underlying hu]
theorem eqN1 {P:Program} {w:World} {t e:TypeId} {d m n:Nat} {v:Value} {b:Bool} (hu:P.underlying t=some (.slice e)) (h:isNil 1 v=some b):
  (Op.equalIn (d+1) t v (.slice none m n)).run P w=.ok b w∧(Op.equalIn (d+1) t (.slice none m n) v).run P w=.ok b w:=by
 cases v<;>simp[isNil] at h
 rename_i a _ _
 cases a<;>simp at h<;>subst h<;>simp[Op.equalIn,run_underlying hu]
theorem eqN2 {P:Program} {w:World} {t:TypeId} {d:Nat} {v:Value} {b:Bool} {ps rs:Array TypeId} {vr:Bool} (hu:P.underlying t=some (.func ps rs vr)) (h:isNil 2 v=some b):
  (Op.equalIn (d+1) t v .nilFunc).run P w=.ok b w∧(Op.equalIn (d+1) t .nilFunc v).run P w=.ok b w:=by
 cases v<;>simp[isNil] at h<;>subst h<;>simp[Op.equalIn,run_underlying hu]
theorem eqN3 {P:Program} {w:World} {t e k:TypeId} {d:Nat} {v:Value} {b:Bool} (hu:P.underlying t=some (.map k e)) (h:isNil 3 v=some b):
  (Op.equalIn (d+1) t v (.map none)).run P w=.ok b w∧(Op.equalIn (d+1) t (.map none) v).run P w=.ok b w:=by
 cases v<;>simp[isNil] at h
 rename_i a
 cases a<;>simp at h<;>subst h<;>simp[Op.equalIn,run_underlying hu]
theorem eqN4 {P:Program} {w:World} {t:TypeId} {d:Nat} {v:Value} {b:Bool} {ms:Array (String×TypeId)} (hu:P.underlying t=some (.interface ms)) (h:isNil 4 v=some b):
  (Op.equalIn (d+1) t v .nilIface).run P w=.ok b w∧(Op.equalIn (d+1) t .nilIface v).run P w=.ok b w:=by
 cases v<;>simp[isNil] at h<;>subst h<;>simp[Op.equalIn,run_underlying hu]
set_option maxHeartbeats 1000000 in
theorem pur_bin {P:Program} {op:BinOp} {t yt:TypeId} {x y:Operand} {f:PF} {xs:List Operand} (hc:compileOp P (.binOp op t x y yt)=some (.pur f xs)) (ρ:Operand→Value) (hρ:∀c,ρ (.const c)=c) {v:Value} (hv:f.val (xs.map ρ)=some v)
  (dst:Option Tmp) (type:TypeId) (pos:String) (after:Array Edge) (guard:Option (Nat×Bool)) (w:World):(execOp ρ ⟨dst,.binOp op t x y yt,type,pos,after,guard⟩).run P w=.ok (.value v) w:=by
 have hbin:∀{op:BinOp} {x y:Operand} {v:Value},PF.val (.bin op) [ρ x,ρ y]=some v→(execOp ρ ⟨dst,.binOp op t x y yt,type,pos,after,guard⟩).run P w=.ok (.value v) w:=by
  intro op x y v hv
  simp only[PF.val] at hv
  simp[execOp,eqGuard_run hv,binV_run hv]
 have hnil:∀{op:BinOp} {kd:Nat} {x y:Operand} {u:TypeDesc},(op=.eql∨op=.neq)→P.underlying t=some u→nilKind u=some kd→nilConst y=some kd→PF.val (.eqn (op==.neq) kd) [ρ x]=some v→
   ((execOp ρ ⟨dst,.binOp op t x y yt,type,pos,after,guard⟩).run P w=.ok (.value v) w) ∧
   ((execOp ρ ⟨dst,.binOp op t y x yt,type,pos,after,guard⟩).run P w=.ok (.value v) w):=by
  intro op kd x y u hop hu hn hy hv
  have hys:(nilConst y).isSome:=by simp[hy]
  have hyy:(kd=0∧ρ y=.pointer none∨(kd=1∧∃a b,ρ y=.slice none a b)∨kd=2∧ρ y=.nilFunc∨kd=3∧ρ y=.map none∨kd=4∧ρ y=.nilIface):=by
   unfold nilConst at hy
   split at hy<;>simp at hy<;>subst hy<;>simp[hρ]
  have hg1:(eqGuard op t x y (ρ x) (ρ y)).run P w=.ok () w:=Zw (fun _ _=>.inr hys) (by intro xs ys h1 h2;rcases hyy with ⟨_,h⟩|⟨_,_,_,h⟩|⟨_,h⟩|⟨_,h⟩|⟨_,h⟩<;>simp[h] at h2)
  have hg2:(eqGuard op t y x (ρ y) (ρ x)).run P w=.ok () w:=Zw (fun _ _=>.inl hys) (by intro xs ys h1 h2;rcases hyy with ⟨_,h⟩|⟨_,_,_,h⟩|⟨_,h⟩|⟨_,h⟩|⟨_,h⟩<;>simp[h] at h1)
  simp only[PF.val,Option.map_eq_some_iff] at hv
  obtain ⟨tt,htt,rfl⟩:=hv
  have hE:(Op.equal t (ρ x) (ρ y)).run P w=.ok tt w∧(Op.equal t (ρ y) (ρ x)).run P w=.ok tt w:=by
   obtain ⟨d,hd⟩:=equal_d
   rw[hd,hd]
   rcases hyy with ⟨rfl,h⟩|⟨rfl,_,_,h⟩|⟨rfl,h⟩|⟨rfl,h⟩|⟨rfl,h⟩<;>cases u<;>simp[nilKind] at hn<;>rw[h]
   ·exact eqN0 hu htt
   ·exact eqN1 hu htt
   ·exact eqN2 hu htt
   ·exact eqN3 hu htt
   ·exact eqN4 hu htt
  have hB:∀op,(op=.eql∨op=.neq)→(binOp op t (ρ x) (ρ y)).run P w=.ok (.bool (if (op==.neq)=true then !tt else tt)) w∧(binOp op t (ρ y) (ρ x)).run P w=.ok (.bool (if (op==.neq)=true then !tt else tt)) w:=by
   intro op hop
   rcases hop with rfl|rfl<;>rcases hyy with ⟨rfl,h⟩|⟨rfl,_,_,h⟩|⟨rfl,h⟩|⟨rfl,h⟩|⟨rfl,h⟩<;>cases hx:ρ x<;>simp[hx,isNil] at htt<;>simp[h,hx] at hE<;>simp[h,hx,binOp,hE]
  simp only[execOp,Sem.run_bind,hg1,hg2,Result.andThen_ok,(hB op hop).1,(hB op hop).2,Sem.run_pure,and_self]
 have heq:(op=.eql∨op=.neq)→(execOp ρ ⟨dst,.binOp op t x y yt,type,pos,after,guard⟩).run P w=.ok (.value v) w:=by
  intro hop
  have hc':(match P.underlying t with
    | some (.int _)|some (.float _)|some (.complex _)|some .string=>some (SOp.pur (.bin op) [x,y])
    | some .bool=>some (.pur (.eqb (op==.neq)) [x,y])
    | some (.struct _)|some (.array _ _)=>
     if P.eqGuardType P.depth t then none else match flat P 40 t,P.info? t with
      | some l,some i=>if i.size=l.length then some (.pur (.eqs (op==.neq) l) [x,y]) else none
      | _,_=>none
    | some u=>match nilKind u with
     | some kd=>if nilConst y=some kd then some (.pur (.eqn (op==.neq) kd) [x]) else if nilConst x=some kd then some (.pur (.eqn (op==.neq) kd) [y]) else none
     | none=>none
    | none=>none)=some (.pur f xs):=by rcases hop with rfl|rfl<;>exact hc
  have hbeq:∀(a b:Value) (r:Bool),(Op.equal t a b).run P w=.ok r w→(∀op,binOp op t a b=(match op with|.eql=>(do pure (.bool (←Op.equal t a b)))|.neq=>(do pure (.bool (!(←Op.equal t a b))))|_=>binOp op t a b)) →
    (binOp op t a b).run P w=.ok (.bool (if (op==.neq)=true then !r else r)) w:=by
   intro a b r h1 h2
   rw[h2]
   rcases hop with rfl|rfl<;>simp[h1]
  have hagg:(if P.eqGuardType P.depth t then none else match flat P 40 t,P.info? t with
       | some l,some i=>if i.size=l.length then some (SOp.pur (.eqs (op==.neq) l) [x,y]) else none
       | _,_=>none)=some (.pur f xs)→(isAgg t).run P w=.ok true w→(execOp ρ ⟨dst,.binOp op t x y yt,type,pos,after,guard⟩).run P w=.ok (.value v) w:=by
   intro h ha
   split at h
   ·cases h
   rename_i hgt
   split at h
   ·rename_i l i hl hi
    split at h
    ·rename_i hs
     simp only[Option.some.injEq,SOp.pur.injEq] at h
     obtain ⟨rfl,rfl⟩:=h
     simp only[List.map_cons,List.map_nil] at hv
     cases hx:ρ x<;>simp only[hx,PF.val] at hv<;>(try cases hv)<;>cases hy:ρ y<;>simp only[hy] at hv<;>(try cases hv)
     split at hv<;>(try cases hv)
     rename_i X Y hsz
     simp only[Option.map_eq_some_iff] at hv
     obtain ⟨r,hr,rfl⟩:=hv
     have h1:=eqs_run (w:=w) hl ha hi hs hsz.1 hsz.2 hr
     have h2:=hbeq (.agg X) (.agg Y) _ h1 (by intro op;cases op<;>rfl)
     have hg:(eqGuard op t x y (.agg X) (.agg Y)).run P w=.ok () w:=Zw (by simp) (by intros;simpa using hgt)
     simp only[execOp,Sem.run_bind,hx,hy,hg,h2,Result.andThen_ok,Sem.run_pure]
    ·cases h
   ·cases h
  have hnils:∀{u:TypeDesc},(match nilKind u with
      | some kd=>if nilConst y=some kd then some (SOp.pur (.eqn (op==.neq) kd) [x]) else if nilConst x=some kd then some (.pur (.eqn (op==.neq) kd) [y]) else none
      | none=>none)=some (.pur f xs)→P.underlying t=some u→(execOp ρ ⟨dst,.binOp op t x y yt,type,pos,after,guard⟩).run P w=.ok (.value v) w:=by
   intro u h hu
   split at h
   ·rename_i kd hk
    split at h
    ·simp only[Option.some.injEq,SOp.pur.injEq] at h
     obtain ⟨rfl,rfl⟩:=h
     exact (hnil hop hu hk ‹_› hv).1
    ·split at h
     ·simp only[Option.some.injEq,SOp.pur.injEq] at h
      obtain ⟨rfl,rfl⟩:=h
      exact (hnil hop hu hk ‹_› hv).2
     ·cases h
   ·cases h
  cases hu:P.underlying t with
  | none=>simp[hu] at hc'
  | some u=>
   rw[hu] at hc'
   cases u with
   | int k=>simp at hc';obtain ⟨rfl,rfl⟩:=hc';exact hbin hv
   | float k=>simp at hc';obtain ⟨rfl,rfl⟩:=hc';exact hbin hv
   | complex k=>simp at hc';obtain ⟨rfl,rfl⟩:=hc';exact hbin hv
   | string=>simp at hc';obtain ⟨rfl,rfl⟩:=hc';exact hbin hv
   | bool=>
    simp at hc';obtain ⟨rfl,rfl⟩:=hc'
    simp only[List.map_cons,List.map_nil] at hv
    cases hx:ρ x<;>simp only[hx,PF.val] at hv<;>(try cases hv)<;>cases hy:ρ y<;>simp only[hy] at hv<;>(try cases hv)
    rename_i a b
    have h1:(Op.equal t (.bool a) (.bool b)).run P w=.ok (a==b) w:=by obtain ⟨d,hd⟩:=equal_d;rw[hd];simp[Op.equalIn,run_underlying hu]
    have h2:=hbeq (.bool a) (.bool b) _ h1 (by intro op;cases op<;>rfl)
    have hg:(eqGuard op t x y (.bool a) (.bool b)).run P w=.ok () w:=Zw (by simp) (by simp)
    have h3:(if (op==.neq)=true then !(a==b) else a==b)=(if (op==.neq)=true then !(a==b) else a==b):=rfl
    simp only[execOp,Sem.run_bind,hx,hy,hg,h2,Result.andThen_ok,Sem.run_pure]
   | struct fs=>exact hagg (by simpa using hc') (by simp[isAgg,run_underlying hu])
   | array n e=>exact hagg (by simpa using hc') (by simp[isAgg,run_underlying hu])
   | pointer e=>exact hnils (by simpa using hc') hu
   | slice e=>exact hnils (by simpa using hc') hu
   | func a b c=>exact hnils (by simpa using hc') hu
   | map a b=>exact hnils (by simpa using hc') hu
   | interface m=>exact hnils (by simpa using hc') hu
   | _=>simp[nilKind] at hc'
 cases op with
 | eql=>exact heq (.inl rfl)
 | neq=>exact heq (.inr rfl)
 | _=>simp[compileOp] at hc;obtain ⟨rfl,rfl⟩:=hc;exact hbin hv
theorem real_run {P:Program} {w:World} {ats:Array TypeId} {ty:TypeId} {k:FloatKind} {a b:Nat}:(Builtin.real_ ats ty #[.complex k a b]).run P w=.ok (.float k a) w:=rfl
theorem imag_run {P:Program} {w:World} {ats:Array TypeId} {ty:TypeId} {k:FloatKind} {a b:Nat}:(Builtin.imag_ ats ty #[.complex k a b]).run P w=.ok (.float k b) w:=rfl
theorem complex_run {P:Program} {w:World} {ats:Array TypeId} {ty:TypeId} {k:FloatKind} {a b:Nat}:(Builtin.complex_ ats ty #[.float k a,.float k b]).run P w=.ok (.complex k a b) w:=by
 show (if k=k then (pure (.complex k a b):Sem Value) else _).run P w=_
 simp
theorem pur_call {P:Program} {c:Call} {f:PF} {xs:List Operand} (hc:compCall P c=some (.pur f xs)) (ρ:Operand→Value) {v:Value} (hv:f.val (xs.map ρ)=some v)
  (dst:Option Tmp) (type:TypeId) (pos:String) (after:Array Edge) (guard:Option (Nat×Bool)) (w:World):(execOp ρ ⟨dst,.call c,type,pos,after,guard⟩).run P w=.ok (.value v) w:=by
 obtain ⟨callee,args,ats⟩:=c
 cases callee with
 | value x=>cases x<;>simp only[compCall] at hc<;>(try (split at hc))<;>simp at hc
 | invoke _ _=>simp[compCall] at hc
 | builtin b=>
  have hargs:∀l,args.toList=l→args=l.toArray:=by intro l h;rw[←h]
  have hats:∀t r,ats.toList=t::r→ats[0]?=some t:=by intro t r h;have:=congrArg (·[0]?) h;simpa using this
  simp only[compCall] at hc
  split at hc
  ·rename_i x t r ha ht
   have e1:=hargs _ ha
   have e2:=hats _ _ ht
   subst e1
   split at hc<;>simp at hc<;>obtain ⟨rfl,rfl⟩:=hc<;>simp only[List.map_cons,List.map_nil] at hv<;>cases hx:ρ x<;>simp only[hx,PF.val] at hv<;>(try cases hv) <;>
    simp[execOp,resolve,invoke,builtin,Builtin.len_,goInt,hx,e2,run_underlying ‹_=some _›]
  ·rename_i x t r ha ht
   have e1:=hargs _ ha
   have e2:=hats _ _ ht
   subst e1
   split at hc<;>simp at hc
   obtain ⟨rfl,rfl⟩:=hc
   simp only[List.map_cons,List.map_nil] at hv
   cases hx:ρ x<;>simp only[hx,PF.val] at hv<;>cases hv
   simp[execOp,resolve,invoke,builtin,Builtin.cap_,goInt,hx,e2,run_underlying ‹_=some _›]
  ·rename_i x r ha
   have e1:=hargs _ ha
   subst e1
   simp at hc
   obtain ⟨rfl,rfl⟩:=hc
   have:=mms_run (P:=P) (w:=w) (mx:=false) _ _ _ (by simpa[PF.val] using hv)
   simp only[Bool.false_eq_true,if_false] at this
   simp[execOp,resolve,invoke,builtin,Builtin.min_,this]
  ·rename_i x r ha
   have e1:=hargs _ ha
   subst e1
   simp at hc
   obtain ⟨rfl,rfl⟩:=hc
   have:=mms_run (P:=P) (w:=w) (mx:=true) _ _ _ (by simpa[PF.val] using hv)
   simp only[if_true] at this
   simp[execOp,resolve,invoke,builtin,Builtin.max_,this]
  ·split at hc<;>simp at hc
  ·rename_i r x ha
   have e1:=hargs _ ha
   subst e1
   simp at hc
   obtain ⟨rfl,rfl⟩:=hc
   simp only[List.map_cons,List.map_nil] at hv
   cases hx:ρ x<;>simp only[hx,PF.val] at hv<;>cases hv
   simp[execOp,resolve,invoke,builtin,real_run,hx]
  ·rename_i r x ha
   have e1:=hargs _ ha
   subst e1
   simp at hc
   obtain ⟨rfl,rfl⟩:=hc
   simp only[List.map_cons,List.map_nil] at hv
   cases hx:ρ x<;>simp only[hx,PF.val] at hv<;>cases hv
   simp[execOp,resolve,invoke,builtin,imag_run,hx]
  ·rename_i r x y ha
   have e1:=hargs _ ha
   subst e1
   simp at hc
   obtain ⟨rfl,rfl⟩:=hc
   simp only[List.map_cons,List.map_nil] at hv
   cases hx:ρ x<;>simp only[hx,PF.val] at hv<;>(try cases hv)<;>cases hy:ρ y<;>simp only[hy] at hv<;>(try cases hv)
   split at hv<;>cases hv
   subst_vars
   simp[execOp,resolve,invoke,builtin,complex_run,hx,hy]
  ·(repeat' (split at hc))<;>simp at hc
  ·cases hc
set_option maxHeartbeats 2000000 in
theorem pur_run {P:Program} {op:Op} {f:PF} {xs:List Operand} (hc:compileOp P op=some (.pur f xs)) (ρ:Operand→Value) (hρ:∀c,ρ (.const c)=c) {v:Value} (hv:f.val (xs.map ρ)=some v)
  (dst:Option Tmp) (type:TypeId) (pos:String) (after:Array Edge) (guard:Option (Nat×Bool)) (w:World):(execOp ρ ⟨dst,op,type,pos,after,guard⟩).run P w=.ok (.value v) w:=by
 cases op with
 | move x=>simp[compileOp] at hc;obtain ⟨rfl,rfl⟩:=hc;simp[PF.val] at hv;simp[execOp,hv]
 | assign x=>simp[compileOp] at hc;obtain ⟨rfl,rfl⟩:=hc;simp[PF.val] at hv;simp[execOp,hv]
 | pick c a b=>
  simp[compileOp] at hc;obtain ⟨rfl,rfl⟩:=hc
  simp only[List.map_cons,List.map_nil] at hv
  unfold PF.val at hv
  split at hv<;>simp_all[execOp,asBool]
 | build t parts=>
  simp only[compileOp] at hc
  split at hc
  ·rename_i i ps hi hps
   split at hc
   ·rename_i z hz
    simp at hc;obtain ⟨rfl,rfl⟩:=hc
    simp only[PF.val,Option.map_eq_some_iff] at hv
    obtain ⟨l,hl,rfl⟩:=hv
    have:=places_fill (w:=w) (parts:=(parts.toList.map fun (i,x)=>(i,ρ x))) hi hz (ps:=ps) (l:=l) (by simpa[Function.comp_def] using hps) (by simpa[Function.comp_def] using hl)
    have e:(parts.toList.map fun (i,x)=>(i,ρ x)).toArray=parts.map fun (i,x)=>(i,ρ x):=by apply Array.ext';simp
    rw[e] at this
    simp[execOp,this]
   ·cases hc
  ·cases hc
 | nilCheck x=>
  simp[compileOp] at hc;obtain ⟨rfl,rfl⟩:=hc
  simp only[List.map_cons,List.map_nil] at hv
  unfold PF.val at hv
  split at hv<;>simp_all[execOp]
  subst hv
  rfl
 | binOp op t x y yt=>exact pur_bin hc ρ hρ hv dst type pos after guard w
 | unOp u t x=>
  cases u<;>simp[compileOp] at hc<;>obtain ⟨rfl,rfl⟩:=hc<;>simp only[List.map_cons,List.map_nil] at hv<;>unfold PF.val at hv<;>split at hv<;>simp_all[execOp,Op.unary,Op.intArith,Op.intBits]
 | convert s t x=>
  simp only[compileOp] at hc
  split at hc<;>(try (split at hc))<;>(try cases hc)<;>simp only[List.map_cons,List.map_nil] at hv<;>unfold PF.val at hv<;>split at hv<;>simp_all[execOp,convert,run_underlying,Conv.intToInt,Conv.intToFloat]
  ·split at hv
   ·split at hv
    ·simp at hv
     subst hv
     simp[Conv.floatToInt, *]
    ·cases hv
   ·cases hv
  ·subst hv;simp
 | makeInterface t x=>
  simp only[compileOp] at hc
  split at hc<;>(try cases hc)
  rename_i u hu hn
  simp[PF.val] at hv
  subst hv
  simp only[execOp,Instr.makeInterface,Sem.run_bind,run_underlying hn,Result.andThen_ok]
  cases u<;>simp_all
 | makeFunc fn first captured=>
  simp[compileOp] at hc;obtain ⟨rfl,rfl⟩:=hc
  simp[PF.val] at hv
  subst hv
  simp[execOp,Instr.makeFunc]
  constructor<;>apply Array.ext'<;>simp
 | slice t x lo hi mx=>
  cases mx with
  | some m=>simp[compileOp] at hc
  | none=>
   simp only[compileOp] at hc
   split at hc
   ·rename_i e hu
    split at hc
    ·rename_i ii hii
     simp at hc;obtain ⟨rfl,rfl⟩:=hc
     have hm:∀o:Option Operand,(o.toList.map ρ)=(o.map ρ).toList:=by intro o;cases o<;>rfl
     have hms:∀o:Option Operand,(o.map ρ).isSome=o.isSome:=by intro o;cases o<;>rfl
     simp only[List.map_cons,List.map_append,hm] at hv
     cases hx:ρ x<;>simp only[hx,PF.val] at hv<;>try cases hv
     simp only[Option.map_eq_some_iff] at hv
     obtain ⟨⟨l,h⟩,hlh,rfl⟩:=hv
     rw[←hms lo,←hms hi] at hlh
     have:=J65 (P:=P) (w:=w) (b:=true) hlh
     have hci:P.cellsOf e=ii.size:=by simp[Program.cellsOf,hii]
     simp[execOp,Instr.sliceAt,Instr.slice,run_underlying hu,hx,this,run_sizeOf w hii,hci]
    ·cases hc
   ·rename_i hu
    simp at hc;obtain ⟨rfl,rfl⟩:=hc
    have hm:∀o:Option Operand,(o.toList.map ρ)=(o.map ρ).toList:=by intro o;cases o<;>rfl
    have hms:∀o:Option Operand,(o.map ρ).isSome=o.isSome:=by intro o;cases o<;>rfl
    simp only[List.map_cons,List.map_append,hm] at hv
    cases hx:ρ x<;>simp only[hx,PF.val] at hv<;>try cases hv
    simp only[Option.map_eq_some_iff] at hv
    obtain ⟨⟨l,h⟩,hlh,rfl⟩:=hv
    rw[←hms lo,←hms hi] at hlh
    have:=J65 (P:=P) (w:=w) (b:=false) hlh
    simp[execOp,Instr.sliceAt,Instr.slice,run_underlying hu,hx,this]
   ·rename_i n e hu
    split at hc
    ·rename_i ii hii
     simp at hc;obtain ⟨rfl,rfl⟩:=hc
     have hm:∀o:Option Operand,(o.toList.map ρ)=(o.map ρ).toList:=by intro o;cases o<;>rfl
     have hms:∀o:Option Operand,(o.map ρ).isSome=o.isSome:=by intro o;cases o<;>rfl
     simp only[List.map_cons,List.map_append,hm] at hv
     cases hx:ρ x<;>simp only[hx,PF.val] at hv<;>try cases hv
     rename_i ad
     cases ad with
     | none=>cases hv
     | some ad=>
      simp only[Option.map_eq_some_iff] at hv
      obtain ⟨⟨l,h⟩,hlh,rfl⟩:=hv
      rw[←hms lo,←hms hi] at hlh
      have:=J65 (P:=P) (w:=w) (b:=false) hlh
      have hci:P.cellsOf e=ii.size:=by simp[Program.cellsOf,hii]
      simp[execOp,Instr.sliceAt,Instr.sureAddr,run_underlying hu,hx,this,run_sizeOf w hii,hci]
    ·cases hc
   ·cases hc
 | fieldAddr s x f=>
  simp only[compileOp] at hc
  split at hc<;>(try cases hc)
  rename_i fs hu
  split at hc<;>(try cases hc)
  rename_i fd hf
  split at hc<;>(try cases hc)
  rename_i i hi
  split at hc<;>(try cases hc)
  simp only[List.map_cons,List.map_nil] at hv
  unfold PF.val at hv
  split at hv<;>simp_all[execOp,Instr.fieldAt,run_underlying hu,Instr.sureAddr,fieldPlace,run_sizeOf w hi,Program.cellsOf]
 | field t x f=>
  simp only[compileOp] at hc
  split at hc<;>(try cases hc)
  rename_i fs hu
  split at hc<;>(try cases hc)
  rename_i fd hf
  simp at hc
  obtain ⟨n,hn,rfl,rfl⟩:=hc
  simp only[List.map_cons,List.map_nil] at hv
  cases hx:ρ x<;>simp[hx,PF.val] at hv
  rename_i cs
  have:=J64 (w:=w) (cs:=cs) hn (v:=v) (by cases n<;>simpa[PF.val] using hv)
  simp[execOp,Instr.field,run_underlying hu,hf,asAgg,hx,this]
 | indexAddr t x i=>
  simp only[compileOp] at hc
  split at hc
  ·rename_i e hu
   simp at hc
   obtain ⟨j,hj,rfl,rfl⟩:=hc
   simp only[List.map_cons,List.map_nil] at hv
   unfold PF.val at hv
   have hcj:P.cellsOf e=j.size:=by simp[Program.cellsOf,hj]
   split at hv<;>simp_all[execOp,Instr.indexAt,run_underlying hu,asIntOf,run_sizeOf w hj]
  ·rename_i n e hu
   simp at hc
   obtain ⟨j,hj,rfl,rfl⟩:=hc
   simp only[List.map_cons,List.map_nil] at hv
   unfold PF.val at hv
   have hcj:P.cellsOf e=j.size:=by simp[Program.cellsOf,hj]
   split at hv<;>simp_all[execOp,Instr.indexAt,run_underlying hu,asIntOf,run_sizeOf w hj,Instr.sureAddr]
  ·cases hc
 | index t x i=>
  simp only[compileOp] at hc
  split at hc
  ·rename_i n e hu
   split at hc
   ·rename_i a j ha hj
    simp at hc
    obtain ⟨rfl,rfl⟩:=hc
    have hcj:P.cellsOf e=j.size:=by simp[Program.cellsOf,hj]
    simp only[List.map_cons,List.map_nil] at hv
    cases hx:ρ x<;>cases a<;>simp only[hx,PF.val] at hv<;>(try cases hv)<;>cases hi:ρ i<;>simp only[hi] at hv<;>(try cases hv)<;>split at hv<;>(try cases hv)
    ·rename_i cs k q hq
     have:=J64 (w:=w) (cs:=cs) ha (v:=v) (off:=q.toNat * j.size) (by simpa[PF.val] using hv)
     simp[execOp,Instr.index,run_underlying hu,asIntOf,hx,hi,hq,run_sizeOf w hj,hcj,this]
    ·rename_i cs m k q hq
     have:=J64 (w:=w) (cs:=cs) ha (off:=q.toNat * j.size) rfl
     simp[execOp,Instr.index,run_underlying hu,asIntOf,hx,hi,hq,run_sizeOf w hj,hcj,this]
   ·cases hc
  ·rename_i hu
   simp at hc
   obtain ⟨rfl,rfl⟩:=hc
   simp only[List.map_cons,List.map_nil] at hv
   cases hx:ρ x<;>simp only[hx,PF.val] at hv<;>(try cases hv)<;>cases hi:ρ i<;>simp only[hi] at hv<;>(try cases hv)<;>split at hv<;>(try cases hv)
   rename_i s k q hq
   simp only[Option.map_eq_some_iff] at hv
   obtain ⟨b,hb,rfl⟩:=hv
   have hb':s[q.toNat]?=some b:=by rw[ba_get];simpa using hb
   simp[execOp,Instr.index,run_underlying hu,asIntOf,hx,hi,hq,hb']
  ·cases hc
 | extract t i=>
  simp[compileOp] at hc;obtain ⟨rfl,rfl⟩:=hc
  simp only[List.map_cons,List.map_nil] at hv
  cases hx:ρ t<;>simp only[hx,PF.val] at hv<;>(try cases hv)
  rename_i vs
  simp only[Array.getElem?_toList] at hv
  simp[execOp,Instr.extract,hx,hv]
 | call c=>exact pur_call hc ρ hv dst type pos after guard w
 | alloc T=>
  cases hi:P.info? T with
  | none=>simp[compileOp,hi] at hc
  | some i=>cases hz:i.zero<;>simp[compileOp,hi,hz] at hc
 | box T x=>simp[compileOp] at hc
 | buildSlice t len parts=>simp only[compileOp] at hc;repeat' (split at hc);all_goals simp at hc
 | load t a=>simp[compileOp] at hc
 | store t a x=>simp only[compileOp] at hc;repeat' (split at hc);all_goals simp at hc
 | makeSlice t l c=>simp[compileOp] at hc
 | makeMap t r=>cases r<;>simp[compileOp] at hc
 | mapUpdate t m k x=>simp only[compileOp] at hc;repeat' (split at hc);all_goals simp at hc
 | insert t m k x=>simp only[compileOp] at hc;repeat' (split at hc);all_goals simp at hc
 | lookup t x i ok=>cases ok<;>simp only[compileOp] at hc<;>(repeat' (split at hc))<;>simp at hc
 | range t x=>simp only[compileOp] at hc;repeat' (split at hc);all_goals simp at hc
 | next x b=>cases b<;>simp[compileOp] at hc
 | _=>simp[compileOp] at hc
theorem cellG_hp (w:World) (b off:Nat):cellG (hp w.heap) b off=w.cell? ⟨b,off,none⟩:=by
 simp only[cellG,hp,World.cell?]
 cases w.heap[b]? with
 | none=>rfl
 | some o=>cases o<;>rfl
theorem cellsG_spec {g:Nat→Option Obj} {b:Nat}:∀{n off:Nat} {l:List Value},cellsG g b off n=some l→l.length=n∧∀j v,l[j]?=some v→cellG g b (off+j)=some v:=by
 intro n
 induction n with
 | zero=>intro off l h;simp[cellsG] at h;subst h;simp
 | succ n ih=>
  intro off l h
  simp only[cellsG] at h
  split at h
  ·cases h
  ·rename_i v hv
   simp only[Option.map_eq_some_iff] at h
   obtain ⟨l',hl',rfl⟩:=h
   obtain ⟨h1,h2⟩:=ih hl'
   refine ⟨by simp[h1],?_⟩
   intro j u hu
   cases j with
   | zero=>simp at hu;subst hu;exact hv
   | succ j=>simp at hu;have:=h2 j u hu;rwa [show off+(j+1)=off+1+j by omega]
theorem QY (b off n:Nat):(⟨b,off,none⟩:Addr).add n=⟨b,off+n,none⟩:=by
 unfold Addr.add
 split<;>simp_all
theorem Z83 {P:Program} {w:World} {b off n:Nat} {l:List Value} (h:cellsG (hp w.heap) b off n=some l):(loadCells ⟨b,off,none⟩ n).run P w=.ok l.toArray w:=by
 obtain ⟨h1,h2⟩:=cellsG_spec h
 rw[←h1]
 exact run_loadCells_list w _ l (fun j v hv=>by rw[QY,←cellG_hp];exact h2 j v hv)
theorem ld_run {P:Program} {w:World} {t:TypeId} {n:Option Nat} {x v:Value} (ha:aggOf P t=some n) (h:ldV n x (hp w.heap)=some v):(Instr.loadAt t x).run P w=.ok v w:=by
 obtain ⟨h1,h2,i,hi⟩:=Jg (w:=w) ha
 unfold ldV at h
 split at h
 ·cases n with
  | none=>
   simp only[cellG_hp] at h
   simp[Instr.loadAt,Instr.sureAddr,loadVar,h1,h]
  | some k=>
   simp only[Option.map_eq_some_iff] at h
   obtain ⟨l,hl,rfl⟩:=h
   simp[Instr.loadAt,Instr.sureAddr,loadVar,h1,run_sizeOf w hi,h2 k rfl,Z83 hl]
 ·cases h
theorem st1_run {P:Program} {w:World} {b off:Nat} {v:Value} {h':Heap} (h:st1 w.heap b off v=some h'):(store ⟨b,off,none⟩ v).run P w=.ok () { w with heap:=h' }:=by
 unfold st1 at h
 split at h
 ·rename_i c E fz hb
  split at h
  ·rename_i hc
   simp only[Option.some.injEq] at h
   subst h
   have hcell:w.cell? ⟨b,off,none⟩=some (c[off]'hc.1):=by simp[World.cell?,hb,hc.1]
   have hfz:w.frozen? ⟨b,off,none⟩=false:=by
    have:=hc.2.1
    simp only[World.frozen?,hb]
    simpa using this
   rw[run_store P w _ v _ hc.2.2,hcell]
   simp only[hfz,Bool.false_eq_true,if_false,Result.ok.injEq,true_and]
   simp only[World.setCell]
   congr 1
   apply Array.ext'
   apply List.ext_getElem?
   intro i
   simp[Array.getElem?_modify]
   by_cases hi:b=i
   ·subst hi
    obtain ⟨hlt,hb2⟩:=Array.getElem?_eq_some_iff.1 hb
    simp[hlt,hb2]
   ·simp[hi]
  ·cases h
 ·cases h
theorem stL_run {P:Program}:∀(vs:List Value) (w:World) (b off i:Nat) (h':Heap),stL w.heap b (off+i) vs=some h'→(storeCells ⟨b,off,none⟩ vs i).run P w=.ok () { w with heap:=h' }:=by
 intro vs
 induction vs with
 | nil=>intro w b off i h' h;simp[stL] at h;subst h;simp[storeCells]
 | cons v vs ih=>
  intro w b off i h' h
  simp only[stL,Option.bind_eq_some_iff] at h
  obtain ⟨h1,e1,e2⟩:=h
  have:=ih { w with heap:=h1 } b off (i+1) h' (by simpa[Nat.add_assoc] using e2)
  simp[storeCells,QY,st1_run e1,this]
theorem rep_get {z:List Value} {k:Nat} (hz:z.length=k) (hk:0 < k):∀(c i:Nat),i < c * k→(rep z c)[i]?=z[i % k]?:=by
 intro c
 induction c with
 | zero=>intro i hi;simp at hi
 | succ c ih=>
  intro i hi
  simp only[rep,List.replicate_succ,List.flatten_cons]
  by_cases h:i < k
  ·rw[List.getElem?_append_left (by omega),Nat.mod_eq_of_lt h]
  ·rw[List.getElem?_append_right (by omega),hz]
   have:=ih (i - k) (by rw[Nat.add_mul] at hi;omega)
   simp only[rep] at this
   rw[this]
   congr 1
   have:i=(i - k)+k:=by omega
   rw[this,Nat.add_mod_right]
   simp
theorem J39 {z:List Value} {k:Nat} (hz:z.length=k) (c:Nat):(rep z c).length=c * k:=by
 simp[rep,hz]
theorem rep_arr {z:Array Value} {k:Nat} (hz:z.size=k) (hk:0 < k) (c n:Nat) (hn:n=c * k):((Array.range n).map (fun i=>z[i % k]!))=(rep z.toList c).toArray:=by
 subst hn
 apply Array.ext'
 apply List.ext_getElem?
 intro i
 by_cases hi:i < c * k
 ·have hm:i % k < z.size:=by rw[hz];exact Nat.mod_lt _ hk
  simp only[Array.toList_map,Array.toList_range,List.getElem?_map]
  rw[rep_get (by simpa using hz) hk c i hi]
  simp[hi,hm]
 ·have h1:(rep z.toList c).length≤i:=by rw[J39 (by simpa using hz)];omega
  rw[List.getElem?_eq_none h1]
  simp
  omega
theorem Jh {P:Program} {t e:TypeId} {i:TypeInfo} {z:List Value} (h:elemInfo P t=some (e,i,z)):
  P.underlying t=some (.slice e)∧P.info? e=some i∧(∃zv,i.zero=some zv∧zv.cells.toList=z∧zv.cells.size=i.size)∧0 < i.size∧P.cellsOf e=i.size:=by
 unfold elemInfo at h
 split at h
 ·rename_i e' hu
  split at h
  ·rename_i i' hi
   split at h
   ·rename_i zv hz
    split at h
    ·rename_i hc
     simp only[Option.some.injEq,Prod.mk.injEq] at h
     obtain ⟨rfl,rfl,rfl⟩:=h
     exact ⟨hu,hi,⟨zv,hz,rfl,hc.1⟩,hc.2,by simp[Program.cellsOf,hi]⟩
    ·cases h
   ·cases h
  ·cases h
 ·cases h
theorem mks_run {P:Program} {w:World} {t e:TypeId} {i:TypeInfo} {z:List Value} {k k':IntKind} {l c:Int} (h:elemInfo P t=some (e,i,z)) (h0:0≤l) (h1:l≤c) (h2:c < 9223372036854775808) (h3:i.bytes * c≤281474976710656):
  (Instr.makeSlice t (.int k l) (.int k' c)).run P w=.ok (.slice (some ⟨w.heap.size,0,none⟩) l.toNat c.toNat) { w with heap:=w.heap.push (.cells (rep z c.toNat).toArray e (0,0)) }:=by
 obtain ⟨hu,hi,⟨zv,hz,rfl,hzs⟩,hp,hc⟩:=Jh h
 have:=run_make (P:=P) w t e i zv hu hi hz k k' l c h0 h1 h3 (by omega)
 rw[this]
 simp only[madeCells,hzs]
 rw[rep_arr hzs hp c.toNat _ rfl]
 rfl
theorem ba_all (s:ByteArray):s.extract 0 s.size=s:=by
 exact ByteArray.extract_zero_size
theorem J66 {P:Program} {w:World} {sz m:Nat} {y:Value} {news:List Value} (h:srcV (hp w.heap) sz y=some (m,news)):
  (Builtin.lenOf y).run P w=.ok m w∧((∃s,y=.string s)→sz=1∨True)∧(Builtin.firstCells sz m y).run P w=.ok news.toArray w:=by
 unfold srcV at h
 split at h
 ·rename_i b off n c
  simp only[Option.map_eq_some_iff,Prod.mk.injEq] at h
  obtain ⟨l,hl,rfl,rfl⟩:=h
  exact ⟨by simp[Builtin.lenOf],fun _=>.inr trivial,by simp[Builtin.firstCells,Z83 hl]⟩
 ·rename_i n c
  simp at h
  obtain ⟨rfl,rfl⟩:=h
  exact ⟨by simp[Builtin.lenOf],fun _=>.inr trivial,by simp[Builtin.firstCells]⟩
 ·rename_i a c _ _
  simp at h
  obtain ⟨rfl,rfl⟩:=h
  refine ⟨by simp[Builtin.lenOf],fun _=>.inr trivial,?_⟩
  cases a<;>simp[Builtin.firstCells,loadCells,loadCellsFrom]
 ·rename_i s
  simp at h
  obtain ⟨rfl,rfl⟩:=h
  refine ⟨by simp[Builtin.lenOf],fun _=>.inr trivial,?_⟩
  simp only[Builtin.firstCells,Sem.run_pure,Result.ok.injEq,and_true,ba_all]
  apply Array.ext'
  simp
 ·cases h
theorem Y4 (w:World) {h:Heap} (hk:KeepD w.heap h):Same w { w with heap:=h }:=⟨rfl,rfl,rfl,hk⟩
theorem J67 {vs:List Value}:∀{h h':Heap} {b off:Nat},stL h b off vs=some h'→KeepD h h':=by
 induction vs with
 | nil=>intro h h' b off e;simp[stL] at e;rw[e];exact .refl _
 | cons v vs ih=>
  intro h h' b off e
  simp only[stL,Option.bind_eq_some_iff] at e
  obtain ⟨h1,e1,e2⟩:=e
  refine KeepD.trans ?_ (ih e2)
  unfold st1 at e1
  split at e1
  ·split at e1
   ·simp at e1;rw[←e1];exact KeepD.set _ ‹_› rfl
   ·cases e1
  ·cases e1
theorem app_run {P:Program} {w:World} {t u:TypeId} {e:TypeId} {i:TypeInfo} {z:List Value} {K:Value→Heap→Prop} {base:Option Addr} {n cap:Nat} {y:Value} {ty:TypeId} (hE:elemInfo P t=some (e,i,z))
  (hu:(∃e',P.underlying u=some (.slice e'))∨P.underlying u=some .string)
  (h:(EF.app e i.size i.bytes z).wp P [.slice base n cap,y] w.heap K):
  ∃v w',(Builtin.append_ #[t,u] ty #[.slice base n cap,y]).run P w=.ok v w'∧K v w'.heap∧Same w w':=by
 obtain ⟨ht,hi,⟨zv,hz,rfl,hzs⟩,hp0,hc⟩:=Jh hE
 obtain ⟨m,news,hsrc,hlen,h⟩:=h
 obtain ⟨h1,_,h2⟩:=J66 (P:=P) hsrc
 by_cases hfit:n+m≤cap
 ·rw[if_pos hfit] at h
  cases base with
  | none=>
   refine ⟨_,w,?_,h,Same.refl w⟩
   rcases hu with ⟨e',hu⟩|hu<;>simp[Builtin.append_,run_underlying ht,run_underlying hu,run_sizeOf w hi,h1,h2,hfit,hc]
  | some a=>
   obtain ⟨b,off,spot⟩:=a
   cases spot with
   | some _=>exact h.elim
   | none=>
    obtain ⟨h',hs,hk⟩:=h
    have:=stL_run (P:=P) news w b (off+n * i.size) 0 h' hs
    refine ⟨_,{ w with heap:=h' },?_,hk,Y4 w (J67 hs)⟩
    rcases hu with ⟨e',hu⟩|hu<;>simp[Builtin.append_,run_underlying ht,run_underlying hu,run_sizeOf w hi,h1,h2,hfit,hc,QY,this]
 ·rw[if_neg hfit] at h
  obtain ⟨h63,hby,olds,ho,hol,hk⟩:=h
  have hfs:=growslice_fits (need:=n+m) (old:=cap) (bytes:=i.bytes) (by omega) hby
  have hcut:=fun tp=>(show n+m≤(Question.appendCap (n+m) cap e).cut tp∧(Question.appendCap (n+m) cap e).cut tp < 9223372036854775808 by
   simp only[Question.cut]
   have:=Nat.mod_lt tp (show 0 < 2 ^ 63 - (n+m) by omega)
   omega)
  obtain ⟨_,_,o2⟩:=J66 (P:=P) (w:=w.drew) ho
  obtain ⟨_,_,y2⟩:=J66 (P:=P) (w:=w.drew) hsrc
  obtain ⟨c1,c2⟩:=hcut (w.tape w.drawn (.appendCap (n+m) cap e))
  refine ⟨_,w.drew.alloc (.cells (olds++news++rep zv.cells.toList ((Question.appendCap (n+m) cap e).cut (w.tape w.drawn (.appendCap (n+m) cap e)) - (n+m))).toArray e (0,0)),?_,hk _ c1 c2,⟨rfl,rfl,rfl,.push _ _⟩⟩
  ·have n1:¬(IntKind.i64.max < ((n:Int)+(m:Int))):=by simp[IntKind.max,IntKind.bits,IntKind.signed];omega
   have n2:¬(2 ^ 48 < Builtin.nextslicecap (n+m) cap * i.bytes):=by simpa using hfs
   have hzc:Builtin.zeroCells zv.cells ((Question.appendCap (n+m) cap e).cut (w.tape w.drawn (.appendCap (n+m) cap e)) - (n+m))=(rep zv.cells.toList ((Question.appendCap (n+m) cap e).cut (w.tape w.drawn (.appendCap (n+m) cap e)) - (n+m))).toArray:=by
    simp only[Builtin.zeroCells]
    exact rep_arr rfl (by omega) _ _ rfl
   have n3:¬(9223372036854775807 < ((n:Int)+(m:Int))):=by omega
   have n4:¬(281474976710656 < Builtin.nextslicecap (n+m) cap * i.bytes):=by omega
   have hq:(Question.appendCap (n+m) cap e).forced=false:=rfl
   rcases hu with ⟨e',hu⟩|hu <;>
    simp[Builtin.append_,run_underlying ht,run_underlying hu,run_sizeOf w hi,h1,hfit,hc,typeInfo,zeroValue,hi,hz,n3,n4,hq,o2,y2,hzc,newRow]
theorem Y42 {P:Program} {w:World} {f:FuncId} {args:Array Value} (h:fnOk P f=true):(callFunc f args).run P w=.ok (.enter f args) w:=by
 unfold fnOk at h
 split at h
 ·rename_i fn hf
  simp only[Bool.and_eq_true,bne_iff_ne,ne_eq] at h
  obtain ⟨h1,h2⟩:=h
  obtain ⟨c,hb⟩:=Option.isSome_iff_exists.1 h2
  simp[callFunc,hf,h1,hb]
 ·cases h
theorem flat_cells {sz:Nat}:∀(vs:List Value),(∀v∈vs,v.cells.size=sz)→(vs.flatMap (·.cells.toList)).length=vs.length * sz:=by
 intro vs
 induction vs with
 | nil=>simp
 | cons v vs ih=>intro h;simp[h v (by simp),ih (fun u hu=>h u (by simp[hu])),Nat.add_mul,Nat.add_comm]
theorem setAt_pre:∀(vs l:List Value) (off:Nat),off+vs.length≤l.length→setAt l off vs=l.take off++vs++l.drop (off+vs.length):=by
 intro vs
 induction vs with
 | nil=>intro l off h;simp[setAt]
 | cons v vs ih=>
  intro l off h
  simp only[List.length_cons] at h
  simp only[setAt,List.length_cons]
  rw[ih _ _ (by simp;omega)]
  have h1:off < l.length:=by omega
  have e1:(l.set off v).take (off+1)=l.take off++[v]:=by
   rw[List.take_set,List.take_succ_eq_append_getElem h1,List.set_append_right _ _ (by simp;omega)]
   simp[Nat.min_eq_left (by omega:off≤l.length)]
  have e2:(l.set off v).drop (off+1+vs.length)=l.drop (off+1+vs.length):=by
   rw[List.drop_set_of_lt (by omega)]
  rw[e1,e2]
  simp[show off+(vs.length+1)=off+1+vs.length by omega]
theorem fill_rows {sz:Nat}:∀(vs:List Value) (k:Nat) (pre rest:List Value),pre.length=k * sz→rest.length=vs.length * sz→(∀v∈vs,v.cells.size=sz) →
  Instr.fill (fun i=>some (i * sz,sz)) (pre++rest).toArray ((List.range' k vs.length).zip vs)=some (pre++vs.flatMap (·.cells.toList)).toArray:=by
 intro vs
 induction vs with
 | nil=>intro k pre rest hp hr h;simp at hr;simp[Instr.fill,hr]
 | cons v vs ih=>
  intro k pre rest hp hr h
  simp only[List.length_cons,List.range'_succ,List.zip_cons_cons,Instr.fill]
  have hv:=h v (by simp)
  simp only[List.length_cons,Nat.add_mul,Nat.one_mul] at hr
  have h1:¬((v.cells.size≠sz||decide (k * sz+v.cells.size > (pre++rest).toArray.size))=true):=by
   simp[hv,hp,hr]
  rw[if_neg h1]
  have:=setAt_eq (k * sz) v.cells.toList 0 (pre++rest)
  rw[←Array.foldl_toList,Array.toList_zipIdx,this]
  rw[setAt_pre _ _ _ (by simp[hv,hp,hr])]
  have e1:(pre++rest).take (k * sz+0)=pre:=by simp[←hp]
  have e2:(pre++rest).drop (k * sz+0+v.cells.toList.length)=rest.drop sz:=by simp[←hp,hv,List.drop_append]
  rw[e1,e2]
  rw[ih (k+1) (pre++v.cells.toList) (rest.drop sz) (by simp[hp,hv,Nat.add_mul]) (by simp[hr]) (fun u hu=>h u (by simp[hu]))]
  simp
theorem bsl_run {P:Program} {w:World} {t e:TypeId} {i:TypeInfo} {z:List Value} {vs:List Value} (hE:elemInfo P t=some (e,i,z)) (hsm:vs.length * i.size≤16777216) (hv:∀v∈vs,v.cells.size=i.size):
  (Instr.buildSlice t vs.length ((List.range vs.length).zip vs).toArray).run P w=.ok (.slice (some ⟨w.heap.size,0,none⟩) vs.length vs.length) { w with heap:=w.heap.push (.cells (vs.flatMap (·.cells.toList)).toArray e (0,0)) }:=by
 obtain ⟨ht,hi,⟨zv,hz,rfl,hzs⟩,hp0,hc⟩:=Jh hE
 have hfill:∀(Z:Array Value),Z.size=vs.length * i.size→Instr.fill (fun j=>some (j * i.size,i.size)) Z ((List.range vs.length).zip vs)=some (vs.flatMap (·.cells.toList)).toArray:=by
  intro Z hZ
  have:=fill_rows (sz:=i.size) vs 0 [] Z.toList (by simp) (by simpa using hZ) hv
  simpa[List.range_eq_range'] using this
 have n1:¬(2 ^ 24 < vs.length * i.size):=by omega
 have n1':¬(16777216 < vs.length * i.size):=by omega
 by_cases h0:vs.length * i.size=0
 ·simp[Instr.buildSlice,run_underlying ht,run_sizeOf w hi,hc,h0,newRow,hfill]
 ·simp[Instr.buildSlice,run_underlying ht,run_sizeOf w hi,hc,h0,n1',zeroValue,typeInfo,hi,hz,newRow,hfill]
end Go.Kx
