/- Own small program logic, part a: values. Pure operations as functions on values, -/
import Derived.WalkKit
import Derived.KernelRfl
import Derived.ChangeKeysEq
namespace Go
theorem oo {P:Prop} (h:P:=by first|exact ⟨[],rfl,rfl⟩|exact ⟨[],rfl⟩):P:=h
theorem oa {P:Prop} (h:P:=by first|exact rfl|exact trivial):P:=h
theorem oe {P:Prop} (h:P:=by first|exact ⟨rfl,trivial⟩|exact trivial):P:=h
theorem oi {P:Prop} (h:P:=by first|exact absurd rfl h1|(simp only[img,hself,hk,Option.bind_some];try (rw[hp _ (by simp)]))):P:=h
theorem om {P:Prop} (h:P:=by first|exact trivial|exact ⟨rfl,rfl⟩|exact rfl):P:=h
theorem oq {P:Prop} (h:P:=by first|exact ⟨[],rfl,true,rfl,by simp⟩|exact ⟨[],true,rfl,by simp⟩):P:=h
theorem ox {P:Prop} (h:P:=by have hp:AV.pureL (l.flatMap aVt)=true:=by { have:=Y12 l;simpa[aVts,AV.pure] using this };rcases ht with rfl|rfl<;>simp[AV.pureL,AV.pure,hp]):P:=h
theorem oy {P:Prop} (h:P:=by simp[QU,QB,QC,QV,Q10,QW,QX,QD,QE,QY,Q11,QZ,Q00,QF,QG,Q01,Q12,Q02,Q03,QH,QI,Q04,Q13,Q05,Cs.setW,Cs.note,Wk.runs,Wk.loops,Wk.goes,Wk.pushes]):P:=h
theorem oz {P:Prop} (h:P:=by push_cast -implicitDefEqProofs (disch:=omega)[hρ]):P:=h
theorem oB {P:Prop} (h:P:=by rw[Gh.cut_T (by simpa[AV.low] using hl)];exact h1):P:=h
theorem oC {P:Prop} (h:P:=by show nd (P (wkAt m.l k).holds)=true;rw[hpo];rfl):P:=h
theorem oD {P:Prop} (h:P:=by push_cast (disch:=omega)[hρ,cellsIx',ex_Ix]):P:=h
theorem oE {P:Prop} (h:P:=by push_cast (disch:=omega)[hρ,cells8,ex_Rg]):P:=h
theorem oF {P:Prop} (h:P:=by push_cast -implicitDefEqProofs[hρ]):P:=h
theorem oG {P:Prop} (h:P:=by intro a ha;simp at ha;subst ha;rfl):P:=h
theorem oI {P:Prop} (h:P:=by exact A3.same rfl rfl rfl rfl):P:=h
theorem oJ {P:Prop} (h:P:=by rw[List.length_take];omega):P:=h
theorem oK {P:Prop} (h:P:=by simpa[AV.pure] using hp):P:=h
theorem oM {P:Prop} (h:P:=by rw[Q19];simpa using h1):P:=h
theorem oN {P:Prop} (h:P:=by simp[AV.pureL,X46,Ql]):P:=h
theorem o5 {P:Prop} (h:P:=by simp[img,h.hk,hd];rfl):P:=h
theorem o6 {P:Prop} (h:P:=by rw[hL];simpa using d):P:=h
theorem o7 {P:Prop} (h:P:=by simp[AV.pureL,Ql]):P:=h
theorem o8 {P:Prop} (h:P:=by dsimp only;omega):P:=h
theorem o9 {P:Prop} (h:P:=by simpa using hc'):P:=h
theorem eo {P:Prop} (h:P:=by simp[img,hself]):P:=h
theorem ei {P:Prop} (h:P:=by simp;try omega):P:=h
theorem eu {P:Prop} (h:P:=by rw[hn'];decide):P:=h
theorem ey {P:Prop} (h:P:=by simpa using h):P:=h
theorem eB {P:Prop} (h:P:=by rw[hs];decide):P:=h
theorem eE {P:Prop} (h:P:=by rw[h1];decide):P:=h
theorem eG {P:Prop} (h:P:=by simp;omega):P:=h
theorem eI {P:Prop} (h:P:=by rw[hs];rfl):P:=h
theorem eJ {P:Prop} (h:P:=by rw[hn];rfl):P:=h
theorem eK {P:Prop} (h:P:=by simp[Qx]):P:=h
theorem eN {P:Prop} (h:P:=by cases e):P:=h
theorem ko {P:Prop} (h:P:=by decide):P:=h
theorem ka {P:Prop} (h:P:=by omega):P:=h
theorem ke {P:Prop} (h:P:=by simp):P:=h
theorem ki {P:Prop} (h:P:=by rfl):P:=h
end Go
namespace Go.Kx
set_option linter.unusedVariables false
set_option linter.unusedSimpArgs false
open Go
abbrev Heap:=Array Obj
abbrev Env:=Nat→Value
def Env.set (ρ:Env) (d:Nat) (v:Value):Env:=fun i=>if i=d then v else ρ i
def Env.put (ρ:Env) (d:Option Nat) (v:Value):Env:=match d with|some d=>ρ.set d v|none=>ρ
def ev (ρ:Env):Operand→Value
 | .tmp t=>ρ t
 | .const v=>v
 | .global g=>.pointer (some ⟨g,0,none⟩)
 | .func f=>.func (.func f) #[] #[]
def cellG (g:Nat→Option Obj) (b off:Nat):Option Value:=
 match g b with
 | some (.cells c _ _)=>c[off]?
 | _=>none
def hp (h:Heap):Nat→Option Obj:=fun b=>h[b]?
def cellsG (g:Nat→Option Obj) (b off:Nat):Nat→Option (List Value)
 | 0=>some []
 | n+1=>match cellG g b off with
  | none=>none
  | some v=>(cellsG g b (off+1) n).map (v::·)
inductive CK where
 | bool|int (k:IntKind)|float (k:FloatKind)|complex (k:FloatKind)|string
 deriving DecidableEq,Repr
inductive PF where
 | mov|pick
 | bin (op:BinOp)
 | eqb (neg:Bool)
 | eqn (neg:Bool) (kd:Nat)
 | eqs (neg:Bool) (l:List CK)
 | not|neg|cpl
 | toInt (k:IntKind)
 | intF (k:FloatKind)
 | fInt (k:IntKind)
 | strId
 | fld (off:Nat) (n:Option Nat)
 | bld (zero:List Value) (places:List (Nat×Nat))
 | len (str:Bool)|cap
 | ixa (sz:Nat)
 | ixaA (n sz:Nat)
 | ixv (n sz:Nat) (agg:Option Nat)
 | ixs
 | fla (off:Nat)
 | nilc
 | slc (sz:Nat) (lo hi:Bool)
 | slcA (n sz:Nat) (lo hi:Bool)
 | sls (lo hi:Bool)
 | minmax (mx:Bool)
 | mkf (fn:Fn) (n:Nat)
 | cpx (k:FloatKind)|re|im
 | ext (i:Nat)
 | mkif (t:TypeId)
 deriving Inhabited
def cmpI (op:BinOp) (x y:Int):Option Bool:=
 match op with
 | .eql=>some (x==y)|.neq=>some (x != y)|.lss=>some (decide (x < y))|.leq=>some (decide (x≤y))
 | .gtr=>some (decide (x > y))|.geq=>some (decide (x≥y))|_=>none
def binI (op:BinOp) (k:IntKind) (x y:Int):Option Value:=
 match op with
 | .add=>some (.int k (k.wrap (x+y)))
 | .sub=>some (.int k (k.wrap (x - y)))
 | .mul=>some (.int k (k.wrap (x * y)))
 | .quo=>if y=0 then none else some (.int k (k.wrap (x.tdiv y)))
 | .rem=>if y=0 then none else some (.int k (x.tmod y))
 | .and=>some (.int k (k.wrap (BitVec.ofInt k.bits x &&& BitVec.ofInt k.bits y).toNat))
 | .or=>some (.int k (k.wrap (BitVec.ofInt k.bits x ||| BitVec.ofInt k.bits y).toNat))
 | .xor=>some (.int k (k.wrap (BitVec.ofInt k.bits x ^^^ BitVec.ofInt k.bits y).toNat))
 | .andNot=>some (.int k (k.wrap (BitVec.ofInt k.bits x &&& ~~~(BitVec.ofInt k.bits y)).toNat))
 | .shl|.shr=>none
 | op=>(cmpI op x y).map .bool
def shI (op:BinOp) (k:IntKind) (x y:Int):Option Value:=
 if y < 0 then none else
 match op with
 | .shl=>some (.int k (k.wrap (x * 2 ^ (min y.toNat k.bits))))
 | .shr=>some (.int k (x.fdiv (2 ^ (min y.toNat k.bits))))
 | _=>none
def binF (op:BinOp) (k:FloatKind) (x y:Nat):Option Value:=
 let c:=k.format.order x y
 match op with
 | .eql=>some (.bool (c==some .eq))
 | .neq=>some (.bool (c != some .eq))
 | .lss=>some (.bool (c==some .lt))
 | .leq=>some (.bool (c==some .lt||c==some .eq))
 | .gtr=>some (.bool (c==some .gt))
 | .geq=>some (.bool (c==some .gt||c==some .eq))
 | .add=>(k.format.add x y).map (.float k)
 | .sub=>(k.format.sub x y).map (.float k)
 | .mul=>(k.format.mul x y).map (.float k)
 | .quo=>(k.format.div x y).map (.float k)
 | _=>none
def binC (op:BinOp) (k:FloatKind) (xr xi yr yi:Nat):Option Value:=
 let c:=(k.format.order xr yr==some .eq)&&(k.format.order xi yi==some .eq)
 match op with
 | .eql=>some (.bool c)
 | .neq=>some (.bool (!c))
 | .add=>match k.format.add xr yr,k.format.add xi yi with|some a,some b=>some (.complex k a b)|_,_=>none
 | .sub=>match k.format.sub xr yr,k.format.sub xi yi with|some a,some b=>some (.complex k a b)|_,_=>none
 | _=>none
def binS (op:BinOp) (x y:ByteArray):Option Value:=
 match op with
 | .add=>if ((x.size+y.size:Nat):Int) > IntKind.i64.max then none else some (.string (x++y))
 | .eql=>some (.bool (x.toList==y.toList))
 | .neq=>some (.bool (!(x.toList==y.toList)))
 | .lss=>some (.bool (Op.bytesLess x.toList y.toList))
 | .leq=>some (.bool (Op.bytesLess x.toList y.toList||x.toList==y.toList))
 | .gtr=>some (.bool (!(Op.bytesLess x.toList y.toList||x.toList==y.toList)))
 | .geq=>some (.bool (!(Op.bytesLess x.toList y.toList)))
 | _=>none
def isSh:BinOp→Bool
 | .shl|.shr=>true
 | _=>false
def binV (op:BinOp) (x y:Value):Option Value:=
 match x,y with
 | .int k a,.int k' b=>if isSh op then shI op k a b else if k=k' then binI op k a b else none
 | .float k a,.float k' b=>if k=k' then binF op k a b else none
 | .complex k a b,.complex k' c d=>if k=k' then binC op k a b c d else none
 | .string a,.string b=>binS op a b
 | _,_=>none
def isNil (kd:Nat) (v:Value):Option Bool:=
 match kd,v with
 | 0,.pointer a=>some a.isNone
 | 1,.slice a _ _=>some a.isNone
 | 2,.nilFunc=>some true
 | 2,.func _ _ _=>some false
 | 3,.map a=>some a.isNone
 | 4,.nilIface=>some true
 | 4,.iface _ _=>some false
 | _,_=>none
def eqC (k:CK) (x y:Value):Option Bool:=
 match k,x,y with
 | .bool,.bool a,.bool b=>some (a==b)
 | .int _,.int j a,.int j' b=>if j=j' then some (a==b) else none
 | .float _,.float j a,.float j' b=>if j=j' then some (Op.floatEq j a b) else none
 | .complex _,.complex j a b,.complex j' c d=>if j=j' then some (Op.floatEq j a c&&Op.floatEq j b d) else none
 | .string,.string a,.string b=>some (a==b)
 | _,_,_=>none
def eqCs:List CK→List Value→List Value→Option Bool
 | [],_,_=>some true
 | k::ks,x::xs,y::ys=>match eqC k x y with
  | some true=>eqCs ks xs ys
  | some false=>some false
  | none=>none
 | _,_,_=>none
def subL (l:List Value) (off n:Nat):List Value:=(l.drop off).take n
def setAt:List Value→Nat→List Value→List Value
 | cs,_,[]=>cs
 | cs,off,v::vs=>setAt (cs.set off v) (off+1) vs
def fillL:List Value→List (Nat×Nat)→List Value→Option (List Value)
 | cs,[],[]=>some cs
 | cs,(off,sz)::ps,v::vs=>if v.cells.size=sz∧off+sz≤cs.length then fillL (setAt cs off v.cells.toList) ps vs else none
 | _,_,_=>none
def bound (y:Nat):Value→Option Nat
 | .int _ i=>if 0≤i∧i≤y then some i.toNat else none
 | _=>none
def loHi (lo hi:Bool) (len cap:Nat) (xs:List Value):Option (Nat×Nat):=
 match lo,hi,xs with
 | false,false,[]=>some (0,len)
 | false,true,[b]=>(bound cap b).map ((0,·))
 | true,false,[a]=>(bound len a).map ((·,len))
 | true,true,[a,b]=>(bound cap b).bind fun h=>(bound h a).map ((·,h))
 | _,_,_=>none
def mm (mx:Bool) (x y:Value):Option Value:=
 match x,y with
 | .int k a,.int _ b=>some (.int k (if mx then (if b > a then b else a) else (if b < a then b else a)))
 | _,_=>none
def mms (mx:Bool):Value→List Value→Option Value
 | x,[]=>some x
 | x,y::ys=>(mm mx x y).bind fun z=>mms mx z ys
def PF.val:PF→List Value→Option Value
 | .mov,[x]=>some x
 | .pick,[.bool c,a,b]=>some (if c then a else b)
 | .bin op,[x,y]=>binV op x y
 | .eqb ng,[.bool a,.bool b]=>some (.bool (if ng then !(a==b) else a==b))
 | .eqn ng kd,[x]=>(isNil kd x).map fun t=>.bool (if ng then !t else t)
 | .eqs ng ks,[.agg xs,.agg ys]=>if xs.size=ks.length∧ys.size=ks.length then (eqCs ks xs.toList ys.toList).map fun t=>.bool (if ng then !t else t) else none
 | .not,[.bool b]=>some (.bool !b)
 | .neg,[.int k n]=>some (.int k (k.wrap (0 - n)))
 | .cpl,[.int k n]=>some (.int k (k.wrap (BitVec.ofInt k.bits (if k.signed then -1 else k.max) ^^^ BitVec.ofInt k.bits n).toNat))
 | .toInt k,[.int _ n]=>some (.int k (k.wrap n))
 | .intF k,[.int _ n]=>some (.float k (k.nearest n))
 | .fInt k,[.float s b]=>match (s.decode b).toInt .zero with
  | some n=>if k.min≤n∧n≤k.max then some (.int k n) else none
  | none=>none
 | .strId,[.string s]=>some (.string s)
 | .fld off none,[.agg cs]=>cs.toList[off]?
 | .fld off (some n),[.agg cs]=>some (.agg (subL cs.toList off n).toArray)
 | .bld z ps,vs=>(fillL z ps vs).map fun l=>.agg l.toArray
 | .len false,[.slice _ n _]=>some (.int .i64 n)
 | .len true,[.string s]=>some (.int .i64 s.size)
 | .cap,[.slice _ _ c]=>some (.int .i64 c)
 | .ixa sz,[.slice (some a) n _,.int _ i]=>if 0≤i∧i < n then some (.pointer (some (a.add (i.toNat * sz)))) else none
 | .ixaA n sz,[.pointer (some a),.int _ i]=>if 0≤i∧i < n then some (.pointer (some (a.add (i.toNat * sz)))) else none
 | .ixv n sz none,[.agg cs,.int _ i]=>if 0≤i∧i < n then cs.toList[i.toNat * sz]? else none
 | .ixv n sz (some m),[.agg cs,.int _ i]=>if 0≤i∧i < n then some (.agg (subL cs.toList (i.toNat * sz) m).toArray) else none
 | .ixs,[.string s,.int _ i]=>if 0≤i then (s.data.toList[i.toNat]?).map fun b=>.int .u8 b.toNat else none
 | .fla off,[.pointer (some a)]=>some (.pointer (some (a.add off)))
 | .nilc,[.pointer (some a)]=>some (.pointer (some a))
 | .slc sz lo hi,.slice a n c::xs=>(loHi lo hi n c xs).map fun (l,h)=>.slice (if c=l then a else a.map (·.add (l * sz))) (h - l) (c - l)
 | .slcA n sz lo hi,.pointer (some a)::xs=>(loHi lo hi n n xs).map fun (l,h)=>.slice (some (if n=l then a else a.add (l * sz))) (h - l) (n - l)
 | .sls lo hi,.string s::xs=>(loHi lo hi s.size s.size xs).map fun (l,h)=>.string (s.extract l h)
 | .minmax mx,x::xs=>mms mx x xs
 | .mkf fn n,xs=>some (.func fn (xs.take n).toArray (xs.drop n).toArray)
 | .cpx _,[.float k a,.float k' b]=>if k=k' then some (.complex k a b) else none
 | .re,[.complex k a _]=>some (.float k a)
 | .im,[.complex k _ b]=>some (.float k b)
 | .ext i,[.tuple vs]=>vs.toList[i]?
 | .mkif t,[x]=>some (.iface t x)
 | _,_=>none
end Go.Kx
namespace Go.Kx
set_option linter.unusedVariables false
set_option linter.unusedSimpArgs false
open Go
def Same (w w':World):Prop:=w'.os=w.os∧w'.tape=w.tape∧w'.output=w.output
theorem Same.refl (w:World):Same w w:=⟨rfl,rfl,rfl⟩
theorem Same.trans {a b c:World} (h:Same a b) (k:Same b c):Same a c:=⟨k.1.trans h.1,k.2.1.trans h.2.1,k.2.2.trans h.2.2⟩
def FnC (P:Program) (f:FuncId) (args:Array Value) (h:Heap) (R:Value→Heap→Prop):Prop:=
 ∀w:World,w.heap=h→Calls P f args w fun e w'=>∃v,e=.returned v∧R v w'.heap∧Same w w'
theorem FnC.mono {P:Program} {f:FuncId} {args:Array Value} {h:Heap} {R R':Value→Heap→Prop} (H:FnC P f args h R) (hr:∀v h',R v h'→R' v h'):FnC P f args h R':=
 fun w hw=>(H w hw).mono fun _ _ ⟨v,e,r,s⟩=>⟨v,e,hr _ _ r,s⟩
inductive EF where
 | new (T:TypeId) (zero:List Value)
 | box (T:TypeId)
 | st (n:Nat)
 | bsl (E:TypeId) (sz:Nat)
 | mks (E:TypeId) (sz bytes:Nat) (zero:List Value)
 | app (E:TypeId) (sz bytes:Nat) (zero:List Value)
 | call (f:FuncId)
 | callv
 | mkm
 | mup (ck:CK)
 | mlk (ck:CK) (z:Value)
 | die
 deriving Inhabited
inductive SOp where
 | pur (f:PF) (xs:List Operand)
 | ld (n:Option Nat) (x:Operand)
 | eff (e:EF) (xs:List Operand)
 deriving Inhabited
def SOp.opds:SOp→List Operand
 | .pur _ xs=>xs
 | .ld _ x=>[x]
 | .eff _ xs=>xs
def ldV (n:Option Nat) (v:Value) (g:Nat→Option Obj):Option Value:=
 match v with
 | .pointer (some ⟨b,off,none⟩)=>match n with
  | none=>cellG g b off
  | some n=>(cellsG g b off n).map fun l=>.agg l.toArray
 | _=>none
def st1 (h:Heap) (b off:Nat) (v:Value):Option Heap:=
 match h[b]? with
 | some (.cells c E fz)=>if off < c.size∧¬(fz.1≤off∧off < fz.2)∧v.oneCell'=true then some (h.setIfInBounds b (.cells (c.setIfInBounds off v) E fz)) else none
 | _=>none
def stL (h:Heap) (b off:Nat):List Value→Option Heap
 | []=>some h
 | v::vs=>(st1 h b off v).bind fun h'=>stL h' b (off+1) vs
def rep (z:List Value) (c:Nat):List Value:=(List.replicate c z).flatten
def srcV (g:Nat→Option Obj) (sz:Nat):Value→Option (Nat×List Value)
 | .slice (some ⟨b,off,none⟩) n _=>(cellsG g b off (n * sz)).map (n,·)
 | .slice none n _=>some (n,[])
 | .slice _ 0 _=>some (0,[])
 | .string s=>some (s.size,s.data.toList.map fun b=>.int .u8 b.toNat)
 | _=>none
def fnOk (P:Program) (f:FuncId):Bool:=
 match P.funcs[f]? with
 | some fn => fn.name != "runtime.NumGoroutine" && fn.body.isSome
 | none=>false
def findV (ck:CK) (k:Value):List MapEntry→Nat→Option (Option (Nat×MapEntry))
 | [],_=>some none
 | e::es,i=>match eqC ck k e.key with
  | some true=>some (some (i,e))
  | some false=>findV ck k es (i+1)
  | none=>none
def EF.wp (P:Program) (e:EF) (vs:List Value) (h:Heap) (K:Value→Heap→Prop):Prop:=
 match e,vs with
 | .new T z,[]=>K (.pointer (some ⟨h.size,0,none⟩)) (h.push (.cells z.toArray T (0,0)))
 | .box T,[v]=>K (.pointer (some ⟨h.size,0,none⟩)) (h.push (.cells v.cells T (0,0)))
 | .st n,[.pointer (some ⟨b,off,none⟩),v]=>v.cells.size=n∧∃h',stL h b off v.cells.toList=some h'∧K undef h'
 | .bsl E sz,vs=>(∀v∈vs,v.cells.size=sz) ∧
   K (.slice (some ⟨h.size,0,none⟩) vs.length vs.length) (h.push (.cells (vs.flatMap (·.cells.toList)).toArray E (0,0)))
 | .mks E _ by_ z,[.int _ l,.int _ c]=>0≤l∧l≤c∧c < 9223372036854775808∧by_ * c≤281474976710656 ∧
   K (.slice (some ⟨h.size,0,none⟩) l.toNat c.toNat) (h.push (.cells (rep z c.toNat).toArray E (0,0)))
 | .app E sz by_ z,[.slice base n cap,y]=>∃m news,srcV (hp h) sz y=some (m,news)∧news.length=m * sz ∧
   if n+m≤cap then
    match base with
    | none=>K (.slice none (n+m) cap) h
    | some ⟨b,off,none⟩=>∃h',stL h b (off+n * sz) news=some h'∧K (.slice base (n+m) cap) h'
    | _=>False
   else n+m≤9223372036854775807∧(n+m) * by_≤140737488355328∧∃olds,srcV (hp h) sz (.slice base n cap)=some (n,olds)∧olds.length=n * sz ∧
    ∀c,n+m≤c→c < 9223372036854775808 →
     K (.slice (some ⟨h.size,0,none⟩) (n+m) c) (h.push (.cells (olds++news++rep z (c - (n+m))).toArray E (0,0)))
 | .call f,vs=>FnC P f vs.toArray h K
 | .callv,.func (.func f) first cap::vs=>fnOk P f=true∧FnC P f (first++vs.toArray++cap) h K
 | .mkm,[]=>K (.map (some h.size)) (h.push (.map #[] 0))
 | .mup ck,[.map (some r),k,v]=>∃en clock,h[r]?=some (.map en clock) ∧
   ((∃i e,findV ck k en.toList 0=some (some (i,e))∧Instr.sameBits 10000 e.key k=true∧K undef (h.setIfInBounds r (.map (en.modify i fun e=>{ e with key:=k,val:=v }) clock))) ∨
    (findV ck k en.toList 0=some none∧K undef (h.setIfInBounds r (.map (en.push { key:=k,val:=v,born:=clock }) (clock+1)))))
 | .mlk ck z,[.map (some r),k]=>∃en clock,h[r]?=some (.map en clock)∧∃q,findV ck k en.toList 0=some q∧K (match q with|some (_,e)=>e.val|none=>z) h
 | _,_=>False
def SOp.wp (P:Program) (s:SOp) (ε:Env) (h:Heap) (K:Value→Heap→Prop):Prop:=
 match s with
 | .pur f xs=>∃v,f.val (xs.map (ev ε))=some v∧K v h
 | .ld n x=>∃v,ldV n (ev ε x) (hp h)=some v∧K v h
 | .eff e xs=>e.wp P (xs.map (ev ε)) h K
def aggOf (P:Program) (t:TypeId):Option (Option Nat):=
 match P.info? t,P.underlying t with
 | some i,some (.struct _)=>some (some i.size)
 | some i,some (.array _ _)=>some (some i.size)
 | some _,some _=>some none
 | _,_=>none
def nilConst:Operand→Option Nat
 | .const (.pointer none)=>some 0
 | .const (.slice none _ _)=>some 1
 | .const .nilFunc=>some 2
 | .const (.map none)=>some 3
 | .const .nilIface=>some 4
 | _=>none
def nilKind:TypeDesc→Option Nat
 | .pointer _=>some 0
 | .slice _=>some 1
 | .func _ _ _=>some 2
 | .map _ _=>some 3
 | .interface _=>some 4
 | _=>none
def ckOf:TypeDesc→Option CK
 | .bool=>some .bool
 | .int k=>some (.int k)
 | .float k=>some (.float k)
 | .complex k=>some (.complex k)
 | .string=>some .string
 | _=>none
def flatFields (fl:TypeId→Option (List CK)) (P:Program):Nat→List Field→Option (List CK)
 | _,[]=>some []
 | off,f::fs=>
  if f.name == "_" || f.offset != off then none else
  match fl f.type,P.info? f.type with
  | some l,some i=>if i.size=l.length then (flatFields fl P (off+l.length) fs).map (l++·) else none
  | _,_=>none
def flat (P:Program):Nat→TypeId→Option (List CK)
 | 0,_=>none
 | d+1,t=>match P.underlying t with
  | some (.struct fs)=>if P.stoodInHeld t then none else flatFields (flat P d) P 0 fs.toList
  | some (.array n e)=>match flat P d e,P.info? e with
   | some l,some i=>if i.size=l.length then some (List.replicate n l).flatten else none
   | _,_=>none
  | some u=>(ckOf u).map ([·])
  | none=>none
def elemInfo (P:Program) (t:TypeId):Option (TypeId×TypeInfo×List Value):=
 match P.underlying t with
 | some (.slice e)=>match P.info? e with
  | some i=>match i.zero with
   | some z=>if z.cells.size=i.size∧0 < i.size then some (e,i,z.cells.toList) else none
   | none=>none
  | none=>none
 | _=>none
def places (P:Program) (t:TypeId) (parts:List Nat):Option (List (Nat×Nat)):=
 match P.underlying t with
 | some (.struct fs)=>(fs.toList.mapM fun f=>(P.info? f.type).map fun i=>(f.offset,i.size)).bind fun pl=>parts.mapM fun i=>pl[i]?
 | some (.array _ e)=>(P.info? e).map fun j=>parts.map fun i=>(i * j.size,j.size)
 | _=>none
def compCall (P:Program) (c:Call):Option SOp:=
 match c.callee with
 | .value (.func f)=>if fnOk P f then some (.eff (.call f) c.args.toList) else none
 | .value x=>some (.eff .callv (x::c.args.toList))
 | .invoke _ _=>none
 | .builtin b=>
  match b,c.args.toList,c.argTypes.toList with
  | .len,[x],t::_=>match P.underlying t with
   | some (.slice _)=>some (.pur (.len false) [x])
   | some .string=>some (.pur (.len true) [x])
   | _=>none
  | .cap,[x],t::_=>match P.underlying t with
   | some (.slice _)=>some (.pur .cap [x])
   | _=>none
  | .min,x::xs,_=>some (.pur (.minmax false) (x::xs))
  | .max,x::xs,_=>some (.pur (.minmax true) (x::xs))
  | .append,[x,y],[t,u]=>match elemInfo P t,P.underlying u with
   | some (e,i,z),some (.slice _)=>some (.eff (.app e i.size i.bytes z) [x,y])
   | some (e,i,z),some .string=>if i.size=1 then some (.eff (.app e i.size i.bytes z) [x,y]) else none
   | _,_=>none
  | .real,[x],_=>some (.pur .re [x])
  | .imag,[x],_=>some (.pur .im [x])
  | .complex,[x,y],_=>some (.pur (.cpx .f64) [x,y])
  | _,_,_=>none
def keyCk (P:Program) (t:TypeId):Option CK:=
 match P.underlying t with
 | some (.int k)=>ckOf (.int k)
 | some (.complex k)=>ckOf (.complex k)
 | some .string=>ckOf .string
 | _=>none
def compileOp (P:Program) (op:Op):Option SOp:=
 match op with
 | .move x|.assign x=>some (.pur .mov [x])
 | .pick c a b=>some (.pur .pick [c,a,b])
 | .alloc T=>match P.info? T with
  | some i=>match i.zero with
   | some z=>some (.eff (.new T z.cells.toList) [])
   | none=>none
  | none=>none
 | .box T x=>some (.eff (.box T) [x])
 | .build t parts=>match P.info? t,places P t (parts.toList.map (·.1)) with
  | some i,some ps=>match i.zero with
   | some z=>some (.pur (.bld z.cells.toList ps) (parts.toList.map (·.2)))
   | none=>none
  | _,_=>none
 | .buildSlice t len parts=>match elemInfo P t with
  | some (e,i,_)=>if parts.toList.map (·.1)=List.range len∧len * i.size≤16777216 then some (.eff (.bsl e i.size) (parts.toList.map (·.2))) else none
  | none=>none
 | .load t a=>(aggOf P t).map fun n=>.ld n a
 | .store t a x=>match P.info? t with
  | some i=>some (.eff (.st i.size) [a,x])
  | none=>none
 | .nilCheck x=>some (.pur .nilc [x])
 | .binOp op t x y _=>
  match op with
  | .eql|.neq=>match P.underlying t with
   | some (.int _)|some (.float _)|some (.complex _)|some .string=>some (.pur (.bin op) [x,y])
   | some .bool=>some (.pur (.eqb (op==.neq)) [x,y])
   | some (.struct _)|some (.array _ _)=>
    if P.eqGuardType P.depth t then none else match flat P 40 t,P.info? t with
     | some l,some i=>if i.size=l.length then some (.pur (.eqs (op==.neq) l) [x,y]) else none
     | _,_=>none
   | some u=>match nilKind u with
    | some kd=>if nilConst y=some kd then some (.pur (.eqn (op==.neq) kd) [x]) else if nilConst x=some kd then some (.pur (.eqn (op==.neq) kd) [y]) else none
    | none=>none
   | none=>none
  | _=>some (.pur (.bin op) [x,y])
 | .unOp u _ x=>match u with
  | .neg=>some (.pur .neg [x])
  | .xor=>some (.pur .cpl [x])
  | .not=>some (.pur .not [x])
  | .plus=>none
 | .convert s t x=>match P.underlying s,P.underlying t with
  | some (.int _),some (.int k)=>some (.pur (.toInt k) [x])
  | some (.int _),some (.float k)=>some (.pur (.intF k) [x])
  | some (.float _),some (.int k)=>some (.pur (.fInt k) [x])
  | some .string,some .string=>some (.pur .strId [x])
  | _,_=>none
 | .makeFunc fn first captured=>some (.pur (.mkf fn first.size) (first.toList++captured.toList))
 | .makeInterface t x=>match P.underlying t with
  | some (.interface _)|none=>none
  | some _=>some (.pur (.mkif t) [x])
 | .makeSlice t l c=>(elemInfo P t).map fun (e,i,z)=>.eff (.mks e i.size i.bytes z) [l,c]
 | .slice t x lo hi none=>match P.underlying t with
  | some (.slice e)=>match P.info? e with
   | some i=>some (.pur (.slc i.size lo.isSome hi.isSome) (x::(lo.toList++hi.toList)))
   | none=>none
  | some .string=>some (.pur (.sls lo.isSome hi.isSome) (x::(lo.toList++hi.toList)))
  | some (.array n e)=>match P.info? e with
   | some i=>some (.pur (.slcA n i.size lo.isSome hi.isSome) (x::(lo.toList++hi.toList)))
   | none=>none
  | _=>none
 | .fieldAddr s x f=>match P.underlying s with
  | some (.struct fs)=>match fs[f]? with
   | some fd=>match P.info? fd.type with
    | some i=>if i.size=0 then none else some (.pur (.fla fd.offset) [x])
    | none=>none
   | none=>none
  | _=>none
 | .field t x f=>match P.underlying t with
  | some (.struct fs)=>match fs[f]? with
   | some fd=>(aggOf P fd.type).map fun n=>.pur (.fld fd.offset n) [x]
   | none=>none
  | _=>none
 | .indexAddr t x i=>match P.underlying t with
  | some (.slice e)=>(P.info? e).map fun j=>.pur (.ixa j.size) [x,i]
  | some (.array n e)=>(P.info? e).map fun j=>.pur (.ixaA n j.size) [x,i]
  | _=>none
 | .index t x i=>match P.underlying t with
  | some (.array n e)=>match aggOf P e,P.info? e with
   | some a,some j=>some (.pur (.ixv n j.size a) [x,i])
   | _,_=>none
  | some .string=>some (.pur .ixs [x,i])
  | _=>none
 | .extract t i=>some (.pur (.ext i) [t])
 | .call c=>compCall P c
 | .makeMap _ none=>some (.eff .mkm [])
 | .mapUpdate t m k x|.insert t m k x=>match P.underlying t with
  | some (.map kt _)=>(keyCk P kt).map fun ck=>.eff (.mup ck) [m,k,x]
  | _=>none
 | .lookup t x i false=>match P.underlying t with
  | some (.map kt et)=>match keyCk P kt,P.info? et with
   | some ck,some j=>j.zero.map fun z=>.eff (.mlk ck z) [x,i]
   | _,_=>none
  | _=>none
 | .panic x=>some (.eff .die [x])
 | _=>none
theorem Y30 {P:Program} {w:World} {op:BinOp} {k:IntKind} {x y:Int} {v:Value} (h:binI op k x y=some v) (ho:op=.quo∨op=.rem):(Op.intDiv op k x y).run P w=.ok v w:=by rcases ho with rfl|rfl<;>simp only[binI] at h<;>split at h<;>simp_all[Op.intDiv]
theorem binI_run {P:Program} {w:World} {op:BinOp} {t:TypeId} {k:IntKind} {x y:Int} {v:Value} (h:binI op k x y=some v):(binOp op t (.int k x) (.int k y)).run P w=.ok v w:=by
 cases op
 case quo=>simpa[binOp] using Y30 h (.inl rfl)
 case rem=>simpa[binOp] using Y30 h (.inr rfl)
 all_goals simp[binI,cmpI] at h<;>(try subst h)<;>simp[binOp,Op.intArith,Op.intBits,Op.intCmp]
theorem shI_run {P:Program} {w:World} {op:BinOp} {t:TypeId} {k k':IntKind} {x y:Int} {v:Value} (hs:isSh op=true) (h:shI op k x y=some v):(binOp op t (.int k x) (.int k' y)).run P w=.ok v w:=by cases op<;>simp[isSh] at hs<;>simp only[shI] at h<;>split at h<;>simp_all[binOp,Op.shift]<;>intro _<;>omega
theorem binF_run {P:Program} {w:World} {op:BinOp} {t:TypeId} {k:FloatKind} {x y:Nat} {v:Value} (h:binF op k x y=some v):(binOp op t (.float k x) (.float k y)).run P w=.ok v w:=by cases op<;>simp[binF] at h<;>(try subst h)<;>(try (obtain ⟨r,hr,rfl⟩:=h))<;>simp[binOp,Op.floatCmp,Op.floatArith, *]
theorem binC_run {P:Program} {w:World} {op:BinOp} {t:TypeId} {k:FloatKind} {a b c d:Nat} {v:Value} (h:binC op k a b c d=some v):(binOp op t (.complex k a b) (.complex k c d)).run P w=.ok v w:=by
 cases op<;>simp[binC] at h<;>(try subst h)<;>(try (split at h))<;>(try cases h)<;>simp[binOp,Op.complexOp,Op.Complex.cmp,Op.Complex.arith,Op.floatCmp,Op.floatArith,asBool, *]
 all_goals simp[*,asBool]
theorem binS_run {P:Program} {w:World} {op:BinOp} {t:TypeId} {x y:ByteArray} {v:Value} (h:binS op x y=some v):(binOp op t (.string x) (.string y)).run P w=.ok v w:=by cases op<;>simp only[binS] at h<;>(try cases h)<;>(try (split at h))<;>(try cases h)<;>simp_all[binOp,Op.stringOp]
theorem binV_run {P:Program} {w:World} {op:BinOp} {t:TypeId} {a b:Value} {v:Value} (h:binV op a b=some v):(binOp op t a b).run P w=.ok v w:=by
 unfold binV at h;split at h
 ·split at h
  ·exact shI_run ‹_› h
  ·split at h
   ·subst_vars;exact binI_run h
   ·cases h
 ·split at h
  ·subst_vars;exact binF_run h
  ·cases h
 ·split at h
  ·subst_vars;exact binC_run h
  ·cases h
 ·exact binS_run h
 ·cases h
theorem eqGuard_run {P:Program} {w:World} {op:BinOp} {t:TypeId} {x y:Operand} {a b v:Value} (h:binV op a b=some v):(eqGuard op t x y a b).run P w=.ok () w:=by unfold binV at h;split at h<;>first|(cases h;done)|(cases op<;>rfl)
theorem Zu {P:Program} {w:World} {op:BinOp} {t:TypeId} {x y:Operand} {a b:Value} (h1:(a=.nilIface→b=.nilIface→(nilConst x).isSome∨(nilConst y).isSome))
  (h2:∀xs ys,a=.agg xs→b=.agg ys→P.eqGuardType P.depth t=false):(eqGuard op t x y a b).run P w=.ok () w:=by
 have key:∀(a b:Value) (h1:(a=.nilIface→b=.nilIface→(nilConst x).isSome∨(nilConst y).isSome)) (h2:∀xs ys,a=.agg xs→b=.agg ys→P.eqGuardType P.depth t=false),
   (eqGuard .eql t x y a b).run P w=.ok () w∧(eqGuard .neq t x y a b).run P w=.ok () w:=by
  intro a b h1 h2;cases a<;>cases b<;>first|exact ⟨rfl,rfl⟩|skip
  ·rcases h1 rfl rfl with h1|h1
   ·cases x<;>simp[nilConst] at h1
    simp[eqGuard]
   ·cases y<;>simp[nilConst] at h1
    simp[eqGuard]
  ·have:=h2 _ _ rfl rfl;simp[eqGuard,this]
 cases op<;>first|exact (key a b h1 h2).1|exact (key a b h1 h2).2|rfl
theorem eqC_run {P:Program} {w:World} {t:TypeId} {u:TypeDesc} {k:CK} {x y:Value} {b:Bool} (hu:P.underlying t=some u) (hk:ckOf u=some k) (h:eqC k x y=some b) (D:Nat):
  (Op.equalIn (D+1) t x y).run P w=.ok b w:=by
 cases u<;>simp[ckOf] at hk<;>subst hk<;>cases x<;>simp[eqC] at h<;>cases y<;>simp[eqC] at h <;>
  (try obtain ⟨rfl,rfl⟩:=h)<;>simp[Op.equalIn,run_underlying hu, *]
theorem Yi (l1 l2:List CK):∀(xs ys:List Value) (b:Bool),eqCs (l1++l2) xs ys=some b →
  ∃b1,eqCs l1 xs ys=some b1∧(b1=false→b=false)∧(b1=true→eqCs l2 (xs.drop l1.length) (ys.drop l1.length)=some b):=by
 induction l1 with
 | nil=>intro xs ys b h;exact ⟨true,by simp[eqCs],by simp,fun _=>by simpa using h⟩
 | cons k ks ih=>
  intro xs ys b h;cases xs<;>cases ys<;>simp only[List.cons_append,eqCs] at h<;>try cases h
  rename_i x xs y ys
  cases hk:eqC k x y with
  | none=>simp[hk] at h
  | some r=>
   cases r
   ·simp[hk] at h;exact ⟨false,by simp[eqCs,hk],by simp[h],by simp⟩
   ·simp only[hk] at h;obtain ⟨b1,h1,h2,h3⟩:=ih xs ys b h;exact ⟨b1,by simp[eqCs,hk,h1],h2,by simpa using h3⟩
theorem eqCs_take (l:List CK):∀(n:Nat) (xs ys:List Value) (b:Bool),l.length≤n→eqCs l xs ys=some b→eqCs l (xs.take n) (ys.take n)=some b:=by
 induction l with
 | nil=>intro n xs ys b _ h;simpa[eqCs] using h
 | cons k ks ih=>
  intro n xs ys b hn h
  cases n with
  | zero=>simp at hn
  | succ n=>
   cases xs<;>cases ys<;>simp only[eqCs] at h<;>try cases h
   rename_i x xs y ys;simp only[List.take_succ_cons,eqCs]
   cases hk:eqC k x y with
   | none=>simp[hk] at h
   | some r=>
    cases r
    ·simpa[hk] using h
    ·simp only[hk] at h ⊢;exact ih n xs ys b (by simpa using hn) h
def cmpAt (P:Program) (D:Nat) (t:TypeId) (xs ys:Array Value) (off:Nat):Sem Bool:=do
 let a ←part t xs off
 let b ←part t ys off
 Op.equalIn D t a b
theorem flat_eq (P:Program):∀(d:Nat) (t:TypeId) (l:List CK),flat P d t=some l→∀(i:TypeInfo),P.info? t=some i→i.size=l.length→∀(D:Nat),d≤D→∀(w:World) (xs ys:Array Value) (off:Nat) (b:Bool),
  eqCs l (xs.toList.drop off) (ys.toList.drop off)=some b→(cmpAt P D t xs ys off).run P w=.ok b w
 | 0,t,l,h=>by simp[flat] at h
 | d+1,t,l,h=>by
  intro i hi hsz D hD w xs ys off b hb;obtain ⟨D,rfl⟩:∃D',D=D'+1:=⟨D - 1,by omega⟩;have hcells:P.cellsOf t=l.length:=by simp[Program.cellsOf,hi,hsz]
  unfold flat at h
  cases hu:P.underlying t with
  | none=>simp[hu] at h
  | some u=>
   simp only[hu] at h
   cases u with
   | struct fs=>
    simp only at h;split at h
    ·cases h
    rename_i hst;have hagg:(isAgg t).run P w=.ok true w:=by simp[isAgg,run_underlying hu]
    have hin:∀(fl:List Field) (o:Nat) (l':List CK) (w:World) (X Y:Array Value),flatFields (flat P d) P o fl=some l'→∀b,eqCs l' (X.toList.drop o) (Y.toList.drop o)=some b→(Op.eqFields D X Y fl).run P w=.ok b w:=by
     intro fl
     induction fl with
     | nil=>intro o l' w X Y hf b hb;simp[flatFields] at hf;subst hf;simp[eqCs] at hb;subst hb;simp[Op.eqFields]
     | cons f fl ih=>
      intro o l' w X Y hf b hb;unfold flatFields at hf;split at hf
      ·cases hf
      rename_i hno;simp only[Bool.or_eq_true,beq_iff_eq,bne_iff_ne,ne_eq,not_or,Decidable.not_not] at hno;obtain ⟨hn,ho⟩:=hno;split at hf
      ·rename_i lf jf hlf hjf;split at hf
       ·rename_i hjs;simp only[Option.map_eq_some_iff] at hf;obtain ⟨l2,hl2,rfl⟩:=hf;obtain ⟨b1,e1,e2,e3⟩:=Yi _ _ _ _ _ hb;have hone:=flat_eq P d f.type lf hlf jf hjf hjs D ka w X Y o b1 e1;simp only[cmpAt,Sem.run_bind] at hone;simp only[Op.eqFields,hn,ne_eq,not_false_eq_true,if_true,Sem.run_bind,ho];revert hone;generalize (part f.type X o).run P w=r1
        cases r1 with
        | halt x w1=>simp[Result.andThen]
        | ok a w1=>
         simp only[Result.andThen_ok];generalize (part f.type Y o).run P w1=r2
         cases r2 with
         | halt x w2=>simp[Result.andThen]
         | ok a2 w2=>
          simp only[Result.andThen_ok];intro hone;rw[hone];cases b1
          ·simp[e2 rfl]
          ·simp only[Result.andThen_ok,Bool.not_true,Bool.false_eq_true,if_false];exact ih _ l2 w X Y hl2 b (by have:=e3 rfl;simpa[List.drop_drop] using this)
       ·cases hf
      ·cases hf
    have hpart:∀(X:Array Value),(part t X off).run P w=.ok (.agg (X.extract off (off+l.length))) w:=by intro X;simp[part,hagg,run_sizeOf w hi,hcells]
    simp only[cmpAt,Sem.run_bind,hpart,Result.andThen_ok];have hfo:P.fieldsOf t=fs:=by simp[Program.fieldsOf,hu]
    have:=run_equalIn_struct (P:=P) w D (t:=t) (xs.extract off (off+l.length)) (ys.extract off (off+l.length)) (by rw[hfo];exact hu) (by simpa using hst);rw[this,hfo];refine hin _ 0 l w _ _ h b ?_;have:=eqCs_take l l.length _ _ b (Nat.le_refl _) hb;simpa[Array.toList_extract,List.extract_eq_take_drop] using this
   | array n e=>
    simp only at h;split at h
    ·rename_i le je hle hje;split at h
     ·rename_i hjs;simp only[Option.some.injEq] at h;subst h;have hagg:(isAgg t).run P w=.ok true w:=by simp[isAgg,run_underlying hu]
      have hce:P.cellsOf e=le.length:=by simp[Program.cellsOf,hje,hjs]
      have hin:∀(m k:Nat) (w:World) (X Y:Array Value) (b:Bool),eqCs (List.replicate m le).flatten (X.toList.drop (k * le.length)) (Y.toList.drop (k * le.length))=some b →
        (Op.eqItems D e le.length X Y (List.range' k m)).run P w=.ok b w:=by
       intro m
       induction m with
       | zero=>intro k w X Y b hb;simp[eqCs] at hb;subst hb;simp[Op.eqItems]
       | succ m ih=>
        intro k w X Y b hb;rw[List.replicate_succ,List.flatten_cons] at hb;obtain ⟨b1,e1,e2,e3⟩:=Yi _ _ _ _ _ hb;have hone:=flat_eq P d e le hle je hje hjs D ka w X Y (k * le.length) b1 e1;simp only[cmpAt,Sem.run_bind] at hone;simp only[List.range'_succ,Op.eqItems,Sem.run_bind];revert hone;generalize (part e X (k * le.length)).run P w=r1
        cases r1 with
        | halt x w1=>simp[Result.andThen]
        | ok a w1=>
         simp only[Result.andThen_ok];generalize (part e Y (k * le.length)).run P w1=r2
         cases r2 with
         | halt x w2=>simp[Result.andThen]
         | ok a2 w2=>
          simp only[Result.andThen_ok];intro hone;rw[hone];cases b1
          ·simp[e2 rfl]
          ·simp only[Result.andThen_ok,Bool.not_true,Bool.false_eq_true,if_false];exact ih (k+1) w X Y b (by have:=e3 rfl;simpa[List.drop_drop,Nat.add_mul,Nat.add_comm] using this)
      have hpart:∀(X:Array Value),(part t X off).run P w=.ok (.agg (X.extract off (off+(List.replicate n le).flatten.length))) w:=by intro X;simp[part,hagg,run_sizeOf w hi,hcells]
      simp only[cmpAt,Sem.run_bind,hpart,Result.andThen_ok];rw[run_equalIn_array (P:=P) w D (t:=t) _ _ hu hje,hce,List.range_eq_range'];refine hin n 0 w _ _ b ?_;have:=eqCs_take _ _ _ _ b (Nat.le_refl _) hb;simpa[Array.toList_extract,List.extract_eq_take_drop] using this
     ·cases h
    ·cases h
   | _=>
    obtain ⟨k,hk,rfl⟩:=Option.map_eq_some_iff.1 h
    ·cases hx:xs.toList.drop off with
     | nil=>simp[hx,eqCs] at hb
     | cons x xr=>
      cases hy:ys.toList.drop off with
      | nil=>simp[hx,hy,eqCs] at hb
      | cons y yr=>
       have hx0:xs[off]?=some x:=by have:=congrArg (·[0]?) hx;simpa using this
       have hy0:ys[off]?=some y:=by have:=congrArg (·[0]?) hy;simpa using this
       have hbb:eqC k x y=some b:=by
        simp only[hx,hy,eqCs] at hb;revert hb
        cases hq:eqC k x y with
        | none=>simp
        | some r=>cases r<;>simp
       simp only[cmpAt,part,isAgg,run_underlying hu,Sem.run_bind,Result.andThen_ok,Sem.run_pure,Sem.run_ite,Bool.false_eq_true,if_false,hx0,hy0];exact eqC_run hu hk hbb D
theorem eqs_run {P:Program} {w:World} {t:TypeId} {l:List CK} {xs ys:Array Value} {b:Bool} (hl:flat P 40 t=some l) (ha:(isAgg t).run P w=.ok true w)
  {i:TypeInfo} (hi:P.info? t=some i) (hs:i.size=l.length) (hx:xs.size=l.length) (hy:ys.size=l.length)
  (hb:eqCs l xs.toList ys.toList=some b):(Op.equal t (.agg xs) (.agg ys)).run P w=.ok b w:=by
 have hc:P.cellsOf t=l.length:=by simp[Program.cellsOf,hi,hs]
 have h:=flat_eq P 40 t l hl i hi hs Op.maxDepth ko w xs ys 0 b (by simpa using hb);have e1:xs.extract 0 l.length=xs:=by rw[←hx];simp
 have e2:ys.extract 0 l.length=ys:=by rw[←hy];simp
 simpa[cmpAt,part,ha,run_sizeOf w hi,hc,e1,e2,Op.equal] using h
end Go.Kx
