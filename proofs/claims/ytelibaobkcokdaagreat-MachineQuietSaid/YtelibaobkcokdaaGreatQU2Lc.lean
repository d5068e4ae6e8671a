/- Annotated values, part a: a value with what it reads as; what a heap holds of it. Annotated values, part 0: what is known of package-level variables (here nothing). Annotated values, part b: the state: objects and tails; how heaps bear it, and keep bearing it. Annotated values, part c: pure operations and loads on annotated values. Annotated values, part d: what is frozen reads as what it holds; new blocks, stores, appends. Annotated values, part e: effects, statements, code and functions on annotated values; that they tell the truth. -/
import Derived.Test.YtelibaobkcokdaaGreatQU2Lb
namespace Go.Kx
set_option linter.unusedVariables false
set_option linter.unusedSimpArgs false
open Go
inductive Tok where
 | none|nil|full|id (i ver sz:Nat)
 deriving DecidableEq,Inhabited,Repr
inductive AV where
 | v (x:Value)
 | agg (xs:List AV)
 | tup (xs:List AV)
 | sl (n:Nat) (cs:List AV) (t:Tok)
 | ep (cs:List AV)
 | ref (i ver off:Nat)
 | ms (i ver off n sz:Nat)
 | fn (f:Fn) (k:Nat) (xs:List AV)
 | ifc (t:TypeId) (x:AV)
 | mp (i:Nat)
 deriving Inhabited
structure Loc where
 b:Nat
 off:Nat
 cap:Nat
 n:Nat
 e:Nat
 lim:Nat
 isnil:Bool
def Loc.has (l:Loc) (b o:Nat):Prop:=l.isnil=false∧b=l.b∧l.e≤o∧o < l.lim
structure Gh where
 g:Nat→Nat→Option Value
 T:Nat→Nat→Option Loc
structure Gh.le (base:Nat) (G G':Gh):Prop where
 g:∀b o u,G.g b o=some u→G'.g b o=some u
 T:∀i w l,G.T i w=some l→G'.T i w=some l
 old:∀b o,b < base→G'.g b o=G.g b o
theorem Gh.le.refl (n:Nat) (G:Gh):Gh.le n G G:=⟨fun _ _ _ h=>h,fun _ _ _ h=>h,fun _ _ _=>rfl⟩
theorem Gh.le.trans {n:Nat} {A B C:Gh} (h:Gh.le n A B) (k:Gh.le n B C):Gh.le n A C:=
 ⟨fun b o u e=>k.g b o u (h.g b o u e),fun i w l e=>k.T i w l (h.T i w l e),fun b o hb=>(k.old b o hb).trans (h.old b o hb)⟩
theorem Gh.le.weaken {n m:Nat} {A B:Gh} (h:Gh.le n A B) (hm:m≤n):Gh.le m A B:=⟨h.g,h.T,fun b o hb=>h.old b o (by omega)⟩
def SlAt (G:Gh) (n:Nat) (vs:List Value) (a:Option Addr):Prop:=
 (n=0∧vs=[])∨∃b off,a=some ⟨b,off,none⟩∧∀i u,vs[i]?=some u→G.g b (off+i)=some u
def TokAt (G:Gh) (n len:Nat) (a:Option Addr) (cap:Nat):Tok→Prop
 | .none=>True
 | .nil=>n=0∧a=none∧cap=0
 | .full=>n=cap∧∃b off,a=some ⟨b,off,none⟩
 | .id i ver sz=>∃l,G.T i ver=some l∧l.n=n∧l.e=l.off+len∧l.cap=cap∧l.lim=l.off+cap * sz∧(if l.isnil then a=none∧n=0∧cap=0 else a=some ⟨l.b,l.off,none⟩)
inductive RelV (G:Gh):AV→Value→Prop
 | v (x:Value):RelV G (.v x) x
 | agg (xs:List AV) (vs:List Value):vs.length=xs.length→(∀(i:Nat) (a:AV) (u:Value),xs[i]?=some a→vs[i]?=some u→RelV G a u)→RelV G (.agg xs) (.agg vs.toArray)
 | tup (xs:List AV) (vs:List Value):vs.length=xs.length→(∀(i:Nat) (a:AV) (u:Value),xs[i]?=some a→vs[i]?=some u→RelV G a u)→RelV G (.tup xs) (.tuple vs.toArray)
 | sl (n:Nat) (cs:List AV) (t:Tok) (a:Option Addr) (cap:Nat) (vs:List Value):vs.length=cs.length→(∀(i:Nat) (a:AV) (u:Value),cs[i]?=some a→vs[i]?=some u→RelV G a u) →
   n≤cap→cap≤9223372036854775807→SlAt G n vs a→TokAt G n cs.length a cap t→RelV G (.sl n cs t) (.slice a n cap)
 | ep (cs:List AV) (vs:List Value) (b off:Nat):vs.length=cs.length→(∀(i:Nat) (a:AV) (u:Value),cs[i]?=some a→vs[i]?=some u→RelV G a u) →
   (∀i u,vs[i]?=some u→G.g b (off+i)=some u)→RelV G (.ep cs) (.pointer (some ⟨b,off,none⟩))
 | ref (i ver off:Nat) (l:Loc):G.T i ver=some l→l.isnil=false→RelV G (.ref i ver off) (.pointer (some ⟨l.b,l.off+off,none⟩))
 | ms (i ver off n sz:Nat) (l:Loc) (cap:Nat):G.T i ver=some l→l.isnil=false→n≤cap→cap≤9223372036854775807→l.off+off+cap * sz=l.lim →
   RelV G (.ms i ver off n sz) (.slice (some ⟨l.b,l.off+off,none⟩) n cap)
 | fn (f:Fn) (k:Nat) (xs:List AV) (vs:List Value):vs.length=xs.length→(∀(i:Nat) (a:AV) (u:Value),xs[i]?=some a→vs[i]?=some u→RelV G a u) →
   RelV G (.fn f k xs) (.func f (vs.take k).toArray (vs.drop k).toArray)
 | ifc (t:TypeId) (x:AV) (u:Value):RelV G x u→RelV G (.ifc t x) (.iface t u)
 | mp (i:Nat) (l:Loc):G.T i 0=some l→l.isnil=false→RelV G (.mp i) (.map (some l.b))
def RelL (G:Gh) (xs:List AV) (vs:List Value):Prop:=vs.length=xs.length∧∀(i:Nat) (a:AV) (u:Value),xs[i]?=some a→vs[i]?=some u→RelV G a u
theorem TokAt.mono {G G':Gh} (hT:∀i w l,G.T i w=some l→G'.T i w=some l) {n len:Nat} {a:Option Addr} {cap:Nat} {t:Tok} (h:TokAt G n len a cap t):TokAt G' n len a cap t:=by
 cases t with
 | id i ver sz=>obtain ⟨l,h1,h2⟩:=h;exact ⟨l,hT _ _ _ h1,h2⟩
 | _=>exact h
theorem SlAt.mono {G G':Gh} (hg:∀b o u,G.g b o=some u→G'.g b o=some u) {n:Nat} {vs:List Value} {a:Option Addr} (h:SlAt G n vs a):SlAt G' n vs a:=by
 rcases h with h|⟨b,off,h1,h2⟩
 ·exact .inl h
 ·exact .inr ⟨b,off,h1,fun i u hu=>hg _ _ _ (h2 i u hu)⟩
theorem RelV.mono' {G G':Gh} (hg:∀b o u,G.g b o=some u→G'.g b o=some u) (hT:∀i w l,G.T i w=some l→G'.T i w=some l) {a:AV} {u:Value} (h:RelV G a u):RelV G' a u:=by
 induction h with
 | v x=>exact .v x
 | agg xs vs h1 h2 ih=>exact .agg xs vs h1 ih
 | tup xs vs h1 h2 ih=>exact .tup xs vs h1 ih
 | sl n cs t a cap vs h1 h2 h3 h4 h5 h6 ih=>exact .sl n cs t a cap vs h1 ih h3 h4 (h5.mono hg) (h6.mono hT)
 | ep cs vs b off h1 h2 h3 ih=>exact .ep cs vs b off h1 ih fun i u hu=>hg _ _ _ (h3 i u hu)
 | ref i ver off l h1 h2=>exact .ref i ver off l (hT _ _ _ h1) h2
 | ms i ver off n sz l cap h1 h2 h3 h4 h5=>exact .ms i ver off n sz l cap (hT _ _ _ h1) h2 h3 h4 h5
 | fn f k xs vs h1 h2 ih=>exact .fn f k xs vs h1 ih
 | ifc t x u h ih=>exact .ifc t x u ih
 | mp i l h1 h2=>exact .mp i l (hT _ _ _ h1) h2
theorem RelV.mono {n:Nat} {G G':Gh} (h:Gh.le n G G') {a:AV} {u:Value} (H:RelV G a u):RelV G' a u:=H.mono' h.g h.T
theorem RelL.mono {n:Nat} {G G':Gh} (h:Gh.le n G G') {xs:List AV} {vs:List Value} (H:RelL G xs vs):RelL G' xs vs:=⟨H.1,fun i a u ha hu=>(H.2 i a u ha hu).mono h⟩
theorem RelL.nil (G:Gh):RelL G [] []:=⟨rfl,fun i a u h=>by simp at h⟩
theorem RelL.cons {G:Gh} {a:AV} {u:Value} {xs:List AV} {vs:List Value} (h:RelV G a u) (H:RelL G xs vs):RelL G (a::xs) (u::vs):=by
 refine ⟨by simp[H.1],fun i b w hb hw=>?_⟩
 cases i with
 | zero=>simp at hb hw;subst hb;subst hw;exact h
 | succ i=>exact H.2 i b w (by simpa using hb) (by simpa using hw)
theorem RelL.nil_inv {G:Gh} {vs:List Value} (H:RelL G [] vs):vs=[]:=List.eq_nil_of_length_eq_zero (by simpa using H.1)
theorem RelL.cons_inv {G:Gh} {a:AV} {xs:List AV} {vs:List Value} (H:RelL G (a::xs) vs):∃u us,vs=u::us∧RelV G a u∧RelL G xs us:=by
 cases vs with
 | nil=>have:=H.1;simp at this
 | cons u us=>
  refine ⟨u,us,rfl,H.2 0 _ _ rfl rfl,by simpa using H.1,fun i b w hb hw=>H.2 (i+1) b w (by simpa using hb) (by simpa using hw)⟩
theorem RelL.append {G:Gh} {xs ys:List AV} {vs ws:List Value} (H:RelL G xs vs) (K:RelL G ys ws):RelL G (xs++ys) (vs++ws):=by
 refine ⟨by simp[H.1,K.1],fun i a u ha hu=>?_⟩
 by_cases hi:i < xs.length
 ·rw[List.getElem?_append_left hi] at ha
  rw[List.getElem?_append_left (by rw[H.1];exact hi)] at hu
  exact H.2 i a u ha hu
 ·rw[List.getElem?_append_right (by omega)] at ha
  rw[List.getElem?_append_right (by rw[H.1];omega),H.1] at hu
  exact K.2 _ a u ha hu
theorem RelL.take {G:Gh} {xs:List AV} {vs:List Value} (H:RelL G xs vs) (k:Nat):RelL G (xs.take k) (vs.take k):=by
 refine ⟨by simp[H.1],fun i a u ha hu=>?_⟩
 simp only[List.getElem?_take] at ha hu
 split at ha
 ·rename_i hk;rw[if_pos hk] at hu;exact H.2 i a u ha hu
 ·cases ha
theorem RelL.drop {G:Gh} {xs:List AV} {vs:List Value} (H:RelL G xs vs) (k:Nat):RelL G (xs.drop k) (vs.drop k):=by
 refine ⟨by simp[H.1],fun i a u ha hu=>?_⟩
 simp only[List.getElem?_drop] at ha hu
 exact H.2 _ a u ha hu
theorem RelL.get {G:Gh} {xs:List AV} {vs:List Value} (H:RelL G xs vs) {i:Nat} {a:AV} (h:xs[i]?=some a):∃u,vs[i]?=some u∧RelV G a u:=by
 have hlt:i < vs.length:=by rw[H.1];exact (List.getElem?_eq_some_iff.1 h).1
 exact ⟨vs[i],List.getElem?_eq_getElem hlt,H.2 i a _ h (List.getElem?_eq_getElem hlt)⟩
theorem RelL.set {G:Gh} {xs:List AV} {vs:List Value} (H:RelL G xs vs) (k:Nat) {a:AV} {u:Value} (h:RelV G a u):RelL G (xs.set k a) (vs.set k u):=by
 refine ⟨by simp[H.1],fun i b w hb hw=>?_⟩
 by_cases hk:k=i
 ·subst hk
  simp only[List.getElem?_set,if_true] at hb hw
  split at hb
  ·rename_i hlt
   rw[if_pos (by rw[H.1];exact hlt)] at hw
   cases hb;cases hw;exact h
  ·cases hb
 ·rw[List.getElem?_set_ne hk] at hb hw
  exact H.2 i b w hb hw
def AV.cells:AV→List AV
 | .agg xs=>xs
 | .v x=>x.cells.toList.map .v
 | a=>[a]
def AV.one:AV→Bool
 | .v x=>x.oneCell'
 | .agg _|.tup _=>false
 | _=>true
theorem RelV.one {G:Gh} {a:AV} {u:Value} (h:RelV G a u) (ha:a.one=true):u.oneCell'=true:=by
 cases h<;>first|exact ha|rfl|(simp[AV.one] at ha)
theorem RelL.lits (G:Gh) (vs:List Value):RelL G (vs.map .v) vs:=by
 refine ⟨by simp,fun i a u ha hu=>?_⟩
 rw[List.getElem?_map,hu] at ha
 cases ha
 exact .v u
theorem RelV.cells {G:Gh} {a:AV} {u:Value} (h:RelV G a u):RelL G a.cells u.cells.toList:=by
 have h1:∀{a:AV} {u:Value},RelV G a u→RelL G [a] [u]:=fun h=>.cons h (.nil G)
 cases h with
 | v x=>exact RelL.lits G _
 | agg xs vs h1 h2=>exact ⟨by simpa[Value.cells,AV.cells] using h1,by simpa[Value.cells,AV.cells] using h2⟩
 | tup xs vs a b=>exact h1 (.tup xs vs a b)
 | sl n cs t a cap vs b c d e f g=>exact h1 (.sl n cs t a cap vs b c d e f g)
 | ep cs vs b off c d e=>exact h1 (.ep cs vs b off c d e)
 | ref i ver off l b c=>exact h1 (.ref i ver off l b c)
 | ms i ver off n sz l cap b c d e f=>exact h1 (.ms i ver off n sz l cap b c d e f)
 | fn f k xs vs b c=>exact h1 (.fn f k xs vs b c)
 | ifc t x u b=>exact h1 (.ifc t x u b)
 | mp i l b c=>exact h1 (.mp i l b c)
def abs1:Value→AV
 | .slice none 0 0=>.sl 0 [] .nil
 | .func f a b=>.fn f a.size ((a.toList++b.toList).map .v)
 | x=>.v x
def absV:Value→AV
 | .agg cs=>.agg (cs.toList.map abs1)
 | x=>abs1 x
theorem RelV.abs1 (G:Gh) (x:Value):RelV G (abs1 x) x:=by
 unfold Go.Kx.abs1
 split
 ·exact .sl 0 [] .nil none 0 [] rfl (fun i a u h=>by simp at h) (Nat.le_refl _) (by omega) (.inl ⟨rfl,rfl⟩) ⟨rfl,rfl,rfl⟩
 ·rename_i f a b
  have:=RelV.fn (G:=G) f a.size ((a.toList++b.toList).map .v) (a.toList++b.toList) (by simp) (RelL.lits G _).2
  have e1:(a.toList++b.toList).take a.size=a.toList:=by
   rw[List.take_append_of_le_length (by simp),List.take_of_length_le (by simp)]
  have e2:(a.toList++b.toList).drop a.size=b.toList:=by
   rw[List.drop_append_of_le_length (by simp),List.drop_of_length_le (by simp),List.nil_append]
  rw[e1,e2] at this
  simpa using this
 ·exact .v x
theorem RelV.absV (G:Gh) (x:Value):RelV G (absV x) x:=by
 unfold Go.Kx.absV
 split
 ·rename_i cs
  have:=RelV.agg (G:=G) (cs.toList.map Go.Kx.abs1) cs.toList (by simp) (fun i a u ha hu=>by
   rw[List.getElem?_map,hu] at ha
   cases ha
   exact RelV.abs1 G u)
  simpa using this
 ·exact RelV.abs1 G x
theorem RelL.abs1s (G:Gh) (vs:List Value):RelL G (vs.map Go.Kx.abs1) vs:=by
 refine ⟨by simp,fun i a u ha hu=>?_⟩
 rw[List.getElem?_map,hu] at ha
 cases ha
 exact RelV.abs1 G u
def AV.exact1:AV→Bool
 | .v _|.ref _ _ _|.mp _=>true
 | .sl _ _ .nil|.sl _ _ (.id _ _ _)=>true
 | .ms _ _ _ _ sz=>decide (0 < sz)
 | _=>false
def AV.exact:AV→Bool
 | .agg xs=>xs.all AV.exact1
 | a=>a.exact1
theorem RelV.exact1 {G:Gh} {a:AV} {u w:Value} (h:RelV G a u) (k:RelV G a w) (he:a.exact1=true):u=w:=by
 cases h with
 | v x=>cases k;rfl
 | ref i ver off l h1 h2=>cases k with|ref _ _ _ l' k1 k2=>rw[h1] at k1;cases k1;rfl
 | mp i l h1 h2=>cases k with|mp _ l' k1 k2=>rw[h1] at k1;cases k1;rfl
 | ms i ver off n sz l cap h1 h2 h3 h4 h5=>
  cases k with
  | ms _ _ _ _ _ l' cap' k1 k2 k3 k4 k5=>
   rw[h1] at k1;cases k1
   have hs:0 < sz:=of_decide_eq_true he
   have:cap * sz=cap' * sz:=by omega
   rw[Nat.eq_of_mul_eq_mul_right hs this]
 | sl n cs t a cap vs h1 h2 h3 h4 h5 h6=>
  cases k with
  | sl _ _ _ a' cap' vs' k1 k2 k3 k4 k5 k6=>
   cases t with
   | none=>simp[AV.exact1] at he
   | full=>simp[AV.exact1] at he
   | nil=>
    obtain ⟨_,rfl,rfl⟩:=h6
    obtain ⟨_,rfl,rfl⟩:=k6
    rfl
   | id i ver sz=>
    obtain ⟨l,e1,e2,e3,e4,e5,e6⟩:=h6
    obtain ⟨l',f1,f2,f3,f4,f5,f6⟩:=k6
    rw[e1] at f1;cases f1
    have hcap:cap=cap':=by omega
    subst hcap
    cases hn:l.isnil with
    | true=>
     rw[hn,if_pos rfl] at e6 f6
     rw[e6.1,f6.1]
    | false=>
     rw[hn,if_neg (by simp)] at e6 f6
     rw[e6,f6]
 | _=>simp[AV.exact1] at he
theorem RelV.exact {G:Gh} {a:AV} {u w:Value} (h:RelV G a u) (k:RelV G a w) (he:a.exact=true):u=w:=by
 cases a with
 | agg xs=>
  cases h with
  | agg _ vs h1 h2=>
   cases k with
   | agg _ ws k1 k2=>
    congr 2
    apply List.ext_getElem?
    intro i
    by_cases hi:i < xs.length
    ·have e1:=List.getElem?_eq_getElem hi
     have e2:vs[i]?=some (vs[i]'(by omega)):=List.getElem?_eq_getElem _
     have e3:ws[i]?=some (ws[i]'(by omega)):=List.getElem?_eq_getElem _
     simp only[AV.exact,List.all_eq_true] at he
     rw[e2,e3,(h2 i _ _ e1 e2).exact1 (k2 i _ _ e1 e3) (he _ (List.getElem_mem hi))]
    ·rw[List.getElem?_eq_none (by omega),List.getElem?_eq_none (by omega)]
 | _=>exact h.exact1 k he
abbrev TabOk (_:Heap):Prop:=True
theorem TabOk.keep {base h:Heap} (H:TabOk base) (_:base.size≤h.size) (_:∀b,b < base.size→h[b]?=base[b]?):TabOk h:=H
inductive Res where
 | dead
 | obj (ver:Nat) (cs:List AV)
 | frz (ver:Nat) (cs:List AV)
 | tail (ver:Nat)
 | map (es:List (Value×AV))
 | itr (s:ByteArray) (pos:Nat)
 deriving Inhabited
abbrev St:=List Res
def Res.live:Res→Option Nat
 | .obj w _=>some w
 | .tail w=>some w
 | _=>none
def Wr (h:Heap) (b o:Nat):Prop:=∃c E fz,h[b]?=some (.cells c E fz)∧o < c.size∧¬(fz.1≤o∧o < fz.2)
theorem Wr.lt {h:Heap} {b o:Nat} (H:Wr h b o):b < h.size:=by
 obtain ⟨c,E,fz,h1,_⟩:=H
 exact (Array.getElem?_eq_some_iff.1 h1).1
theorem Zx {h:Heap} {b o:Nat} {u:Value} (H:cellG (hp h) b o=some u):b < h.size:=by
 unfold cellG hp at H
 by_cases hb:b < h.size
 ·exact hb
 ·rw[Array.getElem?_eq_none (by omega)] at H;cases H
def locOf (G:Gh) (σ:St) (i:Nat):Option Loc:=(σ[i]?).bind fun r=>r.live.bind fun w=>G.T i w
def KvRel (G:Gh):List MapEntry→List (Value×AV)→Prop
 | [],[]=>True
 | e::en,p::es=>e.key=p.1∧RelV G p.2 e.val∧KvRel G en es
 | _,_=>False
theorem KvRel.mono {G G':Gh} (hg:∀b o u,G.g b o=some u→G'.g b o=some u) (hT:∀i w l,G.T i w=some l→G'.T i w=some l):∀{en:List MapEntry} {es:List (Value×AV)},KvRel G en es→KvRel G' en es:=by
 intro en
 induction en with
 | nil=>intro es h;cases es with
  | nil=>trivial
  | cons p es=>exact h.elim
 | cons e en ih=>
  intro es h
  cases es with
  | nil=>exact h.elim
  | cons p es=>exact ⟨h.1,h.2.1.mono' hg hT,ih h.2.2⟩
theorem KvRel.append {G:Gh}:∀{en en':List MapEntry} {es es':List (Value×AV)},KvRel G en es→KvRel G en' es'→KvRel G (en++en') (es++es'):=by
 intro en
 induction en with
 | nil=>intro en' es es' h k;cases es with
  | nil=>exact k
  | cons p es=>exact h.elim
 | cons e en ih=>
  intro en' es es' h k
  cases es with
  | nil=>exact h.elim
  | cons p es=>exact ⟨h.1,h.2.1,ih h.2.2 k⟩
def Res.isMi:Res→Bool
 | .map _|.itr _ _=>true
 | _=>false
def miO:Obj→Bool
 | .map _ _|.stringIter _ _=>true
 | _=>false
def MiRel (G:Gh):Res→Obj→Prop
 | .map es,.map en _=>KvRel G en.toList es
 | .itr s pos,.stringIter s' pos'=>s'=s∧pos'=pos
 | _,_=>False
theorem MiRel.mono {G G':Gh} (hg:∀b o u,G.g b o=some u→G'.g b o=some u) (hT:∀i w l,G.T i w=some l→G'.T i w=some l) {r:Res} {o:Obj} (h:MiRel G r o):MiRel G' r o:=by
 unfold MiRel at *
 split at h
 ·exact h.mono hg hT
 ·exact h
 ·exact h.elim
theorem MiRel.mi {G:Gh} {r:Res} {o:Obj} (h:MiRel G r o):miO o=true:=by
 unfold MiRel at h
 split at h
 ·rfl
 ·rfl
 ·exact h.elim
theorem MiRel.ofMap {G:Gh} {es:List (Value×AV)} {o:Obj} (h:MiRel G (.map es) o):∃en c,o=.map en c∧KvRel G en.toList es:=by
 cases o with
 | map en c=>exact ⟨en,c,rfl,h⟩
 | _=>exact h.elim
theorem MiRel.ofItr {G:Gh} {s:ByteArray} {pos:Nat} {o:Obj} (h:MiRel G (.itr s pos) o):o=.stringIter s pos:=by
 cases o with
 | stringIter s' pos'=>obtain ⟨rfl,rfl⟩:=h;rfl
 | _=>exact h.elim
theorem miO_cells {h:Heap} {b:Nat} {o:Obj} (hb:h[b]?=some o) (ho:miO o=true) {c:Array Value} {E:TypeId} {fz:Nat×Nat} (hc:h[b]?=some (.cells c E fz)):False:=by
 rw[hb] at hc;cases hc;cases ho
structure MapsOk (n:Nat) (G:Gh) (h:Heap) (σ:St):Prop where
 mp:∀(i:Nat) (r:Res),r.isMi=true→σ[i]?=some r→∃l,G.T i 0=some l∧l.isnil=false∧n≤l.b∧l.off=0∧∃o,h[l.b]?=some o∧MiRel G r o
 dj:∀(i j:Nat) (r r':Res) (l m:Loc),i≠j→r.isMi=true→r'.isMi=true→σ[i]?=some r→σ[j]?=some r'→G.T i 0=some l→G.T j 0=some m→l.b≠m.b
theorem MapsOk.mono {n:Nat} {G G':Gh} {h h':Heap} {σ σ':St} (H:MapsOk n G h σ) (hσ:∀(i:Nat) (r:Res),r.isMi=true→σ'[i]?=some r→σ[i]?=some r) (hg:∀b o u,G.g b o=some u→G'.g b o=some u) (hT:∀i w l,G.T i w=some l→G'.T i w=some l)
  (hh:∀(b:Nat) (o:Obj),miO o=true→h[b]?=some o→h'[b]?=some o):MapsOk n G' h' σ':=by
 refine ⟨fun i r hr hi=>?_,fun i j es es' l m hij hr hr' hi hj hl hm=>?_⟩
 ·obtain ⟨l,h1,h2,h3,h0,o,h4,h5⟩:=H.mp i r hr (hσ i r hr hi)
  exact ⟨l,hT _ _ _ h1,h2,h3,h0,o,hh _ _ h5.mi h4,h5.mono hg hT⟩
 ·obtain ⟨l0,a1,_⟩:=H.mp i es hr (hσ i es hr hi)
  obtain ⟨m0,b1,_⟩:=H.mp j es' hr' (hσ j es' hr' hj)
  have e1:=hT _ _ _ a1
  have e2:=hT _ _ _ b1
  rw[hl] at e1;cases e1
  rw[hm] at e2;cases e2
  exact H.dj i j es es' l m hij hr hr' (hσ i es hr hi) (hσ j es' hr' hj) a1 b1
theorem map_app {σ:St} {r:Res} (hr:r.isMi=false):∀(i:Nat) (x:Res),x.isMi=true→(σ++[r])[i]?=some x→σ[i]?=some x:=by
 intro i x hx h
 by_cases hi:i < σ.length
 ·rwa [List.getElem?_append_left hi] at h
 ·have h1:=(List.getElem?_eq_some_iff.1 h).1
  rw[List.length_append,List.length_singleton] at h1
  have:i=σ.length:=by omega
  subst this
  simp at h
  rw[←h,hr] at hx
  cases hx
theorem XJ {σ:St} {k:Nat} {r:Res} (hr:r.isMi=false):∀(i:Nat) (x:Res),x.isMi=true→(σ.set k r)[i]?=some x→σ[i]?=some x:=by
 intro i x hx h
 rw[List.getElem?_set] at h
 split at h
 ·split at h
  ·simp at h;rw[←h,hr] at hx;cases hx
  ·cases h
 ·exact h
theorem Y99 {r:Res} {w:Nat} (h:r.live=some w):r.isMi=false:=by cases r<;>first|rfl|cases h
structure RelH (base:Heap) (G:Gh) (h:Heap) (σ:St):Prop where
 tab:TabOk base
 size:base.size≤h.size
 keep:∀b,b < base.size→h[b]?=base[b]?
 st:∀b o u,G.g b o=some u→cellG (hp h) b o=some u
 obj:∀i w cs,σ[i]?=some (.obj w cs)→∃l,G.T i w=some l∧l.isnil=false∧l.e=l.off∧l.off+cs.length≤l.lim∧∀j a,cs[j]?=some a→∃u,cellG (hp h) l.b (l.off+j)=some u∧RelV G a u
 frz:∀i w cs,σ[i]?=some (.frz w cs)→∃l,G.T i w=some l∧l.isnil=false∧∀j a,cs[j]?=some a→∃u,G.g l.b (l.off+j)=some u∧RelV G a u
 own:∀i l,locOf G σ i=some l→∀b o,l.has b o→base.size≤b∧Wr h b o∧G.g b o=none
 disj:∀i j l m,i≠j→locOf G σ i=some l→locOf G σ j=some m→∀b o,l.has b o→¬m.has b o
 bd:∀i w l,G.T i w=some l→i < σ.length∧∀r w',σ[i]?=some r→r.live=some w'→w≤w'
 maps:MapsOk base.size G h σ
theorem X23 {h:Heap} {o:Obj} {b k:Nat} (hb:b < h.size):cellG (hp (h.push o)) b k=cellG (hp h) b k:=by
 unfold cellG hp
 rw[Array.getElem?_push,if_neg (by omega)]
theorem J0 {h:Heap} {o:Obj} {b:Nat} (hb:b < h.size):(h.push o)[b]?=h[b]?:=by
 rw[Array.getElem?_push,if_neg (by omega)]
theorem Z48 {h:Heap} {c:Array Value} {E:TypeId} {fz:Nat×Nat} {k:Nat}:cellG (hp (h.push (.cells c E fz))) h.size k=c[k]?:=by
 unfold cellG hp
 simp
theorem Wr.push {h:Heap} {o:Obj} {b k:Nat} (H:Wr h b k):Wr (h.push o) b k:=by
 have hl:=H.lt
 obtain ⟨c,E,fz,h1,h2⟩:=H
 exact ⟨c,E,fz,by rw[J0 hl];exact h1,h2⟩
theorem Wr_new {h:Heap} {c:Array Value} {E:TypeId} {k:Nat} (hk:k < c.size):Wr (h.push (.cells c E (0,0))) h.size k:=⟨c,E,(0,0),by simp,hk,by simp⟩
theorem RelH.push {base:Heap} {G:Gh} {h:Heap} {σ:St} (H:RelH base G h σ) (o:Obj):RelH base G (h.push o) σ:=by
 have hs:=H.size
 refine ⟨H.tab,by simp;omega,fun b hb=>by rw[J0 (by omega)];exact H.keep b hb,?_,?_,H.frz,?_,H.disj,H.bd,H.maps.mono (fun _ _ _ h=>h) (fun _ _ _ h=>h) (fun _ _ _ h=>h) fun b en c hb=>by rw[J0 (Array.getElem?_eq_some_iff.1 hb).1];exact hb⟩
 ·intro b k u hu
  have:=H.st b k u hu
  rw[X23 (Zx this)];exact this
 ·intro i w cs hi
  obtain ⟨l,h1,h2,h3,h4,h5⟩:=H.obj i w cs hi
  refine ⟨l,h1,h2,h3,h4,fun j a ha=>?_⟩
  obtain ⟨u,h6,h7⟩:=h5 j a ha
  exact ⟨u,by rw[X23 (Zx h6)];exact h6,h7⟩
 ·intro i l hl b k hk
  obtain ⟨h1,h2,h3⟩:=H.own i l hl b k hk
  exact ⟨h1,h2.push,h3⟩
theorem Q13 {G:Gh} {σ:St} {i:Nat} {l:Loc} (h:locOf G σ i=some l):i < σ.length:=by
 unfold locOf at h
 simp only[Option.bind_eq_some_iff] at h
 obtain ⟨r,h1,_⟩:=h
 exact (List.getElem?_eq_some_iff.1 h1).1
theorem Y43 {G:Gh} {σ τ:St} {i:Nat} (h:i < σ.length):locOf G (σ++τ) i=locOf G σ i:=by
 unfold locOf
 rw[List.getElem?_append_left h]
theorem locOf_new {G:Gh} {σ:St} {r:Res} {w:Nat} (hw:r.live=some w):locOf G (σ++[r]) σ.length=G.T σ.length w:=by
 unfold locOf
 simp[hw]
def Gh.put (G:Gh) (i w:Nat) (l:Loc):Gh:=⟨G.g,fun j v=>if j=i∧v=w then some l else G.T j v⟩
def Gh.pub (G:Gh) (b off:Nat) (vs:List Value):Gh:=⟨fun c o=>if c=b∧off≤o∧o < off+vs.length then vs[o - off]? else G.g c o,G.T⟩
theorem Gh.Qi (G:Gh) (i w:Nat) (l:Loc):(G.put i w l).T i w=some l:=by simp[Gh.put]
theorem Gh.le_put {n:Nat} {G:Gh} {i w:Nat} {l:Loc} (h:G.T i w=none):Gh.le n G (G.put i w l):=by
 refine ⟨fun _ _ _ h=>h,fun j v m hm=>?_,fun _ _ _=>rfl⟩
 simp only[Gh.put]
 split
 ·rename_i hc;obtain ⟨rfl,rfl⟩:=hc;rw[h] at hm;cases hm
 ·exact hm
theorem Gh.pub_get {G:Gh} {b off:Nat} {vs:List Value} {i:Nat} {u:Value} (h:vs[i]?=some u):(G.pub b off vs).g b (off+i)=some u:=by
 have hi:=(List.getElem?_eq_some_iff.1 h).1
 have e:(G.pub b off vs).g b (off+i)=if b=b∧off≤off+i∧off+i < off+vs.length then vs[off+i - off]? else G.g b (off+i):=rfl
 rw[e,if_pos ⟨rfl,by omega,by omega⟩,Nat.add_sub_cancel_left,h]
theorem Gh.le_pub {n:Nat} {G:Gh} {b off:Nat} {vs:List Value} (hn:n≤b) (h:∀i,i < vs.length→G.g b (off+i)=none):Gh.le n G (G.pub b off vs):=by
 refine ⟨fun c o u hu=>?_,fun _ _ _ h=>h,fun c o hc=>?_⟩
 ·simp only[Gh.pub]
  split
  ·rename_i hc
   obtain ⟨rfl,h1,h2⟩:=hc
   have:=h (o - off) (by omega)
   rw[show off+(o - off)=o by omega,hu] at this
   cases this
  ·exact hu
 ·simp only[Gh.pub]
  rw[if_neg (by omega)]
theorem RelH.name {base:Heap} {G:Gh} {h:Heap} {σ:St} (H:RelH base G h σ) (r:Res) (w:Nat) (l:Loc) (hw:r.live=some w)
  (hown:∀b o,l.has b o→base.size≤b∧Wr h b o∧G.g b o=none) (hdis:∀i m,locOf G σ i=some m→∀b o,l.has b o→¬m.has b o)
  (hobj:∀v cs,r=.obj v cs→l.isnil=false∧l.e=l.off∧l.off+cs.length≤l.lim∧∀j a,cs[j]?=some a→∃u,cellG (hp h) l.b (l.off+j)=some u∧RelV G a u):
  Gh.le base.size G (G.put σ.length w l)∧RelH base (G.put σ.length w l) h (σ++[r]):=by
 have hnone:∀v,G.T σ.length v=none:=by
  intro v
  cases hv:G.T σ.length v with
  | none=>rfl
  | some m=>have:=(H.bd _ _ _ hv).1;omega
 have hle:Gh.le base.size G (G.put σ.length w l):=Gh.le_put (hnone w)
 have hold:∀i,i < σ.length→locOf (G.put σ.length w l) (σ++[r]) i=locOf G σ i:=by
  intro i hi
  rw[Y43 hi]
  unfold locOf
  simp only[Gh.put]
  congr 1;funext r;congr 1;funext v
  rw[if_neg (by omega)]
 have hnew:locOf (G.put σ.length w l) (σ++[r]) σ.length=some l:=by rw[locOf_new hw,Gh.Qi]
 have hcase:∀i m,locOf (G.put σ.length w l) (σ++[r]) i=some m→(i < σ.length∧locOf G σ i=some m)∨(i=σ.length∧m=l):=by
  intro i m hm
  have hlt:=Q13 hm
  simp at hlt
  by_cases hi:i < σ.length
  ·rw[hold i hi] at hm;exact .inl ⟨hi,hm⟩
  ·have:i=σ.length:=by omega
   subst this
   rw[hnew] at hm
   cases hm;exact .inr ⟨rfl,rfl⟩
 refine ⟨hle,H.tab,H.size,H.keep,H.st,?_,?_,?_,?_,?_,H.maps.mono (map_app (Y99 hw)) hle.g hle.T fun _ _ _ h=>h⟩
 ·intro i v cs hi
  by_cases hlt:i < σ.length
  ·rw[List.getElem?_append_left hlt] at hi
   obtain ⟨m,h1,h2,h3,h4,h5⟩:=H.obj i v cs hi
   refine ⟨m,hle.T _ _ _ h1,h2,h3,h4,fun j a ha=>?_⟩
   obtain ⟨u,h6,h7⟩:=h5 j a ha
   exact ⟨u,h6,h7.mono hle⟩
  ·have:i=σ.length:=by have:=(List.getElem?_eq_some_iff.1 hi).1;simp at this;omega
   subst this
   simp at hi
   subst hi
   obtain ⟨h2,h3,h4,h5⟩:=hobj v cs rfl
   simp[Res.live] at hw
   subst hw
   refine ⟨l,Gh.Qi _ _ _ _,h2,h3,h4,fun j a ha=>?_⟩
   obtain ⟨u,h6,h7⟩:=h5 j a ha
   exact ⟨u,h6,h7.mono hle⟩
 ·intro i v cs hi
  have hlt:i < σ.length:=by
   have h1:=(List.getElem?_eq_some_iff.1 hi).1
   simp at h1
   by_cases h2:i < σ.length
   ·exact h2
   ·have:i=σ.length:=by omega
    subst this
    simp at hi
    subst hi
    simp[Res.live] at hw
  rw[List.getElem?_append_left hlt] at hi
  obtain ⟨m,h1,h2,h3⟩:=H.frz i v cs hi
  refine ⟨m,hle.T _ _ _ h1,h2,fun j a ha=>?_⟩
  obtain ⟨u,h6,h7⟩:=h3 j a ha
  exact ⟨u,h6,h7.mono hle⟩
 ·intro i m hm
  rcases hcase i m hm with ⟨_,hm⟩|⟨_,rfl⟩
  ·exact H.own i m hm
  ·exact hown
 ·intro i j m k hij hm hk b o h1 h2
  rcases hcase i m hm with ⟨_,hm'⟩|⟨hi',hm'⟩
  ·rcases hcase j k hk with ⟨_,hk'⟩|⟨hj',hk'⟩
   ·exact H.disj i j m k hij hm' hk' b o h1 h2
   ·exact hdis i m hm' b o (hk' ▸ h2) h1
  ·rcases hcase j k hk with ⟨_,hk'⟩|⟨hj',hk'⟩
   ·exact hdis j k hk' b o (hm' ▸ h1) h2
   ·exact hij (hi'.trans hj'.symm)
 ·intro i v m hm
  simp only[Gh.put] at hm
  split at hm
  ·rename_i hc
   obtain ⟨rfl,rfl⟩:=hc
   refine ⟨by simp,fun r' w' hr hw'=>?_⟩
   simp at hr
   subst hr
   rw[hw] at hw'
   cases hw';exact Nat.le_refl _
  ·obtain ⟨h1,h2⟩:=H.bd i v m hm
   refine ⟨by simp;omega,fun r' w' hr hw'=>?_⟩
   rw[List.getElem?_append_left h1] at hr
   exact h2 r' w' hr hw'
theorem RelH.publish {base:Heap} {G:Gh} {h:Heap} {σ:St} (H:RelH base G h σ) (b off:Nat) (vs:List Value) (hb:base.size≤b)
  (hcell:∀i u,vs[i]?=some u→cellG (hp h) b (off+i)=some u) (hg:∀i,i < vs.length→G.g b (off+i)=none)
  (hno:∀i l,locOf G σ i=some l→∀o,off≤o→o < off+vs.length→¬l.has b o):
  Gh.le base.size G (G.pub b off vs)∧RelH base (G.pub b off vs) h σ:=by
 have hle:Gh.le base.size G (G.pub b off vs):=Gh.le_pub hb hg
 have hloc:∀i,locOf (G.pub b off vs) σ i=locOf G σ i:=fun i=>rfl
 refine ⟨hle,H.tab,H.size,H.keep,?_,?_,?_,?_,?_,H.bd,H.maps.mono (fun _ _ _ h=>h) hle.g (fun _ _ _ h=>h) fun _ _ _ h=>h⟩
 ·intro c o u hu
  simp only[Gh.pub] at hu
  split at hu
  ·rename_i hc
   obtain ⟨rfl,h1,h2⟩:=hc
   have:=hcell (o - off) u hu
   rwa [show off+(o - off)=o by omega] at this
  ·exact H.st c o u hu
 ·intro i v cs hi
  obtain ⟨m,h1,h2,h3,h4,h5⟩:=H.obj i v cs hi
  refine ⟨m,h1,h2,h3,h4,fun j a ha=>?_⟩
  obtain ⟨u,h6,h7⟩:=h5 j a ha
  exact ⟨u,h6,h7.mono hle⟩
 ·intro i v cs hi
  obtain ⟨m,h1,h2,h3⟩:=H.frz i v cs hi
  refine ⟨m,h1,h2,fun j a ha=>?_⟩
  obtain ⟨u,h6,h7⟩:=h3 j a ha
  exact ⟨u,hle.g _ _ _ h6,h7.mono hle⟩
 ·intro i l hl c o hh
  rw[hloc] at hl
  obtain ⟨h1,h2,h3⟩:=H.own i l hl c o hh
  refine ⟨h1,h2,?_⟩
  simp only[Gh.pub]
  rw[if_neg]
  ·exact h3
  ·rintro ⟨rfl,h4,h5⟩
   exact hno i l hl o h4 h5 hh
 ·intro i j l m hij hl hm
  exact H.disj i j l m hij hl hm
theorem RelH.turn {base:Heap} {G:Gh} {h:Heap} {σ:St} (H:RelH base G h σ) {i w:Nat} {r r':Res} (hi:σ[i]?=some r) (hw:r.live=some w) (w':Nat) (l:Loc) (hw':r'.live=some w') (hww:w < w')
  (hown:∀b o,l.has b o→base.size≤b∧Wr h b o∧G.g b o=none) (hdis:∀j m,j≠i→locOf G σ j=some m→∀b o,l.has b o→¬m.has b o)
  (hobj:∀v cs,r'=.obj v cs→l.isnil=false∧l.e=l.off∧l.off+cs.length≤l.lim∧∀j a,cs[j]?=some a→∃u,cellG (hp h) l.b (l.off+j)=some u∧RelV G a u):
  Gh.le base.size G (G.put i w' l)∧RelH base (G.put i w' l) h (σ.set i r'):=by
 have hlt:i < σ.length:=(List.getElem?_eq_some_iff.1 hi).1
 have hnone:G.T i w'=none:=by
  cases hv:G.T i w' with
  | none=>rfl
  | some m=>have:=(H.bd _ _ _ hv).2 r w hi hw;omega
 have hle:Gh.le base.size G (G.put i w' l):=Gh.le_put hnone
 have hset:(σ.set i r')[i]?=some r':=by simp[hlt]
 have hcase:∀j m,locOf (G.put i w' l) (σ.set i r') j=some m→(j≠i∧locOf G σ j=some m)∨(j=i∧m=l):=by
  intro j m hm
  by_cases hj:j=i
  ·subst hj
   unfold locOf at hm
   rw[hset] at hm
   simp only[Option.bind_some,hw',Gh.Qi] at hm
   cases hm;exact .inr ⟨rfl,rfl⟩
  ·refine .inl ⟨hj,?_⟩
   unfold locOf at hm ⊢
   rw[List.getElem?_set_ne (Ne.symm hj)] at hm
   rw[←hm]
   congr 1;funext r;congr 1;funext v
   simp only[Gh.put]
   rw[if_neg (fun h=>hj h.1)]
 refine ⟨hle,H.tab,H.size,H.keep,H.st,?_,?_,?_,?_,?_,H.maps.mono (XJ (Y99 hw')) hle.g hle.T fun _ _ _ h=>h⟩
 ·intro j v cs hj
  by_cases hji:j=i
  ·subst hji
   rw[hset] at hj
   simp at hj
   subst hj
   obtain ⟨h2,h3,h4,h5⟩:=hobj v cs rfl
   simp[Res.live] at hw'
   subst hw'
   refine ⟨l,Gh.Qi _ _ _ _,h2,h3,h4,fun j a ha=>?_⟩
   obtain ⟨u,h6,h7⟩:=h5 j a ha
   exact ⟨u,h6,h7.mono hle⟩
  ·rw[List.getElem?_set_ne (Ne.symm hji)] at hj
   obtain ⟨m,h1,h2,h3,h4,h5⟩:=H.obj j v cs hj
   refine ⟨m,hle.T _ _ _ h1,h2,h3,h4,fun j a ha=>?_⟩
   obtain ⟨u,h6,h7⟩:=h5 j a ha
   exact ⟨u,h6,h7.mono hle⟩
 ·intro j v cs hj
  have hji:j≠i:=by
   rintro rfl
   rw[hset] at hj
   simp at hj
   subst hj
   simp[Res.live] at hw'
  rw[List.getElem?_set_ne (Ne.symm hji)] at hj
  obtain ⟨m,h1,h2,h3⟩:=H.frz j v cs hj
  refine ⟨m,hle.T _ _ _ h1,h2,fun j a ha=>?_⟩
  obtain ⟨u,h6,h7⟩:=h3 j a ha
  exact ⟨u,h6,h7.mono hle⟩
 ·intro j m hm
  rcases hcase j m hm with ⟨_,hm⟩|⟨_,rfl⟩
  ·exact H.own j m hm
  ·exact hown
 ·intro j k m n hjk hm hn b o h1 h2
  rcases hcase j m hm with ⟨hj,hm'⟩|⟨hj,hm'⟩
  ·rcases hcase k n hn with ⟨_,hn'⟩|⟨hk,hn'⟩
   ·exact H.disj j k m n hjk hm' hn' b o h1 h2
   ·exact hdis j m hj hm' b o (hn' ▸ h2) h1
  ·rcases hcase k n hn with ⟨hk,hn'⟩|⟨hk,hn'⟩
   ·exact hdis k n hk hn' b o (hm' ▸ h1) h2
   ·exact hjk (hj.trans hk.symm)
 ·intro j v m hm
  simp only[Gh.put] at hm
  split at hm
  ·rename_i hc
   obtain ⟨rfl,rfl⟩:=hc
   refine ⟨by simpa using hlt,fun r2 w2 hr hw2=>?_⟩
   rw[hset] at hr
   simp at hr
   subst hr
   rw[hw'] at hw2
   cases hw2;exact Nat.le_refl _
  ·obtain ⟨h1,h2⟩:=H.bd j v m hm
   refine ⟨by simpa using h1,fun r2 w2 hr hw2=>?_⟩
   by_cases hji:j=i
   ·subst hji
    rw[hset] at hr
    simp at hr
    subst hr
    rw[hw'] at hw2
    cases hw2
    have:=h2 r w hi hw
    omega
   ·rw[List.getElem?_set_ne (Ne.symm hji)] at hr
    exact h2 r2 w2 hr hw2
structure Stored (h h':Heap) (b off:Nat) (vs:List Value):Prop where
 size:h'.size=h.size
 blk:∀c,c≠b→h'[c]?=h[c]?
 wr:∀c o,Wr h c o→Wr h' c o
 old:∀c o,(c≠b∨o < off∨off+vs.length≤o)→cellG (hp h') c o=cellG (hp h) c o
 new:∀j u,vs[j]?=some u→cellG (hp h') b (off+j)=some u
 maps:∀(c:Nat) (o:Obj),miO o=true→h[c]?=some o→h'[c]?=some o
theorem st1_spec {h:Heap} {b off:Nat} {v:Value} (hw:Wr h b off) (hv:v.oneCell'=true):∃h',st1 h b off v=some h'∧Stored h h' b off [v]:=by
 have hb:=hw.lt
 obtain ⟨c,E,fz,h1,h2,h3⟩:=hw
 refine ⟨h.setIfInBounds b (.cells (c.setIfInBounds off v) E fz),?_,?_,?_,?_,?_,?_,fun d en k hd=>by
  have hdb:d≠b:=by rintro rfl;rw[h1] at hd;cases hd;cases k
  rw[Array.getElem?_setIfInBounds_ne (Ne.symm hdb)];exact hd⟩
 ·unfold st1
  rw[h1]
  exact if_pos ⟨h2,h3,hv⟩
 ·simp
 ·intro d hd;rw[Array.getElem?_setIfInBounds_ne (Ne.symm hd)]
 ·rintro d o ⟨c',E',fz',k1,k2,k3⟩
  by_cases hd:d=b
  ·subst hd
   rw[h1] at k1
   simp at k1
   obtain ⟨rfl,rfl,rfl⟩:=k1
   exact ⟨c.setIfInBounds off v,E,fz,by simp[hb],by simpa using k2,k3⟩
  ·exact ⟨c',E',fz',by rw[Array.getElem?_setIfInBounds_ne (Ne.symm hd)];exact k1,k2,k3⟩
 ·intro d o hd
  unfold cellG hp
  by_cases hdb:d=b
  ·subst hdb
   rw[h1]
   simp only[Array.getElem?_setIfInBounds_self,hb,if_true]
   rw[Array.getElem?_setIfInBounds_ne]
   simp at hd
   omega
  ·rw[Array.getElem?_setIfInBounds_ne (Ne.symm hdb)]
 ·intro j u hu
  have hj:j=0:=by have:=(List.getElem?_eq_some_iff.1 hu).1;simp at this;omega
  subst hj
  simp at hu
  subst hu
  unfold cellG hp
  simp[hb,h2]
theorem J1:∀(vs:List Value) {h:Heap} {b off:Nat},(∀j,j < vs.length→Wr h b (off+j))→(∀v∈vs,v.oneCell'=true)→∃h',stL h b off vs=some h'∧Stored h h' b off vs:=by
 intro vs
 induction vs with
 | nil=>intro h b off _ _;exact ⟨h,rfl,rfl,fun _ _=>rfl,fun _ _ h=>h,fun _ _ _=>rfl,(fun j u hu=>by simp at hu),fun _ _ _ h=>h⟩
 | cons v vs ih=>
  intro h b off hw hv
  obtain ⟨h1,e1,s1⟩:=st1_spec (hw 0 (by simp)) (hv v (by simp))
  obtain ⟨h2,e2,s2⟩:=ih (h:=h1) (b:=b) (off:=off+1) (fun j hj=>by
   have:=s1.wr _ _ (hw (j+1) (by simp;omega))
   rwa [show off+1+j=off+(j+1) by omega]) (fun u hu=>hv u (by simp[hu]))
  simp only[Nat.add_zero] at e1 s1
  refine ⟨h2,by simp[stL,e1,e2],by rw[s2.size,s1.size],fun c hc=>by rw[s2.blk c hc,s1.blk c hc],fun c o h=>s2.wr _ _ (s1.wr _ _ h),?_,?_,fun c en k h=>s2.maps _ _ k (s1.maps _ _ k h)⟩
  ·intro c o hc
   simp only[List.length_cons] at hc
   rw[s2.old c o (by omega),s1.old c o (by simp;omega)]
  ·intro j u hu
   cases j with
   | zero=>
    simp at hu
    subst hu
    rw[s2.old b (off+0) (by omega)]
    exact s1.new 0 _ rfl
   | succ j=>
    have:=s2.new j u (by simpa using hu)
    rwa [show off+1+j=off+(j+1) by omega] at this
theorem RelH.store {base:Heap} {G:Gh} {h h':Heap} {σ:St} (H:RelH base G h σ) {b off:Nat} {vs:List Value} (S:Stored h h' b off vs) (hb:base.size≤b)
  (hg:∀j,j < vs.length→G.g b (off+j)=none) (hobj:∀i w cs,σ[i]?=some (.obj w cs)→∀l,G.T i w=some l→∀j a,cs[j]?=some a→l.b=b→off≤l.off+j→l.off+j < off+vs.length→∃u,vs[l.off+j - off]?=some u∧RelV G a u):RelH base G h' σ:=by
 refine ⟨H.tab,by rw[S.size];exact H.size,?_,?_,?_,H.frz,?_,H.disj,H.bd,H.maps.mono (fun _ _ _ h=>h) (fun _ _ _ h=>h) (fun _ _ _ h=>h) S.maps⟩
 ·intro c hc;rw[S.blk c (by omega)];exact H.keep c hc
 ·intro c o u hu
  rw[S.old c o]
  ·exact H.st c o u hu
  ·by_cases hcb:c=b
   ·by_cases ho:off≤o∧o < off+vs.length
    ·have:=hg (o - off) (by omega)
     rw[show off+(o - off)=o by omega,←hcb,hu] at this
     cases this
    ·omega
   ·exact .inl hcb
 ·intro i w cs hi
  obtain ⟨l,h1,h2,h3,h4,h5⟩:=H.obj i w cs hi
  refine ⟨l,h1,h2,h3,h4,fun j a ha=>?_⟩
  by_cases hc:l.b=b∧off≤l.off+j∧l.off+j < off+vs.length
  ·obtain ⟨u,hu,hr⟩:=hobj i w cs hi l h1 j a ha hc.1 hc.2.1 hc.2.2
   refine ⟨u,?_,hr⟩
   have:=S.new _ u hu
   rw[show off+(l.off+j - off)=l.off+j by omega,←hc.1] at this
   exact this
  ·obtain ⟨u,h6,h7⟩:=h5 j a ha
   exact ⟨u,by rw[S.old _ _ (by omega)];exact h6,h7⟩
 ·intro i l hl c o hh
  obtain ⟨h1,h2,h3⟩:=H.own i l hl c o hh
  exact ⟨h1,S.wr _ _ h2,h3⟩
theorem RelH.retell {base:Heap} {G:Gh} {h:Heap} {σ:St} (H:RelH base G h σ) {i w:Nat} {cs:List AV} (hi:σ[i]?=some (.obj w cs)) {cs':List AV} {l:Loc} (hl:G.T i w=some l) (hlen:l.off+cs'.length≤l.lim)
  (hc:∀j a,cs'[j]?=some a→∃u,cellG (hp h) l.b (l.off+j)=some u∧RelV G a u):RelH base G h (σ.set i (.obj w cs')):=by
 have hlt:i < σ.length:=(List.getElem?_eq_some_iff.1 hi).1
 have hset:(σ.set i (.obj w cs'))[i]?=some (.obj w cs'):=by simp[hlt]
 have hloc:∀j,locOf G (σ.set i (.obj w cs')) j=locOf G σ j:=by
  intro j
  by_cases hj:j=i
  ·subst hj;unfold locOf;rw[hset,hi];rfl
  ·unfold locOf;rw[List.getElem?_set_ne (Ne.symm hj)]
 refine ⟨H.tab,H.size,H.keep,H.st,?_,?_,?_,?_,?_,H.maps.mono (XJ rfl) (fun _ _ _ h=>h) (fun _ _ _ h=>h) fun _ _ _ h=>h⟩
 ·intro j v ds hj
  by_cases hji:j=i
  ·subst hji
   rw[hset] at hj
   simp at hj
   obtain ⟨rfl,rfl⟩:=hj
   obtain ⟨m,h1,h2,h3,h4,h5⟩:=H.obj j w cs hi
   rw[hl] at h1
   cases h1
   exact ⟨l,hl,h2,h3,hlen,hc⟩
  ·rw[List.getElem?_set_ne (Ne.symm hji)] at hj
   exact H.obj j v ds hj
 ·intro j v ds hj
  have hji:j≠i:=by rintro rfl;rw[hset] at hj;simp at hj
  rw[List.getElem?_set_ne (Ne.symm hji)] at hj
  exact H.frz j v ds hj
 ·intro j m hm;rw[hloc] at hm;exact H.own j m hm
 ·intro j k m n hjk hm hn;rw[hloc] at hm hn;exact H.disj j k m n hjk hm hn
 ·intro j v m hm
  obtain ⟨h1,h2⟩:=H.bd j v m hm
  refine ⟨by simpa using h1,fun r w' hr hw'=>?_⟩
  by_cases hji:j=i
  ·subst hji
   rw[hset] at hr
   simp at hr
   subst hr
   simp[Res.live] at hw'
   subst hw'
   exact h2 _ w hi rfl
  ·rw[List.getElem?_set_ne (Ne.symm hji)] at hr
   exact h2 r w' hr hw'
theorem RelH.newMi {base:Heap} {G:Gh} {h:Heap} {σ:St} (H:RelH base G h σ) {x:Res} {o:Obj} (hx:x.isMi=true) (hxo:∀G,MiRel G x o):
  Gh.le base.size G (G.put σ.length 0 ⟨h.size,0,0,0,0,0,false⟩)∧RelH base (G.put σ.length 0 ⟨h.size,0,0,0,0,0,false⟩) (h.push o) (σ++[x]):=by
 have hnone:∀v,G.T σ.length v=none:=by
  intro v
  cases hv:G.T σ.length v with
  | none=>rfl
  | some m=>have:=(H.bd _ _ _ hv).1;omega
 have hle:Gh.le base.size G (G.put σ.length 0 ⟨h.size,0,0,0,0,0,false⟩):=Gh.le_put (hnone 0)
 have K:=H.push o
 have hlt:∀(i:Nat) (r:Res),(σ++[x])[i]?=some r→r.isMi=false→i < σ.length∧σ[i]?=some r:=by
  intro i r hi hr
  by_cases hi2:i < σ.length
  ·rw[List.getElem?_append_left hi2] at hi;exact ⟨hi2,hi⟩
  ·have h1:=(List.getElem?_eq_some_iff.1 hi).1
   rw[List.length_append,List.length_singleton] at h1
   have:i=σ.length:=by omega
   subst this
   simp at hi
   rw[←hi,hx] at hr;cases hr
 have hloc:∀i m,locOf (G.put σ.length 0 ⟨h.size,0,0,0,0,0,false⟩) (σ++[x]) i=some m→locOf G σ i=some m:=by
  intro i m hm
  have hl:=Q13 hm
  rw[List.length_append,List.length_singleton] at hl
  by_cases hi:i < σ.length
  ·rw[Y43 hi] at hm
   unfold locOf at hm ⊢
   rw[←hm]
   congr 1;funext r;congr 1;funext v
   simp only[Gh.put]
   rw[if_neg (by omega)]
  ·have:i=σ.length:=by omega
   subst this
   unfold locOf at hm
   rw[List.getElem?_append_right (Nat.le_refl _),Nat.sub_self] at hm
   have hlv:x.live=none:=by cases x<;>first|rfl|cases hx
   simp[hlv] at hm
 refine ⟨hle,K.tab,K.size,K.keep,K.st,?_,?_,fun i m hm=>K.own i m (hloc i m hm),fun i j m k hij hm hk=>K.disj i j m k hij (hloc _ _ hm) (hloc _ _ hk),?_,?_,?_⟩
 ·intro i w cs hi
  obtain ⟨_,hi⟩:=hlt i _ hi rfl
  obtain ⟨l,h1,h2,h3,h4,h5⟩:=K.obj i w cs hi
  refine ⟨l,hle.T _ _ _ h1,h2,h3,h4,fun j a ha=>?_⟩
  obtain ⟨u,h6,h7⟩:=h5 j a ha
  exact ⟨u,h6,h7.mono hle⟩
 ·intro i w cs hi
  obtain ⟨_,hi⟩:=hlt i _ hi rfl
  obtain ⟨l,h1,h2,h3⟩:=K.frz i w cs hi
  refine ⟨l,hle.T _ _ _ h1,h2,fun j a ha=>?_⟩
  obtain ⟨u,h6,h7⟩:=h3 j a ha
  exact ⟨u,h6,h7.mono hle⟩
 ·intro i w l hl
  simp only[Gh.put] at hl
  split at hl
  ·rename_i hc
   obtain ⟨rfl,rfl⟩:=hc
   refine ⟨by simp,fun r w' hr hw=>?_⟩
   simp at hr
   subst hr
   rw[Y99 hw] at hx;cases hx
  ·obtain ⟨h1,h2⟩:=H.bd i w l hl
   refine ⟨by simp;omega,fun r w' hr hw=>?_⟩
   rw[List.getElem?_append_left h1] at hr
   exact h2 r w' hr hw
 ·intro i es hm hi
  by_cases hi2:i < σ.length
  ·rw[List.getElem?_append_left hi2] at hi
   obtain ⟨l,h1,h2,h3,h0,ob,h4,h5⟩:=K.maps.mp i es hm hi
   exact ⟨l,hle.T _ _ _ h1,h2,h3,h0,ob,h4,h5.mono hle.g hle.T⟩
  ·have h1:=(List.getElem?_eq_some_iff.1 hi).1
   rw[List.length_append,List.length_singleton] at h1
   have:i=σ.length:=by omega
   subst this
   simp at hi
   subst hi
   exact ⟨_,Gh.Qi _ _ _ _,rfl,H.size,rfl,o,by simp,hxo _⟩
 ·intro i j es es' l m hij hr1 hr2 hi hj hl hm
  have side:∀(i:Nat) (es:Res) (l:Loc),es.isMi=true→(σ++[x])[i]?=some es→(G.put σ.length 0 ⟨h.size,0,0,0,0,0,false⟩).T i 0=some l→(i < σ.length∧σ[i]?=some es∧G.T i 0=some l∧l.b < h.size)∨(i=σ.length∧l.b=h.size):=by
   intro i es l hm hi hl
   by_cases hi2:i < σ.length
   ·rw[List.getElem?_append_left hi2] at hi
    obtain ⟨l0,h1,_,_,_,ob,h4,_⟩:=H.maps.mp i es hm hi
    have e:=hle.T _ _ _ h1
    rw[hl] at e;cases e
    exact .inl ⟨hi2,hi,h1,(Array.getElem?_eq_some_iff.1 h4).1⟩
   ·have h1:=(List.getElem?_eq_some_iff.1 hi).1
    rw[List.length_append,List.length_singleton] at h1
    have:i=σ.length:=by omega
    subst this
    rw[Gh.Qi] at hl
    cases hl
    exact .inr ⟨rfl,rfl⟩
  rcases side i es l hr1 hi hl with ⟨a1,a2,a3,a4⟩|⟨a1,a2⟩<;>rcases side j es' m hr2 hj hm with ⟨b1,b2,b3,b4⟩|⟨b1,b2⟩
  ·exact H.maps.dj i j es es' l m hij hr1 hr2 a2 b2 a3 b3
  ·omega
  ·omega
  ·exact absurd (a1.trans b1.symm) hij
theorem RelH.setMi {base:Heap} {G:Gh} {h:Heap} {σ:St} (H:RelH base G h σ) {i:Nat} {es:Res} (hes:es.isMi=true) (hi:σ[i]?=some es) {l:Loc} (hl:G.T i 0=some l)
  {o':Obj} {es':Res} (hes':es'.isMi=true) (hkv:MiRel G es' o'):RelH base G (h.setIfInBounds l.b o') (σ.set i es'):=by
 have hlt:i < σ.length:=(List.getElem?_eq_some_iff.1 hi).1
 obtain ⟨l0,m1,m2,m3,m0,ob,hb,hrb⟩:=H.maps.mp i es hes hi
 rw[hl] at m1;cases m1
 have hob:=hrb.mi
 have hbl:l.b < h.size:=(Array.getElem?_eq_some_iff.1 hb).1
 have hget:∀b,b≠l.b→(h.setIfInBounds l.b o')[b]?=h[b]?:=fun b hbb=>Array.getElem?_setIfInBounds_ne (Ne.symm hbb)
 have hself:(h.setIfInBounds l.b o')[l.b]?=some o':=by simp[hbl]
 have hcell:∀b o u,cellG (hp h) b o=some u→cellG (hp (h.setIfInBounds l.b o')) b o=some u:=by
  intro b o u hu
  have hbb:b≠l.b:=by rintro rfl;unfold cellG hp at hu;rw[hb] at hu;cases ob<;>first|(cases hu;done)|cases hob
  unfold cellG hp at hu ⊢
  rw[hget b hbb];exact hu
 have hne:∀(j:Nat) (r:Res),(σ.set i es')[j]?=some r→r.isMi=false→j≠i∧σ[j]?=some r:=by
  intro j r hj hr
  by_cases hji:j=i
  ·subst hji
   rw[List.getElem?_set_self hlt] at hj
   cases hj
   rw[hes'] at hr;cases hr
  ·rw[List.getElem?_set_ne (Ne.symm hji)] at hj;exact ⟨hji,hj⟩
 have hloc:∀j m,locOf G (σ.set i es') j=some m→locOf G σ j=some m:=by
  intro j m hj
  by_cases hji:j=i
  ·subst hji;unfold locOf at hj;rw[List.getElem?_set_self hlt] at hj;have hlv:es'.live=none:=(by cases es'<;>first|rfl|cases hes');simp[hlv] at hj
  ·unfold locOf at hj ⊢;rwa [List.getElem?_set_ne (Ne.symm hji)] at hj
 refine ⟨H.tab,by simp;exact H.size,fun b hbs=>by rw[hget b (by omega)];exact H.keep b hbs,fun b o u hu=>hcell _ _ _ (H.st b o u hu),?_,?_,?_,fun j k m n hjk hm hn=>H.disj j k m n hjk (hloc _ _ hm) (hloc _ _ hn),?_,?_,?_⟩
 ·intro j w cs hj
  obtain ⟨_,hj⟩:=hne j _ hj rfl
  obtain ⟨m,h1,h2,h3,h4,h5⟩:=H.obj j w cs hj
  refine ⟨m,h1,h2,h3,h4,fun k a ha=>?_⟩
  obtain ⟨u,h6,h7⟩:=h5 k a ha
  exact ⟨u,hcell _ _ _ h6,h7⟩
 ·intro j w cs hj
  obtain ⟨_,hj⟩:=hne j _ hj rfl
  exact H.frz j w cs hj
 ·intro j m hm b o hh
  obtain ⟨h1,h2,h3⟩:=H.own j m (hloc j m hm) b o hh
  refine ⟨h1,?_,h3⟩
  obtain ⟨d,E,fz,e1,e2⟩:=h2
  have hbb:b≠l.b:=by rintro rfl;exact miO_cells hb hob e1
  exact ⟨d,E,fz,by rw[hget b hbb];exact e1,e2⟩
 ·intro j w m hm
  obtain ⟨h1,h2⟩:=H.bd j w m hm
  refine ⟨by simpa using h1,fun r w' hr hw=>?_⟩
  obtain ⟨_,hr⟩:=hne j r hr (Y99 hw)
  exact h2 r w' hr hw
 ·intro j fs hfm hj
  by_cases hji:j=i
  ·subst hji
   rw[List.getElem?_set_self hlt] at hj
   cases hj
   exact ⟨l,hl,m2,m3,m0,o',hself,hkv⟩
  ·rw[List.getElem?_set_ne (Ne.symm hji)] at hj
   obtain ⟨m,h1,h2,h3,h0,o2,h4,h5⟩:=H.maps.mp j fs hfm hj
   exact ⟨m,h1,h2,h3,h0,o2,by rw[hget _ (H.maps.dj j i fs es m l hji hfm hes hj hi h1 hl)];exact h4,h5⟩
 ·intro j k fs fs' m n hjk hr1 hr2 hj hk hm hn
  have side:∀(j:Nat) (fs:Res),fs.isMi=true→(σ.set i es')[j]?=some fs→∃fs',fs'.isMi=true∧σ[j]?=some fs':=by
   intro j fs hf hj
   by_cases hji:j=i
   ·subst hji;exact ⟨es,hes,hi⟩
   ·rw[List.getElem?_set_ne (Ne.symm hji)] at hj;exact ⟨fs,hf,hj⟩
  obtain ⟨f1,g1,hj⟩:=side j fs hr1 hj
  obtain ⟨f2,g2,hk⟩:=side k fs' hr2 hk
  exact H.maps.dj j k f1 f2 m n hjk g1 g2 hj hk hm hn
def lit1:AV→Option Value
 | .v x=>some x
 | _=>none
def lit1s:List AV→Option (List Value)
 | []=>some []
 | a::as=>match lit1 a,lit1s as with
  | some x,some xs=>some (x::xs)
  | _,_=>none
def lit:AV→Option Value
 | .v x=>some x
 | .agg xs=>(lit1s xs).map fun l=>.agg l.toArray
 | _=>none
def lits:List AV→Option (List Value)
 | []=>some []
 | a::as=>match lit a,lits as with
  | some x,some xs=>some (x::xs)
  | _,_=>none
def subA (l:List AV) (off n:Nat):List AV:=(l.drop off).take n
def setAtA:List AV→Nat→List AV→List AV
 | cs,_,[]=>cs
 | cs,off,a::as=>setAtA (cs.set off a) (off+1) as
def fillA:List AV→List (Nat×Nat)→List AV→Option (List AV)
 | cs,[],[]=>some cs
 | cs,(off,sz)::ps,a::as=>if a.cells.length=sz∧off+sz≤cs.length then fillA (setAtA cs off a.cells) ps as else none
 | _,_,_=>none
def PF.av:PF→List AV→Option AV
 | .mov,[a]=>some a
 | .pick,[.v (.bool c),a,b]=>some (if c then a else b)
 | .eqn ng 0,[.ref _ _ _]=>some (.v (.bool ng))
 | .eqn ng 0,[.ep _]=>some (.v (.bool ng))
 | .eqn ng 1,[.sl n _ t]=>match t with
  | .nil=>some (.v (.bool (!ng)))
  | .full=>some (.v (.bool ng))
  | _=>if n=0 then none else some (.v (.bool ng))
 | .eqn ng 1,[.ms _ _ _ _ _]=>some (.v (.bool ng))
 | .eqn ng 2,[.fn _ _ _]=>some (.v (.bool ng))
 | .eqn ng 3,[.mp _]=>some (.v (.bool ng))
 | .eqn ng 4,[.ifc _ _]=>some (.v (.bool ng))
 | .fld off none,[.agg cs]=>cs[off]?
 | .fld off (some n),[.agg cs]=>some (.agg (subA cs off n))
 | .bld z ps,as=>(fillA (z.map abs1) ps as).map .agg
 | .len false,[.sl n _ _]=>some (.v (.int .i64 n))
 | .len false,[.ms _ _ _ n _]=>some (.v (.int .i64 n))
 | .ixa sz,[.sl n cs _,.v (.int _ i)]=>if 0≤i∧i < n then some (.ep (cs.drop (i.toNat * sz))) else none
 | .ixa sz,[.ms id w off n sz',.v (.int _ i)]=>if 0≤i∧i < n∧sz=sz' then some (.ref id w (off+i.toNat * sz)) else none
 | .ixaA n sz,[.ref id w off,.v (.int _ i)]=>if 0≤i∧i < n then some (.ref id w (off+i.toNat * sz)) else none
 | .ixaA n sz,[.ep cs,.v (.int _ i)]=>if 0≤i∧i < n then some (.ep (cs.drop (i.toNat * sz))) else none
 | .ixv n sz none,[.agg cs,.v (.int _ i)]=>if 0≤i∧i < n then cs[i.toNat * sz]? else none
 | .ixv n sz (some m),[.agg cs,.v (.int _ i)]=>if 0≤i∧i < n then some (.agg (subA cs (i.toNat * sz) m)) else none
 | .fla off,[.ref id w o]=>some (.ref id w (o+off))
 | .fla off,[.ep cs]=>some (.ep (cs.drop off))
 | .nilc,[.ref id w o]=>some (.ref id w o)
 | .nilc,[.ep cs]=>some (.ep cs)
 | .slc sz lo hi,.sl n cs _::xs=>match lit1s xs with
  | some vs=>(loHi lo hi n n vs).map fun (l,h)=>.sl (h - l) (subA cs (l * sz) ((h - l) * sz)) .none
  | none=>none
 | .slc sz lo hi,.ms id w off n sz'::xs=>match lit1s xs with
  | some vs=>if sz=sz' then (loHi lo hi n n vs).map fun (l,h)=>if l=0 then .ms id w off h sz else if h=l then .sl 0 [] .none else .ms id w (off+l * sz) (h - l) sz else none
  | none=>none
 | .slcA n sz lo hi,.ep cs::xs=>match lit1s xs with
  | some vs=>if n≤9223372036854775807 then (loHi lo hi n n vs).map fun (l,h)=>.sl (h - l) (subA cs (l * sz) ((h - l) * sz)) .none else none
  | none=>none
 | .mkf fn n,xs=>some (.fn fn n xs)
 | .mkif t,[a]=>some (.ifc t a)
 | .ext i,[.tup xs]=>xs[i]?
 | f,as=>match lits as with
  | some vs=>(PF.val f vs).map .v
  | none=>none
theorem lit1_rel {G:Gh} {a:AV} {u x:Value} (h:lit1 a=some x) (H:RelV G a u):u=x:=by
 cases H<;>simp[lit1] at h
 exact h
theorem Y6 {G:Gh}:∀{as:List AV} {vs xs:List Value},lit1s as=some xs→RelL G as vs→vs=xs:=by
 intro as
 induction as with
 | nil=>intro vs xs h H;simp[lit1s] at h;subst h;exact H.nil_inv
 | cons a as ih=>
  intro vs xs h H
  obtain ⟨u,us,rfl,h1,h2⟩:=H.cons_inv
  simp only[lit1s] at h
  split at h
  ·rename_i x ys e1 e2
   simp at h
   subst h
   rw[lit1_rel e1 h1,ih e2 h2]
  ·cases h
theorem lit_rel {G:Gh} {a:AV} {u x:Value} (h:lit a=some x) (H:RelV G a u):u=x:=by
 cases H with
 | v y=>simp[lit] at h;exact h
 | agg xs vs h1 h2=>
  simp only[lit,Option.map_eq_some_iff] at h
  obtain ⟨l,hl,rfl⟩:=h
  rw[Y6 hl ⟨h1,h2⟩]
 | _=>simp[lit] at h
theorem lits_rel {G:Gh}:∀{as:List AV} {vs xs:List Value},lits as=some xs→RelL G as vs→vs=xs:=by
 intro as
 induction as with
 | nil=>intro vs xs h H;simp[lits] at h;subst h;exact H.nil_inv
 | cons a as ih=>
  intro vs xs h H
  obtain ⟨u,us,rfl,h1,h2⟩:=H.cons_inv
  simp only[lits] at h
  split at h
  ·rename_i x ys e1 e2
   simp at h
   subst h
   rw[lit_rel e1 h1,ih e2 h2]
  ·cases h
theorem RelL.setAt {G:Gh}:∀{as:List AV} {vs:List Value},RelL G as vs→∀{cs:List AV} {ws:List Value},RelL G cs ws→∀off,RelL G (setAtA cs off as) (Go.Kx.setAt ws off vs):=by
 intro as
 induction as with
 | nil=>intro vs H cs ws K off;rw[H.nil_inv];exact K
 | cons a as ih=>
  intro vs H cs ws K off
  obtain ⟨u,us,rfl,h1,h2⟩:=H.cons_inv
  exact ih h2 (K.set off h1) (off+1)
theorem fillA_rel {G:Gh}:∀(ps:List (Nat×Nat)) {as:List AV} {vs:List Value} {cs cs':List AV} {ws:List Value},fillA cs ps as=some cs'→RelL G as vs→RelL G cs ws →
  ∃ws',fillL ws ps vs=some ws'∧RelL G cs' ws':=by
 intro ps
 induction ps with
 | nil=>
  intro as vs cs cs' ws h H K
  cases as with
  | nil=>simp[fillA] at h;subst h;rw[H.nil_inv];exact ⟨ws,rfl,K⟩
  | cons a as=>simp[fillA] at h
 | cons p ps ih=>
  obtain ⟨off,sz⟩:=p
  intro as vs cs cs' ws h H K
  cases as with
  | nil=>simp[fillA] at h
  | cons a as=>
   obtain ⟨u,us,rfl,h1,h2⟩:=H.cons_inv
   simp only[fillA] at h
   split at h
   ·rename_i hc
    have hcell:=h1.cells
    obtain ⟨ws',e,k⟩:=ih h h2 (RelL.setAt hcell K off)
    refine ⟨ws',?_,k⟩
    simp only[fillL]
    rw[if_pos]
    ·exact e
    ·have:=hcell.1
     simp at this
     exact ⟨by omega,by rw[K.1];exact hc.2⟩
   ·cases h
theorem bound_le {y z:Nat} (hyz:y≤z) {b:Value} {n:Nat} (h:bound y b=some n):bound z b=some n:=by
 unfold bound at *
 cases b with
 | int k i=>
  simp only at h ⊢
  split at h
  ·rename_i hc;rw[if_pos (by omega)];exact h
  ·cases h
 | _=>simp at h
theorem Y7 {y n:Nat} {b:Value} (h:bound y b=some n):n≤y:=by
 unfold bound at h
 cases b with
 | int k i=>
  simp only at h
  split at h
  ·simp at h;omega
  ·cases h
 | _=>simp at h
theorem loHi_le {lo hi:Bool} {n c l h:Nat} {vs:List Value} (hc:n≤c) (H:loHi lo hi n n vs=some (l,h)):loHi lo hi n c vs=some (l,h)∧l≤h∧h≤n:=by
 unfold loHi at *
 split at H
 ·simp at H;obtain ⟨rfl,rfl⟩:=H;exact ⟨rfl,Nat.zero_le _,Nat.le_refl _⟩
 ·simp only[Option.map_eq_some_iff,Prod.mk.injEq] at H
  obtain ⟨x,hx,rfl,rfl⟩:=H
  rw[bound_le hc hx]
  exact ⟨rfl,Nat.zero_le _,Y7 hx⟩
 ·simp only[Option.map_eq_some_iff,Prod.mk.injEq] at H
  obtain ⟨x,hx,rfl,rfl⟩:=H
  exact ⟨by rw[hx];rfl,Y7 hx,Nat.le_refl _⟩
 ·simp only[Option.bind_eq_some_iff,Option.map_eq_some_iff,Prod.mk.injEq] at H
  obtain ⟨y,hy,x,hx,rfl,rfl⟩:=H
  rw[bound_le hc hy]
  simp only[Option.bind_some,hx]
  exact ⟨rfl,Y7 hx,Y7 hy⟩
 ·cases H
theorem av_sound {G:Gh} {f:PF} {as:List AV} {a:AV} {vs:List Value} (h:PF.av f as=some a) (H:RelL G as vs):∃u,PF.val f vs=some u∧RelV G a u:=by
 have two:∀{x y:AV},RelL G [x,y] vs→∃u w,vs=[u,w]∧RelV G x u∧RelV G y w:=by
  intro x y H
  obtain ⟨u,us,rfl,h1,H1⟩:=H.cons_inv
  obtain ⟨w,ws,rfl,h2,H2⟩:=H1.cons_inv
  rw[H2.nil_inv]
  exact ⟨u,w,rfl,h1,h2⟩
 have one:∀{x:AV},RelL G [x] vs→∃u,vs=[u]∧RelV G x u:=by
  intro x H
  obtain ⟨u,us,rfl,h1,H1⟩:=H.cons_inv
  rw[H1.nil_inv]
  exact ⟨u,rfl,h1⟩
 unfold PF.av at h
 split at h
 ·
  obtain ⟨u,rfl,h1⟩:=one H
  cases h;exact ⟨u,rfl,h1⟩
 ·obtain ⟨u,us,rfl,h1,H1⟩:=H.cons_inv
  obtain ⟨x,xs,rfl,h2,H2⟩:=H1.cons_inv
  obtain ⟨y,ys,rfl,h3,H3⟩:=H2.cons_inv
  obtain rfl:=H3.nil_inv
  cases h1
  cases h
  refine ⟨_,rfl,?_⟩
  split<;>assumption
 ·obtain ⟨u,rfl,h1⟩:=one H
  cases h;cases h1
  exact ⟨_,rfl,by rename_i ng _ _ _ _ _ _;cases ng<;>exact .v _⟩
 ·obtain ⟨u,rfl,h1⟩:=one H
  cases h;cases h1
  exact ⟨_,rfl,by rename_i ng _ _ _ _ _ _ _;cases ng<;>exact .v _⟩
 ·obtain ⟨u,rfl,h1⟩:=one H
  rename_i ng n cs t
  cases h1 with
  | sl _ _ _ a cap vs h1 h2 h3 h4 h5 h6=>
   cases t with
   | nil=>obtain ⟨rfl,rfl,rfl⟩:=h6;cases h;refine ⟨_,rfl,?_⟩;cases ng<;>exact .v _
   | full=>obtain ⟨_,b,off,rfl⟩:=h6;cases h;refine ⟨_,rfl,?_⟩;cases ng<;>exact .v _
   | none=>
    simp only at h
    split at h
    ·cases h
    ·rcases h5 with h5|⟨b,off,rfl,_⟩
     ·exact absurd h5.1 (by assumption)
     ·cases h;refine ⟨_,rfl,?_⟩;cases ng<;>exact .v _
   | id i w s=>
    simp only at h
    split at h
    ·cases h
    ·rcases h5 with h5|⟨b,off,rfl,_⟩
     ·exact absurd h5.1 (by assumption)
     ·cases h;refine ⟨_,rfl,?_⟩;cases ng<;>exact .v _
 ·obtain ⟨u,rfl,h1⟩:=one H
  rename_i ng _ _ _ _ _
  cases h;cases h1
  exact ⟨_,rfl,by cases ng<;>exact .v _⟩
 ·obtain ⟨u,rfl,h1⟩:=one H
  rename_i ng _ _ _
  cases h;cases h1
  exact ⟨_,rfl,by cases ng<;>exact .v _⟩
 ·obtain ⟨u,rfl,h1⟩:=one H
  rename_i ng _
  cases h;cases h1
  exact ⟨_,rfl,by cases ng<;>exact .v _⟩
 ·obtain ⟨u,rfl,h1⟩:=one H
  rename_i ng _ _
  cases h;cases h1
  exact ⟨_,rfl,by cases ng<;>exact .v _⟩
 ·
  obtain ⟨u,rfl,h1⟩:=one H
  cases h1 with
  | agg xs ws k1 k2=>
   obtain ⟨w,hw,hr⟩:=RelL.get ⟨k1,k2⟩ h
   exact ⟨w,by simpa[PF.val] using hw,hr⟩
 ·obtain ⟨u,rfl,h1⟩:=one H
  cases h1 with
  | agg xs ws k1 k2=>
   cases h
   have:=fun o k=>(RelL.drop (G:=G) ⟨k1,k2⟩ o).take k
   exact ⟨_,rfl,.agg _ _ (this _ _).1 (this _ _).2⟩
 ·
  simp only[Option.map_eq_some_iff] at h
  obtain ⟨cs,hcs,rfl⟩:=h
  obtain ⟨ws,e,k⟩:=fillA_rel _ hcs H (RelL.abs1s G _)
  refine ⟨.agg ws.toArray,?_,.agg _ _ k.1 k.2⟩
  simp[PF.val,e]
 ·obtain ⟨u,rfl,h1⟩:=one H
  cases h1;cases h
  exact ⟨_,rfl,.v _⟩
 ·obtain ⟨u,rfl,h1⟩:=one H
  cases h1;cases h
  exact ⟨_,rfl,.v _⟩
 ·
  obtain ⟨u,w,rfl,h1,h2⟩:=two H
  cases h2
  cases h1 with
  | sl _ _ _ a cap vs k1 k2 h3 h4 h5 h6=>
   split at h
   ·rename_i hi
    cases h
    rcases h5 with ⟨h5,_⟩|⟨b,off,rfl,h5⟩
    ·omega
    ·refine ⟨.pointer (some ⟨b,off+_ * _,none⟩),by simp[PF.val,hi,QY];rfl,?_⟩
     have:=RelL.drop ⟨k1,k2⟩
     refine .ep _ _ b _ (this _).1 (this _).2 ?_
     intro i u hu
     rw[List.getElem?_drop] at hu
     rw[Nat.add_assoc]
     exact h5 _ _ hu
   ·cases h
 ·obtain ⟨u,w,rfl,h1,h2⟩:=two H
  cases h2
  cases h1 with
  | ms _ _ _ _ _ l cap k1 k2 k3 k4 k5=>
   split at h
   ·rename_i hi
    obtain ⟨h0,hi,rfl⟩:=hi
    cases h
    refine ⟨_,by simp[PF.val,h0,hi,QY];rfl,?_⟩
    rw[Nat.add_assoc]
    exact .ref _ _ _ l k1 k2
   ·cases h
 ·obtain ⟨u,w,rfl,h1,h2⟩:=two H
  cases h2
  cases h1 with
  | ref _ _ _ l k1 k2=>
   split at h
   ·rename_i hi
    cases h
    refine ⟨_,by simp[PF.val,hi,QY];rfl,?_⟩
    rw[Nat.add_assoc]
    exact .ref _ _ _ l k1 k2
   ·cases h
 ·obtain ⟨u,w,rfl,h1,h2⟩:=two H
  cases h2
  cases h1 with
  | ep cs vs b off k1 k2 k3=>
   split at h
   ·rename_i hi
    cases h
    refine ⟨.pointer (some ⟨b,off+_ * _,none⟩),by simp[PF.val,hi,QY];rfl,?_⟩
    have:=RelL.drop ⟨k1,k2⟩
    refine .ep _ _ b _ (this _).1 (this _).2 ?_
    intro i u hu
    rw[List.getElem?_drop] at hu
    rw[Nat.add_assoc]
    exact k3 _ _ hu
   ·cases h
 ·obtain ⟨u,w,rfl,h1,h2⟩:=two H
  cases h2
  cases h1 with
  | agg xs ws k1 k2=>
   split at h
   ·rename_i hi
    obtain ⟨w,hw,hr⟩:=RelL.get ⟨k1,k2⟩ h
    exact ⟨w,by simpa[PF.val,hi] using hw,hr⟩
   ·cases h
 ·obtain ⟨u,w,rfl,h1,h2⟩:=two H
  cases h2
  cases h1 with
  | agg xs ws k1 k2=>
   split at h
   ·rename_i hi
    cases h
    have:=fun o k=>(RelL.drop (G:=G) ⟨k1,k2⟩ o).take k
    exact ⟨_,by simp[PF.val,hi];rfl,.agg _ _ (this _ _).1 (this _ _).2⟩
   ·cases h
 ·obtain ⟨u,rfl,h1⟩:=one H
  cases h1 with
  | ref _ _ _ l k1 k2=>
   cases h
   refine ⟨_,by simp[PF.val,QY];rfl,?_⟩
   rw[Nat.add_assoc]
   exact .ref _ _ _ l k1 k2
 ·obtain ⟨u,rfl,h1⟩:=one H
  cases h1 with
  | ep cs vs b off k1 k2 k3=>
   cases h
   refine ⟨.pointer (some ⟨b,off+_,none⟩),by simp[PF.val,QY];rfl,?_⟩
   have:=RelL.drop ⟨k1,k2⟩
   refine .ep _ _ b _ (this _).1 (this _).2 ?_
   intro i u hu
   rw[List.getElem?_drop] at hu
   rw[Nat.add_assoc]
   exact k3 _ _ hu
 ·obtain ⟨u,rfl,h1⟩:=one H
  cases h
  cases h1 with|ref _ _ _ l k1 k2=>exact ⟨_,rfl,.ref _ _ _ l k1 k2⟩
 ·obtain ⟨u,rfl,h1⟩:=one H
  cases h
  cases h1 with|ep _ vs b off k1 k2 k3=>exact ⟨_,rfl,.ep _ vs b off k1 k2 k3⟩
 ·
  rename_i sz lo hi n cs t xs
  obtain ⟨u,us,rfl,h1,H1⟩:=H.cons_inv
  split at h
  ·rename_i vs hvs
   obtain rfl:=Y6 hvs H1
   simp only[Option.map_eq_some_iff,Prod.exists] at h
   obtain ⟨l,m,hlm,rfl⟩:=h
   cases h1 with
   | sl _ _ _ a cap ws k1 k2 h3 h4 h5 h6=>
    obtain ⟨e1,e2,e3⟩:=loHi_le h3 hlm
    refine ⟨.slice (if cap=l then a else a.map (·.add (l * sz))) (m - l) (cap - l),by simp[PF.val,e1],?_⟩
    have hsub:=(RelL.drop (G:=G) ⟨k1,k2⟩ (l * sz)).take ((m - l) * sz)
    refine .sl _ _ _ _ _ _ hsub.1 hsub.2 (by omega) (by omega) ?_ trivial
    by_cases hz:m - l=0
    ·exact .inl ⟨hz,by simp[hz]⟩
    ·rw[if_neg (by omega)]
     rcases h5 with ⟨h5,_⟩|⟨b,off,rfl,h5⟩
     ·omega
     ·refine .inr ⟨b,off+l * sz,by simp[QY],?_⟩
      intro i u hu
      simp only[List.getElem?_take] at hu
      split at hu
      ·rw[List.getElem?_drop] at hu
       rw[Nat.add_assoc]
       exact h5 _ _ hu
      ·cases hu
  ·cases h
 ·rename_i sz lo hi id w off n sz' xs
  obtain ⟨u,us,rfl,h1,H1⟩:=H.cons_inv
  split at h
  ·rename_i vs hvs
   obtain rfl:=Y6 hvs H1
   split at h
   ·rename_i hsz
    subst hsz
    simp only[Option.map_eq_some_iff,Prod.exists] at h
    obtain ⟨l,m,hlm,rfl⟩:=h
    cases h1 with
    | ms _ _ _ _ _ loc cap k1 k2 k3 k4 k5=>
     obtain ⟨e1,e2,e3⟩:=loHi_le k3 hlm
     refine ⟨.slice (if cap=l then some ⟨loc.b,loc.off+off,none⟩ else (some (⟨loc.b,loc.off+off,none⟩:Addr)).map (·.add (l * sz))) (m - l) (cap - l),by simp[PF.val,e1],?_⟩
     by_cases hl:l=0
     ·subst hl
      simp only[if_true,Nat.sub_zero,Nat.zero_mul]
      have:(if cap=0 then some (⟨loc.b,loc.off+off,none⟩:Addr) else (some (⟨loc.b,loc.off+off,none⟩:Addr)).map (·.add 0))=some ⟨loc.b,loc.off+off,none⟩:=by
       split
       ·rfl
       ·simp[Addr.add]
      rw[this]
      exact .ms _ _ _ _ _ loc cap k1 k2 (by omega) k4 k5
     ·rw[if_neg hl]
      by_cases hml:m=l
      ·rw[if_pos hml,hml,Nat.sub_self]
       exact .sl 0 [] .none _ _ [] rfl (fun i a u h=>by simp at h) (Nat.zero_le _) (by omega) (.inl ⟨rfl,rfl⟩) trivial
      ·rw[if_neg hml,if_neg (by omega)]
       simp only[Option.map_some,QY]
       rw[Nat.add_assoc]
       refine .ms _ _ _ _ _ loc (cap - l) k1 k2 (by omega) (by omega) ?_
       have:cap * sz=l * sz+(cap - l) * sz:=by rw[←Nat.add_mul];congr 1;omega
       omega
   ·cases h
  ·cases h
 ·rename_i n sz lo hi cs xs
  obtain ⟨u,us,rfl,h1,H1⟩:=H.cons_inv
  split at h
  ·rename_i vs hvs
   obtain rfl:=Y6 hvs H1
   split at h
   ·rename_i hn
    simp only[Option.map_eq_some_iff,Prod.exists] at h
    obtain ⟨l,m,hlm,rfl⟩:=h
    cases h1 with
    | ep _ ws b off k1 k2 k3=>
     obtain ⟨e1,e2,e3⟩:=loHi_le (Nat.le_refl n) hlm
     refine ⟨.slice (some (if n=l then ⟨b,off,none⟩ else (⟨b,off,none⟩:Addr).add (l * sz))) (m - l) (n - l),by simp[PF.val,e1],?_⟩
     have hsub:=(RelL.drop (G:=G) ⟨k1,k2⟩ (l * sz)).take ((m - l) * sz)
     refine .sl _ _ _ _ _ _ hsub.1 hsub.2 (by omega) (by omega) ?_ trivial
     by_cases hz:m - l=0
     ·exact .inl ⟨hz,by simp[hz]⟩
     ·rw[if_neg (by omega)]
      refine .inr ⟨b,off+l * sz,by simp[QY],?_⟩
      intro i u hu
      simp only[List.getElem?_take] at hu
      split at hu
      ·rw[List.getElem?_drop] at hu
       rw[Nat.add_assoc]
       exact k3 _ _ hu
      ·cases hu
   ·cases h
  ·cases h
 ·cases h
  exact ⟨_,by simp[PF.val],.fn _ _ _ _ H.1 H.2⟩
 ·obtain ⟨u,rfl,h1⟩:=one H
  cases h
  exact ⟨_,rfl,.ifc _ _ _ h1⟩
 ·obtain ⟨u,rfl,h1⟩:=one H
  cases h1 with
  | tup xs ws k1 k2=>
   obtain ⟨w,hw,hr⟩:=RelL.get ⟨k1,k2⟩ h
   exact ⟨w,by simpa[PF.val] using hw,hr⟩
 ·split at h
  ·rename_i xs hxs
   obtain rfl:=lits_rel hxs H
   simp only[Option.map_eq_some_iff] at h
   obtain ⟨x,hx,rfl⟩:=h
   exact ⟨x,hx,.v x⟩
  ·cases h
def cellsA:Option Nat→List AV→Option AV
 | none,cs=>cs[0]?
 | some k,cs=>if k≤cs.length then some (.agg (cs.take k)) else none
def ldA (n:Option Nat) (a:AV) (σ:St):Option AV:=
 match a with
 | .ep cs=>cellsA n cs
 | .ref i w off=>match σ[i]? with
  | some (.obj w' cs)=>if w=w' then cellsA n (cs.drop off) else none
  | some (.frz w' cs)=>if w=w' then cellsA n (cs.drop off) else none
  | _=>none
 | _=>none
theorem XK {G:Gh} {h:Heap} {n:Option Nat} {cs:List AV} {a:AV} {b off:Nat} (ha:cellsA n cs=some a) (H:∀j a,cs[j]?=some a→∃u,cellG (hp h) b (off+j)=some u∧RelV G a u):
  ∃u,ldV n (.pointer (some ⟨b,off,none⟩)) (hp h)=some u∧RelV G a u:=by
 cases n with
 | none=>
  obtain ⟨u,h1,h2⟩:=H 0 a ha
  exact ⟨u,h1,h2⟩
 | some k=>
  simp only[cellsA] at ha
  split at ha
  ·rename_i hk
   cases ha
   obtain ⟨vs,hvs⟩:∃vs:List Value,RelL G (cs.take k) vs∧∀(j:Nat) (u:Value),vs[j]?=some u→cellG (hp h) b (off+j)=some u:=by
    have:∀(l:List AV) (o:Nat),(∀j a,l[j]?=some a→∃u,cellG (hp h) b (o+j)=some u∧RelV G a u)→∃vs:List Value,RelL G l vs∧∀(j:Nat) (u:Value),vs[j]?=some u→cellG (hp h) b (o+j)=some u:=by
     intro l
     induction l with
     | nil=>intro o _;exact ⟨[],.nil G,fun j u h=>by simp at h⟩
     | cons x l ih=>
      intro o hl
      obtain ⟨u,h1,h2⟩:=hl 0 x rfl
      obtain ⟨vs,h3,h4⟩:=ih (o+1) (fun j a ha=>by
       have:=hl (j+1) a (by simpa using ha)
       rwa [show o+1+j=o+(j+1) by omega])
      refine ⟨u::vs,.cons h2 h3,fun j w hw=>?_⟩
      cases j with
      | zero=>simp at hw;subst hw;exact h1
      | succ j=>
       have:=h4 j w (by simpa using hw)
       rwa [show o+1+j=o+(j+1) by omega] at this
    refine this _ off fun j a ha=>?_
    simp only[List.getElem?_take] at ha
    split at ha
    ·exact H j a ha
    ·cases ha
   obtain ⟨hr,hc⟩:=hvs
   have hlen:vs.length=k:=by rw[hr.1];simp;omega
   have:=Z54 (g:=hp h) (b:=b) (l:=vs) (off:=off) hc
   rw[hlen] at this
   exact ⟨.agg vs.toArray,by simp[ldV,this],.agg _ _ hr.1 hr.2⟩
  ·cases ha
theorem J72 {base:Heap} {G:Gh} {h:Heap} {σ:St} (H:RelH base G h σ) {n:Option Nat} {a r:AV} {u:Value} (hl:ldA n a σ=some r) (hr:RelV G a u):∃w,ldV n u (hp h)=some w∧RelV G r w:=by
 unfold ldA at hl
 split at hl
 ·cases hr with
  | ep cs vs b off k1 k2 k3=>
   refine XK hl fun j a ha=>?_
   obtain ⟨u,hu,hr⟩:=RelL.get ⟨k1,k2⟩ ha
   exact ⟨u,H.st _ _ _ (k3 _ _ hu),hr⟩
 ·cases hr with
  | ref i w off l k1 k2=>
   split at hl
   ·rename_i w' cs hi
    split at hl
    ·rename_i hw
     subst hw
     obtain ⟨m,h1,h2,h3,h4,h5⟩:=H.obj _ _ _ hi
     rw[k1] at h1
     cases h1
     refine XK hl fun j a ha=>?_
     rw[List.getElem?_drop] at ha
     obtain ⟨u,h6,h7⟩:=h5 _ a ha
     exact ⟨u,by rw[Nat.add_assoc];exact h6,h7⟩
    ·cases hl
   ·rename_i w' cs hi
    split at hl
    ·rename_i hw
     subst hw
     obtain ⟨m,h1,h2,h3⟩:=H.frz _ _ _ hi
     rw[k1] at h1
     cases h1
     refine XK hl fun j a ha=>?_
     rw[List.getElem?_drop] at ha
     obtain ⟨u,h6,h7⟩:=h3 _ a ha
     exact ⟨u,H.st _ _ _ (by rw[Nat.add_assoc];exact h6),h7⟩
    ·cases hl
   ·cases hl
 ·cases hl
mutual
def AV.res (σ:St):AV→AV
 | .v x=>.v x
 | .agg xs=>.agg (AV.resL σ xs)
 | .tup xs=>.tup (AV.resL σ xs)
 | .sl n cs _=>.sl n (AV.resL σ cs) .none
 | .ep cs=>.ep (AV.resL σ cs)
 | .ref i w off=>match σ[i]? with
  | some (.frz w' cs)=>if w=w' then .ep (cs.drop off) else .ref i w off
  | _=>.ref i w off
 | .ms i w off n sz=>match σ[i]? with
  | some (.frz w' cs)=>if w=w' then .sl n (subA cs off (n * sz)) .none else .ms i w off n sz
  | _=>.ms i w off n sz
 | .fn f k xs=>.fn f k (AV.resL σ xs)
 | .ifc t x=>.ifc t (AV.res σ x)
 | .mp i=>.mp i
def AV.resL (σ:St):List AV→List AV
 | []=>[]
 | x::xs=>AV.res σ x::AV.resL σ xs
end
mutual
def AV.pure:AV→Bool
 | .v _=>true
 | .agg xs=>AV.pureL xs
 | .tup xs=>AV.pureL xs
 | .sl _ cs t=>(match t with|.id _ _ _=>false|_=>true)&&AV.pureL cs
 | .ep cs=>AV.pureL cs
 | .ref _ _ _=>false
 | .ms _ _ _ _ _=>false
 | .fn _ _ xs=>AV.pureL xs
 | .ifc _ x=>AV.pure x
 | .mp _=>false
def AV.pureL:List AV→Bool
 | []=>true
 | x::xs=>AV.pure x&&AV.pureL xs
end
theorem Q05 (σ:St) (xs:List AV):AV.resL σ xs=xs.map (AV.res σ):=by
 induction xs with
 | nil=>rfl
 | cons x xs ih=>simp[AV.resL,ih]
theorem Y8 (xs:List AV):AV.pureL xs=xs.all AV.pure:=by
 induction xs with
 | nil=>rfl
 | cons x xs ih=>simp[AV.pureL,ih]
theorem ZI {xs:List AV} (h:AV.pureL xs=true) {i:Nat} {a:AV} (ha:xs[i]?=some a):a.pure=true:=by
 rw[Y8,List.all_eq_true] at h
 exact h a (List.mem_of_getElem? ha)
theorem RelL.choose {G:Gh} {Q:Nat→Value→Prop}:∀{cs:List AV},(∀j a,cs[j]?=some a→∃u,Q j u∧RelV G a u)→∃vs,RelL G cs vs∧∀j u,vs[j]?=some u→Q j u:=by
 intro cs
 induction cs generalizing Q with
 | nil=>intro _;exact ⟨[],.nil G,fun j u h=>by simp at h⟩
 | cons x l ih=>
  intro hl
  obtain ⟨u,h1,h2⟩:=hl 0 x rfl
  obtain ⟨vs,h3,h4⟩:=ih (Q:=fun j=>Q (j+1)) (fun j a ha=>hl (j+1) a (by simpa using ha))
  refine ⟨u::vs,.cons h2 h3,fun j w hw=>?_⟩
  cases j with
  | zero=>simp at hw;subst hw;exact h1
  | succ j=>exact h4 j w (by simpa using hw)
theorem J73 {base:Heap} {G:Gh} {h:Heap} {σ:St} (H:RelH base G h σ) {a:AV} {u:Value} (hr:RelV G a u):RelV G (a.res σ) u:=by
 have lst:∀{xs:List AV} {vs:List Value},(∀(i:Nat) (a:AV) (u:Value),xs[i]?=some a→vs[i]?=some u→RelV G (a.res σ) u)→∀(i:Nat) (a:AV) (u:Value),(AV.resL σ xs)[i]?=some a→vs[i]?=some u→RelV G a u:=by
  intro xs vs ih i a u ha hu
  rw[Q05,List.getElem?_map,Option.map_eq_some_iff] at ha
  obtain ⟨b,hb,rfl⟩:=ha
  exact ih i b u hb hu
 induction hr with
 | v x=>exact .v x
 | agg xs vs h1 h2 ih=>exact .agg _ _ (by rw[Q05];simpa using h1) (lst ih)
 | tup xs vs h1 h2 ih=>exact .tup _ _ (by rw[Q05];simpa using h1) (lst ih)
 | sl n cs t a cap vs h1 h2 h3 h4 h5 h6 ih=>exact .sl _ _ _ _ _ vs (by rw[Q05];simpa using h1) (lst ih) h3 h4 h5 trivial
 | ep cs vs b off h1 h2 h3 ih=>exact .ep _ vs _ _ (by rw[Q05];simpa using h1) (lst ih) h3
 | ref i ver off l h1 h2=>
  simp only[AV.res]
  split
  ·rename_i w' cs hi
   split
   ·rename_i hw
    subst hw
    obtain ⟨m,k1,k2,k3⟩:=H.frz _ _ _ hi
    rw[h1] at k1
    cases k1
    obtain ⟨vs,e1,e2⟩:=RelL.choose k3
    have:=e1.drop off
    refine .ep _ (vs.drop off) _ _ this.1 this.2 ?_
    intro i u hu
    rw[List.getElem?_drop] at hu
    rw[Nat.add_assoc]
    exact e2 _ _ hu
   ·exact .ref _ _ _ l h1 h2
  ·exact .ref _ _ _ l h1 h2
 | ms i ver off n sz l cap h1 h2 h3 h4 h5=>
  simp only[AV.res]
  split
  ·rename_i w' cs hi
   split
   ·rename_i hw
    subst hw
    obtain ⟨m,k1,k2,k3⟩:=H.frz _ _ _ hi
    rw[h1] at k1
    cases k1
    obtain ⟨vs,e1,e2⟩:=RelL.choose k3
    have:=(e1.drop off).take (n * sz)
    refine .sl _ _ _ _ _ _ this.1 this.2 h3 h4 (.inr ⟨_,_,rfl,?_⟩) trivial
    intro i u hu
    simp only[List.getElem?_take] at hu
    split at hu
    ·rw[List.getElem?_drop] at hu
     rw[Nat.add_assoc]
     exact e2 _ _ hu
    ·cases hu
   ·exact .ms _ _ _ _ _ l cap h1 h2 h3 h4 h5
  ·exact .ms _ _ _ _ _ l cap h1 h2 h3 h4 h5
 | fn f k xs vs h1 h2 ih=>exact .fn _ _ _ _ (by rw[Q05];simpa using h1) (lst ih)
 | ifc t x u h ih=>exact .ifc _ _ _ ih
 | mp i l h1 h2=>exact .mp _ l h1 h2
theorem J74 {G:Gh} {T:Nat→Nat→Option Loc} {a:AV} {u:Value} (hr:RelV G a u) (hp:a.pure=true):RelV ⟨G.g,T⟩ a u:=by
 induction hr with
 | v x=>exact .v x
 | agg xs vs h1 h2 ih=>exact .agg _ _ h1 fun i a u ha hu=>ih i a u ha hu (ZI (by simpa[AV.pure] using hp) ha)
 | tup xs vs h1 h2 ih=>exact .tup _ _ h1 fun i a u ha hu=>ih i a u ha hu (ZI (by simpa[AV.pure] using hp) ha)
 | sl n cs t a cap vs h1 h2 h3 h4 h5 h6 ih=>
  simp only[AV.pure,Bool.and_eq_true] at hp
  refine .sl _ _ _ _ _ vs h1 (fun i a u ha hu=>ih i a u ha hu (ZI hp.2 ha)) h3 h4 h5 ?_
  cases t with
  | id i w s=>simp at hp
  | _=>exact h6
 | ep cs vs b off h1 h2 h3 ih=>exact .ep _ vs _ _ h1 (fun i a u ha hu=>ih i a u ha hu (ZI (by simpa[AV.pure] using hp) ha)) h3
 | ref i ver off l h1 h2=>simp[AV.pure] at hp
 | ms i ver off n sz l cap h1 h2 h3 h4 h5=>simp[AV.pure] at hp
 | fn f k xs vs h1 h2 ih=>exact .fn _ _ _ _ h1 fun i a u ha hu=>ih i a u ha hu (ZI (by simpa[AV.pure] using hp) ha)
 | ifc t x u h ih=>exact .ifc _ _ _ (ih (by simpa[AV.pure] using hp))
 | mp i l h1 h2=>simp[AV.pure] at hp
theorem RelH.kill {base:Heap} {G:Gh} {h:Heap} {σ:St} (H:RelH base G h σ) {i w:Nat} {cs:List AV} (hi:σ[i]?=some (.obj w cs)) {cs':List AV} {l:Loc} (hl:G.T i w=some l)
  (hc:∀j a,cs'[j]?=some a→∃u,G.g l.b (l.off+j)=some u∧RelV G a u):RelH base G h (σ.set i (.frz w cs')):=by
 have hlt:i < σ.length:=(List.getElem?_eq_some_iff.1 hi).1
 have hset:(σ.set i (.frz w cs'))[i]?=some (.frz w cs'):=by simp[hlt]
 have hloc:∀j l,locOf G (σ.set i (.frz w cs')) j=some l→locOf G σ j=some l:=by
  intro j l hj
  by_cases hji:j=i
  ·subst hji;unfold locOf at hj;rw[hset] at hj;simp[Res.live] at hj
  ·unfold locOf at hj ⊢;rwa [List.getElem?_set_ne (Ne.symm hji)] at hj
 refine ⟨H.tab,H.size,H.keep,H.st,?_,?_,fun j m hm=>H.own j m (hloc j m hm),fun j k m n hjk hm hn=>H.disj j k m n hjk (hloc _ _ hm) (hloc _ _ hn),?_,H.maps.mono (XJ rfl) (fun _ _ _ h=>h) (fun _ _ _ h=>h) fun _ _ _ h=>h⟩
 ·intro j v ds hj
  have hji:j≠i:=by rintro rfl;rw[hset] at hj;simp at hj
  rw[List.getElem?_set_ne (Ne.symm hji)] at hj
  exact H.obj j v ds hj
 ·intro j v ds hj
  by_cases hji:j=i
  ·subst hji
   rw[hset] at hj
   simp at hj
   obtain ⟨rfl,rfl⟩:=hj
   obtain ⟨m,h1,h2,_⟩:=H.obj j w cs hi
   rw[hl] at h1
   cases h1
   exact ⟨l,hl,h2,hc⟩
  ·rw[List.getElem?_set_ne (Ne.symm hji)] at hj
   exact H.frz j v ds hj
 ·intro j v m hm
  obtain ⟨h1,h2⟩:=H.bd j v m hm
  refine ⟨by simpa using h1,fun r w' hr hw'=>?_⟩
  by_cases hji:j=i
  ·subst hji
   rw[hset] at hr
   simp at hr
   subst hr
   simp[Res.live] at hw'
  ·rw[List.getElem?_set_ne (Ne.symm hji)] at hr
   exact h2 r w' hr hw'
def freeze1 (σ:St) (i:Nat):St:=match σ[i]? with
 | some (.obj w cs)=>σ.set i (.frz w (AV.resL σ cs))
 | _=>σ
def freeze (is:List Nat) (σ:St):St:=is.foldl freeze1 σ
theorem RelH.freeze1 {base:Heap} {G:Gh} {h:Heap} {σ:St} (H:RelH base G h σ) (i:Nat):∃G',Gh.le base.size G G'∧RelH base G' h (freeze1 σ i):=by
 unfold Go.Kx.freeze1
 split
 ·rename_i w cs hi
  obtain ⟨l,h1,h2,h3,h4,h5⟩:=H.obj i w cs hi
  obtain ⟨vs,e1,e2⟩:=RelL.choose h5
  have hlen:vs.length=cs.length:=e1.1
  have hli:locOf G σ i=some l:=by unfold locOf;rw[hi];exact h1
  have hhas:∀o,l.off≤o→o < l.off+vs.length→l.has l.b o:=fun o a b=>⟨h2,rfl,by omega,by omega⟩
  by_cases h0:cs.length=0
  ·refine ⟨G,.refl _ _,H.kill hi h1 fun j a ha=>?_⟩
   have:=(List.getElem?_eq_some_iff.1 ha).1
   rw[Q05,List.length_map] at this
   omega
  ·
   have hb:base.size≤l.b:=(H.own i l hli l.b l.off (hhas _ (by omega) (by omega))).1
   have hgn:∀j,j < vs.length→G.g l.b (l.off+j)=none:=fun j hj=>(H.own i l hli _ _ (hhas _ (by omega) (by omega))).2.2
   have hle:Gh.le base.size G (G.pub l.b l.off vs):=Gh.le_pub hb hgn
   have K:RelH base G h (σ.set i .dead):=by
    have hlt:i < σ.length:=(List.getElem?_eq_some_iff.1 hi).1
    have hset:(σ.set i .dead)[i]?=some .dead:=by simp[hlt]
    have hloc:∀j l,locOf G (σ.set i .dead) j=some l→locOf G σ j=some l:=by
     intro j l hj
     by_cases hji:j=i
     ·subst hji;unfold locOf at hj;rw[hset] at hj;simp[Res.live] at hj
     ·unfold locOf at hj ⊢;rwa [List.getElem?_set_ne (Ne.symm hji)] at hj
    refine ⟨H.tab,H.size,H.keep,H.st,?_,?_,fun j m hm=>H.own j m (hloc j m hm),fun j k m n hjk hm hn=>H.disj j k m n hjk (hloc _ _ hm) (hloc _ _ hn),?_,H.maps.mono (XJ rfl) (fun _ _ _ h=>h) (fun _ _ _ h=>h) fun _ _ _ h=>h⟩
    ·intro j v ds hj
     have hji:j≠i:=by rintro rfl;rw[hset] at hj;simp at hj
     rw[List.getElem?_set_ne (Ne.symm hji)] at hj
     exact H.obj j v ds hj
    ·intro j v ds hj
     have hji:j≠i:=by rintro rfl;rw[hset] at hj;simp at hj
     rw[List.getElem?_set_ne (Ne.symm hji)] at hj
     exact H.frz j v ds hj
    ·intro j v m hm
     obtain ⟨h1,h2⟩:=H.bd j v m hm
     refine ⟨by simpa using h1,fun r w' hr hw'=>?_⟩
     by_cases hji:j=i
     ·subst hji
      rw[hset] at hr
      simp at hr
      subst hr
      simp[Res.live] at hw'
     ·rw[List.getElem?_set_ne (Ne.symm hji)] at hr
      exact h2 r w' hr hw'
   have hdead:∀j m,locOf G (σ.set i .dead) j=some m→j≠i∧locOf G σ j=some m:=by
    intro j m hj
    have hlt:i < σ.length:=(List.getElem?_eq_some_iff.1 hi).1
    by_cases hji:j=i
    ·subst hji;unfold locOf at hj;simp[hlt,Res.live] at hj
    ·unfold locOf at hj ⊢;rw[List.getElem?_set_ne (Ne.symm hji)] at hj;exact ⟨hji,hj⟩
   obtain ⟨_,K2⟩:=K.publish l.b l.off vs hb e2 hgn (fun j m hm o h6 h7 hh=>by
    obtain ⟨hji,hm⟩:=hdead j m hm
    exact H.disj j i m l hji hm hli _ _ hh (hhas _ h6 h7))
   refine ⟨G.pub l.b l.off vs,hle,?_⟩
   have hlt:i < σ.length:=(List.getElem?_eq_some_iff.1 hi).1
   have hset:(σ.set i (.frz w (AV.resL σ cs)))[i]?=some (.frz w (AV.resL σ cs)):=by simp[hlt]
   have hother:∀j r,j≠i→(σ.set i (.frz w (AV.resL σ cs)))[j]?=some r→(σ.set i .dead)[j]?=some r:=by
    intro j r hji hj
    rw[List.getElem?_set_ne (Ne.symm hji)] at hj ⊢
    exact hj
   have hloc:∀j m,locOf (G.pub l.b l.off vs) (σ.set i (.frz w (AV.resL σ cs))) j=some m→locOf (G.pub l.b l.off vs) (σ.set i .dead) j=some m:=by
    intro j m hj
    by_cases hji:j=i
    ·subst hji;unfold locOf at hj;rw[hset] at hj;simp[Res.live] at hj
    ·unfold locOf at hj ⊢
     rw[List.getElem?_set_ne (Ne.symm hji)] at hj ⊢
     exact hj
   refine ⟨K2.tab,K2.size,K2.keep,K2.st,?_,?_,fun j m hm=>K2.own j m (hloc j m hm),fun j k m n hjk hm hn=>K2.disj j k m n hjk (hloc _ _ hm) (hloc _ _ hn),?_,H.maps.mono (XJ rfl) hle.g hle.T fun _ _ _ h=>h⟩
   ·intro j v ds hj
    have hji:j≠i:=by rintro rfl;rw[hset] at hj;simp at hj
    exact K2.obj j v ds (hother j _ hji hj)
   ·intro j v ds hj
    by_cases hji:j=i
    ·subst hji
     rw[hset] at hj
     simp at hj
     obtain ⟨rfl,rfl⟩:=hj
     refine ⟨l,h1,h2,fun k a ha=>?_⟩
     rw[Q05,List.getElem?_map,Option.map_eq_some_iff] at ha
     obtain ⟨a',ha',rfl⟩:=ha
     obtain ⟨u,hu,hr⟩:=e1.get ha'
     exact ⟨u,Gh.pub_get hu,(J73 H hr).mono hle⟩
    ·exact K2.frz j v ds (hother j _ hji hj)
   ·intro j v m hm
    obtain ⟨h1,h2⟩:=K2.bd j v m hm
    refine ⟨by simpa using h1,fun r w' hr hw'=>?_⟩
    by_cases hji:j=i
    ·subst hji
     rw[hset] at hr
     simp at hr
     subst hr
     simp[Res.live] at hw'
    ·exact h2 r w' (hother j _ hji hr) hw'
 ·exact ⟨G,.refl _ _,H⟩
theorem RelH.freeze {base:Heap} {h:Heap}:∀(is:List Nat) {G:Gh} {σ:St} (_:RelH base G h σ),∃G',Gh.le base.size G G'∧RelH base G' h (Go.Kx.freeze is σ):=by
 intro is
 induction is with
 | nil=>intro G σ H;exact ⟨G,.refl _ _,H⟩
 | cons i is ih=>
  intro G σ H
  obtain ⟨G1,h1,H1⟩:=H.freeze1 i
  obtain ⟨G2,h2,H2⟩:=ih H1
  exact ⟨G2,h1.trans h2,H2⟩
theorem RelH.g_new {base:Heap} {G:Gh} {h:Heap} {σ:St} (H:RelH base G h σ) (o:Nat):G.g h.size o=none:=by
 cases hg:G.g h.size o with
 | none=>rfl
 | some u=>have:=Zx (H.st _ _ _ hg);omega
theorem RelH.has_new {base:Heap} {G:Gh} {h:Heap} {σ:St} (H:RelH base G h σ) {i:Nat} {l:Loc} (hl:locOf G σ i=some l) (o:Nat):¬l.has h.size o:=by
 intro hh
 have:=(H.own i l hl _ _ hh).2.1.lt
 omega
theorem RelH.newObj {base:Heap} {G:Gh} {h:Heap} {σ:St} (H:RelH base G h σ) (vs rest:List Value) (cs:List AV) (E:TypeId) (hr:RelL G cs vs):
  ∃G' l,Gh.le base.size G G'∧RelH base G' (h.push (.cells (vs++rest).toArray E (0,0))) (σ++[.obj 0 cs])∧G'.T σ.length 0=some l∧l.b=h.size∧l.off=0∧l.isnil=false∧l.lim=vs.length+rest.length:=by
 have hs:=H.size
 obtain ⟨h1,h2⟩:=(H.push (.cells (vs++rest).toArray E (0,0))).name (.obj 0 cs) 0 ⟨h.size,0,0,0,0,vs.length+rest.length,false⟩ rfl
  (fun b o hh=>by
   obtain ⟨_,rfl,_,h4⟩:=hh
   exact ⟨hs,Wr_new (by simpa using h4),H.g_new o⟩)
  (fun i m hm b o hh hk=>by
   obtain ⟨_,rfl,_,h4⟩:=hh
   exact H.has_new hm o hk)
  (fun v ds hd=>by
   simp at hd
   obtain ⟨rfl,rfl⟩:=hd
   refine ⟨rfl,rfl,by simp[hr.1],fun j a ha=>?_⟩
   obtain ⟨u,hu,hv⟩:=hr.get ha
   refine ⟨u,?_,hv⟩
   show cellG _ h.size (0+j)=some u
   rw[Z48,Nat.zero_add,List.getElem?_toArray,List.getElem?_append_left (List.getElem?_eq_some_iff.1 hu).1]
   exact hu)
 exact ⟨_,_,h1,h2,Gh.Qi _ _ _ _,rfl,rfl,rfl,rfl⟩
theorem RelH.newPub {base:Heap} {G:Gh} {h:Heap} {σ:St} (H:RelH base G h σ) (vs rest:List Value) (E:TypeId):
  Gh.le base.size G (G.pub h.size 0 vs)∧RelH base (G.pub h.size 0 vs) (h.push (.cells (vs++rest).toArray E (0,0))) σ∧∀i u,vs[i]?=some u→(G.pub h.size 0 vs).g h.size (0+i)=some u:=by
 obtain ⟨h1,h2⟩:=(H.push (.cells (vs++rest).toArray E (0,0))).publish h.size 0 vs H.size (fun i u hu=>by
   rw[Z48,Nat.zero_add,List.getElem?_toArray,List.getElem?_append_left (List.getElem?_eq_some_iff.1 hu).1]
   exact hu) (fun i _=>H.g_new _) (fun i l hl o _ _=>H.has_new hl o)
 exact ⟨h1,h2,fun i u hu=>Gh.pub_get hu⟩
theorem RelH.newTail {base:Heap} {G:Gh} {h:Heap} {σ:St} (H:RelH base G h σ) (l:Loc) (hl:∀b o,¬l.has b o):
  ∃G',Gh.le base.size G G'∧RelH base G' h (σ++[.tail 0])∧G'.T σ.length 0=some l:=by
 obtain ⟨h1,h2⟩:=H.name (.tail 0) 0 l rfl (fun b o hh=>absurd hh (hl b o)) (fun i m hm b o hh=>absurd hh (hl b o)) (fun v ds hd=>by cases hd)
 exact ⟨_,h1,h2,Gh.Qi _ _ _ _⟩
theorem RelH.storeObj {base:Heap} {G:Gh} {h h':Heap} {σ:St} (H:RelH base G h σ) {i w:Nat} {cs:List AV} (hi:σ[i]?=some (.obj w cs)) {l:Loc} (hl:G.T i w=some l) {off:Nat} {vs:List Value}
  (hin:l.off+off+vs.length≤l.lim) (S:Stored h h' l.b (l.off+off) vs) (hz:vs=[]→h'=h) {cs':List AV} (hlen:l.off+cs'.length≤l.lim)
  (hc:∀j a,cs'[j]?=some a→∃u,cellG (hp h') l.b (l.off+j)=some u∧RelV G a u):RelH base G h' (σ.set i (.obj w cs')):=by
 by_cases h0:vs=[]
 ·have:=hz h0
  subst this
  exact H.retell hi hl hlen hc
 have hpos:0 < vs.length:=List.length_pos_iff.2 h0
 obtain ⟨l',e1,e2,e3,e4,e5⟩:=H.obj i w cs hi
 rw[hl] at e1
 cases e1
 have hli:locOf G σ i=some l:=by unfold locOf;rw[hi];exact hl
 have hhas:∀o,l.off+off≤o→o < l.off+off+vs.length→l.has l.b o:=fun o a b=>⟨e2,rfl,by omega,by omega⟩
 have hlt:i < σ.length:=(List.getElem?_eq_some_iff.1 hi).1
 have hset:(σ.set i (.obj w cs'))[i]?=some (.obj w cs'):=by simp[hlt]
 have hloc:∀j,locOf G (σ.set i (.obj w cs')) j=locOf G σ j:=by
  intro j
  by_cases hj:j=i
  ·subst hj;unfold locOf;rw[hset,hi];rfl
  ·unfold locOf;rw[List.getElem?_set_ne (Ne.symm hj)]
 have hb:=(H.own i l hli _ _ (hhas (l.off+off) (by omega) (by omega))).1
 refine ⟨H.tab,by rw[S.size];exact H.size,?_,?_,?_,?_,?_,?_,?_,H.maps.mono (XJ rfl) (fun _ _ _ h=>h) (fun _ _ _ h=>h) S.maps⟩
 ·intro c hcb
  rw[S.blk c (by omega)];exact H.keep c hcb
 ·intro c o u hu
  rw[S.old c o]
  ·exact H.st c o u hu
  ·by_cases hcb:c=l.b
   ·by_cases ho:l.off+off≤o∧o < l.off+off+vs.length
    ·have:=(H.own i l hli _ _ (hhas o ho.1 ho.2)).2.2
     rw[←hcb,hu] at this
     cases this
    ·omega
   ·exact .inl hcb
 ·intro j v ds hj
  by_cases hji:j=i
  ·subst hji
   rw[hset] at hj
   simp at hj
   obtain ⟨rfl,rfl⟩:=hj
   exact ⟨l,hl,e2,e3,hlen,hc⟩
  ·rw[List.getElem?_set_ne (Ne.symm hji)] at hj
   obtain ⟨m,h1,h2,h3,h4,h5⟩:=H.obj j v ds hj
   refine ⟨m,h1,h2,h3,h4,fun k a ha=>?_⟩
   obtain ⟨u,h6,h7⟩:=h5 k a ha
   refine ⟨u,?_,h7⟩
   rw[S.old _ _]
   ·exact h6
   ·by_cases hcb:m.b=l.b
    ·by_cases ho:l.off+off≤m.off+k∧m.off+k < l.off+off+vs.length
     ·have hmj:locOf G σ j=some m:=by unfold locOf;rw[hj];exact h1
      have hkl:=(List.getElem?_eq_some_iff.1 ha).1
      exact absurd (hcb ▸ hhas _ ho.1 ho.2) (H.disj j i m l hji hmj hli m.b (m.off+k) ⟨h2,rfl,by omega,by omega⟩)
     ·omega
    ·exact .inl hcb
 ·intro j v ds hj
  have hji:j≠i:=by rintro rfl;rw[hset] at hj;simp at hj
  rw[List.getElem?_set_ne (Ne.symm hji)] at hj
  exact H.frz j v ds hj
 ·intro j m hm c o hh
  rw[hloc] at hm
  obtain ⟨h1,h2,h3⟩:=H.own j m hm c o hh
  exact ⟨h1,S.wr _ _ h2,h3⟩
 ·intro j k m n hjk hm hn
  rw[hloc] at hm hn
  exact H.disj j k m n hjk hm hn
 ·intro j v m hm
  obtain ⟨h1,h2⟩:=H.bd j v m hm
  refine ⟨by simpa using h1,fun r w' hr hw'=>?_⟩
  by_cases hji:j=i
  ·subst hji
   rw[hset] at hr
   simp at hr
   subst hr
   simp[Res.live] at hw'
   subst hw'
   exact h2 _ w hi rfl
  ·rw[List.getElem?_set_ne (Ne.symm hji)] at hr
   exact h2 r w' hr hw'
theorem RelH.bump {base:Heap} {G:Gh} {h:Heap} {σ:St} (H:RelH base G h σ) {i w:Nat} {cs:List AV} (hi:σ[i]?=some (.obj w cs)) {l:Loc} (hl:G.T i w=some l):
  ∃G',Gh.le base.size G G'∧RelH base G' h (σ.set i (.obj (w+1) cs))∧G'.T i (w+1)=some l:=by
 obtain ⟨l',e1,e2,e3,e4,e5⟩:=H.obj i w cs hi
 rw[hl] at e1
 cases e1
 have hli:locOf G σ i=some l:=by unfold locOf;rw[hi];exact hl
 obtain ⟨h1,h2⟩:=H.turn hi rfl (w+1) l (r':=.obj (w+1) cs) rfl (by omega) (H.own i l hli) (fun j m hj hm b o hh hk=>H.disj i j l m (Ne.symm hj) hli hm b o hh hk)
  (fun v ds hd=>by cases hd;exact ⟨e2,e3,e4,e5⟩)
 exact ⟨_,h1,h2,Gh.Qi _ _ _ _⟩
theorem RelH.moveObj {base:Heap} {G:Gh} {h:Heap} {σ:St} (H:RelH base G h σ) {i w:Nat} {cs:List AV} (hi:σ[i]?=some (.obj w cs)) (vs rest:List Value) (cs':List AV) (E:TypeId) (hr:RelL G cs' vs):
  ∃G' l,Gh.le base.size G G'∧RelH base G' (h.push (.cells (vs++rest).toArray E (0,0))) (σ.set i (.obj (w+1) cs'))∧G'.T i (w+1)=some l∧l.b=h.size∧l.off=0∧l.isnil=false∧l.lim=vs.length+rest.length:=by
 have hs:=H.size
 obtain ⟨h1,h2⟩:=(H.push (.cells (vs++rest).toArray E (0,0))).turn hi rfl (w+1) ⟨h.size,0,0,0,0,vs.length+rest.length,false⟩ (r':=.obj (w+1) cs') rfl (by omega)
  (fun b o hh=>by
   obtain ⟨_,rfl,_,h4⟩:=hh
   exact ⟨hs,Wr_new (by simpa using h4),H.g_new o⟩)
  (fun j m _ hm b o hh hk=>by
   obtain ⟨_,rfl,_,h4⟩:=hh
   exact H.has_new hm o hk)
  (fun v ds hd=>by
   cases hd
   refine ⟨rfl,rfl,by simp[hr.1],fun j a ha=>?_⟩
   obtain ⟨u,hu,hv⟩:=hr.get ha
   refine ⟨u,?_,hv⟩
   show cellG _ h.size (0+j)=some u
   rw[Z48,Nat.zero_add,List.getElem?_toArray,List.getElem?_append_left (List.getElem?_eq_some_iff.1 hu).1]
   exact hu)
 exact ⟨_,_,h1,h2,Gh.Qi _ _ _ _,rfl,rfl,rfl,rfl⟩
theorem RelH.moveTail {base:Heap} {G:Gh} {h:Heap} {σ:St} (H:RelH base G h σ) {i w:Nat} (hi:σ[i]?=some (.tail w)) (vs rest:List Value) (E:TypeId) (n cap:Nat):
  ∃G',Gh.le base.size G G'∧RelH base G' (h.push (.cells (vs++rest).toArray E (0,0))) (σ.set i (.tail (w+1)))∧(∀j u,vs[j]?=some u→G'.g h.size (0+j)=some u) ∧
   G'.T i (w+1)=some ⟨h.size,0,cap,n,vs.length,vs.length+rest.length,false⟩:=by
 have hs:=H.size
 obtain ⟨h1,H1,hc⟩:=H.newPub vs rest E
 obtain ⟨h2,H2⟩:=H1.turn hi rfl (w+1) ⟨h.size,0,cap,n,vs.length,vs.length+rest.length,false⟩ (r':=.tail (w+1)) rfl (by omega)
  (fun b o hh=>by
   obtain ⟨_,rfl,h3,h4⟩:=hh
   refine ⟨hs,Wr_new (by simpa using h4),?_⟩
   simp only[Gh.pub]
   rw[if_neg (by simp at h3 ⊢;omega)]
   exact H.g_new o)
  (fun j m _ hm b o hh hk=>by
   obtain ⟨_,rfl,_,h4⟩:=hh
   exact H.has_new (show locOf G σ j=some m from hm) o hk)
  (fun v ds hd=>by cases hd)
 exact ⟨_,h1.trans h2,H2,hc,Gh.Qi _ _ _ _⟩
theorem RelH.growTail {base:Heap} {G:Gh} {h:Heap} {σ:St} (H:RelH base G h σ) {i w:Nat} (hi:σ[i]?=some (.tail w)) {l:Loc} (hl:G.T i w=some l) (hn:l.isnil=false) (vs:List Value) (hv:∀v∈vs,v.oneCell'=true) (hlim:l.e+vs.length≤l.lim) (n:Nat):
  ∃h' G',stL h l.b l.e vs=some h'∧Gh.le base.size G G'∧RelH base G' h' (σ.set i (.tail (w+1)))∧(∀j u,vs[j]?=some u→G'.g l.b (l.e+j)=some u) ∧
   G'.T i (w+1)=some ⟨l.b,l.off,l.cap,n,l.e+vs.length,l.lim,false⟩:=by
 have hli:locOf G σ i=some l:=by unfold locOf;rw[hi];exact hl
 have hhas:∀o,l.e≤o→o < l.e+vs.length→l.has l.b o:=fun o a b=>⟨hn,rfl,by omega,by omega⟩
 have hmore:∀b o,(⟨l.b,l.off,l.cap,n,l.e+vs.length,l.lim,false⟩:Loc).has b o→l.has b o:=fun b o hh=>by
  obtain ⟨_,h2,h3,h4⟩:=hh
  simp only at h2 h3 h4
  exact ⟨hn,h2,by omega,h4⟩
 obtain ⟨h',e,S⟩:=J1 vs (h:=h) (b:=l.b) (off:=l.e) (fun j hj=>(H.own i l hli _ _ (hhas _ (by omega) (by omega))).2.1) hv
 by_cases h0:vs=[]
 ·subst h0
  simp[stL] at e
  subst e
  obtain ⟨h2,H2⟩:=H.turn hi rfl (w+1) ⟨l.b,l.off,l.cap,n,l.e+0,l.lim,false⟩ (r':=.tail (w+1)) rfl (by omega)
   (fun b o hh=>H.own i l hli b o (hmore b o hh)) (fun j m hj hm b o hh hk=>H.disj i j l m (Ne.symm hj) hli hm b o (hmore b o hh) hk) (fun v ds hd=>by cases hd)
  exact ⟨h,_,rfl,h2,H2,fun j u hu=>by simp at hu,Gh.Qi _ _ _ _⟩
 have hpos:0 < vs.length:=List.length_pos_iff.2 h0
 have hb:=(H.own i l hli _ _ (hhas l.e (by omega) (by omega))).1
 have hg:∀j,j < vs.length→G.g l.b (l.e+j)=none:=fun j hj=>(H.own i l hli _ _ (hhas _ (by omega) (by omega))).2.2
 have H1:=H.store S hb hg (fun j v ds hj m hm k a hk hmb h1 h2=>by
  exfalso
  obtain ⟨m',f1,f2,f3,f4,_⟩:=H.obj j v ds hj
  rw[hm] at f1
  cases f1
  have hji:j≠i:=by rintro rfl;rw[hi] at hj;cases hj
  have hmj:locOf G σ j=some m:=by unfold locOf;rw[hj];exact hm
  have hkl:=(List.getElem?_eq_some_iff.1 hk).1
  exact H.disj j i m l hji hmj hli m.b (m.off+k) ⟨f2,rfl,by omega,by omega⟩ (hmb ▸ hhas _ h1 h2))
 obtain ⟨h2,H2⟩:=H1.turn hi rfl (w+1) ⟨l.b,l.off,l.cap,n,l.e+vs.length,l.lim,false⟩ (r':=.tail (w+1)) rfl (by omega)
  (fun b o hh=>H1.own i l hli b o (hmore b o hh)) (fun j m hj hm b o hh hk=>H1.disj i j l m (Ne.symm hj) hli hm b o (hmore b o hh) hk) (fun v ds hd=>by cases hd)
 have hlt:i < σ.length:=(List.getElem?_eq_some_iff.1 hi).1
 obtain ⟨h3,H3⟩:=H2.publish l.b l.e vs hb S.new hg (fun j m hm o a b hh=>by
  by_cases hji:j=i
  ·subst hji
   unfold locOf at hm
   simp[hlt,Res.live,Gh.put] at hm
   subst hm
   obtain ⟨_,_,h5,_⟩:=hh
   simp only at h5
   omega
  ·have hm2:locOf G σ j=some m:=by
    unfold locOf at hm ⊢
    rw[List.getElem?_set_ne (Ne.symm hji)] at hm
    rw[←hm]
    congr 1;funext r;congr 1;funext v
    simp only[Gh.put]
    rw[if_neg (fun h=>hji h.1)]
   exact H.disj j i m l hji hm2 hli _ _ hh (hhas _ a b))
 exact ⟨h',_,e,h2.trans h3,H3,fun j u hu=>Gh.pub_get hu,Gh.Qi _ _ _ _⟩
abbrev AEnv:=Nat→AV
def AEnv.set (ε:AEnv) (d:Nat) (a:AV):AEnv:=fun i=>if i=d then a else ε i
def AEnv.put (ε:AEnv) (d:Option Nat) (a:AV):AEnv:=match d with|some d=>ε.set d a|none=>ε
def evA (ε:AEnv):Operand→AV
 | .tmp t=>ε t
 | .const v=>absV v
 | .global g=>.v (.pointer (some ⟨g,0,none⟩))
 | .func f=>.fn (.func f) 0 []
def RelE (G:Gh) (ε:AEnv) (ρ:Env):Prop:=∀t,RelV G (ε t) (ρ t)
theorem RelE.mono {n:Nat} {G G':Gh} (h:Gh.le n G G') {ε:AEnv} {ρ:Env} (H:RelE G ε ρ):RelE G' ε ρ:=fun t=>(H t).mono h
theorem RelE.put {G:Gh} {ε:AEnv} {ρ:Env} (H:RelE G ε ρ) (d:Option Nat) {a:AV} {u:Value} (h:RelV G a u):RelE G (ε.put d a) (ρ.put d u):=by
 cases d with
 | none=>exact H
 | some d=>
  intro t
  simp only[AEnv.put,AEnv.set,Env.put,Env.set]
  split
  ·exact h
  ·exact H t
theorem Ji {G:Gh} {ε:AEnv} {ρ:Env} (H:RelE G ε ρ) (x:Operand):RelV G (evA ε x) (ev ρ x):=by
 cases x with
 | tmp t=>exact H t
 | const v=>exact RelV.absV G v
 | global g=>exact .v _
 | func f=>exact .fn (.func f) 0 [] [] rfl (fun i a u h=>by simp at h)
theorem evAs_rel {G:Gh} {ε:AEnv} {ρ:Env} (H:RelE G ε ρ) (xs:List Operand):RelL G (xs.map (evA ε)) (xs.map (ev ρ)):=by
 induction xs with
 | nil=>exact .nil G
 | cons x xs ih=>exact .cons (Ji H x) ih
def FnG (P:Program) (f:FuncId) (as:List AV) (σ:St) (R:AV→St→Prop):Prop:=
 ∀(base:Heap) (G:Gh) (h:Heap) (vs:List Value),RelH base G h σ→RelL G as vs →
  FnC P f vs.toArray h fun r h'=>∃G' a σ',Gh.le base.size G G'∧RelH base G' h' σ'∧RelV G' a r∧R a σ'
def FnP (P:Program) (f:FuncId) (as:List AV) (Q:AV→Prop):Prop:=AV.pureL as=true∧FnG P f as [] fun a _=>a.pure=true∧Q a
theorem FnG.mono {P:Program} {f:FuncId} {as:List AV} {σ:St} {R R':AV→St→Prop} (H:FnG P f as σ R) (hr:∀a σ',R a σ'→R' a σ'):FnG P f as σ R':=
 fun base G h vs h1 h2=>(H base G h vs h1 h2).mono fun _ _ ⟨G',a,σ',k1,k2,k3,k4⟩=>⟨G',a,σ',k1,k2,k3,hr _ _ k4⟩
theorem FnP.at {P:Program} {f:FuncId} {as:List AV} {Q:AV→Prop} (H:FnP P f as Q) (σ:St):FnG P f as σ fun a σ'=>σ'=σ∧Q a:=by
 intro base G h vs hH hL
 have hpu:=H.1
 have hL0:RelL ⟨G.g,fun _ _=>none⟩ as vs:=⟨hL.1,fun i a u ha hu=>J74 (hL.2 i a u ha hu) (ZI hpu ha)⟩
 have hH0:RelH h ⟨G.g,fun _ _=>none⟩ h []:=by
  refine ⟨hH.tab.keep hH.size hH.keep,Nat.le_refl _,fun _ _=>rfl,hH.st,fun i w cs hi=>by simp at hi,fun i w cs hi=>by simp at hi,fun i l hl=>?_,fun i j l m _ hl=>?_,(fun i w l hl=>by simp at hl),⟨fun i es _ hi=>by simp at hi,fun i j es es' l m _ _ _ hi=>by simp at hi⟩⟩
  ·have:=Q13 hl;simp at this
  ·have:=Q13 hl;simp at this
 refine (H.2 h _ h vs hH0 hL0).mono ?_
 rintro r h' ⟨G',a,σ',k1,k2,k3,k4,k5⟩
 have hs:=k2.size
 have hle:Gh.le h.size G ⟨G'.g,G.T⟩:=⟨k1.g,fun _ _ _ h=>h,k1.old⟩
 refine ⟨⟨G'.g,G.T⟩,a,σ,hle.weaken hH.size,?_,J74 k3 k4,rfl,k5⟩
 have hcell:∀b o,b < h.size→cellG (hp h') b o=cellG (hp h) b o:=by
  intro b o hb
  unfold cellG hp
  rw[k2.keep b hb]
 have hHs:=hH.size
 refine ⟨hH.tab,by omega,fun b hb=>by rw[k2.keep b (by omega)];exact hH.keep b hb,k2.st,?_,?_,?_,hH.disj,hH.bd,hH.maps.mono (fun _ _ _ h=>h) hle.g (fun _ _ _ h=>h) fun b en c hb=>by rw[k2.keep b (Array.getElem?_eq_some_iff.1 hb).1];exact hb⟩
 ·intro i w cs hi
  obtain ⟨l,h1,h2,h3,h4,h5⟩:=hH.obj i w cs hi
  refine ⟨l,h1,h2,h3,h4,fun j a ha=>?_⟩
  obtain ⟨u,h6,h7⟩:=h5 j a ha
  exact ⟨u,by rw[hcell _ _ (Zx h6)];exact h6,h7.mono hle⟩
 ·intro i w cs hi
  obtain ⟨l,h1,h2,h3⟩:=hH.frz i w cs hi
  refine ⟨l,h1,h2,fun j a ha=>?_⟩
  obtain ⟨u,h6,h7⟩:=h3 j a ha
  exact ⟨u,hle.g _ _ _ h6,h7.mono hle⟩
 ·intro i l hl b o hh
  obtain ⟨h1,h2,h3⟩:=hH.own i l hl b o hh
  have hb:=h2.lt
  refine ⟨h1,?_,?_⟩
  ·obtain ⟨c,E,fz,e1,e2⟩:=h2
   exact ⟨c,E,fz,by rw[k2.keep b hb];exact e1,e2⟩
  ·show G'.g b o=none
   rw[k1.old b o hb];exact h3
theorem FnG.fz {P:Program} {f:FuncId} {as:List AV} {σ:St} {R:AV→St→Prop} (H:FnG P f as σ fun a σ'=>∃is,R (a.res (freeze is σ')) (freeze is σ')):FnG P f as σ R:=by
 intro base G h vs h1 h2
 refine (H base G h vs h1 h2).mono ?_
 rintro r h' ⟨G',a,σ',k1,k2,k3,is,k4⟩
 obtain ⟨G2,l2,H2⟩:=k2.freeze is
 exact ⟨G2,_,_,k1.trans l2,H2,J73 H2 (k3.mono l2),k4⟩
def weak (σ:St):List Bool→List AV→List AV
 | f::fs,a::as=>(if f then a.res σ else a)::weak σ fs as
 | _,as=>as
theorem weak_rel {base:Heap} {G:Gh} {h:Heap} {σ:St} (H:RelH base G h σ):∀(fs:List Bool) {as:List AV} {vs:List Value},RelL G as vs→RelL G (weak σ fs as) vs:=by
 intro fs
 induction fs with
 | nil=>intro as vs hL;simpa[weak] using hL
 | cons f fs ih=>
  intro as vs hL
  cases as with
  | nil=>simpa[weak] using hL
  | cons a as=>
   obtain ⟨u,us,rfl,h1,h2⟩:=hL.cons_inv
   refine .cons ?_ (ih h2)
   cases f
   ·exact h1
   ·exact J73 H h1
def repA (z:List AV) (c:Nat):List AV:=(List.replicate c z).flatten
def srcA (σ:St) (sz:Nat):AV→Option (Nat×List AV)
 | .sl n cs _=>some (n,cs)
 | .ms i w off n sz'=>if sz'=sz then match σ[i]? with
  | some (.obj w' cs)=>if w=w' then some (n,subA cs off (n * sz)) else none
  | some (.frz w' cs)=>if w=w' then some (n,subA cs off (n * sz)) else none
  | _=>none
  else none
 | .v (.string s)=>some (s.size,s.data.toList.map fun b=>.v (.int .u8 b.toNat))
 | _=>none
def AppA (σ:St) (sz:Nat) (m:Nat) (news:List AV) (K:AV→St→Prop):AV→Prop
 | .sl n cs t=>cs.length=n * sz∧match t with
  | .nil=>K (.sl (n+m) (cs++news) (.id σ.length 1 sz)) (σ++[.tail 1])∨(0 < m∧K (.ms σ.length 0 0 m sz) (σ++[.obj 0 news]))∨K (.sl (n+m) (cs++news) .none) σ
  | .full=>K (.sl (n+m) (cs++news) (.id σ.length 1 sz)) (σ++[.tail 1])∨K (.sl (n+m) (cs++news) .none) σ
  | .id i w s=>s=sz∧σ[i]?=some (.tail w)∧K (.sl (n+m) (cs++news) (.id i (w+1) sz)) (σ.set i (.tail (w+1)))
  | .none=>False
 | .ms i w off n s=>s=sz∧off=0∧∃cs,σ[i]?=some (.obj w cs)∧n * sz≤cs.length∧K (.ms i (w+1) 0 (n+m) sz) (σ.set i (.obj (w+1) (cs.take (n * sz)++news)))
 | _=>False
def AV.num:AV→Nat
 | .sl n _ _=>n
 | .ms _ _ _ n _=>n
 | _=>0
def AV.isSl:AV→Bool
 | .sl _ _ _|.ms _ _ _ _ _=>true
 | _=>false
theorem isSl_rel {G:Gh} {y:AV} {v:Value} (h:y.isSl=true) (hr:RelV G y v):∃a n c,v=.slice a n c:=by
 cases hr with
 | sl=>exact ⟨_,_,_,rfl⟩
 | ms=>exact ⟨_,_,_,rfl⟩
 | _=>cases h
def getM (ck:CK) (z:AV) (k:Value):List (Value×AV)→Option AV
 | []=>some z
 | e::es=>match eqC ck k e.1 with
  | some true=>some e.2
  | some false=>getM ck z k es
  | none=>none
def putM (ck:CK) (k:Value) (x:AV):List (Value×AV)→Option (List (Value×AV))
 | []=>some [(k,x)]
 | e::es=>match eqC ck k e.1 with
  | some true=>if Instr.sameBits 10000 e.1 k=true then some ((k,x)::es) else none
  | some false=>(putM ck k x es).map (e::·)
  | none=>none
theorem getM_find {G:Gh} {ck:CK} {z:AV} {zv k:Value} {v:AV} (hz:RelV G z zv):∀{en:List MapEntry} {es:List (Value×AV)} {i:Nat},KvRel G en es→getM ck z k es=some v→∃q,findV ck k en i=some q∧RelV G v (match q with|some (_,e)=>e.val|none=>zv):=by
 intro en
 induction en with
 | nil=>
  intro es i hk h
  cases es with
  | nil=>simp[getM] at h;subst h;exact ⟨none,rfl,hz⟩
  | cons p es=>exact hk.elim
 | cons e en ih=>
  intro es i hk h
  cases es with
  | nil=>exact hk.elim
  | cons p es=>
   obtain ⟨e1,h2,h3⟩:=hk
   simp only[getM,←e1] at h
   simp only[findV]
   cases hb:eqC ck k e.key with
   | none=>rw[hb] at h;cases h
   | some b=>
    rw[hb] at h
    cases b with
    | true=>simp only[Option.some.injEq] at h;subst h;exact ⟨_,rfl,h2⟩
    | false=>exact ih h3 h
theorem putM_find {G:Gh} {ck:CK} {k xv:Value} {x:AV} (hx:RelV G x xv):∀{en:List MapEntry} {es:List (Value×AV)} {i:Nat} {ys:List (Value×AV)},KvRel G en es→putM ck k x es=some ys →
  (∃j e,findV ck k en i=some (some (i+j,e))∧Instr.sameBits 10000 e.key k=true∧KvRel G (en.modify j fun e=>{ e with key:=k,val:=xv }) ys)∨(findV ck k en i=some none∧∀c,KvRel G (en++[{ key:=k,val:=xv,born:=c }]) ys):=by
 intro en
 induction en with
 | nil=>
  intro es i ys hk h
  cases es with
  | nil=>simp[putM] at h;subst h;exact .inr ⟨rfl,fun c=>⟨rfl,hx,trivial⟩⟩
  | cons p es=>exact hk.elim
 | cons e en ih=>
  intro es i ys hk h
  cases es with
  | nil=>exact hk.elim
  | cons p es=>
   obtain ⟨e1,h2,h3⟩:=hk
   simp only[putM,←e1] at h
   simp only[findV]
   cases hb:eqC ck k e.key with
   | none=>rw[hb] at h;cases h
   | some b=>
    rw[hb] at h
    cases b with
    | true=>
     simp only at h
     split at h
     ·rename_i hs
      simp only[Option.some.injEq] at h
      subst h
      exact .inl ⟨0,e,rfl,hs,⟨rfl,hx,h3⟩⟩
     ·cases h
    | false=>
     simp only[Option.map_eq_some_iff] at h
     obtain ⟨zs,hz,rfl⟩:=h
     rcases ih (i:=i+1) h3 hz with ⟨j,e',h4,h5,h6⟩|⟨h4,h5⟩
     ·refine .inl ⟨j+1,e',by rw[show i+(j+1)=i+1+j by omega];exact h4,h5,?_⟩
      rw[List.modify_succ_cons]
      exact ⟨e1,h2,h6⟩
     ·exact .inr ⟨h4,fun c=>⟨e1,h2,h5 c⟩⟩
def EF.awp0 (P:Program) (e:EF) (as:List AV) (σ:St) (K:AV→St→Prop):Prop:=
 match e,as with
 | .new _ z,[]=>K (.ref σ.length 0 0) (σ++[.obj 0 (z.map abs1)])
 | .box _,[a]=>K (.ref σ.length 0 0) (σ++[.obj 0 a.cells])∨K (.ep a.cells) σ
 | .st n,[.ref i w off,a]=>a.cells.length=n∧a.cells.all AV.one=true∧∃cs,σ[i]?=some (.obj w cs)∧off+n≤cs.length∧K (.v undef) (σ.set i (.obj w (setAtA cs off a.cells)))
 | .bsl _ sz,as=>(∀a∈as,a.cells.length=sz)∧as.length≤9223372036854775807 ∧
   (K (.sl as.length (as.flatMap AV.cells) .full) σ∨K (.ms σ.length 0 0 as.length sz) (σ++[.obj 0 (as.flatMap AV.cells)]))
 | .mks _ sz by_ z,[.v (.int _ l),.v (.int _ c)]=>z.length=sz∧0≤l∧l≤c∧c < 9223372036854775808∧by_ * c≤281474976710656 ∧
   K (.ms σ.length 0 0 l.toNat sz) (σ++[.obj 0 (repA (z.map abs1) c.toNat)])
 | .app _ sz by_ z,[x,y]=>z.length=sz∧∃m news,srcA σ sz y=some (m,news)∧news.length=m * sz∧news.all AV.one=true∧x.num+m≤9223372036854775807∧(x.num+m) * by_≤140737488355328∧AppA σ sz m news K x
 | .call f,as=>FnG P f as σ K
 | .callv,.fn (.func f) k xs::as=>fnOk P f=true∧FnG P f (xs.take k++as++xs.drop k) σ K
 | .mkm,[]=>K (.mp σ.length) (σ++[.map []])
 | .mup ck,[.mp i,.v k,x]=>∃es,σ[i]?=some (.map es)∧∃ys,putM ck k x es=some ys∧K (.v undef) (σ.set i (.map ys))
 | .mlk ck z,[.mp i,.v k]=>∃es,σ[i]?=some (.map es)∧∃v,getM ck (absV z) k es=some v∧K v σ
 | .sit,[.v (.string s)]=>K (.ref σ.length 0 0) (σ++[.itr s 0])
 | .nxt,[.ref i w off]=>w=0∧off=0∧∃s pos,σ[i]?=some (.itr s pos) ∧
   (if pos < s.size then K (.tup [.v (.bool true),.v (.int .i64 pos),.v (.int .i32 (Utf8.decode s pos).1)]) (σ.set i (.itr s (pos+(Utf8.decode s pos).2))) else K (.tup [.v (.bool false)]) σ)
 | .b2s,[x]=>x.isSl=true∧∃n,∃bs:List UInt8,srcA σ 1 x=some (n,bs.map fun b=>.v (.int .u8 b.toNat))∧bs.length=n∧K (.v (.string ⟨bs.toArray⟩)) σ
 | .cpy sz,[.ms i w off n s,y]=>s=sz∧y.isSl=true∧∃m news,srcA σ sz y=some (m,news)∧news.length=m * sz∧news.all AV.one=true∧m≤n∧∃cs,σ[i]?=some (.obj w cs)∧off+m * sz≤cs.length∧K (.v (.int .i64 m)) (σ.set i (.obj w (setAtA cs off news)))
 | .s2b _,[.v (.string s)]=>s.size≤9223372036854775807∧K (.sl s.size (s.data.toList.map fun b=>AV.v (.int .u8 b.toNat)) (.id σ.length 1 1)) (σ++[.tail 1])
 | _,_=>False
def prepA:List (List Nat×List Bool)→List AV→St→List AV
 | [],as,_=>as
 | (is,fs)::ss,as,σ=>prepA ss (weak (freeze is σ) fs as) (freeze is σ)
def prepS:List (List Nat×List Bool)→St→St
 | [],σ=>σ
 | (is,_)::ss,σ=>prepS ss (freeze is σ)
def EF.awp (P:Program) (e:EF) (as:List AV) (σ:St) (K:AV→St→Prop):Prop:=∃ss,e.awp0 P (prepA ss as σ) (prepS ss σ) K
theorem EF.awp_of {P:Program} {e:EF} {as:List AV} {σ:St} {K:AV→St→Prop} (h:e.awp0 P as σ K):e.awp P as σ K:=⟨[],h⟩
theorem EF.awp_step {P:Program} {e:EF} {as:List AV} {σ:St} {K:AV→St→Prop} (is:List Nat) (fs:List Bool) (h:e.awp P (weak (freeze is σ) fs as) (freeze is σ) K):e.awp P as σ K:=by
 obtain ⟨ss,h⟩:=h
 exact ⟨(is,fs)::ss,h⟩
theorem repA_rel {G:Gh} {z:List AV} {w:List Value} (h:RelL G z w) (c:Nat):RelL G (repA z c) (rep w c):=by
 unfold repA rep
 induction c with
 | zero=>exact .nil G
 | succ c ih=>
  simp only[List.replicate_succ,List.flatten_cons]
  exact h.append ih
theorem J75 {G:Gh}:∀{as:List AV} {vs:List Value},RelL G as vs→RelL G (as.flatMap AV.cells) (vs.flatMap (·.cells.toList)):=by
 intro as
 induction as with
 | nil=>intro vs H;rw[H.nil_inv];exact .nil G
 | cons a as ih=>
  intro vs H
  obtain ⟨u,us,rfl,h1,h2⟩:=H.cons_inv
  simp only[List.flatMap_cons]
  exact h1.cells.append (ih h2)
theorem J76 {G:Gh} {as:List AV} {vs:List Value} (H:RelL G as vs) (h:as.all AV.one=true):∀v∈vs,v.oneCell'=true:=by
 intro v hv
 obtain ⟨i,hi⟩:=List.mem_iff_getElem?.1 hv
 have hlt:i < as.length:=by rw[←H.1];exact (List.getElem?_eq_some_iff.1 hi).1
 have ha:=List.getElem?_eq_getElem hlt
 rw[List.all_eq_true] at h
 exact (H.2 i _ _ ha hi).one (h _ (List.getElem_mem hlt))
theorem Jj {base:Heap} {G:Gh} {h:Heap} {σ:St} (H:RelH base G h σ) {sz m:Nat} {y:AV} {news:List AV} {v:Value} (hs:srcA σ sz y=some (m,news)) (hm:news.length=m * sz) (hr:RelV G y v):
  ∃ws,srcV (hp h) sz v=some (m,ws)∧RelL G news ws:=by
 unfold srcA at hs
 split at hs
 ·cases hs
  cases hr with
  | sl _ _ _ a cap vs h1 h2 h3 h4 h5 h6=>
   refine ⟨vs,?_,h1,h2⟩
   rcases h5 with ⟨rfl,rfl⟩|⟨b,off,rfl,h5⟩
   ·cases a with
    | none=>rfl
    | some a=>
     obtain ⟨b,off,spot⟩:=a
     cases spot with
     | none=>simp[srcV,cellsG]
     | some s=>rfl
   ·simp only[srcV]
    have:=Z54 (g:=hp h) (b:=b) (l:=vs) (off:=off) (fun j u hu=>H.st _ _ _ (h5 j u hu))
    rw[h1,hm] at this
    rw[this]
    rfl
 ·rename_i i w off n sz'
  split at hs
  ·rename_i hsz
   subst hsz
   cases hr with
   | ms _ _ _ _ _ l cap h1 h2 h3 h4 h5=>
    have key:∀(cs:List AV),(∀j a,cs[j]?=some a→∃u,cellG (hp h) l.b (l.off+j)=some u∧RelV G a u)→some (n,subA cs off (n * sz'))=some (m,news)→∃ws,srcV (hp h) sz' (.slice (some ⟨l.b,l.off+off,none⟩) n cap)=some (m,ws)∧RelL G news ws:=by
     intro cs hcs e
     obtain ⟨rfl,rfl⟩:n=m∧subA cs off (n * sz')=news:=by simpa using e
     obtain ⟨ws,e1,e2⟩:=RelL.choose (Q:=fun j u=>cellG (hp h) l.b (l.off+off+j)=some u) (cs:=subA cs off (n * sz')) (fun j a ha=>by
      simp only[subA,List.getElem?_take] at ha
      split at ha
      ·rw[List.getElem?_drop] at ha
       obtain ⟨u,hu,hr⟩:=hcs _ a ha
       exact ⟨u,by rw[Nat.add_assoc];exact hu,hr⟩
      ·cases ha)
     refine ⟨ws,?_,e1⟩
     simp only[srcV]
     have:=Z54 (g:=hp h) (b:=l.b) (l:=ws) (off:=l.off+off) e2
     rw[e1.1,hm] at this
     rw[this]
     rfl
    split at hs
    ·rename_i w' cs hi
     split at hs
     ·rename_i hw
      subst hw
      obtain ⟨l',k1,k2,k3,k4,k5⟩:=H.obj _ _ _ hi
      rw[h1] at k1
      cases k1
      exact key cs k5 hs
     ·cases hs
    ·rename_i w' cs hi
     split at hs
     ·rename_i hw
      subst hw
      obtain ⟨l',k1,k2,k3⟩:=H.frz _ _ _ hi
      rw[h1] at k1
      cases k1
      exact key cs (fun j a ha=>by obtain ⟨u,hu,hr⟩:=k3 j a ha;exact ⟨u,H.st _ _ _ hu,hr⟩) hs
     ·cases hs
    ·cases hs
  ·cases hs
 ·cases hs
  cases hr
  refine ⟨_,rfl,by simp,fun i a u ha hu=>?_⟩
  simp only[List.getElem?_map,Option.map_eq_some_iff] at ha hu
  obtain ⟨b,hb,rfl⟩:=ha
  obtain ⟨c,hc,rfl⟩:=hu
  rw[hb] at hc
  cases hc
  exact .v _
 ·cases hs
theorem Q60 (z:List Value) (c:Nat):(rep z c).length=c * z.length:=J39 rfl c
theorem Z85:∀(as cs:List AV) (off:Nat),(setAtA cs off as).length=cs.length:=by
 intro as
 induction as with
 | nil=>intro cs off;rfl
 | cons a as ih=>intro cs off;simp[setAtA,ih]
theorem J43:∀(as cs:List AV) (off:Nat),off+as.length≤cs.length→∀j,(setAtA cs off as)[j]?=if off≤j∧j < off+as.length then as[j - off]? else cs[j]?:=by
 intro as
 induction as with
 | nil=>intro cs off _ j;simp[setAtA];omega
 | cons a as ih=>
  intro cs off h j
  simp only[List.length_cons] at h
  simp only[setAtA]
  rw[ih _ _ (by simp;omega)]
  by_cases h1:off+1≤j∧j < off+1+as.length
  ·rw[if_pos h1,if_pos (by simp;omega)]
   rw[show j - off=(j - (off+1))+1 by omega,List.getElem?_cons_succ]
  ·rw[if_neg h1]
   by_cases h2:j=off
   ·subst h2
    rw[if_pos (by simp)]
    have:j < cs.length:=by omega
    simp[this]
   ·rw[if_neg (by simp only[List.length_cons];omega),List.getElem?_set_ne (Ne.symm h2)]
theorem app_sound {P:Program} {E:TypeId} {sz by_:Nat} {z:List Value} {base:Heap} {G:Gh} {h:Heap} {σ:St} (H:RelH base G h σ) {x:AV} {u v:Value} {m:Nat} {news:List AV} {ws:List Value} {K:AV→St→Prop} (hz:z.length=sz)
  (hsrc:srcV (hp h) sz v=some (m,ws)) (hr:RelL G news ws) (hm:news.length=m * sz) (hone:news.all AV.one=true) (hn:x.num+m≤9223372036854775807) (hb:(x.num+m) * by_≤140737488355328) (hx:RelV G x u) (hA:AppA σ sz m news K x):
  EF.wp P (.app E sz by_ z) [u,v] h fun r h'=>∃G' a σ',Gh.le base.size G G'∧RelH base G' h' σ'∧RelV G' a r∧K a σ':=by
 have hws:ws.length=m * sz:=by rw[hr.1,hm]
 have hwo:=J76 hr hone
 have tail:∀{base:Heap} {G:Gh} {σ:St} {n:Nat} {cs:List AV} {i w cap:Nat} {a:Option Addr},RelH base G h σ→RelL G news ws→σ[i]?=some (.tail w)→cs.length=n * sz→n+m≤9223372036854775807→(n+m) * by_≤140737488355328 →
   RelV G (.sl n cs (.id i w sz)) (.slice a n cap)→EF.wp P (.app E sz by_ z) [.slice a n cap,v] h fun r h'=>∃G' c σ',Gh.le base.size G G'∧RelH base G' h' σ'∧RelV G' c r∧c=.sl (n+m) (cs++news) (.id i (w+1) sz)∧σ'=σ.set i (.tail (w+1)):=by
  intro base G σ n cs i w cap a H hr hi hcs hn hb hx
  have hli:∀l,G.T i w=some l→locOf G σ i=some l:=by intro l hl;unfold locOf;rw[hi];exact hl
  cases hx with
  | sl _ _ _ _ _ vs h1 h2 h3 h4 h5 h6=>
   obtain ⟨l,t1,t2,t3,t4,t5,t6⟩:=h6
   refine ⟨m,ws,hsrc,hws,?_⟩
   by_cases hfit:n+m≤cap
   ·rw[if_pos hfit]
    by_cases hnil:l.isnil=true
    ·rw[if_pos hnil] at t6
     obtain ⟨rfl,rfl,rfl⟩:=t6
     have hm0:m=0:=by omega
     subst hm0
     have hw0:ws=[]:=List.eq_nil_of_length_eq_zero (by simpa using hws)
     have hn0:news=[]:=List.eq_nil_of_length_eq_zero (by simpa using hm)
     have hc0:cs=[]:=List.eq_nil_of_length_eq_zero (by simpa using hcs)
     subst hn0;subst hc0
     obtain ⟨k1,k2⟩:=H.turn hi rfl (w+1) l (r':=.tail (w+1)) rfl (by omega) (fun b o hh=>by rw[Loc.has,hnil] at hh;simp at hh) (fun j q _ _ b o hh=>by rw[Loc.has,hnil] at hh;simp at hh) (fun v ds hd=>by cases hd)
     have hv0:vs=[]:=List.eq_nil_of_length_eq_zero (by simpa using h1)
     refine ⟨_,_,_,k1,k2,?_,rfl,rfl⟩
     exact .sl _ _ _ _ _ [] rfl (fun i a u h=>by simp at h) (by omega) (by omega) (.inl ⟨rfl,rfl⟩) ⟨l,Gh.Qi _ _ _ _,t2,t3,t4,t5,by rw[if_pos hnil];exact ⟨rfl,rfl,rfl⟩⟩
    ·have hnil':l.isnil=false:=by simpa using hnil
     rw[if_neg hnil] at t6
     subst t6
     simp only
     obtain ⟨h',G',e,k1,k2,k3,k4⟩:=H.growTail hi t1 hnil' ws hwo (by
      have:(n+m) * sz≤cap * sz:=Nat.mul_le_mul_right _ hfit
      rw[Nat.add_mul] at this
      omega) (n+m)
     have hoff:l.off+n * sz=l.e:=by omega
     rw[hoff]
     refine ⟨h',e,G',_,_,k1,k2,?_,rfl,rfl⟩
     have hrl:=(show RelL G cs vs from ⟨h1,h2⟩).mono k1 |>.append (hr.mono k1)
     refine .sl _ _ _ _ _ (vs++ws) hrl.1 hrl.2 hfit h4 (.inr ⟨_,_,rfl,?_⟩) ⟨_,k4,rfl,?_,t4,t5,?_⟩
     ·intro j y hy
      by_cases hj:j < vs.length
      ·rw[List.getElem?_append_left hj] at hy
       rcases h5 with ⟨_,rfl⟩|⟨b,off,e1,e2⟩
       ·simp at hj
       ·cases e1;exact k1.g _ _ _ (e2 j y hy)
      ·rw[List.getElem?_append_right (by omega)] at hy
       have:=k3 _ y hy
       rwa [show l.e+(j - vs.length)=l.off+j by omega] at this
     ·simp only[List.length_append];rw[hr.1];omega
     ·simp
   ·rw[if_neg hfit]
    have holds:srcV (hp h) sz (.slice a n cap)=some (n,vs):=by
     rcases h5 with ⟨rfl,rfl⟩|⟨b,off,rfl,h5⟩
     ·cases a with
      | none=>rfl
      | some a=>
       obtain ⟨b,off,spot⟩:=a
       cases spot with
       | none=>simp[srcV,cellsG]
       | some s=>rfl
     ·simp only[srcV]
      have:=Z54 (g:=hp h) (b:=b) (l:=vs) (off:=off) (fun j u hu=>H.st _ _ _ (h5 j u hu))
      rw[h1,hcs] at this
      rw[this]
      rfl
    refine ⟨hn,hb,vs,holds,by rw[h1,hcs],?_⟩
    intro c hc1 hc2
    obtain ⟨G',k1,k2,k3,k4⟩:=H.moveTail hi (vs++ws) (rep z (c - (n+m))) E (n+m) c
    refine ⟨G',_,_,k1,k2,?_,rfl,rfl⟩
    have hrl:=(show RelL G cs vs from ⟨h1,h2⟩).mono k1 |>.append (hr.mono k1)
    refine .sl _ _ _ _ _ (vs++ws) hrl.1 hrl.2 hc1 (by omega) (.inr ⟨_,_,rfl,k3⟩) ⟨_,k4,rfl,?_,rfl,?_,?_⟩
    ·simp only[List.length_append,Nat.zero_add,h1,hr.1]
    ·simp only[List.length_append,Nat.zero_add,h1,hcs,hws,Q60,hz,←Nat.add_mul]
     congr 1;omega
    ·simp
 have drop:∀{n cap:Nat} {cs:List AV} {t:Tok} {a:Option Addr},cs.length=n * sz→n+m≤9223372036854775807→(n+m) * by_≤140737488355328→n=cap→(∀s,a=some s→s.spot=none)→RelV G (.sl n cs t) (.slice a n cap) →
   EF.wp P (.app E sz by_ z) [.slice a n cap,v] h fun r h'=>∃G' c σ',Gh.le base.size G G'∧RelH base G' h' σ'∧RelV G' c r∧c=.sl (n+m) (cs++news) .none∧σ'=σ:=by
  intro n cap cs t a hcs hn hb hcap hsp hx
  cases hx with
  | sl _ _ _ _ _ vs h1 h2 h3 h4 h5 h6=>
   refine ⟨m,ws,hsrc,hws,?_⟩
   by_cases hfit:n+m≤cap
   ·rw[if_pos hfit]
    have hm0:m=0:=by omega
    subst hm0
    have hw0:ws=[]:=List.eq_nil_of_length_eq_zero (by simpa using hws)
    have hn0:news=[]:=List.eq_nil_of_length_eq_zero (by simpa using hm)
    subst hn0;subst hw0
    have hrel:RelV G (.sl (n+0) (cs++[]) .none) (.slice a (n+0) cap):=by
     rw[List.append_nil]
     exact .sl _ _ _ _ _ vs h1 h2 h3 h4 h5 trivial
    rcases h5 with ⟨rfl,rfl⟩|⟨b,off,rfl,h5⟩
    ·cases a with
     | none=>exact ⟨G,_,_,.refl _ _,H,hrel,rfl,rfl⟩
     | some a=>
      obtain ⟨b,off,spot⟩:=a
      cases spot with
      | none=>exact ⟨h,rfl,G,_,_,.refl _ _,H,hrel,rfl,rfl⟩
      | some s=>exact absurd (hsp _ rfl) (by simp)
    ·exact ⟨h,rfl,G,_,_,.refl _ _,H,hrel,rfl,rfl⟩
   ·rw[if_neg hfit]
    have holds:srcV (hp h) sz (.slice a n cap)=some (n,vs):=by
     rcases h5 with ⟨rfl,rfl⟩|⟨b,off,rfl,h5⟩
     ·cases a with
      | none=>rfl
      | some a=>
       obtain ⟨b,off,spot⟩:=a
       cases spot with
       | none=>simp[srcV,cellsG]
       | some s=>rfl
     ·simp only[srcV]
      have:=Z54 (g:=hp h) (b:=b) (l:=vs) (off:=off) (fun j u hu=>H.st _ _ _ (h5 j u hu))
      rw[h1,hcs] at this
      rw[this]
      rfl
    refine ⟨hn,hb,vs,holds,by rw[h1,hcs],?_⟩
    intro c hc1 hc2
    obtain ⟨k1,k2,k3⟩:=H.newPub (vs++ws) (rep z (c - (n+m))) E
    have hrl:=(show RelL G cs vs from ⟨h1,h2⟩).mono k1 |>.append (hr.mono k1)
    exact ⟨_,_,_,k1,k2,.sl (n+m) (cs++news) .none _ _ (vs++ws) hrl.1 hrl.2 hc1 (by omega) (.inr ⟨_,_,rfl,k3⟩) trivial,rfl,rfl⟩
 unfold AppA at hA
 split at hA
 ·rename_i n cs t
  obtain ⟨hcs,hA⟩:=hA
  simp only[AV.num] at hn hb
  split at hA
  ·
   have hx':=hx
   cases hx' with
   | sl _ _ _ a cap vs h1 h2 h3 h4 h5 h6=>
    obtain ⟨rfl,rfl,rfl⟩:=h6
    rcases hA with hA|⟨hmp,hA⟩|hA
    ·obtain ⟨G1,k1,k2,k3⟩:=H.newTail ⟨0,0,0,0,cs.length,0,true⟩ (fun b o hh=>by simp[Loc.has] at hh)
     have hc0:cs=[]:=List.eq_nil_of_length_eq_zero (by simpa using hcs)
     subst hc0
     refine EF.wp_mono ?_ (tail (i:=σ.length) (w:=0) (cs:=[]) k2 (hr.mono k1) (by simp) (by simp) hn hb (.sl _ _ _ _ _ [] rfl (fun i a u h=>by simp at h) (Nat.le_refl _) (by omega) (.inl ⟨rfl,rfl⟩) ⟨_,k3,rfl,rfl,rfl,by simp,by simp⟩))
     rintro r h' ⟨G',c,σ',g1,g2,g3,rfl,rfl⟩
     exact ⟨G',_,_,k1.trans g1,g2,g3,by simpa using hA⟩
    ·refine ⟨m,ws,hsrc,hws,?_⟩
     rw[if_neg (by omega)]
     refine ⟨hn,hb,[],rfl,by simp,?_⟩
     intro c hc1 hc2
     obtain ⟨G',l,k1,k2,k3,k4,k5,k6,k7⟩:=H.newObj ws (rep z (c - (0+m))) news E hr
     refine ⟨G',_,_,k1,by simpa using k2,?_,hA⟩
     have:=RelV.ms (G:=G') σ.length 0 0 m sz l c k3 k6 (by omega) (by omega) (by
      rw[k5,k7,hws,Q60,hz,←Nat.add_mul]
      simp only[Nat.zero_add]
      congr 1;omega)
     rw[k4,k5] at this
     simpa using this
    ·refine EF.wp_mono ?_ (drop hcs hn hb rfl (fun s hs=>by cases hs) hx)
     rintro r h' ⟨G',c,σ',g1,g2,g3,rfl,rfl⟩
     exact ⟨G',_,_,g1,g2,g3,hA⟩
  ·
   have hx':=hx
   cases hx with
   | sl _ _ _ a cap vs h1 h2 h3 h4 h5 h6=>
    obtain ⟨rfl,b,off,rfl⟩:=h6
    rcases hA with hA|hA
    rotate_left
    ·refine EF.wp_mono ?_ (drop hcs hn hb rfl (fun s hs=>by cases hs;rfl) hx')
     rintro r h' ⟨G',c,σ',g1,g2,g3,rfl,rfl⟩
     exact ⟨G',_,_,g1,g2,g3,hA⟩
    obtain ⟨G1,k1,k2,k3⟩:=H.newTail ⟨b,off,n,n,off+cs.length,off+n * sz,false⟩ (fun b o hh=>by simp only[Loc.has] at hh;omega)
    refine EF.wp_mono ?_ (tail (i:=σ.length) (w:=0) k2 (hr.mono k1) (by simp) hcs hn hb (.sl _ _ _ _ _ vs h1 (fun i a u ha hu=>(h2 i a u ha hu).mono k1) h3 h4 (h5.mono k1.g) ⟨_,k3,rfl,rfl,rfl,rfl,by simp⟩))
    rintro r h' ⟨G',c,σ',g1,g2,g3,rfl,rfl⟩
    exact ⟨G',_,_,k1.trans g1,g2,g3,by simpa using hA⟩
  ·rename_i i w s
   obtain ⟨rfl,hi,hA⟩:=hA
   have hx':=hx
   cases hx with
   | sl _ _ _ a cap vs h1 h2 h3 h4 h5 h6=>
    refine EF.wp_mono ?_ (tail H hr hi hcs hn hb hx')
    rintro r h' ⟨G',c,σ',g1,g2,g3,rfl,rfl⟩
    exact ⟨G',_,_,g1,g2,g3,hA⟩
  ·exact hA.elim
 ·rename_i i w off n s
  obtain ⟨rfl,rfl,cs,hi,hnc,hA⟩:=hA
  simp only[AV.num] at hn hb
  cases hx with
  | ms _ _ _ _ _ l cap h1 h2 h3 h4 h5=>
   obtain ⟨l',e1,e2,e3,e4,e5⟩:=H.obj _ _ _ hi
   rw[h1] at e1
   cases e1
   refine ⟨m,ws,hsrc,hws,?_⟩
   obtain ⟨vs,f1,f2⟩:=RelL.choose (Q:=fun j u=>cellG (hp h) l.b (l.off+j)=some u) (cs:=cs.take (n * s)) (fun j a ha=>by
    simp only[List.getElem?_take] at ha
    split at ha
    ·exact e5 j a ha
    ·cases ha)
   have hvl:vs.length=n * s:=by rw[f1.1];simp;omega
   by_cases hfit:n+m≤cap
   ·rw[if_pos hfit]
    simp only[Nat.add_zero]
    have hli:locOf G σ i=some l:=by unfold locOf;rw[hi];exact h1
    have hroom:(n+m) * s≤cap * s:=Nat.mul_le_mul_right _ hfit
    rw[Nat.add_mul] at hroom
    obtain ⟨h',e,S⟩:=J1 ws (h:=h) (b:=l.b) (off:=l.off+n * s) (fun j hj=>(H.own i l hli l.b _ ⟨h2,rfl,by omega,by omega⟩).2.1) hwo
    have hst:=H.storeObj (cs':=cs.take (n * s)++news) hi h1 (off:=n * s) (vs:=ws) (by omega) S (fun hz=>by subst hz;simp[stL] at e;exact e.symm) (by
      simp only[List.length_append,List.length_take,Nat.min_eq_left hnc,hm]
      omega) (fun j a ha=>by
     by_cases hj:j < n * s
     ·rw[List.getElem?_append_left (by simp;omega)] at ha
      simp only[List.getElem?_take,hj,if_true] at ha
      obtain ⟨u,hu,hv⟩:=e5 j a ha
      exact ⟨u,by rw[S.old _ _ (by omega)];exact hu,hv⟩
     ·rw[List.getElem?_append_right (by simp;omega)] at ha
      simp only[List.length_take,Nat.min_eq_left hnc] at ha
      obtain ⟨u,hu,hv⟩:=hr.get ha
      refine ⟨u,?_,hv⟩
      have:=S.new _ u hu
      rwa [show l.off+n * s+(j - n * s)=l.off+j by omega] at this)
    have hlt:i < σ.length:=(List.getElem?_eq_some_iff.1 hi).1
    obtain ⟨G',k1,k2,k3⟩:=hst.bump (i:=i) (w:=w) (cs:=cs.take (n * s)++news) (by simp[hlt]) h1
    refine ⟨h',e,G',_,_,k1,by simpa using k2,?_,hA⟩
    have:=RelV.ms (G:=G') i (w+1) 0 (n+m) s l cap k3 h2 hfit h4 h5
    simpa using this
   ·rw[if_neg hfit]
    refine ⟨hn,hb,vs,?_,hvl,?_⟩
    ·simp only[srcV,Nat.add_zero]
     have:=Z54 (g:=hp h) (b:=l.b) (l:=vs) (off:=l.off) f2
     rw[hvl] at this
     rw[this]
     rfl
    ·intro c hc1 hc2
     obtain ⟨G',l',k1,k2,k3,k4,k5,k6,k7⟩:=H.moveObj hi (vs++ws) (rep z (c - (n+m))) (cs.take (n * s)++news) E (f1.append hr)
     refine ⟨G',_,_,k1,k2,?_,hA⟩
     have:=RelV.ms (G:=G') i (w+1) 0 (n+m) s l' c k3 k6 hc1 (by omega) (by
      rw[k5,k7,List.length_append,hvl,hws,Q60,hz,←Nat.add_mul,←Nat.add_mul]
      simp only[Nat.zero_add]
      congr 1;omega)
     rw[k4,k5] at this
     simpa using this
 ·exact hA.elim
theorem Y06 {g:Nat→Option Obj} {sz n c m:Nat} {a:Option Addr} {l:List Value} (h:srcV g sz (.slice a n c)=some (m,l)):
  n=m∧cpyV g sz m l a:=by
 cases a with
 | none=>
  simp[srcV] at h
  refine ⟨h.1,?_⟩
  simp only[cpyV]
  first|exact h.2|exact h.2.symm
 | some a=>
  obtain ⟨b,off,spot⟩:=a
  cases spot with
  | none=>
   simp only[srcV,Option.map_eq_some_iff,Prod.mk.injEq] at h
   obtain ⟨x,h1,rfl,rfl⟩:=h
   exact ⟨rfl,h1⟩
  | some t=>
   cases n with
   | zero=>simp[srcV] at h;obtain ⟨rfl,rfl⟩:=h;exact ⟨rfl,rfl,rfl⟩
   | succ k=>simp[srcV] at h
theorem RelH.refz {base:Heap} {G:Gh} {h:Heap} {σ:St} {c:Array Value} {E:TypeId} (hs:base.size≤h.size) (H:RelH base G (h.push (.cells c E (0,0))) σ) (k k':Nat) (hk:c.size≤k):RelH base G (h.push (.cells c E (k,k'))) σ:=by
 have hc:∀b o,cellG (hp (h.push (.cells c E (k,k')))) b o=cellG (hp (h.push (.cells c E (0,0)))) b o:=by
  intro b o
  unfold cellG hp
  rw[Array.getElem?_push,Array.getElem?_push]
  by_cases hb:b=h.size
  ·rw[if_pos hb,if_pos hb]
  ·rw[if_neg hb,if_neg hb]
 have hw:∀b o,Wr (h.push (.cells c E (0,0))) b o→Wr (h.push (.cells c E (k,k'))) b o:=by
  rintro b o ⟨c',E',fz,h1,h2,h3⟩
  rw[Array.getElem?_push] at h1
  by_cases hb:b=h.size
  ·rw[if_pos hb] at h1
   cases h1
   exact ⟨c,E,(k,k'),by rw[Array.getElem?_push,if_pos hb],h2,by simp only;omega⟩
  ·rw[if_neg hb] at h1
   exact ⟨c',E',fz,by rw[Array.getElem?_push,if_neg hb];exact h1,h2,h3⟩
 refine ⟨H.tab,by simp;omega,fun b hb=>?_,fun b o u hu=>by rw[hc];exact H.st b o u hu,fun i w cs hi=>?_,H.frz,fun i l hl b o hh=>?_,H.disj,H.bd,H.maps.mono (fun _ _ _ h=>h) (fun _ _ _ h=>h) (fun _ _ _ h=>h) fun b o ho hb=>?_⟩
 ·have:=H.keep b hb
  rw[J0 (by omega)] at this ⊢
  exact this
 ·obtain ⟨l,h1,h2,h3,h4,h5⟩:=H.obj i w cs hi
  refine ⟨l,h1,h2,h3,h4,fun j a ha=>?_⟩
  obtain ⟨u,h6,h7⟩:=h5 j a ha
  exact ⟨u,by rw[hc];exact h6,h7⟩
 ·obtain ⟨h1,h2,h3⟩:=H.own i l hl b o hh
  exact ⟨h1,hw b o h2,h3⟩
 ·rw[Array.getElem?_push] at hb ⊢
  by_cases hbe:b=h.size
  ·rw[if_pos hbe] at hb
   cases hb
   cases ho
  ·rw[if_neg hbe] at hb ⊢
   exact hb
theorem ef_sound0 {P:Program} {base:Heap} {G:Gh} {h:Heap} {σ:St} (H:RelH base G h σ) {e:EF} {as:List AV} {vs:List Value} {K:AV→St→Prop} (hL:RelL G as vs) (he:e.awp0 P as σ K):
  e.wp P vs h fun r h'=>∃G' a σ',Gh.le base.size G G'∧RelH base G' h' σ'∧RelV G' a r∧K a σ':=by
 have one:∀{x:AV},RelL G [x] vs→∃u,vs=[u]∧RelV G x u:=by
  intro x H
  obtain ⟨u,us,rfl,h1,H1⟩:=H.cons_inv
  rw[H1.nil_inv]
  exact ⟨u,rfl,h1⟩
 have two:∀{x y:AV},RelL G [x,y] vs→∃u w,vs=[u,w]∧RelV G x u∧RelV G y w:=by
  intro x y H
  obtain ⟨u,us,rfl,h1,H1⟩:=H.cons_inv
  obtain ⟨w,ws,rfl,h2,H2⟩:=H1.cons_inv
  rw[H2.nil_inv]
  exact ⟨u,w,rfl,h1,h2⟩
 unfold EF.awp0 at he
 split at he
 ·
  rename_i T z
  rw[hL.nil_inv]
  obtain ⟨G',l,k1,k2,k3,k4,k5,k6,k7⟩:=H.newObj z [] (z.map abs1) T (RelL.abs1s G z)
  refine ⟨G',_,_,k1,by simpa using k2,?_,he⟩
  have:=RelV.ref (G:=G') σ.length 0 0 l k3 k6
  rw[k4,k5] at this
  exact this
 ·rename_i T a
  obtain ⟨u,rfl,hu⟩:=one hL
  rcases he with he|he
  ·obtain ⟨G',l,k1,k2,k3,k4,k5,k6,k7⟩:=H.newObj u.cells.toList [] a.cells T hu.cells
   refine ⟨G',_,_,k1,by simpa using k2,?_,he⟩
   have:=RelV.ref (G:=G') σ.length 0 0 l k3 k6
   rw[k4,k5] at this
   exact this
  ·obtain ⟨k1,k2,k3⟩:=H.newPub u.cells.toList [] T
   refine ⟨_,_,_,k1,by simpa using k2,?_,he⟩
   have hc:=hu.cells.mono k1
   have:=RelV.ep (G:=G.pub h.size 0 u.cells.toList) a.cells u.cells.toList h.size 0 hc.1 hc.2 k3
   exact this
 ·
  rename_i n i w off a
  obtain ⟨u,v,rfl,hu,hv⟩:=two hL
  obtain ⟨h1,h2,cs,hi,hin,hk⟩:=he
  cases hu with
  | ref _ _ _ l e1 e2=>
   obtain ⟨l',f1,f2,f3,f4,f5⟩:=H.obj _ _ _ hi
   rw[e1] at f1
   cases f1
   have hli:locOf G σ i=some l:=by unfold locOf;rw[hi];exact e1
   have hcl:=hv.cells
   have hlen:v.cells.toList.length=n:=by rw[hcl.1];exact h1
   obtain ⟨h',e,S⟩:=J1 v.cells.toList (h:=h) (b:=l.b) (off:=l.off+off) (fun j hj=>(H.own i l hli l.b _ ⟨e2,rfl,by omega,by omega⟩).2.1) (J76 hcl h2)
   refine ⟨by simpa using hlen,h',e,G,_,_,.refl _ _,?_,.v _,hk⟩
   refine H.storeObj hi e1 (off:=off) (vs:=v.cells.toList) (by omega) S (fun hz=>by rw[hz] at e;simp[stL] at e;exact e.symm) (by rw[Z85];exact f4) ?_
   intro j b hb
   rw[J43 _ _ _ (by omega)] at hb
   split at hb
   ·obtain ⟨x,hx,hr⟩:=hcl.get hb
    refine ⟨x,?_,hr⟩
    have:=S.new _ x hx
    rwa [show l.off+off+(j - off)=l.off+j by omega] at this
   ·obtain ⟨x,hx,hr⟩:=f5 j b hb
    refine ⟨x,?_,hr⟩
    rw[S.old _ _ (by omega)];exact hx
 ·
  rename_i E sz
  obtain ⟨h1,h2,he⟩:=he
  have hfl:=J75 hL
  have hcl:∀v∈vs,v.cells.size=sz:=by
   intro v hv
   obtain ⟨i,hi⟩:=List.mem_iff_getElem?.1 hv
   have hlt:i < as.length:=by rw[←hL.1];exact (List.getElem?_eq_some_iff.1 hi).1
   have:=(hL.2 i _ _ (List.getElem?_eq_getElem hlt) hi).cells.1
   rw[h1 _ (List.getElem_mem hlt)] at this
   simpa using this
  have key:(∀v∈vs,v.cells.size=sz)∧∃G' a σ',Gh.le base.size G G'∧RelH base G' (h.push (.cells (vs.flatMap (·.cells.toList)).toArray E (0,0))) σ'∧RelV G' a (.slice (some ⟨h.size,0,none⟩) vs.length vs.length)∧K a σ':=by
   refine ⟨hcl,?_⟩
   rcases he with he|he
   ·obtain ⟨k1,k2,k3⟩:=H.newPub (vs.flatMap (·.cells.toList)) [] E
    refine ⟨_,_,_,k1,by simpa using k2,?_,he⟩
    have hf2:=hfl.mono k1
    rw[←hL.1]
    exact .sl _ _ _ _ _ _ hf2.1 hf2.2 (Nat.le_refl _) (by rw[hL.1];exact h2) (.inr ⟨_,_,rfl,k3⟩) ⟨rfl,_,_,rfl⟩
   ·obtain ⟨G',l,k1,k2,k3,k4,k5,k6,k7⟩:=H.newObj (vs.flatMap (·.cells.toList)) [] _ E hfl
    refine ⟨G',_,_,k1,by simpa using k2,?_,he⟩
    have:=RelV.ms (G:=G') σ.length 0 0 as.length sz l vs.length k3 k6 (by rw[hL.1];exact Nat.le_refl _) (by rw[hL.1];exact h2) (by
     rw[k5,k7,flat_cells vs hcl];simp)
    rw[k4,k5] at this
    rw[←hL.1] at this ⊢
    exact this
  cases vs<;>exact key
 ·
  rename_i E sz by_ z k l k' c
  obtain ⟨u,v,rfl,hu,hv⟩:=two hL
  cases hu;cases hv
  obtain ⟨hz,h0,h1,h2,h3,hk⟩:=he
  refine ⟨h0,h1,h2,h3,?_⟩
  obtain ⟨G',loc,k1,k2,k3,k4,k5,k6,k7⟩:=H.newObj (rep z c.toNat) [] (repA (z.map abs1) c.toNat) E (repA_rel (RelL.abs1s G z) _)
  refine ⟨G',_,_,k1,by simpa using k2,?_,hk⟩
  have:=RelV.ms (G:=G') σ.length 0 0 l.toNat sz loc c.toNat k3 k6 (by omega) (by omega) (by rw[k5,k7,Q60,hz];simp)
  rw[k4,k5] at this
  exact this
 ·
  rename_i E sz by_ z x y
  obtain ⟨u,v,rfl,hu,hv⟩:=two hL
  obtain ⟨hz,m,news,hs,hm,hone,hn,hb,hA⟩:=he
  obtain ⟨ws,hsrc,hr⟩:=Jj H hs hm hv
  exact app_sound H hz hsrc hr hm hone hn hb hu hA
 ·
  rename_i f
  have key:FnC P f vs.toArray h fun r h'=>∃G' a σ',Gh.le base.size G G'∧RelH base G' h' σ'∧RelV G' a r∧K a σ':=he base G h vs H hL
  cases vs<;>exact key
 ·rename_i f k xs as
  obtain ⟨hok,hf⟩:=he
  obtain ⟨u,us,rfl,hu,hus⟩:=hL.cons_inv
  cases hu with
  | fn _ _ _ ys e1 e2=>
   have hys:RelL G xs ys:=⟨e1,e2⟩
   refine ⟨hok,?_⟩
   have:=hf base G h (ys.take k++us++ys.drop k) H (((hys.take k).append hus).append (hys.drop k))
   have e:(ys.take k).toArray++us.toArray++(ys.drop k).toArray=(ys.take k++us++ys.drop k).toArray:=by simp
   rw[e]
   exact this
 ·
  rw[hL.nil_inv]
  obtain ⟨k1,k2⟩:=H.newMi (x:=.map []) (o:=.map #[] 0) rfl fun _=>trivial
  exact ⟨_,_,_,k1,k2,.mp _ _ (Gh.Qi _ _ _ _) rfl,he⟩
 ·
  rename_i ck i k x
  obtain ⟨u1,us1,rfl,hu1,H1⟩:=hL.cons_inv
  obtain ⟨u2,u3,rfl,hu2,hu3⟩:∃u w,us1=[u,w]∧RelV G (.v k) u∧RelV G x w:=by
   obtain ⟨u,us,rfl,h1,H1⟩:=H1.cons_inv
   obtain ⟨w,ws,rfl,h2,H2⟩:=H1.cons_inv
   rw[H2.nil_inv]
   exact ⟨u,w,rfl,h1,h2⟩
  obtain ⟨es,hi,ys,hp,hk⟩:=he
  cases hu2
  cases hu1 with
  | mp _ l h1 h2=>
   obtain ⟨l0,m1,_,_,_,ob,m4,m5⟩:=H.maps.mp i _ rfl hi
   rw[h1] at m1;cases m1
   obtain ⟨en,c,rfl,m5⟩:=m5.ofMap
   refine ⟨en,c,m4,?_⟩
   rcases putM_find hu3 (i:=0) m5 hp with ⟨j,e,f1,f2,f3⟩|⟨f1,f2⟩
   ·refine .inl ⟨0+j,e,f1,f2,G,_,_,.refl _ _,H.setMi rfl hi h1 (o':=.map (en.modify (0+j) fun e=>{ e with key:=k,val:=u3 }) c) rfl ?_,.v _,hk⟩
    show KvRel _ _ _
    rw[Nat.zero_add,Array.toList_modify]
    exact f3
   ·refine .inr ⟨f1,G,_,_,.refl _ _,H.setMi rfl hi h1 (o':=.map (en.push { key:=k,val:=u3,born:=c }) (c+1)) rfl ?_,.v _,hk⟩
    show KvRel _ _ _
    rw[Array.toList_push]
    exact f2 c
 ·
  rename_i ck z i k
  obtain ⟨u,v,rfl,hu,hv⟩:=two hL
  obtain ⟨es,hi,w,hg,hk⟩:=he
  cases hv
  cases hu with
  | mp _ l h1 h2=>
   obtain ⟨l0,m1,_,_,_,ob,m4,m5⟩:=H.maps.mp i _ rfl hi
   rw[h1] at m1;cases m1
   obtain ⟨en,c,rfl,m5⟩:=m5.ofMap
   obtain ⟨q,f1,f2⟩:=getM_find (RelV.absV G z) (i:=0) m5 hg
   exact ⟨en,c,m4,q,f1,G,_,σ,.refl _ _,H,f2,hk⟩
 ·
  rename_i s
  obtain ⟨u,rfl,hu⟩:=one hL
  cases hu
  obtain ⟨k1,k2⟩:=H.newMi (x:=.itr s 0) (o:=.stringIter s 0) rfl fun _=>⟨rfl,rfl⟩
  exact ⟨_,_,_,k1,k2,.ref _ 0 0 ⟨h.size,0,0,0,0,0,false⟩ (Gh.Qi _ _ _ _) rfl,he⟩
 ·
  rename_i i w off
  obtain ⟨u,rfl,hu⟩:=one hL
  obtain ⟨rfl,rfl,s,pos,hi,he⟩:=he
  cases hu with
  | ref _ _ _ l h1 h2=>
   obtain ⟨l0,m1,_,_,m0,ob,m4,m5⟩:=H.maps.mp i _ rfl hi
   rw[h1] at m1;cases m1
   cases m5.ofItr
   rw[m0]
   refine ⟨s,pos,m4,?_⟩
   have tt:∀(as:List AV) (vs:List Value),RelL G as vs→RelV G (.tup as) (.tuple vs.toArray):=fun as vs hl=>.tup _ _ hl.1 hl.2
   split at he<;>rename_i hc
   ·rw[if_pos hc]
    refine ⟨G,_,_,.refl _ _,H.setMi rfl hi h1 (o':=.stringIter s (pos+(Utf8.decode s pos).2)) (es':=.itr s (pos+(Utf8.decode s pos).2)) rfl ⟨rfl,rfl⟩,?_,he⟩
    exact tt _ [.bool true,.int .i64 pos,.int .i32 (Utf8.decode s pos).1] (.cons (.v _) (.cons (.v _) (.cons (.v _) (.nil G))))
   ·rw[if_neg hc]
    exact ⟨G,_,_,.refl _ _,H,tt _ [.bool false] (.cons (.v _) (.nil G)),he⟩
 ·
  rename_i x
  obtain ⟨u,rfl,hu⟩:=one hL
  obtain ⟨h1,n,bs,h2,h3,hk⟩:=he
  obtain ⟨a,n',c,rfl⟩:=isSl_rel h1 hu
  obtain ⟨ws,e1,e2⟩:=Jj H h2 (by simpa using h3) hu
  have hw:ws=bs.map fun b=>Value.int .u8 b.toNat:=by
   apply List.ext_getElem?
   intro j
   have hlen:=e2.1
   by_cases hj:j < bs.length
   ·have hj2:j < ws.length:=by rw[hlen];simpa using hj
    have ha:(bs.map fun b=>AV.v (.int .u8 b.toNat))[j]?=some (.v (.int .u8 (bs[j]'hj).toNat)):=by simp[hj]
    have hv:=e2.2 j _ _ ha (List.getElem?_eq_getElem hj2)
    rw[List.getElem?_eq_getElem hj2,List.getElem?_map,List.getElem?_eq_getElem hj]
    revert hv
    generalize ws[j]=z
    intro hv
    cases hv
    rfl
   ·rw[List.getElem?_eq_none (by rw[hlen];simpa using hj),List.getElem?_eq_none (by simpa using hj)]
  subst hw
  have hn:n'=n:=(Y06 e1).1
  subst hn
  exact ⟨n',bs,⟨a,c,rfl⟩,e1,G,_,σ,.refl _ _,H,.v _,hk⟩
 ·
  rename_i sz i w off n s y
  obtain ⟨u,v,rfl,hu,hv⟩:=two hL
  obtain ⟨rfl,hsl,m,news,h1,h2,h3,hmn,cs,hi,hin,hk⟩:=he
  obtain ⟨ws,e1,e2⟩:=Jj H h1 h2 hv
  obtain ⟨a,m',c,rfl⟩:=isSl_rel hsl hv
  have hwl:ws.length=m * s:=by rw[e2.1];exact h2
  cases hu with
  | ms _ _ _ _ _ l cap g1 g2 g3 g4 g5=>
   obtain ⟨l',f1,f2,f3,f4,f5⟩:=H.obj _ _ _ hi
   rw[g1] at f1
   cases f1
   have hli:locOf G σ i=some l:=by unfold locOf;rw[hi];exact g1
   obtain ⟨h',e,S⟩:=J1 ws (h:=h) (b:=l.b) (off:=l.off+off) (fun j hj=>(H.own i l hli l.b _ ⟨g2,rfl,by omega,by omega⟩).2.1) (J76 e2 h3)
   refine ⟨ws,?_,h',e,?_⟩
   ·obtain ⟨rfl,hs⟩:=Y06 e1
    rw[Nat.min_eq_left hmn]
    exact hs
   ·have hm:min m' n=m:=by rw[(Y06 e1).1];exact Nat.min_eq_left hmn
    rw[hm]
    refine ⟨G,_,_,.refl _ _,?_,.v _,hk⟩
    refine H.storeObj hi g1 (off:=off) (vs:=ws) (by omega) S (fun hz=>by rw[hz] at e;simp[stL] at e;exact e.symm) (by rw[Z85];exact f4) ?_
    intro j b hb
    rw[J43 _ _ _ (by omega)] at hb
    split at hb
    ·obtain ⟨x,hx,hr⟩:=e2.get hb
     refine ⟨x,?_,hr⟩
     have:=S.new _ x hx
     rwa [show l.off+off+(j - off)=l.off+j by omega] at this
    ·obtain ⟨x,hx,hr⟩:=f5 j b hb
     refine ⟨x,?_,hr⟩
     rw[S.old _ _ (by omega)];exact hx
 ·
  rename_i E s
  obtain ⟨u,rfl,hu⟩:=one hL
  cases hu
  obtain ⟨h1,hk⟩:=he
  refine ⟨h1,fun c hc1 hc2=>?_⟩
  have hsz:s.data.toList.length=s.size:=rfl
  obtain ⟨G1,k1,k2,k3⟩:=H.newTail ⟨0,0,0,0,0,0,true⟩ (fun b o hh=>by simp[Loc.has] at hh)
  obtain ⟨G2,g1,g2,g3,g4⟩:=k2.moveTail (i:=σ.length) (w:=0) (by simp) (s.data.toList.map fun b=>Value.int .u8 b.toNat) (rep [.int .u8 0] (c - s.size)) E s.size c
  have hcs:((s.data.toList.map fun b=>Value.int .u8 b.toNat)++rep [.int .u8 0] (c - s.size)).toArray.size=c:=by
   simp[Q60 _ _]
   omega
  refine ⟨G2,_,_,k1.trans g1,g2.refz H.size c (c+1) (by omega),?_,by simpa using hk⟩
  refine .sl _ _ _ _ _ (s.data.toList.map fun b=>Value.int .u8 b.toNat) (by simp) (fun i a u ha hu=>?_) hc1 (by omega) (.inr ⟨_,_,rfl,g3⟩) ⟨_,g4,rfl,?_,rfl,?_,?_⟩
  ·simp only[List.getElem?_map,Option.map_eq_some_iff] at ha hu
   obtain ⟨b,hb,rfl⟩:=ha
   obtain ⟨d,hd,rfl⟩:=hu
   rw[hb] at hd
   cases hd
   exact .v _
  ·simp
  ·simp only[Q60,List.length_map,hsz,List.length_cons,List.length_nil]
   omega
  ·simp
 ·exact he.elim
theorem ef_sound {P:Program} {base:Heap} {G:Gh} {h:Heap} {σ:St} (H:RelH base G h σ) {e:EF} {as:List AV} {vs:List Value} {K:AV→St→Prop} (hL:RelL G as vs) (he:e.awp P as σ K):
  e.wp P vs h fun r h'=>∃G' a σ',Gh.le base.size G G'∧RelH base G' h' σ'∧RelV G' a r∧K a σ':=by
 obtain ⟨ss,he⟩:=he
 induction ss generalizing G σ as with
 | nil=>exact ef_sound0 H hL he
 | cons s ss ih=>
  obtain ⟨is,fs⟩:=s
  obtain ⟨G1,k1,H1⟩:=H.freeze is
  refine EF.wp_mono ?_ (ih H1 (weak_rel H1 fs (hL.mono k1)) he)
  rintro r h' ⟨G',a,σ',g1,g2,g3,g4⟩
  exact ⟨G',a,σ',k1.trans g1,g2,g3,g4⟩
end Go.Kx
