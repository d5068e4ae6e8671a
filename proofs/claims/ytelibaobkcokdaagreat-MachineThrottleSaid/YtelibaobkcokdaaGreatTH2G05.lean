/- Annotated values, part a: a value with what it reads as; what a heap holds of it -/
import Derived.Test.YtelibaobkcokdaaGreatTH2G04
namespace Go.Kx
set_option linter.unusedVariables false
set_option linter.unusedSimpArgs false
open Go
inductive Tok where
 | none|nil|full|id (i ver sz:Nat)
 deriving DecidableEq,Inhabited,Repr
inductive AV where
 | v (x:Value)
 | agg (xs:List AV)
 | tup (xs:List AV)
 | sl (n:Nat) (cs:List AV) (t:Tok)
 | ep (cs:List AV)
 | ref (i ver off:Nat)
 | ms (i ver off n sz:Nat)
 | fn (f:Fn) (k:Nat) (xs:List AV)
 | ifc (t:TypeId) (x:AV)
 | mp (i:Nat)
 deriving Inhabited
structure Loc where
 b:Nat
 off:Nat
 cap:Nat
 n:Nat
 e:Nat
 lim:Nat
 isnil:Bool
def Loc.has (l:Loc) (b o:Nat):Prop:=l.isnil=false∧b=l.b∧l.e≤o∧o < l.lim
structure Gh where
 g:Nat→Nat→Option Value
 T:Nat→Nat→Option Loc
structure Gh.le (base:Nat) (G G':Gh):Prop where
 g:∀b o u,G.g b o=some u→G'.g b o=some u
 T:∀i w l,G.T i w=some l→G'.T i w=some l
 old:∀b o,b < base→G'.g b o=G.g b o
theorem Gh.le.refl (n:Nat) (G:Gh):Gh.le n G G:=⟨fun _ _ _ h=>h,fun _ _ _ h=>h,fun _ _ _=>rfl⟩
theorem Gh.le.trans {n:Nat} {A B C:Gh} (h:Gh.le n A B) (k:Gh.le n B C):Gh.le n A C:=
 ⟨fun b o u e=>k.g b o u (h.g b o u e),fun i w l e=>k.T i w l (h.T i w l e),fun b o hb=>(k.old b o hb).trans (h.old b o hb)⟩
theorem Gh.le.weaken {n m:Nat} {A B:Gh} (h:Gh.le n A B) (hm:m≤n):Gh.le m A B:=⟨h.g,h.T,fun b o hb=>h.old b o ka⟩
def SlAt (G:Gh) (n:Nat) (vs:List Value) (a:Option Addr):Prop:=
 (n=0∧vs=[])∨∃b off,a=some ⟨b,off,none⟩∧∀i u,vs[i]?=some u→G.g b (off+i)=some u
def TokAt (G:Gh) (n len:Nat) (a:Option Addr) (cap:Nat):Tok→Prop
 | .none=>True
 | .nil=>n=0∧a=none∧cap=0
 | .full=>n=cap∧∃b off,a=some ⟨b,off,none⟩
 | .id i ver sz=>∃l,G.T i ver=some l∧l.n=n∧l.e=l.off+len∧l.cap=cap∧l.lim=l.off+cap * sz∧(if l.isnil then a=none∧n=0∧cap=0 else a=some ⟨l.b,l.off,none⟩)
inductive RelV (G:Gh):AV→Value→Prop
 | v (x:Value):RelV G (.v x) x
 | agg (xs:List AV) (vs:List Value):vs.length=xs.length→(∀(i:Nat) (a:AV) (u:Value),xs[i]?=some a→vs[i]?=some u→RelV G a u)→RelV G (.agg xs) (.agg vs.toArray)
 | tup (xs:List AV) (vs:List Value):vs.length=xs.length→(∀(i:Nat) (a:AV) (u:Value),xs[i]?=some a→vs[i]?=some u→RelV G a u)→RelV G (.tup xs) (.tuple vs.toArray)
 | sl (n:Nat) (cs:List AV) (t:Tok) (a:Option Addr) (cap:Nat) (vs:List Value):vs.length=cs.length→(∀(i:Nat) (a:AV) (u:Value),cs[i]?=some a→vs[i]?=some u→RelV G a u) →
   n≤cap→cap≤9223372036854775807→SlAt G n vs a→TokAt G n cs.length a cap t→RelV G (.sl n cs t) (.slice a n cap)
 | ep (cs:List AV) (vs:List Value) (b off:Nat):vs.length=cs.length→(∀(i:Nat) (a:AV) (u:Value),cs[i]?=some a→vs[i]?=some u→RelV G a u) →
   (∀i u,vs[i]?=some u→G.g b (off+i)=some u)→RelV G (.ep cs) (.pointer (some ⟨b,off,none⟩))
 | ref (i ver off:Nat) (l:Loc):G.T i ver=some l→l.isnil=false→RelV G (.ref i ver off) (.pointer (some ⟨l.b,l.off+off,none⟩))
 | ms (i ver off n sz:Nat) (l:Loc) (cap:Nat):G.T i ver=some l→l.isnil=false→n≤cap→cap≤9223372036854775807→l.off+off+cap * sz=l.lim →
   RelV G (.ms i ver off n sz) (.slice (some ⟨l.b,l.off+off,none⟩) n cap)
 | fn (f:Fn) (k:Nat) (xs:List AV) (vs:List Value):vs.length=xs.length→(∀(i:Nat) (a:AV) (u:Value),xs[i]?=some a→vs[i]?=some u→RelV G a u) →
   RelV G (.fn f k xs) (.func f (vs.take k).toArray (vs.drop k).toArray)
 | ifc (t:TypeId) (x:AV) (u:Value):RelV G x u→RelV G (.ifc t x) (.iface t u)
 | mp (i:Nat) (l:Loc):G.T i 0=some l→l.isnil=false→RelV G (.mp i) (.map (some l.b))
def RelL (G:Gh) (xs:List AV) (vs:List Value):Prop:=vs.length=xs.length∧∀(i:Nat) (a:AV) (u:Value),xs[i]?=some a→vs[i]?=some u→RelV G a u
theorem TokAt.mono {G G':Gh} (hT:∀i w l,G.T i w=some l→G'.T i w=some l) {n len:Nat} {a:Option Addr} {cap:Nat} {t:Tok} (h:TokAt G n len a cap t):TokAt G' n len a cap t:=by
 cases t with
 | id i ver sz=>obtain ⟨l,h1,h2⟩:=h;exact ⟨l,hT _ _ _ h1,h2⟩
 | _=>exact h
theorem SlAt.mono {G G':Gh} (hg:∀b o u,G.g b o=some u→G'.g b o=some u) {n:Nat} {vs:List Value} {a:Option Addr} (h:SlAt G n vs a):SlAt G' n vs a:=by
 rcases h with h|⟨b,off,h1,h2⟩
 ·exact .inl h
 ·exact .inr ⟨b,off,h1,fun i u hu=>hg _ _ _ (h2 i u hu)⟩
theorem RelV.mono' {G G':Gh} (hg:∀b o u,G.g b o=some u→G'.g b o=some u) (hT:∀i w l,G.T i w=some l→G'.T i w=some l) {a:AV} {u:Value} (h:RelV G a u):RelV G' a u:=by
 induction h with
 | v x=>exact .v x
 | agg xs vs h1 h2 ih=>exact .agg xs vs h1 ih
 | tup xs vs h1 h2 ih=>exact .tup xs vs h1 ih
 | sl n cs t a cap vs h1 h2 h3 h4 h5 h6 ih=>exact .sl n cs t a cap vs h1 ih h3 h4 (h5.mono hg) (h6.mono hT)
 | ep cs vs b off h1 h2 h3 ih=>exact .ep cs vs b off h1 ih fun i u hu=>hg _ _ _ (h3 i u hu)
 | ref i ver off l h1 h2=>exact .ref i ver off l (hT _ _ _ h1) h2
 | ms i ver off n sz l cap h1 h2 h3 h4 h5=>exact .ms i ver off n sz l cap (hT _ _ _ h1) h2 h3 h4 h5
 | fn f k xs vs h1 h2 ih=>exact .fn f k xs vs h1 ih
 | ifc t x u h ih=>exact .ifc t x u ih
 | mp i l h1 h2=>exact .mp i l (hT _ _ _ h1) h2
theorem RelV.mono {n:Nat} {G G':Gh} (h:Gh.le n G G') {a:AV} {u:Value} (H:RelV G a u):RelV G' a u:=H.mono' h.g h.T
theorem RelL.mono {n:Nat} {G G':Gh} (h:Gh.le n G G') {xs:List AV} {vs:List Value} (H:RelL G xs vs):RelL G' xs vs:=⟨H.1,fun i a u ha hu=>(H.2 i a u ha hu).mono h⟩
theorem RelL.nil (G:Gh):RelL G [] []:=⟨rfl,fun i a u h=>by simp at h⟩
theorem RelL.cons {G:Gh} {a:AV} {u:Value} {xs:List AV} {vs:List Value} (h:RelV G a u) (H:RelL G xs vs):RelL G (a::xs) (u::vs):=by
 refine ⟨by simp[H.1],fun i b w hb hw=>?_⟩
 cases i with
 | zero=>simp at hb hw;subst hb;subst hw;exact h
 | succ i=>exact H.2 i b w (by simpa using hb) (by simpa using hw)
theorem RelL.nil_inv {G:Gh} {vs:List Value} (H:RelL G [] vs):vs=[]:=List.eq_nil_of_length_eq_zero (by simpa using H.1)
theorem RelL.cons_inv {G:Gh} {a:AV} {xs:List AV} {vs:List Value} (H:RelL G (a::xs) vs):∃u us,vs=u::us∧RelV G a u∧RelL G xs us:=by
 cases vs with
 | nil=>have:=H.1;simp at this
 | cons u us=>refine ⟨u,us,rfl,H.2 0 _ _ rfl rfl,by simpa using H.1,fun i b w hb hw=>H.2 (i+1) b w (by simpa using hb) (by simpa using hw)⟩
theorem RelL.append {G:Gh} {xs ys:List AV} {vs ws:List Value} (H:RelL G xs vs) (K:RelL G ys ws):RelL G (xs++ys) (vs++ws):=by
 refine ⟨by simp[H.1,K.1],fun i a u ha hu=>?_⟩;by_cases hi:i < xs.length
 ·rw[List.getElem?_append_left hi] at ha;rw[List.getElem?_append_left (by rw[H.1];exact hi)] at hu;exact H.2 i a u ha hu
 ·rw[List.getElem?_append_right ka] at ha;rw[List.getElem?_append_right (by rw[H.1];omega),H.1] at hu;exact K.2 _ a u ha hu
theorem RelL.take {G:Gh} {xs:List AV} {vs:List Value} (H:RelL G xs vs) (k:Nat):RelL G (xs.take k) (vs.take k):=by
 refine ⟨by simp[H.1],fun i a u ha hu=>?_⟩;simp only[List.getElem?_take] at ha hu;split at ha
 ·rename_i hk;rw[if_pos hk] at hu;exact H.2 i a u ha hu
 ·cases ha
theorem RelL.drop {G:Gh} {xs:List AV} {vs:List Value} (H:RelL G xs vs) (k:Nat):RelL G (xs.drop k) (vs.drop k):=by refine ⟨by simp[H.1],fun i a u ha hu=>?_⟩;simp only[List.getElem?_drop] at ha hu;exact H.2 _ a u ha hu
theorem RelL.get {G:Gh} {xs:List AV} {vs:List Value} (H:RelL G xs vs) {i:Nat} {a:AV} (h:xs[i]?=some a):∃u,vs[i]?=some u∧RelV G a u:=by
 have hlt:i < vs.length:=by rw[H.1];exact (List.getElem?_eq_some_iff.1 h).1
 exact ⟨vs[i],List.getElem?_eq_getElem hlt,H.2 i a _ h (List.getElem?_eq_getElem hlt)⟩
theorem RelL.set {G:Gh} {xs:List AV} {vs:List Value} (H:RelL G xs vs) (k:Nat) {a:AV} {u:Value} (h:RelV G a u):RelL G (xs.set k a) (vs.set k u):=by
 refine ⟨by simp[H.1],fun i b w hb hw=>?_⟩;by_cases hk:k=i
 ·subst hk;simp only[List.getElem?_set,if_true] at hb hw;split at hb
  ·rename_i hlt;rw[if_pos (by rw[H.1];exact hlt)] at hw;cases hb;cases hw;exact h
  ·cases hb
 ·rw[List.getElem?_set_ne hk] at hb hw;exact H.2 i b w hb hw
def AV.cells:AV→List AV
 | .agg xs=>xs
 | .v x=>x.cells.toList.map .v
 | a=>[a]
def AV.one:AV→Bool
 | .v x=>x.oneCell'
 | .agg _|.tup _=>false
 | _=>true
theorem RelV.one {G:Gh} {a:AV} {u:Value} (h:RelV G a u) (ha:a.one=true):u.oneCell'=true:=by cases h<;>first|exact ha|rfl|(simp[AV.one] at ha)
theorem RelL.lits (G:Gh) (vs:List Value):RelL G (vs.map .v) vs:=by refine ⟨by simp,fun i a u ha hu=>?_⟩;rw[List.getElem?_map,hu] at ha;cases ha;exact .v u
theorem RelV.cells {G:Gh} {a:AV} {u:Value} (h:RelV G a u):RelL G a.cells u.cells.toList:=by
 have h1:∀{a:AV} {u:Value},RelV G a u→RelL G [a] [u]:=fun h=>.cons h (.nil G)
 cases h with
 | v x=>exact RelL.lits G _
 | agg xs vs h1 h2=>exact ⟨by simpa[Value.cells,AV.cells] using h1,by simpa[Value.cells,AV.cells] using h2⟩
 | tup xs vs a b=>exact h1 (.tup xs vs a b)
 | sl n cs t a cap vs b c d e f g=>exact h1 (.sl n cs t a cap vs b c d e f g)
 | ep cs vs b off c d e=>exact h1 (.ep cs vs b off c d e)
 | ref i ver off l b c=>exact h1 (.ref i ver off l b c)
 | ms i ver off n sz l cap b c d e f=>exact h1 (.ms i ver off n sz l cap b c d e f)
 | fn f k xs vs b c=>exact h1 (.fn f k xs vs b c)
 | ifc t x u b=>exact h1 (.ifc t x u b)
 | mp i l b c=>exact h1 (.mp i l b c)
def abs1:Value→AV
 | .slice none 0 0=>.sl 0 [] .nil
 | .func f a b=>.fn f a.size ((a.toList++b.toList).map .v)
 | x=>.v x
def absV:Value→AV
 | .agg cs=>.agg (cs.toList.map abs1)
 | x=>abs1 x
theorem RelV.abs1 (G:Gh) (x:Value):RelV G (abs1 x) x:=by
 unfold Go.Kx.abs1;split
 ·exact .sl 0 [] .nil none 0 [] rfl (fun i a u h=>by simp at h) (Nat.le_refl _) ka (.inl ⟨rfl,rfl⟩) ⟨rfl,rfl,rfl⟩
 ·rename_i f a b;have:=RelV.fn (G:=G) f a.size ((a.toList++b.toList).map .v) (a.toList++b.toList) ke (RelL.lits G _).2;have e1:(a.toList++b.toList).take a.size=a.toList:=by rw[List.take_append_of_le_length ke,List.take_of_length_le ke]
  have e2:(a.toList++b.toList).drop a.size=b.toList:=by rw[List.drop_append_of_le_length ke,List.drop_of_length_le ke,List.nil_append]
  rw[e1,e2] at this;simpa using this
 ·exact .v x
theorem RelV.absV (G:Gh) (x:Value):RelV G (absV x) x:=by
 unfold Go.Kx.absV;split
 ·rename_i cs;have:=RelV.agg (G:=G) (cs.toList.map Go.Kx.abs1) cs.toList ke (fun i a u ha hu=>by rw[List.getElem?_map,hu] at ha;cases ha;exact RelV.abs1 G u);simpa using this
 ·exact RelV.abs1 G x
theorem RelL.abs1s (G:Gh) (vs:List Value):RelL G (vs.map Go.Kx.abs1) vs:=by refine ⟨by simp,fun i a u ha hu=>?_⟩;rw[List.getElem?_map,hu] at ha;cases ha;exact RelV.abs1 G u
def AV.exact1:AV→Bool
 | .v _|.ref _ _ _|.mp _=>true
 | .sl _ _ .nil|.sl _ _ (.id _ _ _)=>true
 | .ms _ _ _ _ sz=>decide (0 < sz)
 | _=>false
def AV.exact:AV→Bool
 | .agg xs=>xs.all AV.exact1
 | a=>a.exact1
theorem RelV.exact1 {G:Gh} {a:AV} {u w:Value} (h:RelV G a u) (k:RelV G a w) (he:a.exact1=true):u=w:=by
 cases h with
 | v x=>cases k;rfl
 | ref i ver off l h1 h2=>cases k with|ref _ _ _ l' k1 k2=>rw[h1] at k1;cases k1;rfl
 | mp i l h1 h2=>cases k with|mp _ l' k1 k2=>rw[h1] at k1;cases k1;rfl
 | ms i ver off n sz l cap h1 h2 h3 h4 h5=>
  cases k with
  | ms _ _ _ _ _ l' cap' k1 k2 k3 k4 k5=>
   rw[h1] at k1;cases k1;have hs:0 < sz:=of_decide_eq_true he;have:cap * sz=cap' * sz:=by omega
   rw[Nat.eq_of_mul_eq_mul_right hs this]
 | sl n cs t a cap vs h1 h2 h3 h4 h5 h6=>
  cases k with
  | sl _ _ _ a' cap' vs' k1 k2 k3 k4 k5 k6=>
   cases t with
   | none=>simp[AV.exact1] at he
   | full=>simp[AV.exact1] at he
   | nil=>obtain ⟨_,rfl,rfl⟩:=h6;obtain ⟨_,rfl,rfl⟩:=k6;rfl
   | id i ver sz=>
    obtain ⟨l,e1,e2,e3,e4,e5,e6⟩:=h6;obtain ⟨l',f1,f2,f3,f4,f5,f6⟩:=k6;rw[e1] at f1;cases f1;have hcap:cap=cap':=by omega
    subst hcap
    cases hn:l.isnil with
    | true=>rw[hn,if_pos rfl] at e6 f6;rw[e6.1,f6.1]
    | false=>rw[hn,if_neg ke] at e6 f6;rw[e6,f6]
 | _=>simp[AV.exact1] at he
theorem RelV.exact {G:Gh} {a:AV} {u w:Value} (h:RelV G a u) (k:RelV G a w) (he:a.exact=true):u=w:=by
 cases a with
 | agg xs=>
  cases h with
  | agg _ vs h1 h2=>
   cases k with
   | agg _ ws k1 k2=>
    congr 2;apply List.ext_getElem?;intro i;by_cases hi:i < xs.length
    ·have e1:=List.getElem?_eq_getElem hi;have e2:vs[i]?=some (vs[i]'(by omega)):=List.getElem?_eq_getElem _;have e3:ws[i]?=some (ws[i]'(by omega)):=List.getElem?_eq_getElem _;simp only[AV.exact,List.all_eq_true] at he;rw[e2,e3,(h2 i _ _ e1 e2).exact1 (k2 i _ _ e1 e3) (he _ (List.getElem_mem hi))]
    ·rw[List.getElem?_eq_none ka,List.getElem?_eq_none ka]
 | _=>exact h.exact1 k he
abbrev TabOk (_:Heap):Prop:=True
theorem TabOk.keep {base h:Heap} (H:TabOk base) (_:base.size≤h.size) (_:∀b,b < base.size→h[b]?=base[b]?):TabOk h:=H
inductive Res where
 | dead
 | obj (ver:Nat) (cs:List AV)
 | frz (ver:Nat) (cs:List AV)
 | tail (ver:Nat)
 | map (es:List (Value×AV))
 | itr (s:ByteArray) (pos:Nat)
 deriving Inhabited
abbrev St:=List Res
def Res.live:Res→Option Nat
 | .obj w _=>some w
 | .tail w=>some w
 | _=>none
def Wr (h:Heap) (b o:Nat):Prop:=∃c E fz,h[b]?=some (.cells c E fz)∧o < c.size∧¬(fz.1≤o∧o < fz.2)
theorem Wr.lt {h:Heap} {b o:Nat} (H:Wr h b o):b < h.size:=by obtain ⟨c,E,fz,h1,_⟩:=H;exact (Array.getElem?_eq_some_iff.1 h1).1
theorem Z02 {h:Heap} {b o:Nat} {u:Value} (H:cellG (hp h) b o=some u):b < h.size:=by
 unfold cellG hp at H;by_cases hb:b < h.size
 ·exact hb
 ·rw[Array.getElem?_eq_none ka] at H;cases H
def locOf (G:Gh) (σ:St) (i:Nat):Option Loc:=(σ[i]?).bind fun r=>r.live.bind fun w=>G.T i w
def KvRel (G:Gh):List MapEntry→List (Value×AV)→Prop
 | [],[]=>True
 | e::en,p::es=>e.key=p.1∧RelV G p.2 e.val∧KvRel G en es
 | _,_=>False
theorem KvRel.mono {G G':Gh} (hg:∀b o u,G.g b o=some u→G'.g b o=some u) (hT:∀i w l,G.T i w=some l→G'.T i w=some l):∀{en:List MapEntry} {es:List (Value×AV)},KvRel G en es→KvRel G' en es:=by
 intro en
 induction en with
 | nil=>intro es h;cases es with
  | nil=>trivial
  | cons p es=>exact h.elim
 | cons e en ih=>
  intro es h
  cases es with
  | nil=>exact h.elim
  | cons p es=>exact ⟨h.1,h.2.1.mono' hg hT,ih h.2.2⟩
theorem KvRel.append {G:Gh}:∀{en en':List MapEntry} {es es':List (Value×AV)},KvRel G en es→KvRel G en' es'→KvRel G (en++en') (es++es'):=by
 intro en
 induction en with
 | nil=>intro en' es es' h k;cases es with
  | nil=>exact k
  | cons p es=>exact h.elim
 | cons e en ih=>
  intro en' es es' h k
  cases es with
  | nil=>exact h.elim
  | cons p es=>exact ⟨h.1,h.2.1,ih h.2.2 k⟩
def Res.isMi:Res→Bool
 | .map _|.itr _ _=>true
 | _=>false
def miO:Obj→Bool
 | .map _ _|.stringIter _ _=>true
 | _=>false
def MiRel (G:Gh):Res→Obj→Prop
 | .map es,.map en _=>KvRel G en.toList es
 | .itr s pos,.stringIter s' pos'=>s'=s∧pos'=pos
 | _,_=>False
theorem MiRel.mono {G G':Gh} (hg:∀b o u,G.g b o=some u→G'.g b o=some u) (hT:∀i w l,G.T i w=some l→G'.T i w=some l) {r:Res} {o:Obj} (h:MiRel G r o):MiRel G' r o:=by
 unfold MiRel at *;split at h
 ·exact h.mono hg hT
 ·exact h
 ·exact h.elim
theorem MiRel.mi {G:Gh} {r:Res} {o:Obj} (h:MiRel G r o):miO o=true:=by
 unfold MiRel at h;split at h
 ·rfl
 ·rfl
 ·exact h.elim
theorem MiRel.ofMap {G:Gh} {es:List (Value×AV)} {o:Obj} (h:MiRel G (.map es) o):∃en c,o=.map en c∧KvRel G en.toList es:=by
 cases o with
 | map en c=>exact ⟨en,c,rfl,h⟩
 | _=>exact h.elim
theorem MiRel.ofItr {G:Gh} {s:ByteArray} {pos:Nat} {o:Obj} (h:MiRel G (.itr s pos) o):o=.stringIter s pos:=by
 cases o with
 | stringIter s' pos'=>obtain ⟨rfl,rfl⟩:=h;rfl
 | _=>exact h.elim
theorem miO_cells {h:Heap} {b:Nat} {o:Obj} (hb:h[b]?=some o) (ho:miO o=true) {c:Array Value} {E:TypeId} {fz:Nat×Nat} (hc:h[b]?=some (.cells c E fz)):False:=by rw[hb] at hc;cases hc;cases ho
structure MapsOk (n:Nat) (G:Gh) (h:Heap) (σ:St):Prop where
 mp:∀(i:Nat) (r:Res),r.isMi=true→σ[i]?=some r→∃l,G.T i 0=some l∧l.isnil=false∧n≤l.b∧l.off=0∧∃o,h[l.b]?=some o∧MiRel G r o
 dj:∀(i j:Nat) (r r':Res) (l m:Loc),i≠j→r.isMi=true→r'.isMi=true→σ[i]?=some r→σ[j]?=some r'→G.T i 0=some l→G.T j 0=some m→l.b≠m.b
theorem MapsOk.mono {n:Nat} {G G':Gh} {h h':Heap} {σ σ':St} (H:MapsOk n G h σ) (hσ:∀(i:Nat) (r:Res),r.isMi=true→σ'[i]?=some r→σ[i]?=some r) (hg:∀b o u,G.g b o=some u→G'.g b o=some u) (hT:∀i w l,G.T i w=some l→G'.T i w=some l)
  (hh:∀(b:Nat) (o:Obj),miO o=true→h[b]?=some o→h'[b]?=some o):MapsOk n G' h' σ':=by
 refine ⟨fun i r hr hi=>?_,fun i j es es' l m hij hr hr' hi hj hl hm=>?_⟩
 ·obtain ⟨l,h1,h2,h3,h0,o,h4,h5⟩:=H.mp i r hr (hσ i r hr hi);exact ⟨l,hT _ _ _ h1,h2,h3,h0,o,hh _ _ h5.mi h4,h5.mono hg hT⟩
 ·obtain ⟨l0,a1,_⟩:=H.mp i es hr (hσ i es hr hi);obtain ⟨m0,b1,_⟩:=H.mp j es' hr' (hσ j es' hr' hj);have e1:=hT _ _ _ a1;have e2:=hT _ _ _ b1;rw[hl] at e1;cases e1;rw[hm] at e2;cases e2;exact H.dj i j es es' l m hij hr hr' (hσ i es hr hi) (hσ j es' hr' hj) a1 b1
theorem map_app {σ:St} {r:Res} (hr:r.isMi=false):∀(i:Nat) (x:Res),x.isMi=true→(σ++[r])[i]?=some x→σ[i]?=some x:=by
 intro i x hx h;by_cases hi:i < σ.length
 ·rwa [List.getElem?_append_left hi] at h
 ·have h1:=(List.getElem?_eq_some_iff.1 h).1;rw[List.length_append,List.length_singleton] at h1;have:i=σ.length:=by omega
  subst this;simp at h;rw[←h,hr] at hx;cases hx
theorem Xj {σ:St} {k:Nat} {r:Res} (hr:r.isMi=false):∀(i:Nat) (x:Res),x.isMi=true→(σ.set k r)[i]?=some x→σ[i]?=some x:=by
 intro i x hx h;rw[List.getElem?_set] at h;split at h
 ·split at h
  ·simp at h;rw[←h,hr] at hx;cases hx
  ·cases h
 ·exact h
theorem Y5 {r:Res} {w:Nat} (h:r.live=some w):r.isMi=false:=by cases r<;>first|rfl|cases h
structure RelH (base:Heap) (G:Gh) (h:Heap) (σ:St):Prop where
 tab:TabOk base
 size:base.size≤h.size
 keep:∀b,b < base.size→h[b]?=base[b]?
 st:∀b o u,G.g b o=some u→cellG (hp h) b o=some u
 obj:∀i w cs,σ[i]?=some (.obj w cs)→∃l,G.T i w=some l∧l.isnil=false∧l.e=l.off∧l.off+cs.length≤l.lim∧∀j a,cs[j]?=some a→∃u,cellG (hp h) l.b (l.off+j)=some u∧RelV G a u
 frz:∀i w cs,σ[i]?=some (.frz w cs)→∃l,G.T i w=some l∧l.isnil=false∧∀j a,cs[j]?=some a→∃u,G.g l.b (l.off+j)=some u∧RelV G a u
 own:∀i l,locOf G σ i=some l→∀b o,l.has b o→base.size≤b∧Wr h b o∧G.g b o=none
 disj:∀i j l m,i≠j→locOf G σ i=some l→locOf G σ j=some m→∀b o,l.has b o→¬m.has b o
 bd:∀i w l,G.T i w=some l→i < σ.length∧∀r w',σ[i]?=some r→r.live=some w'→w≤w'
 maps:MapsOk base.size G h σ
theorem XF {h:Heap} {o:Obj} {b k:Nat} (hb:b < h.size):cellG (hp (h.push o)) b k=cellG (hp h) b k:=by unfold cellG hp;rw[Array.getElem?_push,if_neg ka]
theorem Y58 {h:Heap} {o:Obj} {b:Nat} (hb:b < h.size):(h.push o)[b]?=h[b]?:=by rw[Array.getElem?_push,if_neg ka]
theorem Z43 {h:Heap} {c:Array Value} {E:TypeId} {fz:Nat×Nat} {k:Nat}:cellG (hp (h.push (.cells c E fz))) h.size k=c[k]?:=by unfold cellG hp;simp
theorem Wr.push {h:Heap} {o:Obj} {b k:Nat} (H:Wr h b k):Wr (h.push o) b k:=by have hl:=H.lt;obtain ⟨c,E,fz,h1,h2⟩:=H;exact ⟨c,E,fz,by rw[Y58 hl];exact h1,h2⟩
theorem Wr_new {h:Heap} {c:Array Value} {E:TypeId} {k:Nat} (hk:k < c.size):Wr (h.push (.cells c E (0,0))) h.size k:=⟨c,E,(0,0),by simp,hk,by simp⟩
theorem RelH.push {base:Heap} {G:Gh} {h:Heap} {σ:St} (H:RelH base G h σ) (o:Obj):RelH base G (h.push o) σ:=by
 have hs:=H.size;refine ⟨H.tab,by simp;omega,fun b hb=>by rw[Y58 ka];exact H.keep b hb,?_,?_,H.frz,?_,H.disj,H.bd,H.maps.mono (fun _ _ _ h=>h) (fun _ _ _ h=>h) (fun _ _ _ h=>h) fun b en c hb=>by rw[Y58 (Array.getElem?_eq_some_iff.1 hb).1];exact hb⟩
 ·intro b k u hu;have:=H.st b k u hu;rw[XF (Z02 this)];exact this
 ·intro i w cs hi;obtain ⟨l,h1,h2,h3,h4,h5⟩:=H.obj i w cs hi;refine ⟨l,h1,h2,h3,h4,fun j a ha=>?_⟩;obtain ⟨u,h6,h7⟩:=h5 j a ha;exact ⟨u,by rw[XF (Z02 h6)];exact h6,h7⟩
 ·intro i l hl b k hk;obtain ⟨h1,h2,h3⟩:=H.own i l hl b k hk;exact ⟨h1,h2.push,h3⟩
theorem Q26 {G:Gh} {σ:St} {i:Nat} {l:Loc} (h:locOf G σ i=some l):i < σ.length:=by unfold locOf at h;simp only[Option.bind_eq_some_iff] at h;obtain ⟨r,h1,_⟩:=h;exact (List.getElem?_eq_some_iff.1 h1).1
theorem X65 {G:Gh} {σ τ:St} {i:Nat} (h:i < σ.length):locOf G (σ++τ) i=locOf G σ i:=by unfold locOf;rw[List.getElem?_append_left h]
theorem locOf_new {G:Gh} {σ:St} {r:Res} {w:Nat} (hw:r.live=some w):locOf G (σ++[r]) σ.length=G.T σ.length w:=by unfold locOf;simp[hw]
def Gh.put (G:Gh) (i w:Nat) (l:Loc):Gh:=⟨G.g,fun j v=>if j=i∧v=w then some l else G.T j v⟩
def Gh.pub (G:Gh) (b off:Nat) (vs:List Value):Gh:=⟨fun c o=>if c=b∧off≤o∧o < off+vs.length then vs[o - off]? else G.g c o,G.T⟩
theorem Gh.Qo (G:Gh) (i w:Nat) (l:Loc):(G.put i w l).T i w=some l:=by simp[Gh.put]
theorem Gh.le_put {n:Nat} {G:Gh} {i w:Nat} {l:Loc} (h:G.T i w=none):Gh.le n G (G.put i w l):=by
 refine ⟨fun _ _ _ h=>h,fun j v m hm=>?_,fun _ _ _=>rfl⟩;simp only[Gh.put];split
 ·rename_i hc;obtain ⟨rfl,rfl⟩:=hc;rw[h] at hm;cases hm
 ·exact hm
theorem Gh.pub_get {G:Gh} {b off:Nat} {vs:List Value} {i:Nat} {u:Value} (h:vs[i]?=some u):(G.pub b off vs).g b (off+i)=some u:=by have hi:=(List.getElem?_eq_some_iff.1 h).1;have e:(G.pub b off vs).g b (off+i)=if b=b∧off≤off+i∧off+i < off+vs.length then vs[off+i - off]? else G.g b (off+i):=rfl;rw[e,if_pos ⟨rfl,by omega,by omega⟩,Nat.add_sub_cancel_left,h]
theorem Gh.le_pub {n:Nat} {G:Gh} {b off:Nat} {vs:List Value} (hn:n≤b) (h:∀i,i < vs.length→G.g b (off+i)=none):Gh.le n G (G.pub b off vs):=by
 refine ⟨fun c o u hu=>?_,fun _ _ _ h=>h,fun c o hc=>?_⟩
 ·simp only[Gh.pub];split
  ·rename_i hc;obtain ⟨rfl,h1,h2⟩:=hc;have:=h (o - off) ka;rw[show off+(o - off)=o by omega,hu] at this;cases this
  ·exact hu
 ·simp only[Gh.pub];rw[if_neg ka]
theorem RelH.name {base:Heap} {G:Gh} {h:Heap} {σ:St} (H:RelH base G h σ) (r:Res) (w:Nat) (l:Loc) (hw:r.live=some w)
  (hown:∀b o,l.has b o→base.size≤b∧Wr h b o∧G.g b o=none) (hdis:∀i m,locOf G σ i=some m→∀b o,l.has b o→¬m.has b o)
  (hobj:∀v cs,r=.obj v cs→l.isnil=false∧l.e=l.off∧l.off+cs.length≤l.lim∧∀j a,cs[j]?=some a→∃u,cellG (hp h) l.b (l.off+j)=some u∧RelV G a u):
  Gh.le base.size G (G.put σ.length w l)∧RelH base (G.put σ.length w l) h (σ++[r]):=by
 have hnone:∀v,G.T σ.length v=none:=by
  intro v
  cases hv:G.T σ.length v with
  | none=>rfl
  | some m=>have:=(H.bd _ _ _ hv).1;omega
 have hle:Gh.le base.size G (G.put σ.length w l):=Gh.le_put (hnone w);have hold:∀i,i < σ.length→locOf (G.put σ.length w l) (σ++[r]) i=locOf G σ i:=by intro i hi;rw[X65 hi];unfold locOf;simp only[Gh.put];congr 1;funext r;congr 1;funext v;rw[if_neg ka]
 have hnew:locOf (G.put σ.length w l) (σ++[r]) σ.length=some l:=by rw[locOf_new hw,Gh.Qo]
 have hcase:∀i m,locOf (G.put σ.length w l) (σ++[r]) i=some m→(i < σ.length∧locOf G σ i=some m)∨(i=σ.length∧m=l):=by
  intro i m hm;have hlt:=Q26 hm;simp at hlt;by_cases hi:i < σ.length
  ·rw[hold i hi] at hm;exact .inl ⟨hi,hm⟩
  ·have:i=σ.length:=by omega
   subst this;rw[hnew] at hm;cases hm;exact .inr ⟨rfl,rfl⟩
 refine ⟨hle,H.tab,H.size,H.keep,H.st,?_,?_,?_,?_,?_,H.maps.mono (map_app (Y5 hw)) hle.g hle.T fun _ _ _ h=>h⟩
 ·intro i v cs hi;by_cases hlt:i < σ.length
  ·rw[List.getElem?_append_left hlt] at hi;obtain ⟨m,h1,h2,h3,h4,h5⟩:=H.obj i v cs hi;refine ⟨m,hle.T _ _ _ h1,h2,h3,h4,fun j a ha=>?_⟩;obtain ⟨u,h6,h7⟩:=h5 j a ha;exact ⟨u,h6,h7.mono hle⟩
  ·have:i=σ.length:=by have:=(List.getElem?_eq_some_iff.1 hi).1;simp at this;omega
   subst this;simp at hi;subst hi;obtain ⟨h2,h3,h4,h5⟩:=hobj v cs rfl;simp[Res.live] at hw;subst hw;refine ⟨l,Gh.Qo _ _ _ _,h2,h3,h4,fun j a ha=>?_⟩;obtain ⟨u,h6,h7⟩:=h5 j a ha;exact ⟨u,h6,h7.mono hle⟩
 ·intro i v cs hi
  have hlt:i < σ.length:=by
   have h1:=(List.getElem?_eq_some_iff.1 hi).1;simp at h1;by_cases h2:i < σ.length
   ·exact h2
   ·have:i=σ.length:=by omega
    subst this;simp at hi;subst hi;simp[Res.live] at hw
  rw[List.getElem?_append_left hlt] at hi;obtain ⟨m,h1,h2,h3⟩:=H.frz i v cs hi;refine ⟨m,hle.T _ _ _ h1,h2,fun j a ha=>?_⟩;obtain ⟨u,h6,h7⟩:=h3 j a ha;exact ⟨u,h6,h7.mono hle⟩
 ·intro i m hm;rcases hcase i m hm with ⟨_,hm⟩|⟨_,rfl⟩
  ·exact H.own i m hm
  ·exact hown
 ·intro i j m k hij hm hk b o h1 h2;rcases hcase i m hm with ⟨_,hm'⟩|⟨hi',hm'⟩
  ·rcases hcase j k hk with ⟨_,hk'⟩|⟨hj',hk'⟩
   ·exact H.disj i j m k hij hm' hk' b o h1 h2
   ·exact hdis i m hm' b o (hk' ▸ h2) h1
  ·rcases hcase j k hk with ⟨_,hk'⟩|⟨hj',hk'⟩
   ·exact hdis j k hk' b o (hm' ▸ h1) h2
   ·exact hij (hi'.trans hj'.symm)
 ·intro i v m hm;simp only[Gh.put] at hm;split at hm
  ·rename_i hc;obtain ⟨rfl,rfl⟩:=hc;refine ⟨by simp,fun r' w' hr hw'=>?_⟩;simp at hr;subst hr;rw[hw] at hw';cases hw';exact Nat.le_refl _
  ·obtain ⟨h1,h2⟩:=H.bd i v m hm;refine ⟨by simp;omega,fun r' w' hr hw'=>?_⟩;rw[List.getElem?_append_left h1] at hr;exact h2 r' w' hr hw'
theorem RelH.publish {base:Heap} {G:Gh} {h:Heap} {σ:St} (H:RelH base G h σ) (b off:Nat) (vs:List Value) (hb:base.size≤b)
  (hcell:∀i u,vs[i]?=some u→cellG (hp h) b (off+i)=some u) (hg:∀i,i < vs.length→G.g b (off+i)=none)
  (hno:∀i l,locOf G σ i=some l→∀o,off≤o→o < off+vs.length→¬l.has b o):
  Gh.le base.size G (G.pub b off vs)∧RelH base (G.pub b off vs) h σ:=by
 have hle:Gh.le base.size G (G.pub b off vs):=Gh.le_pub hb hg;have hloc:∀i,locOf (G.pub b off vs) σ i=locOf G σ i:=fun i=>rfl;refine ⟨hle,H.tab,H.size,H.keep,?_,?_,?_,?_,?_,H.bd,H.maps.mono (fun _ _ _ h=>h) hle.g (fun _ _ _ h=>h) fun _ _ _ h=>h⟩
 ·intro c o u hu;simp only[Gh.pub] at hu;split at hu
  ·rename_i hc;obtain ⟨rfl,h1,h2⟩:=hc;have:=hcell (o - off) u hu
   rwa [show off+(o - off)=o by omega] at this
  ·exact H.st c o u hu
 ·intro i v cs hi;obtain ⟨m,h1,h2,h3,h4,h5⟩:=H.obj i v cs hi;refine ⟨m,h1,h2,h3,h4,fun j a ha=>?_⟩;obtain ⟨u,h6,h7⟩:=h5 j a ha;exact ⟨u,h6,h7.mono hle⟩
 ·intro i v cs hi;obtain ⟨m,h1,h2,h3⟩:=H.frz i v cs hi;refine ⟨m,h1,h2,fun j a ha=>?_⟩;obtain ⟨u,h6,h7⟩:=h3 j a ha;exact ⟨u,hle.g _ _ _ h6,h7.mono hle⟩
 ·intro i l hl c o hh;rw[hloc] at hl;obtain ⟨h1,h2,h3⟩:=H.own i l hl c o hh;refine ⟨h1,h2,?_⟩;simp only[Gh.pub];rw[if_neg]
  ·exact h3
  ·rintro ⟨rfl,h4,h5⟩;exact hno i l hl o h4 h5 hh
 ·intro i j l m hij hl hm;exact H.disj i j l m hij hl hm
theorem RelH.turn {base:Heap} {G:Gh} {h:Heap} {σ:St} (H:RelH base G h σ) {i w:Nat} {r r':Res} (hi:σ[i]?=some r) (hw:r.live=some w) (w':Nat) (l:Loc) (hw':r'.live=some w') (hww:w < w')
  (hown:∀b o,l.has b o→base.size≤b∧Wr h b o∧G.g b o=none) (hdis:∀j m,j≠i→locOf G σ j=some m→∀b o,l.has b o→¬m.has b o)
  (hobj:∀v cs,r'=.obj v cs→l.isnil=false∧l.e=l.off∧l.off+cs.length≤l.lim∧∀j a,cs[j]?=some a→∃u,cellG (hp h) l.b (l.off+j)=some u∧RelV G a u):
  Gh.le base.size G (G.put i w' l)∧RelH base (G.put i w' l) h (σ.set i r'):=by
 have hlt:i < σ.length:=(List.getElem?_eq_some_iff.1 hi).1
 have hnone:G.T i w'=none:=by
  cases hv:G.T i w' with
  | none=>rfl
  | some m=>have:=(H.bd _ _ _ hv).2 r w hi hw;omega
 have hle:Gh.le base.size G (G.put i w' l):=Gh.le_put hnone;have hset:(σ.set i r')[i]?=some r':=by simp[hlt]
 have hcase:∀j m,locOf (G.put i w' l) (σ.set i r') j=some m→(j≠i∧locOf G σ j=some m)∨(j=i∧m=l):=by
  intro j m hm;by_cases hj:j=i
  ·subst hj;unfold locOf at hm;rw[hset] at hm;simp only[Option.bind_some,hw',Gh.Qo] at hm;cases hm;exact .inr ⟨rfl,rfl⟩
  ·refine .inl ⟨hj,?_⟩;unfold locOf at hm ⊢;rw[List.getElem?_set_ne (Ne.symm hj)] at hm;rw[←hm];congr 1;funext r;congr 1;funext v;simp only[Gh.put];rw[if_neg (fun h=>hj h.1)]
 refine ⟨hle,H.tab,H.size,H.keep,H.st,?_,?_,?_,?_,?_,H.maps.mono (Xj (Y5 hw')) hle.g hle.T fun _ _ _ h=>h⟩
 ·intro j v cs hj;by_cases hji:j=i
  ·subst hji;rw[hset] at hj;simp at hj;subst hj;obtain ⟨h2,h3,h4,h5⟩:=hobj v cs rfl;simp[Res.live] at hw';subst hw';refine ⟨l,Gh.Qo _ _ _ _,h2,h3,h4,fun j a ha=>?_⟩;obtain ⟨u,h6,h7⟩:=h5 j a ha;exact ⟨u,h6,h7.mono hle⟩
  ·rw[List.getElem?_set_ne (Ne.symm hji)] at hj;obtain ⟨m,h1,h2,h3,h4,h5⟩:=H.obj j v cs hj;refine ⟨m,hle.T _ _ _ h1,h2,h3,h4,fun j a ha=>?_⟩;obtain ⟨u,h6,h7⟩:=h5 j a ha;exact ⟨u,h6,h7.mono hle⟩
 ·intro j v cs hj;have hji:j≠i:=by rintro rfl;rw[hset] at hj;simp at hj;subst hj;simp[Res.live] at hw'
  rw[List.getElem?_set_ne (Ne.symm hji)] at hj;obtain ⟨m,h1,h2,h3⟩:=H.frz j v cs hj;refine ⟨m,hle.T _ _ _ h1,h2,fun j a ha=>?_⟩;obtain ⟨u,h6,h7⟩:=h3 j a ha;exact ⟨u,h6,h7.mono hle⟩
 ·intro j m hm;rcases hcase j m hm with ⟨_,hm⟩|⟨_,rfl⟩
  ·exact H.own j m hm
  ·exact hown
 ·intro j k m n hjk hm hn b o h1 h2;rcases hcase j m hm with ⟨hj,hm'⟩|⟨hj,hm'⟩
  ·rcases hcase k n hn with ⟨_,hn'⟩|⟨hk,hn'⟩
   ·exact H.disj j k m n hjk hm' hn' b o h1 h2
   ·exact hdis j m hj hm' b o (hn' ▸ h2) h1
  ·rcases hcase k n hn with ⟨hk,hn'⟩|⟨hk,hn'⟩
   ·exact hdis k n hk hn' b o (hm' ▸ h1) h2
   ·exact hjk (hj.trans hk.symm)
 ·intro j v m hm;simp only[Gh.put] at hm;split at hm
  ·rename_i hc;obtain ⟨rfl,rfl⟩:=hc;refine ⟨by simpa using hlt,fun r2 w2 hr hw2=>?_⟩;rw[hset] at hr;simp at hr;subst hr;rw[hw'] at hw2;cases hw2;exact Nat.le_refl _
  ·obtain ⟨h1,h2⟩:=H.bd j v m hm;refine ⟨by simpa using h1,fun r2 w2 hr hw2=>?_⟩;by_cases hji:j=i
   ·subst hji;rw[hset] at hr;simp at hr;subst hr;rw[hw'] at hw2;cases hw2;have:=h2 r w hi hw;omega
   ·rw[List.getElem?_set_ne (Ne.symm hji)] at hr;exact h2 r2 w2 hr hw2
structure Stored (h h':Heap) (b off:Nat) (vs:List Value):Prop where
 size:h'.size=h.size
 blk:∀c,c≠b→h'[c]?=h[c]?
 wr:∀c o,Wr h c o→Wr h' c o
 old:∀c o,(c≠b∨o < off∨off+vs.length≤o)→cellG (hp h') c o=cellG (hp h) c o
 new:∀j u,vs[j]?=some u→cellG (hp h') b (off+j)=some u
 maps:∀(c:Nat) (o:Obj),miO o=true→h[c]?=some o→h'[c]?=some o
theorem st1_spec {h:Heap} {b off:Nat} {v:Value} (hw:Wr h b off) (hv:v.oneCell'=true):∃h',st1 h b off v=some h'∧Stored h h' b off [v]:=by
 have hb:=hw.lt;obtain ⟨c,E,fz,h1,h2,h3⟩:=hw
 refine ⟨h.setIfInBounds b (.cells (c.setIfInBounds off v) E fz),?_,?_,?_,?_,?_,?_,fun d en k hd=>by
  have hdb:d≠b:=by rintro rfl;rw[h1] at hd;cases hd;cases k
  rw[Array.getElem?_setIfInBounds_ne (Ne.symm hdb)];exact hd⟩
 ·unfold st1;rw[h1];exact if_pos ⟨h2,h3,hv⟩
 ·simp
 ·intro d hd;rw[Array.getElem?_setIfInBounds_ne (Ne.symm hd)]
 ·rintro d o ⟨c',E',fz',k1,k2,k3⟩;by_cases hd:d=b
  ·subst hd;rw[h1] at k1;simp at k1;obtain ⟨rfl,rfl,rfl⟩:=k1;exact ⟨c.setIfInBounds off v,E,fz,by simp[hb],by simpa using k2,k3⟩
  ·exact ⟨c',E',fz',by rw[Array.getElem?_setIfInBounds_ne (Ne.symm hd)];exact k1,k2,k3⟩
 ·intro d o hd;unfold cellG hp;by_cases hdb:d=b
  ·subst hdb;rw[h1];simp only[Array.getElem?_setIfInBounds_self,hb,if_true];rw[Array.getElem?_setIfInBounds_ne];simp at hd;omega
  ·rw[Array.getElem?_setIfInBounds_ne (Ne.symm hdb)]
 ·intro j u hu;have hj:j=0:=by have:=(List.getElem?_eq_some_iff.1 hu).1;simp at this;omega
  subst hj;simp at hu;subst hu;unfold cellG hp;simp[hb,h2]
theorem Y59:∀(vs:List Value) {h:Heap} {b off:Nat},(∀j,j < vs.length→Wr h b (off+j))→(∀v∈vs,v.oneCell'=true)→∃h',stL h b off vs=some h'∧Stored h h' b off vs:=by
 intro vs
 induction vs with
 | nil=>intro h b off _ _;exact ⟨h,rfl,rfl,fun _ _=>rfl,fun _ _ h=>h,fun _ _ _=>rfl,(fun j u hu=>by simp at hu),fun _ _ _ h=>h⟩
 | cons v vs ih=>
  intro h b off hw hv;obtain ⟨h1,e1,s1⟩:=st1_spec (hw 0 ke) (hv v ke)
  obtain ⟨h2,e2,s2⟩:=ih (h:=h1) (b:=b) (off:=off+1) (fun j hj=>by
   have:=s1.wr _ _ (hw (j+1) eG)
   rwa [show off+1+j=off+(j+1) by omega]) (fun u hu=>hv u (by simp[hu]))
  simp only[Nat.add_zero] at e1 s1;refine ⟨h2,by simp[stL,e1,e2],by rw[s2.size,s1.size],fun c hc=>by rw[s2.blk c hc,s1.blk c hc],fun c o h=>s2.wr _ _ (s1.wr _ _ h),?_,?_,fun c en k h=>s2.maps _ _ k (s1.maps _ _ k h)⟩
  ·intro c o hc;simp only[List.length_cons] at hc;rw[s2.old c o ka,s1.old c o eG]
  ·intro j u hu
   cases j with
   | zero=>simp at hu;subst hu;rw[s2.old b (off+0) ka];exact s1.new 0 _ rfl
   | succ j=>
    have:=s2.new j u (by simpa using hu)
    rwa [show off+1+j=off+(j+1) by omega] at this
theorem RelH.store {base:Heap} {G:Gh} {h h':Heap} {σ:St} (H:RelH base G h σ) {b off:Nat} {vs:List Value} (S:Stored h h' b off vs) (hb:base.size≤b)
  (hg:∀j,j < vs.length→G.g b (off+j)=none) (hobj:∀i w cs,σ[i]?=some (.obj w cs)→∀l,G.T i w=some l→∀j a,cs[j]?=some a→l.b=b→off≤l.off+j→l.off+j < off+vs.length→∃u,vs[l.off+j - off]?=some u∧RelV G a u):RelH base G h' σ:=by
 refine ⟨H.tab,by rw[S.size];exact H.size,?_,?_,?_,H.frz,?_,H.disj,H.bd,H.maps.mono (fun _ _ _ h=>h) (fun _ _ _ h=>h) (fun _ _ _ h=>h) S.maps⟩
 ·intro c hc;rw[S.blk c ka];exact H.keep c hc
 ·intro c o u hu;rw[S.old c o]
  ·exact H.st c o u hu
  ·by_cases hcb:c=b
   ·by_cases ho:off≤o∧o < off+vs.length
    ·have:=hg (o - off) ka;rw[show off+(o - off)=o by omega,←hcb,hu] at this;cases this
    ·omega
   ·exact .inl hcb
 ·intro i w cs hi;obtain ⟨l,h1,h2,h3,h4,h5⟩:=H.obj i w cs hi;refine ⟨l,h1,h2,h3,h4,fun j a ha=>?_⟩;by_cases hc:l.b=b∧off≤l.off+j∧l.off+j < off+vs.length
  ·obtain ⟨u,hu,hr⟩:=hobj i w cs hi l h1 j a ha hc.1 hc.2.1 hc.2.2;refine ⟨u,?_,hr⟩;have:=S.new _ u hu;rw[show off+(l.off+j - off)=l.off+j by omega,←hc.1] at this;exact this
  ·obtain ⟨u,h6,h7⟩:=h5 j a ha;exact ⟨u,by rw[S.old _ _ ka];exact h6,h7⟩
 ·intro i l hl c o hh;obtain ⟨h1,h2,h3⟩:=H.own i l hl c o hh;exact ⟨h1,S.wr _ _ h2,h3⟩
theorem RelH.retell {base:Heap} {G:Gh} {h:Heap} {σ:St} (H:RelH base G h σ) {i w:Nat} {cs:List AV} (hi:σ[i]?=some (.obj w cs)) {cs':List AV} {l:Loc} (hl:G.T i w=some l) (hlen:l.off+cs'.length≤l.lim)
  (hc:∀j a,cs'[j]?=some a→∃u,cellG (hp h) l.b (l.off+j)=some u∧RelV G a u):RelH base G h (σ.set i (.obj w cs')):=by
 have hlt:i < σ.length:=(List.getElem?_eq_some_iff.1 hi).1;have hset:(σ.set i (.obj w cs'))[i]?=some (.obj w cs'):=by simp[hlt]
 have hloc:∀j,locOf G (σ.set i (.obj w cs')) j=locOf G σ j:=by
  intro j;by_cases hj:j=i
  ·subst hj;unfold locOf;rw[hset,hi];rfl
  ·unfold locOf;rw[List.getElem?_set_ne (Ne.symm hj)]
 refine ⟨H.tab,H.size,H.keep,H.st,?_,?_,?_,?_,?_,H.maps.mono (Xj rfl) (fun _ _ _ h=>h) (fun _ _ _ h=>h) fun _ _ _ h=>h⟩
 ·intro j v ds hj;by_cases hji:j=i
  ·subst hji;rw[hset] at hj;simp at hj;obtain ⟨rfl,rfl⟩:=hj;obtain ⟨m,h1,h2,h3,h4,h5⟩:=H.obj j w cs hi;rw[hl] at h1;cases h1;exact ⟨l,hl,h2,h3,hlen,hc⟩
  ·rw[List.getElem?_set_ne (Ne.symm hji)] at hj;exact H.obj j v ds hj
 ·intro j v ds hj;have hji:j≠i:=by rintro rfl;rw[hset] at hj;simp at hj
  rw[List.getElem?_set_ne (Ne.symm hji)] at hj;exact H.frz j v ds hj
 ·intro j m hm;rw[hloc] at hm;exact H.own j m hm
 ·intro j k m n hjk hm hn;rw[hloc] at hm hn;exact H.disj j k m n hjk hm hn
 ·intro j v m hm;obtain ⟨h1,h2⟩:=H.bd j v m hm;refine ⟨by simpa using h1,fun r w' hr hw'=>?_⟩;by_cases hji:j=i
  ·subst hji;rw[hset] at hr;simp at hr;subst hr;simp[Res.live] at hw';subst hw';exact h2 _ w hi rfl
  ·rw[List.getElem?_set_ne (Ne.symm hji)] at hr;exact h2 r w' hr hw'
theorem RelH.newMi {base:Heap} {G:Gh} {h:Heap} {σ:St} (H:RelH base G h σ) {x:Res} {o:Obj} (hx:x.isMi=true) (hxo:∀G,MiRel G x o):
  Gh.le base.size G (G.put σ.length 0 ⟨h.size,0,0,0,0,0,false⟩)∧RelH base (G.put σ.length 0 ⟨h.size,0,0,0,0,0,false⟩) (h.push o) (σ++[x]):=by
 have hnone:∀v,G.T σ.length v=none:=by
  intro v
  cases hv:G.T σ.length v with
  | none=>rfl
  | some m=>have:=(H.bd _ _ _ hv).1;omega
 have hle:Gh.le base.size G (G.put σ.length 0 ⟨h.size,0,0,0,0,0,false⟩):=Gh.le_put (hnone 0);have K:=H.push o
 have hlt:∀(i:Nat) (r:Res),(σ++[x])[i]?=some r→r.isMi=false→i < σ.length∧σ[i]?=some r:=by
  intro i r hi hr;by_cases hi2:i < σ.length
  ·rw[List.getElem?_append_left hi2] at hi;exact ⟨hi2,hi⟩
  ·have h1:=(List.getElem?_eq_some_iff.1 hi).1;rw[List.length_append,List.length_singleton] at h1;have:i=σ.length:=by omega
   subst this;simp at hi;rw[←hi,hx] at hr;cases hr
 have hloc:∀i m,locOf (G.put σ.length 0 ⟨h.size,0,0,0,0,0,false⟩) (σ++[x]) i=some m→locOf G σ i=some m:=by
  intro i m hm;have hl:=Q26 hm;rw[List.length_append,List.length_singleton] at hl;by_cases hi:i < σ.length
  ·rw[X65 hi] at hm;unfold locOf at hm ⊢;rw[←hm];congr 1;funext r;congr 1;funext v;simp only[Gh.put];rw[if_neg ka]
  ·have:i=σ.length:=by omega
   subst this;unfold locOf at hm;rw[List.getElem?_append_right (Nat.le_refl _),Nat.sub_self] at hm;have hlv:x.live=none:=by cases x<;>first|rfl|cases hx
   simp[hlv] at hm
 refine ⟨hle,K.tab,K.size,K.keep,K.st,?_,?_,fun i m hm=>K.own i m (hloc i m hm),fun i j m k hij hm hk=>K.disj i j m k hij (hloc _ _ hm) (hloc _ _ hk),?_,?_,?_⟩
 ·intro i w cs hi;obtain ⟨_,hi⟩:=hlt i _ hi rfl;obtain ⟨l,h1,h2,h3,h4,h5⟩:=K.obj i w cs hi;refine ⟨l,hle.T _ _ _ h1,h2,h3,h4,fun j a ha=>?_⟩;obtain ⟨u,h6,h7⟩:=h5 j a ha;exact ⟨u,h6,h7.mono hle⟩
 ·intro i w cs hi;obtain ⟨_,hi⟩:=hlt i _ hi rfl;obtain ⟨l,h1,h2,h3⟩:=K.frz i w cs hi;refine ⟨l,hle.T _ _ _ h1,h2,fun j a ha=>?_⟩;obtain ⟨u,h6,h7⟩:=h3 j a ha;exact ⟨u,h6,h7.mono hle⟩
 ·intro i w l hl;simp only[Gh.put] at hl;split at hl
  ·rename_i hc;obtain ⟨rfl,rfl⟩:=hc;refine ⟨by simp,fun r w' hr hw=>?_⟩;simp at hr;subst hr;rw[Y5 hw] at hx;cases hx
  ·obtain ⟨h1,h2⟩:=H.bd i w l hl;refine ⟨by simp;omega,fun r w' hr hw=>?_⟩;rw[List.getElem?_append_left h1] at hr;exact h2 r w' hr hw
 ·intro i es hm hi;by_cases hi2:i < σ.length
  ·rw[List.getElem?_append_left hi2] at hi;obtain ⟨l,h1,h2,h3,h0,ob,h4,h5⟩:=K.maps.mp i es hm hi;exact ⟨l,hle.T _ _ _ h1,h2,h3,h0,ob,h4,h5.mono hle.g hle.T⟩
  ·have h1:=(List.getElem?_eq_some_iff.1 hi).1;rw[List.length_append,List.length_singleton] at h1;have:i=σ.length:=by omega
   subst this;simp at hi;subst hi;exact ⟨_,Gh.Qo _ _ _ _,rfl,H.size,rfl,o,by simp,hxo _⟩
 ·intro i j es es' l m hij hr1 hr2 hi hj hl hm
  have side:∀(i:Nat) (es:Res) (l:Loc),es.isMi=true→(σ++[x])[i]?=some es→(G.put σ.length 0 ⟨h.size,0,0,0,0,0,false⟩).T i 0=some l→(i < σ.length∧σ[i]?=some es∧G.T i 0=some l∧l.b < h.size)∨(i=σ.length∧l.b=h.size):=by
   intro i es l hm hi hl;by_cases hi2:i < σ.length
   ·rw[List.getElem?_append_left hi2] at hi;obtain ⟨l0,h1,_,_,_,ob,h4,_⟩:=H.maps.mp i es hm hi;have e:=hle.T _ _ _ h1;rw[hl] at e;cases e;exact .inl ⟨hi2,hi,h1,(Array.getElem?_eq_some_iff.1 h4).1⟩
   ·have h1:=(List.getElem?_eq_some_iff.1 hi).1;rw[List.length_append,List.length_singleton] at h1;have:i=σ.length:=by omega
    subst this;rw[Gh.Qo] at hl;cases hl;exact .inr ⟨rfl,rfl⟩
  rcases side i es l hr1 hi hl with ⟨a1,a2,a3,a4⟩|⟨a1,a2⟩<;>rcases side j es' m hr2 hj hm with ⟨b1,b2,b3,b4⟩|⟨b1,b2⟩
  ·exact H.maps.dj i j es es' l m hij hr1 hr2 a2 b2 a3 b3
  ·omega
  ·omega
  ·exact absurd (a1.trans b1.symm) hij
theorem RelH.setMi {base:Heap} {G:Gh} {h:Heap} {σ:St} (H:RelH base G h σ) {i:Nat} {es:Res} (hes:es.isMi=true) (hi:σ[i]?=some es) {l:Loc} (hl:G.T i 0=some l)
  {o':Obj} {es':Res} (hes':es'.isMi=true) (hkv:MiRel G es' o'):RelH base G (h.setIfInBounds l.b o') (σ.set i es'):=by
 have hlt:i < σ.length:=(List.getElem?_eq_some_iff.1 hi).1;obtain ⟨l0,m1,m2,m3,m0,ob,hb,hrb⟩:=H.maps.mp i es hes hi;rw[hl] at m1;cases m1;have hob:=hrb.mi;have hbl:l.b < h.size:=(Array.getElem?_eq_some_iff.1 hb).1;have hget:∀b,b≠l.b→(h.setIfInBounds l.b o')[b]?=h[b]?:=fun b hbb=>Array.getElem?_setIfInBounds_ne (Ne.symm hbb);have hself:(h.setIfInBounds l.b o')[l.b]?=some o':=by simp[hbl]
 have hcell:∀b o u,cellG (hp h) b o=some u→cellG (hp (h.setIfInBounds l.b o')) b o=some u:=by
  intro b o u hu;have hbb:b≠l.b:=by rintro rfl;unfold cellG hp at hu;rw[hb] at hu;cases ob<;>first|(cases hu;done)|cases hob
  unfold cellG hp at hu ⊢;rw[hget b hbb];exact hu
 have hne:∀(j:Nat) (r:Res),(σ.set i es')[j]?=some r→r.isMi=false→j≠i∧σ[j]?=some r:=by
  intro j r hj hr;by_cases hji:j=i
  ·subst hji;rw[List.getElem?_set_self hlt] at hj;cases hj;rw[hes'] at hr;cases hr
  ·rw[List.getElem?_set_ne (Ne.symm hji)] at hj;exact ⟨hji,hj⟩
 have hloc:∀j m,locOf G (σ.set i es') j=some m→locOf G σ j=some m:=by
  intro j m hj;by_cases hji:j=i
  ·subst hji;unfold locOf at hj;rw[List.getElem?_set_self hlt] at hj;have hlv:es'.live=none:=(by cases es'<;>first|rfl|cases hes');simp[hlv] at hj
  ·unfold locOf at hj ⊢;rwa [List.getElem?_set_ne (Ne.symm hji)] at hj
 refine ⟨H.tab,by simp;exact H.size,fun b hbs=>by rw[hget b ka];exact H.keep b hbs,fun b o u hu=>hcell _ _ _ (H.st b o u hu),?_,?_,?_,fun j k m n hjk hm hn=>H.disj j k m n hjk (hloc _ _ hm) (hloc _ _ hn),?_,?_,?_⟩
 ·intro j w cs hj;obtain ⟨_,hj⟩:=hne j _ hj rfl;obtain ⟨m,h1,h2,h3,h4,h5⟩:=H.obj j w cs hj;refine ⟨m,h1,h2,h3,h4,fun k a ha=>?_⟩;obtain ⟨u,h6,h7⟩:=h5 k a ha;exact ⟨u,hcell _ _ _ h6,h7⟩
 ·intro j w cs hj;obtain ⟨_,hj⟩:=hne j _ hj rfl;exact H.frz j w cs hj
 ·intro j m hm b o hh;obtain ⟨h1,h2,h3⟩:=H.own j m (hloc j m hm) b o hh;refine ⟨h1,?_,h3⟩;obtain ⟨d,E,fz,e1,e2⟩:=h2;have hbb:b≠l.b:=by rintro rfl;exact miO_cells hb hob e1
  exact ⟨d,E,fz,by rw[hget b hbb];exact e1,e2⟩
 ·intro j w m hm;obtain ⟨h1,h2⟩:=H.bd j w m hm;refine ⟨by simpa using h1,fun r w' hr hw=>?_⟩;obtain ⟨_,hr⟩:=hne j r hr (Y5 hw);exact h2 r w' hr hw
 ·intro j fs hfm hj;by_cases hji:j=i
  ·subst hji;rw[List.getElem?_set_self hlt] at hj;cases hj;exact ⟨l,hl,m2,m3,m0,o',hself,hkv⟩
  ·rw[List.getElem?_set_ne (Ne.symm hji)] at hj;obtain ⟨m,h1,h2,h3,h0,o2,h4,h5⟩:=H.maps.mp j fs hfm hj;exact ⟨m,h1,h2,h3,h0,o2,by rw[hget _ (H.maps.dj j i fs es m l hji hfm hes hj hi h1 hl)];exact h4,h5⟩
 ·intro j k fs fs' m n hjk hr1 hr2 hj hk hm hn
  have side:∀(j:Nat) (fs:Res),fs.isMi=true→(σ.set i es')[j]?=some fs→∃fs',fs'.isMi=true∧σ[j]?=some fs':=by
   intro j fs hf hj;by_cases hji:j=i
   ·subst hji;exact ⟨es,hes,hi⟩
   ·rw[List.getElem?_set_ne (Ne.symm hji)] at hj;exact ⟨fs,hf,hj⟩
  obtain ⟨f1,g1,hj⟩:=side j fs hr1 hj;obtain ⟨f2,g2,hk⟩:=side k fs' hr2 hk;exact H.maps.dj j k f1 f2 m n hjk g1 g2 hj hk hm hn
end Go.Kx
