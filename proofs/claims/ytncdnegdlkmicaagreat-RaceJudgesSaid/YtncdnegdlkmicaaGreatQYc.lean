/- Sta Stb Stc Std Ste Stf Stg Sth Sti Stj Stk -/
import Derived.Test.YtncdnegdlkmicaaGreatQLd
import Derived.Test.YtncdnegdlkmicaaGreatQCb
import Derived.Test.YtncdnegdlkmicaaGreatChecked
import Derived.WalkKit
import Derived.Lib.Walk
import Derived.Lib.SliceRun
import Derived.Lib.AppendZeros
import Derived.Shelf.RegionOpenPlain
namespace Go.Proofs.YtncdnegdlkmicaaGreat.St
set_option linter.unusedVariables false
set_option linter.unusedSimpArgs false
open Go Go.Kx Go.Proofs Go.Shelf Go.RowKit Go.Lib
section
theorem mixed:Tryz.prog.follows .mixedOrders=true:=by kernel_rfl
theorem info3:(Tryz.prog.info? 3).map (fun i=>(i.size,i.bytes,i.zero))=some (1,8,some (.int .i64 0)):=by kernel_rfl
set_option maxHeartbeats 4000000 in
set_option maxRecDepth 100000 in
theorem grow_some (n:Nat) (w:World) (h0:0 < n) (hn:n≤1000000):Calls Tryz.prog 97 #[.slice none 0 0,.int .i64 n] w fun e w'=>
  e=.returned (.slice (some ⟨w.heap.size,0,none⟩) 0 (grownCap w n 0 3))∧w'=w.drew.alloc (.cells (Builtin.zeroCells #[.int .i64 0] n++Builtin.zeroCells #[.int .i64 0] (grownCap w n 0 3 - n)) 3):=by
 have mixed:=mixed
 have hi:=info3
 simp only[Option.map_eq_some_iff,Prod.mk.injEq] at hi
 obtain ⟨i0,hi0,hs,hb,hz⟩:=hi
 have h1:¬((n:Int) < 0):=by omega
 have h2:wrap64 ((n:Int) - 0)=(n:Int):=by unfold wrap64;omega
 have h4:(n:Int) > 0:=by omega
 have hrz:∀ty,(Builtin.append_ #[25,3] ty #[.slice none 0 0,.int .i64 n]).run Tryz.prog w =
   .ok (.slice (some ⟨w.heap.size,0,none⟩) n (grownCap w n 0 3)) (w.drew.alloc (.cells (Builtin.zeroCells #[.int .i64 0] n++Builtin.zeroCells #[.int .i64 0] (grownCap w n 0 3 - n)) 3)):=fun ty=>by
  have h:=Lib.run_append_nil_zeros w 25 3 ty 3 i0 (.int .i64 0) .i64 .i64 Tryz.underlying25 Tryz.underlying3 hi0 hz n h0 (by omega) (by omega) (by rw[hb];omega)
  exact h
 have hGn:n≤grownCap w n 0 3:=grownCap_ge w _ _ _
 obtain ⟨G,hG⟩:∃G,G=grownCap w n 0 3:=⟨_,rfl⟩
 rw[←hG] at hrz hGn ⊢
 have hG63:G≤9223372036854775807:=by
  have:=grownCap_le_maxLen w n 0 3 (by unfold maxLen;omega)
  rw[←hG] at this
  unfold maxLen at this
  omega
 clear hG
 go_enter Tryz.func97,Tryz.ntmps97
 go_wp2_with (at_builtin;refine Lib.wpList_append_run _ rfl _ _ _ _ rfl _ _ rfl rfl _ _ (hrz _) ?_)
 all_goals (go_ret;exact ⟨rfl,rfl⟩)
end
section
theorem grow_a (n:Nat) (σ:St) (h0:0 < n) (hn:n≤1000000):FnG Tryz.prog 97 [.sl 0 [] .nil,aInt n] σ fun a σ'=>a=.ms σ.length 0 0 0 1∧σ'=σ++[.obj 0 []]:=by
 intro base G h vs hH hL
 obtain ⟨u,us,rfl,h1,h2⟩:=hL.cons_inv
 obtain ⟨u2,us2,rfl,h3,h4⟩:=h2.cons_inv
 obtain rfl:=h4.nil_inv
 cases h3
 have hu:u=.slice none 0 0:=by
  cases h1 with
  | sl _ _ _ a cap vs h1 h2 h3 h4 h5 h6=>
   obtain ⟨_,rfl,rfl⟩:=h6
   rfl
 subst hu
 intro w hw
 refine (grow_some n w h0 hn).mono ?_
 rintro e w' ⟨rfl,rfl⟩
 refine ⟨_,rfl,?_,⟨rfl,rfl,rfl,KeepD.push _ _⟩⟩
 have hz:∀k,(Builtin.zeroCells #[.int .i64 0] k).size=k:=by
  intro k
  simp[Builtin.zeroCells]
 obtain ⟨G',l,k1,k2,k3,k4,k5,k6,k7⟩:=hH.newObj [] (Builtin.zeroCells #[.int .i64 0] n++Builtin.zeroCells #[.int .i64 0] (grownCap w n 0 3 - n)).toList [] 3 (.nil _)
 subst hw
 have hge:n≤grownCap w n 0 3:=grownCap_ge w _ _ _
 have hle:grownCap w n 0 3≤9223372036854775807:=by
  have:=grownCap_le_maxLen w n 0 3 (by unfold maxLen;omega)
  unfold maxLen at this
  omega
 refine ⟨G',.ms σ.length 0 0 0 1,_,k1,?_,?_,rfl,rfl⟩
 ·have e:(([]:List Value)++(Builtin.zeroCells #[.int .i64 0] n++Builtin.zeroCells #[.int .i64 0] (grownCap w n 0 3 - n)).toList).toArray=Builtin.zeroCells #[.int .i64 0] n++Builtin.zeroCells #[.int .i64 0] (grownCap w n 0 3 - n):=by simp
  rw[e] at k2
  exact k2
 ·have hlim:l.lim=grownCap w n 0 3:=by
   rw[k7]
   simp only[List.length_nil,Array.length_toList,Array.size_append,hz]
   omega
  have:=RelV.ms (G:=G') σ.length 0 0 0 1 l (grownCap w n 0 3) k3 k6 (Nat.zero_le _) hle (by omega)
  rw[k4,k5] at this
  exact this
end
section
abbrev Role:=Nat×Nat
structure Stp (S:Role→Prop) (σ:St) (lab:Nat→Role) (σ':St) (lab':Nat→Role):Prop where
 le:σ.length≤σ'.length
 same:∀j,j < σ.length→¬S (lab j)→σ'[j]?=σ[j]?∧lab' j=lab j
theorem Stp.refl {S:Role→Prop} {σ:St} {lab:Nat→Role}:Stp S σ lab σ lab:=⟨Nat.le_refl _,fun _ _ _=>⟨rfl,rfl⟩⟩
theorem Stp.trans {S T U:Role→Prop} {σ σ1 σ2:St} {lab lab1 lab2:Nat→Role} (h:Stp S σ lab σ1 lab1) (k:Stp T σ1 lab1 σ2 lab2) (hS:∀r,S r→U r) (hT:∀r,T r→U r):Stp U σ lab σ2 lab2:=
 ⟨Nat.le_trans h.le k.le,fun j hj hU=>by
  obtain ⟨a,b⟩:=h.same j hj fun hs=>hU (hS _ hs)
  obtain ⟨c,d⟩:=k.same j (Nat.lt_of_lt_of_le hj h.le) fun ht=>hU (hT _ (by rwa [b] at ht))
  exact ⟨c.trans a,d.trans b⟩⟩
theorem Stp.mono {S U:Role→Prop} {σ σ1:St} {lab lab1:Nat→Role} (h:Stp S σ lab σ1 lab1) (hS:∀r,S r→U r):Stp U σ lab σ1 lab1:=⟨h.le,fun j hj hU=>h.same j hj fun hs=>hU (hS _ hs)⟩
theorem Stp.get {S:Role→Prop} {σ σ':St} {lab lab':Nat→Role} (h:Stp S σ lab σ' lab') {i:Nat} {x:Res} (hi:σ[i]?=some x) (hr:¬S (lab i)):σ'[i]?=some x∧lab' i=lab i:=by
 obtain ⟨a,b⟩:=h.same i (Qm hi) hr
 exact ⟨a.trans hi,b⟩
theorem Qx {σ:St} {lab:Nat→Role} {i:Nat} {x:Res} {r:Role} (hr:lab i=r):Stp (·=r) σ lab (σ.set i x) lab:=
 ⟨by simp,fun j _ hj=>⟨by rw[List.getElem?_set_ne];rintro rfl;exact hj hr,rfl⟩⟩
def labN (σ:St) (lab:Nat→Role) (r:Role):Nat→Role:=fun j=>if j=σ.length then r else lab j
theorem Qj {S:Role→Prop} {σ:St} {lab:Nat→Role} {x:Res} (r:Role):Stp S σ lab (σ++[x]) (labN σ lab r):=
 ⟨by simp,fun j hj _=>⟨List.getElem?_append_left hj,by unfold labN;rw[if_neg (by omega)]⟩⟩
theorem Qq (σ:St) (lab:Nat→Role) (r:Role):labN σ lab r σ.length=r:=by unfold labN;rw[if_pos rfl]
def TokOk (σ:St) (lab:Nat→Role) (r:Role) (t:Tok) (n sz:Nat):Prop:=(t=.nil∧n=0)∨∃j w,t=.id j w sz∧σ[j]?=some (.tail w)∧lab j=r
theorem TokOk.nil {σ:St} {lab:Nat→Role} {r:Role} {sz:Nat}:TokOk σ lab r .nil 0 sz:=.inl ⟨rfl,rfl⟩
theorem TokOk.stp {S:Role→Prop} {σ σ':St} {lab lab':Nat→Role} {r:Role} {t:Tok} {n sz:Nat} (h:TokOk σ lab r t n sz) (k:Stp S σ lab σ' lab') (hr:¬S r):TokOk σ' lab' r t n sz:=by
 rcases h with h|⟨j,w,h1,h2,h3⟩
 ·exact .inl h
 ·obtain ⟨a,b⟩:=k.get h2 (by rwa [h3])
  exact .inr ⟨j,w,h1,a,b.trans h3⟩
theorem TokOk.exact {σ:St} {lab:Nat→Role} {r:Role} {t:Tok} {n sz m:Nat} {cs:List AV} (h:TokOk σ lab r t n sz):(AV.sl m cs t).exact=true:=by
 rcases h with ⟨rfl,_⟩|⟨j,w,rfl,_⟩<;>rfl
theorem Qs {P:Program} {K:AV→St→Prop} {E:TypeId} {sz by_:Nat} {z:List Value} {n:Nat} {cs:List AV} {t:Tok} {y:AV} {m:Nat} {news:List AV} {σ:St} {lab:Nat→Role} {r:Role} (hz:z.length=sz) (ht:TokOk σ lab r t n sz)
  (hs:srcA σ sz y=some (m,news)) (hm:news.length=m * sz) (h1:news.all AV.one=true) (hc:cs.length=n * sz) (hn:n+m≤9223372036854775807) (hb:(n+m) * by_≤140737488355328)
  (hk:∀σ1 lab1 t1,Stp (·=r) σ lab σ1 lab1→TokOk σ1 lab1 r t1 (n+m) sz→act (K (.sl (n+m) (cs++news) t1) σ1)):act (EF.awp P (.app E sz by_ z) [.sl n cs t,y] σ K):=by
 rcases ht with ⟨rfl,rfl⟩|⟨j,w,rfl,hj,hl⟩
 ·have hcs:cs=[]:=List.length_eq_zero_iff.1 (by simpa using hc)
  subst hcs
  refine Q87 hz hs hm h1 (by omega) (by simpa using hb) ?_
  have:=hk (σ++[.tail 1]) (labN σ lab r) (.id σ.length 1 sz) (Qj r) (.inr ⟨σ.length,1,rfl,Qc _ _,Qq _ _ _⟩)
  simpa using this
 ·refine Z08 hz hs hm h1 hc hn hb hj ?_
  exact hk _ lab _ (Qx hl) (.inr ⟨j,w+1,rfl,Q4 hj,hl⟩)
theorem Qi {P:Program} {K:AV→St→Prop} {σ:St} {f:FuncId} {xs ys:List AV} {R:AV→St→Prop} (is:List Nat) (fs:List Bool) (H:FnG P f ys (Go.Kx.freeze is σ) R) (he:weak (Go.Kx.freeze is σ) fs xs=ys) (hk:∀a σ',R a σ'→act (K a σ')):act (EF.awp P (.call f) xs σ K):=
 wpa_frz is fs (by rw[he];exact Q2 H hk)
abbrev Nd:=Int×Int×Int
def aNd (n:Nd):List AV:=[.v (.int .i64 n.1),.v (.int .i64 n.2.1),.v (.int .i64 n.2.2)]
theorem Z43 (n:Nd):(aNd n).length=3:=rfl
theorem aNd_one (n:Nd):(aNd n).all AV.one=true:=rfl
def aSt (p:Int×Int):List AV:=[.v (.int .i64 p.1),.v (.int .i64 p.2)]
theorem Z1 (n:Int×Int):(aSt n).length=2:=rfl
theorem aSt_one (n:Int×Int):(aSt n).all AV.one=true:=rfl
structure Ac where
 st:Int
 wd:Int
 wr:Bool
 deriving DecidableEq
def aAc (c:Ac):List AV:=[.v (.int .i64 c.st),.v (.int .i64 c.wd),.v (.bool c.wr)]
theorem Qt (n:Ac):(aAc n).length=3:=rfl
theorem Z2 (n:Ac):(aAc n).all AV.one=true:=rfl
structure Mk where
 k:Int
 a:Int
 b:Int
def aMk (m:Mk):List AV:=[.v (.int .i64 m.k),.v (.int .i64 m.a),.v (.int .i64 m.b)]
theorem QD (n:Mk):(aMk n).length=3:=rfl
structure Fr where
 kind:Int
 child:Bool
 now:Int
 left:List Int
 lp:Int
 it:Int
 sg:Int
 row:List (Int×Int)
 ser:Int
 cnt:Nat
 ahead:List (Int×Int)
 lasts:List Int
def Fr.node (F:Fr):Nd:=(F.lp,F.it,F.sg)
structure Tk where
 l:Tok
 r:Tok
 a:Tok
 s:Tok
def frC (F:Fr) (t:Tk):List AV:=[.v (.int .i64 F.kind),.v (.bool F.child),.v (.int .i64 F.now),.sl F.left.length (F.left.map aInt) t.l,.v (.int .i64 F.lp),.v (.int .i64 F.it),.v (.int .i64 F.sg),.sl F.row.length (F.row.flatMap aSt) t.r,
 .v (.int .i64 F.ser),.v (.int .i64 F.cnt),.sl F.ahead.length (F.ahead.flatMap aSt) t.a,.sl F.lasts.length (F.lasts.map aInt) t.s]
structure FrAt (σ:St) (lab:Nat→Role) (d i:Nat) (F:Fr) (t:Tk):Prop where
 obj:σ[i]?=some (.obj 0 (frC F t))
 li:lab i=(6,d)
 l:TokOk σ lab (7,d) t.l F.left.length 1
 r:TokOk σ lab (8,d) t.r F.row.length 2
 a:TokOk σ lab (9,d) t.a F.ahead.length 2
 s:TokOk σ lab (10,d) t.s F.lasts.length 1
theorem FrAt.stp {S:Role→Prop} {σ σ':St} {lab lab':Nat→Role} {d i:Nat} {F:Fr} {t:Tk} (h:FrAt σ lab d i F t) (k:Stp S σ lab σ' lab') (hS:∀q,6≤q→¬S (q,d)):FrAt σ' lab' d i F t:=by
 obtain ⟨a,b⟩:=k.get h.obj (by rw[h.li];exact hS 6 (by omega))
 exact ⟨a,b.trans h.li,h.l.stp k (hS 7 (by omega)),h.r.stp k (hS 8 (by omega)),h.a.stp k (hS 9 (by omega)),h.s.stp k (hS 10 (by omega))⟩
def Frs (σ:St) (lab:Nat→Role):List Nat→List Fr→Prop
 | [],[]=>True
 | i::is,F::fs=>(∃t,FrAt σ lab is.length i F t)∧Frs σ lab is fs
 | _,_=>False
theorem Frs.len {σ:St} {lab:Nat→Role}:∀{is:List Nat} {fs:List Fr},Frs σ lab is fs→is.length=fs.length
 | [],[],_=>rfl
 | i::is,F::fs,h=>by simp[Frs.len h.2]
 | [],_::_,h=>h.elim
 | _::_,[],h=>h.elim
theorem Frs.stp {S:Role→Prop} {σ σ':St} {lab lab':Nat→Role} (k:Stp S σ lab σ' lab'):∀{is:List Nat} {fs:List Fr},Frs σ lab is fs→(∀q d,6≤q→d < is.length→¬S (q,d))→Frs σ' lab' is fs
 | [],[],_,_=>trivial
 | i::is,F::fs,h,hS=>⟨by obtain ⟨t,ht⟩:=h.1;exact ⟨t,ht.stp k fun q hq=>hS q _ hq (by simp)⟩,Frs.stp k h.2 fun q d hq hd=>hS q d hq (by simp;omega)⟩
 | [],_::_,h,_=>h.elim
 | _::_,[],h,_=>h.elim
structure Bd where
 preds:List (List Int)
 nodes:List Nd
 accs:List Ac
 fs:List Fr
 full:Bool
structure Tb where
 p:Tok
 n:Tok
 a:Tok
def bdC (B:Bd) (t:Tb) (ms:AV):List AV:=[.sl B.preds.length (B.preds.map aInts) t.p,.sl B.nodes.length (B.nodes.flatMap aNd) t.n,.sl B.accs.length (B.accs.flatMap aAc) t.a,ms,.v (.bool B.full)]
structure BdAt (σ:St) (lab:Nat→Role) (ib:Nat) (B:Bd) (t:Tb) (ms:AV):Prop where
 obj:σ[ib]?=some (.obj 0 (bdC B t ms))
 li:lab ib=(1,0)
 p:TokOk σ lab (3,0) t.p B.preds.length 1
 n:TokOk σ lab (4,0) t.n B.nodes.length 3
 a:TokOk σ lab (5,0) t.a B.accs.length 3
structure LsAt (σ:St) (lab:Nat→Role) (il vl:Nat) (is:List Nat):Prop where
 obj:∃cells,σ[il]?=some (.obj vl cells)∧cells.take is.length=(is.map fun i=>AV.ref i 0 0).reverse
 li:lab il=(2,0)
def KP (σ:St) (lab:Nat→Role):Prop:=∃cs,σ[0]?=some (.obj 0 cs)∧cs.length=3∧lab 0=(0,1)
structure BR (σ:St) (lab:Nat→Role) (ib il vl:Nat) (B:Bd) (is:List Nat):Prop where
 bd:∃t,BdAt σ lab ib B t (.ms il vl 0 is.length 1)
 ls:LsAt σ lab il vl is
 fr:Frs σ lab is B.fs
 kp:KP σ lab
theorem KP.stp {S:Role→Prop} {σ σ':St} {lab lab':Nat→Role} (h:KP σ lab) (k:Stp S σ lab σ' lab') (hS:¬S (0,1)):KP σ' lab':=by
 obtain ⟨cs,h1,h2,h3⟩:=h
 obtain ⟨a,b⟩:=k.get h1 (by rwa [h3])
 exact ⟨cs,a,h2,b.trans h3⟩
theorem BdAt.stp {S:Role→Prop} {σ σ':St} {lab lab':Nat→Role} {ib:Nat} {B:Bd} {t:Tb} {ms:AV} (h:BdAt σ lab ib B t ms) (k:Stp S σ lab σ' lab') (hS:∀q,q≤5→¬S (q,0)):BdAt σ' lab' ib B t ms:=by
 obtain ⟨a,b⟩:=k.get h.obj (by rw[h.li];exact hS 1 (by omega))
 exact ⟨a,b.trans h.li,h.p.stp k (hS 3 (by omega)),h.n.stp k (hS 4 (by omega)),h.a.stp k (hS 5 (by omega))⟩
theorem LsAt.stp {S:Role→Prop} {σ σ':St} {lab lab':Nat→Role} {il vl:Nat} {is:List Nat} (h:LsAt σ lab il vl is) (k:Stp S σ lab σ' lab') (hS:¬S (2,0)):LsAt σ' lab' il vl is:=by
 obtain ⟨cells,h1,h2⟩:=h.obj
 obtain ⟨a,b⟩:=k.get h1 (by rw[h.li];exact hS)
 exact ⟨⟨cells,a,h2⟩,b.trans h.li⟩
theorem take_at {cells l:List AV} {n k:Nat} {a:AV} (h:cells.take n=l) (hk:l[k]?=some a):cells[k]?=some a:=by
 rw[←h] at hk
 have:=Qm hk
 rw[List.length_take] at this
 rwa [List.getElem?_take_of_lt (by omega)] at hk
theorem LsAt.top {σ:St} {lab:Nat→Role} {il vl i:Nat} {is:List Nat} (h:LsAt σ lab il vl (i::is)):∃cells,σ[il]?=some (.obj vl cells)∧cells[is.length]?=some (.ref i 0 0):=by
 obtain ⟨cells,h1,h2⟩:=h.obj
 refine ⟨cells,h1,take_at h2 ?_⟩
 simp[List.map_cons,List.reverse_cons]
theorem LsAt.up {σ:St} {lab:Nat→Role} {il vl i j:Nat} {is:List Nat} (h:LsAt σ lab il vl (i::j::is)):∃cells,σ[il]?=some (.obj vl cells)∧cells[is.length]?=some (.ref j 0 0):=by
 obtain ⟨cells,h1,h2⟩:=h.obj
 refine ⟨cells,h1,take_at h2 ?_⟩
 simp[List.map_cons,List.reverse_cons]
theorem LsAt.pop {σ:St} {lab:Nat→Role} {il vl i:Nat} {is:List Nat} (h:LsAt σ lab il vl (i::is)):LsAt σ lab il vl is:=by
 obtain ⟨cells,h1,h2⟩:=h.obj
 refine ⟨⟨cells,h1,?_⟩,h.li⟩
 have h3:(cells.take (i::is).length).take is.length=((i::is).map fun i=>AV.ref i 0 0).reverse.take is.length:=by rw[h2]
 rw[List.take_take,List.length_cons,Nat.min_eq_left (by omega)] at h3
 rw[h3]
 simp[List.map_cons,List.reverse_cons]
end
section
theorem app_ms_flat (xs ys:List Int):(xs.map aInt).take (xs.length * 1)++ys.map aInt=(xs++ys).map aInt:=by
 rw[List.take_of_length_le (by simp),List.map_append]
set_option maxHeartbeats 1000000 in
theorem concat_a (ls:List (List Int)) (h0:0 < ls.flatten.length) (hn:ls.flatten.length≤1000000) (hl:ls.length≤1000000):FnP Tryz.prog 70 [aInts2 ls] fun a=>a=aInts ls.flatten:=by
 refine Qh Z16 mixed rfl (by simp[AV.pureL,QL]) ?_
 simp only[Q31]
 have hsum:∀k,(ls.take k).flatten.length≤ls.flatten.length:=by
  intro k
  conv=>rhs;rw[←List.take_append_drop k ls]
  rw[List.flatten_append,List.length_append];omega
 have hone:∀k (r:List Int),ls[k]?=some r→(ls.take (k+1)).flatten=(ls.take k).flatten++r:=by
  intro k r hr
  rw[Qe hr];simp
 push_cast (disch:=omega)[aInts2,aSl]
 refine Qv (α:=Nat) (I:=fun k ε σ=>(ε 0=aInts2 ls∧ε 3=.v (.int .i64 ((ls.take k).flatten.length:Nat))∧ε 9=.sl ls.length (ls.map aInts) .none∧ε 10=.v (.int .i64 ls.length)∧ε 11=.v (.int .i64 k))∧k≤ls.length∧σ=[])
  (μ:=fun k=>ls.length - k) (Q:=fun ε σ=>(ε 0=aInts2 ls∧ε 3=.v (.int .i64 (ls.flatten.length:Nat)))∧σ=[]) (x:=0) ?_ ?_ ?_
 ·push_cast (disch:=omega)
  exact ⟨⟨rfl,rfl⟩,by omega⟩
 ·rintro k ε σ N E ⟨hρ,hk,rfl⟩ hN hE
  simp only[QX]
  by_cases hlt:k < ls.length
  ·obtain ⟨r,hr⟩:=Ql hlt
   have h1:=hone k r hr
   have h2:=hsum (k+1)
   rw[h1,List.length_append] at h2
   have h3:¬((((ls.take k).flatten.length:Nat):Int)+(r.length:Int) < 0):=by omega
   have hN1:=hN (k+1)
   rw[h1,List.length_append] at hN1
   generalize (ls.take k).flatten.length=s at hρ h2 h3 hN1
   push_cast (disch:=omega)[hρ,hr,aInts,aSl,h3]
   refine hN1 _ _ ?_ (by omega)
   push_cast (disch:=omega)[hρ]
   omega
  ·push_cast (disch:=omega)[hρ]
   refine hE _ _ ?_
   rw[List.take_of_length_le (by omega)] at hρ
   push_cast (disch:=omega)[hρ]
 ·rintro ε σ ⟨hρ,rfl⟩
  push_cast (disch:=omega)[hρ]
  refine Q2 (grow_a ls.flatten.length [] h0 hn) ?_
  rintro a σ ⟨rfl,rfl⟩
  push_cast (disch:=omega)[hρ,aInts2,aSl]
  refine Qv (α:=Nat) (I:=fun k ε σ=>(ε 25=.sl ls.length (ls.map aInts) .none∧ε 26=.v (.int .i64 ls.length)∧ε 27=.v (.int .i64 k))∧k≤ls.length∧∃w,ε 6=.ms 0 w 0 (ls.take k).flatten.length 1∧σ[0]?=some (.obj w ((ls.take k).flatten.map aInt)))
   (μ:=fun k=>ls.length - k) (Q:=fun ε σ=>∃w,ε 6=.ms 0 w 0 ls.flatten.length 1∧σ[0]?=some (.obj w (ls.flatten.map aInt))) (x:=0) ?_ ?_ ?_
  ·push_cast (disch:=omega)
   exact ⟨by omega,0,rfl,rfl⟩
  ·clear hρ ε
   rintro k ε σ N E ⟨hρ,hk,w,h6,hs⟩ hN hE
   simp only[QY]
   by_cases hlt:k < ls.length
   ·obtain ⟨r,hr⟩:=Ql hlt
    have h1:=hone k r hr
    have h2:=hsum (k+1)
    rw[h1,List.length_append] at h2
    have hN1:=hN (k+1)
    rw[h1] at hN1
    generalize (ls.take k).flatten=s at hs h6 h2 hN1
    push_cast (disch:=omega)[hρ,hr,h6,aInts,aSl]
    refine ZF (m:=r.length) rfl rfl (by simp) (by rw[List.all_map];exact List.all_eq_true.2 fun x _=>rfl) (by simp) (by omega) (by omega) hs ?_
    push_cast (disch:=omega)[hρ]
    refine hN1 _ _ ?_ (by omega)
    push_cast (disch:=omega)[hρ]
    refine ⟨by omega,w+1,by rw[List.length_append],?_⟩
    rw[Q4 hs]
    have:=app_ms_flat s r
    rw[Nat.mul_one] at this
    rw[this]
   ·push_cast (disch:=omega)[hρ]
    refine hE _ _ ⟨w,?_⟩
    rw[List.take_of_length_le (by omega)] at hs h6
    push_cast (disch:=omega)[h6]
    exact hs
  ·rintro ε σ ⟨w,h6,hs⟩
   push_cast (disch:=omega)[h6]
   have hr:AV.resL σ (ls.flatten.map aInt)=ls.flatten.map aInt:=by
    rw[QB,List.map_map]
    exact List.map_congr_left fun x _=>by simp[aInt,AV.res]
   refine ZA [0] ?_ (Q07 _)
   rw[XP hs hr,X83 (Q4 hs) (by rw[List.length_map,Nat.mul_one])]
   rfl
theorem Qa {d:Nat} {n:Option Nat} {x:Operand} {ε:AEnv} {σ:St} (h:ldA n (evA ε x) σ=some (ε d)∧(ε d).exact=true):SItem.aholds ⟨some d,none,.ld n x⟩ ε σ:=.inl ⟨trivial,ε d,h.1,h.2,fun e he'=>by cases he';rfl⟩
theorem BR.stp {S:Role→Prop} {σ σ':St} {lab lab':Nat→Role} {ib il vl:Nat} {B:Bd} {is:List Nat} (h:BR σ lab ib il vl B is) (k:Stp S σ lab σ' lab') (hS:∀r,S r→r=(0,0)):BR σ' lab' ib il vl B is:=by
 obtain ⟨⟨t,h1⟩,h2,h3,h5⟩:=h
 obtain ⟨a,b⟩:=k.get h1.obj (fun e=>by have:=hS _ e;rw[h1.li] at this;cases this)
 refine ⟨⟨t,a,b.trans h1.li,h1.p.stp k (fun e=>absurd (hS _ e) (by simp)),h1.n.stp k (fun e=>absurd (hS _ e) (by simp)),h1.a.stp k (fun e=>absurd (hS _ e) (by simp))⟩,h2.stp k (fun e=>absurd (hS _ e) (by simp)),h3.stp k fun q d hq _ e=>?_,h5.stp k fun e=>absurd (hS _ e) (by simp)⟩
 have:=congrArg Prod.fst (hS _ e)
 simp only at this
 omega
def isB (r:Role):Prop:=r.2=0∧1≤r.1∧r.1≤5∧r.1≠2
def Bd.begin (B:Bd) (n:Nd) (ps:List Int):Int×Bd:=if B.preds.length=1000 then (0,{ B with full:=true }) else ((B.preds.length:Int),{ B with preds:=B.preds++[ps],nodes:=B.nodes++[n] })
theorem bdC_0 (B:Bd) (t:Tb) (ms:AV):(bdC B t ms)[0]?=some (.sl B.preds.length (B.preds.map aInts) t.p):=rfl
theorem bdC_1 (B:Bd) (t:Tb) (ms:AV):(bdC B t ms)[1]?=some (.sl B.nodes.length (B.nodes.flatMap aNd) t.n):=rfl
theorem bdC_2 (B:Bd) (t:Tb) (ms:AV):(bdC B t ms)[2]?=some (.sl B.accs.length (B.accs.flatMap aAc) t.a):=rfl
theorem ZV (B:Bd) (t:Tb) (ms:AV):(bdC B t ms)[3]?=some ms:=rfl
theorem bdC_4 (B:Bd) (t:Tb) (ms:AV):(bdC B t ms)[4]?=some (.v (.bool B.full)):=rfl
theorem BdAt.preds {σ σ1:St} {lab lab1:Nat→Role} {ib:Nat} {B:Bd} {t:Tb} {ms:AV} {t1:Tok} (h:BdAt σ lab ib B t ms) (k:Stp (·=(3,0)) σ lab σ1 lab1) (ps:List Int) (ht:TokOk σ1 lab1 (3,0) t1 (B.preds.length+1) 1):
  BdAt (σ1.set ib (.obj 0 (bdC { B with preds:=B.preds++[ps] } { t with p:=t1 } ms))) lab1 ib { B with preds:=B.preds++[ps] } { t with p:=t1 } ms ∧
   Stp isB σ lab (σ1.set ib (.obj 0 (bdC { B with preds:=B.preds++[ps] } { t with p:=t1 } ms))) lab1:=by
 obtain ⟨a,b⟩:=k.get h.obj (by rw[h.li];simp)
 have hl:=b.trans h.li
 have k2:=Qx (σ:=σ1) (x:=.obj 0 (bdC { B with preds:=B.preds++[ps] } { t with p:=t1 } ms)) hl
 refine ⟨⟨Q4 a,hl,?_,(h.n.stp k (by simp)).stp k2 (by simp),(h.a.stp k (by simp)).stp k2 (by simp)⟩,k.trans k2 (fun r e=>by subst e;simp[isB]) (fun r e=>by subst e;simp[isB])⟩
 have:=ht.stp k2 (by simp)
 rw[show ({ B with preds:=B.preds++[ps] }:Bd).preds.length=B.preds.length+1 by simp]
 exact this
theorem BdAt.nodes {σ σ1:St} {lab lab1:Nat→Role} {ib:Nat} {B:Bd} {t:Tb} {ms:AV} {t1:Tok} (h:BdAt σ lab ib B t ms) (k:Stp (·=(4,0)) σ lab σ1 lab1) (n:Nd) (ht:TokOk σ1 lab1 (4,0) t1 (B.nodes.length+1) 3):
  BdAt (σ1.set ib (.obj 0 (bdC { B with nodes:=B.nodes++[n] } { t with n:=t1 } ms))) lab1 ib { B with nodes:=B.nodes++[n] } { t with n:=t1 } ms ∧
   Stp isB σ lab (σ1.set ib (.obj 0 (bdC { B with nodes:=B.nodes++[n] } { t with n:=t1 } ms))) lab1:=by
 obtain ⟨a,b⟩:=k.get h.obj (by rw[h.li];simp)
 have hl:=b.trans h.li
 have k2:=Qx (σ:=σ1) (x:=.obj 0 (bdC { B with nodes:=B.nodes++[n] } { t with n:=t1 } ms)) hl
 refine ⟨⟨Q4 a,hl,(h.p.stp k (by simp)).stp k2 (by simp),?_,(h.a.stp k (by simp)).stp k2 (by simp)⟩,k.trans k2 (fun r e=>by subst e;simp[isB]) (fun r e=>by subst e;simp[isB])⟩
 have:=ht.stp k2 (by simp)
 rw[show ({ B with nodes:=B.nodes++[n] }:Bd).nodes.length=B.nodes.length+1 by simp]
 exact this
theorem BdAt.accs {σ σ1:St} {lab lab1:Nat→Role} {ib:Nat} {B:Bd} {t:Tb} {ms:AV} {t1:Tok} (h:BdAt σ lab ib B t ms) (k:Stp (·=(5,0)) σ lab σ1 lab1) (c:Ac) (ht:TokOk σ1 lab1 (5,0) t1 (B.accs.length+1) 3):
  BdAt (σ1.set ib (.obj 0 (bdC { B with accs:=B.accs++[c] } { t with a:=t1 } ms))) lab1 ib { B with accs:=B.accs++[c] } { t with a:=t1 } ms ∧
   Stp isB σ lab (σ1.set ib (.obj 0 (bdC { B with accs:=B.accs++[c] } { t with a:=t1 } ms))) lab1:=by
 obtain ⟨a,b⟩:=k.get h.obj (by rw[h.li];simp)
 have hl:=b.trans h.li
 have k2:=Qx (σ:=σ1) (x:=.obj 0 (bdC { B with accs:=B.accs++[c] } { t with a:=t1 } ms)) hl
 refine ⟨⟨Q4 a,hl,(h.p.stp k (by simp)).stp k2 (by simp),(h.n.stp k (by simp)).stp k2 (by simp),?_⟩,k.trans k2 (fun r e=>by subst e;simp[isB]) (fun r e=>by subst e;simp[isB])⟩
 have:=ht.stp k2 (by simp)
 rw[show ({ B with accs:=B.accs++[c] }:Bd).accs.length=B.accs.length+1 by simp]
 exact this
theorem BdAt.put {σ:St} {lab:Nat→Role} {ib:Nat} {B B':Bd} {t:Tb} {ms ms':AV} (h:BdAt σ lab ib B t ms) (hp:B'.preds=B.preds) (hn:B'.nodes=B.nodes) (ha:B'.accs=B.accs):
  BdAt (σ.set ib (.obj 0 (bdC B' t ms'))) lab ib B' t ms'∧Stp (·=(1,0)) σ lab (σ.set ib (.obj 0 (bdC B' t ms'))) lab:=by
 have k2:=Qx (σ:=σ) (x:=.obj 0 (bdC B' t ms')) h.li
 exact ⟨⟨Q4 h.obj,h.li,by rw[hp];exact h.p.stp k2 (by simp),by rw[hn];exact h.n.stp k2 (by simp),by rw[ha];exact h.a.stp k2 (by simp)⟩,k2⟩
theorem isB_frs {σ σ':St} {lab lab':Nat→Role} {is:List Nat} {fs:List Fr} (h:Frs σ lab is fs) (k:Stp isB σ lab σ' lab'):Frs σ' lab' is fs:=
 h.stp k fun q d hq _ e=>by have:=e.2.2.1;simp only at this;omega
set_option maxHeartbeats 1000000 in
theorem strand_g {σ:St} {lab:Nat→Role} {ib:Nat} {B:Bd} {t0:Tb} {ms:AV} (H:BdAt σ lab ib B t0 ms) (hp:B.preds.length≤1000) (hn:B.nodes.length=B.preds.length) (n:Nd) (ps:List Int):
  FnG Tryz.prog 40 [.ref ib 0 0,.agg (aNd n),aInts ps] σ fun a σ'=>a=aInt (B.begin n ps).1∧∃lab' t',BdAt σ' lab' ib (B.begin n ps).2 t' ms∧Stp isB σ lab σ' lab':=by
 refine Qk Z15 mixed rfl ?_
 simp only[Q30]
 push_cast (disch:=omega)
 refine Qd ?_
 have k0:Stp isB σ lab (σ++[.obj 0 (AV.cells (.agg (aNd n)))]) (labN σ lab (0,0)):=Qj (0,0)
 have H0:=H.stp (Qj (S:=fun _=>False) (x:=.obj 0 (AV.cells (.agg (aNd n)))) (0,0)) fun _ _ h=>h
 have hbx:(σ++[Res.obj 0 (AV.cells (.agg (aNd n)))])[σ.length]?=some (.obj 0 (aNd n)):=Qc _ _
 have hlx:labN σ lab (0,0) σ.length=(0,0):=Qq _ _ _
 generalize σ++[Res.obj 0 (AV.cells (.agg (aNd n)))]=σ0 at k0 H0 hbx ⊢
 generalize labN σ lab (0,0)=lab0 at k0 H0 hlx
 generalize σ.length=bx at hbx hlx
 obtain ⟨t,h1⟩:∃t,BdAt σ0 lab0 ib B t ms:=⟨t0,H0⟩
 have ho:=h1.obj
 by_cases h1000:B.preds.length=1000
 ·have hb:B.begin n ps=(0,{ B with full:=true }):=if_pos h1000
  rw[hb]
  have h1000':((B.preds.length:Nat):Int)=1000:=by omega
  push_cast (disch:=omega)[ho,bdC_0,h1000']
  refine Q6 rfl rfl ho (by simp[bdC]) ?_
  obtain ⟨m1,m2⟩:=h1.put (B':={ B with full:=true }) (ms':=ms) rfl rfl rfl
  have e1:(bdC B t ms).set 4 (.v (.bool true))=bdC { B with full:=true } t ms:=rfl
  rw[e1]
  push_cast (disch:=omega)
  refine ⟨rfl,lab0,t,m1,k0.trans m2 (fun _ h=>h) fun r e=>by subst e;simp[isB]⟩
 ·have hb:B.begin n ps=((B.preds.length:Int),{ B with preds:=B.preds++[ps],nodes:=B.nodes++[n] }):=if_neg h1000
  rw[hb]
  have h1000':¬((B.preds.length:Int)=1000):=by omega
  push_cast (disch:=omega)[ho,bdC_0,h1000']
  refine Qf (sz:=1) (by intro a ha;simp at ha;subst ha;rfl) (by simp) ?_
  push_cast (disch:=omega)
  refine Qs (m:=1) rfl h1.p rfl rfl rfl (by simp) (by omega) (by omega) ?_
  intro σ1 lab1 t1 k1 ht1
  have ho1:=(k1.get ho (by rw[h1.li];simp)).1
  obtain ⟨m1,m2⟩:=h1.preds k1 ps ht1
  push_cast (disch:=omega)
  refine Q6 rfl rfl ho1 (by simp[bdC]) ?_
  have e1:(bdC B t ms).set 0 (.sl (B.preds.length+1) (B.preds.map aInts++((aInts ps).cells++[])) t1)=bdC { B with preds:=B.preds++[ps] } { t with p:=t1 } ms:=by
   have e2:B.preds.map aInts++((aInts ps).cells++[])=(B.preds++[ps]).map aInts:=by simp[aInts,aSl,AV.cells]
   rw[e2]
   simp[bdC]
  rw[e1]
  have hbx1:=m2.get hbx (by rw[hlx];simp[isB])
  have k3:=k0.trans m2 (U:=isB) (fun _ h=>h) fun _ h=>h
  generalize σ1.set ib (.obj 0 (bdC { B with preds:=B.preds++[ps] } { t with p:=t1 } ms))=σ2 at m1 m2 hbx1 k3 ⊢
  obtain ⟨hbx1,hlx1⟩:=hbx1
  clear e1 ho1 ho k1 ht1 h1 m2 k0 hbx
  have ho2:=m1.obj
  have hcl:∀n,cellsA (some 3) (aNd n)=some (.agg (aNd n)):=fun _=>rfl
  push_cast (disch:=omega)[ho2,bdC_1,hbx1,hcl]
  refine Qf (sz:=3) (by intro a ha;simp at ha;subst ha;rfl) (by simp) ?_
  have hac:(AV.agg (aNd n)).cells=aNd n:=rfl
  push_cast (disch:=omega)[ho2,bdC_1,hac]
  refine ⟨Qa (by push_cast (disch:=omega)[ho2,bdC_1,m1.n.exact]),?_⟩
  refine Qs (m:=1) rfl m1.n rfl rfl rfl (Qy Z43 _) (by omega) (by omega) ?_
  intro σ3 lab3 t3 k5 ht5
  have ho3:=(k5.get ho2 (by rw[m1.li];simp)).1
  obtain ⟨n1,n2⟩:=m1.nodes k5 n ht5
  push_cast (disch:=omega)
  refine Q6 rfl rfl ho3 (by simp[bdC]) ?_
  have e3:(bdC { B with preds:=B.preds++[ps] } { t with p:=t1 } ms).set 1 (.sl (B.nodes.length+1) (B.nodes.flatMap aNd++(aNd n++[])) t3)=bdC { B with preds:=B.preds++[ps],nodes:=B.nodes++[n] } { t with p:=t1,n:=t3 } ms:=by
   have e2:B.nodes.flatMap aNd++(aNd n++[])=(B.nodes++[n]).flatMap aNd:=by simp
   rw[e2]
   simp[bdC]
  rw[e3]
  have k4:=k3.trans n2 (U:=isB) (fun _ h=>h) fun _ h=>h
  generalize σ3.set ib (.obj 0 (bdC { B with preds:=B.preds++[ps],nodes:=B.nodes++[n] } { t with p:=t1,n:=t3 } ms))=σ4 at n1 n2 k4 ⊢
  have ho4:=n1.obj
  push_cast (disch:=omega)[ho4,bdC_0]
  refine ⟨?_,lab3,_,n1,k4⟩
  simp[aInt]
  rw[IntKind.wrap_i64];omega
theorem Q33 (B:Bd) (n:Nd) (ps:List Int):(B.begin n ps).2.fs=B.fs:=by unfold Bd.begin;split<;>rfl
theorem Z58 {σ:St} {lab:Nat→Role} {ib il vl:Nat} {B:Bd} {is:List Nat} (H:BR σ lab ib il vl B is) (hp:B.preds.length≤1000) (hn:B.nodes.length=B.preds.length) (n:Nd) (ps:List Int):
  FnG Tryz.prog 40 [.ref ib 0 0,.agg (aNd n),aInts ps] σ fun a σ'=>a=aInt (B.begin n ps).1∧∃lab',BR σ' lab' ib il vl (B.begin n ps).2 is∧Stp isB σ lab σ' lab':=by
 obtain ⟨⟨t,h1⟩,h2,h3,h5⟩:=H
 refine (strand_g h1 hp hn n ps).mono ?_
 rintro a σ' ⟨rfl,lab',t',h4,k⟩
 exact ⟨rfl,lab',⟨⟨t',h4⟩,h2.stp k (by simp[isB]),by rw[Q33];exact isB_frs h3 k,h5.stp k (by simp[isB])⟩,k⟩
theorem isB_10:isB (1,0):=⟨rfl,by decide,by decide,by decide⟩
theorem top_a {σ:St} {lab:Nat→Role} {ib il vl i:Nat} {B:Bd} {is:List Nat} (H:BR σ lab ib il vl B (i::is)) (hb:is.length≤1000000):
  FnG Tryz.prog 41 [.ref ib 0 0] σ fun a σ'=>a=.ref i 0 0∧σ'=σ:=by
 refine Qk Z68 mixed rfl ?_
 simp only[Q71]
 obtain ⟨⟨t,h1⟩,h2,h3,h5⟩:=H
 have ho:=h1.obj
 obtain ⟨cells,hc,ht⟩:=h2.top
 have e1:((is.length:Int)+1 - 1).toNat=is.length:=by omega
 have e2:(i::is).length=is.length+1:=rfl
 rw[e2] at ho
 push_cast (disch:=omega)[ho,ZV,hc,ht,e1]
 exact True.intro
theorem pop_a {σ:St} {lab:Nat→Role} {ib il vl i:Nat} {B:Bd} {is:List Nat} (H:BR σ lab ib il vl B (i::is)) (hb:is.length≤1000000) {F:Fr} {fs:List Fr} (hF:B.fs=F::fs):
  FnG Tryz.prog 69 [.ref ib 0 0] σ fun a σ'=>a=.ref i 0 0∧BR σ' lab ib il vl { B with fs:=fs } is∧Stp (·=(1,0)) σ lab σ' lab:=by
 refine Qk Z69 mixed rfl ?_
 simp only[Q72]
 push_cast (disch:=omega)
 refine Q2 (top_a H hb) ?_
 rintro a _ ⟨rfl,rfl⟩
 obtain ⟨⟨t,h1⟩,h2,h3,h5⟩:=H
 have ho:=h1.obj
 have e1:((is.length:Int)+1 - 1).toNat=is.length:=by omega
 have e2:(i::is).length=is.length+1:=rfl
 rw[e2] at ho
 obtain ⟨m1,m2⟩:=h1.put (B':={ B with fs:=fs }) (ms':=.ms il vl 0 is.length 1) rfl rfl rfl
 push_cast (disch:=omega)[ho,ZV,e1]
 refine Q6 rfl rfl ho (by simp[bdC]) ?_
 have e3:(bdC B t (.ms il vl 0 (is.length+1) 1)).set 3 (.ms il vl 0 is.length 1)=bdC { B with fs:=fs } t (.ms il vl 0 is.length 1):=rfl
 rw[e3]
 push_cast (disch:=omega)
 rw[hF] at h3
 exact ⟨⟨⟨t,m1⟩,h2.pop.stp m2 (by simp),isB_frs h3.2 (m2.mono fun r e=>by subst e;exact isB_10),h5.stp m2 (by simp)⟩,m2⟩
end
section
theorem X7 (F:Fr) (t:Tk):(frC F t)[0]?=some (.v (.int .i64 F.kind)):=rfl
theorem frC_1 (F:Fr) (t:Tk):(frC F t)[1]?=some (.v (.bool F.child)):=rfl
theorem XJ (F:Fr) (t:Tk):(frC F t)[2]?=some (.v (.int .i64 F.now)):=rfl
theorem frC_3 (F:Fr) (t:Tk):(frC F t)[3]?=some (.sl F.left.length (F.left.map aInt) t.l):=rfl
theorem frC_5a (F:Fr) (t:Tk):(frC F t)[4+1]?=some (.v (.int .i64 F.it)):=rfl
theorem frC_6a (F:Fr) (t:Tk):(frC F t)[4+2]?=some (.v (.int .i64 F.sg)):=rfl
theorem frC_7 (F:Fr) (t:Tk):(frC F t)[7]?=some (.sl F.row.length (F.row.flatMap aSt) t.r):=rfl
theorem frC_8 (F:Fr) (t:Tk):(frC F t)[8]?=some (.v (.int .i64 F.ser)):=rfl
theorem Yy (F:Fr) (t:Tk):(frC F t)[9]?=some (.v (.int .i64 F.cnt)):=rfl
theorem frC_10 (F:Fr) (t:Tk):(frC F t)[10]?=some (.sl F.ahead.length (F.ahead.flatMap aSt) t.a):=rfl
theorem frC_11 (F:Fr) (t:Tk):(frC F t)[11]?=some (.sl F.lasts.length (F.lasts.map aInt) t.s):=rfl
theorem Qo (m:Mk):(aMk m)[0]?=some (.v (.int .i64 m.k)):=rfl
theorem QF (m:Mk):(aMk m)[1]?=some (.v (.int .i64 m.a)):=rfl
def fitsB (F:Fr) (m:Mk):Bool:=
 if m.k=9 then decide (F.kind=3)&&decide (m.a=F.cnt)
 else if m.k=8 then decide (F.kind=3)&&decide (m.a=F.ser)&&decide (0 < F.cnt)
 else if m.k=5 then F.child
 else if m.k=10 then decide (F.kind=2)&&decide (m.a=F.it)
 else if m.k=11∨m.k=12 then decide (F.kind=2)&&decide (F.sg < m.a)
 else decide (F.kind≠3)
set_option maxHeartbeats 2000000 in
theorem fits_a {σ:St} {i:Nat} {F:Fr} {t:Tk} (H:σ[i]?=some (.obj 0 (frC F t))) (m:Mk):
  FnG Tryz.prog 42 [.ref i 0 0,.agg (aMk m)] σ fun a σ'=>a=aBool (fitsB F m)∧σ'=σ++[.obj 0 (aMk m)]:=by
 refine Qk Yx mixed rfl ?_
 simp only[XI]
 push_cast (maxSteps:=999999) -implicitDefEqProofs (disch:=omega)
 refine Qd ?_
 have hac:(AV.agg (aMk m)).cells=aMk m:=rfl
 rw[hac]
 have ho:(σ++[Res.obj 0 (aMk m)])[i]?=some (.obj 0 (frC F t)):=Q7 H
 have hb:(σ++[Res.obj 0 (aMk m)])[σ.length]?=some (.obj 0 (aMk m)):=Qc _ _
 generalize hS:σ++[Res.obj 0 (aMk m)]=S at ho hb ⊢
 generalize σ.length=j at hb ⊢
 clear hS H hac
 unfold fitsB
 by_cases h9:m.k=9
 ·rw[if_pos h9]
  by_cases h1:F.kind=3
  ·by_cases h2:m.a=F.cnt
   ·rw[decide_eq_true h1,decide_eq_true h2]
    push_cast (maxSteps:=999999) -implicitDefEqProofs (disch:=omega)[hb,Qo,QF,ho,X7,Yy,h9,h1,h2]
    exact rfl
   ·rw[decide_eq_true h1,decide_eq_false h2]
    push_cast (maxSteps:=999999) -implicitDefEqProofs (disch:=omega)[hb,Qo,QF,ho,X7,Yy,h9,h1,h2]
    exact rfl
  ·rw[decide_eq_false h1]
   push_cast (maxSteps:=999999) -implicitDefEqProofs (disch:=omega)[hb,Qo,ho,X7,h9,h1]
   exact rfl
 ·rw[if_neg h9]
  by_cases h8:m.k=8
  ·rw[if_pos h8]
   by_cases h1:F.kind=3
   ·by_cases h2:m.a=F.ser
    ·by_cases h3:0 < F.cnt
     ·have h3':(0:Int) < (F.cnt:Int):=by omega
      rw[decide_eq_true h1,decide_eq_true h2,decide_eq_true h3]
      push_cast (maxSteps:=999999) -implicitDefEqProofs (disch:=omega)[hb,Qo,QF,ho,X7,frC_8,Yy,h8,h1,h2,h3']
      exact rfl
     ·have h3':¬(0:Int) < (F.cnt:Int):=by omega
      rw[decide_eq_true h1,decide_eq_true h2,decide_eq_false h3]
      push_cast (maxSteps:=999999) -implicitDefEqProofs (disch:=omega)[hb,Qo,QF,ho,X7,frC_8,Yy,h8,h1,h2,h3']
      exact rfl
    ·rw[decide_eq_true h1,decide_eq_false h2]
     push_cast (maxSteps:=999999) -implicitDefEqProofs (disch:=omega)[hb,Qo,QF,ho,X7,frC_8,h8,h1,h2]
     exact rfl
   ·rw[decide_eq_false h1]
    push_cast (maxSteps:=999999) -implicitDefEqProofs (disch:=omega)[hb,Qo,ho,X7,h8,h1]
    exact rfl
  ·rw[if_neg h8]
   by_cases h5:m.k=5
   ·rw[if_pos h5]
    push_cast (maxSteps:=999999) -implicitDefEqProofs (disch:=omega)[hb,Qo,ho,frC_1,h5]
    exact rfl
   ·rw[if_neg h5]
    by_cases h10:m.k=10
    ·rw[if_pos h10]
     by_cases h1:F.kind=2
     ·by_cases h2:m.a=F.it
      ·rw[decide_eq_true h1,decide_eq_true h2]
       push_cast (maxSteps:=999999) -implicitDefEqProofs (disch:=omega)[hb,Qo,QF,ho,X7,frC_5a,h10,h1,h2]
       exact rfl
      ·rw[decide_eq_true h1,decide_eq_false h2]
       push_cast (maxSteps:=999999) -implicitDefEqProofs (disch:=omega)[hb,Qo,QF,ho,X7,frC_5a,h10,h1,h2]
       exact rfl
     ·rw[decide_eq_false h1]
      push_cast (maxSteps:=999999) -implicitDefEqProofs (disch:=omega)[hb,Qo,ho,X7,h10,h1]
      exact rfl
    ·rw[if_neg h10]
     by_cases h11:m.k=11∨m.k=12
     ·rw[if_pos h11]
      by_cases h1:F.kind=2
      ·by_cases h2:F.sg < m.a
       ·rw[decide_eq_true h1,decide_eq_true h2]
        rcases h11 with h11|h11<;>(push_cast (maxSteps:=999999) -implicitDefEqProofs (disch:=omega)[hb,Qo,QF,ho,X7,frC_6a,h11,h1,h2];exact rfl)
       ·rw[decide_eq_true h1,decide_eq_false h2]
        rcases h11 with h11|h11<;>(push_cast (maxSteps:=999999) -implicitDefEqProofs (disch:=omega)[hb,Qo,QF,ho,X7,frC_6a,h11,h1,h2];exact rfl)
      ·rw[decide_eq_false h1]
       rcases h11 with h11|h11<;>(push_cast (maxSteps:=999999) -implicitDefEqProofs (disch:=omega)[hb,Qo,ho,X7,h11,h1];exact rfl)
     ·rw[if_neg h11]
      have e11:¬m.k=11:=fun h=>h11 (.inl h)
      have e12:¬m.k=12:=fun h=>h11 (.inr h)
      by_cases h1:F.kind=3
      ·rw[decide_eq_false (by simpa using h1)]
       push_cast (maxSteps:=999999) -implicitDefEqProofs (disch:=omega)[hb,Qo,ho,X7,h9,h8,h5,h10,e11,e12,h1]
       exact rfl
      ·rw[decide_eq_true h1]
       push_cast (maxSteps:=999999) -implicitDefEqProofs (disch:=omega)[hb,Qo,ho,X7,h9,h8,h5,h10,e11,e12,h1]
       exact rfl
end
section
def isF (d:Nat) (r:Role):Prop:=r.2=d∧6≤r.1
theorem FrAt.put {σ:St} {lab:Nat→Role} {d i:Nat} {F F':Fr} {t:Tk} (h:FrAt σ lab d i F t) (hl:F'.left=F.left) (hr:F'.row=F.row) (ha:F'.ahead=F.ahead) (hs:F'.lasts=F.lasts):
  FrAt (σ.set i (.obj 0 (frC F' t))) lab d i F' t∧Stp (isF d) σ lab (σ.set i (.obj 0 (frC F' t))) lab:=by
 have k2:=Qx (σ:=σ) (x:=.obj 0 (frC F' t)) h.li
 exact ⟨⟨Q4 h.obj,h.li,by rw[hl];exact h.l.stp k2 (by simp),by rw[hr];exact h.r.stp k2 (by simp),by rw[ha];exact h.a.stp k2 (by simp),by rw[hs];exact h.s.stp k2 (by simp)⟩,k2.mono fun r e=>by subst e;exact ⟨rfl,by simp⟩⟩
theorem FrAt.tl {σ σ1:St} {lab lab1:Nat→Role} {d i:Nat} {F F':Fr} {t:Tk} {t1:Tok} (h:FrAt σ lab d i F t) (k:Stp (·=(7,d)) σ lab σ1 lab1) (ht:TokOk σ1 lab1 (7,d) t1 F'.left.length 1) (hr:F'.row=F.row) (ha:F'.ahead=F.ahead) (hs:F'.lasts=F.lasts):
  FrAt (σ1.set i (.obj 0 (frC F' { t with l:=t1 }))) lab1 d i F' { t with l:=t1 }∧Stp (isF d) σ lab (σ1.set i (.obj 0 (frC F' { t with l:=t1 }))) lab1:=by
 obtain ⟨a,b⟩:=k.get h.obj (by rw[h.li];simp)
 have hli:=b.trans h.li
 have k2:=Qx (σ:=σ1) (x:=.obj 0 (frC F' { t with l:=t1 })) hli
 exact ⟨⟨Q4 a,hli,ht.stp k2 (by simp),by rw[hr];exact (h.r.stp k (by simp)).stp k2 (by simp),by rw[ha];exact (h.a.stp k (by simp)).stp k2 (by simp),by rw[hs];exact (h.s.stp k (by simp)).stp k2 (by simp)⟩,
  k.trans k2 (fun r e=>by subst e;exact ⟨rfl,by simp⟩) fun r e=>by subst e;exact ⟨rfl,by simp⟩⟩
theorem FrAt.tr {σ σ1:St} {lab lab1:Nat→Role} {d i:Nat} {F F':Fr} {t:Tk} {t1:Tok} (h:FrAt σ lab d i F t) (k:Stp (·=(8,d)) σ lab σ1 lab1) (ht:TokOk σ1 lab1 (8,d) t1 F'.row.length 2) (hl:F'.left=F.left) (ha:F'.ahead=F.ahead) (hs:F'.lasts=F.lasts):
  FrAt (σ1.set i (.obj 0 (frC F' { t with r:=t1 }))) lab1 d i F' { t with r:=t1 }∧Stp (isF d) σ lab (σ1.set i (.obj 0 (frC F' { t with r:=t1 }))) lab1:=by
 obtain ⟨a,b⟩:=k.get h.obj (by rw[h.li];simp)
 have hli:=b.trans h.li
 have k2:=Qx (σ:=σ1) (x:=.obj 0 (frC F' { t with r:=t1 })) hli
 exact ⟨⟨Q4 a,hli,by rw[hl];exact (h.l.stp k (by simp)).stp k2 (by simp),ht.stp k2 (by simp),by rw[ha];exact (h.a.stp k (by simp)).stp k2 (by simp),by rw[hs];exact (h.s.stp k (by simp)).stp k2 (by simp)⟩,
  k.trans k2 (fun r e=>by subst e;exact ⟨rfl,by simp⟩) fun r e=>by subst e;exact ⟨rfl,by simp⟩⟩
theorem FrAt.ts {σ σ1:St} {lab lab1:Nat→Role} {d i:Nat} {F F':Fr} {t:Tk} {t1:Tok} (h:FrAt σ lab d i F t) (k:Stp (·=(10,d)) σ lab σ1 lab1) (ht:TokOk σ1 lab1 (10,d) t1 F'.lasts.length 1) (hl:F'.left=F.left) (hr:F'.row=F.row) (ha:F'.ahead=F.ahead):
  FrAt (σ1.set i (.obj 0 (frC F' { t with s:=t1 }))) lab1 d i F' { t with s:=t1 }∧Stp (isF d) σ lab (σ1.set i (.obj 0 (frC F' { t with s:=t1 }))) lab1:=by
 obtain ⟨a,b⟩:=k.get h.obj (by rw[h.li];simp)
 have hli:=b.trans h.li
 have k2:=Qx (σ:=σ1) (x:=.obj 0 (frC F' { t with s:=t1 })) hli
 exact ⟨⟨Q4 a,hli,by rw[hl];exact (h.l.stp k (by simp)).stp k2 (by simp),by rw[hr];exact (h.r.stp k (by simp)).stp k2 (by simp),by rw[ha];exact (h.a.stp k (by simp)).stp k2 (by simp),ht.stp k2 (by simp)⟩,
  k.trans k2 (fun r e=>by subst e;exact ⟨rfl,by simp⟩) fun r e=>by subst e;exact ⟨rfl,by simp⟩⟩
theorem BR.setTop {σ σ':St} {lab lab':Nat→Role} {ib il vl i:Nat} {B:Bd} {is:List Nat} {F F':Fr} {fs:List Fr} {t:Tk} (H:BR σ lab ib il vl B (i::is)) (hB:B.fs=F::fs) (h:FrAt σ' lab' is.length i F' t) (k:Stp (isF is.length) σ lab σ' lab'):
  BR σ' lab' ib il vl { B with fs:=F'::fs } (i::is):=by
 obtain ⟨⟨tb,h1⟩,h2,h3,h5⟩:=H
 rw[hB] at h3
 have m:=h1.stp k (fun q hq e=>by have:=e.2;simp only at this;omega)
 exact ⟨⟨tb,m.obj,m.li,m.p,m.n,m.a⟩,h2.stp k (fun e=>by have:=e.2;simp only at this;omega),⟨⟨t,h⟩,h3.2.stp k fun q d hq hd e=>by have:=e.1;simp only at this;omega⟩,h5.stp k (fun e=>by have:=e.2;simp only at this;omega)⟩
structure Bnd (B:Bd):Prop where
 p:B.preds.length≤1000
 n:B.nodes.length=B.preds.length
 a:B.accs.length≤30000
 f:B.fs.length≤30000
 s:∀F∈B.fs,F.left.length≤30000∧F.row.length≤30000∧F.ahead.length≤30000∧F.lasts.length≤30000∧F.cnt≤30000
def lastA (l:List (Int×Int)) (s:Int):Int:=l.foldl (fun a e=>if e.1≤s then e.2 else a) 0
theorem X92 (l:List (Int×Int)) (e:Int×Int) (s:Int):lastA (l++[e]) s=if e.1≤s then e.2 else lastA l s:=by simp[lastA]
def goPreds (F G:Fr) (m:Mk):List Int:=if m.k=11∧0 < F.it then [F.now,lastA G.ahead m.a] else [F.now]
def goFr (F:Fr) (m:Mk):Fr:={ F with row:=F.row++[(F.sg,F.now)],sg:=m.a }
def goOnB (B:Bd) (F G:Fr) (fs:List Fr) (m:Mk):Bd:=
 let r:=({ B with fs:=goFr F m::G::fs }:Bd).begin (F.lp,F.it,m.a) (goPreds F G m)
 { r.2 with fs:={ goFr F m with now:=r.1 }::G::fs }
theorem weak3 (σ:St) (a b:AV) (xs:List Int) (t:Tok):weak σ [false,false,true] [a,b,.sl xs.length (xs.map aInt) t]=[a,b,aInts xs]:=by
 simp only[weak,if_true]
 rw[Zz (Z50 σ) xs t];rfl
set_option maxHeartbeats 2000000 in
theorem goOn_a {σ:St} {lab:Nat→Role} {ib il vl i j:Nat} {B:Bd} {is:List Nat} {F G:Fr} {fs:List Fr} (H:BR σ lab ib il vl B (i::j::is)) (hB:B.fs=F::G::fs) (hb:Bnd B) (m:Mk):
  FnG Tryz.prog 72 [.ref ib 0 0,.ref i 0 0,.agg (aMk m)] σ fun _ σ'=>∃lab',BR σ' lab' ib il vl (goOnB B F G fs m) (i::j::is):=by
 refine Qk Z41 mixed rfl ?_
 simp only[Q59]
 obtain ⟨hF1,hF2,_,_,_⟩:=hb.s F (by rw[hB];simp)
 obtain ⟨_,_,hG3,_,_⟩:=hb.s G (by rw[hB];simp)
 have hfl:=hb.f
 have hisl:=H.fr.len
 rw[hB] at hfl hisl
 simp only[List.length_cons] at hfl hisl
 refine Q1 (fun ε σ'=>∃bx,(ε 0=.ref ib 0 0∧ε 1=.ref i 0 0∧ε 5=.ref bx 0 0)∧∃lab',σ'[bx]?=some (.obj 0 (aMk m))∧lab' bx=(0,0)∧BR σ' lab' ib il vl B (i::j::is)) ?_ ?_
 ·intro N X R hN
  push_cast (disch:=omega)
  refine Qd ?_
  have hac:(AV.agg (aMk m)).cells=aMk m:=rfl
  have H0:=H.stp (Qj (S:=fun r=>r=(0,0)) (x:=.obj 0 (aMk m)) (0,0)) fun _ h=>h
  have hbx:(σ++[Res.obj 0 (aMk m)])[σ.length]?=some (.obj 0 (aMk m)):=Qc _ _
  rw[hac]
  push_cast (disch:=omega)
  refine hN _ _ ⟨σ.length,?_,_,hbx,Qq _ _ _,H0⟩
  push_cast (disch:=omega)
 clear H
 rintro ε σ0 ⟨bx,hρ,lab0,hbx,hlx,H0⟩
 have h3:=H0.fr
 rw[hB] at h3
 obtain ⟨⟨t,hf⟩,_⟩:=h3
 have hfo:=hf.obj
 have bld2:∀a b:Int,fillA [AV.v (.int .i64 0),AV.v (.int .i64 0)] [(0,1),(1,1)] [AV.v (.int .i64 a),AV.v (.int .i64 b)]=some (aSt (a,b)):=fun a b=>by simp[fillA,AV.cells,Value.cells,setAtA,aSt]
 refine Q1 (fun ε σ'=>(ε 0=.ref ib 0 0∧ε 1=.ref i 0 0∧ε 5=.ref bx 0 0)∧∃lab',σ'[bx]?=some (.obj 0 (aMk m))∧lab' bx=(0,0)∧BR σ' lab' ib il vl { B with fs:={ F with row:=F.row++[(F.sg,F.now)] }::G::fs } (i::j::is)) ?_ ?_
 ·intro N X R hN
  push_cast (disch:=omega)[hρ,hfo,frC_7,frC_6a,XJ,bld2]
  refine Qf (sz:=2) (by intro a ha;simp at ha;subst ha;rfl) (by simp) ?_
  have hac2:∀p,(AV.agg (aSt p)).cells=aSt p:=fun _=>rfl
  push_cast (disch:=omega)[hac2]
  refine ⟨Qa (by push_cast (disch:=omega)[hfo,frC_7,hf.r.exact]),?_⟩
  refine Qs (m:=1) rfl hf.r rfl rfl rfl (Qy Z1 _) (by omega) (by omega) ?_
  intro σ1 lab1 t1 k1 ht1
  have hfo1:=(k1.get hfo (by rw[hf.li];simp)).1
  obtain ⟨n1,n2⟩:=hf.tr (F':={ F with row:=F.row++[(F.sg,F.now)] }) k1 (by simpa using ht1) rfl rfl rfl
  push_cast (disch:=omega)
  refine Q6 rfl rfl hfo1 (by simp[frC]) ?_
  have e1:(frC F t).set 7 (.sl (F.row.length+1) (F.row.flatMap aSt++(aSt (F.sg,F.now)++[])) t1)=frC { F with row:=F.row++[(F.sg,F.now)] } { t with r:=t1 }:=by
   have e2:F.row.flatMap aSt++(aSt (F.sg,F.now)++[])=(F.row++[(F.sg,F.now)]).flatMap aSt:=by simp
   rw[e2]
   simp[frC]
  rw[e1]
  obtain ⟨hbx2,hlx2⟩:=n2.get hbx (by rw[hlx];simp[isF])
  have H1:=H0.setTop hB n1 n2
  push_cast (disch:=omega)
  refine hN _ _ ?_
  push_cast (disch:=omega)[hρ]
  exact ⟨lab1,hbx2,hlx2.trans hlx,H1⟩
 clear hf hfo H0 hbx hlx hρ ε
 rintro ε σ1 ⟨hρ,lab1,hbx,hlx,H1⟩
 generalize hF':({ F with row:=F.row++[(F.sg,F.now)] }:Fr)=F1 at H1
 have eF1:F1.now=F.now∧F1.lp=F.lp∧F1.it=F.it∧({ F1 with sg:=m.a }:Fr)=goFr F m:=by rw[←hF'];exact ⟨rfl,rfl,rfl,rfl⟩
 obtain ⟨e1,e2,e3,e4⟩:=eF1
 have h3:=H1.fr
 obtain ⟨⟨t,hf⟩,⟨t2,hg⟩,_⟩:=h3
 have hfo:=hf.obj
 have hgo:=hg.obj
 obtain ⟨tb,hbd⟩:=H1.bd
 have hbo:=hbd.obj
 refine Q1 (fun ε σ'=>(ε 0=.ref ib 0 0∧ε 1=.ref i 0 0∧ε 5=.ref bx 0 0∧ε 6=.sl 1 [.v (.int .i64 F.now)] .full)∧σ'=σ1) ?_ ?_
 ·intro N X R hN
  push_cast (disch:=omega)[hρ,hfo,XJ]
  refine Qf (sz:=1) (by intro a ha;simp at ha;subst ha;rfl) (by simp) ?_
  push_cast (disch:=omega)
  refine hN _ _ ?_
  push_cast (disch:=omega)[hρ,e1]
 clear hρ ε
 rintro ε τ ⟨hρ,hτ⟩
 rw[hτ]
 clear hτ τ
 refine Q1 (fun ε σ'=>(ε 0=.ref ib 0 0∧ε 1=.ref i 0 0∧ε 5=.ref bx 0 0∧ε 6=.sl 1 [.v (.int .i64 F.now)] .full∧ε 7=.ref j 0 0)∧σ'=σ1) ?_ ?_
 ·intro N X R hN
  obtain ⟨cells,hc,hcu⟩:=H1.ls.up
  have e5:((is.length:Int)+1+1 - 2).toNat=is.length:=by omega
  have e6:(i::j::is).length=is.length+1+1:=rfl
  rw[e6] at hbo
  push_cast (disch:=omega)[hρ,hbo,ZV,hc,hcu,e5]
  refine hN _ _ ?_
  push_cast (disch:=omega)[hρ]
 clear hρ ε
 rintro ε τ ⟨hρ,hτ⟩
 rw[hτ]
 clear hτ τ
 refine Q1 (fun ε σ'=>(ε 0=.ref ib 0 0∧ε 1=.ref i 0 0∧ε 5=.ref bx 0 0∧∃tt,ε 6=.sl (goPreds F G m).length ((goPreds F G m).map aInt) tt)∧∃lab2,σ'[bx]?=some (.obj 0 (aMk m))∧lab2 bx=(0,0)∧BR σ' lab2 ib il vl { B with fs:=F1::G::fs } (i::j::is)) ?_ ?_
 ·intro N X R hN
  by_cases h11:m.k=11
  ·by_cases hit:0 < F.it
   ·have hit1:0 < F1.it:=by rw[e3];exact hit
    have hgp:goPreds F G m=[F.now,lastA G.ahead m.a]:=by unfold goPreds;rw[if_pos ⟨h11,hit⟩]
    rw[hgp] at hN
    push_cast (disch:=omega)[hρ,hbx,Qo,h11,hfo,frC_5a,hit1,hgo,frC_10]
    refine XR (α:=Nat) (I:=fun n ε σ'=>(ε 0=.ref ib 0 0∧ε 1=.ref i 0 0∧ε 5=.ref bx 0 0∧ε 6=.sl 1 [.v (.int .i64 F.now)] .full∧ε 8=.v (.int .i64 (lastA (G.ahead.take n) m.a))∧ε 61=.sl G.ahead.length (G.ahead.flatMap aSt) t2.a∧ε 62=.v (.int .i64 G.ahead.length)∧ε 63=.v (.int .i64 n))∧n≤G.ahead.length ∧
      ∃lab2,σ'[bx]?=some (.obj 0 (aMk m))∧lab2 bx=(0,0)∧BR σ' lab2 ib il vl { B with fs:=F1::G::fs } (i::j::is))
     (μ:=fun n=>G.ahead.length - n) (Q:=fun ε σ'=>(ε 0=.ref ib 0 0∧ε 1=.ref i 0 0∧ε 5=.ref bx 0 0∧ε 6=.sl 1 [.v (.int .i64 F.now)] .full∧ε 8=.v (.int .i64 (lastA G.ahead m.a))) ∧
      ∃lab2,σ'[bx]?=some (.obj 0 (aMk m))∧lab2 bx=(0,0)∧BR σ' lab2 ib il vl { B with fs:=F1::G::fs } (i::j::is)) (x:=0) ?_ ?_ ?_
    ·push_cast (disch:=omega)[hρ]
     exact ⟨rfl,by omega,lab1,hbx,hlx,H1⟩
    ·clear hN hρ hbx hlx H1 hf hg hfo hgo hbd hbo hit1 ε
     rintro n ε τ N2 E2 X2 R2 ⟨hρ,hn,lab2,hbx,hlx,H1⟩ hN2 hE2
     simp only[Q15]
     by_cases hlt:n < G.ahead.length
     ·obtain ⟨e,he⟩:=Ql hlt
      have hde:=Qp Z1 he
      have hcl:∀l:List AV,cellsA (some 2) (aSt e++l)=some (.agg (aSt e)):=fun l=>by rw[Z07 _ _ (by simp[Z1])];rfl
      push_cast (disch:=omega)[hρ,hde,hcl]
      refine Qb ?_
      push_cast (disch:=omega)
      refine Q5 (Z1 e) (aSt_one e) (Qc _ _) (by simp) ?_
      have hset:setAtA [AV.v (.int .i64 0),AV.v (.int .i64 0)] 0 (aSt e)=aSt e:=rfl
      have k:=Qj (S:=fun r=>r=(0,0)) (σ:=τ) (lab:=lab2) (x:=.obj 0 (aSt e)) (0,0)
      have H2:=H1.stp k fun _ h=>h
      have hbx2:(τ++[Res.obj 0 (aSt e)])[bx]?=some (.obj 0 (aMk m)):=Q7 hbx
      have hlx2:labN τ lab2 (0,0) bx=(0,0):=by unfold labN;split;rfl;exact hlx
      have hy:(τ++[Res.obj 0 (aSt e)])[τ.length]?=some (.obj 0 (aSt e)):=Qc _ _
      have f0:(aSt e)[0]?=some (.v (.int .i64 e.1)):=rfl
      have f1:(aSt e)[1]?=some (.v (.int .i64 e.2)):=rfl
      have hls:=X92 (G.ahead.take n) e m.a
      rw[←Qe he] at hls
      have hN3:=hN2 (n+1)
      rw[hls] at hN3
      push_cast (disch:=omega)[hset]
      generalize τ++[Res.obj 0 (aSt e)]=τ2 at H2 hbx2 hy ⊢
      generalize labN τ lab2 (0,0)=lab3 at H2 hlx2
      generalize τ.length=y at hy ⊢
      by_cases hle:e.1≤m.a
      ·rw[if_pos hle] at hN3
       push_cast (disch:=omega)[hρ,hy,f0,f1,hbx2,QF,hle]
       refine hN3 _ _ ?_ (by omega)
       push_cast (disch:=omega)[hρ]
       exact ⟨by omega,lab3,hbx2,hlx2,H2⟩
      ·rw[if_neg hle] at hN3
       push_cast (disch:=omega)[hρ,hy,f0,f1,hbx2,QF,hle]
       refine hN3 _ _ ?_ (by omega)
       push_cast (disch:=omega)[hρ]
       exact ⟨by omega,lab3,hbx2,hlx2,H2⟩
     ·push_cast (disch:=omega)[hρ]
      refine hE2 _ _ ?_
      rw[List.take_of_length_le (by omega)] at hρ
      push_cast (disch:=omega)[hρ]
      exact ⟨lab2,hbx,hlx,H1⟩
    ·clear hρ hbx hlx H1 hf hg hfo hgo hbd hbo ε
     rintro ε τ ⟨hρ,lab2,hbx,hlx,H1⟩
     push_cast (disch:=omega)[hρ]
     refine Qf (sz:=1) (by intro a ha;simp at ha;subst ha;rfl) (by simp) ?_
     push_cast (disch:=omega)[hρ]
     refine QU (m:=1) rfl rfl rfl rfl rfl (by omega) (by omega) ?_
     push_cast (disch:=omega)
     refine hN _ _ ?_
     push_cast (disch:=omega)[hρ]
     exact ⟨⟨_,rfl⟩,lab2,hbx,hlx,H1⟩
   ·have hit1:¬0 < F1.it:=by rw[e3];exact hit
    have hgp:goPreds F G m=[F.now]:=by unfold goPreds;rw[if_neg (fun h=>hit h.2)]
    rw[hgp] at hN
    push_cast (disch:=omega)[hρ,hbx,Qo,h11,hfo,frC_5a,hit1]
    refine hN _ _ ?_
    push_cast (disch:=omega)[hρ]
    exact ⟨⟨_,rfl⟩,lab1,hbx,hlx,H1⟩
  ·have hgp:goPreds F G m=[F.now]:=by unfold goPreds;rw[if_neg (fun h=>h11 h.1)]
   rw[hgp] at hN
   push_cast (disch:=omega)[hρ,hbx,Qo,h11]
   refine hN _ _ ?_
   push_cast (disch:=omega)[hρ]
   exact ⟨⟨_,rfl⟩,lab1,hbx,hlx,H1⟩
 clear hρ hbx hlx H1 hf hg hfo hgo hbd hbo ε
 rintro ε σ2 ⟨⟨h0,h1,h5,tt,h6⟩,lab2,hbx,hlx,H1⟩
 have hρ:ε 0=.ref ib 0 0∧ε 1=.ref i 0 0∧ε 5=.ref bx 0 0∧ε 6=.sl (goPreds F G m).length ((goPreds F G m).map aInt) tt:=⟨h0,h1,h5,h6⟩
 clear h0 h1 h5 h6
 refine Q1 (fun ε σ'=>(ε 0=.ref ib 0 0∧ε 1=.ref i 0 0∧ε 6=.sl (goPreds F G m).length ((goPreds F G m).map aInt) tt)∧∃lab3,BR σ' lab3 ib il vl { B with fs:=goFr F m::G::fs } (i::j::is)) ?_ ?_
 ·intro N X R hN
  obtain ⟨⟨t,hf⟩,_⟩:=H1.fr
  have hfo:=hf.obj
  obtain ⟨n1,n2⟩:=hf.put (F':=goFr F m) (by rw[←e4]) (by rw[←e4]) (by rw[←e4]) (by rw[←e4])
  have H2:=H1.setTop rfl n1 n2
  push_cast (disch:=omega)[hρ,hbx,QF]
  refine Q6 rfl rfl hfo (by simp[frC]) ?_
  have e5:(frC F1 t).set (4+2) (.v (.int .i64 m.a))=frC (goFr F m) t:=by rw[←e4];rfl
  rw[e5]
  push_cast (disch:=omega)
  refine hN _ _ ?_
  push_cast (disch:=omega)[hρ]
  exact ⟨lab2,H2⟩
 clear hρ hbx hlx H1 ε
 rintro ε σ3 ⟨hρ,lab3,H1⟩
 obtain ⟨⟨t,hf⟩,_⟩:=H1.fr
 have hfo:=hf.obj
 have hcl:cellsA (some 3) ((frC (goFr F m) t).drop 4)=some (.agg (aNd (F.lp,F.it,m.a))):=rfl
 push_cast (disch:=omega)[hρ,hfo,hcl]
 refine Qi [] [false,false,true] (Z58 H1 hb.p hb.n (F.lp,F.it,m.a) (goPreds F G m)) ?_ ?_
 ·exact weak3 _ _ _ _ _
 rintro a σ4 ⟨rfl,lab4,H4,_⟩
 have h4:=H4.fr
 rw[Q33] at h4
 obtain ⟨⟨t',hf'⟩,_⟩:=h4
 have hfo':=hf'.obj
 obtain ⟨n1,n2⟩:=hf'.put (F':={ goFr F m with now:=(({ B with fs:=goFr F m::G::fs }:Bd).begin (F.lp,F.it,m.a) (goPreds F G m)).1 }) rfl rfl rfl rfl
 have H5:=H4.setTop (Q33 _ _ _) n1 n2
 push_cast (disch:=omega)
 refine Q6 rfl rfl hfo' (by simp[frC]) ?_
 have e5:∀x,(frC (goFr F m) t').set 2 (aInt x)=frC { goFr F m with now:=x } t':=fun _=>rfl
 rw[e5]
 push_cast (disch:=omega)
 exact ⟨lab4,H5⟩
end
section
def nilT:Tk:=⟨.nil,.nil,.nil,.nil⟩
theorem LsAt.len {σ:St} {lab:Nat→Role} {il vl:Nat} {is:List Nat} {cells:List AV} (h:cells.take is.length=(is.map fun i=>AV.ref i 0 0).reverse):is.length≤cells.length:=by
 have:=congrArg List.length h
 rw[List.length_take,List.length_reverse,List.length_map] at this
 omega
theorem BR.push {σ:St} {lab:Nat→Role} {ib il vl:Nat} {B:Bd} {is:List Nat} {cells:List AV} {t:Tb} (H:BR σ lab ib il vl B is) (hd:BdAt σ lab ib B t (.ms il vl 0 is.length 1)) (hc:σ[il]?=some (.obj vl cells)) (ht:cells.take is.length=(is.map fun i=>AV.ref i 0 0).reverse)
  (N:Fr) (hl:N.left=[]) (hr:N.row=[]) (ha:N.ahead=[]) (hs:N.lasts=[]):
  BR (((σ++[Res.obj 0 (frC N nilT)]).set il (.obj (vl+1) (cells.take is.length++[.ref σ.length 0 0]))).set ib (.obj 0 (bdC B t (.ms il (vl+1) 0 (is.length+1) 1)))) (labN σ lab (6,is.length)) ib il (vl+1) { B with fs:=N::B.fs } (σ.length::is) ∧
   ((σ++[Res.obj 0 (frC N nilT)]).set il (.obj (vl+1) (cells.take is.length++[.ref σ.length 0 0])))[ib]?=some (.obj 0 (bdC B t (.ms il vl 0 is.length 1))):=by
 have k1:=Qj (S:=fun _=>False) (σ:=σ) (lab:=lab) (x:=.obj 0 (frC N nilT)) (6,is.length)
 have hd1:=hd.stp k1 fun _ _ h=>h
 have hl1:=H.ls.stp k1 id
 have hkp:=H.kp.stp k1 id
 have hf1:=H.fr.stp k1 fun _ _ _ _ h=>h
 have hn:FrAt (σ++[Res.obj 0 (frC N nilT)]) (labN σ lab (6,is.length)) is.length σ.length N nilT:=
  ⟨Qc _ _,Qq _ _ _,by rw[hl];exact TokOk.nil,by rw[hr];exact TokOk.nil,by rw[ha];exact TokOk.nil,by rw[hs];exact TokOk.nil⟩
 have hc1:(σ++[Res.obj 0 (frC N nilT)])[il]?=some (.obj vl cells):=Q7 hc
 generalize hS:σ++[Res.obj 0 (frC N nilT)]=σ1 at *
 generalize labN σ lab (6,is.length)=lab1 at *
 generalize σ.length=y at *
 have k2:=Qx (σ:=σ1) (x:=.obj (vl+1) (cells.take is.length++[.ref y 0 0])) hl1.li
 obtain ⟨ho2,hi2⟩:=k2.get hd1.obj (by rw[hd1.li];simp)
 have hg2:(σ1.set il (.obj (vl+1) (cells.take is.length++[.ref y 0 0])))[il]?=some (.obj (vl+1) (cells.take is.length++[.ref y 0 0])):=Q4 hc1
 have k3:=Qx (σ:=σ1.set il (.obj (vl+1) (cells.take is.length++[.ref y 0 0]))) (x:=.obj 0 (bdC B t (.ms il (vl+1) 0 (is.length+1) 1))) (hi2.trans hd1.li)
 refine ⟨⟨⟨t,Q4 ho2,hd1.li,(hd1.p.stp k2 (by simp)).stp k3 (by simp),(hd1.n.stp k2 (by simp)).stp k3 (by simp),(hd1.a.stp k2 (by simp)).stp k3 (by simp)⟩,?_,?_,(hkp.stp k2 (by simp)).stp k3 (by simp)⟩,ho2⟩
 ·obtain ⟨a,b⟩:=k3.get hg2 (by rw[hl1.li];simp)
  refine ⟨⟨_,a,?_⟩,hl1.li⟩
  have hlen:=LsAt.len (σ:=σ) (lab:=lab) (il:=il) (vl:=vl) ht
  rw[List.take_of_length_le (by simp;omega),ht]
  simp
 ·refine ⟨⟨nilT,(hn.stp k2 fun q hq=>?_).stp k3 fun q hq=>?_⟩,(hf1.stp k2 fun q d hq _=>?_).stp k3 fun q d hq _=>?_⟩<;>(intro e;have:=congrArg Prod.fst e;simp only at this;omega)
def iterFr (F:Fr) (now:Int):Fr:=⟨2,false,now,[],F.ser,F.cnt,0,[],0,0,[],[]⟩
def iterB (B:Bd) (F:Fr) (fs:List Fr):Bd:=
 let r:=({ B with fs:={ F with cnt:=F.cnt+1 }::fs }:Bd).begin (F.ser,F.cnt,0) [if 0 < F.cnt then (F.ahead.headD (0,0)).2 else F.now]
 { r.2 with fs:=iterFr F r.1::{ F with cnt:=F.cnt+1 }::fs }
set_option maxHeartbeats 2000000 in
theorem iterate_a {σ:St} {lab:Nat→Role} {ib il vl i:Nat} {B:Bd} {is:List Nat} {F:Fr} {fs:List Fr} (H:BR σ lab ib il vl B (i::is)) (hB:B.fs=F::fs) (hb:Bnd B) (ha:0 < F.cnt→F.ahead≠[]):
  FnG Tryz.prog 71 [.ref ib 0 0,.ref i 0 0] σ fun _ σ'=>∃lab' y,BR σ' lab' ib il (vl+1) (iterB B F fs) (y::i::is):=by
 refine Qk ZU mixed rfl ?_
 simp only[Q14]
 obtain ⟨_,_,hF3,_,hF5⟩:=hb.s F (by rw[hB];simp)
 have hfl:=hb.f
 have hisl:=H.fr.len
 rw[hB] at hfl hisl
 simp only[List.length_cons] at hfl hisl
 have h3:=H.fr
 rw[hB] at h3
 obtain ⟨⟨t,hf⟩,_⟩:=h3
 have hfo:=hf.obj
 generalize hpe:(if 0 < F.cnt then (F.ahead.headD (0,0)).2 else F.now)=pred
 refine Q1 (fun ε σ'=>(ε 0=.ref ib 0 0∧ε 1=.ref i 0 0∧ε 4=.v (.int .i64 F.now))∧σ'=σ) ?_ ?_
 ·intro N X R hN
  simp (maxSteps:=999999) -implicitDefEqProofs (disch:=omega) only[push_cast,↓reduceIte,Nat.reduceEqDiff,reduceCtorEq,wz,hfo,XJ]
  refine hN _ _ ?_
  simp (maxSteps:=999999) -implicitDefEqProofs (disch:=omega) only[push_cast,↓reduceIte,Nat.reduceEqDiff,reduceCtorEq,wz]
 rintro ε τ ⟨hρ,hτ⟩
 rw[hτ]
 clear hτ τ
 refine Q1 (fun ε σ'=>(ε 0=.ref ib 0 0∧ε 1=.ref i 0 0∧ε 4=.v (.int .i64 pred))∧σ'=σ) ?_ ?_
 ·intro N X R hN
  by_cases hc:0 < F.cnt
  ·rw[if_pos hc] at hpe
   have hc':(0:Int) < (F.cnt:Int):=by omega
   have hane:=ha hc
   cases hah:F.ahead with
   | nil=>exact absurd hah hane
   | cons e l=>
    rw[hah] at hpe
    have hpe:e.2=pred:=hpe
    have hd:List.drop (Int.toNat 0 * 2) (F.ahead.flatMap aSt)=aSt e++l.flatMap aSt:=by rw[hah];rfl
    have hlen:(0:Int) < (F.ahead.length:Int):=by rw[hah];simp
    have g1:∀l:List AV,(aSt e++l)[1]?=some (.v (.int .i64 e.2)):=fun _=>rfl
    simp (maxSteps:=999999) -implicitDefEqProofs (disch:=omega) only[push_cast,↓reduceIte,Nat.reduceEqDiff,reduceCtorEq,wz,hρ,hfo,Yy,hc',frC_10,hlen,hd,g1,hpe]
    refine hN _ _ ?_
    simp (maxSteps:=999999) -implicitDefEqProofs (disch:=omega) only[push_cast,↓reduceIte,Nat.reduceEqDiff,reduceCtorEq,wz,hρ]
  ·rw[if_neg hc] at hpe
   have hc':¬(0:Int) < (F.cnt:Int):=by omega
   simp (maxSteps:=999999) -implicitDefEqProofs (disch:=omega) only[push_cast,↓reduceIte,Nat.reduceEqDiff,reduceCtorEq,wz,hρ,hfo,Yy,hc']
   refine hN _ _ ?_
   simp (maxSteps:=999999) -implicitDefEqProofs (disch:=omega) only[push_cast,↓reduceIte,Nat.reduceEqDiff,reduceCtorEq,wz,hρ,hpe]
 clear hρ ε
 rintro ε τ ⟨hρ,hτ⟩
 rw[hτ]
 clear hτ τ
 refine Q1 (fun ε σ'=>∃nx,(ε 0=.ref ib 0 0∧ε 1=.ref i 0 0∧ε 4=.v (.int .i64 pred)∧ε 5=.ref nx 0 0)∧∃lab',σ'[nx]?=some (.obj 0 (aNd (F.ser,F.cnt,0)))∧lab' nx=(0,0)∧BR σ' lab' ib il vl B (i::is)) ?_ ?_
 ·intro N X R hN
  have bld3:∀a b c:Int,fillA [AV.v (.int .i64 0),AV.v (.int .i64 0),AV.v (.int .i64 0)] [(0,1),(1,1),(2,1)] [AV.v (.int .i64 a),AV.v (.int .i64 b),AV.v (.int .i64 c)]=some (aNd (a,b,c)):=fun a b c=>by simp[fillA,AV.cells,Value.cells,setAtA,aNd]
  simp (maxSteps:=999999) -implicitDefEqProofs (disch:=omega) only[push_cast,↓reduceIte,Nat.reduceEqDiff,reduceCtorEq,wz,hρ,hfo,frC_8,Yy,bld3]
  refine Qb ?_
  have hz:(List.map abs1 [Value.int .i64 0,Value.int .i64 0,Value.int .i64 0])=aNd (0,0,0):=rfl
  rw[hz]
  have hfo1:(σ++[Res.obj 0 (aNd (0,0,0))])[i]?=some (.obj 0 (frC F t)):=Q7 hfo
  have hex:∀n:Int,(AV.v (.int .i64 n)).exact=true:=fun _=>rfl
  simp (maxSteps:=999999) -implicitDefEqProofs (disch:=omega) only[push_cast,↓reduceIte,Nat.reduceEqDiff,reduceCtorEq,wz]
  refine ⟨Qa (by simp (maxSteps:=999999) -implicitDefEqProofs (disch:=omega) only[push_cast,↓reduceIte,Nat.reduceEqDiff,reduceCtorEq,wz,hfo1,Yy,hex]),Qa (by simp (maxSteps:=999999) -implicitDefEqProofs (disch:=omega) only[push_cast,↓reduceIte,Nat.reduceEqDiff,reduceCtorEq,wz,hfo1,frC_8,hex]),?_⟩
  refine Q5 (Z43 _) (aNd_one _) (Qc _ _) (by simp[Z43]) ?_
  have hset:setAtA (aNd (0,0,0)) 0 (aNd (F.ser,F.cnt,0))=aNd (F.ser,F.cnt,0):=rfl
  have H1:=H.stp (Qj (S:=fun r=>r=(0,0)) (x:=.obj 0 (aNd (F.ser,F.cnt,0))) (0,0)) fun _ h=>h
  simp (maxSteps:=999999) -implicitDefEqProofs (disch:=omega) only[push_cast,↓reduceIte,Nat.reduceEqDiff,reduceCtorEq,wz,hset]
  refine hN _ _ ⟨σ.length,?_,_,Qc _ _,Qq _ _ _,H1⟩
  simp (maxSteps:=999999) -implicitDefEqProofs (disch:=omega) only[push_cast,↓reduceIte,Nat.reduceEqDiff,reduceCtorEq,wz,hρ]
 clear hρ H hf hfo ε
 rintro ε σ1 ⟨nx,hρ,lab1,hnx,hlx,H⟩
 refine Q1 (fun ε σ'=>(ε 0=.ref ib 0 0∧ε 4=.v (.int .i64 pred)∧ε 5=.ref nx 0 0)∧∃lab',σ'[nx]?=some (.obj 0 (aNd (F.ser,F.cnt,0)))∧lab' nx=(0,0)∧BR σ' lab' ib il vl { B with fs:={ F with cnt:=F.cnt+1 }::fs } (i::is)) ?_ ?_
 ·intro N X R hN
  have h3:=H.fr
  rw[hB] at h3
  obtain ⟨⟨t,hf⟩,_⟩:=h3
  have hfo:=hf.obj
  obtain ⟨n1,n2⟩:=hf.put (F':={ F with cnt:=F.cnt+1 }) rfl rfl rfl rfl
  have H2:=H.setTop hB n1 n2
  obtain ⟨hnx2,hlx2⟩:=n2.get hnx (by rw[hlx];simp[isF])
  simp (maxSteps:=999999) -implicitDefEqProofs (disch:=omega) only[push_cast,↓reduceIte,Nat.reduceEqDiff,reduceCtorEq,wz,hρ,hfo,Yy]
  refine Q6 rfl rfl hfo (by simp[frC]) ?_
  have e5:(frC F t).set 9 (.v (.int .i64 ((F.cnt:Int)+1)))=frC { F with cnt:=F.cnt+1 } t:=rfl
  rw[e5]
  simp (maxSteps:=999999) -implicitDefEqProofs (disch:=omega) only[push_cast,↓reduceIte,Nat.reduceEqDiff,reduceCtorEq,wz]
  refine hN _ _ ?_
  simp (maxSteps:=999999) -implicitDefEqProofs (disch:=omega) only[push_cast,↓reduceIte,Nat.reduceEqDiff,reduceCtorEq,wz,hρ]
  exact ⟨lab1,hnx2,hlx2.trans hlx,H2⟩
 clear hρ H hnx hlx ε
 rintro ε σ2 ⟨hρ,lab2,hnx,hlx,H⟩
 obtain ⟨tb,hd⟩:=H.bd
 have hdo:=hd.obj
 have hcl:∀n,cellsA (some 3) (aNd n)=some (.agg (aNd n)):=fun _=>rfl
 have hex3:∀n,(AV.agg (aNd n)).exact=true:=fun _=>rfl
 have hexm:∀n,(AV.ms il vl 0 n 1).exact=true:=fun _=>rfl
 simp (maxSteps:=999999) -implicitDefEqProofs (disch:=omega) only[push_cast,↓reduceIte,Nat.reduceEqDiff,reduceCtorEq,wz,hρ,hdo,ZV,hnx,hcl]
 refine Qf (sz:=1) (by intro a ha;simp at ha;subst ha;rfl) (by simp) ?_
 simp (maxSteps:=999999) -implicitDefEqProofs (disch:=omega) only[push_cast,↓reduceIte,Nat.reduceEqDiff,reduceCtorEq,wz,hρ]
 refine ⟨Qa (by simp (maxSteps:=999999) -implicitDefEqProofs (disch:=omega) only[push_cast,↓reduceIte,Nat.reduceEqDiff,reduceCtorEq,wz,hρ,hnx,hcl,hex3]),Qa (by simp (maxSteps:=999999) -implicitDefEqProofs (disch:=omega) only[push_cast,↓reduceIte,Nat.reduceEqDiff,reduceCtorEq,wz,hρ,hnx,hcl,hex3]),Qa (by simp (maxSteps:=999999) -implicitDefEqProofs (disch:=omega) only[push_cast,↓reduceIte,Nat.reduceEqDiff,reduceCtorEq,wz,hρ,hdo,ZV,hexm]),?_⟩
 refine Qi [] [false,false,true] (Z58 H hb.p hb.n (F.ser,F.cnt,0) [pred]) (weak3 _ _ _ [pred] _) ?_
 rintro a σ3 ⟨rfl,lab3,H3,k3⟩
 obtain ⟨hnx3,hlx3⟩:=k3.get hnx (by rw[hlx];simp[isB])
 obtain ⟨tb3,hd3⟩:=H3.bd
 have hdo3:=hd3.obj
 have hn3:(i::is).length=is.length+1:=rfl
 rw[hn3] at hdo3
 simp (maxSteps:=999999) -implicitDefEqProofs (disch:=omega) only[push_cast,↓reduceIte,Nat.reduceEqDiff,reduceCtorEq,wz,hρ]
 refine ⟨Qa (by simp (maxSteps:=999999) -implicitDefEqProofs (disch:=omega) only[push_cast,↓reduceIte,Nat.reduceEqDiff,reduceCtorEq,wz,hρ,hnx3,hcl,hex3]),Qa (by simp (maxSteps:=999999) -implicitDefEqProofs (disch:=omega) only[push_cast,↓reduceIte,Nat.reduceEqDiff,reduceCtorEq,wz,hρ,hdo3,ZV,hexm]),?_⟩
 generalize hr:({ B with fs:={ F with cnt:=F.cnt+1 }::fs }:Bd).begin (F.ser,F.cnt,0) [pred]=r at H3 hd3 hdo3
 have hit:iterB B F fs={ r.2 with fs:=iterFr F r.1::r.2.fs }:=by
  unfold iterB
  rw[hpe,hr]
  have:=Q33 ({ B with fs:={ F with cnt:=F.cnt+1 }::fs }:Bd) (F.ser,F.cnt,0) [pred]
  rw[hr] at this
  simp only[this]
 rw[hit]
 have hbld:∀s,fillA [AV.v (.int .i64 0),AV.v (.bool false),AV.v (.int .i64 0),AV.sl 0 [] Tok.nil,AV.v (.int .i64 0),AV.v (.int .i64 0),AV.v (.int .i64 0),AV.sl 0 [] Tok.nil,AV.v (.int .i64 0),AV.v (.int .i64 0),AV.sl 0 [] Tok.nil,AV.sl 0 [] Tok.nil]
   [(0,1),(4,3),(2,1)] [AV.v (.int .i64 2),AV.agg (aNd (F.ser,F.cnt,0)),aInt s]=some (frC (iterFr F s) nilT):=fun s=>by simp[fillA,AV.cells,Value.cells,setAtA,aNd,aInt,frC,iterFr,nilT]
 simp (maxSteps:=999999) -implicitDefEqProofs (disch:=omega) only[push_cast,↓reduceIte,Nat.reduceEqDiff,reduceCtorEq,wz,hbld]
 refine Qd ?_
 obtain ⟨cells,hc,htk⟩:=H3.ls.obj
 obtain ⟨hP,hibP⟩:=H3.push hd3 hc htk (iterFr F r.1) rfl rfl rfl rfl
 rw[hn3] at hP hibP
 have hcc:(AV.agg (frC (iterFr F r.1) nilT)).cells=frC (iterFr F r.1) nilT:=rfl
 have hdo4:(σ3++[Res.obj 0 (frC (iterFr F r.1) nilT)])[ib]?=some (.obj 0 (bdC r.2 tb3 (.ms il vl 0 (is.length+1) 1))):=Q7 hdo3
 have hc4:(σ3++[Res.obj 0 (frC (iterFr F r.1) nilT)])[il]?=some (.obj vl cells):=Q7 hc
 rw[hcc]
 simp (maxSteps:=999999) -implicitDefEqProofs (disch:=omega) only[push_cast,↓reduceIte,Nat.reduceEqDiff,reduceCtorEq,wz]
 refine ⟨Qa (by simp (maxSteps:=999999) -implicitDefEqProofs (disch:=omega) only[push_cast,↓reduceIte,Nat.reduceEqDiff,reduceCtorEq,wz,hρ,hdo4,ZV,hexm]),?_⟩
 refine Qf (sz:=1) (by intro a ha;simp at ha;subst ha;rfl) (by simp) ?_
 simp (maxSteps:=999999) -implicitDefEqProofs (disch:=omega) only[push_cast,↓reduceIte,Nat.reduceEqDiff,reduceCtorEq,wz]
 refine ⟨Qa (by simp (maxSteps:=999999) -implicitDefEqProofs (disch:=omega) only[push_cast,↓reduceIte,Nat.reduceEqDiff,reduceCtorEq,wz,hρ,hdo4,ZV,hexm]),?_⟩
 refine ZF (m:=1) rfl rfl rfl rfl (by have:=LsAt.len (σ:=σ3) (lab:=lab3) (il:=il) (vl:=vl) htk;rw[hn3] at this;omega) (by omega) (by omega) hc4 ?_
 simp (maxSteps:=999999) -implicitDefEqProofs (disch:=omega) only[push_cast,↓reduceIte,Nat.reduceEqDiff,reduceCtorEq,wz,hρ]
 refine Q6 rfl rfl hibP (by simp[bdC]) ?_
 have e5:(bdC r.2 tb3 (.ms il vl 0 (is.length+1) 1)).set 3 (.ms il (vl+1) 0 (is.length+1+1) 1)=bdC r.2 tb3 (.ms il (vl+1) 0 (is.length+1+1) 1):=rfl
 rw[e5]
 simp (maxSteps:=999999) -implicitDefEqProofs (disch:=omega) only[push_cast,↓reduceIte,Nat.reduceEqDiff,reduceCtorEq,wz]
 exact ⟨_,_,hP⟩
end
section
def isG (d:Nat) (r:Role):Prop:=d≤r.2∧6≤r.1
theorem BR.setTopG {σ σ':St} {lab lab':Nat→Role} {ib il vl i:Nat} {B:Bd} {is:List Nat} {F F':Fr} {fs:List Fr} {t:Tk} (H:BR σ lab ib il vl B (i::is)) (hB:B.fs=F::fs) (h:FrAt σ' lab' is.length i F' t) (k:Stp (isG is.length) σ lab σ' lab'):
  BR σ' lab' ib il vl { B with fs:=F'::fs } (i::is):=by
 obtain ⟨⟨tb,h1⟩,h2,h3,h5⟩:=H
 rw[hB] at h3
 have m:=h1.stp k (fun q hq e=>by have:=e.2;simp only at this;omega)
 exact ⟨⟨tb,m.obj,m.li,m.p,m.n,m.a⟩,h2.stp k (fun e=>by have:=e.2;simp only at this;omega),⟨⟨t,h⟩,h3.2.stp k fun q d hq hd e=>by have:=e.1;simp only at this;omega⟩,h5.stp k (fun e=>by have:=e.2;simp only at this;omega)⟩
theorem TokOk.relabel {σ:St} {lab:Nat→Role} {r r':Role} {t:Tok} {n sz:Nat} (h:TokOk σ lab r t n sz):∃lab',TokOk σ lab' r' t n sz∧Stp (·=r) σ lab σ lab':=by
 rcases h with h|⟨j,w,h1,h2,h3⟩
 ·exact ⟨lab,.inl h,Stp.refl⟩
 ·refine ⟨fun k=>if k=j then r' else lab k,.inr ⟨j,w,h1,h2,if_pos rfl⟩,Nat.le_refl _,fun k _ hk=>⟨rfl,?_⟩⟩
  rw[if_neg]
  rintro rfl
  exact hk h3
theorem FrAt.taG {σ σ1:St} {lab lab1:Nat→Role} {d i:Nat} {F F':Fr} {t:Tk} {t1:Tok} (h:FrAt σ lab d i F t) (k:Stp (·=(8,d+1)) σ lab σ1 lab1) (ht:TokOk σ1 lab1 (9,d) t1 F'.ahead.length 2) (hl:F'.left=F.left) (hr:F'.row=F.row) (hs:F'.lasts=F.lasts):
  FrAt (σ1.set i (.obj 0 (frC F' { t with a:=t1 }))) lab1 d i F' { t with a:=t1 }∧Stp (isG d) σ lab (σ1.set i (.obj 0 (frC F' { t with a:=t1 }))) lab1:=by
 obtain ⟨a,b⟩:=k.get h.obj (by rw[h.li];simp)
 have hli:=b.trans h.li
 have k2:=Qx (σ:=σ1) (x:=.obj 0 (frC F' { t with a:=t1 })) hli
 exact ⟨⟨Q4 a,hli,by rw[hl];exact (h.l.stp k (by simp)).stp k2 (by simp),by rw[hr];exact (h.r.stp k (by simp)).stp k2 (by simp),ht.stp k2 (by simp),by rw[hs];exact (h.s.stp k (by simp)).stp k2 (by simp)⟩,
  k.trans k2 (fun r e=>by subst e;exact ⟨by simp,by simp⟩) fun r e=>by subst e;exact ⟨by simp,by simp⟩⟩
def doneB (B:Bd) (F G:Fr) (fs:List Fr):Bd:={ B with fs:={ G with ahead:=F.row++[(F.sg,F.now)],lasts:=G.lasts++[F.now] }::fs }
theorem bldS (a b:Int):fillA [AV.v (.int .i64 0),AV.v (.int .i64 0)] [(0,1),(1,1)] [AV.v (.int .i64 a),AV.v (.int .i64 b)]=some (aSt (a,b)):=by simp[fillA,AV.cells,Value.cells,setAtA,aSt]
set_option maxHeartbeats 2000000 in
theorem done_a {σ:St} {lab:Nat→Role} {ib il vl i j:Nat} {B:Bd} {is:List Nat} {F G:Fr} {fs:List Fr} (H:BR σ lab ib il vl B (i::j::is)) (hB:B.fs=F::G::fs) (hb:Bnd B):
  FnG Tryz.prog 73 [.ref ib 0 0,.ref i 0 0] σ fun _ σ'=>∃lab',BR σ' lab' ib il vl (doneB B F G fs) (j::is):=by
 refine Qk Z42 mixed rfl ?_
 simp only[Q60]
 obtain ⟨_,hF2,_,_,_⟩:=hb.s F (by rw[hB];simp)
 obtain ⟨_,_,_,hG4,_⟩:=hb.s G (by rw[hB];simp)
 have hfl:=hb.f
 have hisl:=H.fr.len
 rw[hB] at hfl hisl
 simp only[List.length_cons] at hfl hisl
 have h3:=H.fr
 rw[hB] at h3
 obtain ⟨⟨t,hf⟩,_⟩:=h3
 refine Q1 (fun ε σ'=>(ε 0=.ref ib 0 0∧ε 1=.ref i 0 0)∧FrAt σ' lab (is.length+1) i F t∧BR σ' lab ib il vl { B with fs:=G::fs } (j::is)) ?_ ?_
 ·intro N X R hN
  push_cast (disch:=omega)
  refine Q2 (pop_a H (by simp only[List.length_cons];omega) hB) ?_
  rintro a σ1 ⟨rfl,H1,k⟩
  have hf1:=hf.stp k (fun q hq=>by simp)
  push_cast (disch:=omega)
  refine hN _ _ ?_
  push_cast (disch:=omega)
  exact ⟨hf1,H1⟩
 clear H hf
 rintro ε σ1 ⟨hρ,hf,H⟩
 refine Q1 (fun ε σ'=>(ε 1=.ref i 0 0∧ε 4=.ref j 0 0)∧FrAt σ' lab (is.length+1) i F t∧BR σ' lab ib il vl { B with fs:=G::fs } (j::is)) ?_ ?_
 ·intro N X R hN
  push_cast (disch:=omega)[hρ]
  refine Q2 (top_a H (by omega)) ?_
  rintro a _ ⟨rfl,rfl⟩
  push_cast (disch:=omega)
  refine hN _ _ ?_
  push_cast (disch:=omega)[hρ]
  exact ⟨hf,H⟩
 clear hf H hρ ε
 rintro ε σ1 ⟨hρ,hf,H⟩
 have hfo:=hf.obj
 obtain ⟨⟨t2,hg⟩,_⟩:=H.fr
 have hgo:=hg.obj
 refine Q1 (fun ε σ'=>(ε 1=.ref i 0 0∧ε 4=.ref j 0 0)∧∃lab',σ'[i]?=some (.obj 0 (frC F t))∧lab' i=(6,is.length+1)∧BR σ' lab' ib il vl { B with fs:={ G with ahead:=F.row++[(F.sg,F.now)] }::fs } (j::is)) ?_ ?_
 ·intro N X R hN
  push_cast (disch:=omega)[hρ,hfo,frC_7,frC_6a,XJ,bldS]
  refine Qf (sz:=2) (by intro a ha;simp at ha;subst ha;rfl) (by simp) ?_
  have hac2:∀p,(AV.agg (aSt p)).cells=aSt p:=fun _=>rfl
  push_cast (disch:=omega)[hac2]
  refine ⟨Qa (by push_cast (disch:=omega)[hfo,frC_7,hf.r.exact]),?_⟩
  refine Qs (m:=1) rfl hf.r rfl rfl rfl (Qy Z1 _) (by omega) (by omega) ?_
  intro σ2 lab2 t1 k1 ht1
  obtain ⟨lab3,ht3,k3⟩:=ht1.relabel (r':=(9,is.length))
  have k:=k1.trans k3 (U:=(·=(8,is.length+1))) (fun _ h=>h) fun _ h=>h
  have hgo1:=(k.get hgo (by rw[hg.li];simp)).1
  obtain ⟨hfo1,hfi1⟩:=k.get hfo (by rw[hf.li];simp)
  obtain ⟨n1,n2⟩:=hg.taG (F':={ G with ahead:=F.row++[(F.sg,F.now)] }) k (by simpa using ht3) rfl rfl rfl
  have H2:=H.setTopG rfl n1 n2
  have hne:j≠i:=by
   rintro rfl
   have:=hf.li
   rw[hg.li] at this
   simp at this
  push_cast (disch:=omega)
  refine Q6 rfl rfl hgo1 (by simp[frC]) ?_
  have e1:(frC G t2).set 10 (.sl (F.row.length+1) (F.row.flatMap aSt++(aSt (F.sg,F.now)++[])) t1)=frC { G with ahead:=F.row++[(F.sg,F.now)] } { t2 with a:=t1 }:=by
   have e2:F.row.flatMap aSt++(aSt (F.sg,F.now)++[])=(F.row++[(F.sg,F.now)]).flatMap aSt:=by simp
   rw[e2]
   simp[frC]
  rw[e1]
  push_cast (disch:=omega)
  refine hN _ _ ?_
  push_cast (disch:=omega)[hρ]
  exact ⟨lab3,Q0 hne hfo1,hfi1.trans hf.li,H2⟩
 clear hf H hρ hfo hg hgo t2 ε
 rintro ε σ2 ⟨hρ,lab2,hfo,hfi,H⟩
 obtain ⟨⟨t2,hg⟩,_⟩:=H.fr
 have hgo:=hg.obj
 push_cast (disch:=omega)[hρ,hgo,frC_11,hfo,XJ]
 refine Qf (sz:=1) (by intro a ha;simp at ha;subst ha;rfl) (by simp) ?_
 push_cast (disch:=omega)
 refine ⟨Qa (by push_cast (disch:=omega)[hgo,frC_11,hg.s.exact]),?_⟩
 refine Qs (m:=1) rfl hg.s rfl rfl rfl (by simp) (by omega) (by omega) ?_
 intro σ3 lab3 t1 k1 ht1
 have hgo1:=(k1.get hgo (by rw[hg.li];simp)).1
 obtain ⟨n1,n2⟩:=hg.ts (F':={ G with ahead:=F.row++[(F.sg,F.now)],lasts:=G.lasts++[F.now] }) k1 (by simpa using ht1) rfl rfl rfl
 have H2:=H.setTop rfl n1 n2
 push_cast (disch:=omega)
 refine Q6 rfl rfl hgo1 (by simp[frC]) ?_
 have e1:(frC { G with ahead:=F.row++[(F.sg,F.now)] } t2).set 11 (.sl (G.lasts.length+1) (G.lasts.map aInt++[.v (.int .i64 F.now)]) t1)=frC { G with ahead:=F.row++[(F.sg,F.now)],lasts:=G.lasts++[F.now] } { t2 with s:=t1 }:=by
  simp[frC,aInt]
 rw[e1]
 push_cast (disch:=omega)
 exact ⟨lab3,H2⟩
def accOf (F:Fr) (m:Mk):Ac:=⟨F.now,if m.k=3 then -1 else m.a,decide (m.k≠1)⟩
theorem BR.setBd {σ σ':St} {lab lab':Nat→Role} {ib il vl:Nat} {B B':Bd} {is:List Nat} {t:Tb} (H:BR σ lab ib il vl B is) (h:BdAt σ' lab' ib B' t (.ms il vl 0 is.length 1)) (hf:B'.fs=B.fs) (k:Stp isB σ lab σ' lab'):BR σ' lab' ib il vl B' is:=
 ⟨⟨t,h⟩,H.ls.stp k (by simp[isB]),by rw[hf];exact isB_frs H.fr k,H.kp.stp k (by simp[isB])⟩
set_option maxHeartbeats 2000000 in
theorem access_a {σ:St} {lab:Nat→Role} {ib il vl i:Nat} {B:Bd} {is:List Nat} {F:Fr} {fs:List Fr} (H:BR σ lab ib il vl B (i::is)) (hB:B.fs=F::fs) (hb:Bnd B) (m:Mk):
  FnG Tryz.prog 74 [.ref ib 0 0,.ref i 0 0,.agg (aMk m)] σ fun _ σ'=>∃lab',BR σ' lab' ib il vl { B with accs:=B.accs++[accOf F m] } (i::is):=by
 refine Qk Z17 mixed rfl ?_
 simp only[Q32]
 have hba:=hb.a
 have h3:=H.fr
 rw[hB] at h3
 obtain ⟨⟨t,hf⟩,_⟩:=h3
 have hfo:=hf.obj
 clear hf
 refine Q1 (fun ε σ'=>∃bx,(ε 0=.ref ib 0 0∧ε 1=.ref i 0 0∧ε 5=.ref bx 0 0)∧∃lab',σ'[bx]?=some (.obj 0 (aMk m))∧lab' bx=(0,0)∧σ'[i]?=some (.obj 0 (frC F t))∧BR σ' lab' ib il vl B (i::is)) ?_ ?_
 ·intro N X R hN
  push_cast (disch:=omega)
  refine Qd ?_
  have hac:(AV.agg (aMk m)).cells=aMk m:=rfl
  have H0:=H.stp (Qj (S:=fun r=>r=(0,0)) (x:=.obj 0 (aMk m)) (0,0)) fun _ h=>h
  rw[hac]
  push_cast (disch:=omega)
  refine hN _ _ ⟨σ.length,?_,_,Qc _ _,Qq _ _ _,Q7 hfo,H0⟩
  push_cast (disch:=omega)
 clear H hfo
 rintro ε σ0 ⟨bx,hρ,lab0,hbx,hlx,hfo,H⟩
 have hcl:∀n,cellsA (some 3) (aAc n)=some (.agg (aAc n)):=fun _=>rfl
 refine Q1 (fun ε σ'=>∃ax,(ε 0=.ref ib 0 0∧ε 5=.ref bx 0 0∧ε 6=.ref ax 0 0)∧∃lab',σ'[bx]?=some (.obj 0 (aMk m))∧σ'[ax]?=some (.obj 0 (aAc ⟨F.now,m.a,decide (m.k≠1)⟩))∧lab' ax=(0,0)∧BR σ' lab' ib il vl B (i::is)) ?_ ?_
 ·intro N X R hN
  have bld3:∀(a b:Int) (c:Bool),fillA [AV.v (.int .i64 0),AV.v (.int .i64 0),AV.v (.bool false)] [(0,1),(1,1),(2,1)] [AV.v (.int .i64 a),AV.v (.int .i64 b),AV.v (.bool c)]=some (aAc ⟨a,b,c⟩):=fun a b c=>by simp[fillA,AV.cells,Value.cells,setAtA,aAc]
  have hex:∀n:Int,(AV.v (.int .i64 n)).exact=true:=fun _=>rfl
  have hz:(List.map abs1 [Value.int .i64 0,Value.int .i64 0,Value.bool false])=aAc ⟨0,0,false⟩:=rfl
  have hfo1:∀x,(σ0++[x])[i]?=some (.obj 0 (frC F t)):=fun x=>Q7 hfo
  have hbx1:∀x,(σ0++[x])[bx]?=some (.obj 0 (aMk m)):=fun x=>Q7 hbx
  have hset:∀a,setAtA (aAc ⟨0,0,false⟩) 0 (aAc a)=aAc a:=fun _=>rfl
  by_cases hk:m.k=1
  ·have hk':decide (m.k≠1)=false:=by simp[hk]
   rw[hk'] at hN
   push_cast (disch:=omega)[hρ,hfo,XJ,hbx,Qo,QF,hk,bld3]
   refine Qb ?_
   rw[hz]
   push_cast (disch:=omega)
   refine ⟨Qa (by push_cast (disch:=omega)[hbx1,Qo,hex,hk]),Qa (by push_cast (disch:=omega)[hbx1,QF,hex]),Qa (by push_cast (disch:=omega)[hfo1,XJ,hex]),?_⟩
   refine Q5 (Qt _) (Z2 _) (Qc _ _) (by simp[Qt]) ?_
   have H1:=H.stp (Qj (S:=fun r=>r=(0,0)) (x:=.obj 0 (aAc ⟨F.now,m.a,false⟩)) (0,0)) fun _ h=>h
   push_cast (disch:=omega)[hset]
   refine hN _ _ ⟨σ0.length,?_,_,hbx1 _,Qc _ _,Qq _ _ _,H1⟩
   push_cast (disch:=omega)[hρ]
  ·have hk':decide (m.k≠1)=true:=by simp[hk]
   rw[hk'] at hN
   push_cast (disch:=omega)[hρ,hfo,XJ,hbx,Qo,QF,hk,bld3]
   refine Qb ?_
   rw[hz]
   push_cast (disch:=omega)
   refine ⟨Qa (by push_cast (disch:=omega)[hbx1,Qo,hex]),Qa (by push_cast (disch:=omega)[hbx1,QF,hex]),Qa (by push_cast (disch:=omega)[hfo1,XJ,hex]),?_⟩
   refine Q5 (Qt _) (Z2 _) (Qc _ _) (by simp[Qt]) ?_
   have H1:=H.stp (Qj (S:=fun r=>r=(0,0)) (x:=.obj 0 (aAc ⟨F.now,m.a,true⟩)) (0,0)) fun _ h=>h
   push_cast (disch:=omega)[hset]
   refine hN _ _ ⟨σ0.length,?_,_,hbx1 _,Qc _ _,Qq _ _ _,H1⟩
   push_cast (disch:=omega)[hρ]
 clear H hρ hfo hbx ε
 rintro ε σ1 ⟨ax,hρ,lab1,hbx,hax,hlx1,H⟩
 refine Q1 (fun ε σ'=>(ε 0=.ref ib 0 0∧ε 6=.ref ax 0 0)∧∃lab',σ'[ax]?=some (.obj 0 (aAc (accOf F m)))∧lab' ax=(0,0)∧BR σ' lab' ib il vl B (i::is)) ?_ ?_
 ·intro N X R hN
  by_cases hk:m.k=3
  ·have hao:accOf F m=⟨F.now,-1,decide (m.k≠1)⟩:=by unfold accOf;rw[if_pos hk]
   push_cast (disch:=omega)[hρ,hbx,Qo,hk]
   refine Q6 rfl rfl hax (by simp[aAc]) ?_
   have e1:(aAc ⟨F.now,m.a,decide (m.k≠1)⟩).set 1 (.v (.int .i64 (-1)))=aAc (accOf F m):=by rw[hao];rfl
   rw[e1]
   have k:=Qx (σ:=σ1) (lab:=lab1) (x:=.obj 0 (aAc (accOf F m))) hlx1
   push_cast (disch:=omega)
   refine hN _ _ ?_
   push_cast (disch:=omega)[hρ]
   exact ⟨lab1,Q4 hax,hlx1,H.stp k fun r e=>e⟩
  ·have hao:accOf F m=⟨F.now,m.a,decide (m.k≠1)⟩:=by unfold accOf;rw[if_neg hk]
   push_cast (disch:=omega)[hρ,hbx,Qo,hk]
   refine hN _ _ ?_
   push_cast (disch:=omega)[hρ]
   exact ⟨lab1,by rw[hao];exact hax,hlx1,H⟩
 clear H hρ hbx hax ε
 rintro ε σ2 ⟨hρ,lab2,hax,hlx2,H⟩
 obtain ⟨tb,hd⟩:=H.bd
 have hdo:=hd.obj
 push_cast (disch:=omega)[hρ,hdo,bdC_2,hax,hcl]
 refine Qf (sz:=3) (by intro a ha;simp at ha;subst ha;rfl) (by simp) ?_
 have hac2:∀p,(AV.agg (aAc p)).cells=aAc p:=fun _=>rfl
 push_cast (disch:=omega)[hac2]
 refine ⟨Qa (by push_cast (disch:=omega)[hdo,bdC_2,hd.a.exact]),?_⟩
 refine Qs (m:=1) rfl hd.a rfl rfl rfl (Qy Qt _) (by omega) (by omega) ?_
 intro σ3 lab3 t3 k3 ht3
 have hdo3:=(k3.get hdo (by rw[hd.li];simp)).1
 obtain ⟨n1,n2⟩:=hd.accs k3 (accOf F m) ht3
 have H3:=H.setBd n1 rfl n2
 push_cast (disch:=omega)
 refine Q6 rfl rfl hdo3 (by simp[bdC]) ?_
 have hn3:(i::is).length=is.length+1:=rfl
 have e3:∀ms,(bdC B tb ms).set 2 (.sl (B.accs.length+1) (B.accs.flatMap aAc++(aAc (accOf F m)++[])) t3)=bdC { B with accs:=B.accs++[accOf F m] } { tb with a:=t3 } ms:=by
  intro ms
  have e2:B.accs.flatMap aAc++(aAc (accOf F m)++[])=(B.accs++[accOf F m]).flatMap aAc:=by simp
  rw[e2]
  simp[bdC]
 rw[e3]
 push_cast (disch:=omega)
 exact ⟨lab3,H3⟩
end
section
def taskFr (now:Int):Fr:=⟨1,true,now,[],0,0,0,[],0,0,[],[]⟩
def loopFr (s now:Int):Fr:=⟨3,false,now,[],0,0,0,[],s,0,[],[]⟩
def forkB (B:Bd) (F:Fr):Bd:=let r:=B.begin (0,0,0) [F.now];{ r.2 with fs:=taskFr r.1::r.2.fs }
def retB (B:Bd) (F G:Fr) (fs:List Fr):Bd:=
 let r:=({ B with fs:={ G with left:=G.left++[F.now] }::fs }:Bd).begin G.node [G.now]
 { r.2 with fs:={ G with left:=G.left++[F.now],now:=r.1 }::fs }
def meetB (B:Bd) (F:Fr) (fs:List Fr):Bd:=let r:=B.begin F.node (F.now::F.left);{ r.2 with fs:={ F with now:=r.1,left:=[] }::fs }
def loopB (B:Bd) (F:Fr) (m:Mk):Bd:={ B with fs:=loopFr m.a F.now::B.fs }
def leaveB (B:Bd) (F G:Fr) (fs:List Fr):Bd:=let r:=({ B with fs:=G::fs }:Bd).begin G.node F.lasts;{ r.2 with fs:={ G with now:=r.1 }::fs }
def onUp (B:Bd) (f:Fr→List Fr→Bd):List Fr→Bd
 | G::fs=>f G fs
 | []=>B
def stepF (B:Bd) (m:Mk) (F:Fr) (fs:List Fr):Bd:=
 if m.k=4 then forkB B F
 else if m.k=5 then onUp B (retB B F) fs
 else if m.k=6 then meetB B F fs
 else if m.k=7 then loopB B F m
 else if m.k=9 then iterB B F fs
 else if m.k=11∨m.k=12 then onUp B (fun G fs=>goOnB B F G fs m) fs
 else if m.k=10 then onUp B (doneB B F) fs
 else if m.k=8 then onUp B (leaveB B F) fs
 else { B with accs:=B.accs++[accOf F m] }
theorem bldF1 (s:Int):fillA [AV.v (.int .i64 0),AV.v (.bool false),AV.v (.int .i64 0),AV.sl 0 [] Tok.nil,AV.v (.int .i64 0),AV.v (.int .i64 0),AV.v (.int .i64 0),AV.sl 0 [] Tok.nil,AV.v (.int .i64 0),AV.v (.int .i64 0),AV.sl 0 [] Tok.nil,AV.sl 0 [] Tok.nil]
  [(0,1),(1,1),(2,1)] [AV.v (.int .i64 1),AV.v (.bool true),aInt s]=some (frC (taskFr s) nilT):=by simp[fillA,AV.cells,Value.cells,setAtA,aInt,frC,taskFr,nilT]
theorem bldF3 (a s:Int):fillA [AV.v (.int .i64 0),AV.v (.bool false),AV.v (.int .i64 0),AV.sl 0 [] Tok.nil,AV.v (.int .i64 0),AV.v (.int .i64 0),AV.v (.int .i64 0),AV.sl 0 [] Tok.nil,AV.v (.int .i64 0),AV.v (.int .i64 0),AV.sl 0 [] Tok.nil,AV.sl 0 [] Tok.nil]
  [(0,1),(8,1),(2,1)] [AV.v (.int .i64 3),AV.v (.int .i64 a),AV.v (.int .i64 s)]=some (frC (loopFr a s) nilT):=by simp[fillA,AV.cells,Value.cells,setAtA,frC,loopFr,nilT]
theorem cell3 (n:Nd):cellsA (some 3) (aNd n)=some (.agg (aNd n)):=rfl
theorem cell3m (m:Mk):cellsA (some 3) (aMk m)=some (.agg (aMk m)):=rfl
theorem cell3f (F:Fr) (t:Tk):cellsA (some 3) ((frC F t).drop 4)=some (.agg (aNd F.node)):=rfl
theorem ex_nd (n:Nd):(AV.agg (aNd n)).exact=true:=rfl
theorem X75 (i v o n:Nat):(AV.ms i v o n 1).exact=true:=rfl
theorem weakC (σ:St) (x:Int) (l:List Int) (t:Tok):weak σ [true] [.sl 2 [.sl 1 [.v (.int .i64 x)] .full,.sl l.length (l.map aInt) t] .full]=[aInts2 [[x],l]]:=by
 simp only[weak,if_true]
 have e1:(AV.sl 2 [.sl 1 [.v (.int .i64 x)] .full,.sl l.length (l.map aInt) t] .full).res σ=.sl 2 [(AV.sl 1 [.v (.int .i64 x)] .full).res σ,(AV.sl l.length (l.map aInt) t).res σ] .none:=by simp[AV.res,AV.resL]
 rw[e1,Zz (Z50 σ) l t]
 have e2:(AV.sl 1 [.v (.int .i64 x)] .full).res σ=aInts [x]:=by simp[AV.res,AV.resL,aInts,aSl,aInt]
 rw[e2];rfl
set_option maxHeartbeats 4000000 in
theorem mark_a {σ:St} {lab:Nat→Role} {ib il vl i:Nat} {B:Bd} {is:List Nat} {F:Fr} {fs:List Fr} (H:BR σ lab ib il vl B (i::is)) (hB:B.fs=F::fs) (hb:Bnd B) (m:Mk)
  (hup:m.k=5∨m.k=8∨m.k=10∨m.k=11∨m.k=12→fs≠[]) (hah:m.k=9→0 < F.cnt→F.ahead≠[]):
  FnG Tryz.prog 43 [.ref ib 0 0,.ref i 0 0,.agg (aMk m)] σ fun _ σ'=>∃lab' vl' is',BR σ' lab' ib il vl' (stepF B m F fs) is':=by
 refine Qk Z40 mixed rfl ?_
 simp only[Q58]
 obtain ⟨hF1,hF2,hF3,hF4,hF5⟩:=hb.s F (by rw[hB];simp)
 have hfl:=hb.f
 have hisl:=H.fr.len
 rw[hB] at hfl hisl
 simp only[List.length_cons] at hfl hisl
 refine Q1 (fun ε σ'=>∃bx,(ε 0=.ref ib 0 0∧ε 1=.ref i 0 0∧ε 5=.ref bx 0 0)∧∃lab',σ'[bx]?=some (.obj 0 (aMk m))∧lab' bx=(0,0)∧BR σ' lab' ib il vl B (i::is)) ?_ ?_
 ·intro N X R hN
  push_cast (disch:=omega)
  refine Qd ?_
  have hac:(AV.agg (aMk m)).cells=aMk m:=rfl
  have H0:=H.stp (Qj (S:=fun r=>r=(0,0)) (x:=.obj 0 (aMk m)) (0,0)) fun _ h=>h
  rw[hac]
  push_cast (disch:=omega)
  refine hN _ _ ⟨σ.length,?_,_,Qc _ _,Qq _ _ _,H0⟩
  push_cast (disch:=omega)
 clear H
 rintro ε σ0 ⟨bx,hρ,lab0,hbx,hlx,H⟩
 refine Q1 (fun ε σ'=>(ε 0=.ref ib 0 0∧ε 1=.ref i 0 0∧ε 5=.ref bx 0 0∧ε 9=.v (.int .i64 m.k))∧σ'=σ0) ?_ ?_
 ·intro N X R hN
  push_cast (disch:=omega)[hρ,hbx,Qo]
  refine hN _ _ ?_
  push_cast (disch:=omega)[hρ]
 clear hρ ε
 rintro ε τ ⟨hρ,hτ⟩
 rw[hτ]
 clear hτ τ
 have h3:=H.fr
 rw[hB] at h3
 obtain ⟨⟨t,hf⟩,_⟩:=h3
 have hfo:=hf.obj
 obtain ⟨tb,hd⟩:=H.bd
 have hdo:=hd.obj
 have hn3:(i::is).length=is.length+1:=rfl
 rw[hn3] at hdo
 unfold stepF
 by_cases k4:m.k=4
 ·rw[if_pos k4]
  rw[k4] at hρ
  push_cast (disch:=omega)[hρ,hdo,ZV,hfo,XJ]
  refine Qf (sz:=1) (by intro a ha;simp at ha;subst ha;rfl) (by simp) ?_
  push_cast (disch:=omega)
  refine ⟨Qa (by push_cast (disch:=omega)[hdo,ZV,X75]),?_⟩
  refine Qi [] [false,false,true] (Z58 H hb.p hb.n (0,0,0) [F.now]) (weak3 _ _ _ [F.now] _) ?_
  rintro a σ3 ⟨rfl,lab3,H3,k3⟩
  obtain ⟨tb3,hd3⟩:=H3.bd
  have hdo3:=hd3.obj
  rw[hn3] at hdo3
  unfold forkB
  generalize B.begin (0,0,0) [F.now]=r at H3 hd3 hdo3
  push_cast (disch:=omega)
  refine ⟨Qa (by push_cast (disch:=omega)[hdo3,ZV,X75]),?_⟩
  push_cast (disch:=omega)[bldF1]
  refine Qd ?_
  obtain ⟨cells,hc,htk⟩:=H3.ls.obj
  obtain ⟨hP,hibP⟩:=H3.push hd3 hc htk (taskFr r.1) rfl rfl rfl rfl
  rw[hn3] at hP hibP
  have hcc:(AV.agg (frC (taskFr r.1) nilT)).cells=frC (taskFr r.1) nilT:=rfl
  have hdo4:(σ3++[Res.obj 0 (frC (taskFr r.1) nilT)])[ib]?=some (.obj 0 (bdC r.2 tb3 (.ms il vl 0 (is.length+1) 1))):=Q7 hdo3
  have hc4:(σ3++[Res.obj 0 (frC (taskFr r.1) nilT)])[il]?=some (.obj vl cells):=Q7 hc
  rw[hcc]
  push_cast (disch:=omega)
  refine ⟨Qa (by push_cast (disch:=omega)[hρ,hdo4,ZV,X75]),?_⟩
  refine Qf (sz:=1) (by intro a ha;simp at ha;subst ha;rfl) (by simp) ?_
  push_cast (disch:=omega)
  refine ⟨Qa (by push_cast (disch:=omega)[hρ,hdo4,ZV,X75]),?_⟩
  refine ZF (m:=1) rfl rfl rfl rfl (by have:=LsAt.len (σ:=σ3) (lab:=lab0) (il:=il) (vl:=vl) htk;rw[hn3] at this;omega) (by omega) (by omega) hc4 ?_
  push_cast (disch:=omega)[hρ]
  refine Q6 rfl rfl hibP (by simp[bdC]) ?_
  have e5:(bdC r.2 tb3 (.ms il vl 0 (is.length+1) 1)).set 3 (.ms il (vl+1) 0 (is.length+1+1) 1)=bdC r.2 tb3 (.ms il (vl+1) 0 (is.length+1+1) 1):=rfl
  rw[e5]
  push_cast (disch:=omega)
  exact ⟨_,_,_,hP⟩
 rw[if_neg k4]
 by_cases k5:m.k=5
 ·rw[if_pos k5]
  rw[k5] at hρ
  cases hfs:fs with
  | nil=>exact absurd hfs (hup (.inl k5))
  | cons G gs=>
   cases his:is with
   | nil=>rw[his,hfs] at hisl;simp at hisl
   | cons j js=>
    subst hfs
    subst his
    obtain ⟨hG1,_,_,_,_⟩:=hb.s G (by rw[hB];simp)
    simp only[List.length_cons] at hfl hisl
    show act (wpA _ _ _ _ _ _ _)
    push_cast (disch:=omega)[hρ]
    refine Q2 (pop_a H (by simp only[List.length_cons];omega) hB) ?_
    rintro a σ1 ⟨rfl,H1,kk⟩
    have hf1:=hf.stp kk (fun q hq=>by simp)
    push_cast (disch:=omega)[hρ]
    refine Q2 (top_a H1 (by omega)) ?_
    rintro a _ ⟨rfl,rfl⟩
    obtain ⟨⟨t2,hg⟩,_⟩:=H1.fr
    have hgo:=hg.obj
    have hfo1:=hf1.obj
    push_cast (disch:=omega)[hρ,hgo,frC_3,hfo1,XJ]
    refine Qf (sz:=1) (by intro a ha;simp at ha;subst ha;rfl) (by simp) ?_
    push_cast (disch:=omega)
    refine ⟨Qa (by push_cast (disch:=omega)[hgo,frC_3,hg.l.exact]),?_⟩
    refine Qs (m:=1) rfl hg.l rfl rfl rfl (by simp) (by omega) (by omega) ?_
    intro σ3 lab3 t1 k1 ht1
    have hgo1:=(k1.get hgo (by rw[hg.li];simp)).1
    obtain ⟨n1,n2⟩:=hg.tl (F':={ G with left:=G.left++[F.now] }) k1 (by simpa using ht1) rfl rfl rfl
    have H2:=H1.setTop rfl n1 n2
    push_cast (disch:=omega)
    refine Q6 rfl rfl hgo1 (by simp[frC]) ?_
    have e1:(frC G t2).set 3 (.sl (G.left.length+1) (G.left.map aInt++[.v (.int .i64 F.now)]) t1)=frC { G with left:=G.left++[F.now] } { t2 with l:=t1 }:=by
     simp[frC,aInt]
    rw[e1]
    have hgo2:=n1.obj
    push_cast (disch:=omega)[hρ,hgo2,cell3f,XJ]
    refine Qf (sz:=1) (by intro a ha;simp at ha;subst ha;rfl) (by simp) ?_
    push_cast (disch:=omega)
    refine ⟨Qa (by push_cast (disch:=omega)[hgo2,cell3f,ex_nd]),?_⟩
    refine Qi [] [false,false,true] (Z58 H2 hb.p hb.n G.node [G.now]) (weak3 _ _ _ [G.now] _) ?_
    rintro a σ4 ⟨rfl,lab4,H4,_⟩
    have h4:=H4.fr
    rw[Q33] at h4
    obtain ⟨⟨t',hf'⟩,_⟩:=h4
    have hfo':=hf'.obj
    obtain ⟨q1,q2⟩:=hf'.put (F':={ G with left:=G.left++[F.now],now:=(({ B with fs:={ G with left:=G.left++[F.now] }::gs }:Bd).begin G.node [G.now]).1 }) rfl rfl rfl rfl
    have H5:=H4.setTop (Q33 _ _ _) q1 q2
    push_cast (disch:=omega)
    refine Q6 rfl rfl hfo' (by simp[frC]) ?_
    have e5:∀x,(frC { G with left:=G.left++[F.now] } t').set 2 (aInt x)=frC { G with left:=G.left++[F.now],now:=x } t':=fun _=>rfl
    rw[e5]
    push_cast (disch:=omega)
    exact ⟨_,_,_,H5⟩
 rw[if_neg k5]
 by_cases k6:m.k=6
 ·rw[if_pos k6]
  rw[k6] at hρ
  push_cast (disch:=omega)[hρ,hfo,cell3f,XJ,frC_3]
  refine Qf (sz:=1) (by intro a ha;simp at ha;subst ha;rfl) (by simp) ?_
  push_cast (disch:=omega)
  refine ⟨Qa (by push_cast (disch:=omega)[hfo,frC_3,hf.l.exact]),Qa (by push_cast (disch:=omega)[hfo,cell3f,ex_nd]),?_⟩
  refine Qf (sz:=1) (by intro a ha;simp at ha;rcases ha with rfl|rfl<;>rfl) (by simp) ?_
  push_cast (disch:=omega)
  refine ⟨Qa (by push_cast (disch:=omega)[hfo,cell3f,ex_nd]),?_⟩
  refine Q00 [] [true] (concat_a [[F.now],F.left] (by simp) (by simp;omega) (by simp)) (weakC _ _ _ _) ?_
  rintro a rfl
  rw[fzn]
  have hfl2:([[F.now],F.left]:List (List Int)).flatten=F.now::F.left:=by simp
  rw[hfl2]
  push_cast (disch:=omega)
  refine ⟨Qa (by push_cast (disch:=omega)[hfo,cell3f,ex_nd]),?_⟩
  refine Q2 (Z58 H hb.p hb.n F.node (F.now::F.left)) ?_
  rintro a σ4 ⟨rfl,lab4,H4,_⟩
  have h4:=H4.fr
  rw[Q33,hB] at h4
  obtain ⟨⟨t',hf'⟩,_⟩:=h4
  have hfo':=hf'.obj
  have hBf:(B.begin F.node (F.now::F.left)).2.fs=F::fs:=by rw[Q33,hB]
  obtain ⟨q1,q2⟩:=hf'.put (F':={ F with now:=(B.begin F.node (F.now::F.left)).1 }) rfl rfl rfl rfl
  have H5:=H4.setTop hBf q1 q2
  unfold meetB
  generalize B.begin F.node (F.now::F.left)=r at H4 H5 q1 q2 ⊢
  push_cast (disch:=omega)
  refine Q6 rfl rfl hfo' (by simp[frC]) ?_
  have e5:(frC F t').set 2 (aInt r.1)=frC { F with now:=r.1 } t':=rfl
  rw[e5]
  have hq:=q1.obj
  obtain ⟨u1,u2⟩:=q1.tl (F':={ F with now:=r.1,left:=[] }) (t1:=.nil) Stp.refl TokOk.nil rfl rfl rfl
  have H6:=H5.setTop rfl u1 u2
  push_cast (disch:=omega)[hρ]
  refine Q6 rfl rfl hq (by simp[frC]) ?_
  have e6:(frC { F with now:=r.1 } t').set 3 (.sl 0 [] .nil)=frC { F with now:=r.1,left:=[] } { t' with l:=.nil }:=rfl
  rw[e6]
  push_cast (disch:=omega)
  exact ⟨_,_,_,H6⟩
 rw[if_neg k6]
 by_cases k7:m.k=7
 ·rw[if_pos k7]
  rw[k7] at hρ
  unfold loopB
  have H3:=H
  have hd3:=hd
  have hdo3:=hdo
  push_cast (disch:=omega)[hρ,hdo,ZV,hfo,XJ,hbx,QF,bldF3]
  refine Qd ?_
  obtain ⟨cells,hc,htk⟩:=H3.ls.obj
  obtain ⟨hP,hibP⟩:=H3.push hd3 hc htk (loopFr m.a F.now) rfl rfl rfl rfl
  rw[hn3] at hP hibP
  have hcc:(AV.agg (frC (loopFr m.a F.now) nilT)).cells=frC (loopFr m.a F.now) nilT:=rfl
  have hdo4:(σ0++[Res.obj 0 (frC (loopFr m.a F.now) nilT)])[ib]?=some (.obj 0 (bdC B tb (.ms il vl 0 (is.length+1) 1))):=Q7 hdo3
  have hc4:(σ0++[Res.obj 0 (frC (loopFr m.a F.now) nilT)])[il]?=some (.obj vl cells):=Q7 hc
  rw[hcc]
  push_cast (disch:=omega)
  refine ⟨Qa (by push_cast (disch:=omega)[hρ,hdo4,ZV,X75]),?_⟩
  refine Qf (sz:=1) (by intro a ha;simp at ha;subst ha;rfl) (by simp) ?_
  push_cast (disch:=omega)
  refine ⟨Qa (by push_cast (disch:=omega)[hρ,hdo4,ZV,X75]),?_⟩
  refine ZF (m:=1) rfl rfl rfl rfl (by have:=LsAt.len (σ:=σ0) (lab:=lab0) (il:=il) (vl:=vl) htk;rw[hn3] at this;omega) (by omega) (by omega) hc4 ?_
  push_cast (disch:=omega)[hρ]
  refine Q6 rfl rfl hibP (by simp[bdC]) ?_
  have e5:(bdC B tb (.ms il vl 0 (is.length+1) 1)).set 3 (.ms il (vl+1) 0 (is.length+1+1) 1)=bdC B tb (.ms il (vl+1) 0 (is.length+1+1) 1):=rfl
  rw[e5]
  push_cast (disch:=omega)
  exact ⟨_,_,_,hP⟩
 rw[if_neg k7]
 by_cases k9:m.k=9
 ·rw[if_pos k9]
  rw[k9] at hρ
  push_cast (disch:=omega)[hρ]
  refine Q2 (iterate_a H hB hb (hah k9)) ?_
  rintro a σ1 ⟨lab1,y,H1⟩
  push_cast (disch:=omega)
  exact ⟨_,_,_,H1⟩
 rw[if_neg k9]
 by_cases k11:m.k=11∨m.k=12
 ·rw[if_pos k11]
  cases hfs:fs with
  | nil=>exact absurd hfs (hup (by rcases k11 with h|h<;>simp[h]))
  | cons G gs=>
   cases his:is with
   | nil=>rw[his,hfs] at hisl;simp at hisl
   | cons j js=>
    subst hfs
    subst his
    rcases k11 with h|h<;>rw[h] at hρ<;>(
    push_cast (disch:=omega)[hρ,hbx,cell3m]
    refine Q2 (goOn_a H hB hb m) ?_
    rintro a σ1 ⟨lab1,H1⟩
    push_cast (disch:=omega)
    exact ⟨_,_,_,H1⟩)
 rw[if_neg k11]
 have k11':¬m.k=11:=fun h=>k11 (.inl h)
 have k12':¬m.k=12:=fun h=>k11 (.inr h)
 by_cases k10:m.k=10
 ·rw[if_pos k10]
  rw[k10] at hρ
  cases hfs:fs with
  | nil=>exact absurd hfs (hup (by simp[k10]))
  | cons G gs=>
   cases his:is with
   | nil=>rw[his,hfs] at hisl;simp at hisl
   | cons j js=>
    subst hfs
    subst his
    push_cast (disch:=omega)[hρ]
    refine Q2 (done_a H hB hb) ?_
    rintro a σ1 ⟨lab1,H1⟩
    push_cast (disch:=omega)
    exact ⟨_,_,_,H1⟩
 rw[if_neg k10]
 by_cases k8:m.k=8
 ·rw[if_pos k8]
  rw[k8] at hρ
  cases hfs:fs with
  | nil=>exact absurd hfs (hup (by simp[k8]))
  | cons G gs=>
   cases his:is with
   | nil=>rw[his,hfs] at hisl;simp at hisl
   | cons j js=>
    subst hfs
    subst his
    simp only[List.length_cons] at hfl hisl
    push_cast (disch:=omega)[hρ]
    refine Q2 (pop_a H (by simp only[List.length_cons];omega) hB) ?_
    rintro a σ1 ⟨rfl,H1,kk⟩
    have hf1:=hf.stp kk (fun q hq=>by simp)
    push_cast (disch:=omega)[hρ]
    refine Q2 (top_a H1 (by omega)) ?_
    rintro a _ ⟨rfl,rfl⟩
    obtain ⟨⟨t2,hg⟩,_⟩:=H1.fr
    have hgo:=hg.obj
    have hfo1:=hf1.obj
    push_cast (disch:=omega)[hρ,hgo,cell3f,hfo1,frC_11]
    refine Qi [] [false,false,true] (Z58 H1 hb.p hb.n G.node F.lasts) (weak3 _ _ _ F.lasts _) ?_
    rintro a σ4 ⟨rfl,lab4,H4,_⟩
    have h4:=H4.fr
    rw[Q33] at h4
    obtain ⟨⟨t',hf'⟩,_⟩:=h4
    have hfo':=hf'.obj
    obtain ⟨q1,q2⟩:=hf'.put (F':={ G with now:=(({ B with fs:=G::gs }:Bd).begin G.node F.lasts).1 }) rfl rfl rfl rfl
    have H5:=H4.setTop (Q33 _ _ _) q1 q2
    push_cast (disch:=omega)
    refine Q6 rfl rfl hfo' (by simp[frC]) ?_
    have e5:∀x,(frC G t').set 2 (aInt x)=frC { G with now:=x } t':=fun _=>rfl
    rw[e5]
    push_cast (disch:=omega)
    exact ⟨_,_,_,H5⟩
 rw[if_neg k8]
 push_cast (disch:=omega)[hρ,k4,k5,k6,k7,k9,k11',k12',k10,k8,hbx,cell3m]
 refine Q2 (access_a H hB hb m) ?_
 rintro a σ1 ⟨lab1,H1⟩
 push_cast (disch:=omega)
 exact ⟨_,_,_,H1⟩
end
section
def lk (F G:Fr):Prop:=(F.kind=2∧F.child=false∧G.kind=3)∨(F.kind=1∧F.child=true∧G.kind≠3)∨(F.kind=3∧F.child=false∧G.kind≠3)
def WF:List Fr→Prop
 | []=>False
 | [F]=>F.kind=1∧F.child=false
 | F::G::fs=>lk F G∧WF (G::fs)
theorem WF.top {F F':Fr} {fs:List Fr} (h:WF (F::fs)) (h1:F'.kind=F.kind) (h2:F'.child=F.child):WF (F'::fs):=by
 cases fs with
 | nil=>exact ⟨h1.trans h.1,h2.trans h.2⟩
 | cons G fs=>exact ⟨by have:=h.1;unfold lk at this ⊢;rw[h1,h2];exact this,h.2⟩
theorem WF.up {F G:Fr} {fs:List Fr} (h:WF (F::G::fs)):WF (G::fs):=h.2
theorem WF.cons {F G:Fr} {fs:List Fr} (h:WF (G::fs)) (hl:lk F G):WF (F::G::fs):=⟨hl,h⟩
def FrN (F:Fr) (n:Nat):Prop:=F.left.length≤n∧F.row.length≤n∧F.ahead.length≤n∧F.lasts.length≤n∧F.cnt≤n
structure FsOk (fs:List Fr) (n:Nat):Prop where
 len:fs.length≤n+1
 s:∀F∈fs,FrN F n
 wf:WF fs
 top:∀F gs,fs=F::gs→F.kind=3→0 < F.cnt→F.ahead≠[]
structure CoreOk (B:Bd) (n:Nat):Prop where
 p:B.preds.length≤1000
 q:B.nodes.length=B.preds.length
 a:B.accs.length≤n
structure InvB (B:Bd) (n:Nat):Prop where
 c:CoreOk B n
 f:FsOk B.fs n
theorem FrN.mono {F:Fr} {n m:Nat} (h:FrN F n) (hm:n≤m):FrN F m:=by unfold FrN at *;omega
theorem InvB.bnd {B:Bd} {n:Nat} (h:InvB B n) (hn:n≤20000):Bnd B:=
 ⟨h.c.p,h.c.q,by have:=h.c.a;omega,by have:=h.f.len;omega,fun F hF=>by have:=h.f.s F hF;unfold FrN at this;omega⟩
theorem CoreOk.begin {B:Bd} {n k:Nat} (h:CoreOk B n) (hk:n≤k) (nd:Nd) (ps:List Int):CoreOk (B.begin nd ps).2 k:=by
 obtain ⟨h1,h2,h3⟩:=h
 unfold Bd.begin
 split
 ·exact ⟨h1,h2,by simp only;omega⟩
 ·exact ⟨by simp only[List.length_append,List.length_singleton];omega,by simp only[List.length_append,List.length_singleton];omega,by simp only;omega⟩
theorem FsOk.set {F F':Fr} {fs:List Fr} {n:Nat} (h:FsOk (F::fs) n) (h1:F'.kind=F.kind) (h2:F'.child=F.child) (hn:FrN F' (n+1)) (ht:F'.kind=3→0 < F'.cnt→F'.ahead≠[]):FsOk (F'::fs) (n+1):=
 ⟨by have:=h.len;simp only[List.length_cons] at this ⊢;omega,fun G hG=>by
  rcases List.mem_cons.1 hG with rfl|hG
  ·exact hn
  ·exact (h.s G (by simp[hG])).mono (by omega),h.wf.top h1 h2,fun G gs e=>by cases e;exact ht⟩
theorem FsOk.pop {F G G':Fr} {fs:List Fr} {n:Nat} (h:FsOk (F::G::fs) n) (h1:G'.kind=G.kind) (h2:G'.child=G.child) (hn:FrN G' (n+1)) (ht:G'.kind=3→0 < G'.cnt→G'.ahead≠[]):FsOk (G'::fs) (n+1):=
 ⟨by have:=h.len;simp only[List.length_cons] at this ⊢;omega,fun K hK=>by
  rcases List.mem_cons.1 hK with rfl|hK
  ·exact hn
  ·exact (h.s K (by simp[hK])).mono (by omega),h.wf.up.top h1 h2,fun K gs e=>by cases e;exact ht⟩
theorem FsOk.push {F F' N:Fr} {fs:List Fr} {n:Nat} (h:FsOk (F::fs) n) (h1:F'.kind=F.kind) (h2:F'.child=F.child) (hn:FrN F' (n+1)) (hl:lk N F') (hN:FrN N (n+1)) (hc:N.cnt=0):FsOk (N::F'::fs) (n+1):=
 ⟨by have:=h.len;simp only[List.length_cons] at this ⊢;omega,fun K hK=>by
  rcases List.mem_cons.1 hK with rfl|hK
  ·exact hN
  ·rcases List.mem_cons.1 hK with rfl|hK
   ·exact hn
   ·exact (h.s K (by simp[hK])).mono (by omega),(h.wf.top h1 h2).cons hl,fun K gs e=>by cases e;intro _ hp;omega⟩
theorem fits_up {B:Bd} {n:Nat} {F:Fr} {fs:List Fr} {m:Mk} (h:InvB B n) (hB:B.fs=F::fs) (hf:fitsB F m=true) (hk:m.k=5∨m.k=8∨m.k=10∨m.k=11∨m.k=12):fs≠[]:=by
 rintro rfl
 have hw:=h.f.wf
 rw[hB] at hw
 obtain ⟨h1,h2⟩:=hw
 unfold fitsB at hf
 rcases hk with k|k|k|k|k<;>simp[k,h1,h2] at hf
theorem inv_step {B:Bd} {n:Nat} {F:Fr} {fs:List Fr} {m:Mk} (h:InvB B n) (hB:B.fs=F::fs) (hf:fitsB F m=true):InvB (stepF B m F fs) (n+1):=by
 have hup:=fits_up h hB hf
 obtain ⟨hc,hfs⟩:=h
 rw[hB] at hfs
 have hFN:=hfs.s F (by simp)
 have hFN':=hFN
 unfold FrN at hFN'
 unfold fitsB at hf
 unfold stepF
 have core:∀fs',CoreOk { B with fs:=fs' } n:=fun fs'=>⟨hc.p,hc.q,hc.a⟩
 by_cases k4:m.k=4
 ·rw[if_pos k4]
  simp[k4] at hf
  refine ⟨?_,?_⟩
  ·have:=hc.begin (k:=n+1) (by omega) (0,0,0) [F.now]
   exact ⟨this.p,this.q,this.a⟩
  ·unfold forkB
   simp only[Q33,hB]
   exact hfs.push rfl rfl (hFN.mono (by omega)) (.inr (.inl ⟨rfl,rfl,hf⟩)) (by simp[FrN,taskFr]) rfl
 rw[if_neg k4]
 by_cases k5:m.k=5
 ·rw[if_pos k5]
  simp[k5] at hf
  cases hg:fs with
  | nil=>exact absurd hg (hup (.inl k5))
  | cons G gs=>
   subst hg
   have hGN:=hfs.s G (by simp)
   have hlk:=hfs.wf.1
   have hG3:G.kind≠3:=by unfold lk at hlk;rw[hf] at hlk;simp at hlk;exact hlk.2
   refine ⟨?_,?_⟩
   ·have:=(core ({ G with left:=G.left++[F.now] }::gs)).begin (k:=n+1) (by omega) G.node [G.now]
    exact ⟨this.p,this.q,this.a⟩
   ·unfold onUp retB
    refine hfs.pop rfl rfl ?_ (fun e=>absurd e hG3)
    unfold FrN at hGN ⊢
    simp only[List.length_append,List.length_singleton]
    omega
 rw[if_neg k5]
 by_cases k6:m.k=6
 ·rw[if_pos k6]
  simp[k6] at hf
  refine ⟨?_,?_⟩
  ·have:=hc.begin (k:=n+1) (by omega) F.node (F.now::F.left)
   exact ⟨this.p,this.q,this.a⟩
  ·unfold meetB
   refine hfs.set rfl rfl ?_ (fun e=>absurd e hf)
   unfold FrN
   simp only[List.length_nil]
   omega
 rw[if_neg k6]
 by_cases k7:m.k=7
 ·rw[if_pos k7]
  simp[k7] at hf
  refine ⟨⟨hc.p,hc.q,by have:=hc.a;unfold loopB;simp only;omega⟩,?_⟩
  unfold loopB
  rw[hB]
  exact hfs.push rfl rfl (hFN.mono (by omega)) (.inr (.inr ⟨rfl,rfl,hf⟩)) (by simp[FrN,loopFr]) rfl
 rw[if_neg k7]
 by_cases k9:m.k=9
 ·rw[if_pos k9]
  simp[k9] at hf
  refine ⟨?_,?_⟩
  ·have:=(core ({ F with cnt:=F.cnt+1 }::fs)).begin (k:=n+1) (by omega) (F.ser,F.cnt,0) [if 0 < F.cnt then (F.ahead.headD (0,0)).2 else F.now]
   exact ⟨this.p,this.q,this.a⟩
  ·unfold iterB
   refine hfs.push rfl rfl ?_ (.inl ⟨rfl,rfl,hf.1⟩) (by simp[FrN,iterFr]) rfl
   unfold FrN
   simp only
   omega
 rw[if_neg k9]
 by_cases k11:m.k=11∨m.k=12
 ·rw[if_pos k11]
  have hk:F.kind=2:=by rcases k11 with k|k<;>(simp[k] at hf;exact hf.1)
  cases hg:fs with
  | nil=>exact absurd hg (hup (by rcases k11 with k|k<;>simp[k]))
  | cons G gs=>
   subst hg
   refine ⟨?_,?_⟩
   ·have:=(core (goFr F m::G::gs)).begin (k:=n+1) (by omega) (F.lp,F.it,m.a) (goPreds F G m)
    exact ⟨this.p,this.q,this.a⟩
   ·unfold onUp goOnB
    refine hfs.set rfl rfl ?_ (fun e=>by rw[show F.kind=_ from e] at hk;omega)
    unfold FrN goFr
    simp only[List.length_append,List.length_singleton]
    omega
 rw[if_neg k11]
 have k11a:¬m.k=11:=fun h=>k11 (.inl h)
 have k12a:¬m.k=12:=fun h=>k11 (.inr h)
 by_cases k10:m.k=10
 ·rw[if_pos k10]
  simp[k10] at hf
  cases hg:fs with
  | nil=>exact absurd hg (hup (by simp[k10]))
  | cons G gs=>
   subst hg
   have hGN:=hfs.s G (by simp)
   refine ⟨⟨hc.p,hc.q,by have:=hc.a;unfold onUp doneB;simp only;omega⟩,?_⟩
   unfold onUp doneB
   refine hfs.pop rfl rfl ?_ (fun _ _=>by simp)
   unfold FrN at hGN ⊢
   simp only[List.length_append,List.length_singleton]
   omega
 rw[if_neg k10]
 by_cases k8:m.k=8
 ·rw[if_pos k8]
  simp[k8] at hf
  cases hg:fs with
  | nil=>exact absurd hg (hup (by simp[k8]))
  | cons G gs=>
   subst hg
   have hGN:=hfs.s G (by simp)
   have hlk:=hfs.wf.1
   have hG3:G.kind≠3:=by unfold lk at hlk;rw[hf.1.1] at hlk;simp at hlk;exact hlk.2
   refine ⟨?_,?_⟩
   ·have:=(core (G::gs)).begin (k:=n+1) (by omega) G.node F.lasts
    exact ⟨this.p,this.q,this.a⟩
   ·unfold onUp leaveB
    refine hfs.pop rfl rfl ?_ (fun e=>absurd e hG3)
    exact hGN.mono (by omega)
 rw[if_neg k8]
 simp[k9,k8,k5,k10,k11a,k12a] at hf
 refine ⟨⟨hc.p,hc.q,by have:=hc.a;simp only[List.length_append,List.length_singleton];omega⟩,?_⟩
 simp only[hB]
 exact hfs.set rfl rfl (hFN.mono (by omega)) (fun e=>absurd e hf)
def runB:Bd→List Mk→Int×Bd
 | B,[]=>(0,B)
 | B,m::l=>
  if m.k < 1∨12 < m.k then (5,B)
  else match B.fs with
   | F::fs=>if fitsB F m=true then (if (stepF B m F fs).full=true then (9,B) else runB (stepF B m F fs) l) else (4,B)
   | []=>(4,B)
def bd0:Bd:=⟨[[]],[(0,0,0)],[],[⟨1,false,0,[],0,0,0,[],0,0,[],[]⟩],false⟩
theorem inv0:InvB bd0 0:=⟨⟨by decide,rfl,by decide⟩,⟨by decide,fun F hF=>by simp[bd0] at hF;subst hF;simp[FrN],⟨rfl,rfl⟩,fun F gs e=>by simp[bd0] at e;obtain ⟨rfl,_⟩:=e;simp⟩⟩
end
section
def aMks (l:List Mk):AV:=aSlN aMk l
theorem Yt (m:Mk):AV.pureL (aMk m)=true:=by simp[aMk,AV.pureL,AV.pure]
theorem Z38 (l:List Mk):(aMks l).pure=true:=Q19 Yt l
def dagC (B:Bd):List AV:=[aInts2 B.preds,aSlN aNd B.nodes,aSlN aAc B.accs]
def noneB:Bd:=⟨[],[],[],[],false⟩
def buildR (l:List Mk):Int×Bd:=if (runB bd0 l).1=0 then (0,(runB bd0 l).2) else ((runB bd0 l).1,noneB)
def rootFr:Fr:=⟨1,false,0,[],0,0,0,[],0,0,[],[]⟩
theorem bldF0:fillA [AV.v (.int .i64 0),AV.v (.bool false),AV.v (.int .i64 0),AV.sl 0 [] Tok.nil,AV.v (.int .i64 0),AV.v (.int .i64 0),AV.v (.int .i64 0),AV.sl 0 [] Tok.nil,AV.v (.int .i64 0),AV.v (.int .i64 0),AV.sl 0 [] Tok.nil,AV.sl 0 [] Tok.nil]
  [(0,1),(2,1)] [AV.v (.int .i64 1),aInt 0]=some (frC rootFr nilT):=by simp[fillA,AV.cells,Value.cells,setAtA,aInt,frC,rootFr,nilT]
def nilB:Tb:=⟨.nil,.nil,.nil⟩
theorem len3 {α:Type} {l:List α} (h:l.length=3):∃x y z,l=[x,y,z]:=by
 match l,h with
 | [x,y,z],_=>exact ⟨x,y,z,rfl⟩
theorem cell3a (x y z:AV):cellsA (some 3) [x,y,z]=some (.agg [x,y,z]):=rfl
theorem X8 (σ:St) (n:Nd):AV.resL σ (aNd n)=aNd n:=by simp[aNd,AV.resL,AV.res]
theorem Z44 (σ:St) (c:Ac):AV.resL σ (aAc c)=aAc c:=by simp[aAc,AV.resL,AV.res]
theorem Zw (n:Nd):AV.pureL (aNd n)=true:=by simp[aNd,AV.pureL,AV.pure]
theorem Q85 (c:Ac):AV.pureL (aAc c)=true:=by simp[aAc,AV.pureL,AV.pure]
theorem dag_pure (B:Bd):(AV.agg (dagC B)).pure=true:=by
 simp only[AV.pure,dagC,AV.pureL,QL,Q19 Zw,Q19 Q85];rfl
theorem dag_res (σ:St) (B:Bd) (t:Tb):(AV.agg [.sl B.preds.length (B.preds.map aInts) t.p,.sl B.nodes.length (B.nodes.flatMap aNd) t.n,.sl B.accs.length (B.accs.flatMap aAc) t.a]).res σ=.agg (dagC B):=by
 simp only[AV.res,AV.resL]
 have e1:=Zz (Z29 σ) B.preds t.p
 have e2:=Z10 (X8 σ) B.nodes t.n
 have e3:=Z10 (Z44 σ) B.accs t.a
 simp only[AV.res] at e1 e2 e3
 rw[e1,e2,e3];rfl
theorem X60 (σ:St) (B:Bd) (t:Tb) (e:Int):∃is,(AV.res (Go.Kx.freeze is σ) (.tup [.agg [.sl B.preds.length (B.preds.map aInts) t.p,.sl B.nodes.length (B.nodes.flatMap aNd) t.n,.sl B.accs.length (B.accs.flatMap aAc) t.a],.v (.int .i64 e)])).pure=true ∧
  AV.res (Go.Kx.freeze is σ) (.tup [.agg [.sl B.preds.length (B.preds.map aInts) t.p,.sl B.nodes.length (B.nodes.flatMap aNd) t.n,.sl B.accs.length (B.accs.flatMap aAc) t.a],.v (.int .i64 e)])=.tup [.agg (dagC B),aInt e]:=
 Ya [] (dag_res _ B t) (res_v _ _) (dag_pure B) rfl rfl
set_option maxHeartbeats 4000000 in
theorem build_a (l:List Mk) (hl:l.length≤16000):FnP Tryz.prog 22 [aMks l] fun a=>a=.tup [.agg (dagC (buildR l).2),aInt (buildR l).1]:=by
 refine Qh X77 mixed rfl (by simp[AV.pureL,Z38]) ?_
 simp only[Z83]
 refine Q1 (fun ε σ=>(ε 0=aMks l∧ε 2=.ref 0 0 0∧ε 3=.v (.int .i64 0))∧σ=[.obj 0 [.sl 0 [] .nil,.sl 0 [] .nil,.sl 0 [] .nil]]) ?_ ?_
 ·intro N X R hN
  push_cast (disch:=omega)
  refine Qb ?_
  push_cast (disch:=omega)
  refine hN _ _ ?_
  push_cast (disch:=omega)
 rintro ε σ ⟨hρ,rfl⟩
 refine Q1 (fun ε σ=>(ε 0=aMks l∧ε 2=.ref 0 0 0∧ε 3=.v (.int .i64 0)∧ε 4=.ref 1 0 0)∧σ=[.obj 0 [.sl 0 [] .nil,.sl 0 [] .nil,.sl 0 [] .nil],.obj 0 (bdC noneB nilB (.sl 0 [] .nil))]) ?_ ?_
 ·intro N X R hN
  push_cast (disch:=omega)
  refine Qd ?_
  push_cast (disch:=omega)
  refine hN _ _ ?_
  push_cast (disch:=omega)[hρ]
  rfl
 clear hρ ε
 rintro ε σ ⟨hρ,rfl⟩
 refine Q1 (fun ε σ=>(ε 0=aMks l∧ε 2=.ref 0 0 0∧ε 3=.v (.int .i64 0)∧ε 4=.ref 1 0 0)∧∃lab il vl is,BR σ lab 1 il vl bd0 is) ?_ ?_
 ·intro N X R hN
  have hd0:BdAt [.obj 0 [.sl 0 [] .nil,.sl 0 [] .nil,.sl 0 [] .nil],.obj 0 (bdC noneB nilB (.sl 0 [] .nil))] (fun j=>if j=1 then (1,0) else (0,1)) 1 noneB nilB (.sl 0 [] .nil):=⟨rfl,rfl,TokOk.nil,TokOk.nil,TokOk.nil⟩
  have hk0:KP [.obj 0 [.sl 0 [] .nil,.sl 0 [] .nil,.sl 0 [] .nil],.obj 0 (bdC noneB nilB (.sl 0 [] .nil))] (fun j=>if j=1 then (1,0) else (0,1)):=⟨_,rfl,rfl,rfl⟩
  have hdo:=hd0.obj
  push_cast (disch:=omega)[hρ,ZV]
  refine Qi [] [false,false,true] (strand_g hd0 (by decide) rfl (0,0,0) []) (weak3 _ _ _ [] _) ?_
  rintro a σ1 ⟨rfl,lab1,t1,hd1,k1⟩
  have hk1:=hk0.stp k1 (by simp[isB])
  have hbeg:noneB.begin (0,0,0) []=(0,⟨[[]],[(0,0,0)],[],[],false⟩):=rfl
  rw[hbeg] at hd1 ⊢
  have hdo1:=hd1.obj
  have exn:(AV.sl 0 [] .nil).exact=true:=rfl
  push_cast (disch:=omega)
  refine ⟨Qa (by push_cast (disch:=omega)[hdo1,ZV,exn]),?_⟩
  push_cast (disch:=omega)[bldF0]
  refine Qd ?_
  have hcc:(AV.agg (frC rootFr nilT)).cells=frC rootFr nilT:=rfl
  rw[hcc]
  have k2:=Qj (S:=fun _=>False) (σ:=σ1) (lab:=lab1) (x:=.obj 0 (frC rootFr nilT)) (6,0)
  have hd2:=hd1.stp k2 fun _ _ h=>h
  have hk2:=hk1.stp k2 id
  have hdo2:=hd2.obj
  have hy:(σ1++[Res.obj 0 (frC rootFr nilT)])[σ1.length]?=some (.obj 0 (frC rootFr nilT)):=Qc _ _
  have hly:=Qq σ1 lab1 (6,0)
  push_cast (disch:=omega)
  generalize σ1++[Res.obj 0 (frC rootFr nilT)]=σ2 at k2 hd2 hk2 hdo2 hy ⊢
  generalize labN σ1 lab1 (6,0)=lab2 at k2 hd2 hk2 hly
  generalize σ1.length=y at hy hly ⊢
  refine ⟨Qa (by push_cast (disch:=omega)[hdo2,ZV,exn]),?_⟩
  refine Qf (sz:=1) (by intro a ha;simp at ha;subst ha;rfl) (by simp) ?_
  push_cast (disch:=omega)
  refine ⟨Qa (by push_cast (disch:=omega)[hdo2,ZV,exn]),?_⟩
  refine X06 (m:=1) rfl rfl rfl rfl (by omega) (by omega) (by omega) ?_
  have k3:=Qj (S:=fun _=>False) (σ:=σ2) (lab:=lab2) (x:=.obj 0 [.ref y 0 0]) (2,0)
  have hd3:=hd2.stp k3 fun _ _ h=>h
  have hk3:=hk2.stp k3 id
  have hdo3:=hd3.obj
  obtain ⟨hy3,hly3⟩:=k3.get hy id
  have hz:(σ2++[Res.obj 0 [AV.ref y 0 0]])[σ2.length]?=some (.obj 0 [.ref y 0 0]):=Qc _ _
  have hlz:=Qq σ2 lab2 (2,0)
  push_cast (disch:=omega)[hρ]
  generalize σ2++[Res.obj 0 [AV.ref y 0 0]]=σ3 at k3 hd3 hk3 hdo3 hy3 hz ⊢
  generalize labN σ2 lab2 (2,0)=lab3 at k3 hd3 hk3 hly3 hlz
  generalize σ2.length=il at hz hlz ⊢
  refine Q6 rfl rfl hdo3 (by simp[bdC]) ?_
  obtain ⟨n1,n2⟩:=hd3.put (B':=bd0) (ms':=.ms il 0 0 1 1) rfl rfl rfl
  have e3:(bdC (⟨[[]],[(0,0,0)],[],[],false⟩:Bd) t1 (.sl 0 [] .nil)).set 3 (.ms il 0 0 1 1)=bdC bd0 t1 (.ms il 0 0 1 1):=rfl
  rw[e3]
  obtain ⟨hy4,_⟩:=n2.get hy3 (by rw[hly3,hly];simp)
  obtain ⟨hz4,_⟩:=n2.get hz (by rw[hlz];simp)
  have hk4:=hk3.stp n2 (by simp)
  push_cast (disch:=omega)
  refine hN _ _ ?_
  push_cast (disch:=omega)[hρ]
  exact ⟨lab3,il,0,[y],⟨⟨t1,n1⟩,⟨⟨_,hz4,rfl⟩,hlz⟩,⟨⟨nilT,hy4,hly3.trans hly,TokOk.nil,TokOk.nil,TokOk.nil,TokOk.nil⟩,trivial⟩,hk4⟩⟩
 clear hρ ε
 rintro ε σ ⟨hρ,lab,il,vl,is,H⟩
 have hret:∀(ε':AEnv) (σ':St) (e:Int) (D:List AV),ε' 2=.ref 0 0 0→ε' 3=.v (.int .i64 e)→σ'[0]?=some (.obj 0 D)→D.length=3→True:=fun _ _ _ _ _ _ _ _=>trivial
 push_cast (disch:=omega)[hρ,aMks,aSlN]
 refine Qv (α:=Nat) (I:=fun n ε σ=>(ε 2=.ref 0 0 0∧ε 4=.ref 1 0 0∧ε 24=.sl l.length (l.flatMap aMk) .none∧ε 25=.v (.int .i64 l.length)∧ε 26=.v (.int .i64 n))∧n≤l.length ∧
   ∃lab il vl is B,BR σ lab 1 il vl B is∧InvB B n∧B.full=false∧runB bd0 l=runB B (l.drop n))
  (μ:=fun n=>l.length - n) (Q:=fun ε σ=>(ε 2=.ref 0 0 0∧ε 4=.ref 1 0 0)∧∃lab il vl is B,BR σ lab 1 il vl B is∧runB bd0 l=(0,B)) (x:=0) ?_ ?_ ?_
 ·push_cast (disch:=omega)[hρ]
  exact ⟨by omega,lab,il,vl,is,bd0,H,inv0,rfl,rfl⟩
 ·clear hρ H hret lab il vl is ε
  rintro n ε σ N E ⟨hρ,hn,lab,il,vl,is,B,H,hi,hfu,hrun⟩ hN hE
  simp only[ZT]
  by_cases hlt:n < l.length
  ·obtain ⟨m,hm⟩:=Ql hlt
   have hdm:=Qp QD hm
   have hcl:∀k:List AV,cellsA (some 3) (aMk m++k)=some (.agg (aMk m)):=fun k=>by rw[Z07 _ _ (by simp[QD])];rfl
   rw[QK hm] at hrun
   have hb:=hi.bnd (by omega)
   push_cast (disch:=omega)[hρ,hdm,hcl]
   refine Qb ?_
   push_cast (disch:=omega)
   refine Q5 (QD m) (by rfl) (Qc _ _) (by simp) ?_
   have hset:setAtA [AV.v (.int .i64 0),AV.v (.int .i64 0),AV.v (.int .i64 0)] 0 (aMk m)=aMk m:=rfl
   have H0:=H.stp (Qj (S:=fun r=>r=(0,0)) (x:=.obj 0 (aMk m)) (0,0)) fun _ h=>h
   have hmx:(σ++[Res.obj 0 (aMk m)])[σ.length]?=some (.obj 0 (aMk m)):=Qc _ _
   push_cast (disch:=omega)[hset]
   generalize σ++[Res.obj 0 (aMk m)]=σ1 at H0 hmx ⊢
   generalize labN σ lab (0,0)=lab1 at H0
   generalize σ.length=mx at hmx ⊢
   clear H
   have hfe:B.fs≠[]:=by
    intro e
    have:=hi.f.wf
    rw[e] at this
    exact this
   obtain ⟨F,fs,hB⟩:∃F fs,B.fs=F::fs:=by
    cases h:B.fs with
    | nil=>exact absurd h hfe
    | cons F fs=>exact ⟨F,fs,rfl⟩
   obtain ⟨i,js,rfl⟩:∃i js,is=i::js:=by
    have:=H0.fr.len
    rw[hB] at this
    cases is with
    | nil=>simp at this
    | cons i js=>exact ⟨i,js,rfl⟩
   simp only[runB] at hrun
   by_cases hk:m.k < 1∨12 < m.k
   ·rw[if_pos hk] at hrun
    have hbr:buildR l=(5,noneB):=by unfold buildR;rw[hrun];rfl
    rw[hbr]
    obtain ⟨cs,hc0,hc3,hc1⟩:=H0.kp
    obtain ⟨x,y,z,rfl⟩:=len3 hc3
    have hg:∀r:Res,(σ1.set 0 r)[0]?=some r:=fun r=>Q4 hc0
    by_cases hk1:m.k < 1
    ·push_cast (disch:=omega)[hρ,hmx,Qo,hk1]
     refine Q5 rfl rfl hc0 (by simp) ?_
     push_cast (disch:=omega)[hρ,hg,cell3a]
     exact X60 _ noneB nilB 5
    ·have hk2:12 < m.k:=by omega
     push_cast (disch:=omega)[hρ,hmx,Qo,hk1,hk2]
     refine Q5 rfl rfl hc0 (by simp) ?_
     push_cast (disch:=omega)[hρ,hg,cell3a]
     exact X60 _ noneB nilB 5
   ·rw[if_neg hk] at hrun
    have hk1:¬m.k < 1:=fun h=>hk (.inl h)
    have hk2:¬12 < m.k:=fun h=>hk (.inr h)
    have hjl:=H0.fr.len
    have hbf:=hb.f
    rw[hB] at hbf hjl
    simp only[List.length_cons] at hbf hjl
    push_cast (disch:=omega)[hρ,hmx,Qo,hk1,hk2]
    refine Q2 (top_a H0 (by omega)) ?_
    rintro a τ ⟨rfl,hτ⟩
    rw[hτ]
    clear hτ τ
    have h3:=H0.fr
    rw[hB] at h3
    obtain ⟨⟨t,hf⟩,_⟩:=h3
    push_cast (disch:=omega)[hmx,cell3m]
    refine Q2 (fits_a hf.obj m) ?_
    rintro a τ ⟨rfl,hτ⟩
    rw[hτ]
    clear hτ τ
    have H1:=H0.stp (Qj (S:=fun r=>r=(0,0)) (x:=.obj 0 (aMk m)) (0,0)) fun _ h=>h
    have hmx1:(σ1++[Res.obj 0 (aMk m)])[mx]?=some (.obj 0 (aMk m)):=Q7 hmx
    have hf1:=hf.stp (Qj (S:=fun _=>False) (x:=.obj 0 (aMk m)) (0,0)) fun _ _ h=>h
    generalize σ1++[Res.obj 0 (aMk m)]=σ2 at H1 hmx1 hf1 ⊢
    generalize labN σ1 lab1 (0,0)=lab2 at H1 hf1
    clear H0 hmx hf
    obtain ⟨cs,hc0,hc3,hc1⟩:=H1.kp
    obtain ⟨x,y,z,rfl⟩:=len3 hc3
    have hg:∀r:Res,(σ2.set 0 r)[0]?=some r:=fun r=>Q4 hc0
    cases hfit:fitsB F m with
    | false=>
     rw[hB] at hrun
     simp only[hfit,Bool.false_eq_true,if_false] at hrun
     have hbr:buildR l=(4,noneB):=by unfold buildR;rw[hrun];rfl
     rw[hbr]
     push_cast (disch:=omega)[aBool,hρ]
     refine Q5 rfl rfl hc0 (by simp) ?_
     push_cast (disch:=omega)[hρ,hg,cell3a]
     exact X60 _ noneB nilB 4
    | true=>
     rw[hB] at hrun
     simp only[hfit,if_true] at hrun
     have hup:=fits_up hi hB hfit
     have hst:=inv_step hi hB hfit
     have hah:m.k=9→0 < F.cnt→F.ahead≠[]:=by
      intro k9 hc
      refine hi.f.top F fs hB ?_ hc
      have:=hfit
      unfold fitsB at this
      simp[k9] at this
      exact this.1
     clear hc0 hc3 hc1 hg
     push_cast (disch:=omega)[aBool,hρ,hmx1,cell3m]
     refine Q2 (mark_a H1 hB hb m hup hah) ?_
     rintro a σ3 ⟨lab3,vl3,is3,H3⟩
     obtain ⟨tb,hd3⟩:=H3.bd
     have hdo3:=hd3.obj
     obtain ⟨cs,hc0,hc3,hc1⟩:=H3.kp
     obtain ⟨x,y,z,rfl⟩:=len3 hc3
     have hg:∀r:Res,(σ3.set 0 r)[0]?=some r:=fun r=>Q4 hc0
     cases hfu2:(stepF B m F fs).full with
     | true=>
      rw[hfu2] at hrun
      simp only[if_true] at hrun
      have hbr:buildR l=(9,noneB):=by unfold buildR;rw[hrun];rfl
      rw[hbr]
      push_cast (disch:=omega)[hρ,hdo3,bdC_4,hfu2]
      refine Q5 rfl rfl hc0 (by simp) ?_
      push_cast (disch:=omega)[hρ,hg,cell3a]
      exact X60 _ noneB nilB 9
     | false=>
      rw[hfu2] at hrun
      simp only[Bool.false_eq_true,if_false] at hrun
      push_cast (disch:=omega)[hρ,hdo3,bdC_4,hfu2]
      refine hN (n+1) _ _ ?_ (by omega)
      push_cast (disch:=omega)[hρ]
      exact ⟨by omega,lab3,il,vl3,is3,_,H3,hst,hfu2,hrun⟩
  ·push_cast (disch:=omega)[hρ]
   refine hE _ _ ?_
   push_cast (disch:=omega)[hρ]
   rw[drop_all hlt] at hrun
   exact ⟨lab,il,vl,is,B,H,hrun⟩
 ·clear hρ H hret lab il vl is ε
  rintro ε σ ⟨hρ,lab,il,vl,is,B,H,hrun⟩
  have hbr:buildR l=(0,B):=by unfold buildR;rw[hrun];rfl
  rw[hbr]
  obtain ⟨cs,hc0,hc3,hc1⟩:=H.kp
  obtain ⟨t,hd⟩:=H.bd
  have hdo:=hd.obj
  have hcd:∀ms,cellsA (some 3) (bdC B t ms)=some (.agg [.sl B.preds.length (B.preds.map aInts) t.p,.sl B.nodes.length (B.nodes.flatMap aNd) t.n,.sl B.accs.length (B.accs.flatMap aAc) t.a]):=fun _=>rfl
  push_cast (disch:=omega)[hρ,hdo,hcd]
  refine Q5 rfl rfl hc0 (by omega) ?_
  obtain ⟨x,y,z,rfl⟩:=len3 hc3
  have hg:∀r:Res,(σ.set 0 r)[0]?=some r:=fun r=>Q4 hc0
  push_cast (disch:=omega)[hρ,hg,cell3a]
  exact X60 _ B t 0
end
end Go.Proofs.YtncdnegdlkmicaaGreat.St
