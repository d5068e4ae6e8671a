/- Rxa Rxb:6-13 Rxb:37-47 Rxb:65-93 Rxc Rxd Rxe:5-72 Rxl:5-24 Rxl:159-160 Rxm Rxo:73-99 Rxi:8-8 -/
import Derived.Test.YtncdnegdlkmicaaGreatQLd
import Derived.Test.YtncdnegdlkmicaaGreatQCReach
namespace Go.Proofs.YtncdnegdlkmicaaGreat.Rx
set_option linter.unusedVariables false
set_option linter.unusedSimpArgs false
open Go Go.Kx Go.Proofs
section
theorem mixed:Tryz.prog.follows .mixedOrders=true:=by kernel_rfl
theorem QK {α:Type} {l:List α} {k:Nat} {a:α} (h:l[k]?=some a):l.drop k=a::l.drop (k+1):=by
 obtain ⟨hlt,rfl⟩:=List.getElem?_eq_some_iff.1 h
 exact List.drop_eq_getElem_cons hlt
theorem Ql {α:Type} {l:List α} {k:Nat} (h:k < l.length):∃a,l[k]?=some a:=⟨_,List.getElem?_eq_getElem h⟩
def okPs (i:Nat) (l:List Int):Bool:=l.all fun p=>decide (0≤p)&&decide (p < (i:Int))
def okB:Nat→List (List Int)→Bool
 | _,[]=>true
 | i,l::ls=>okPs i l&&okB (i+1) ls
def chk (xss:List (List Int)):Int:=if 1000 < xss.length then 9 else if okB 0 xss then 0 else 3
theorem YC (xss:List (List Int)) (hs:xss.length≤1000000) (hs2:∀l∈xss,l.length≤1000000):FnP Tryz.prog 30 [aInts2 xss] fun a=>a=aInt (chk xss):=by
 refine Qh YB mixed rfl (by simp[AV.pureL,QL]) ?_
 simp only[XK,aInts2,aSl]
 push_cast (disch:=omega)
 refine cndA_dec (fun hgt=>?_) (fun hgt=>?_)
 ·push_cast (disch:=omega)
  exact Q82 (by simp[aInt,chk,show 1000 < xss.length by omega])
 ·push_cast (disch:=omega)
  refine Qv (α:=Nat) (I:=fun k ε σ=>(ε 10=.sl xss.length (xss.map aInts) .none∧ε 11=.v (.int .i64 xss.length)∧ε 12=.v (.int .i64 k))∧k≤xss.length∧okB 0 xss=okB k (xss.drop k))
   (μ:=fun k=>xss.length - k) (Q:=fun _ _=>okB 0 xss=true) (x:=0) ?_ ?_ ?_
  ·push_cast (disch:=omega)
   omega
  ·rintro k ε σ N E ⟨hρ,hk,hok⟩ hN hE
   simp only[Z24]
   by_cases hlt:k < xss.length
   ·obtain ⟨l,hl⟩:=Ql hlt
    rw[QK hl] at hok
    have hll:=hs2 l (List.mem_of_getElem? hl)
    push_cast (disch:=omega)[hρ,hl,aInts,aSl]
    refine Qv (α:=Nat) (I:=fun j ε σ=>(ε 10=.sl xss.length (xss.map aInts) .none∧ε 11=.v (.int .i64 xss.length)∧ε 12=.v (.int .i64 k)∧ε 3=.v (.int .i64 k) ∧
      ε 17=.sl l.length (l.map aInt) .none∧ε 18=.v (.int .i64 l.length)∧ε 19=.v (.int .i64 j))∧j≤l.length∧okPs k l=okPs k (l.drop j))
     (μ:=fun j=>l.length - j) (Q:=fun ε _=>(ε 10=.sl xss.length (xss.map aInts) .none∧ε 11=.v (.int .i64 xss.length)∧ε 12=.v (.int .i64 k))∧okPs k l=true) (x:=0) ?_ ?_ ?_
    ·push_cast (disch:=omega)[hρ]
     omega
    ·rintro j ε σ N' E' ⟨hρ,hj,hps⟩ hN' hE'
     simp only[Z23]
     by_cases hjl:j < l.length
     ·obtain ⟨p,hp⟩:=Ql hjl
      rw[QK hp] at hps
      simp only[okPs,List.all_cons] at hps
      by_cases hb:0≤p∧p < (k:Int)
      ·push_cast (disch:=omega)[hρ,hp,aInt]
       refine hN' (j+1) _ _ ?_ (by omega)
       push_cast (disch:=omega)[hρ]
       refine ⟨by omega,?_⟩
       simpa[okPs,hb] using hps
      ·have hbad:okB 0 xss=false:=by
        rw[hok]
        have:okPs k l=false:=by
         unfold okPs
         rw[hps]
         simp only[Bool.and_eq_false_iff,decide_eq_false_iff_not]
         exact .inl (by omega)
        simp[okB,this]
       by_cases hb0:p < 0
       ·push_cast (disch:=omega)[hρ,hp,aInt]
        exact Q82 (by simp[aInt,chk,hbad,show ¬1000 < xss.length by omega])
       ·push_cast (disch:=omega)[hρ,hp,aInt]
        exact Q82 (by simp[aInt,chk,hbad,show ¬1000 < xss.length by omega])
     ·push_cast (disch:=omega)[hρ]
      refine hE' _ _ ?_
      push_cast (disch:=omega)[hρ]
      rw[hps,List.drop_of_length_le (by omega)]
      rfl
    ·rintro ε σ ⟨hρ,hps⟩
     push_cast (disch:=omega)[hρ]
     refine hN (k+1) _ _ ?_ (by omega)
     push_cast (disch:=omega)[hρ]
     refine ⟨by omega,?_⟩
     simpa[okB,hps] using hok
   ·push_cast (disch:=omega)[hρ]
    refine hE _ _ ?_
    rw[hok,List.drop_of_length_le (by omega)]
    rfl
  ·intro ε σ hok
   push_cast (disch:=omega)
   exact Q82 (by simp[aInt,chk,hok];omega)
end
section
end
section
theorem Q03 {α:Type} {P:List α→Prop} (h0:P []) (hs:∀xs l,P xs→P (xs++[l])) (xs:List α):P xs:=by
 have:∀n,∀xs:List α,xs.length=n→P xs:=by
  intro n
  induction n with
  | zero=>intro xs h;rw[List.eq_nil_of_length_eq_zero h];exact h0
  | succ n ih=>
   intro xs h
   have hne:xs≠[]:=by intro e;subst e;simp at h
   rw[←List.dropLast_concat_getLast hne]
   exact hs _ _ (ih _ (by simp;omega))
 exact this _ xs rfl
end
section
theorem Qe {α:Type} {l:List α} {k:Nat} {a:α} (h:l[k]?=some a):l.take (k+1)=l.take k++[a]:=by
 obtain ⟨hlt,rfl⟩:=List.getElem?_eq_some_iff.1 h
 exact List.take_succ_eq_append_getElem hlt
theorem Z7 {xss:List (List Int)}:∀{i:Nat},okB i xss=true→∀{k:Nat} {l:List Int},xss[k]?=some l→∀p∈l,0≤p∧p < ((i+k:Nat):Int):=by
 induction xss with
 | nil=>intro i _ k l h;simp at h
 | cons x xs ih=>
  intro i h k l hl p hp
  simp only[okB,Bool.and_eq_true] at h
  cases k with
  | zero=>
   simp at hl
   subst hl
   have:=h.1
   simp only[okPs,List.all_eq_true,Bool.and_eq_true,decide_eq_true_eq] at this
   simpa using this p hp
  | succ k=>
   have:=ih h.2 (by simpa using hl) p hp
   omega
theorem YD {xss:List (List Int)} (h:chk xss=0):xss.length≤1000∧okB 0 xss=true:=by
 unfold chk at h
 split at h
 ·omega
 ·split at h
  ·exact ⟨by omega,by assumption⟩
  ·omega
end
section
def aU64 (w:Nat):AV:=.v (.int .u64 (w:Int))
def aU64s (ws:List Nat):AV:=aSl aU64 ws
theorem aU64_res (σ:St) (x:Nat):(aU64 x).res σ=aU64 x:=by simp[aU64,AV.res]
theorem aU64s_res (σ:St) (xs:List Nat):(aU64s xs).res σ=aU64s xs:=Zz (aU64_res σ) xs .none
theorem aU64_pure (x:Nat):(aU64 x).pure=true:=by simp[aU64,AV.pure]
theorem aU64s_pure (xs:List Nat):(aU64s xs).pure=true:=Z49 aU64_pure xs
theorem aU64L_res (σ:St) (ws:List Nat):AV.resL σ (ws.map aU64)=ws.map aU64:=by
 rw[QB,List.map_map];exact List.map_congr_left fun x _=>aU64_res σ x
abbrev W64:Nat:=18446744073709551616
def orAt (s:List Nat) (i x:Nat):List Nat:=s.set i (orN (s.getD i 0) x)
def orK (s t:List Nat):Nat→List Nat
 | 0=>s
 | k+1=>orAt (orK s t k) k (t.getD k 0)
def addP (M:List (List Nat)) (s:List Nat) (p:Int):List Nat:=orK (orAt s (p.toNat / 64) (pow2 (p.toNat % 64))) (M.getD p.toNat []) (M.getD p.toNat []).length
def newRow (M:List (List Nat)) (i:Nat) (l:List Int):List Nat:=l.foldl (addP M) (List.replicate (i / 64+1) 0)
def mkM (xss:List (List Int)):List (List Nat):=xss.foldl (fun M l=>M++[newRow M M.length l]) []
def B64 (s:List Nat):Prop:=∀w∈s,w < 18446744073709551616
theorem B64.getD {s:List Nat} (h:B64 s) (i:Nat):s.getD i 0 < 18446744073709551616:=by
 rw[List.getD_eq_getElem?_getD]
 cases hx:s[i]? with
 | none=>simp
 | some w=>exact h w (List.mem_of_getElem? hx)
theorem orN_lt {m n:Nat} (h1:m < 18446744073709551616) (h2:n < 18446744073709551616):orN m n < 18446744073709551616:=Nat.or_lt_two_pow (n:=64) h1 h2
theorem pow2_lt {s:Nat} (h:s < 64):pow2 s < 18446744073709551616:=by
 unfold pow2
 have:(2:Nat) ^ s < 2 ^ 64:=Nat.pow_lt_pow_right (by omega) h
 simpa using this
theorem B64.orAt {s:List Nat} (h:B64 s) (i:Nat) {x:Nat} (hx:x < 18446744073709551616):B64 (orAt s i x):=by
 intro w hw
 rcases List.mem_or_eq_of_mem_set hw with hw|hw
 ·exact h w hw
 ·rw[hw];exact orN_lt (h.getD i) hx
theorem B64.orK {s t:List Nat} (h:B64 s) (ht:B64 t) (k:Nat):B64 (orK s t k):=by
 induction k with
 | zero=>exact h
 | succ k ih=>exact ih.orAt k (ht.getD k)
theorem X34 (s:List Nat) (i x:Nat):(orAt s i x).length=s.length:=by simp[orAt]
theorem orK_len (s t:List Nat) (k:Nat):(orK s t k).length=s.length:=by
 induction k with
 | zero=>rfl
 | succ k ih=>simp[orK,X34,ih]
theorem addP_len (M:List (List Nat)) (s:List Nat) (p:Int):(addP M s p).length=s.length:=by simp[addP,orK_len,X34]
theorem YE (M:List (List Nat)) (l:List Int):∀(s:List Nat),(l.foldl (addP M) s).length=s.length:=by
 induction l with
 | nil=>intro s;rfl
 | cons p l ih=>intro s;simp[ih,addP_len]
def B64s (M:List (List Nat)):Prop:=∀s∈M,B64 s
theorem B64s.getD {M:List (List Nat)} (h:B64s M) (i:Nat):B64 (M.getD i []):=by
 rw[List.getD_eq_getElem?_getD]
 cases hx:M[i]? with
 | none=>intro w hw;simp at hw
 | some w=>exact h w (List.mem_of_getElem? hx)
theorem addP_B64 {M:List (List Nat)} (hM:B64s M) {s:List Nat} (hs:B64 s) (p:Int):B64 (addP M s p):=(hs.orAt _ (pow2_lt (Nat.mod_lt _ (by omega)))).orK (hM.getD _) _
theorem row_B64 {M:List (List Nat)} (hM:B64s M) (l:List Int):∀{s:List Nat},B64 s→B64 (l.foldl (addP M) s):=by
 induction l with
 | nil=>intro s hs;exact hs
 | cons p l ih=>intro s hs;exact ih (addP_B64 hM hs p)
theorem Z60 (xss:List (List Int)) (l:List Int):mkM (xss++[l])=mkM xss++[newRow (mkM xss) (mkM xss).length l]:=by simp[mkM]
theorem Q06 (xss:List (List Int)):(mkM xss).length=xss.length:=by
 induction xss using Q03 with
 | h0=>rfl
 | hs xs l ih=>rw[Z60];simp[ih]
theorem B64_rep (n:Nat):B64 (List.replicate n 0):=by
 intro w hw
 rw[(List.mem_replicate.1 hw).2];omega
theorem mkM_B64 (xss:List (List Int)):B64s (mkM xss):=by
 induction xss using Q03 with
 | h0=>intro s hs;simp[mkM] at hs
 | hs xs l ih=>
  rw[Z60]
  intro s hs
  rcases List.mem_append.1 hs with hs|hs
  ·exact ih s hs
  ·simp only[List.mem_singleton] at hs
   subst hs
   exact row_B64 ih l (B64_rep _)
theorem mkM_at (xss:List (List Int)):∀(i:Nat) (ws:List Nat),(mkM xss)[i]?=some ws→ws.length=i / 64+1:=by
 induction xss using Q03 with
 | h0=>intro i ws h;simp[mkM] at h
 | hs xs l ih=>
  intro i ws h
  rw[Z60] at h
  by_cases hi:i < (mkM xs).length
  ·rw[List.getElem?_append_left hi] at h;exact ih i ws h
  ·rw[List.getElem?_append_right (by omega)] at h
   have:i - (mkM xs).length=0:=by have:=(List.getElem?_eq_some_iff.1 h).1;simp at this;omega
   rw[this] at h
   simp at h
   subst h
   rw[newRow,YE,List.length_replicate]
   have:i=(mkM xs).length:=by omega
   rw[this]
theorem setU {s:List Nat} {i x:Nat}:(s.map aU64).set i (.v (.int .u64 (x:Nat)))=(s.set i x).map aU64:=by rw[List.map_set];rfl
theorem div64 (a:Nat):((a:Int) / 64).toNat=a / 64:=by omega
def aReach (M:List (List Nat)):AV:=.ep [.sl M.length (M.map aU64s) .none]
theorem X65 (M:List (List Nat)):(aReach M).pure=true:=by
 have:=Z49 aU64s_pure M
 simp only[aSl] at this
 simp only[aReach,AV.pure,AV.pureL,Bool.and_true,Bool.true_and] at this ⊢
 exact this
set_option maxHeartbeats 2000000 in
theorem X66 (xss:List (List Int)) (hs:xss.length≤1000000) (hs2:∀l∈xss,l.length≤1000000):
  FnP Tryz.prog 18 [aInts2 xss] fun a=>a=if chk xss=0 then .tup [aReach (mkM xss),aInt 0] else .tup [.v (.pointer none),aInt (chk xss)]:=by
 refine Qh K_reach_New mixed rfl (by simp[AV.pureL,QL]) ?_
 simp only[X64]
 push_cast (maxSteps:=999999) (disch:=omega)
 refine Q3 (YC xss hs hs2) ?_
 rintro a rfl
 by_cases hc:chk xss=0
 ·obtain ⟨hl,hok⟩:=YD hc
  push_cast (maxSteps:=999999) (disch:=omega)[aInt,aInts2,aSl,hc]
  refine Qd ?_
  push_cast (maxSteps:=999999) (disch:=omega)[AV.cells]
  refine wpa_blg (GU.tokO (i:=0) (j:=0) 1 rfl rfl) (α:=Nat) (I:=fun k ε σ=>(ε 20=.sl xss.length (xss.map aInts) .none∧ε 21=.v (.int .i64 xss.length)∧ε 22=.v (.int .i64 k)∧ε 5=.ref 0 0 0)∧k≤xss.length ∧
    ∃w τ,σ=.obj 0 [.sl k ((mkM (xss.take k)).map aU64s) (.id 1 w 1)]::.tail w::τ)
   (μ:=fun k=>xss.length - k) (Q:=fun ε σ=>ε 5=.ref 0 0 0∧∃w τ,σ=.obj 0 [.sl xss.length ((mkM xss).map aU64s) (.id 1 w 1)]::.tail w::τ) (x:=0) ?_ ?_ ?_
  ·push_cast (maxSteps:=999999) (disch:=omega)
   exact ⟨by omega,0,[],rfl⟩
  ·rintro k ε σ N E ⟨hρ,hk,w,τ,rfl⟩ hN hE
   simp only[Z86]
   by_cases hlt:k < xss.length
   ·obtain ⟨l,hl⟩:=Ql hlt
    have hll:=hs2 l (List.mem_of_getElem? hl)
    have hMl:(mkM (xss.take k)).length=k:=by rw[Q06];simp;omega
    have hMB:=mkM_B64 (xss.take k)
    obtain ⟨Z,hZ⟩:∃Z:Nat,Z=k / 64+1:=⟨_,rfl⟩
    have hkq:((k:Int) / 64+1)=(Z:Int):=by omega
    push_cast (maxSteps:=999999) (disch:=omega)[hρ,hl,aInts,aSl,hkq]
    refine Y9 rfl (by omega) (by omega) ?_
    push_cast (maxSteps:=999999) (disch:=omega)[X23,hρ]
    refine Qv (α:=Nat) (I:=fun t ε σ=>(ε 20=.sl xss.length (xss.map aInts) .none∧ε 21=.v (.int .i64 xss.length)∧ε 22=.v (.int .i64 k)∧ε 5=.ref 0 0 0∧ε 8=.ms (τ.length+1+1) 0 0 Z 1 ∧
      ε 31=.sl l.length (l.map aInt) .none∧ε 32=.v (.int .i64 l.length)∧ε 33=.v (.int .i64 t))∧t≤l.length ∧
      σ=.obj 0 [.sl k ((mkM (xss.take k)).map aU64s) (.id 1 w 1)]::.tail w::(τ++[.obj 0 (((l.take t).foldl (addP (mkM (xss.take k))) (List.replicate Z 0)).map aU64)]))
     (μ:=fun t=>l.length - t) (Q:=fun ε σ=>(ε 20=.sl xss.length (xss.map aInts) .none∧ε 21=.v (.int .i64 xss.length)∧ε 22=.v (.int .i64 k)∧ε 5=.ref 0 0 0∧ε 8=.ms (τ.length+1+1) 0 0 Z 1) ∧
      σ=.obj 0 [.sl k ((mkM (xss.take k)).map aU64s) (.id 1 w 1)]::.tail w::(τ++[.obj 0 ((newRow (mkM (xss.take k)) k l).map aU64)])) (x:=0) ?_ ?_ ?_
    ·push_cast (maxSteps:=999999) (disch:=omega)[hρ]
     exact ⟨by omega,by simp[aU64]⟩
    ·rintro t ε σ N' E' ⟨hρ,ht,rfl⟩ hN' hE'
     simp only[Z85]
     by_cases htl:t < l.length
     ·obtain ⟨p,hp⟩:=Ql htl
      have hpk:=Z7 hok hl p (List.mem_of_getElem? hp)
      obtain ⟨q,rfl⟩:∃q:Nat,p=q:=⟨p.toNat,by omega⟩
      have hqk:q < k:=by omega
      obtain ⟨s,hsdef⟩:∃s,s=(l.take t).foldl (addP (mkM (xss.take k))) (List.replicate Z 0):=⟨_,rfl⟩
      have hsl:s.length=Z:=by rw[hsdef,YE,List.length_replicate]
      have hsB:B64 s:=by rw[hsdef];exact row_B64 hMB _ (B64_rep _)
      obtain ⟨M,hM⟩:∃M,M=mkM (xss.take k):=⟨_,rfl⟩
      rw[←hsdef,←hM]
      rw[←hM] at hMl hMB hsdef
      obtain ⟨v,hv⟩:=Ql (l:=s) (k:=q / 64) (by omega)
      obtain ⟨u,hu⟩:=Ql (l:=M) (k:=q) (by omega)
      have hv64:=hsB v (List.mem_of_getElem? hv)
      have hp64:pow2 (q % 64) < 18446744073709551616:=pow2_lt (Nat.mod_lt _ (by omega))
      have huB:=hMB u (List.mem_of_getElem? hu)
      have hul:u.length=q / 64+1:=mkM_at (xss.take k) q u (by rw[←hM];exact hu)
      push_cast (maxSteps:=999999) (disch:=omega)[hρ,hp,aInt,div64,mod64,hv,aU64]
      refine Q6 rfl rfl (by simp only[List.getElem?_cons_succ,Qc];rfl) (by simp;omega) ?_
      push_cast (maxSteps:=999999) (disch:=omega)[hρ,hu,setU,aU64s,aSl]
      have e1:orAt s (q / 64) (pow2 (q % 64))=s.set (q / 64) (orN v (pow2 (q % 64))):=by simp[orAt,List.getD_eq_getElem?_getD,hv]
      rw[←e1]
      refine Qv (α:=Nat) (I:=fun r ε σ=>(ε 20=.sl xss.length (xss.map aInts) .none∧ε 21=.v (.int .i64 xss.length)∧ε 22=.v (.int .i64 k)∧ε 5=.ref 0 0 0∧ε 8=.ms (τ.length+1+1) 0 0 Z 1 ∧
        ε 31=.sl l.length (l.map aInt) .none∧ε 32=.v (.int .i64 l.length)∧ε 33=.v (.int .i64 t)∧ε 53=.sl u.length (u.map aU64) .none∧ε 54=.v (.int .i64 u.length)∧ε 55=.v (.int .i64 r))∧r≤u.length ∧
        σ=.obj 0 [.sl k (M.map aU64s) (.id 1 w 1)]::.tail w::(τ++[.obj 0 ((orK (orAt s (q / 64) (pow2 (q % 64))) u r).map aU64)]))
       (μ:=fun r=>u.length - r) (Q:=fun ε σ=>(ε 20=.sl xss.length (xss.map aInts) .none∧ε 21=.v (.int .i64 xss.length)∧ε 22=.v (.int .i64 k)∧ε 5=.ref 0 0 0∧ε 8=.ms (τ.length+1+1) 0 0 Z 1 ∧
        ε 31=.sl l.length (l.map aInt) .none∧ε 32=.v (.int .i64 l.length)∧ε 33=.v (.int .i64 t)) ∧
        σ=.obj 0 [.sl k (M.map aU64s) (.id 1 w 1)]::.tail w::(τ++[.obj 0 ((orK (orAt s (q / 64) (pow2 (q % 64))) u u.length).map aU64)])) (x:=0) ?_ ?_ ?_
      ·push_cast (maxSteps:=999999) (disch:=omega)[hρ,orK]
       omega
      ·rintro r ε σ N3 E3 ⟨hρ,hr,rfl⟩ hN3 hE3
       simp only[Z84]
       by_cases hrl:r < u.length
       ·obtain ⟨x,hx⟩:=Ql hrl
        have hlen3:(orK (orAt s (q / 64) (pow2 (q % 64))) u r).length=Z:=by rw[orK_len,X34,hsl]
        obtain ⟨y,hy⟩:=Ql (l:=orK (orAt s (q / 64) (pow2 (q % 64))) u r) (k:=r) (by omega)
        have hx64:=huB x (List.mem_of_getElem? hx)
        have hy64:=((hsB.orAt (q / 64) hp64).orK huB r) y (List.mem_of_getElem? hy)
        push_cast (maxSteps:=999999) (disch:=omega)[hρ,hx,hy,aU64]
        refine Q6 rfl rfl (by simp only[List.getElem?_cons_succ,Qc];rfl) (by simp;omega) ?_
        push_cast (maxSteps:=999999) (disch:=omega)[hρ,setU]
        refine hN3 (r+1) _ _ ?_ (by omega)
        push_cast (maxSteps:=999999) (disch:=omega)[hρ]
        refine ⟨by omega,?_⟩
        have e2:orK (orAt s (q / 64) (pow2 (q % 64))) u (r+1)=(orK (orAt s (q / 64) (pow2 (q % 64))) u r).set r (orN y x):=by
         simp[orK,orAt,List.getD_eq_getElem?_getD,hx]
         rw[show (orK (s.set (q / 64) (orN (s[q / 64]?.getD 0) (pow2 (q % 64)))) u r)[r]?=some y from by simpa[orAt,List.getD_eq_getElem?_getD] using hy]
         rfl
        rw[e2]
       ·push_cast (maxSteps:=999999) (disch:=omega)[hρ]
        refine hE3 _ _ ?_
        push_cast (maxSteps:=999999) (disch:=omega)[hρ]
        have:r=u.length:=by omega
        subst this;rfl
      ·rintro ε σ ⟨hρ,rfl⟩
       push_cast (maxSteps:=999999) (disch:=omega)[hρ]
       refine hN' (t+1) _ _ ?_ (by omega)
       push_cast (maxSteps:=999999) (disch:=omega)[hρ]
       refine ⟨by omega,?_⟩
       have e3:addP M s (q:Int)=orK (orAt s (q / 64) (pow2 (q % 64))) u u.length:=by
        simp[addP,List.getD_eq_getElem?_getD,hu]
       rw[Qe hp,List.foldl_append,←hM,←hsdef,←e3]
       rfl
     ·push_cast (maxSteps:=999999) (disch:=omega)[hρ]
      refine hE' _ _ ?_
      push_cast (maxSteps:=999999) (disch:=omega)[hρ]
      rw[List.take_of_length_le (l:=l) (by omega),newRow,hZ]
    ·rintro ε σ ⟨hρ,rfl⟩
     push_cast (maxSteps:=999999) (disch:=omega)[hρ]
     refine wpa_frz1 (by simp only[List.getElem?_cons_succ,Qc];rfl) (aU64L_res _ _) (by simp[newRow,YE,hZ]) ?_
     refine Qf (by simp[AV.cells]) (by simp) ?_
     push_cast (maxSteps:=999999) (disch:=omega)[hρ]
     refine Z08 rfl rfl rfl rfl (by simp[hMl]) (by omega) (by omega) rfl ?_
     push_cast (maxSteps:=999999) (disch:=omega)[hρ]
     refine Q6 rfl rfl rfl (by simp) ?_
     push_cast (maxSteps:=999999) (disch:=omega)[hρ]
     refine hN (k+1) _ _ ?_ (by omega)
     push_cast (maxSteps:=999999) (disch:=omega)[hρ]
     refine ⟨by omega,w+1,τ++[.frz 0 ((newRow (mkM (xss.take k)) k l).map aU64)],?_⟩
     rw[Qe hl,Z60,List.map_append,hMl]
     have:(newRow (mkM (xss.take k)) k l).length=Z:=by rw[newRow,YE,List.length_replicate,hZ]
     simp[aU64s,aSl,this]
   ·push_cast (maxSteps:=999999) (disch:=omega)[hρ]
    refine hE _ _ ?_
    push_cast (maxSteps:=999999) (disch:=omega)[hρ]
    have:k=xss.length:=by omega
    subst this
    rw[List.take_length]
    exact ⟨w,τ,rfl⟩
  ·rintro ε σ ⟨hρ,w,τ,rfl⟩
   push_cast (maxSteps:=999999) (disch:=omega)[hρ]
   refine Ya [0] (c:=aReach (mkM xss)) (d:=aInt 0) ?_ (by simp[AV.res,aInt]) (X65 _) (Qr 0) rfl
   have:=Zz (aU64s_res (.obj 0 [.sl xss.length ((mkM xss).map aU64s) (.id 1 w 1)]::.tail w::τ)) (mkM xss) (.id 1 w 1)
   rw[Q06] at this
   simp[Go.Kx.freeze,freeze1,AV.res,AV.resL,aReach,Q06] at this ⊢
   simp[AV.res,aSl,Q06] at this ⊢
   exact this
 ·push_cast (maxSteps:=999999) (disch:=omega)[aInt,hc]
  exact fin_vv rfl
end
section
def aR:Option (List (List Nat))→AV
 | none=>.v (.pointer none)
 | some M=>aReach M
theorem YF (o:Option (List (List Nat))):(aR o).pure=true:=by
 cases o with
 | none=>rfl
 | some M=>exact X65 M
def lenR:Option (List (List Nat))→Nat
 | none=>0
 | some M=>M.length
def inR (o:Option (List (List Nat))) (n:Int):Bool:=decide (0≤n)&&decide (n < (lenR o:Int))
def bitR (o:Option (List (List Nat))) (a b:Int):Bool:=(((o.getD []).getD b.toNat []).getD (a.toNat / 64) 0).testBit (a.toNat % 64)
def befR (o:Option (List (List Nat))) (a b:Int):Bool:=inR o a&&inR o b&&decide (a < b)&&bitR o a b
def aparR (o:Option (List (List Nat))) (a b:Int):Bool:=inR o a&&inR o b&&decide (a≠b)&&!befR o a b&&!befR o b a
def wfR (o:Option (List (List Nat))):Prop:=lenR o≤1000000∧∀(i:Nat) (ws:List Nat),(o.getD [])[i]?=some ws→ws.length=i / 64+1
theorem Len_a (o:Option (List (List Nat))):FnP Tryz.prog 19 [aR o] fun a=>a=aInt (lenR o):=by
 refine Qh X03 mixed rfl (by simp[AV.pureL,YF]) ?_
 simp only[Z01]
 cases o with
 | none=>
  push_cast (disch:=omega)[aR,Option.isNone_none]
  exact Q82 rfl
 | some M=>
  push_cast (disch:=omega)[aR,aReach]
  exact Q82 rfl
theorem is_a (o:Option (List (List Nat))) (n:Int):FnP Tryz.prog 31 [aR o,aInt n] fun a=>a=aBool (inR o n):=by
 refine Qh X18 mixed rfl (by simp[AV.pureL,YF,aInt,AV.pure]) ?_
 simp only[Z25]
 by_cases h0:0≤n
 ·push_cast (disch:=omega)[aInt]
  refine Q3 (Len_a o) ?_
  rintro a rfl
  push_cast (disch:=omega)[aInt]
  exact Q82 (by simp[aBool,inR,h0])
 ·push_cast (disch:=omega)[aInt]
  exact Q82 (by simp[aBool,inR,h0])
theorem Before_a (o:Option (List (List Nat))) (ho:wfR o) (a b:Int):FnP Tryz.prog 32 [aR o,aInt a,aInt b] fun r=>r=aBool (befR o a b):=by
 refine Qh Z72 mixed rfl (by simp[AV.pureL,YF,aInt,AV.pure]) ?_
 simp only[Q76]
 push_cast (maxSteps:=999999) -implicitDefEqProofs (disch:=omega)
 refine Q3 (is_a o a) ?_
 rintro x rfl
 cases ha:inR o a with
 | false=>
  push_cast (maxSteps:=999999) -implicitDefEqProofs (disch:=omega)[aBool]
  exact Q82 (by simp[befR,ha,aBool])
 | true=>
  push_cast (maxSteps:=999999) -implicitDefEqProofs (disch:=omega)[aBool]
  refine Q3 (is_a o b) ?_
  rintro x rfl
  cases hb:inR o b with
  | false=>
   push_cast (maxSteps:=999999) -implicitDefEqProofs (disch:=omega)[aBool]
   exact Q82 (by simp[befR,ha,hb,aBool])
  | true=>
   by_cases hab:a < b
   ·have ha':=ha
    have hb':=hb
    simp only[inR,Bool.and_eq_true,decide_eq_true_eq] at ha' hb'
    cases o with
    | none=>simp[lenR] at ha';omega
    | some M=>
     simp only[lenR] at ha' hb'
     obtain ⟨p,rfl⟩:∃p:Nat,a=p:=⟨a.toNat,by omega⟩
     obtain ⟨q,rfl⟩:∃q:Nat,b=q:=⟨b.toNat,by omega⟩
     obtain ⟨ws,hws⟩:=Ql (l:=M) (k:=q) (by omega)
     have hwl:=ho.2 q ws hws
     have hlim:=ho.1
     simp only[lenR] at hlim
     obtain ⟨w,hw⟩:=Ql (l:=ws) (k:=p / 64) (by omega)
     push_cast (maxSteps:=999999) -implicitDefEqProofs (disch:=omega)[aBool,aInt,aR,aReach,hws,aU64s,aSl,div64,hw,aU64]
     refine Q82 ?_
     rw[mod64,bit_spec]
     simp[befR,ha,hb,aBool,bitR,List.getD_eq_getElem?_getD,hws,hw]
     omega
   ·push_cast (maxSteps:=999999) -implicitDefEqProofs (disch:=omega)[aBool,aInt]
    exact Q82 (by simp[befR,aBool,hab])
theorem Apart_a (o:Option (List (List Nat))) (ho:wfR o) (a b:Int):FnP Tryz.prog 20 [aR o,aInt a,aInt b] fun r=>r=aBool (aparR o a b):=by
 refine Qh Xa mixed rfl (by simp[AV.pureL,YF,aInt,AV.pure]) ?_
 simp only[Z6]
 push_cast (maxSteps:=999999) -implicitDefEqProofs (disch:=omega)
 refine Q3 (is_a o a) ?_
 rintro x rfl
 cases ha:inR o a with
 | false=>
  push_cast (maxSteps:=999999) -implicitDefEqProofs (disch:=omega)[aBool]
  exact Q82 (by simp[aparR,ha,aBool])
 | true=>
  push_cast (maxSteps:=999999) -implicitDefEqProofs (disch:=omega)[aBool]
  refine Q3 (is_a o b) ?_
  rintro x rfl
  cases hb:inR o b with
  | false=>
   push_cast (maxSteps:=999999) -implicitDefEqProofs (disch:=omega)[aBool]
   exact Q82 (by simp[aparR,ha,hb,aBool])
  | true=>
   by_cases hab:a=b
   ·push_cast (maxSteps:=999999) -implicitDefEqProofs (disch:=omega)[aBool,aInt]
    exact Q82 (by simp[aparR,hab,aBool])
   ·push_cast (maxSteps:=999999) -implicitDefEqProofs (disch:=omega)[aBool,aInt]
    refine Q3 (Before_a o ho a b) ?_
    rintro x rfl
    cases h1:befR o a b with
    | true=>
     push_cast (maxSteps:=999999) -implicitDefEqProofs (disch:=omega)[aBool]
     exact Q82 (by simp[aparR,h1,aBool])
    | false=>
     push_cast (maxSteps:=999999) -implicitDefEqProofs (disch:=omega)[aBool]
     refine Q3 (Before_a o ho b a) ?_
     rintro x rfl
     push_cast (maxSteps:=999999) -implicitDefEqProofs (disch:=omega)[aBool]
     exact Q82 (by simp[aparR,ha,hb,hab,h1,aBool])
end
section
theorem YG (xss:List (List Int)) (hs:xss.length≤1000000) (hs2:∀l∈xss,l.length≤1000000):FnP Tryz.prog 28 [aInts2 xss] fun a=>a=aInt (chk xss):=by
 refine Qh Z71 mixed rfl (by simp[AV.pureL,QL]) ?_
 simp only[Q75,aInts2,aSl]
 push_cast (maxSteps:=999999) (disch:=omega)
 refine cndA_dec (fun hgt=>?_) (fun hgt=>?_)
 ·push_cast (maxSteps:=999999) (disch:=omega)
  exact Q82 (by simp[aInt,chk,show 1000 < xss.length by omega])
 ·push_cast (maxSteps:=999999) (disch:=omega)
  refine Qv (α:=Nat) (I:=fun k ε σ=>(ε 0=.sl xss.length (xss.map aInts) .none∧ε 3=.v (.int .i64 k))∧k≤xss.length∧okB 0 xss=okB k (xss.drop k))
   (μ:=fun k=>xss.length - k) (Q:=fun _ _=>okB 0 xss=true) (x:=0) ?_ ?_ ?_
  ·push_cast (maxSteps:=999999) (disch:=omega)
   omega
  ·rintro k ε σ N E ⟨hρ,hk,hok⟩ hN hE
   simp only[Q36]
   by_cases hlt:k < xss.length
   ·obtain ⟨l,hl⟩:=Ql hlt
    rw[QK hl] at hok
    have hll:=hs2 l (List.mem_of_getElem? hl)
    push_cast (maxSteps:=999999) (disch:=omega)[hρ]
    refine Qv (α:=Nat) (I:=fun j ε σ=>(ε 0=.sl xss.length (xss.map aInts) .none∧ε 3=.v (.int .i64 k)∧ε 4=.v (.int .i64 j))∧j≤l.length∧okPs k l=okPs k (l.drop j))
     (μ:=fun j=>l.length - j) (Q:=fun ε _=>(ε 0=.sl xss.length (xss.map aInts) .none∧ε 3=.v (.int .i64 k))∧okPs k l=true) (x:=0) ?_ ?_ ?_
    ·push_cast (maxSteps:=999999) (disch:=omega)[hρ]
     omega
    ·rintro j ε σ N' E' ⟨hρ,hj,hps⟩ hN' hE'
     simp only[Q35]
     by_cases hjl:j < l.length
     ·obtain ⟨p,hp⟩:=Ql hjl
      rw[QK hp] at hps
      simp only[okPs,List.all_cons] at hps
      by_cases hb:0≤p∧p < (k:Int)
      ·push_cast (maxSteps:=999999) (disch:=omega)[hρ,hl,hp,aInts,aSl,aInt]
       refine hN' (j+1) _ _ ?_ (by omega)
       push_cast (maxSteps:=999999) (disch:=omega)[hρ]
       refine ⟨by omega,?_⟩
       simpa[okPs,hb] using hps
      ·have hbad:okB 0 xss=false:=by
        rw[hok]
        have:okPs k l=false:=by
         unfold okPs
         rw[hps]
         simp only[Bool.and_eq_false_iff,decide_eq_false_iff_not]
         exact .inl (by omega)
        simp[okB,this]
       by_cases hb0:p < 0
       ·push_cast (maxSteps:=999999) (disch:=omega)[hρ,hl,hp,aInts,aSl,aInt]
        exact Q82 (by simp[aInt,chk,hbad,show ¬1000 < xss.length by omega])
       ·push_cast (maxSteps:=999999) (disch:=omega)[hρ,hl,hp,aInts,aSl,aInt]
        exact Q82 (by simp[aInt,chk,hbad,show ¬1000 < xss.length by omega])
     ·push_cast (maxSteps:=999999) (disch:=omega)[hρ,hl,aInts,aSl]
      refine hE' _ _ ?_
      push_cast (maxSteps:=999999) (disch:=omega)[hρ]
      rw[hps,List.drop_of_length_le (by omega)]
      rfl
    ·rintro ε σ ⟨hρ,hps⟩
     push_cast (maxSteps:=999999) (disch:=omega)[hρ]
     refine hN (k+1) _ _ ?_ (by omega)
     push_cast (maxSteps:=999999) (disch:=omega)[hρ]
     refine ⟨by omega,?_⟩
     simpa[okB,hps] using hok
   ·push_cast (maxSteps:=999999) (disch:=omega)[hρ]
    refine hE _ _ ?_
    rw[hok,List.drop_of_length_le (by omega)]
    rfl
  ·intro ε σ hok
   push_cast (maxSteps:=999999) (disch:=omega)
   exact Q82 (by simp[aInt,chk,hok];omega)
end
section
def markL (o:List Bool) (l:List Int):List Bool:=l.foldl (fun o p=>o.set p.toNat true) o
def downE (xss:List (List Int)):Nat→List Bool→List Bool
 | 0,o=>o
 | i+1,o=>downE xss i (if o.getD i false then markL o (xss.getD i []) else o)
def aheadE (xss:List (List Int)) (b:Int):List Bool:=
 if 0≤b∧b < (xss.length:Int) then downE xss b.toNat (markL (List.replicate xss.length false) (xss.getD b.toNat [])) else List.replicate xss.length false
theorem Q37 (o:List Bool) (l:List Int):(markL o l).length=o.length:=by
 unfold markL
 induction l generalizing o with
 | nil=>rfl
 | cons p l ih=>simp[ih]
theorem X04 (o:List Bool) (l:List Int) (p:Int):markL o (l++[p])=(markL o l).set p.toNat true:=by simp[markL]
theorem setBo {s:List Bool} {i:Nat} {b:Bool}:(s.map aBool).set i (.v (.bool b))=(s.set i b).map aBool:=by rw[List.map_set];rfl
theorem repBo (n:Nat):List.replicate n (AV.v (.bool false))=(List.replicate n false).map aBool:=by simp[aBool]
theorem aBools_pure (l:List Bool):(aSl aBool l).pure=true:=Z49 aBool_pure l
theorem aBoolL_res (σ:St) (l:List Bool):AV.resL σ (l.map aBool)=l.map aBool:=by
 rw[QB,List.map_map];exact List.map_congr_left fun x _=>aBool_res σ x
end
section
theorem getD_take {α:Type} (l:List α) (k i:Nat) (d:α) (h:i < k):(l.take k).getD i d=l.getD i d:=by
 simp[List.getD_eq_getElem?_getD,List.getElem?_take,h]
end
section
inductive Anc (xss:List (List Int)):Nat→Nat→Prop
 | dir {i j:Nat} {l:List Int}:xss[i]?=some l→(j:Int)∈l→Anc xss j i
 | via {i p j:Nat} {l:List Int}:xss[i]?=some l→(p:Int)∈l→Anc xss j p→Anc xss j i
theorem Anc.lt {xss:List (List Int)} (hok:okB 0 xss=true) {i j:Nat} (h:Anc xss j i):j < i:=by
 induction h with
 | dir h1 h2=>have:=Z7 hok h1 _ h2;omega
 | via h1 h2 _ ih=>have:=Z7 hok h1 _ h2;omega
theorem Anc.trans {xss:List (List Int)} {k j i:Nat} (h1:Anc xss k j) (h2:Anc xss j i):Anc xss k i:=by
 induction h2 with
 | dir e1 e2=>exact .via e1 e2 h1
 | via e1 e2 _ ih=>exact .via e1 e2 (ih h1)
def bitW (ws:List Nat) (j:Nat):Bool:=(ws.getD (j / 64) 0).testBit (j % 64)
theorem bitW_zero (n j:Nat):bitW (List.replicate n 0) j=false:=by
 unfold bitW
 by_cases h:j / 64 < n
 ·simp[List.getD_eq_getElem?_getD,h]
 ·rw[List.getD_eq_getElem?_getD,List.getElem?_eq_none (by simpa using h)];simp
theorem bitW_orAt (ws:List Nat) (q x j:Nat) (hq:q < ws.length):bitW (orAt ws q x) j=(bitW ws j||(decide (j / 64=q)&&x.testBit (j % 64))):=by
 unfold bitW orAt
 simp only[List.getD_eq_getElem?_getD,List.getElem?_set]
 by_cases h:q=j / 64
 ·subst h;simp[hq,orN]
 ·have:¬j / 64=q:=fun e=>h e.symm
  simp[h,this]
theorem bitW_orK (s t:List Nat) (j:Nat):∀k,k≤s.length→bitW (orK s t k) j=(bitW s j||(decide (j / 64 < k)&&bitW t j)):=by
 intro k
 induction k with
 | zero=>intro _;simp[orK]
 | succ k ih=>
  intro hk
  rw[orK,bitW_orAt _ _ _ _ (by rw[orK_len];omega),ih (by omega),Bool.or_assoc]
  congr 1
  by_cases h:j / 64=k
  ·have h2:¬j / 64 < k:=by omega
   have h3:j / 64 < k+1:=by omega
   simp only[h2,h3,h,decide_true,decide_false,Bool.false_and,Bool.true_and,Bool.false_or]
   unfold bitW
   rw[h]
   simp
  ·have:(j / 64 < k+1)↔j / 64 < k:=by omega
   simp[h,this]
theorem pow2_bit (s k:Nat):(pow2 s).testBit k=decide (s=k):=by
 unfold pow2
 rw[Nat.testBit_two_pow]
theorem bitW_out (t:List Nat) (j:Nat) (h:t.length≤j / 64):bitW t j=false:=by
 unfold bitW
 rw[List.getD_eq_getElem?_getD,List.getElem?_eq_none h]
 simp
theorem bitW_addP (M:List (List Nat)) (s:List Nat) (q j:Nat) (h1:q / 64 < s.length) (h2:(M.getD q []).length≤s.length):bitW (addP M s (q:Int)) j=(bitW s j||(decide (j=q)||bitW (M.getD q []) j)):=by
 unfold addP
 rw[Int.toNat_natCast,bitW_orK _ _ _ _ (by rw[X34];exact h2),bitW_orAt _ _ _ _ h1,pow2_bit,Bool.or_assoc]
 congr 1
 congr 1
 ·rw[Bool.eq_iff_iff]
  simp only[Bool.and_eq_true,decide_eq_true_eq]
  omega
 ·by_cases h:j / 64 < (M.getD q []).length
  ·rw[decide_eq_true h,Bool.true_and]
  ·rw[bitW_out _ _ (by omega)];simp
theorem bitW_row (M:List (List Nat)) (j:Nat):∀(l:List Int) (s:List Nat),(∀p∈l,0≤p∧p.toNat / 64 < s.length∧(M.getD p.toNat []).length≤s.length) →
  bitW (l.foldl (addP M) s) j=(bitW s j||l.any fun p=>decide (j=p.toNat)||bitW (M.getD p.toNat []) j):=by
 intro l
 induction l with
 | nil=>intro s _;simp
 | cons p l ih=>
  intro s h
  obtain ⟨h0,h1,h2⟩:=h p (by simp)
  obtain ⟨q,rfl⟩:∃q:Nat,p=q:=⟨p.toNat,by omega⟩
  simp only[Int.toNat_natCast] at h1 h2
  rw[List.foldl_cons,ih _ (fun r hr=>by rw[addP_len];exact h r (by simp[hr])),bitW_addP _ _ _ _ h1 h2]
  simp[Bool.or_assoc]
theorem mkM_take (xss:List (List Int)):∀k,(mkM xss).take k=mkM (xss.take k):=by
 induction xss using Q03 with
 | h0=>intro k;simp[mkM]
 | hs xs l ih=>
  intro k
  by_cases hk:k≤xs.length
  ·rw[Z60,List.take_append_of_le_length (by rw[Q06];exact hk),ih,List.take_append_of_le_length hk]
  ·rw[List.take_of_length_le (by rw[Q06];simp;omega),List.take_of_length_le (l:=xs++[l]) (by simp;omega)]
theorem mkM_row {xss:List (List Int)} {k:Nat} {l:List Int} (hl:xss[k]?=some l):(mkM xss).getD k []=newRow (mkM (xss.take k)) k l:=by
 have hk:k < xss.length:=(List.getElem?_eq_some_iff.1 hl).1
 have h1:(mkM xss).getD k []=(mkM (xss.take (k+1))).getD k []:=by rw[←mkM_take,getD_take _ _ _ _ (by omega)]
 have hlen:(mkM (xss.take k)).length=k:=by rw[Q06];simp;omega
 rw[h1,Qe hl,Z60,List.getD_eq_getElem?_getD,List.getElem?_append_right (by omega),hlen,Nat.sub_self]
 rfl
theorem mkM_bit {xss:List (List Int)} (hok:okB 0 xss=true):∀(i:Nat),i < xss.length→∀j,bitW ((mkM xss).getD i []) j=true↔Anc xss j i:=by
 intro i
 induction i using Nat.strongRecOn with
 | ind i ih=>
  intro hi j
  obtain ⟨l,hl⟩:=Ql hi
  rw[mkM_row hl,newRow]
  have hget:∀q,q < i→(mkM (xss.take i)).getD q []=(mkM xss).getD q []:=fun q hq=>by rw[←mkM_take,getD_take _ _ _ _ hq]
  rw[bitW_row]
  ·rw[bitW_zero,Bool.false_or,List.any_eq_true]
   constructor
   ·rintro ⟨p,hp,h⟩
    have hpi:=Z7 hok hl p hp
    obtain ⟨q,rfl⟩:∃q:Nat,p=q:=⟨p.toNat,by omega⟩
    simp only[Int.toNat_natCast,Bool.or_eq_true,decide_eq_true_eq] at h
    rcases h with rfl|h
    ·exact .dir hl hp
    ·rw[hget q (by omega)] at h
     exact .via hl hp ((ih q (by omega) (by omega) j).1 h)
   ·intro h
    cases h with
    | dir e1 e2=>rw[hl] at e1;cases e1;exact ⟨_,e2,by simp⟩
    | @via _ p _ _ e1 e2 e3=>
     rw[hl] at e1;cases e1
     have:=Z7 hok hl _ e2
     refine ⟨_,e2,?_⟩
     simp only[Int.toNat_natCast,Bool.or_eq_true]
     right
     rw[hget p (by omega)]
     exact (ih p (by omega) (by omega) j).2 e3
  ·intro p hp
   have hpi:=Z7 hok hl p hp
   refine ⟨hpi.1,by rw[List.length_replicate];omega,?_⟩
   rw[hget p.toNat (by omega),List.length_replicate,List.getD_eq_getElem?_getD]
   obtain ⟨ws,hws⟩:=Ql (l:=mkM xss) (k:=p.toNat) (by rw[Q06];omega)
   rw[hws,Option.getD_some,mkM_at xss _ _ hws]
   omega
theorem X67 (o:List Bool) (j:Nat):∀(l:List Int),(∀p∈l,0≤p∧p.toNat < o.length)→(markL o l).getD j false=(o.getD j false||l.any fun p=>decide (j=p.toNat)):=by
 intro l
 induction l using Q03 with
 | h0=>intro _;simp[markL]
 | hs l p ih=>
  intro h
  rw[X04]
  have hp:=h p (by simp)
  have:=ih (fun q hq=>h q (by simp[hq]))
  simp only[List.getD_eq_getElem?_getD,List.getElem?_set] at this ⊢
  rw[Q37]
  by_cases hj:p.toNat=j
  ·subst hj;simp[hp.2]
  ·have hj':¬j=p.toNat:=fun e=>hj e.symm
   simp[hj,hj',this]
theorem downE_spec {xss:List (List Int)} (hok:okB 0 xss=true) {b:Nat} (hb:b < xss.length) {lb:List Int} (hlb:xss[b]?=some lb):∀(i:Nat) (o:List Bool),i≤b→o.length=xss.length→(∀j,o.getD j false=true→Anc xss j b) →
  (∀p∈lb,o.getD p.toNat false=true)→(∀m l,i≤m→m < b→xss[m]?=some l→o.getD m false=true→∀p∈l,o.getD p.toNat false=true)→(downE xss i o).length=xss.length∧∀j,(downE xss i o).getD j false=true↔Anc xss j b:=by
 intro i
 induction i with
 | zero=>
  intro o _ hol h1 h2 h3
  refine ⟨hol,fun j=>⟨h1 j,fun h=>?_⟩⟩
  show o.getD j false=true
  have clo:∀{j p:Nat},Anc xss j p→p < b→o.getD p false=true→o.getD j false=true:=by
   intro j p h
   induction h with
   | dir e1 e2=>intro hp ho;simpa using h3 _ _ (Nat.zero_le _) hp e1 ho _ e2
   | via e1 e2 _ ih=>
    intro hp ho
    have:=Z7 hok e1 _ e2
    exact ih (by omega) (by simpa using h3 _ _ (Nat.zero_le _) hp e1 ho _ e2)
  cases h with
  | dir e1 e2=>rw[hlb] at e1;cases e1;simpa using h2 _ e2
  | @via _ p _ _ e1 e2 e3=>
   rw[hlb] at e1;cases e1
   have:=Z7 hok hlb _ e2
   exact clo e3 (by omega) (by simpa using h2 _ e2)
 | succ i ih=>
  intro o hi hol h1 h2 h3
  simp only[downE]
  obtain ⟨l,hl⟩:=Ql (l:=xss) (k:=i) (by omega)
  have hlG:xss.getD i []=l:=by simp[List.getD_eq_getElem?_getD,hl]
  by_cases hoi:o.getD i false=true
  ·rw[if_pos hoi,hlG]
   have hin:∀p∈l,0≤p∧p.toNat < o.length:=fun p hp=>by have:=Z7 hok hl p hp;omega
   have hg:=fun j=>X67 o j l hin
   refine ih _ (by omega) (by rw[Q37,hol]) ?_ ?_ ?_
   ·intro j hj
    rw[hg,Bool.or_eq_true,List.any_eq_true] at hj
    rcases hj with hj|⟨p,hp,hj⟩
    ·exact h1 j hj
    ·have hpi:=Z7 hok hl p hp
     have:p=(j:Int):=by simp at hj;omega
     subst this
     exact (Anc.dir hl hp).trans (h1 i hoi)
   ·intro p hp;rw[hg,h2 p hp];rfl
   ·intro m l' hm hmb hl' hom p hp
    by_cases hmi:m=i
    ·subst hmi
     rw[hl] at hl';cases hl'
     rw[hg,Bool.or_eq_true,List.any_eq_true]
     exact .inr ⟨p,hp,by simp⟩
    ·rw[hg] at hom ⊢
     have hno:(l.any fun p=>decide (m=p.toNat))=false:=by
      rw[List.any_eq_false]
      intro p hp
      have:=Z7 hok hl p hp
      simp;omega
     rw[hno,Bool.or_false] at hom
     rw[h3 m l' (by omega) hmb hl' hom p hp];rfl
  ·rw[if_neg hoi]
   refine ih _ (by omega) hol h1 h2 ?_
   intro m l' hm hmb hl' hom p hp
   by_cases hmi:m=i
   ·subst hmi;exact absurd hom hoi
   ·exact h3 m l' (by omega) hmb hl' hom p hp
theorem X93 (xss:List (List Int)) (hok:okB 0 xss=true) (b:Int):(aheadE xss b).length=xss.length:=by
 unfold aheadE
 split
 ·rename_i hb
  obtain ⟨n,rfl⟩:∃n:Nat,b=n:=⟨b.toNat,by omega⟩
  have:∀i o,o.length=xss.length→(downE xss i o).length=xss.length:=by
   intro i
   induction i with
   | zero=>intro o h;exact h
   | succ i ih=>intro o h;simp only[downE];apply ih;split<;>simp[Q37,h]
  exact this _ _ (by simp[Q37])
 ·simp
theorem X94 {xss:List (List Int)} (hok:okB 0 xss=true) {b:Nat} (hb:b < xss.length) (j:Nat):(aheadE xss b).getD j false=true↔Anc xss j b:=by
 obtain ⟨l,hl⟩:=Ql hb
 have hlG:xss.getD b []=l:=by simp[List.getD_eq_getElem?_getD,hl]
 have hin:∀p∈l,0≤p∧p.toNat < (List.replicate xss.length false).length:=fun p hp=>by have:=Z7 hok hl p hp;simp;omega
 unfold aheadE
 rw[if_pos ⟨by omega,by omega⟩,Int.toNat_natCast,hlG]
 refine (downE_spec hok hb hl b _ (Nat.le_refl _) (by simp[Q37]) ?_ ?_ ?_).2 j
 ·intro j hj
  rw[X67 _ _ _ hin,Bool.or_eq_true,List.any_eq_true] at hj
  rcases hj with hj|⟨p,hp,hj⟩
  ·have hz:(List.replicate xss.length false).getD j false=false:=by
    rw[List.getD_eq_getElem?_getD,List.getElem?_replicate];split<;>rfl
   rw[hz] at hj;cases hj
  ·have hpi:=Z7 hok hl p hp
   have:p=(j:Int):=by simp at hj;omega
   subst this
   exact .dir hl hp
 ·intro p hp
  rw[X67 _ _ _ hin,Bool.or_eq_true,List.any_eq_true]
  exact .inr ⟨p,hp,by simp⟩
 ·intro m l' h1 h2;omega
theorem bit_mark {xss:List (List Int)} (hok:okB 0 xss=true) {b:Nat} (hb:b < xss.length) (j:Nat):bitW ((mkM xss).getD b []) j=(aheadE xss b).getD j false:=by
 rw[Bool.eq_iff_iff,mkM_bit hok b hb,X94 hok hb]
end
section
theorem befR_mark {xss:List (List Int)} (hok:okB 0 xss=true) (i:Nat) (hi:i < xss.length) (b:Int):befR (some (mkM xss)) i b=(aheadE xss b).getD i false:=by
 by_cases hb:0≤b∧b < (xss.length:Int)
 ·obtain ⟨n,rfl⟩:∃n:Nat,b=n:=⟨b.toNat,by omega⟩
  have hn:n < xss.length:=by omega
  have h1:inR (some (mkM xss)) (i:Int)=true:=by simp[inR,lenR,Q06,hi]
  have h2:inR (some (mkM xss)) (n:Int)=true:=by simp[inR,lenR,Q06,hn]
  have h3:bitR (some (mkM xss)) i n=bitW ((mkM xss).getD n []) i:=by simp[bitR,bitW]
  unfold befR
  rw[h1,h2,h3,bit_mark hok hn]
  simp only[Bool.true_and]
  by_cases hin:(i:Int) < n
  ·simp[hin]
  ·simp only[hin,decide_false,Bool.false_and]
   symm
   rw[←Bool.not_eq_true]
   intro h
   have:=((X94 hok hn i).1 h).lt hok
   omega
 ·have h2:inR (some (mkM xss)) b=false:=by
   simp only[inR,lenR,Q06,Bool.and_eq_false_iff,decide_eq_false_iff_not]
   omega
  have h3:(aheadE xss b).getD i false=false:=by
   unfold aheadE
   rw[if_neg hb,List.getD_eq_getElem?_getD,List.getElem?_replicate]
   split<;>rfl
  unfold befR
  rw[h2,h3];simp
end
section
theorem wf_mkM {xss:List (List Int)} (h:xss.length≤1000000):wfR (some (mkM xss)):=⟨by simp only[lenR];rw[Q06];exact h,fun i ws hi=>mkM_at xss i ws hi⟩
end
end Go.Proofs.YtncdnegdlkmicaaGreat.Rx
