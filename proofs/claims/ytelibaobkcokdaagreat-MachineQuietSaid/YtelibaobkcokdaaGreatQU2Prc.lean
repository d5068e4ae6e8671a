/- The document's check of programs: the walks (out of the texts of TidyPrograms). -/
import Derived.Test.YtelibaobkcokdaaGreatQU2Pra
import Derived.Test.YtelibaobkcokdaaGreatQU2Cb
namespace Go.Proofs.YtelibaobkcokdaaGreat
set_option linter.unusedVariables false
set_option linter.unusedSimpArgs false
open Go Go.Kx Go.Proofs
def FL:List AV:=[⟨#[]⟩,⟨#[114,110]⟩,⟨#[114,114]⟩,⟨#[114,114,114]⟩,⟨#[114,114,114]⟩,⟨#[114,114,114]⟩,⟨#[114,114,114]⟩,⟨#[114,114,114]⟩,⟨#[114,114,114]⟩,⟨#[114,114,114]⟩,⟨#[114,114,114]⟩,⟨#[114,114,114]⟩,⟨#[114,114,114]⟩,⟨#[114,114]⟩,⟨#[114,114]⟩,⟨#[114,114,114]⟩,⟨#[114,114,114]⟩,⟨#[114]⟩,⟨#[116]⟩,⟨#[114,116]⟩,⟨#[102]⟩,⟨#[]⟩,⟨#[102]⟩,⟨#[114]⟩,⟨#[114]⟩,⟨#[]⟩].map fun s:ByteArray=>.v (.string s)
theorem FL_at (n:Nat) (h:n < 26):FL[n]?=some (.v (.string (fmS n))):=by
 have:n=0∨n=1∨n=2∨n=3∨n=4∨n=5∨n=6∨n=7∨n=8∨n=9∨n=10∨n=11∨n=12∨n=13∨n=14∨n=15∨n=16∨n=17∨n=18∨n=19∨n=20∨n=21∨n=22∨n=23∨n=24∨n=25:=by omega
 rcases this with rfl|rfl|rfl|rfl|rfl|rfl|rfl|rfl|rfl|rfl|rfl|rfl|rfl|rfl|rfl|rfl|rfl|rfl|rfl|rfl|rfl|rfl|rfl|rfl|rfl|rfl<;>rfl
theorem Gj:FnP Tryz.prog 293 [] fun a=>a=.sl 26 FL .none:=by
 refine Qg X68 mixed rfl (by simp[AV.pureL]) ?_
 simp only[Zv]
 push_cast (disch:=omega)
 refine Qt (sz:=1) (by intro a ha;have hm:a∈FL:=ha;obtain ⟨s,_,rfl⟩:=List.mem_map.1 hm;rfl) (by simp) ?_
 push_cast (disch:=omega)
 refine ⟨[],by decide,?_⟩
 simp[AV.res,AV.resL,FL]
theorem ref03_Form_a (op:Int) (h0:0≤op) (h1:op < 26):FnP Tryz.prog 257 [aInt op] fun a=>a=.v (.string (fmS op)):=by
 refine Qg Y1 mixed rfl (by simp[AV.pureL,Qh]) ?_
 simp only[Z03,aInt]
 have c1:¬op < 0:=by omega
 have c2:¬25 < op:=by omega
 have hFL:FL[op.toNat]?=some (.v (.string (fmS op))):=by
  rw[FL_at _ (by omega),show ((op.toNat:Nat):Int)=op by omega]
 push_cast (disch:=omega)[c1,c2]
 refine Q1 Gj ?_
 rintro a rfl
 push_cast (disch:=omega)[hFL]
 first|exact ⟨[],rfl,rfl⟩|exact ⟨[],rfl⟩
theorem Xc (a b:UInt8):decide ((⟨#[a]⟩:ByteArray)=⟨#[b]⟩)=decide (a=b):=by
 rw[Bool.eq_iff_iff];simp
theorem ref03_ends_a (b:UInt8):FnP Tryz.prog 258 [.v (.string ⟨#[b]⟩)] fun a=>a=.tup [aInt (endsB b).1,aInt (endsB b).2]:=by
 refine Qg Y2 mixed rfl (by simp[AV.pureL,AV.pure]) ?_
 simp only[Z04,aInt]
 by_cases h1:b=114
 ·have e:endsB b=(0,7):=by subst h1;rfl
  rw[e]
  push_cast (disch:=omega)[Xc,h1]
  first|exact ⟨[],rfl,rfl⟩|exact ⟨[],rfl⟩
 by_cases h2:b=102
 ·have e:endsB b=(0,15):=by subst h2;rfl
  rw[e]
  have h1':((102:UInt8)=114)=False:=by simp
  push_cast (disch:=omega)[Xc,h2,h1']
  first|exact ⟨[],rfl,rfl⟩|exact ⟨[],rfl⟩
 by_cases h3:b=116
 ·have e:endsB b=(0,199):=by subst h3;rfl
  rw[e]
  have h1':((116:UInt8)=114)=False:=by simp
  have h2':((116:UInt8)=102)=False:=by simp
  push_cast (disch:=omega)[Xc,h3,h1',h2']
  first|exact ⟨[],rfl,rfl⟩|exact ⟨[],rfl⟩
 have e:endsB b=(-32768,32767):=by unfold endsB;rw[if_neg h1,if_neg h2,if_neg h3]
 rw[e]
 push_cast (disch:=omega)[Xc,h1,h2,h3]
 first|exact ⟨[],rfl,rfl⟩|exact ⟨[],rfl⟩
set_option maxHeartbeats 8000000 in
theorem Gk (x:Ix):FnP Tryz.prog 191 [.agg (aIx x)] fun a=>a=aInt (insE x):=by
 refine Qg X67 mixed rfl (by simp[AV.pureL,AV.pure,Z87]) ?_
 simp only[Zu]
 have hac:(AV.agg (aIx x)).cells=aIx x:=rfl
 have g0:(aIx x)[0]?=some (.v (.int .i64 x.op)):=rfl
 have g1:(aIx x)[1]?=some (.v (.int .i64 x.a)):=rfl
 have g2:(aIx x)[2]?=some (.v (.int .i64 x.b)):=rfl
 have g3:(aIx x)[3]?=some (.v (.int .i64 x.c)):=rfl
 refine Q9 (fun ε σ=>ε 1=.ref 0 0 0∧σ=[.obj 0 (aIx x)]) ?_ ?_
 ·intro N X R hN
  push_cast (disch:=omega)
  refine Qn ?_
  push_cast (disch:=omega)[hac]
  exact hN _ _ (by push_cast (disch:=omega))
 rintro ε σ ⟨hρ,rfl⟩
 refine Qm (fun ε σ=>ε 1=.ref 0 0 0∧(0≤x.op∧x.op < 26)∧σ=[.obj 0 (aIx x)]) ?_ ?_
 ·intro N hN
  by_cases c1:x.op < 0
  ·have e:insE x=5:=by unfold insE;rw[if_pos (.inl c1)]
   push_cast (disch:=omega)[hρ,g0,c1,e]
   first|exact ⟨[],rfl,rfl⟩|exact ⟨[],rfl⟩
  by_cases c2:25 < x.op
  ·have e:insE x=5:=by unfold insE;rw[if_pos (.inr (by omega))]
   push_cast (disch:=omega)[hρ,g0,c1,c2,e]
   first|exact ⟨[],rfl,rfl⟩|exact ⟨[],rfl⟩
  push_cast (disch:=omega)[hρ,g0,c1,c2]
  exact hN _ _ (by push_cast (disch:=omega)[hρ];omega)
 clear hρ ε
 rintro ε σ ⟨hρ,hop,rfl⟩
 have hE:insE x=if ((letX x).zip (opsX x)).all (fun p=>fitB p.1 p.2) then (if ((opsX x).drop (letX x).length).all (fun n=>decide (n=0)) then 0 else 4) else 3:=by unfold insE;rw[if_neg (by omega)]
 have hL3:=letX_len x
 have hsz:=letX_size x
 refine Q9 (fun ε σ=>(ε 1=.ref 0 0 0∧ε 3=.v (.string (fmS x.op)))∧σ=[.obj 0 (aIx x)]) ?_ ?_
 ·intro N X R hN
  push_cast (disch:=omega)[hρ,g0]
  refine Q1 (ref03_Form_a x.op hop.1 hop.2) ?_
  rintro a rfl
  push_cast (disch:=omega)
  exact hN _ _ (by push_cast (disch:=omega)[hρ])
 clear hρ ε
 rintro ε σ ⟨hρ,rfl⟩
 refine Q9 (fun ε σ=>(ε 3=.v (.string (fmS x.op))∧ε 4=.sl 3 (aI3 x) .full)) ?_ ?_
 ·intro N X R hN
  push_cast (disch:=omega)[hρ,g1,g2,g3]
  refine Qt (sz:=1) (by intro a ha;simp at ha;rcases ha with rfl|rfl|rfl<;>rfl) (by simp) ?_
  push_cast (disch:=omega)
  exact hN _ _ (by push_cast (disch:=omega)[hρ];rfl)
 clear hρ ε
 rintro ε σ hρ
 refine Qm (fun ε σ=>(ε 3=.v (.string (fmS x.op))∧ε 4=.sl 3 (aI3 x) .full)∧((letX x).zip (opsX x)).all (fun p=>fitB p.1 p.2)=true) ?_ ?_
 ·intro N hN
  push_cast (disch:=omega)
  refine Xd (α:=Nat) (I:=fun k ε σ=>(ε 3=.v (.string (fmS x.op))∧ε 4=.sl 3 (aI3 x) .full∧ε 5=.v (.int .i64 k))∧k≤(letX x).length∧(((letX x).zip (opsX x)).take k).all (fun p=>fitB p.1 p.2)=true)
   (μ:=fun k=>(letX x).length - k) (Q:=fun ε σ=>(ε 3=.v (.string (fmS x.op))∧ε 4=.sl 3 (aI3 x) .full)∧((letX x).zip (opsX x)).all (fun p=>fitB p.1 p.2)=true) (x:=0) ?_ ?_ hN
  ·push_cast (disch:=omega)[hρ]
   exact ⟨by omega,rfl⟩
  ·clear hN N hρ ε
   rintro k ε σ N E ⟨hρ,hk,hall⟩ hN hE'
   simp only[Q41]
   by_cases hlt:k < (letX x).length
   ·obtain ⟨b,hb⟩:=Q09 hlt
    obtain ⟨n,hn⟩:=Q09 (l:=opsX x) (k:=k) (by show k < 3;omega)
    have hn':(aI3 x)[k]?=some (.v (.int .i64 n)):=by rw[J83,List.getElem?_map,hn];rfl
    have hz:=zip_all (f:=fun _=>true) hb hn
    have hsu:=Qs hz
    have hex:(fmS x.op).extract k (k+1)=⟨#[b]⟩:=str_one (by show (letX x)[k]?=some b;exact hb)
    have hss:PF.val (.sls true true) [.string (fmS x.op),.int .i64 k,.int .i64 (k+1)]=some (.string ⟨#[b]⟩):=by
     rw[pv_sls_lh _ _ _ _ _ (by omega) (by omega) (by omega)]
     rw[show (((k:Nat):Int)).toNat=k by omega,show (((k:Nat):Int)+1).toNat=k+1 by omega,hex]
    have hf:fitB b n=decide ((endsB b).1≤n∧n≤(endsB b).2):=rfl
    push_cast (disch:=omega)[hρ,hsz,hss]
    refine Q1 (ref03_ends_a b) ?_
    rintro a rfl
    generalize endsB b=lh at hf
    by_cases d1:n < lh.1
    ·have hfn:fitB b n=false:=by rw[hf];simp;omega
     have e:insE x=3:=by
      rw[hE,if_neg]
      rw[List.all_eq_true]
      intro h
      have:=h (b,n) (List.mem_of_getElem? hz)
      simp only[hfn] at this
      cases this
     rw[e]
     push_cast (disch:=omega)[hρ,aInt,hn',d1]
     first|exact ⟨[],rfl,rfl⟩|exact ⟨[],rfl⟩
    by_cases d2:lh.2 < n
    ·have hfn:fitB b n=false:=by rw[hf];simp;omega
     have e:insE x=3:=by
      rw[hE,if_neg]
      rw[List.all_eq_true]
      intro h
      have:=h (b,n) (List.mem_of_getElem? hz)
      simp only[hfn] at this
      cases this
     rw[e]
     push_cast (disch:=omega)[hρ,aInt,hn',d1,d2]
     first|exact ⟨[],rfl,rfl⟩|exact ⟨[],rfl⟩
    have hfn:fitB b n=true:=by rw[hf];simp;omega
    push_cast (disch:=omega)[hρ,aInt,hn',d1,d2]
    exact hN (k+1) _ _ ⟨by push_cast (disch:=omega)[hρ],by omega,by rw[hsu,List.all_append,hall];simp[hfn]⟩ (by omega)
   ·push_cast (disch:=omega)[hρ,hsz]
    refine hE' _ _ ⟨by push_cast (disch:=omega)[hρ],?_⟩
    rw[List.take_of_length_le] at hall
    ·exact hall
    ·rw[List.length_zip];omega
 clear hρ ε
 rintro ε σ ⟨hρ,hall⟩
 rw[hE,if_pos hall]
 refine Qm (fun ε σ=>((opsX x).drop (letX x).length).all (fun n=>decide (n=0))=true) ?_ ?_
 ·intro N hN
  push_cast (disch:=omega)[hρ,hsz]
  refine Xd (α:=Nat) (I:=fun k ε σ=>(ε 4=.sl 3 (aI3 x) .full∧ε 8=.v (.int .i64 k))∧(letX x).length≤k∧k≤3∧(((opsX x).take k).drop (letX x).length).all (fun n=>decide (n=0))=true)
   (μ:=fun k=>3 - k) (Q:=fun ε σ=>((opsX x).drop (letX x).length).all (fun n=>decide (n=0))=true) (x:=(letX x).length) ?_ ?_ hN
  ·push_cast (disch:=omega)[hρ]
   exact ⟨by omega,by omega,by rw[List.drop_of_length_le (by rw[List.length_take];omega)];rfl⟩
  ·clear hρ ε hN N
   rintro k ε σ N E ⟨hρ,hLk,hk,ha⟩ hN hE'
   simp only[Q42]
   by_cases hlt:k < 3
   ·obtain ⟨n,hn⟩:=Q09 (l:=opsX x) (k:=k) hlt
    have hn':(aI3 x)[k]?=some (.v (.int .i64 n)):=by rw[J83,List.getElem?_map,hn];rfl
    have hsu:=Qs hn
    have hlt':(k:Int) < 3:=by omega
    by_cases h0:n=0
    ·rw[h0] at hn'
     push_cast (disch:=omega)[hρ,hn',hlt']
     refine hN (k+1) _ _ ⟨by push_cast (disch:=omega)[hρ],by omega,by omega,?_⟩ (by omega)
     rw[hsu,List.drop_append_of_le_length (by rw[List.length_take];show _≤min k 3;omega),List.all_append,ha]
     simp[h0]
    ·have e:(((opsX x).drop (letX x).length).all fun n=>decide (n=0))=false:=by
      rw[List.all_eq_false]
      refine ⟨n,?_,by simpa using h0⟩
      refine List.mem_of_getElem? (i:=k - (letX x).length) ?_
      rw[List.getElem?_drop,show (letX x).length+(k - (letX x).length)=k by omega]
      exact hn
     rw[e]
     push_cast (disch:=omega)[hρ,hn',h0,hlt']
     first|exact ⟨[],rfl,rfl⟩|exact ⟨[],rfl⟩
   ·have hlt':¬(k:Int) < 3:=by omega
    push_cast (disch:=omega)[hρ,hlt']
    rw[List.take_of_length_le (by show 3≤k;omega)] at ha
    exact hE' _ _ ha
 rintro ε σ h
 rw[if_pos h]
 push_cast (disch:=omega)
 first|exact ⟨[],rfl,rfl⟩|exact ⟨[],rfl⟩
theorem Y77 (n most:Int):FnP Tryz.prog 190 [aInt n,aInt most] fun a=>a=aInt (manyE n most):=by
 refine Qg Y0 mixed rfl (by simp[AV.pureL,Qh]) ?_
 simp only[Z02,aInt]
 unfold manyE
 by_cases c1:n=0
 ·push_cast (disch:=omega)[c1]
  first|exact ⟨[],rfl,rfl⟩|exact ⟨[],rfl⟩
 by_cases c2:most < n
 ·push_cast (disch:=omega)[c1,c2]
  first|exact ⟨[],rfl,rfl⟩|exact ⟨[],rfl⟩
 ·push_cast (disch:=omega)[c1,c2]
  first|exact ⟨[],rfl,rfl⟩|exact ⟨[],rfl⟩
set_option maxHeartbeats 16000000 in
theorem Gl (m:Int) (fs:List (List Ix)) (hf:okF fs):FnP Tryz.prog 107 [.agg (aPr m fs)] fun a=>a=aInt (prgE m fs):=by
 refine Qg X66 mixed rfl (by simp[AV.pureL,AV.pure,Zz]) ?_
 simp only[Zt]
 obtain ⟨hf1,hf2⟩:=hf
 have hac:(AV.agg (aPr m fs)).cells=aPr m fs:=rfl
 have g0:(aPr m fs)[0]?=some (.v (.int .i64 m)):=rfl
 have g1:(aPr m fs)[1]?=some (.sl fs.length (fs.map aIxs) .none):=rfl
 refine Q9 (fun ε σ=>ε 1=.ref 0 0 0∧σ[0]?=some (.obj 0 (aPr m fs))) ?_ ?_
 ·intro N X R hN
  push_cast (maxSteps:=999999) -implicitDefEqProofs (disch:=omega)
  refine Qn ?_
  push_cast (maxSteps:=999999) -implicitDefEqProofs (disch:=omega)[hac]
  exact hN _ _ ⟨by push_cast (maxSteps:=999999) -implicitDefEqProofs (disch:=omega),rfl⟩
 rintro ε σ ⟨hρ,hs⟩
 refine Qm (fun ε σ=>ε 1=.ref 0 0 0∧σ[0]?=some (.obj 0 (aPr m fs))∧¬(m < 0∨256 < m)) ?_ ?_
 ·intro N hN
  by_cases c1:m < 0
  ·have e:prgE m fs=3:=by unfold prgE;rw[if_pos (.inl c1)]
   rw[e]
   push_cast (maxSteps:=999999) -implicitDefEqProofs (disch:=omega)[hρ,hs,g0,c1]
   first|exact ⟨[],rfl,rfl⟩|exact ⟨[],rfl⟩
  by_cases c2:256 < m
  ·have e:prgE m fs=3:=by unfold prgE;rw[if_pos (.inr c2)]
   rw[e]
   push_cast (maxSteps:=999999) -implicitDefEqProofs (disch:=omega)[hρ,hs,g0,c1,c2]
   first|exact ⟨[],rfl,rfl⟩|exact ⟨[],rfl⟩
  push_cast (maxSteps:=999999) -implicitDefEqProofs (disch:=omega)[hρ,hs,g0,c1,c2]
  exact hN _ _ ⟨by push_cast (maxSteps:=999999) -implicitDefEqProofs (disch:=omega)[hρ],hs,by omega⟩
 clear hρ hs ε σ
 rintro ε σ ⟨hρ,hs,hm⟩
 refine Q9 (fun ε σ=>(ε 1=.ref 0 0 0∧ε 3=aInt (manyE fs.length 16))∧σ[0]?=some (.obj 0 (aPr m fs))) ?_ ?_
 ·intro N X R hN
  push_cast (maxSteps:=999999) -implicitDefEqProofs (disch:=omega)[hρ,hs,g1]
  refine Q1 (Y77 fs.length 16) ?_
  rintro a rfl
  push_cast (maxSteps:=999999) -implicitDefEqProofs (disch:=omega)[aInt]
  exact hN _ _ ⟨by push_cast (maxSteps:=999999) -implicitDefEqProofs (disch:=omega)[hρ,aInt],hs⟩
 clear hρ hs ε σ
 rintro ε σ ⟨hρ,hs⟩
 refine Qm (fun ε σ=>ε 1=.ref 0 0 0∧σ[0]?=some (.obj 0 (aPr m fs))∧prgE m fs=fnsE fs.length fs) ?_ ?_
 ·intro N hN
  by_cases hz:manyE fs.length 16=0
  ·have e:prgE m fs=fnsE fs.length fs:=by unfold prgE;rw[if_neg hm,if_neg (by simp[hz])]
   push_cast (maxSteps:=999999) -implicitDefEqProofs (disch:=omega)[hρ,aInt,hz]
   exact hN _ _ ⟨by push_cast (maxSteps:=999999) -implicitDefEqProofs (disch:=omega)[hρ],hs,e⟩
  ·have e:prgE m fs=manyE fs.length 16:=by unfold prgE;rw[if_neg hm,if_pos hz]
   rw[e]
   push_cast (maxSteps:=999999) -implicitDefEqProofs (disch:=omega)[hρ,aInt,hz]
   first|exact ⟨[],rfl,rfl⟩|exact ⟨[],rfl⟩
 clear hρ hs ε σ
 rintro ε σ ⟨hρ,hs,hP⟩
 rw[hP]
 refine Qm (fun ε σ=>fnsE fs.length fs=0) ?_ ?_
 ·intro N hN
  push_cast (maxSteps:=999999) -implicitDefEqProofs (disch:=omega)
  refine Xd (α:=Nat) (I:=fun k ε σ=>(ε 1=.ref 0 0 0∧ε 4=.v (.int .i64 k))∧k≤fs.length∧σ[0]?=some (.obj 0 (aPr m fs))∧fnsE fs.length fs=fnsE fs.length (fs.drop k))
   (μ:=fun k=>fs.length - k) (Q:=fun ε σ=>fnsE fs.length fs=0) (x:=0) ?_ ?_ hN
  ·push_cast (maxSteps:=999999) -implicitDefEqProofs (disch:=omega)[hρ]
   exact ⟨by omega,hs⟩
  ·clear hN N hρ hs ε σ
   rintro k ε σ N E ⟨hρ,hk,hs,hd⟩ hN hE
   simp only[Q40]
   by_cases hlt:k < fs.length
   ·obtain ⟨l,hl⟩:=Q09 hlt
    have hll:=hf2 l (List.mem_of_getElem? hl)
    have hIL:aIxs l=.sl l.length (l.flatMap aIx) .none:=rfl
    rw[Js hl] at hd
    simp only[fnsE] at hd
    have hnext:fnE l fs.length=0→∀ε' σ',(ε' 1=.ref 0 0 0∧ε' 4=.v (.int .i64 (k+1:Nat)))→σ'[0]?=some (.obj 0 (aPr m fs))→act (N ε' σ'):=by
     intro hz ε' σ' h1 h2
     rw[if_neg (by simp[hz])] at hd
     exact hN (k+1) ε' σ' ⟨h1,by omega,h2,hd⟩ (by omega)
    have hbad:∀v:Int,v≠0→fnE l fs.length=v→fnsE fs.length fs=v:=by
     intro v hv e
     rw[hd,e,if_pos hv]
    clear hN hE hd
    refine Qm (fun ε σ=>(ε 1=.ref 0 0 0∧ε 4=.v (.int .i64 k))∧σ[0]?=some (.obj 0 (aPr m fs))) ?_ ?_
    ·intro N2 hN2
     push_cast (maxSteps:=999999) -implicitDefEqProofs (disch:=omega)[hρ,hs,g1]
     exact hN2 _ _ ⟨by push_cast (maxSteps:=999999) -implicitDefEqProofs (disch:=omega)[hρ],hs⟩
    clear hρ hs ε σ
    rintro ε σ ⟨hρ,hs⟩
    refine Qm (fun ε σ=>(ε 1=.ref 0 0 0∧ε 4=.v (.int .i64 k))∧σ[0]?=some (.obj 0 (aPr m fs))∧fnE l fs.length=0) ?_ ?_
    ·intro N2 hN2
     refine Q89 fun X' _=>?_
     refine Q9 (fun ε σ=>(ε 1=.ref 0 0 0∧ε 4=.v (.int .i64 k)∧ε 5=aIxs l)∧σ[0]?=some (.obj 0 (aPr m fs))) ?_ ?_
     ·intro N3 X3 R3 hN3
      push_cast (maxSteps:=999999) -implicitDefEqProofs (disch:=omega)[hρ,hs,g1,hl]
      exact hN3 _ _ ⟨by push_cast (maxSteps:=999999) -implicitDefEqProofs (disch:=omega)[hρ],hs⟩
     clear hρ hs ε σ
     rintro ε σ ⟨hρ,hs⟩
     refine Q9 (fun ε σ=>(ε 1=.ref 0 0 0∧ε 4=.v (.int .i64 k)∧ε 5=aIxs l∧ε 6=.v (.int .i64 (manyE l.length 200)))∧σ[0]?=some (.obj 0 (aPr m fs))) ?_ ?_
     ·intro N3 X3 R3 hN3
      push_cast (maxSteps:=999999) -implicitDefEqProofs (disch:=omega)[hρ,hIL]
      refine Q1 (Y77 l.length 200) ?_
      rintro a rfl
      push_cast (maxSteps:=999999) -implicitDefEqProofs (disch:=omega)[aInt]
      exact hN3 _ _ ⟨by push_cast (maxSteps:=999999) -implicitDefEqProofs (disch:=omega)[hρ,hIL],hs⟩
     clear hρ hs ε σ
     rintro ε σ ⟨hρ,hs⟩
     refine Qm (fun ε σ=>(ε 1=.ref 0 0 0∧ε 4=.v (.int .i64 k)∧ε 5=aIxs l)∧σ[0]?=some (.obj 0 (aPr m fs))∧manyE l.length 200=0) ?_ ?_
     ·intro N3 hN3
      by_cases hz:manyE l.length 200=0
      ·push_cast (maxSteps:=999999) -implicitDefEqProofs (disch:=omega)[hρ,hz]
       exact hN3 _ _ ⟨by push_cast (maxSteps:=999999) -implicitDefEqProofs (disch:=omega)[hρ],hs,hz⟩
      ·rw[hbad (manyE l.length 200) hz (by unfold fnE;rw[if_pos hz])]
       push_cast (maxSteps:=999999) -implicitDefEqProofs (disch:=omega)[hρ,hz]
       first|exact ⟨[],rfl,rfl⟩|exact ⟨[],rfl⟩
     clear hρ hs ε σ
     rintro ε σ ⟨hρ,hs,hz⟩
     have hpos:0 < l.length:=by
      unfold manyE at hz
      rcases Nat.eq_zero_or_pos l.length with h|h
      ·rw[h] at hz;simp at hz
      ·exact h
     have hF:fnE l fs.length=if scanE l.length fs.length l≠0 then scanE l.length fs.length l else lastE l:=by unfold fnE;rw[if_neg (by simp[hz])]
     refine Qm (fun ε σ=>(ε 1=.ref 0 0 0∧ε 4=.v (.int .i64 k)∧ε 5=aIxs l)∧σ[0]?=some (.obj 0 (aPr m fs))∧scanE l.length fs.length l=0) ?_ ?_
     ·intro N3 hN3
      push_cast (maxSteps:=999999) -implicitDefEqProofs (disch:=omega)
      refine Xd (α:=Nat) (I:=fun j ε σ=>(ε 1=.ref 0 0 0∧ε 4=.v (.int .i64 k)∧ε 5=aIxs l∧ε 7=.v (.int .i64 j))∧j≤l.length∧σ[0]?=some (.obj 0 (aPr m fs))∧scanE l.length fs.length l=scanE l.length fs.length (l.drop j))
       (μ:=fun j=>l.length - j) (Q:=fun ε σ=>(ε 1=.ref 0 0 0∧ε 4=.v (.int .i64 k)∧ε 5=aIxs l)∧σ[0]?=some (.obj 0 (aPr m fs))∧scanE l.length fs.length l=0) (x:=0) ?_ ?_ hN3
      ·push_cast (maxSteps:=999999) -implicitDefEqProofs (disch:=omega)[hρ,hIL]
       exact ⟨by omega,hs⟩
      ·clear hN3 N3 hρ hs ε σ
       rintro j ε σ N E ⟨hρ,hj,hs,hsc⟩ hN hE
       simp only[Q39]
       by_cases hlj:j < l.length
       ·obtain ⟨x,hx⟩:=Q09 hlj
        have hd:=QH X83 hx
        have hc0:(l.flatMap aIx)[j * 4]?=some (.v (.int .i64 x.op)):=by
         have:((l.flatMap aIx).drop (j * 4))[0]?=some (.v (.int .i64 x.op)):=by rw[hd];rfl
         rwa [List.getElem?_drop,Nat.add_zero] at this
        have hc1:(l.flatMap aIx)[j * 4+1]?=some (.v (.int .i64 x.a)):=by rw[←List.getElem?_drop,hd];rfl
        have hc2:(l.flatMap aIx)[j * 4+2]?=some (.v (.int .i64 x.b)):=by rw[←List.getElem?_drop,hd];rfl
        rw[Js hx] at hsc
        simp only[scanE] at hsc
        refine Qm (fun ε σ=>(ε 1=.ref 0 0 0∧ε 4=.v (.int .i64 k)∧ε 5=aIxs l∧ε 7=.v (.int .i64 j))∧σ[0]?=some (.obj 0 (aPr m fs))) ?_ ?_
        ·intro N4 hN4
         push_cast (maxSteps:=999999) -implicitDefEqProofs (disch:=omega)[hρ,hIL]
         exact hN4 _ _ ⟨by push_cast (maxSteps:=999999) -implicitDefEqProofs (disch:=omega)[hρ,hIL],hs⟩
        clear hρ hs ε σ
        rintro ε σ ⟨hρ,hs⟩
        refine Qm (fun ε σ=>(ε 1=.ref 0 0 0∧ε 4=.v (.int .i64 k)∧ε 5=aIxs l∧ε 7=.v (.int .i64 j))∧σ[0]?=some (.obj 0 (aPr m fs))∧scanE l.length fs.length l=scanE l.length fs.length (l.drop (j+1))) ?_ ?_
        ·intro N4 hN4
         refine Q89 fun X'' _=>?_
         refine Q9 (fun ε σ=>(ε 1=.ref 0 0 0∧ε 4=.v (.int .i64 k)∧ε 5=aIxs l∧ε 7=.v (.int .i64 j)∧ε 8=.v (.int .i64 (insE x)))∧σ[0]?=some (.obj 0 (aPr m fs))) ?_ ?_
         ·intro N3 X3 R3 hN3
          push_cast (maxSteps:=999999) -implicitDefEqProofs (disch:=omega)[hρ,hIL,hd,cellsIx]
          refine Q1 (Gk x) ?_
          rintro a rfl
          push_cast (maxSteps:=999999) -implicitDefEqProofs (disch:=omega)[aInt]
          exact hN3 _ _ ⟨by push_cast (maxSteps:=999999) -implicitDefEqProofs (disch:=omega)[hρ,hIL],hs⟩
         clear hρ hs ε σ
         rintro ε σ ⟨hρ,hs⟩
         refine Qm (fun ε σ=>(ε 1=.ref 0 0 0∧ε 4=.v (.int .i64 k)∧ε 5=aIxs l∧ε 7=.v (.int .i64 j))∧σ[0]?=some (.obj 0 (aPr m fs))∧insE x=0) ?_ ?_
         ·intro N5 hN5
          by_cases hi:insE x=0
          ·push_cast (maxSteps:=999999) -implicitDefEqProofs (disch:=omega)[hρ,hi]
           exact hN5 _ _ ⟨by push_cast (maxSteps:=999999) -implicitDefEqProofs (disch:=omega)[hρ],hs,hi⟩
          ·rw[if_pos hi] at hsc
           rw[hbad (insE x) hi (by rw[hF,hsc,if_pos hi])]
           push_cast (maxSteps:=999999) -implicitDefEqProofs (disch:=omega)[hρ,hi]
           first|exact ⟨[],rfl,rfl⟩|exact ⟨[],rfl⟩
         clear hρ hs ε σ
         rintro ε σ ⟨hρ,hs,hi⟩
         rw[if_neg (by simp[hi])] at hsc
         have hbad2:leadB x l.length fs.length=false→fnsE fs.length fs=11:=fun hb=>by
          rw[if_pos hb] at hsc
          exact hbad 11 (by decide) (by rw[hF,hsc,if_pos (by decide)])
         have hgood:leadB x l.length fs.length=true→scanE l.length fs.length l=scanE l.length fs.length (l.drop (j+1)):=fun hb=>by
          rw[if_neg (by simp[hb])] at hsc
          exact hsc
         clear hsc
         by_cases c1:x.op=18
         ·have hL:leadB x l.length fs.length=decide (x.a < l.length):=by unfold leadB;rw[if_pos c1]
          by_cases d:x.a < l.length
          ·push_cast (maxSteps:=999999) -implicitDefEqProofs (disch:=omega)[hρ,hIL,hc0,hc1,c1,d]
           exact hN4 _ _ ⟨by push_cast (maxSteps:=999999) -implicitDefEqProofs (disch:=omega)[hρ,hIL],hs,hgood (by rw[hL];simpa using d)⟩
          ·rw[hbad2 (by rw[hL];simpa using d)]
           push_cast (maxSteps:=999999) -implicitDefEqProofs (disch:=omega)[hρ,hIL,hc0,hc1,c1,d]
           first|exact ⟨[],rfl,rfl⟩|exact ⟨[],rfl⟩
         by_cases c2:x.op=19
         ·have hL:leadB x l.length fs.length=decide (x.b < l.length):=by unfold leadB;rw[if_neg c1,if_pos c2]
          by_cases d:x.b < l.length
          ·push_cast (maxSteps:=999999) -implicitDefEqProofs (disch:=omega)[hρ,hIL,hc0,hc1,hc2,c1,c2,d]
           exact hN4 _ _ ⟨by push_cast (maxSteps:=999999) -implicitDefEqProofs (disch:=omega)[hρ,hIL],hs,hgood (by rw[hL];simpa using d)⟩
          ·rw[hbad2 (by rw[hL];simpa using d)]
           push_cast (maxSteps:=999999) -implicitDefEqProofs (disch:=omega)[hρ,hIL,hc0,hc1,hc2,c1,c2,d]
           first|exact ⟨[],rfl,rfl⟩|exact ⟨[],rfl⟩
         by_cases c3:x.op=20
         ·have hL:leadB x l.length fs.length=decide (x.a < fs.length):=by unfold leadB;rw[if_neg c1,if_neg c2,if_pos (.inl c3)]
          by_cases d:x.a < fs.length
          ·push_cast (maxSteps:=999999) -implicitDefEqProofs (disch:=omega)[hρ,hIL,hc0,hc1,hc2,c1,c2,c3,d,hs,g1]
           exact hN4 _ _ ⟨by push_cast (maxSteps:=999999) -implicitDefEqProofs (disch:=omega)[hρ,hIL],hs,hgood (by rw[hL];simpa using d)⟩
          ·rw[hbad2 (by rw[hL];simpa using d)]
           push_cast (maxSteps:=999999) -implicitDefEqProofs (disch:=omega)[hρ,hIL,hc0,hc1,hc2,c1,c2,c3,d,hs,g1]
           first|exact ⟨[],rfl,rfl⟩|exact ⟨[],rfl⟩
         by_cases c4:x.op=22
         ·have hL:leadB x l.length fs.length=decide (x.a < fs.length):=by unfold leadB;rw[if_neg c1,if_neg c2,if_pos (.inr c4)]
          by_cases d:x.a < fs.length
          ·push_cast (maxSteps:=999999) -implicitDefEqProofs (disch:=omega)[hρ,hIL,hc0,hc1,hc2,c1,c2,c3,c4,d,hs,g1]
           exact hN4 _ _ ⟨by push_cast (maxSteps:=999999) -implicitDefEqProofs (disch:=omega)[hρ,hIL],hs,hgood (by rw[hL];simpa using d)⟩
          ·rw[hbad2 (by rw[hL];simpa using d)]
           push_cast (maxSteps:=999999) -implicitDefEqProofs (disch:=omega)[hρ,hIL,hc0,hc1,hc2,c1,c2,c3,c4,d,hs,g1]
           first|exact ⟨[],rfl,rfl⟩|exact ⟨[],rfl⟩
         have hL:leadB x l.length fs.length=true:=by unfold leadB;rw[if_neg c1,if_neg c2,if_neg (by omega)]
         push_cast (maxSteps:=999999) -implicitDefEqProofs (disch:=omega)[hρ,hIL,hc0,hc1,hc2,c1,c2,c3,c4,hs,g1]
         exact hN4 _ _ ⟨by push_cast (maxSteps:=999999) -implicitDefEqProofs (disch:=omega)[hρ,hIL],hs,hgood hL⟩
        clear hρ hs ε σ
        rintro ε σ ⟨hρ,hs,hsc2⟩
        push_cast (maxSteps:=999999) -implicitDefEqProofs (disch:=omega)[hρ]
        exact hN (j+1) _ _ ⟨by push_cast (maxSteps:=999999) -implicitDefEqProofs (disch:=omega)[hρ],by omega,hs,hsc2⟩ (by omega)
       ·push_cast (maxSteps:=999999) -implicitDefEqProofs (disch:=omega)[hρ,hIL]
        obtain rfl:j=l.length:=by omega
        rw[List.drop_length] at hsc
        exact hE _ _ ⟨by push_cast (maxSteps:=999999) -implicitDefEqProofs (disch:=omega)[hρ,hIL],hs,hsc⟩
     clear hρ hs ε σ
     rintro ε σ ⟨hρ,hs,hsc⟩
     rw[hsc] at hF
     simp only[ne_eq,not_true_eq_false,if_false] at hF
     obtain ⟨x,hx⟩:=Q09 (l:=l) (k:=l.length - 1) (by omega)
     have hL:lastE l=if endsX x then 0 else 12:=by unfold lastE;rw[hx]
     have hd:=QH X83 hx
     have hc0:(l.flatMap aIx)[(l.length - 1) * 4]?=some (.v (.int .i64 x.op)):=by
      have:((l.flatMap aIx).drop ((l.length - 1) * 4))[0]?=some (.v (.int .i64 x.op)):=by rw[hd];rfl
      rwa [List.getElem?_drop,Nat.add_zero] at this
     have tn:((l.length:Int) - 1).toNat=l.length - 1:=by omega
     by_cases c1:x.op=0
     ·have e:endsX x=true:=by unfold endsX;simp[c1]
      push_cast (maxSteps:=999999) -implicitDefEqProofs (disch:=omega)[hρ,hIL,tn,hc0,c1]
      exact hN2 _ _ ⟨by push_cast (maxSteps:=999999) -implicitDefEqProofs (disch:=omega)[hρ],hs,by rw[hF,hL,e];rfl⟩
     by_cases c2:x.op=18
     ·have e:endsX x=true:=by unfold endsX;simp[c2]
      push_cast (maxSteps:=999999) -implicitDefEqProofs (disch:=omega)[hρ,hIL,tn,hc0,c1,c2]
      exact hN2 _ _ ⟨by push_cast (maxSteps:=999999) -implicitDefEqProofs (disch:=omega)[hρ],hs,by rw[hF,hL,e];rfl⟩
     by_cases c3:x.op=25
     ·have e:endsX x=true:=by unfold endsX;simp[c3]
      push_cast (maxSteps:=999999) -implicitDefEqProofs (disch:=omega)[hρ,hIL,tn,hc0,c1,c2,c3]
      exact hN2 _ _ ⟨by push_cast (maxSteps:=999999) -implicitDefEqProofs (disch:=omega)[hρ],hs,by rw[hF,hL,e];rfl⟩
     have e:endsX x=false:=by unfold endsX;simp[c1,c2,c3]
     rw[hbad 12 (by decide) (by rw[hF,hL,e];rfl)]
     push_cast (maxSteps:=999999) -implicitDefEqProofs (disch:=omega)[hρ,hIL,tn,hc0,c1,c2,c3]
     first|exact ⟨[],rfl,rfl⟩|exact ⟨[],rfl⟩
    clear hρ hs ε σ
    rintro ε σ ⟨hρ,hs,hz⟩
    push_cast (maxSteps:=999999) -implicitDefEqProofs (disch:=omega)[hρ]
    exact hnext hz _ _ (by push_cast (maxSteps:=999999) -implicitDefEqProofs (disch:=omega)[hρ]) hs
   ·push_cast (maxSteps:=999999) -implicitDefEqProofs (disch:=omega)[hρ,hs,g1]
    obtain rfl:k=fs.length:=by omega
    rw[List.drop_length] at hd
    exact hE _ _ hd
 rintro ε σ h
 rw[h]
 push_cast (maxSteps:=999999) -implicitDefEqProofs (disch:=omega)
 first|exact ⟨[],rfl,rfl⟩|exact ⟨[],rfl⟩
end Go.Proofs.YtelibaobkcokdaaGreat
