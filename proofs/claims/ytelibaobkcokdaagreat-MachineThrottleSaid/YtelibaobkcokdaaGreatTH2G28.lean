/- The document's check of programs: the walks (out of the texts of TidyPrograms). -/
import Derived.Test.YtelibaobkcokdaaGreatTH2G27
namespace Go.Proofs.YtelibaobkcokdaaGreat
set_option linter.unusedVariables false
set_option linter.unusedSimpArgs false
open Go Go.Kx Go.Proofs
def FL:List AV:=[⟨#[]⟩,⟨#[114,110]⟩,⟨#[114,114]⟩,⟨#[114,114,114]⟩,⟨#[114,114,114]⟩,⟨#[114,114,114]⟩,⟨#[114,114,114]⟩,⟨#[114,114,114]⟩,⟨#[114,114,114]⟩,⟨#[114,114,114]⟩,⟨#[114,114,114]⟩,⟨#[114,114,114]⟩,⟨#[114,114,114]⟩,⟨#[114,114]⟩,⟨#[114,114]⟩,⟨#[114,114,114]⟩,⟨#[114,114,114]⟩,⟨#[114]⟩,⟨#[116]⟩,⟨#[114,116]⟩,⟨#[102]⟩,⟨#[]⟩,⟨#[102]⟩,⟨#[114]⟩,⟨#[114]⟩,⟨#[]⟩].map fun s:ByteArray=>.v (.string s)
theorem FL_at (n:Nat) (h:n < 26):FL[n]?=some (.v (.string (fmS n))):=by
 have:n=0∨n=1∨n=2∨n=3∨n=4∨n=5∨n=6∨n=7∨n=8∨n=9∨n=10∨n=11∨n=12∨n=13∨n=14∨n=15∨n=16∨n=17∨n=18∨n=19∨n=20∨n=21∨n=22∨n=23∨n=24∨n=25:=by omega
 rcases this with rfl|rfl|rfl|rfl|rfl|rfl|rfl|rfl|rfl|rfl|rfl|rfl|rfl|rfl|rfl|rfl|rfl|rfl|rfl|rfl|rfl|rfl|rfl|rfl|rfl|rfl<;>rfl
theorem J7:FnP Tryz.prog 293 [] fun a=>a=.sl 26 FL .none:=by refine Qj Zt.2 mixed rfl (by simp[AV.pureL]) ?_;simp only[Zt,qH];push_cast -implicitDefEqProofs;refine QA (sz:=1) (by intro a ha;have hm:a∈FL:=ha;obtain ⟨s,_,rfl⟩:=List.mem_map.1 hm;rfl) ke ?_;push_cast -implicitDefEqProofs;refine ⟨[],by decide,?_⟩;simp[AV.res,AV.resL,FL]
theorem ref03_Form_a (op:Int) (h0:0≤op) (h1:op < 26):FnP Tryz.prog 257 [aInt op] fun a=>a=.v (.string (fmS op)):=by
 refine Qj ZY.2 mixed rfl o7 ?_;simp only[ZY,aInt,qH];have c1:¬op < 0:=by omega
 have c2:¬25 < op:=by omega
 have hFL:FL[op.toNat]?=some (.v (.string (fmS op))):=by rw[FL_at _ ka,show ((op.toNat:Nat):Int)=op by omega]
 push_cast -implicitDefEqProofs (disch:=omega)[c1,c2];refine Q5 J7 ?_;push_cast -implicitDefEqProofs (disch:=omega)[hFL];exact oo
theorem Z89 (a b:UInt8):decide ((⟨#[a]⟩:ByteArray)=⟨#[b]⟩)=decide (a=b):=by rw[Bool.eq_iff_iff];simp
theorem ref03_ends_a (b:UInt8):FnP Tryz.prog 258 [.v (.string ⟨#[b]⟩)] fun a=>a=.tup [aInt (endsB b).1,aInt (endsB b).2]:=by
 refine Qj ZZ.2 mixed rfl (by simp[AV.pureL,AV.pure]) ?_;simp only[ZZ,aInt,qH];by_cases h1:b=114
 ·have e:endsB b=(0,7):=by subst h1;rfl
  rw[e];push_cast -implicitDefEqProofs[Z89,h1];exact oo
 by_cases h2:b=102
 ·have e:endsB b=(0,15):=by subst h2;rfl
  rw[e];have h1':((102:UInt8)=114)=False:=by simp
  push_cast -implicitDefEqProofs[Z89,h2,h1'];exact oo
 by_cases h3:b=116
 ·have e:endsB b=(0,199):=by subst h3;rfl
  rw[e];have h1':((116:UInt8)=114)=False:=by simp
  have h2':((116:UInt8)=102)=False:=by simp
  push_cast -implicitDefEqProofs[Z89,h3,h1',h2'];exact oo
 have e:endsB b=(-32768,32767):=by unfold endsB;rw[if_neg h1,if_neg h2,if_neg h3]
 rw[e];push_cast -implicitDefEqProofs[Z89,h1,h2,h3];exact oo
set_option maxHeartbeats 8000000 in
theorem J8 (x:Ix):FnP Tryz.prog 191 [.agg (aIx x)] fun a=>a=aInt (insE x):=by
 refine Qj Zs.2 mixed rfl (by simp[AV.pureL,AV.pure,Z76]) ?_;simp only[Zs,qH];have hac:(AV.agg (aIx x)).cells=aIx x:=rfl;have g0:(aIx x)[0]?=some (.v (.int .i64 x.op)):=rfl;have g1:(aIx x)[1]?=some (.v (.int .i64 x.a)):=rfl;have g2:(aIx x)[2]?=some (.v (.int .i64 x.b)):=rfl;have g3:(aIx x)[3]?=some (.v (.int .i64 x.c)):=rfl;refine Qc (fun ε σ=>ε 1=.ref 0 0 0∧σ=[.obj 0 (aIx x)]) ?_ ?_
 ·intro N X R hN;push_cast -implicitDefEqProofs (disch:=omega);refine Qs ?_;push_cast -implicitDefEqProofs (disch:=omega)[hac];exact hN _ _ (by push_cast -implicitDefEqProofs (disch:=omega))
 rintro ε σ ⟨hρ,rfl⟩;refine Qt (fun ε σ=>ε 1=.ref 0 0 0∧(0≤x.op∧x.op < 26)∧σ=[.obj 0 (aIx x)]) ?_ ?_
 ·intro N hN;by_cases c1:x.op < 0
  ·have e:insE x=5:=by unfold insE;rw[if_pos (.inl c1)]
   push_cast -implicitDefEqProofs (disch:=omega)[hρ,g0,c1,e];exact oo
  by_cases c2:25 < x.op
  ·have e:insE x=5:=by unfold insE;rw[if_pos (.inr ka)]
   push_cast -implicitDefEqProofs (disch:=omega)[hρ,g0,c1,c2,e];exact oo
  push_cast -implicitDefEqProofs (disch:=omega)[hρ,g0,c1,c2];exact hN _ _ (by push_cast -implicitDefEqProofs (disch:=omega)[hρ];omega)
 clear hρ ε;rintro ε σ ⟨hρ,hop,rfl⟩;have hE:insE x=if ((letX x).zip (opsX x)).all (fun p=>fitB p.1 p.2) then (if ((opsX x).drop (letX x).length).all (fun n=>decide (n=0)) then 0 else 4) else 3:=by unfold insE;rw[if_neg ka]
 have hL3:=letX_len x;have hsz:=letX_size x;refine Qc (fun ε σ=>(ε 1=.ref 0 0 0∧ε 3=.v (.string (fmS x.op)))∧σ=[.obj 0 (aIx x)]) ?_ ?_
 ·intro N X R hN;push_cast -implicitDefEqProofs (disch:=omega)[hρ,g0];refine Q5 (ref03_Form_a x.op hop.1 hop.2) ?_;push_cast -implicitDefEqProofs (disch:=omega);exact hN _ _ oz
 clear hρ ε;rintro ε σ ⟨hρ,rfl⟩;refine Qc (fun ε σ=>(ε 3=.v (.string (fmS x.op))∧ε 4=.sl 3 (aI3 x) .full)) ?_ ?_
 ·intro N X R hN;push_cast -implicitDefEqProofs (disch:=omega)[hρ,g1,g2,g3];refine QA (sz:=1) (by intro a ha;simp at ha;rcases ha with rfl|rfl|rfl<;>rfl) ke ?_;push_cast -implicitDefEqProofs (disch:=omega);exact hN _ _ (by push_cast -implicitDefEqProofs (disch:=omega)[hρ];rfl)
 clear hρ ε;rintro ε σ hρ;refine Qt (fun ε σ=>(ε 3=.v (.string (fmS x.op))∧ε 4=.sl 3 (aI3 x) .full)∧((letX x).zip (opsX x)).all (fun p=>fitB p.1 p.2)=true) ?_ ?_
 ·intro N hN;push_cast -implicitDefEqProofs (disch:=omega)
  refine ZE (α:=Nat) (I:=fun k ε σ=>(ε 3=.v (.string (fmS x.op))∧ε 4=.sl 3 (aI3 x) .full∧ε 5=.v (.int .i64 k))∧k≤(letX x).length∧(((letX x).zip (opsX x)).take k).all (fun p=>fitB p.1 p.2)=true)
   (μ:=fun k=>(letX x).length - k) (Q:=fun ε σ=>(ε 3=.v (.string (fmS x.op))∧ε 4=.sl 3 (aI3 x) .full)∧((letX x).zip (opsX x)).all (fun p=>fitB p.1 p.2)=true) (x:=0) ?_ ?_ hN
  ·push_cast -implicitDefEqProofs (disch:=omega)[hρ];exact ⟨by omega,rfl⟩
  ·clear hN N hρ ε;rintro k ε σ N E ⟨hρ,hk,hall⟩ hN hE';by_cases hlt:k < (letX x).length
   ·obtain ⟨b,hb⟩:=Q23 hlt;obtain ⟨n,hn⟩:=Q23 (l:=opsX x) (k:=k) (by show k < 3;omega);have hn':(aI3 x)[k]?=some (.v (.int .i64 n)):=by rw[Y72,List.getElem?_map,hn];rfl
    have hz:=zip_all (f:=fun _=>true) hb hn;have hsu:=Qp hz;have hex:(fmS x.op).extract k (k+1)=⟨#[b]⟩:=str_one (by show (letX x)[k]?=some b;exact hb);have hss:PF.val (.sls true true) [.string (fmS x.op),.int .i64 k,.int .i64 (k+1)]=some (.string ⟨#[b]⟩):=by rw[pv_sls_lh _ _ _ _ _ ka ka ka];rw[show (((k:Nat):Int)).toNat=k by omega,show (((k:Nat):Int)+1).toNat=k+1 by omega,hex]
    have hf:fitB b n=decide ((endsB b).1≤n∧n≤(endsB b).2):=rfl;push_cast -implicitDefEqProofs (disch:=omega)[hρ,hsz,hss];refine Q5 (ref03_ends_a b) ?_;generalize endsB b=lh at hf;by_cases d1:n < lh.1
    ·have hfn:fitB b n=false:=by rw[hf];simp;omega
     have e:insE x=3:=by rw[hE,if_neg];rw[List.all_eq_true];intro h;have:=h (b,n) (List.mem_of_getElem? hz);simp only[hfn] at this;cases this
     rw[e];push_cast -implicitDefEqProofs (disch:=omega)[hρ,aInt,hn',d1];exact oo
    by_cases d2:lh.2 < n
    ·have hfn:fitB b n=false:=by rw[hf];simp;omega
     have e:insE x=3:=by rw[hE,if_neg];rw[List.all_eq_true];intro h;have:=h (b,n) (List.mem_of_getElem? hz);simp only[hfn] at this;cases this
     rw[e];push_cast -implicitDefEqProofs (disch:=omega)[hρ,aInt,hn',d1,d2];exact oo
    have hfn:fitB b n=true:=by rw[hf];simp;omega
    push_cast -implicitDefEqProofs (disch:=omega)[hρ,aInt,hn',d1,d2];exact hN (k+1) _ _ ⟨by push_cast -implicitDefEqProofs (disch:=omega)[hρ],by omega,by rw[hsu,List.all_append,hall];simp[hfn]⟩ ka
   ·push_cast -implicitDefEqProofs (disch:=omega)[hρ,hsz];refine hE' _ _ ⟨by push_cast -implicitDefEqProofs (disch:=omega)[hρ],?_⟩;rw[List.take_of_length_le] at hall
    ·exact hall
    ·rw[List.length_zip];omega
 clear hρ ε;rintro ε σ ⟨hρ,hall⟩;rw[hE,if_pos hall];refine Qt (fun ε σ=>((opsX x).drop (letX x).length).all (fun n=>decide (n=0))=true) ?_ ?_
 ·intro N hN;push_cast -implicitDefEqProofs (disch:=omega)[hρ,hsz]
  refine ZE (α:=Nat) (I:=fun k ε σ=>(ε 4=.sl 3 (aI3 x) .full∧ε 8=.v (.int .i64 k))∧(letX x).length≤k∧k≤3∧(((opsX x).take k).drop (letX x).length).all (fun n=>decide (n=0))=true)
   (μ:=fun k=>3 - k) (Q:=fun ε σ=>((opsX x).drop (letX x).length).all (fun n=>decide (n=0))=true) (x:=(letX x).length) ?_ ?_ hN
  ·push_cast -implicitDefEqProofs (disch:=omega)[hρ];exact ⟨by omega,by omega,by rw[List.drop_of_length_le oJ];rfl⟩
  ·clear hρ ε hN N;rintro k ε σ N E ⟨hρ,hLk,hk,ha⟩ hN hE';by_cases hlt:k < 3
   ·obtain ⟨n,hn⟩:=Q23 (l:=opsX x) (k:=k) hlt;have hn':(aI3 x)[k]?=some (.v (.int .i64 n)):=by rw[Y72,List.getElem?_map,hn];rfl
    have hsu:=Qp hn;have hlt':(k:Int) < 3:=by omega
    by_cases h0:n=0
    ·rw[h0] at hn';push_cast -implicitDefEqProofs (disch:=omega)[hρ,hn',hlt'];refine hN (k+1) _ _ ⟨by push_cast -implicitDefEqProofs (disch:=omega)[hρ],by omega,by omega,?_⟩ ka;rw[hsu,List.drop_append_of_le_length (by rw[List.length_take];show _≤min k 3;omega),List.all_append,ha];simp[h0]
    ·have e:(((opsX x).drop (letX x).length).all fun n=>decide (n=0))=false:=by rw[List.all_eq_false];refine ⟨n,?_,by simpa using h0⟩;refine List.mem_of_getElem? (i:=k - (letX x).length) ?_;rw[List.getElem?_drop,show (letX x).length+(k - (letX x).length)=k by omega];exact hn
     rw[e];push_cast -implicitDefEqProofs (disch:=omega)[hρ,hn',h0,hlt'];exact oo
   ·have hlt':¬(k:Int) < 3:=by omega
    push_cast -implicitDefEqProofs (disch:=omega)[hρ,hlt'];rw[List.take_of_length_le (by show 3≤k;omega)] at ha;exact hE' _ _ ha
 rintro ε σ h;rw[if_pos h];push_cast -implicitDefEqProofs (disch:=omega);exact oo
theorem X99 (n most:Int):FnP Tryz.prog 190 [aInt n,aInt most] fun a=>a=aInt (manyE n most):=by
 refine Qj ZX.2 mixed rfl o7 ?_;simp only[ZX,aInt,qH];unfold manyE;by_cases c1:n=0
 ·push_cast -implicitDefEqProofs[c1];exact oo
 by_cases c2:most < n
 ·push_cast -implicitDefEqProofs[c1,c2];exact oo
 ·push_cast -implicitDefEqProofs[c1,c2];exact oo
set_option maxHeartbeats 16000000 in
theorem J9 (m:Int) (fs:List (List Ix)) (hf:okF fs):FnP Tryz.prog 107 [.agg (aPr m fs)] fun a=>a=aInt (prgE m fs):=by
 refine Qj XT mixed rfl (by simp[AV.pureL,AV.pure,Zv]) ?_;simp only[Zr];obtain ⟨hf1,hf2⟩:=hf;have hac:(AV.agg (aPr m fs)).cells=aPr m fs:=rfl;have g0:(aPr m fs)[0]?=some (.v (.int .i64 m)):=rfl;have g1:(aPr m fs)[1]?=some (.sl fs.length (fs.map aIxs) .none):=rfl;refine Qc (fun ε σ=>ε 1=.ref 0 0 0∧σ[0]?=some (.obj 0 (aPr m fs))) ?_ ?_
 ·intro N X R hN;push_cast -implicitDefEqProofs (disch:=omega);refine Qs ?_;push_cast -implicitDefEqProofs (disch:=omega)[hac];exact hN _ _ ⟨by push_cast -implicitDefEqProofs (disch:=omega),rfl⟩
 rintro ε σ ⟨hρ,hs⟩;refine Qt (fun ε σ=>ε 1=.ref 0 0 0∧σ[0]?=some (.obj 0 (aPr m fs))∧¬(m < 0∨256 < m)) ?_ ?_
 ·intro N hN;by_cases c1:m < 0
  ·have e:prgE m fs=3:=by unfold prgE;rw[if_pos (.inl c1)]
   rw[e];push_cast -implicitDefEqProofs (disch:=omega)[hρ,hs,g0,c1];exact oo
  by_cases c2:256 < m
  ·have e:prgE m fs=3:=by unfold prgE;rw[if_pos (.inr c2)]
   rw[e];push_cast -implicitDefEqProofs (disch:=omega)[hρ,hs,g0,c1,c2];exact oo
  push_cast -implicitDefEqProofs (disch:=omega)[hρ,hs,g0,c1,c2];exact hN _ _ ⟨by push_cast -implicitDefEqProofs (disch:=omega)[hρ],hs,by omega⟩
 clear hρ hs ε σ;rintro ε σ ⟨hρ,hs,hm⟩;refine Qc (fun ε σ=>(ε 1=.ref 0 0 0∧ε 3=aInt (manyE fs.length 16))∧σ[0]?=some (.obj 0 (aPr m fs))) ?_ ?_
 ·intro N X R hN;push_cast -implicitDefEqProofs (disch:=omega)[hρ,hs,g1];refine Q5 (X99 fs.length 16) ?_;push_cast -implicitDefEqProofs (disch:=omega)[aInt];exact hN _ _ ⟨by push_cast -implicitDefEqProofs (disch:=omega)[hρ,aInt],hs⟩
 clear hρ hs ε σ;rintro ε σ ⟨hρ,hs⟩;refine Qt (fun ε σ=>ε 1=.ref 0 0 0∧σ[0]?=some (.obj 0 (aPr m fs))∧prgE m fs=fnsE fs.length fs) ?_ ?_
 ·intro N hN;by_cases hz:manyE fs.length 16=0
  ·have e:prgE m fs=fnsE fs.length fs:=by unfold prgE;rw[if_neg hm,if_neg (by simp[hz])]
   push_cast -implicitDefEqProofs (disch:=omega)[hρ,aInt,hz];exact hN _ _ ⟨by push_cast -implicitDefEqProofs (disch:=omega)[hρ],hs,e⟩
  ·have e:prgE m fs=manyE fs.length 16:=by unfold prgE;rw[if_neg hm,if_pos hz]
   rw[e];push_cast -implicitDefEqProofs (disch:=omega)[hρ,aInt,hz];exact oo
 clear hρ hs ε σ;rintro ε σ ⟨hρ,hs,hP⟩;rw[hP];refine Qt (fun ε σ=>fnsE fs.length fs=0) ?_ ?_
 ·intro N hN;push_cast -implicitDefEqProofs (disch:=omega)
  refine ZE (α:=Nat) (I:=fun k ε σ=>(ε 1=.ref 0 0 0∧ε 4=.v (.int .i64 k))∧k≤fs.length∧σ[0]?=some (.obj 0 (aPr m fs))∧fnsE fs.length fs=fnsE fs.length (fs.drop k))
   (μ:=fun k=>fs.length - k) (Q:=fun ε σ=>fnsE fs.length fs=0) (x:=0) ?_ ?_ hN
  ·push_cast -implicitDefEqProofs (disch:=omega)[hρ];exact ⟨by omega,hs⟩
  ·clear hN N hρ hs ε σ;rintro k ε σ N E ⟨hρ,hk,hs,hd⟩ hN hE;simp only[Q50];by_cases hlt:k < fs.length
   ·obtain ⟨l,hl⟩:=Q23 hlt;have hll:=hf2 l (List.mem_of_getElem? hl);have hIL:aIxs l=.sl l.length (l.flatMap aIx) .none:=rfl;rw[Yr hl] at hd;simp only[fnsE] at hd;have hnext:fnE l fs.length=0→∀ε' σ',(ε' 1=.ref 0 0 0∧ε' 4=.v (.int .i64 (k+1:Nat)))→σ'[0]?=some (.obj 0 (aPr m fs))→act (N ε' σ'):=by intro hz ε' σ' h1 h2;rw[if_neg (by simp[hz])] at hd;exact hN (k+1) ε' σ' ⟨h1,by omega,h2,hd⟩ ka
    have hbad:∀v:Int,v≠0→fnE l fs.length=v→fnsE fs.length fs=v:=by intro v hv e;rw[hd,e,if_pos hv]
    clear hN hE hd;refine Qt (fun ε σ=>(ε 1=.ref 0 0 0∧ε 4=.v (.int .i64 k))∧σ[0]?=some (.obj 0 (aPr m fs))) ?_ ?_
    ·intro N2 hN2;push_cast -implicitDefEqProofs (disch:=omega)[hρ,hs,g1];exact hN2 _ _ ⟨by push_cast -implicitDefEqProofs (disch:=omega)[hρ],hs⟩
    clear hρ hs ε σ;rintro ε σ ⟨hρ,hs⟩;refine Qt (fun ε σ=>(ε 1=.ref 0 0 0∧ε 4=.v (.int .i64 k))∧σ[0]?=some (.obj 0 (aPr m fs))∧fnE l fs.length=0) ?_ ?_
    ·intro N2 hN2;refine ZF fun X' _=>?_;refine Qc (fun ε σ=>(ε 1=.ref 0 0 0∧ε 4=.v (.int .i64 k)∧ε 5=aIxs l)∧σ[0]?=some (.obj 0 (aPr m fs))) ?_ ?_
     ·intro N3 X3 R3 hN3;push_cast -implicitDefEqProofs (disch:=omega)[hρ,hs,g1,hl];exact hN3 _ _ ⟨by push_cast -implicitDefEqProofs (disch:=omega)[hρ],hs⟩
     clear hρ hs ε σ;rintro ε σ ⟨hρ,hs⟩;refine Qc (fun ε σ=>(ε 1=.ref 0 0 0∧ε 4=.v (.int .i64 k)∧ε 5=aIxs l∧ε 6=.v (.int .i64 (manyE l.length 200)))∧σ[0]?=some (.obj 0 (aPr m fs))) ?_ ?_
     ·intro N3 X3 R3 hN3;push_cast -implicitDefEqProofs (disch:=omega)[hρ,hIL];refine Q5 (X99 l.length 200) ?_;push_cast -implicitDefEqProofs (disch:=omega)[aInt];exact hN3 _ _ ⟨by push_cast -implicitDefEqProofs (disch:=omega)[hρ,hIL],hs⟩
     clear hρ hs ε σ;rintro ε σ ⟨hρ,hs⟩;refine Qt (fun ε σ=>(ε 1=.ref 0 0 0∧ε 4=.v (.int .i64 k)∧ε 5=aIxs l)∧σ[0]?=some (.obj 0 (aPr m fs))∧manyE l.length 200=0) ?_ ?_
     ·intro N3 hN3;by_cases hz:manyE l.length 200=0
      ·push_cast -implicitDefEqProofs (disch:=omega)[hρ,hz];exact hN3 _ _ ⟨by push_cast -implicitDefEqProofs (disch:=omega)[hρ],hs,hz⟩
      ·rw[hbad (manyE l.length 200) hz (by unfold fnE;rw[if_pos hz])];push_cast -implicitDefEqProofs (disch:=omega)[hρ,hz];exact oo
     clear hρ hs ε σ;rintro ε σ ⟨hρ,hs,hz⟩
     have hpos:0 < l.length:=by
      unfold manyE at hz;rcases Nat.eq_zero_or_pos l.length with h|h
      ·rw[h] at hz;simp at hz
      ·exact h
     have hF:fnE l fs.length=if scanE l.length fs.length l≠0 then scanE l.length fs.length l else lastE l:=by unfold fnE;rw[if_neg (by simp[hz])]
     refine Qt (fun ε σ=>(ε 1=.ref 0 0 0∧ε 4=.v (.int .i64 k)∧ε 5=aIxs l)∧σ[0]?=some (.obj 0 (aPr m fs))∧scanE l.length fs.length l=0) ?_ ?_
     ·intro N3 hN3;push_cast -implicitDefEqProofs (disch:=omega)
      refine ZE (α:=Nat) (I:=fun j ε σ=>(ε 1=.ref 0 0 0∧ε 4=.v (.int .i64 k)∧ε 5=aIxs l∧ε 7=.v (.int .i64 j))∧j≤l.length∧σ[0]?=some (.obj 0 (aPr m fs))∧scanE l.length fs.length l=scanE l.length fs.length (l.drop j))
       (μ:=fun j=>l.length - j) (Q:=fun ε σ=>(ε 1=.ref 0 0 0∧ε 4=.v (.int .i64 k)∧ε 5=aIxs l)∧σ[0]?=some (.obj 0 (aPr m fs))∧scanE l.length fs.length l=0) (x:=0) ?_ ?_ hN3
      ·push_cast -implicitDefEqProofs (disch:=omega)[hρ,hIL];exact ⟨by omega,hs⟩
      ·clear hN3 N3 hρ hs ε σ;rintro j ε σ N E ⟨hρ,hj,hs,hsc⟩ hN hE;simp only[Q49];by_cases hlj:j < l.length
       ·obtain ⟨x,hx⟩:=Q23 hlj;have hd:=QQ X04 hx
        have hc0:(l.flatMap aIx)[j * 4]?=some (.v (.int .i64 x.op)):=by
         have:((l.flatMap aIx).drop (j * 4))[0]?=some (.v (.int .i64 x.op)):=by rw[hd];rfl
         rwa [List.getElem?_drop,Nat.add_zero] at this
        have hc1:(l.flatMap aIx)[j * 4+1]?=some (.v (.int .i64 x.a)):=by rw[←List.getElem?_drop,hd];rfl
        have hc2:(l.flatMap aIx)[j * 4+2]?=some (.v (.int .i64 x.b)):=by rw[←List.getElem?_drop,hd];rfl
        rw[Yr hx] at hsc;simp only[scanE] at hsc;refine Qt (fun ε σ=>(ε 1=.ref 0 0 0∧ε 4=.v (.int .i64 k)∧ε 5=aIxs l∧ε 7=.v (.int .i64 j))∧σ[0]?=some (.obj 0 (aPr m fs))) ?_ ?_
        ·intro N4 hN4;push_cast -implicitDefEqProofs (disch:=omega)[hρ,hIL];exact hN4 _ _ ⟨by push_cast -implicitDefEqProofs (disch:=omega)[hρ,hIL],hs⟩
        clear hρ hs ε σ;rintro ε σ ⟨hρ,hs⟩;refine Qt (fun ε σ=>(ε 1=.ref 0 0 0∧ε 4=.v (.int .i64 k)∧ε 5=aIxs l∧ε 7=.v (.int .i64 j))∧σ[0]?=some (.obj 0 (aPr m fs))∧scanE l.length fs.length l=scanE l.length fs.length (l.drop (j+1))) ?_ ?_
        ·intro N4 hN4;refine ZF fun X'' _=>?_;refine Qc (fun ε σ=>(ε 1=.ref 0 0 0∧ε 4=.v (.int .i64 k)∧ε 5=aIxs l∧ε 7=.v (.int .i64 j)∧ε 8=.v (.int .i64 (insE x)))∧σ[0]?=some (.obj 0 (aPr m fs))) ?_ ?_
         ·intro N3 X3 R3 hN3;push_cast -implicitDefEqProofs (disch:=omega)[hρ,hIL,hd,cellsIx];refine Q5 (J8 x) ?_;push_cast -implicitDefEqProofs (disch:=omega)[aInt];exact hN3 _ _ ⟨by push_cast -implicitDefEqProofs (disch:=omega)[hρ,hIL],hs⟩
         clear hρ hs ε σ;rintro ε σ ⟨hρ,hs⟩;refine Qt (fun ε σ=>(ε 1=.ref 0 0 0∧ε 4=.v (.int .i64 k)∧ε 5=aIxs l∧ε 7=.v (.int .i64 j))∧σ[0]?=some (.obj 0 (aPr m fs))∧insE x=0) ?_ ?_
         ·intro N5 hN5;by_cases hi:insE x=0
          ·push_cast -implicitDefEqProofs (disch:=omega)[hρ,hi];exact hN5 _ _ ⟨by push_cast -implicitDefEqProofs (disch:=omega)[hρ],hs,hi⟩
          ·rw[if_pos hi] at hsc;rw[hbad (insE x) hi (by rw[hF,hsc,if_pos hi])];push_cast -implicitDefEqProofs (disch:=omega)[hρ,hi];exact oo
         clear hρ hs ε σ;rintro ε σ ⟨hρ,hs,hi⟩;rw[if_neg (by simp[hi])] at hsc;have hbad2:leadB x l.length fs.length=false→fnsE fs.length fs=11:=fun hb=>by rw[if_pos hb] at hsc;exact hbad 11 ko (by rw[hF,hsc,if_pos ko])
         have hgood:leadB x l.length fs.length=true→scanE l.length fs.length l=scanE l.length fs.length (l.drop (j+1)):=fun hb=>by rw[if_neg (by simp[hb])] at hsc;exact hsc
         clear hsc;by_cases c1:x.op=18
         ·have hL:leadB x l.length fs.length=decide (x.a < l.length):=by unfold leadB;rw[if_pos c1]
          by_cases d:x.a < l.length
          ·push_cast -implicitDefEqProofs (disch:=omega)[hρ,hIL,hc0,hc1,c1,d];exact hN4 _ _ ⟨by push_cast -implicitDefEqProofs (disch:=omega)[hρ,hIL],hs,hgood o6⟩
          ·rw[hbad2 o6];push_cast -implicitDefEqProofs (disch:=omega)[hρ,hIL,hc0,hc1,c1,d];exact oo
         by_cases c2:x.op=19
         ·have hL:leadB x l.length fs.length=decide (x.b < l.length):=by unfold leadB;rw[if_neg c1,if_pos c2]
          by_cases d:x.b < l.length
          ·push_cast -implicitDefEqProofs (disch:=omega)[hρ,hIL,hc0,hc1,hc2,c1,c2,d];exact hN4 _ _ ⟨by push_cast -implicitDefEqProofs (disch:=omega)[hρ,hIL],hs,hgood o6⟩
          ·rw[hbad2 o6];push_cast -implicitDefEqProofs (disch:=omega)[hρ,hIL,hc0,hc1,hc2,c1,c2,d];exact oo
         by_cases c3:x.op=20
         ·have hL:leadB x l.length fs.length=decide (x.a < fs.length):=by unfold leadB;rw[if_neg c1,if_neg c2,if_pos (.inl c3)]
          by_cases d:x.a < fs.length
          ·push_cast -implicitDefEqProofs (disch:=omega)[hρ,hIL,hc0,hc1,hc2,c1,c2,c3,d,hs,g1];exact hN4 _ _ ⟨by push_cast -implicitDefEqProofs (disch:=omega)[hρ,hIL],hs,hgood o6⟩
          ·rw[hbad2 o6];push_cast -implicitDefEqProofs (disch:=omega)[hρ,hIL,hc0,hc1,hc2,c1,c2,c3,d,hs,g1];exact oo
         by_cases c4:x.op=22
         ·have hL:leadB x l.length fs.length=decide (x.a < fs.length):=by unfold leadB;rw[if_neg c1,if_neg c2,if_pos (.inr c4)]
          by_cases d:x.a < fs.length
          ·push_cast -implicitDefEqProofs (disch:=omega)[hρ,hIL,hc0,hc1,hc2,c1,c2,c3,c4,d,hs,g1];exact hN4 _ _ ⟨by push_cast -implicitDefEqProofs (disch:=omega)[hρ,hIL],hs,hgood o6⟩
          ·rw[hbad2 o6];push_cast -implicitDefEqProofs (disch:=omega)[hρ,hIL,hc0,hc1,hc2,c1,c2,c3,c4,d,hs,g1];exact oo
         have hL:leadB x l.length fs.length=true:=by unfold leadB;rw[if_neg c1,if_neg c2,if_neg ka]
         push_cast -implicitDefEqProofs (disch:=omega)[hρ,hIL,hc0,hc1,hc2,c1,c2,c3,c4,hs,g1];exact hN4 _ _ ⟨by push_cast -implicitDefEqProofs (disch:=omega)[hρ,hIL],hs,hgood hL⟩
        clear hρ hs ε σ;rintro ε σ ⟨hρ,hs,hsc2⟩;push_cast -implicitDefEqProofs (disch:=omega)[hρ];exact hN (j+1) _ _ ⟨by push_cast -implicitDefEqProofs (disch:=omega)[hρ],by omega,hs,hsc2⟩ ka
       ·push_cast -implicitDefEqProofs (disch:=omega)[hρ,hIL];obtain rfl:j=l.length:=by omega
        rw[List.drop_length] at hsc;exact hE _ _ ⟨by push_cast -implicitDefEqProofs (disch:=omega)[hρ,hIL],hs,hsc⟩
     clear hρ hs ε σ;rintro ε σ ⟨hρ,hs,hsc⟩;rw[hsc] at hF;simp only[ne_eq,not_true_eq_false,if_false] at hF;obtain ⟨x,hx⟩:=Q23 (l:=l) (k:=l.length - 1) ka;have hL:lastE l=if endsX x then 0 else 12:=by unfold lastE;rw[hx]
     have hd:=QQ X04 hx
     have hc0:(l.flatMap aIx)[(l.length - 1) * 4]?=some (.v (.int .i64 x.op)):=by
      have:((l.flatMap aIx).drop ((l.length - 1) * 4))[0]?=some (.v (.int .i64 x.op)):=by rw[hd];rfl
      rwa [List.getElem?_drop,Nat.add_zero] at this
     have tn:((l.length:Int) - 1).toNat=l.length - 1:=by omega
     by_cases c1:x.op=0
     ·have e:endsX x=true:=by unfold endsX;simp[c1]
      push_cast -implicitDefEqProofs (disch:=omega)[hρ,hIL,tn,hc0,c1];exact hN2 _ _ ⟨by push_cast -implicitDefEqProofs (disch:=omega)[hρ],hs,by rw[hF,hL,e];rfl⟩
     by_cases c2:x.op=18
     ·have e:endsX x=true:=by unfold endsX;simp[c2]
      push_cast -implicitDefEqProofs (disch:=omega)[hρ,hIL,tn,hc0,c1,c2];exact hN2 _ _ ⟨by push_cast -implicitDefEqProofs (disch:=omega)[hρ],hs,by rw[hF,hL,e];rfl⟩
     by_cases c3:x.op=25
     ·have e:endsX x=true:=by unfold endsX;simp[c3]
      push_cast -implicitDefEqProofs (disch:=omega)[hρ,hIL,tn,hc0,c1,c2,c3];exact hN2 _ _ ⟨by push_cast -implicitDefEqProofs (disch:=omega)[hρ],hs,by rw[hF,hL,e];rfl⟩
     have e:endsX x=false:=by unfold endsX;simp[c1,c2,c3]
     rw[hbad 12 ko (by rw[hF,hL,e];rfl)];push_cast -implicitDefEqProofs (disch:=omega)[hρ,hIL,tn,hc0,c1,c2,c3];exact oo
    clear hρ hs ε σ;rintro ε σ ⟨hρ,hs,hz⟩;push_cast -implicitDefEqProofs (disch:=omega)[hρ];exact hnext hz _ _ oz hs
   ·push_cast -implicitDefEqProofs (disch:=omega)[hρ,hs,g1];obtain rfl:k=fs.length:=by omega
    rw[List.drop_length] at hd;exact hE _ _ hd
 rintro ε σ h;rw[h];push_cast -implicitDefEqProofs (disch:=omega);exact oo
end Go.Proofs.YtelibaobkcokdaaGreat
namespace Go.Proofs.YtelibaobkcokdaaGreat.Mx
set_option linter.unusedVariables false
set_option linter.unusedSimpArgs false
open Go Go.Kx Go.Proofs Go.Proofs.YtelibaobkcokdaaGreat
set_option maxRecDepth 8000
theorem planB_iff (q:Pm):planB q=true↔((1≤q.W∧q.W≤64)∧(1≤q.F∧q.F≤256)∧(1≤q.T∧q.T≤64)∧(2≤q.D∧q.D≤256)):=by unfold planB cl;rw[decide_eq_true_iff];omega
theorem XC {q:Pm} (h:¬((1≤q.W∧q.W≤64)∧(1≤q.F∧q.F≤256)∧(1≤q.T∧q.T≤64)∧(2≤q.D∧q.D≤256))):planB q=false:=by rw[←planB_iff] at h;simpa using h
set_option maxHeartbeats 4000000 in
theorem Ja (q:Pm):FnP Tryz.prog 108 [.agg (aPl q)] fun r=>r=aBool (planB q):=by
 refine Qj Zn.2 mixed rfl (by simp[AV.pureL,AV.pure,Ya]) ?_;simp only[Zn,qH];have g0:(aPl q)[Int.toNat 0]?=some (.v (.int .i64 q.W)):=rfl;push_cast -implicitDefEqProofs;refine Q6 ?_;by_cases w1:1≤q.W
 ·by_cases w2:q.W≤64
  ·by_cases f1:1≤q.F
   ·by_cases f2:q.F≤256
    ·by_cases t1:1≤q.T
     ·by_cases t2:q.T≤64
      ·by_cases d1:2≤q.D
       ·by_cases d2:q.D≤256
        ·rw[(planB_iff q).2 ⟨⟨w1,w2⟩,⟨f1,f2⟩,⟨t1,t2⟩,⟨d1,d2⟩⟩];push_cast -implicitDefEqProofs[Qi,pl0,pl1,pl2,pl3,w1,w2,f1,f2,t1,t2,d1,d2];exact oo
        ·rw[XC ka];push_cast -implicitDefEqProofs[Qi,pl0,pl1,pl2,pl3,w1,w2,f1,f2,t1,t2,d1,d2];exact oo
       ·rw[XC ka];push_cast -implicitDefEqProofs[Qi,pl0,pl1,pl2,pl3,w1,w2,f1,f2,t1,t2,d1];exact oo
      ·rw[XC ka];push_cast -implicitDefEqProofs[Qi,pl0,pl1,pl2,pl3,w1,w2,f1,f2,t1,t2];exact oo
     ·rw[XC ka];push_cast -implicitDefEqProofs[Qi,pl0,pl1,pl2,pl3,w1,w2,f1,f2,t1];exact oo
    ·rw[XC ka];push_cast -implicitDefEqProofs[Qi,pl0,pl1,pl2,pl3,w1,w2,f1,f2];exact oo
   ·rw[XC ka];push_cast -implicitDefEqProofs[Qi,pl0,pl1,pl2,pl3,w1,w2,f1];exact oo
  ·rw[XC ka];push_cast -implicitDefEqProofs[Qi,pl0,pl1,pl2,pl3,w1,w2];exact oo
 ·rw[XC ka];push_cast -implicitDefEqProofs[Qi,pl0,pl1,pl2,pl3,w1];exact oo
theorem q_0 (q:Pm):(aPr q)[0]?=some (.v (.int .i64 q.W)):=rfl
theorem q_1 (q:Pm):(aPr q)[1]?=some (.v (.int .i64 q.T)):=rfl
theorem q_2 (q:Pm):(aPr q)[2]?=some (.v (.int .i64 q.F)):=rfl
theorem q_3 (q:Pm):(aPr q)[3]?=some (.v (.int .i64 q.D)):=rfl
theorem q_4 (q:Pm):(aPr q)[4]?=some (.v (.int .i64 q.O)):=rfl
set_option maxHeartbeats 4000000 in
theorem Jc (m:Int) (fs:List (List Ix)) (hf:okF fs) (inp:List Int) (q:Pm):FnP Tryz.prog 55 [.agg (Go.Proofs.YtelibaobkcokdaaGreat.aPr m fs),aInts inp,.agg (aPr q)] fun a=>a=aInt (coreE m fs inp q):=by
 refine Qj Zm.2 mixed rfl (by simp[AV.pureL,AV.pure,Go.Proofs.YtelibaobkcokdaaGreat.Zv,YY,Z49]) ?_;simp only[Zm,qH];have hac:(AV.agg (Go.Proofs.YtelibaobkcokdaaGreat.aPr m fs)).cells=Go.Proofs.YtelibaobkcokdaaGreat.aPr m fs:=rfl;have haq:(AV.agg (aPr q)).cells=aPr q:=rfl;have c2:cellsA (some 2) (Go.Proofs.YtelibaobkcokdaaGreat.aPr m fs)=some (.agg (Go.Proofs.YtelibaobkcokdaaGreat.aPr m fs)):=rfl;have m0:(Go.Proofs.YtelibaobkcokdaaGreat.aPr m fs)[0]?=some (.v (.int .i64 m)):=rfl;have hII:aInts inp=.sl inp.length (inp.map aInt) .none:=rfl;have hb:fillA [AV.v (.int .i64 0),AV.v (.int .i64 0),AV.v (.int .i64 0),AV.v (.int .i64 0)] [(0,1),(1,1),(2,1),(3,1)] [.v (.int .i64 q.W),.v (.int .i64 q.F),.v (.int .i64 q.T),.v (.int .i64 q.D)]=some (aPl q):=by simp[fillA,AV.cells,Value.cells,setAtA,aPl]
 push_cast -implicitDefEqProofs (disch:=omega);refine Q6 ?_;push_cast -implicitDefEqProofs (disch:=omega)[hac];refine Q6 ?_;push_cast -implicitDefEqProofs (disch:=omega)[haq,c2];refine Q5 (J9 m fs hf) ?_;by_cases c1:prgE m fs=0
 ·push_cast -implicitDefEqProofs (disch:=omega)[aInt,c1,q_0,q_1,q_2,q_3,hb];refine Q5 (Ja q) ?_
  cases c2':planB q with
  | false=>
   have e:coreE m fs inp q=3:=by unfold coreE;rw[if_neg (by simp[c1]),if_pos (.inl c2')]
   rw[e];push_cast -implicitDefEqProofs (disch:=omega)[aBool];exact oo
  | true=>
   by_cases c3:q.O < 0
   ·have e:coreE m fs inp q=3:=by unfold coreE;rw[if_neg (by simp[c1]),if_pos (.inr (.inl c3))]
    rw[e];push_cast -implicitDefEqProofs (disch:=omega)[aBool,q_4,c3];exact oo
   by_cases c4:1000 < q.O
   ·have e:coreE m fs inp q=3:=by unfold coreE;rw[if_neg (by simp[c1]),if_pos (.inr (.inr c4))]
    rw[e];push_cast -implicitDefEqProofs (disch:=omega)[aBool,q_4,c3,c4];exact oo
   by_cases c5:m < inp.length
   ·have e:coreE m fs inp q=9:=by unfold coreE;rw[if_neg (by simp[c1]),if_neg (by simp[c2',c3,c4]),if_pos c5]
    rw[e];push_cast -implicitDefEqProofs (disch:=omega)[aBool,q_4,c3,c4,hII,m0,c5];exact oo
   ·have e:coreE m fs inp q=0:=by unfold coreE;rw[if_neg (by simp[c1]),if_neg (by simp[c2',c3,c4]),if_neg c5]
    rw[e];push_cast -implicitDefEqProofs (disch:=omega)[aBool,q_4,c3,c4,hII,m0,c5];exact oo
 ·have e:coreE m fs inp q=prgE m fs:=by unfold coreE;rw[if_pos (by simpa using c1)]
  rw[e];push_cast -implicitDefEqProofs (disch:=omega)[aInt,c1];exact oo
def aPx (x:Int×Int):List AV:=[.v (.int .i64 x.1),.v (.int .i64 x.2)]
def aPxs (l:List (Int×Int)):AV:=.sl l.length (l.flatMap aPx) .none
theorem aPx_len (x:Int×Int):(aPx x).length=2:=rfl
theorem aPxs_pure (l:List (Int×Int)):(aPxs l).pure=true:=by
 have:AV.pureL (l.flatMap aPx)=true:=by
  induction l with
  | nil=>rfl
  | cons x l ih=>rw[List.flatMap_cons,show ∀k,AV.pureL (aPx x++k)=AV.pureL k from fun k=>by simp[aPx,AV.pureL,AV.pure]];exact ih
 simp[aPxs,AV.pure,this]
theorem c2k (e:Int×Int) (t:List AV):cellsA (some 2) (aPx e++t)=some (.agg (aPx e)):=by simp[cellsA,aPx]
set_option maxHeartbeats 4000000 in
theorem Jd (m:Int) (fs:List (List Ix)) (hl:fs.length≤9223372036854775807) (inp:List Int) (q:Pm) (sc:List (Int×Int)):FnP Tryz.prog 18 [.agg (Go.Proofs.YtelibaobkcokdaaGreat.aPr m fs),aInts inp,.agg (aPr q),aPxs sc] fun a=>∃b,a=aBool b∧(b=false→okF fs∧inp.length≤1000∧sc.length≤20000):=by
 refine Qj Zl.2 mixed rfl (by simp[AV.pureL,AV.pure,Go.Proofs.YtelibaobkcokdaaGreat.Zv,YY,Z49,aPxs_pure]) ?_;simp only[Zl,qH];have hac:(AV.agg (Go.Proofs.YtelibaobkcokdaaGreat.aPr m fs)).cells=Go.Proofs.YtelibaobkcokdaaGreat.aPr m fs:=rfl;have haq:(AV.agg (aPr q)).cells=aPr q:=rfl;have c2:cellsA (some 2) (Go.Proofs.YtelibaobkcokdaaGreat.aPr m fs)=some (.agg (Go.Proofs.YtelibaobkcokdaaGreat.aPr m fs)):=rfl;have c7:cellsA (some 7) (aPr q)=some (.agg (aPr q)):=rfl;have hII:aInts inp=.sl inp.length (inp.map aInt) .none:=rfl;have hPP:aPxs sc=.sl sc.length (sc.flatMap aPx) .none:=rfl;push_cast -implicitDefEqProofs (disch:=omega);refine Q6 ?_;push_cast -implicitDefEqProofs (disch:=omega)[hac];refine Q6 ?_;push_cast -implicitDefEqProofs (disch:=omega)[haq,c2];refine Qv (J3 m fs hl) ?_;rintro a ⟨b,rfl,hb⟩
 cases b with
 | true=>push_cast -implicitDefEqProofs (disch:=omega)[aBool];exact oq
 | false=>
  have hf:=hb rfl;by_cases c1:1000 < inp.length
  ·push_cast -implicitDefEqProofs (disch:=omega)[aBool,hII,c1];exact oq
  by_cases c3:20000 < sc.length
  ·push_cast -implicitDefEqProofs (disch:=omega)[aBool,hII,c1,hPP,c3];exact oq
  ·push_cast -implicitDefEqProofs (disch:=omega)[aBool,hII,c1,hPP,c3,c2,c7];refine Q5 (Jc m fs hf inp q) ?_;have hfin:∀b:Bool,∃is,(AV.res (Go.Kx.freeze is []) (AV.v (Value.bool b))).pure=true∧∃b',AV.res (Go.Kx.freeze is []) (AV.v (Value.bool b))=.v (.bool b')∧(b'=false→okF fs∧inp.length≤1000∧sc.length≤20000):=fun b=>⟨[],rfl,b,rfl,fun _=>⟨hf,by omega,by omega⟩⟩;by_cases c4:coreE m fs inp q=0
   ·push_cast -implicitDefEqProofs (disch:=omega)[aInt,c4,q_1,q_2];exact hfin _
   ·push_cast -implicitDefEqProofs (disch:=omega)[aInt,c4];exact hfin _
end Go.Proofs.YtelibaobkcokdaaGreat.Mx
namespace Go.Proofs.YtelibaobkcokdaaGreat.Mx
set_option linter.unusedSectionVars false
set_option linter.unusedVariables false
set_option linter.unusedSimpArgs false
open Go Go.Kx Go.Proofs Go.Proofs.YtelibaobkcokdaaGreat
set_option maxRecDepth 8000
def C0 (s s':Cs):Prop:=s'.steps=s.steps∧s'.probes=s.probes∧s'.steals=s.steals∧s'.parks=s.parks∧s'.naps=s.naps∧s'.folds=s.folds
theorem C0.refl (s:Cs):C0 s s:=⟨rfl,rfl,rfl,rfl,rfl,rfl⟩
theorem C0.trans {s s' s'':Cs} (h:C0 s s') (k:C0 s' s''):C0 s s'':=⟨k.1.trans h.1,k.2.1.trans h.2.1,k.2.2.1.trans h.2.2.1,k.2.2.2.1.trans h.2.2.2.1,k.2.2.2.2.1.trans h.2.2.2.2.1,k.2.2.2.2.2.trans h.2.2.2.2.2⟩
theorem Q51 (s:Cs) (id:Int) (f:Fm):C0 s (s.setFr id f):=by unfold Cs.setFr;split<;>exact ⟨rfl,rfl,rfl,rfl,rfl,rfl⟩
theorem Z45 (s:Cs) (a b:Int):C0 s (s.stop a b):=by unfold Cs.stop;split<;>exact ⟨rfl,rfl,rfl,rfl,rfl,rfl⟩
theorem XQ (s:Cs) (c:Bool) (id:Int) (f:Fm):C0 s (s.setIf c id f):=by unfold Cs.setIf;split;exact Q51 ..;exact .refl _
theorem X58 (s:Cs) (id:Int):C0 s (s.free id):=by unfold Cs.free;split<;>exact ⟨rfl,rfl,rfl,rfl,rfl,rfl⟩
theorem c0_make (q:Pm) (s:Cs) (f:Fm):C0 s (makeF q s f).2:=by
 unfold makeF Cs.make Cs.take
 cases s.nextId with
 | none=>exact Z45 ..
 | some x=>exact ⟨rfl,rfl,rfl,rfl,rfl,rfl⟩
theorem QU (s:Cs) (id:Int) (f:Fm):(s.setFr id f).steps=s.steps:=(Q51 s id f).1
theorem QB (s:Cs) (id:Int) (f:Fm):(s.setFr id f).probes=s.probes:=(Q51 s id f).2.1
theorem QC (s:Cs) (id:Int) (f:Fm):(s.setFr id f).steals=s.steals:=(Q51 s id f).2.2.1
theorem QV (s:Cs) (id:Int) (f:Fm):(s.setFr id f).parks=s.parks:=(Q51 s id f).2.2.2.1
theorem Q10 (s:Cs) (id:Int) (f:Fm):(s.setFr id f).naps=s.naps:=(Q51 s id f).2.2.2.2.1
theorem QW (s:Cs) (id:Int) (f:Fm):(s.setFr id f).folds=s.folds:=(Q51 s id f).2.2.2.2.2
theorem QX (s:Cs) (a b:Int):(s.stop a b).steps=s.steps:=(Z45 s a b).1
theorem QD (s:Cs) (a b:Int):(s.stop a b).probes=s.probes:=(Z45 s a b).2.1
theorem QE (s:Cs) (a b:Int):(s.stop a b).steals=s.steals:=(Z45 s a b).2.2.1
theorem QY (s:Cs) (a b:Int):(s.stop a b).parks=s.parks:=(Z45 s a b).2.2.2.1
theorem Q11 (s:Cs) (a b:Int):(s.stop a b).naps=s.naps:=(Z45 s a b).2.2.2.2.1
theorem QZ (s:Cs) (a b:Int):(s.stop a b).folds=s.folds:=(Z45 s a b).2.2.2.2.2
theorem Q00 (s:Cs) (c:Bool) (id:Int) (f:Fm):(s.setIf c id f).steps=s.steps:=(XQ s c id f).1
theorem QF (s:Cs) (c:Bool) (id:Int) (f:Fm):(s.setIf c id f).probes=s.probes:=(XQ s c id f).2.1
theorem QG (s:Cs) (c:Bool) (id:Int) (f:Fm):(s.setIf c id f).steals=s.steals:=(XQ s c id f).2.2.1
theorem Q01 (s:Cs) (c:Bool) (id:Int) (f:Fm):(s.setIf c id f).parks=s.parks:=(XQ s c id f).2.2.2.1
theorem Q12 (s:Cs) (c:Bool) (id:Int) (f:Fm):(s.setIf c id f).naps=s.naps:=(XQ s c id f).2.2.2.2.1
theorem Q02 (s:Cs) (c:Bool) (id:Int) (f:Fm):(s.setIf c id f).folds=s.folds:=(XQ s c id f).2.2.2.2.2
theorem Q03 (s:Cs) (id:Int):(s.free id).steps=s.steps:=(X58 s id).1
theorem QH (s:Cs) (id:Int):(s.free id).probes=s.probes:=(X58 s id).2.1
theorem QI (s:Cs) (id:Int):(s.free id).steals=s.steals:=(X58 s id).2.2.1
theorem Q04 (s:Cs) (id:Int):(s.free id).parks=s.parks:=(X58 s id).2.2.2.1
theorem Q13 (s:Cs) (id:Int):(s.free id).naps=s.naps:=(X58 s id).2.2.2.2.1
theorem Q05 (s:Cs) (id:Int):(s.free id).folds=s.folds:=(X58 s id).2.2.2.2.2
theorem makeC {q:Pm} {s:Cs} {f:Fm} {r:Option Int} {s':Cs} (h:makeF q s f=(r,s')):C0 s s':=by have:=c0_make q s f;rw[h] at this;exact this
structure Q1 (x y:WC):Prop where
 st:y.2.steps=x.2.steps
 pr:y.2.probes=x.2.probes
 sl:y.2.steals=x.2.steals
 pb:y.1.probed=x.1.probed
 ow:y.1.own=x.1.own
 ns:y.1.state≠1
 u1:x.2.parks≤y.2.parks
 u2:x.2.naps≤y.2.naps
 u3:x.2.folds≤y.2.folds
 up:y.2.parks+y.2.naps+y.2.folds≤x.2.parks+x.2.naps+x.2.folds+1
structure Sm (s:Cs):Prop where
 a:w64 (s.parks+1)=s.parks+1
 b:w64 (s.naps+1)=s.naps+1
 c:w64 (s.folds+1)=s.folds+1
theorem w64_1 {n:Int} (h0:0≤n) (h1:n≤1000000000):w64 (n+1)=n+1:=Q22 ka ka
theorem takes_st (w:Wk) (s:Cs) (id:Int):(w.takes s id).state≠1∧(w.takes s id).probed=w.probed∧(w.takes s id).own=w.own:=by unfold Wk.takes Wk.loops Wk.runs;split<;>exact ⟨by simp,rfl,rfl⟩
theorem Yh {x y:WC} {w:Wk} {s:Cs} {id:Int} (e:y=(w.takes s id,s)) (hs:s.steps=x.2.steps∧s.probes=x.2.probes∧s.steals=x.2.steals∧s.parks=x.2.parks∧s.naps=x.2.naps∧s.folds=x.2.folds) (h1:w.probed=x.1.probed) (h2:w.own=x.1.own):Q1 x y:=by obtain ⟨a,b,c⟩:=takes_st w s id;subst e;obtain ⟨k1,k2,k3,k4,k5,k6⟩:=hs;exact ⟨k1,k2,k3,b.trans h1,c.trans h2,a,by show _≤s.parks;omega,by show _≤s.naps;omega,by show _≤s.folds;omega,by show s.parks+s.naps+s.folds≤_;omega⟩
section
variable {q:Pm} {x:WC}
theorem q1_refl (hn:x.1.state≠1):Q1 x x:=⟨rfl,rfl,rfl,rfl,rfl,hn,by omega,by omega,by omega,by omega⟩
theorem tmxv1 {Pr:Prop} (h:Pr:=by (try dsimp only);(repeat' split);all_goals (first|exact q1_refl hn|exact Yh rfl ⟨rfl,rfl,rfl,rfl,rfl,rfl⟩ rfl rfl|exact Yh rfl oy rfl rfl|(constructor<;>first|rfl|exact hn|(simp[QU,QB,QC,QV,Q10,QW,QX,QD,QE,QY,Q11,QZ,Q00,QF,QG,Q01,Q12,Q02,Q03,QH,QI,Q04,Q13,Q05,Cs.setW,Cs.note,Wk.runs,Wk.loops,Wk.goes,Wk.pushes,hn];done)|(simp[QU,QB,QC,QV,Q10,QW,QX,QD,QE,QY,Q11,QZ,Q00,QF,QG,Q01,Q12,Q02,Q03,QH,QI,Q04,Q13,Q05,Cs.setW,Cs.note,Wk.runs,Wk.loops,Wk.goes,Wk.pushes,ha,hb,hc];omega)|(simp[QU,QB,QC,QV,Q10,QW,QX,QD,QE,QY,Q11,QZ,Q00,QF,QG,Q01,Q12,Q02,Q03,QH,QI,Q04,Q13,Q05,Cs.setW,Cs.note,Wk.runs,Wk.loops,Wk.goes,Wk.pushes];omega)))):Pr:=h
theorem q_popF (hm:Sm x.2) (hn:x.1.state≠1):Q1 x (popF q x):=by have ha:=hm.a;have hb:=hm.b;have hc:=hm.c;unfold popF stepD;exact tmxv1
theorem q_pushF (hm:Sm x.2) (hn:x.1.state≠1):Q1 x (pushF q x):=by have ha:=hm.a;have hb:=hm.b;have hc:=hm.c;unfold pushF stepD thenF looksOnF checksF decideF dueF stopF;exact tmxv1
theorem q_joinedF (hm:Sm x.2) (hn:x.1.state≠1):Q1 x (joinedF q x):=by have ha:=hm.a;have hb:=hm.b;have hc:=hm.c;unfold joinedF;exact tmxv1
theorem q_spawnF (hm:Sm x.2) (hn:x.1.state≠1):Q1 x (spawnF q x):=by have ha:=hm.a;have hb:=hm.b;have hc:=hm.c;unfold spawnF;exact tmxv1
theorem q_arriveF (hm:Sm x.2) (hn:x.1.state≠1):Q1 x (arriveF q x):=by have ha:=hm.a;have hb:=hm.b;have hc:=hm.c;unfold arriveF;exact tmxv1
theorem q_resumeF (hm:Sm x.2) (hn:x.1.state≠1):Q1 x (resumeF q x):=by have ha:=hm.a;have hb:=hm.b;have hc:=hm.c;unfold resumeF;exact tmxv1
theorem q_advanceF (hm:Sm x.2) (hn:x.1.state≠1):Q1 x (advanceF q x):=by have ha:=hm.a;have hb:=hm.b;have hc:=hm.c;unfold advanceF looksOnF checksF noteF;exact tmxv1
theorem q_peekF (hm:Sm x.2) (hn:x.1.state≠1):Q1 x (peekF q x):=by have ha:=hm.a;have hb:=hm.b;have hc:=hm.c;unfold peekF checksF decideF dueF;exact tmxv1
theorem q_checkF2 (hm:Sm x.2) (hn:x.1.state≠1):Q1 x (checkF2 q x):=by have ha:=hm.a;have hb:=hm.b;have hc:=hm.c;unfold checkF2 stopF decideF dueF;exact tmxv1
theorem q_lookF (hm:Sm x.2) (hn:x.1.state≠1):Q1 x (lookF q x):=by have ha:=hm.a;have hb:=hm.b;have hc:=hm.c;unfold lookF dueF checksF stopF;exact tmxv1
theorem q_parksF (hm:Sm x.2) (hn:x.1.state≠1):Q1 x (parksF q x):=by have ha:=hm.a;have hb:=hm.b;have hc:=hm.c;unfold parksF;exact tmxv1
theorem q_endsF (hm:Sm x.2) (hn:x.1.state≠1):Q1 x (endsF q x):=by have ha:=hm.a;have hb:=hm.b;have hc:=hm.c;unfold endsF checksF noteF;exact tmxv1
theorem q_closesF (hm:Sm x.2) (hn:x.1.state≠1):Q1 x (closesF q x):=by have ha:=hm.a;have hb:=hm.b;have hc:=hm.c;unfold closesF;exact tmxv1
theorem q_dropF (hm:Sm x.2) (hn:x.1.state≠1):Q1 x (dropF q x):=by have ha:=hm.a;have hb:=hm.b;have hc:=hm.c;unfold dropF nextF;exact tmxv1
theorem q_finishF (hm:Sm x.2) (hn:x.1.state≠1):Q1 x (finishF q x):=by have ha:=hm.a;have hb:=hm.b;have hc:=hm.c;unfold finishF;exact tmxv1
theorem q_completeF (hm:Sm x.2) (hn:x.1.state≠1):Q1 x (completeF x):=by have ha:=hm.a;have hb:=hm.b;have hc:=hm.c;unfold completeF;exact tmxv1
theorem tmxv2 {Pr:Prop} (h:Pr:=by (try dsimp only);(repeat' split);all_goals (first|exact q1_refl hn|exact Yh rfl ⟨rfl,rfl,rfl,rfl,rfl,rfl⟩ rfl rfl|exact Yh rfl oy rfl rfl|(constructor<;>first|rfl|exact hn|(simp[QU,QB,QC,QV,Q10,QW,QX,QD,QE,QY,Q11,QZ,Q00,QF,QG,Q01,Q12,Q02,Q03,QH,QI,Q04,Q13,Q05,Cs.setW,Cs.note,Wk.runs,Wk.loops,Wk.goes,Wk.pushes,hn];done)|(simp[QU,QB,QC,QV,Q10,QW,QX,QD,QE,QY,Q11,QZ,Q00,QF,QG,Q01,Q12,Q02,Q03,QH,QI,Q04,Q13,Q05,Cs.setW,Cs.note,Wk.runs,Wk.loops,Wk.goes,Wk.pushes,ha,hb,hc];omega)|(simp[QU,QB,QC,QV,Q10,QW,QX,QD,QE,QY,Q11,QZ,Q00,QF,QG,Q01,Q12,Q02,Q03,QH,QI,Q04,Q13,Q05,Cs.setW,Cs.note,Wk.runs,Wk.loops,Wk.goes,Wk.pushes];omega))|(rename_i h;obtain ⟨k1,k2,k3,k4,k5,k6⟩:=makeC h;first|exact ⟨k1,k2,k3,rfl,rfl,hn,by show _≤_;omega,by show _≤_;omega,by show _≤_;omega,by show _≤_;omega⟩|constructor<;>first|rfl|exact hn|(simp[QU,QB,QC,QV,Q10,QW,QX,QD,QE,QY,Q11,QZ,Q00,QF,QG,Q01,Q12,Q02,Q03,QH,QI,Q04,Q13,Q05,Cs.setW,Cs.note,Wk.runs,Wk.loops,Wk.goes,Wk.pushes,hn,k1,k2,k3,k4,k5,k6];done)|(simp[QU,QB,QC,QV,Q10,QW,QX,QD,QE,QY,Q11,QZ,Q00,QF,QG,Q01,Q12,Q02,Q03,QH,QI,Q04,Q13,Q05,Cs.setW,Cs.note,Wk.runs,Wk.loops,Wk.goes,Wk.pushes,k1,k2,k3,k4,k5,k6];omega)))):Pr:=h
theorem q_startF (hm:Sm x.2) (hn:x.1.state≠1):Q1 x (startF q x):=by have ha:=hm.a;have hb:=hm.b;have hc:=hm.c;unfold startF;exact tmxv2
theorem q_loopF (hm:Sm x.2) (hn:x.1.state≠1):Q1 x (loopF q x):=by have ha:=hm.a;have hb:=hm.b;have hc:=hm.c;unfold loopF startF;exact tmxv2
theorem q_napsF (hm:Sm x.2) (hn:x.1.state≠1):Q1 x (napsF q x):=by have ha:=hm.a;have hb:=hm.b;have hc:=hm.c;unfold napsF;exact tmxv1
theorem q_countF (hm:Sm x.2) (hn:x.1.state≠1):Q1 x (countF q x):=by have ha:=hm.a;have hb:=hm.b;have hc:=hm.c;unfold countF;exact tmxv1
theorem q_nameF2 (hm:Sm x.2) (hn:x.1.state≠1):Q1 x (nameF2 q x):=by have ha:=hm.a;have hb:=hm.b;have hc:=hm.c;unfold nameF2;exact tmxv1
theorem q_joinsF (hm:Sm x.2) (hn:x.1.state≠1):Q1 x (joinsF q x):=by have ha:=hm.a;have hb:=hm.b;have hc:=hm.c;unfold joinsF noteF;exact tmxv1
theorem q_forkF (f:Fm) (pc:Int) (fn:Int) (hm:Sm x.2) (hn:x.1.state≠1):Q1 x (forkF q x f pc fn):=by have ha:=hm.a;have hb:=hm.b;have hc:=hm.c;unfold forkF;exact tmxv2
theorem q_pipeF (f:Fm) (pc:Int) (fn:Int) (hm:Sm x.2) (hn:x.1.state≠1):Q1 x (pipeF q x f pc fn):=by have ha:=hm.a;have hb:=hm.b;have hc:=hm.c;unfold pipeF;exact tmxv2
theorem q_goOnF (f:Fm) (pc:Int) (e:Ef) (hm:Sm x.2) (hn:x.1.state≠1):Q1 x (goOnF x f pc e):=by have ha:=hm.a;have hb:=hm.b;have hc:=hm.c;unfold goOnF;exact tmxv1
theorem q_leaveF (f:Fm) (hm:Sm x.2) (hn:x.1.state≠1):Q1 x (leaveF x f):=by have ha:=hm.a;have hb:=hm.b;have hc:=hm.c;unfold leaveF;exact tmxv1
theorem q_backF (f:Fm) (hm:Sm x.2) (hn:x.1.state≠1):Q1 x (backF x f):=by have ha:=hm.a;have hb:=hm.b;have hc:=hm.c;unfold backF;exact tmxv1
end
end Go.Proofs.YtelibaobkcokdaaGreat.Mx
