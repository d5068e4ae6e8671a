/- forebayref01: sums, products and quotients, bit by bit: the walks. -/
import Derived.Test.YtncdnegdlkmicaaGreatQAra
namespace Go.Proofs.YtncdnegdlkmicaaGreat
set_option linter.unusedVariables false
set_option linter.unusedSimpArgs false
open Go Go.Kx Go.Proofs
abbrev aU64 (n:Nat):AV:=.v (.int .u64 (n:Nat))
def bitN (n i:Nat):Nat:=n / 2 ^ i % 2
theorem X56 (n i:Nat):bitN n i≤1:=by unfold bitN;omega
theorem bitN_mod (n i:Nat):mod2 (shrN n i)=bitN n i:=by simp[mod2,shrN,bitN,Nat.shiftRight_eq_div_pow]
theorem u64_nat (n:Nat):IntKind.u64.wrap (n:Int)=((n % 18446744073709551616:Nat):Int):=by
 simp[IntKind.wrap,IntKind.bits,IntKind.signed]
theorem u64_in {n:Int} (h0:0≤n) (h1:n < 18446744073709551616):IntKind.u64.wrap n=n:=by
 simp[IntKind.wrap,IntKind.bits,IntKind.signed]
 omega
def shlN (x s:Nat):Nat:=x * 2 ^ s % 18446744073709551616
theorem shlN_lt (x s:Nat):shlN x s < 2 ^ 64:=Nat.mod_lt _ (by decide)
theorem v_shlN (x s:Nat) (k:IntKind) (hs:s < 64):PF.val (.bin .shl) [.int .u64 x,.int k s]=some (.int .u64 (shlN x s:Nat)):=by
 have h2:min s 64=s:=by omega
 simp only[PF.val,binV,isSh,if_true,shI,IntKind.bits,Int.toNat_natCast,h2]
 rw[if_neg (by omega)]
 have:(x:Int) * 2 ^ s=((x * 2 ^ s:Nat):Int):=by simp
 rw[this,u64_nat]
 rfl
theorem v_shl_1 (x:Nat):PF.val (.bin .shl) [.int .u64 x,.int .u64 1]=some (.int .u64 (shlN x 1:Nat)):=v_shlN x 1 .u64 (by omega)
theorem or_lt {m n:Nat} (hm:m < 2 ^ 64) (hn:n < 2 ^ 64):m ||| n < 2 ^ 64:=Nat.or_lt_two_pow hm hn
set_option maxHeartbeats 4000000 in
theorem Q52 (n i:Nat) (hi:i < 64):FnP Tryz.prog 104 [aU64 n,aInt i] fun a=>a=aU64 (bitN n i):=by
 refine Qh XA mixed rfl rfl ?_
 simp only[Zq,aInt]
 rw[←bitN_mod]
 push_cast (disch:=omega)
 first|exact ⟨[],rfl,rfl⟩|exact ⟨[],rfl⟩
theorem addS_step (a b i:Nat):(addS a b (i+1)).1=orN (addS a b i).1 (shlN (mod2 (bitN a i+bitN b i+(addS a b i).2)) i)∧(addS a b (i+1)).2=shrN (bitN a i+bitN b i+(addS a b i).2) 1∨64≤i:=by
 by_cases hi:64≤i
 ·exact .inr hi
 refine .inl ⟨?_,?_⟩
 ·have hlt:mod2 (bitN a i+bitN b i+(addS a b i).2) * 2 ^ i < 18446744073709551616:=by
   have h1:mod2 (bitN a i+bitN b i+(addS a b i).2)≤1:=by unfold mod2;omega
   have h2:(2:Nat) ^ i≤2 ^ 63:=Nat.pow_le_pow_right (by omega) (by omega)
   have h3:mod2 (bitN a i+bitN b i+(addS a b i).2) * 2 ^ i≤1 * 2 ^ 63:=Nat.mul_le_mul h1 h2
   omega
  show _=_ ||| _
  unfold shlN
  rw[Nat.mod_eq_of_lt hlt,Nat.mul_comm]
  rfl
 ·show _ / 2=_ >>> 1
  rw[Nat.shiftRight_eq_div_pow]
  rfl
set_option maxHeartbeats 8000000 in
theorem Q53 (a b:Nat) (ha:a < 2 ^ 64) (hb:b < 2 ^ 64):FnP Tryz.prog 99 [aU64 a,aU64 b] fun r=>r=aU64 (plus a b):=by
 refine Qh Xz mixed rfl rfl ?_
 simp only[Zp]
 have hres:(addS a b 64).1=plus a b:=addS_64 ha hb
 refine Q1 (fun ε σ=>ε 0=aU64 a∧ε 1=aU64 b) (fun N X R hN=>by push_cast (disch:=omega);exact hN _ _ (by push_cast (disch:=omega))) ?_
 rintro ε σ hρ
 refine Q1 (fun ε σ=>ε 0=aU64 a∧ε 1=aU64 b∧ε 5=aU64 (addS a b 0).1∧ε 6=aU64 (addS a b 0).2) (fun N X R hN=>by push_cast (disch:=omega)[hρ];exact hN _ _ (by push_cast (disch:=omega)[hρ];try exact ⟨rfl,rfl⟩)) ?_
 clear hρ ε
 rintro ε σ hρ
 refine Q1 (fun ε σ=>ε 5=aU64 (plus a b)) ?_ ?_
 ·intro N X R hN
  push_cast (disch:=omega)[hρ]
  rw[←hres] at hN
  refine XR (α:=Nat) (I:=fun i ε σ=>(ε 0=aU64 a∧ε 1=aU64 b∧ε 5=aU64 (addS a b i).1∧ε 6=aU64 (addS a b i).2∧ε 7=.v (.int .i64 i))∧i≤64)
   (μ:=fun i=>64 - i) (Q:=fun ε σ=>ε 5=aU64 (addS a b 64).1) (x:=0) ?_ ?_ hN
  ·exact ⟨by push_cast (disch:=omega)[hρ],by omega⟩
  ·clear hN N X R hρ ε
   rintro i ε σ N E X R ⟨hρ,hi⟩ hN hE
   simp only[Q56]
   by_cases hlt:i < 64
   ·have hil:(i:Int) < 64:=by omega
    obtain ⟨s1,s2,s3⟩:=addS_spec a b i
    have hn1:(addS a b i).1 < 18446744073709551616:=Nat.lt_of_lt_of_le s1 (show (2:Nat) ^ i≤2 ^ 64 from Nat.pow_le_pow_right (by omega) (by omega))
    rcases addS_step a b i with ⟨e1,e2⟩|h
    ·have b1:=X56 a i
     have b2:=X56 b i
     have hg1:=Q52 a i hlt
     have hg2:=Q52 b i hlt
     generalize bitN a i=x at b1 e1 e2 hg1
     generalize bitN b i=y at b2 e1 e2 hg2
     generalize (addS a b i).1=n at hρ hn1 e1
     generalize (addS a b i).2=c at hρ s3 e1 e2
     have w1:IntKind.u64.wrap ((x:Int)+y)=(x:Int)+y:=u64_in (by omega) (by omega)
     obtain ⟨s,hs⟩:∃s,s=x+y+c:=⟨_,rfl⟩
     have w2:IntKind.u64.wrap ((x:Int)+y+c)=(s:Int):=by rw[u64_in (by omega) (by omega)];omega
     rw[←hs] at e1 e2
     have hm:shlN (mod2 s) i < 18446744073709551616:=shlN_lt _ _
     have hv:=v_shlN (mod2 s) i .i64 hlt
     have hss:s < 18446744073709551616:=by omega
     push_cast (disch:=omega)[hρ,hil]
     refine Q3 hg1 ?_
     rintro r rfl
     push_cast (disch:=omega)[hρ]
     refine Q3 hg2 ?_
     rintro r rfl
     push_cast (disch:=omega)[hρ,w1,w2,hv]
     refine hN (i+1) _ _ ⟨?_,by omega⟩ (by omega)
     push_cast (disch:=omega)[hρ,e1,e2]
     try rfl
    ·omega
   ·have hle:¬(i:Int) < 64:=by omega
    obtain rfl:i=64:=by omega
    push_cast (disch:=omega)[hρ,hle]
    exact hE _ _ hρ.2.2.1
 clear hρ ε
 rintro ε σ h5
 push_cast (disch:=omega)[h5]
 first|exact ⟨[],rfl,rfl⟩|exact ⟨[],rfl⟩
theorem v_cpl64 {n:Nat} (h:n < 18446744073709551616):PF.val .cpl [.int .u64 n]=some (.int .u64 (compl n:Nat)):=by
 have e:PF.val .cpl [.int .u64 n]=some (.int .u64 (IntKind.u64.wrap ((BitVec.ofInt 64 18446744073709551615 ^^^ BitVec.ofInt 64 n).toNat:Int))):=rfl
 have h1:BitVec.ofInt 64 18446744073709551615=BitVec.allOnes 64:=by decide
 have h2:(BitVec.ofInt 64 (n:Int)).toNat=n:=by rw[bv_nat];simp[Nat.mod_eq_of_lt h]
 rw[e,h1,BitVec.allOnes_xor,BitVec.toNat_not,h2]
 have h3:2 ^ 64 - 1 - n=compl n:=rfl
 rw[h3,u64_nat,Nat.mod_eq_of_lt (by unfold compl;omega)]
theorem Ym (n:Nat):compl n < 2 ^ 64:=by unfold compl;omega
theorem plus_lt (a b:Nat):plus a b < 2 ^ 64:=Nat.mod_lt _ (by decide)
theorem timS_lt (a b i:Nat):timS a b i < 2 ^ 64:=by rw[timS_spec];exact Nat.mod_lt _ (by decide)
theorem timS_one {a b i:Nat} (h:bitN b i=1):timS a b (i+1)=plus (timS a b i) (shlN a i):=by
 rw[timS,if_pos (show b / 2 ^ i % 2=1 from h)];rfl
theorem timS_none {a b i:Nat} (h:bitN b i≠1):timS a b (i+1)=timS a b i:=by
 rw[timS,if_neg (show ¬b / 2 ^ i % 2=1 from h)]
set_option maxHeartbeats 8000000 in
theorem Yn (a b:Nat) (ha:a < 2 ^ 64) (hb:b < 2 ^ 64):FnP Tryz.prog 100 [aU64 a,aU64 b] fun r=>r=aU64 (timS a b 64):=by
 refine Qh Z64 mixed rfl rfl ?_
 simp only[Q67]
 refine Q1 (fun ε σ=>ε 0=aU64 a∧ε 1=aU64 b) (fun N X R hN=>by push_cast (disch:=omega);exact hN _ _ (by push_cast (disch:=omega))) ?_
 rintro ε σ hρ
 refine Q1 (fun ε σ=>ε 0=aU64 a∧ε 1=aU64 b∧ε 5=aU64 (timS a b 0)) (fun N X R hN=>by push_cast (disch:=omega)[hρ];exact hN _ _ (by push_cast (disch:=omega)[hρ];try rfl)) ?_
 clear hρ ε
 rintro ε σ hρ
 refine Q1 (fun ε σ=>ε 5=aU64 (timS a b 64)) ?_ ?_
 ·intro N X R hN
  push_cast (disch:=omega)[hρ]
  refine XR (α:=Nat) (I:=fun i ε σ=>(ε 0=aU64 a∧ε 1=aU64 b∧ε 5=aU64 (timS a b i)∧ε 6=.v (.int .i64 i))∧i≤64)
   (μ:=fun i=>64 - i) (Q:=fun ε σ=>ε 5=aU64 (timS a b 64)) (x:=0) ?_ ?_ hN
  ·exact ⟨by push_cast (disch:=omega)[hρ],by omega⟩
  ·clear hN N X R hρ ε
   rintro i ε σ N E X R ⟨hρ,hi⟩ hN hE
   simp only[Q22]
   by_cases hlt:i < 64
   ·have hil:(i:Int) < 64:=by omega
    have hg:=Q52 b i hlt
    by_cases hbit:bitN b i=1
    ·have hst:=timS_one (a:=a) hbit
     have hadd:=Q53 (timS a b i) (shlN a i) (timS_lt a b i) (shlN_lt a i)
     have hv:=v_shlN a i .i64 hlt
     rw[←hst] at hadd
     have hbI:((bitN b i:Nat):Int)=1:=by omega
     generalize bitN b i=x at hg hbI
     push_cast (disch:=omega)[hρ,hil]
     refine Q3 hg ?_
     rintro r rfl
     push_cast (disch:=omega)[hρ,hbI,hv]
     refine Q3 hadd ?_
     rintro r rfl
     push_cast (disch:=omega)[hρ]
     exact hN (i+1) _ _ ⟨by push_cast (disch:=omega)[hρ],by omega⟩ (by omega)
    ·have hst:=timS_none (a:=a) hbit
     have hbI:¬(((bitN b i:Nat):Int)=1):=by omega
     generalize bitN b i=x at hg hbI
     push_cast (disch:=omega)[hρ,hil]
     refine Q3 hg ?_
     rintro r rfl
     push_cast (disch:=omega)[hρ,hbI]
     exact hN (i+1) _ _ ⟨by push_cast (disch:=omega)[hρ];rw[hst],by omega⟩ (by omega)
   ·have hle:¬(i:Int) < 64:=by omega
    obtain rfl:i=64:=by omega
    push_cast (disch:=omega)[hρ,hle]
    exact hE _ _ hρ.2.2.1
 clear hρ ε
 rintro ε σ h5
 push_cast (disch:=omega)[h5]
 first|exact ⟨[],rfl,rfl⟩|exact ⟨[],rfl⟩
set_option maxHeartbeats 4000000 in
theorem X12 (a:Int):FnP Tryz.prog 102 [aInt a] fun r=>r=aU64 (sizeN a):=by
 refine Qh Z95 mixed rfl rfl ?_
 simp only[Q91,aInt]
 have hc:=v_cpl64 (n:=uN a) (uN_lt a)
 have hw:=Yk a
 have hadd:=Q53 (compl (uN a)) 1 (Ym _) (by decide)
 by_cases h:a < 0
 ·have e:sizeN a=plus (compl (uN a)) 1:=if_pos h
  rw[e]
  push_cast (disch:=omega)[h,hw,hc]
  refine Q3 hadd ?_
  rintro r rfl
  push_cast (disch:=omega)
  first|exact ⟨[],rfl,rfl⟩|exact ⟨[],rfl⟩
 ·have e:sizeN a=uN a:=if_neg h
  rw[e]
  push_cast (disch:=omega)[h,hw]
  first|exact ⟨[],rfl,rfl⟩|exact ⟨[],rfl⟩
set_option maxHeartbeats 4000000 in
theorem Z81 (n:Nat) (hn:n < 2 ^ 64) (b:Bool):FnP Tryz.prog 103 [aU64 n,aBool b] fun r=>r=aInt (signN n b):=by
 refine Qh Z37 mixed rfl rfl ?_
 simp only[Q57,aBool]
 have hc:=v_cpl64 hn
 have hadd:=Q53 (compl n) 1 (Ym _) (by decide)
 cases b with
 | true=>
  have e:signN n true=IntKind.i64.wrap (plus (compl n) 1:Nat):=rfl
  rw[e]
  generalize plus (compl n) 1=z at hadd ⊢
  push_cast (disch:=omega)[hc]
  refine Q3 hadd ?_
  rintro r rfl
  push_cast (disch:=omega)
  first|exact ⟨[],rfl,rfl⟩|exact ⟨[],rfl⟩
 | false=>
  have e:signN n false=IntKind.i64.wrap (n:Nat):=rfl
  rw[e]
  push_cast (disch:=omega)
  first|exact ⟨[],rfl,rfl⟩|exact ⟨[],rfl⟩
theorem lonS_step (a b k:Nat):lonS a b (k+1)=if shrN (lonS a b k).2 63=1∨b≤orN (shlN (lonS a b k).2 1) (bitN a (63 - k)) then
  (orN (lonS a b k).1 (pow2 (63 - k)),(orN (shlN (lonS a b k).2 1) (bitN a (63 - k))+(18446744073709551616 - b)) % 18446744073709551616) else ((lonS a b k).1,orN (shlN (lonS a b k).2 1) (bitN a (63 - k))):=by
 have e:shrN (lonS a b k).2 63=(lonS a b k).2 / 2 ^ 63:=Nat.shiftRight_eq_div_pow _ _
 rw[e]
 rfl
theorem lonS_lt {a b:Nat} (ha:a < 2 ^ 64) (hb0:0 < b) (hb:b < 2 ^ 64) (k:Nat) (hk:k≤64):(lonS a b k).1 < 2 ^ 64∧(lonS a b k).2 < 2 ^ 64:=by
 obtain ⟨h1,h2⟩:=lonS_spec ha hb0 hb k hk
 rw[h1,h2]
 refine ⟨Nat.lt_of_le_of_lt (Nat.mul_le_mul_left _ (Nat.div_le_self _ _)) (Nat.lt_of_le_of_lt (Nat.mul_div_le _ _) ha),Nat.lt_trans (Nat.mod_lt _ hb0) hb⟩
set_option maxHeartbeats 8000000 in
theorem ref01_long_a (a b:Nat) (ha:a < 2 ^ 64) (hb0:0 < b) (hb:b < 2 ^ 64):FnP Tryz.prog 101 [aU64 a,aU64 b] fun r=>r=.tup [aU64 (a / b),aU64 (a % b)]:=by
 refine Qh Z94 mixed rfl rfl ?_
 simp only[Q90]
 have hres:=lonS_64 ha hb0 hb
 refine Q1 (fun ε σ=>ε 0=aU64 a∧ε 1=aU64 b) (fun N X R hN=>by push_cast (disch:=omega);exact hN _ _ (by push_cast (disch:=omega))) ?_
 rintro ε σ hρ
 refine Q1 (fun ε σ=>ε 0=aU64 a∧ε 1=aU64 b∧ε 6=aU64 (lonS a b 0).1∧ε 7=aU64 (lonS a b 0).2) (fun N X R hN=>by push_cast (disch:=omega)[hρ];exact hN _ _ (by push_cast (disch:=omega)[hρ];try exact ⟨rfl,rfl⟩)) ?_
 clear hρ ε
 rintro ε σ hρ
 refine Q1 (fun ε σ=>ε 6=aU64 (a / b)∧ε 7=aU64 (a % b)) ?_ ?_
 ·intro N X R hN
  have hN2:∀(ε':AEnv) (σ':Kx.St),(ε' 6=aU64 (lonS a b 64).1∧ε' 7=aU64 (lonS a b 64).2)→act (N ε' σ'):=fun ε' σ' h=>hN ε' σ' (by rw[hres] at h;exact h)
  clear hN
  push_cast (disch:=omega)[hρ]
  refine XR (α:=Nat) (I:=fun k ε σ=>∃z:Int,(ε 0=aU64 a∧ε 1=aU64 b∧ε 6=aU64 (lonS a b k).1∧ε 7=aU64 (lonS a b k).2∧ε 8=.v (.int .i64 z))∧z=63 - (k:Int)∧k≤64)
   (μ:=fun k=>64 - k) (Q:=fun ε σ=>ε 6=aU64 (lonS a b 64).1∧ε 7=aU64 (lonS a b 64).2) (x:=0) ?_ ?_ hN2
  ·exact ⟨63,by push_cast (disch:=omega)[hρ],by omega,by omega⟩
  ·clear hN2 N X R hρ ε
   rintro k ε σ N E X R ⟨z,hρ,hz,hk⟩ hN hE
   simp only[Q43]
   by_cases hlt:k < 64
   ·obtain ⟨i,hi⟩:∃i:Nat,i=63 - k:=⟨_,rfl⟩
    obtain rfl:z=(i:Int):=by omega
    have hst:=lonS_step a b k
    obtain ⟨l1,l2⟩:=lonS_lt ha hb0 hb k hk
    have hg:=Q52 a i (by omega)
    rw[←hi] at hst
    have hbl:=X56 a i
    generalize lonS a b k=p at hρ hst l1 l2
    obtain ⟨q,r⟩:=p
    simp only at hρ hst l1 l2
    generalize hbx:bitN a i=x at hg hst hbl
    have hs1:=shlN_lt r 1
    have hv:=v_shl_1 r
    have hx64:x < 18446744073709551616:=by omega
    have hq64:q < 18446744073709551616:=l1
    have hs64:shlN r 1 < 18446744073709551616:=hs1
    have ho64:orN (shlN r 1) x < 18446744073709551616:=or_lt hs1 hx64
    have hp64:pow2 i < 18446744073709551616:=Nat.pow_lt_pow_right (show 1 < 2 by omega) (show i < 64 by omega)
    have hw:IntKind.u64.wrap (((orN (shlN r 1) x:Nat):Int) - (b:Int))=(((orN (shlN r 1) x+(18446744073709551616 - b)) % 18446744073709551616:Nat):Int):=by
     have hb':b≤18446744073709551616:=Nat.le_of_lt hb
     rw[←u64_nat]
     simp only[IntKind.wrap,IntKind.bits,IntKind.signed]
     simp only[Bool.false_and,Bool.false_eq_true,if_false]
     omega
    generalize (orN (shlN r 1) x+(18446744073709551616 - b)) % 18446744073709551616=r2 at hw hst
    have t63:Int.toNat 63=63:=rfl
    by_cases hc1:shrN r 63=1
    ·rw[if_pos (.inl hc1)] at hst
     have hcI:((shrN r 63:Nat):Int)=1:=by omega
     push_cast (disch:=omega)[hρ,t63,hv]
     refine Q3 hg ?_
     rintro a rfl
     push_cast (disch:=omega)[hρ,t63,hcI,hw]
     refine hN (k+1) _ _ ⟨(i:Int) - 1,?_,by omega,by omega⟩ (by omega)
     rw[hst]
     push_cast (disch:=omega)[hρ]
    by_cases hc2:b≤orN (shlN r 1) x
    ·rw[if_pos (.inr hc2)] at hst
     have hcI:¬(((shrN r 63:Nat):Int)=1):=by omega
     have hcJ:(b:Int)≤(orN (shlN r 1) x:Nat):=by omega
     push_cast (disch:=omega)[hρ,t63,hv]
     refine Q3 hg ?_
     rintro a rfl
     push_cast (disch:=omega)[hρ,t63,hcI,hcJ,hw]
     refine hN (k+1) _ _ ⟨(i:Int) - 1,?_,by omega,by omega⟩ (by omega)
     rw[hst]
     push_cast (disch:=omega)[hρ]
    ·rw[if_neg (by rintro (h|h);exact hc1 h;exact hc2 h)] at hst
     have hcI:¬(((shrN r 63:Nat):Int)=1):=by omega
     have hcJ:¬((b:Int)≤(orN (shlN r 1) x:Nat)):=by omega
     push_cast (disch:=omega)[hρ,t63,hv]
     refine Q3 hg ?_
     rintro a rfl
     push_cast (disch:=omega)[hρ,t63,hcI,hcJ]
     refine hN (k+1) _ _ ⟨(i:Int) - 1,?_,by omega,by omega⟩ (by omega)
     rw[hst]
     push_cast (disch:=omega)[hρ]
   ·obtain rfl:k=64:=by omega
    have hz1:z=-1:=by omega
    subst hz1
    push_cast (disch:=omega)[hρ]
    exact hE _ _ ⟨hρ.2.2.1,hρ.2.2.2.1⟩
 clear hρ ε
 rintro ε σ hρ
 push_cast (disch:=omega)[hρ]
 first|exact ⟨[],rfl,rfl⟩|exact ⟨[],rfl⟩
end Go.Proofs.YtncdnegdlkmicaaGreat
