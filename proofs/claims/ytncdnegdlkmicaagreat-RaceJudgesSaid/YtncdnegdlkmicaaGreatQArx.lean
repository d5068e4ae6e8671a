/- forebayref01.Do: the walk. -/
import Derived.Test.YtncdnegdlkmicaaGreatQArw
import Derived.Test.YtncdnegdlkmicaaGreatQEva
namespace Go.Proofs.YtncdnegdlkmicaaGreat
set_option linter.unusedVariables false
set_option linter.unusedSimpArgs false
open Go Go.Kx Go.Proofs
def bitF (op:Int) (p q:Bool):Bool:=if op=10 then p&&q else if op=11 then p||q else p != q
def bitM (op:Int) (x y:Nat):Nat:=if op=10 then x &&& y else if op=11 then x ||| y else x ^^^ y
def bitP (op:Int) (x y:Nat) (i:Nat):Bool:=bitF op (decide (bitN x i=1)) (decide (bitN y i=1))
theorem bitN_test (x i:Nat):decide (bitN x i=1)=x.testBit i:=by rw[Nat.testBit_eq_decide_div_mod_eq];rfl
theorem bitP_eq (op:Int) (x y i:Nat):bitP op x y i=(bitM op x y).testBit i:=by
 unfold bitP bitF bitM
 rw[bitN_test,bitN_test]
 split
 ·rw[Nat.testBit_and]
 split
 ·rw[Nat.testBit_or]
 ·rw[Nat.testBit_xor]
theorem bitM_lt (op:Int) {x y:Nat} (hx:x < 2 ^ 64) (hy:y < 2 ^ 64):bitM op x y < 2 ^ 64:=by
 unfold bitM
 split
 ·exact Nat.lt_of_le_of_lt Nat.and_le_left hx
 split
 ·exact Nat.or_lt_two_pow hx hy
 ·exact Nat.xor_lt_two_pow hx hy
theorem bitS_M (op:Int) {x y:Nat} (hx:x < 2 ^ 64) (hy:y < 2 ^ 64):bitS (bitP op x y) 64=bitM op x y:=by
 rw[bitS_spec _ (bitM op x y) (fun i _=>bitP_eq op x y i) 64 (Nat.le_refl _),Nat.mod_eq_of_lt (bitM_lt op hx hy)]
theorem bitS_lt (op:Int) {x y:Nat} (i:Nat) (hi:i≤64):bitS (bitP op x y) i < 18446744073709551616:=by
 rw[bitS_spec _ (bitM op x y) (fun i _=>bitP_eq op x y i) i hi]
 exact Nat.lt_of_lt_of_le (Nat.mod_lt _ (Nat.two_pow_pos i)) (show (2:Nat) ^ i≤2 ^ 64 from Nat.pow_le_pow_right (by omega) hi)
theorem refD_bits {op:Int} (h:op=10∨op=11∨op=12) (a b:Int):refD op a b=(IntKind.i64.wrap ((bitM op (uN a) (uN b):Nat):Int),0):=by
 unfold refD bitM
 rcases h with rfl|rfl|rfl<;>rfl
set_option maxHeartbeats 16000000 in
theorem ref01_Do_a (op a b:Int) (hop:3≤op∧op≤12) (ha:W64 a) (hb:W64 b):FnP Tryz.prog 78 [aInt op,aInt a,aInt b] fun r=>r=.tup [aInt (wrapD op a b).1,aInt (wrapD op a b).2]:=by
 rw[←refD_eq op ha.1 ha.2 hb.1 hb.2]
 refine Qh XX mixed rfl rfl ?_
 simp only[ZM,aInt]
 have ua:=Yk a
 have ub:=Yk b
 have la:=uN_lt a
 have lb:=uN_lt b
 refine Q1 (fun ε σ=>ε 0=.v (.int .i64 op)∧ε 1=.v (.int .i64 a)∧ε 2=.v (.int .i64 b)) (fun N X R hN=>by push_cast (maxSteps:=999999) -implicitDefEqProofs (disch:=omega);exact hN _ _ (by push_cast (maxSteps:=999999) -implicitDefEqProofs (disch:=omega))) ?_
 rintro ε σ hρ
 refine Q1 (fun ε σ=>ε 0=.v (.int .i64 op)∧ε 1=.v (.int .i64 a)∧ε 2=.v (.int .i64 b)∧ε 8=aU64 (uN a)∧ε 9=aU64 (uN b)) (fun N X R hN=>by push_cast (maxSteps:=999999) -implicitDefEqProofs (disch:=omega)[hρ,ua,ub];exact hN _ _ (by push_cast (maxSteps:=999999) -implicitDefEqProofs (disch:=omega)[hρ])) ?_
 clear hρ ε
 rintro ε σ hρ
 refine Q1 (fun ε σ=>ε 0=.v (.int .i64 op)∧ε 1=.v (.int .i64 a)∧ε 2=.v (.int .i64 b)∧ε 8=aU64 (uN a)∧ε 9=aU64 (uN b)∧ε 10=aU64 0) (fun N X R hN=>by push_cast (maxSteps:=999999) -implicitDefEqProofs (disch:=omega)[hρ];exact hN _ _ (by push_cast (maxSteps:=999999) -implicitDefEqProofs (disch:=omega)[hρ];try rfl)) ?_
 clear hρ ε
 rintro ε σ hρ
 refine Qg (fun ε σ=>(ε 0=.v (.int .i64 op)∧ε 8=aU64 (uN a)∧ε 9=aU64 (uN b)∧ε 10=aU64 0)∧(op=10∨op=11∨op=12)) ?_ ?_
 ·intro N hN
  by_cases c3:op=3
  ·have e:refD op a b=(IntKind.i64.wrap (plus (uN a) (uN b):Nat),0):=by unfold refD;rw[if_pos c3]
   have h1:=Q53 (uN a) (uN b) la lb
   rw[e]
   generalize plus (uN a) (uN b)=z at h1 ⊢
   push_cast (maxSteps:=999999) -implicitDefEqProofs (disch:=omega)[hρ,c3]
   refine Q3 h1 ?_
   rintro r rfl
   push_cast (maxSteps:=999999) -implicitDefEqProofs (disch:=omega)[hρ]
   first|exact ⟨[],rfl,rfl⟩|exact ⟨[],rfl⟩
  by_cases c4:op=4
  ·have e:refD op a b=(IntKind.i64.wrap (plus (plus (uN a) (compl (uN b))) 1:Nat),0):=by unfold refD;rw[if_neg c3,if_pos c4]
   have h1:=Q53 (uN a) (compl (uN b)) la (Ym _)
   have h2:=Q53 (plus (uN a) (compl (uN b))) 1 (plus_lt _ _) (by decide)
   have hc:=v_cpl64 lb
   rw[e]
   generalize plus (plus (uN a) (compl (uN b))) 1=z at h2 ⊢
   generalize plus (uN a) (compl (uN b))=y at h1 h2
   push_cast (maxSteps:=999999) -implicitDefEqProofs (disch:=omega)[hρ,c3,c4,hc]
   refine Q3 h1 ?_
   rintro r rfl
   push_cast (maxSteps:=999999) -implicitDefEqProofs (disch:=omega)[hρ]
   refine Q3 h2 ?_
   rintro r rfl
   push_cast (maxSteps:=999999) -implicitDefEqProofs (disch:=omega)[hρ]
   first|exact ⟨[],rfl,rfl⟩|exact ⟨[],rfl⟩
  by_cases c5:op=5
  ·have e:refD op a b=(IntKind.i64.wrap (uN a * uN b % 18446744073709551616:Nat),0):=by unfold refD;rw[if_neg c3,if_neg c4,if_pos c5]
   have h1:=Yn (uN a) (uN b) la lb
   have ht:timS (uN a) (uN b) 64=uN a * uN b % 18446744073709551616:=by rw[timS_spec,Nat.mod_eq_of_lt lb]
   rw[ht] at h1
   rw[e]
   generalize uN a * uN b % 18446744073709551616=z at h1 ⊢
   push_cast (maxSteps:=999999) -implicitDefEqProofs (disch:=omega)[hρ,c3,c4,c5]
   refine Q3 h1 ?_
   rintro r rfl
   push_cast (maxSteps:=999999) -implicitDefEqProofs (disch:=omega)[hρ]
   first|exact ⟨[],rfl,rfl⟩|exact ⟨[],rfl⟩
  by_cases c67:op=6∨op=7
  ·by_cases hb0:b=0
   ·have e:refD op a b=(0,1):=by unfold refD;rw[if_neg c3,if_neg c4,if_neg c5,if_pos c67,if_pos hb0]
    rw[e]
    rcases c67 with c6|c7
    ·push_cast (maxSteps:=999999) -implicitDefEqProofs (disch:=omega)[hρ,c3,c4,c5,c6,hb0]
     first|exact ⟨[],rfl,rfl⟩|exact ⟨[],rfl⟩
    ·push_cast (maxSteps:=999999) -implicitDefEqProofs (disch:=omega)[hρ,c3,c4,c5,c7,hb0]
     first|exact ⟨[],rfl,rfl⟩|exact ⟨[],rfl⟩
   ·have hsa:=ZL ha.1 ha.2
    have hsb:=ZL hb.1 hb.2
    have ha1:=ha.1
    have ha2:=ha.2
    have hb1:=hb.1
    have hb2:=hb.2
    have h1:=X12 a
    have h2:=X12 b
    have h3:=ref01_long_a (sizeN a) (sizeN b) (by omega) (by omega) (by omega)
    have hq:sizeN a / sizeN b < 2 ^ 64:=Nat.lt_of_le_of_lt (Nat.div_le_self _ _) (by omega)
    have hr:sizeN a % sizeN b < 2 ^ 64:=Nat.lt_of_le_of_lt (Nat.mod_le _ _) (by omega)
    have h4:=fun β=>Z81 (sizeN a / sizeN b) hq β
    have h5:=fun β=>Z81 (sizeN a % sizeN b) hr β
    have e6:op=6→refD op a b=(signN (sizeN a / sizeN b) (decide (a < 0) != decide (b < 0)),0):=fun c6=>by
     unfold refD;rw[if_neg c3,if_neg c4,if_neg c5,if_pos c67,if_neg hb0,if_pos c6]
    have e7:op=7→refD op a b=(signN (sizeN a % sizeN b) (decide (a < 0)),0):=fun c7=>by
     unfold refD;rw[if_neg c3,if_neg c4,if_neg c5,if_pos c67,if_neg hb0,if_neg (by omega)]
    generalize sizeN a / sizeN b=Q at h3 h4 e6
    generalize sizeN a % sizeN b=R at h3 h5 e7
    generalize sizeN a=A at h1 h3
    generalize sizeN b=B at h2 h3
    rcases c67 with c6|c7
    ·rw[e6 c6]
     push_cast (maxSteps:=999999) -implicitDefEqProofs (disch:=omega)[hρ,c3,c4,c5,c6,hb0]
     refine Q3 h1 ?_
     rintro r rfl
     push_cast (maxSteps:=999999) -implicitDefEqProofs (disch:=omega)[hρ]
     refine Q3 h2 ?_
     rintro r rfl
     push_cast (maxSteps:=999999) -implicitDefEqProofs (disch:=omega)[hρ]
     refine Q3 h3 ?_
     rintro r rfl
     by_cases n1:a < 0<;>by_cases n2:b < 0
     ·have h6:=h4 false
      rw[show (decide (a < 0) != decide (b < 0))=false by simp[n1,n2]]
      push_cast (maxSteps:=999999) -implicitDefEqProofs (disch:=omega)[hρ,c6,n1,n2]
      refine Q3 h6 ?_
      rintro r rfl
      push_cast (maxSteps:=999999) -implicitDefEqProofs (disch:=omega)[hρ]
      first|exact ⟨[],rfl,rfl⟩|exact ⟨[],rfl⟩
     ·have h6:=h4 true
      rw[show (decide (a < 0) != decide (b < 0))=true by simp[n1,n2]]
      push_cast (maxSteps:=999999) -implicitDefEqProofs (disch:=omega)[hρ,c6,n1,n2]
      refine Q3 h6 ?_
      rintro r rfl
      push_cast (maxSteps:=999999) -implicitDefEqProofs (disch:=omega)[hρ]
      first|exact ⟨[],rfl,rfl⟩|exact ⟨[],rfl⟩
     ·have h6:=h4 true
      rw[show (decide (a < 0) != decide (b < 0))=true by simp[n1,n2]]
      push_cast (maxSteps:=999999) -implicitDefEqProofs (disch:=omega)[hρ,c6,n1,n2]
      refine Q3 h6 ?_
      rintro r rfl
      push_cast (maxSteps:=999999) -implicitDefEqProofs (disch:=omega)[hρ]
      first|exact ⟨[],rfl,rfl⟩|exact ⟨[],rfl⟩
     ·have h6:=h4 false
      rw[show (decide (a < 0) != decide (b < 0))=false by simp[n1,n2]]
      push_cast (maxSteps:=999999) -implicitDefEqProofs (disch:=omega)[hρ,c6,n1,n2]
      refine Q3 h6 ?_
      rintro r rfl
      push_cast (maxSteps:=999999) -implicitDefEqProofs (disch:=omega)[hρ]
      first|exact ⟨[],rfl,rfl⟩|exact ⟨[],rfl⟩
    ·rw[e7 c7]
     push_cast (maxSteps:=999999) -implicitDefEqProofs (disch:=omega)[hρ,c3,c4,c5,c7,hb0]
     refine Q3 h1 ?_
     rintro r rfl
     push_cast (maxSteps:=999999) -implicitDefEqProofs (disch:=omega)[hρ]
     refine Q3 h2 ?_
     rintro r rfl
     push_cast (maxSteps:=999999) -implicitDefEqProofs (disch:=omega)[hρ]
     refine Q3 h3 ?_
     rintro r rfl
     by_cases n1:a < 0
     ·have h6:=h5 true
      rw[show decide (a < 0)=true by simp[n1]]
      push_cast (maxSteps:=999999) -implicitDefEqProofs (disch:=omega)[hρ,c7,n1]
      refine Q3 h6 ?_
      rintro r rfl
      push_cast (maxSteps:=999999) -implicitDefEqProofs (disch:=omega)[hρ]
      first|exact ⟨[],rfl,rfl⟩|exact ⟨[],rfl⟩
     ·have h6:=h5 false
      rw[show decide (a < 0)=false by simp[n1]]
      push_cast (maxSteps:=999999) -implicitDefEqProofs (disch:=omega)[hρ,c7,n1]
      refine Q3 h6 ?_
      rintro r rfl
      push_cast (maxSteps:=999999) -implicitDefEqProofs (disch:=omega)[hρ]
      first|exact ⟨[],rfl,rfl⟩|exact ⟨[],rfl⟩
  by_cases c8:op=8
  ·have e:refD op a b=(if a < b then 1 else 0,0):=by unfold refD;rw[if_neg c3,if_neg c4,if_neg c5,if_neg c67,if_pos c8]
   rw[e]
   by_cases n1:a < b
   ·rw[if_pos n1]
    push_cast (maxSteps:=999999) -implicitDefEqProofs (disch:=omega)[hρ,c3,c4,c5,c8,n1]
    first|exact ⟨[],rfl,rfl⟩|exact ⟨[],rfl⟩
   ·rw[if_neg n1]
    push_cast (maxSteps:=999999) -implicitDefEqProofs (disch:=omega)[hρ,c3,c4,c5,c8,n1]
    first|exact ⟨[],rfl,rfl⟩|exact ⟨[],rfl⟩
  by_cases c9:op=9
  ·have e:refD op a b=(if a=b then 1 else 0,0):=by unfold refD;rw[if_neg c3,if_neg c4,if_neg c5,if_neg c67,if_neg c8,if_pos c9]
   rw[e]
   by_cases n1:a=b
   ·rw[if_pos n1]
    push_cast (maxSteps:=999999) -implicitDefEqProofs (disch:=omega)[hρ,c3,c4,c5,c9,n1]
    first|exact ⟨[],rfl,rfl⟩|exact ⟨[],rfl⟩
   ·rw[if_neg n1]
    push_cast (maxSteps:=999999) -implicitDefEqProofs (disch:=omega)[hρ,c3,c4,c5,c9,n1]
    first|exact ⟨[],rfl,rfl⟩|exact ⟨[],rfl⟩
  have hx:op=10∨op=11∨op=12:=by omega
  have c6:¬op=6:=fun h=>c67 (.inl h)
  have c7:¬op=7:=fun h=>c67 (.inr h)
  push_cast (maxSteps:=999999) -implicitDefEqProofs (disch:=omega)[hρ,c3,c4,c5,c6,c7,c8,c9]
  exact hN _ _ ⟨by push_cast (maxSteps:=999999) -implicitDefEqProofs (disch:=omega)[hρ],hx⟩
 clear hρ ε
 rintro ε σ ⟨hρ,hx⟩
 rw[refD_bits hx]
 have hM:=bitS_M op la lb
 refine Q1 (fun ε σ=>ε 10=aU64 (bitM op (uN a) (uN b))) ?_ ?_
 ·intro N X R hN
  push_cast (maxSteps:=999999) -implicitDefEqProofs (disch:=omega)[hρ]
  rw[←hM] at hN
  generalize uN a=x at hρ hN
  generalize uN b=y at hρ hN
  refine XR (α:=Nat) (I:=fun i ε σ=>(ε 0=.v (.int .i64 op)∧ε 8=aU64 x∧ε 9=aU64 y∧ε 10=aU64 (bitS (bitP op x y) i)∧ε 13=.v (.int .i64 i))∧i≤64)
   (μ:=fun i=>64 - i) (Q:=fun ε σ=>ε 10=aU64 (bitS (bitP op x y) 64)) (x:=0) ?_ ?_ hN
  ·exact ⟨by push_cast (maxSteps:=999999) -implicitDefEqProofs (disch:=omega)[hρ];try rfl,by omega⟩
  ·clear hN N X R hρ ε hM
   rintro i ε σ N E X R ⟨hρ,hi⟩ hN hE
   simp only[Q66]
   by_cases hlt:i < 64
   ·have hil:(i:Int) < 64:=by omega
    have g1:=Q52 x i hlt
    have g2:=Q52 y i hlt
    have hl:=bitS_lt op (x:=x) (y:=y) i hi
    have hp64:pow2 i < 18446744073709551616:=Nat.pow_lt_pow_right (show 1 < 2 by omega) (show i < 64 by omega)
    have hst:bitS (bitP op x y) (i+1)=if bitP op x y i then orN (bitS (bitP op x y) i) (pow2 i) else bitS (bitP op x y) i:=rfl
    have hP:bitP op x y i=bitF op (decide (bitN x i=1)) (decide (bitN y i=1)):=rfl
    have n1:=X56 x i
    have n2:=X56 y i
    rw[hP] at hst
    generalize bitN x i=p at g1 hst n1
    generalize bitN y i=q at g2 hst n2
    generalize bitS (bitP op x y) i=n at hρ hl hst
    have hp:p=0∨p=1:=by omega
    have hq:q=0∨q=1:=by omega
    have i01:¬((0:Int)=1):=by omega
    push_cast (maxSteps:=999999) -implicitDefEqProofs (disch:=omega)[hρ,hil]
    refine Q3 g1 ?_
    rintro r rfl
    push_cast (maxSteps:=999999) -implicitDefEqProofs (disch:=omega)[hρ]
    refine Q3 g2 ?_
    rintro r rfl
    rcases hx with rfl|rfl|rfl<;>rcases hp with rfl|rfl<;>rcases hq with rfl|rfl <;>
     (push_cast (maxSteps:=999999) -implicitDefEqProofs (disch:=omega)[hρ];refine hN (i+1) _ _ ⟨?_,by omega⟩ (by omega);rw[hst];push_cast (maxSteps:=999999) -implicitDefEqProofs (disch:=omega)[hρ];try rfl)
   ·have hle:¬(i:Int) < 64:=by omega
    obtain rfl:i=64:=by omega
    push_cast (maxSteps:=999999) -implicitDefEqProofs (disch:=omega)[hρ,hle]
    exact hE _ _ hρ.2.2.2.1
 clear hρ ε
 rintro ε σ h5
 generalize bitM op (uN a) (uN b)=z at h5 ⊢
 push_cast (maxSteps:=999999) -implicitDefEqProofs (disch:=omega)[h5]
 first|exact ⟨[],rfl,rfl⟩|exact ⟨[],rfl⟩
end Go.Proofs.YtncdnegdlkmicaaGreat
