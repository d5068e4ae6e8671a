/- The document's sums, products and quotients, bit by bit: they are the machine's (plain). -/
import Derived.Test.YtncdnegdlkmicaaGreatQSea
namespace Go.Proofs.YtncdnegdlkmicaaGreat
set_option linter.unusedVariables false
set_option linter.unusedSimpArgs false
open Go Go.Kx Go.Proofs
theorem X27 (a i:Nat):a % 2 ^ (i+1)=a % 2 ^ i+2 ^ i * (a / 2 ^ i % 2):=by
 rw[Nat.pow_succ,Nat.mod_mul]
theorem or_pow {n i s:Nat} (h:n < 2 ^ i):n ||| 2 ^ i * s=n+2 ^ i * s:=by
 rw[Nat.or_comm,←Nat.two_pow_add_eq_or_of_lt h,Nat.add_comm]
def addS (a b:Nat):Nat→Nat×Nat
 | 0=>(0,0)
 | i+1=>((addS a b i).1 ||| 2 ^ i * ((a / 2 ^ i % 2+b / 2 ^ i % 2+(addS a b i).2) % 2),(a / 2 ^ i % 2+b / 2 ^ i % 2+(addS a b i).2) / 2)
theorem addS_spec (a b:Nat):∀i,(addS a b i).1 < 2 ^ i∧(addS a b i).1+2 ^ i * (addS a b i).2=a % 2 ^ i+b % 2 ^ i∧(addS a b i).2≤1:=by
 intro i
 induction i with
 | zero=>simp[addS,Nat.mod_one]
 | succ i ih=>
  obtain ⟨h1,h2,h3⟩:=ih
  simp only[addS]
  rw[or_pow h1,X27 a i,X27 b i]
  generalize (addS a b i).1=n at *
  generalize (addS a b i).2=c at *
  have ha:a / 2 ^ i % 2 < 2:=Nat.mod_lt _ (by omega)
  have hb:b / 2 ^ i % 2 < 2:=Nat.mod_lt _ (by omega)
  generalize a / 2 ^ i % 2=x at *
  generalize b / 2 ^ i % 2=y at *
  rw[Nat.pow_succ]
  generalize 2 ^ i=p at *
  generalize hs:x+y+c=s
  have e:p * (s % 2)+p * 2 * (s / 2)=p * s:=by
   rw[Nat.mul_assoc,←Nat.mul_add,Nat.mod_add_div]
  have e2:p * s=p * x+p * y+p * c:=by rw[←hs,Nat.mul_add,Nat.mul_add]
  refine ⟨?_,by omega,by omega⟩
  have:p * (s % 2)≤p * 1:=Nat.mul_le_mul_left _ (by omega)
  omega
theorem addS_64 {a b:Nat} (ha:a < 2 ^ 64) (hb:b < 2 ^ 64):(addS a b 64).1=(a+b) % 2 ^ 64:=by
 obtain ⟨h1,h2,h3⟩:=addS_spec a b 64
 rw[Nat.mod_eq_of_lt ha,Nat.mod_eq_of_lt hb] at h2
 rw[←h2,Nat.add_mul_mod_self_left,Nat.mod_eq_of_lt h1]
def timS (a b:Nat):Nat→Nat
 | 0=>0
 | i+1=>if b / 2 ^ i % 2=1 then (timS a b i+a * 2 ^ i % 2 ^ 64) % 2 ^ 64 else timS a b i
theorem timS_spec (a b:Nat):∀i,timS a b i=a * (b % 2 ^ i) % 2 ^ 64:=by
 intro i
 induction i with
 | zero=>simp[timS,Nat.mod_one]
 | succ i ih=>
  rw[timS,X27 b i,ih]
  split
  ·rename_i h
   rw[h,Nat.mul_one,Nat.mul_add,←Nat.add_mod]
  ·rename_i h
   have:b / 2 ^ i % 2=0:=by have:=Nat.mod_lt (b / 2 ^ i) (show 2 > 0 by omega);omega
   rw[this,Nat.mul_zero,Nat.add_zero]
def lonS (a b:Nat):Nat→Nat×Nat
 | 0=>(0,0)
 | k+1=>
  let i:=63 - k
  let r:=((lonS a b k).2 * 2 % 2 ^ 64) ||| (a / 2 ^ i % 2)
  if (lonS a b k).2 / 2 ^ 63=1∨b≤r then ((lonS a b k).1 ||| 2 ^ i,(r+(2 ^ 64 - b)) % 2 ^ 64) else ((lonS a b k).1,r)
theorem lonS_spec {a b:Nat} (ha:a < 2 ^ 64) (hb0:0 < b) (hb:b < 2 ^ 64):∀k,k≤64→(lonS a b k).1=2 ^ (64 - k) * (a / 2 ^ (64 - k) / b)∧(lonS a b k).2=a / 2 ^ (64 - k) % b:=by
 intro k
 induction k with
 | zero=>
  intro _
  rw[Nat.sub_zero,Nat.div_eq_of_lt ha]
  simp[lonS]
 | succ k ih=>
  intro hk
  obtain ⟨h1,h2⟩:=ih (by omega)
  have ei:64 - k=(63 - k)+1:=by omega
  have ei2:64 - (k+1)=63 - k:=by omega
  rw[ei2]
  rw[ei] at h1 h2
  generalize hi:63 - k=i at *
  have hdiv:a / 2 ^ (i+1)=a / 2 ^ i / 2:=by rw[Nat.pow_succ,Nat.div_div_eq_div_mul]
  rw[hdiv] at h1 h2
  have hta:a / 2 ^ i < 2 ^ 64:=Nat.lt_of_le_of_lt (Nat.div_le_self _ _) ha
  generalize ht:a / 2 ^ i=t at *
  simp only[lonS,hi,ht]
  rw[h1,h2]
  have hrb:t / 2 % b < b:=Nat.mod_lt _ hb0
  have hq:t / 2=b * (t / 2 / b)+t / 2 % b:=(Nat.div_add_mod _ _).symm
  generalize t / 2 % b=r at *
  generalize hQ:t / 2 / b=Q at *
  have htt:t=2 * (t / 2)+t % 2:=(Nat.div_add_mod _ _).symm
  have hb2:t % 2 < 2:=Nat.mod_lt _ (by omega)
  generalize hx:t % 2=x at *
  have hor:(r * 2 % 2 ^ 64) ||| x=(r * 2+x) % 2 ^ 64:=by
   have e1:r * 2 % 2 ^ 64=2 ^ 1 * (r % 2 ^ 63):=by
    rw[show (2:Nat) ^ 64=2 ^ 63 * 2 by decide,Nat.mul_mod_mul_right,Nat.mul_comm]
   have e2:2 ^ 1 * (r % 2 ^ 63) ||| x=2 ^ 1 * (r % 2 ^ 63)+x:=(Nat.two_pow_add_eq_or_of_lt (by omega) _).symm
   rw[e1,e2]
   have:=Nat.mod_lt r (show 2 ^ 63 > 0 by decide)
   omega
  rw[hor]
  have hR:t=b * (2 * Q)+(r * 2+x):=by
   rw[htt,hq]
   rw[Nat.mul_left_comm,Nat.mul_add]
   omega
  have hRb:r * 2+x < 2 * b:=by omega
  generalize hRR:r * 2+x=R at *
  have htdiv:t / b=2 * Q+R / b:=by rw[hR,Nat.mul_add_div hb0]
  have htmod:t % b=R % b:=by rw[hR,Nat.mul_add_mod]
  rw[htdiv,htmod]
  have hpw:2 ^ (i+1) * Q=2 ^ i * (2 * Q):=by rw[Nat.pow_succ];rw[Nat.mul_assoc]
  by_cases hge:b≤R
  ·have hcond:r / 2 ^ 63=1∨b≤R % 2 ^ 64:=by
    by_cases hbig:R < 2 ^ 64
    ·exact .inr (by rw[Nat.mod_eq_of_lt hbig];exact hge)
    ·refine .inl ?_
     omega
   rw[if_pos hcond]
   have e1:R / b=1:=Nat.div_eq_of_lt_le (by omega) (by omega)
   have e2:R % b=R - b:=by rw[Nat.mod_eq_sub_mod hge,Nat.mod_eq_of_lt (by omega)]
   rw[e1,e2]
   refine ⟨?_,?_⟩
   ·rw[hpw,Nat.mul_add,Nat.mul_one]
    have:2 ^ i * (2 * Q) ||| 2 ^ i=2 ^ (i+1) * Q ||| 2 ^ i:=by rw[hpw]
    rw[this,←Nat.two_pow_add_eq_or_of_lt (Nat.pow_lt_pow_right (by omega) (by omega)),hpw]
   ·simp only
    omega
  ·have hlt:R < 2 ^ 64:=by omega
   rw[Nat.mod_eq_of_lt hlt,if_neg (by omega)]
   rw[Nat.div_eq_of_lt (by omega),Nat.mod_eq_of_lt (by omega),Nat.add_zero]
   exact ⟨hpw,rfl⟩
theorem lonS_64 {a b:Nat} (ha:a < 2 ^ 64) (hb0:0 < b) (hb:b < 2 ^ 64):lonS a b 64=(a / b,a % b):=by
 obtain ⟨h1,h2⟩:=lonS_spec ha hb0 hb 64 (Nat.le_refl _)
 have:lonS a b 64=((lonS a b 64).1,(lonS a b 64).2):=rfl
 rw[this,h1,h2]
 simp
def bitS (p:Nat→Bool):Nat→Nat
 | 0=>0
 | i+1=>if p i then bitS p i ||| 2 ^ i else bitS p i
theorem bitS_spec (p:Nat→Bool) (m:Nat) (h:∀i,i < 64→p i=m.testBit i):∀i,i≤64→bitS p i=m % 2 ^ i:=by
 intro i
 induction i with
 | zero=>intro _;simp[bitS,Nat.mod_one]
 | succ i ih=>
  intro hi
  rw[bitS,h i (by omega),ih (by omega),X27 m i,Nat.testBit_eq_decide_div_mod_eq]
  have hlt:m / 2 ^ i % 2 < 2:=Nat.mod_lt _ (by omega)
  by_cases hb:m / 2 ^ i % 2=1
  ·rw[if_pos (by simpa using hb),hb,Nat.mul_one]
   have:=or_pow (n:=m % 2 ^ i) (i:=i) (s:=1) (Nat.mod_lt _ (Nat.two_pow_pos i))
   rwa [Nat.mul_one] at this
  ·rw[if_neg (by simpa using hb),show m / 2 ^ i % 2=0 by omega]
   simp
theorem X28 {a b:Int} (h:a % 18446744073709551616=b % 18446744073709551616):IntKind.i64.wrap a=IntKind.i64.wrap b:=by
 simp only[IntKind.wrap,IntKind.bits,IntKind.signed]
 simp
 try (omega)
theorem wr_range (n:Int):-9223372036854775808≤IntKind.i64.wrap n∧IntKind.i64.wrap n≤9223372036854775807:=by
 simp only[IntKind.wrap,IntKind.bits,IntKind.signed]
 simp
 split<;>omega
def uN (a:Int):Nat:=(a % 18446744073709551616).toNat
theorem uN_lt (a:Int):uN a < 2 ^ 64:=by unfold uN;omega
theorem uN_cast (a:Int):((uN a:Nat):Int)=a % 18446744073709551616:=by unfold uN;omega
theorem Yk (a:Int):IntKind.u64.wrap a=(uN a:Nat):=by
 rw[uN_cast]
 simp[IntKind.wrap,IntKind.bits,IntKind.signed]
def plus (a b:Nat):Nat:=(a+b) % 18446744073709551616
def compl (a:Nat):Nat:=18446744073709551615 - a
def sizeN (a:Int):Nat:=if a < 0 then plus (compl (uN a)) 1 else uN a
theorem ZL {a:Int} (h0:-9223372036854775808≤a) (h1:a≤9223372036854775807):sizeN a=a.natAbs:=by
 unfold sizeN plus compl uN
 split<;>omega
def signN (n:Nat) (below:Bool):Int:=IntKind.i64.wrap ((if below then plus (compl n) 1 else n:Nat):Int)
theorem signN_eq {n:Nat} (hn:n < 2 ^ 64) (below:Bool):signN n below=IntKind.i64.wrap (if below then -(n:Int) else n):=by
 unfold signN plus compl
 cases below
 ·rfl
 ·simp only[if_true]
  exact X28 (by omega)
theorem wr_tdiv {a b:Int} (h0:-9223372036854775808≤a) (h1:a≤9223372036854775807) (h2:-9223372036854775808≤b) (h3:b≤9223372036854775807):
  signN (sizeN a / sizeN b) (decide (a < 0) != decide (b < 0))=IntKind.i64.wrap (a.tdiv b):=by
 rw[ZL h0 h1,ZL h2 h3,signN_eq (Nat.lt_of_le_of_lt (Nat.div_le_self _ _) (by omega))]
 congr 1
 rcases Int.lt_or_le a 0 with ha|ha<;>rcases Int.lt_or_le b 0 with hb|hb
 ·obtain ⟨m,rfl⟩:∃m:Nat,a=-(m:Int):=⟨a.natAbs,by omega⟩
  obtain ⟨n,rfl⟩:∃n:Nat,b=-(n:Int):=⟨b.natAbs,by omega⟩
  rw[Int.neg_tdiv,Int.tdiv_neg,Int.neg_neg]
  rw[decide_eq_true ha,decide_eq_true hb]
  simp
 ·obtain ⟨m,rfl⟩:∃m:Nat,a=-(m:Int):=⟨a.natAbs,by omega⟩
  obtain ⟨n,rfl⟩:∃n:Nat,b=(n:Int):=⟨b.natAbs,by omega⟩
  have hb':¬((n:Int) < 0):=by omega
  rw[Int.neg_tdiv]
  rw[decide_eq_true ha,decide_eq_false hb']
  simp
 ·obtain ⟨m,rfl⟩:∃m:Nat,a=(m:Int):=⟨a.natAbs,by omega⟩
  obtain ⟨n,rfl⟩:∃n:Nat,b=-(n:Int):=⟨b.natAbs,by omega⟩
  have ha':¬((m:Int) < 0):=by omega
  rw[Int.tdiv_neg]
  rw[decide_eq_false ha',decide_eq_true hb]
  simp
 ·obtain ⟨m,rfl⟩:∃m:Nat,a=(m:Int):=⟨a.natAbs,by omega⟩
  obtain ⟨n,rfl⟩:∃n:Nat,b=(n:Int):=⟨b.natAbs,by omega⟩
  have ha':¬((m:Int) < 0):=by omega
  have hb':¬((n:Int) < 0):=by omega
  simp[ha',hb']
theorem wr_tmod {a b:Int} (h0:-9223372036854775808≤a) (h1:a≤9223372036854775807) (h2:-9223372036854775808≤b) (h3:b≤9223372036854775807) (hb:b≠0):
  signN (sizeN a % sizeN b) (decide (a < 0))=a.tmod b:=by
 rw[ZL h0 h1,ZL h2 h3]
 have hlt:a.natAbs % b.natAbs < b.natAbs:=Nat.mod_lt _ (by omega)
 rw[signN_eq (by omega)]
 have hm:a.tmod b=if a < 0 then -((a.natAbs % b.natAbs:Nat):Int) else ((a.natAbs % b.natAbs:Nat):Int):=by
  have hbb:a.tmod b=a.tmod (b.natAbs:Int):=by
   rcases Int.lt_or_le b 0 with hb|hb
   ·rw[show ((b.natAbs:Nat):Int)=-b by omega,Int.tmod_neg]
   ·rw[show ((b.natAbs:Nat):Int)=b by omega]
  rw[hbb]
  rcases Int.lt_or_le a 0 with ha|ha
  ·rw[if_pos ha]
   have:a=-((a.natAbs:Nat):Int):=by omega
   conv=>lhs;rw[this,Int.neg_tmod]
   rfl
  ·rw[if_neg (by omega)]
   have:a=((a.natAbs:Nat):Int):=by omega
   conv=>lhs;rw[this]
   rfl
 rw[hm]
 by_cases ha:a < 0
 ·simp only[ha,decide_true,if_true]
  rw[Z90 _ (by omega) (by omega)]
 ·simp only[ha,decide_false,if_false,Bool.false_eq_true]
  rw[Z90 _ (by omega) (by omega)]
theorem bv_uN (a:Int):(BitVec.ofInt IntKind.i64.bits a).toNat=uN a:=by
 show (BitVec.ofInt 64 a).toNat=_
 rw[BitVec.toNat_ofInt]
 rfl
theorem bAnd_uN (a b:Int):bAnd a b=IntKind.i64.wrap ((uN a &&& uN b:Nat):Int):=by
 unfold bAnd;rw[BitVec.toNat_and,bv_uN,bv_uN]
theorem bOr_uN (a b:Int):bOr a b=IntKind.i64.wrap ((uN a ||| uN b:Nat):Int):=by
 unfold bOr;rw[BitVec.toNat_or,bv_uN,bv_uN]
theorem bXor_uN (a b:Int):bXor a b=IntKind.i64.wrap ((uN a ^^^ uN b:Nat):Int):=by
 unfold bXor;rw[BitVec.toNat_xor,bv_uN,bv_uN]
def refD (op a b:Int):Int×Int:=
 if op=3 then (IntKind.i64.wrap (plus (uN a) (uN b):Nat),0)
 else if op=4 then (IntKind.i64.wrap (plus (plus (uN a) (compl (uN b))) 1:Nat),0)
 else if op=5 then (IntKind.i64.wrap (uN a * uN b % 18446744073709551616:Nat),0)
 else if op=6∨op=7 then (if b=0 then (0,1) else if op=6 then (signN (sizeN a / sizeN b) (decide (a < 0) != decide (b < 0)),0) else (signN (sizeN a % sizeN b) (decide (a < 0)),0))
 else if op=8 then (if a < b then 1 else 0,0)
 else if op=9 then (if a=b then 1 else 0,0)
 else if op=10 then (IntKind.i64.wrap ((uN a &&& uN b:Nat):Int),0)
 else if op=11 then (IntKind.i64.wrap ((uN a ||| uN b:Nat):Int),0)
 else if op=12 then (IntKind.i64.wrap ((uN a ^^^ uN b:Nat):Int),0)
 else (0,0)
theorem refD_eq (op:Int) {a b:Int} (h0:-9223372036854775808≤a) (h1:a≤9223372036854775807) (h2:-9223372036854775808≤b) (h3:b≤9223372036854775807):refD op a b=wrapD op a b:=by
 unfold refD wrapD
 have hn:∀a:Int,((uN a:Nat):Int)=a % 18446744073709551616:=uN_cast
 split
 ·congr 1
  exact X28 (by have:=hn a;have:=hn b;unfold plus;omega)
 split
 ·congr 1
  exact X28 (by have:=hn a;have:=hn b;unfold plus compl;omega)
 split
 ·congr 1
  refine X28 ?_
  rw[show (((uN a * uN b % 18446744073709551616:Nat)):Int)=((uN a:Nat):Int) * ((uN b:Nat):Int) % 18446744073709551616 by simp,hn a,hn b,Int.emod_emod_of_dvd _ (Int.dvd_refl _),←Int.mul_emod]
 split
 ·split
  ·rfl
  ·rename_i hb
   split
   ·rw[wr_tdiv h0 h1 h2 h3]
   ·rw[wr_tmod h0 h1 h2 h3 hb]
 rw[bAnd_uN,bOr_uN,bXor_uN]
end Go.Proofs.YtncdnegdlkmicaaGreat
