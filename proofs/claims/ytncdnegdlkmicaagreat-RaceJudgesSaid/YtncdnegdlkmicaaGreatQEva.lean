/- The document's evaluator (plain): registers and words have 64 bits; what is left to do; what an instruction does, kind by kind. -/
import Derived.Test.YtncdnegdlkmicaaGreatQAra
namespace Go.Proofs.YtncdnegdlkmicaaGreat
set_option linter.unusedVariables false
set_option linter.unusedSimpArgs false
open Go Go.Kx Go.Proofs
def W64 (n:Int):Prop:=-9223372036854775808≤n∧n≤9223372036854775807
def R64 (l:List Int):Prop:=∀n∈l,W64 n
theorem w64_wrap (n:Int):W64 (IntKind.i64.wrap n):=wr_range n
theorem Q23 {n:Int} (h0:-40000≤n) (h1:n≤40000):W64 n:=by unfold W64;omega
theorem Yo {l:List Int} (h:R64 l) (i:Nat):W64 (l.getD i 0):=by
 rw[List.getD_eq_getElem?_getD]
 cases e:l[i]? with
 | none=>exact Q23 (by simp) (by simp)
 | some v=>exact h v (List.mem_of_getElem? e)
theorem Yp {l:List Int} (h:R64 l) {v:Int} (hv:W64 v) (i:Nat):R64 (l.set i v):=by
 intro x hx
 rcases List.mem_or_eq_of_mem_set hx with hx|rfl
 ·exact h x hx
 ·exact hv
theorem rg_64 {rs:List Int} (h:R64 rs) (n:Int):W64 (rg rs n):=Yo h _
theorem X57 {rs:List Int} (h:R64 rs) (n:Int) {v:Int} (hv:W64 v):R64 (setR rs n v):=Yp h hv _
theorem wrapD_64 (op:Int) {a b:Int} (ha:W64 a):W64 (wrapD op a b).1:=by
 have hm:W64 (a.tmod b):=by
  unfold W64 at *
  rcases Int.lt_or_le a 0 with h|h
  ·have h1:=Int.tmod_nonneg b (show 0≤-a by omega)
   rw[Int.neg_tmod] at h1
   have h2:((-a).tmod b)≤-a:=by
    have:=Int.natAbs_tmod (-a) b
    have h3:(-a).natAbs % b.natAbs≤(-a).natAbs:=Nat.mod_le _ _
    have h4:=Int.tmod_nonneg b (show 0≤-a by omega)
    omega
   rw[Int.neg_tmod] at h2
   omega
  ·have h4:=Int.tmod_nonneg b h
   have:=Int.natAbs_tmod a b
   have h3:a.natAbs % b.natAbs≤a.natAbs:=Nat.mod_le _ _
   omega
 have h0:W64 0:=Q23 (by omega) (by omega)
 have h1:W64 1:=Q23 (by omega) (by omega)
 unfold wrapD
 repeat' split
 all_goals first|exact w64_wrap _|exact hm|exact h0|exact h1|skip
theorem ops_fit {x:Ix} (h:insE x=0):∀n∈opsX x,-32768≤n∧n≤32767:=by
 obtain ⟨h1,h2⟩:=X25 h
 have key:∀(ls:List UInt8) (ns:List Int),((ls.zip ns).all fun p=>fitB p.1 p.2)=true→(ns.drop ls.length).all (fun n=>decide (n=0))=true→∀n∈ns,-32768≤n∧n≤32767:=by
  intro ls
  induction ls with
  | nil=>
   intro ns _ h n hn
   have:=of_decide_eq_true (List.all_eq_true.1 h n (by simpa using hn))
   omega
  | cons b ls ih=>
   intro ns ha hd n hn
   cases ns with
   | nil=>cases hn
   | cons m ns=>
    simp only[List.zip_cons_cons,List.all_cons,Bool.and_eq_true] at ha
    rcases List.mem_cons.1 hn with rfl|hn
    ·have:=ha.1
     unfold fitB at this
     have:=of_decide_eq_true this
     unfold endsB at this
     repeat' split at this
     all_goals (simp only at this;omega)
    ·exact ih ns ha.2 (by simpa using hd) n hn
 exact key _ _ h1 h2
theorem ins_b64 {x:Ix} (h:insE x=0):W64 x.b:=by
 have:=ops_fit h x.b (by simp[opsX])
 exact Q23 (by omega) (by omega)
theorem doF_64 {x:Ix} (hx:insE x=0) (pc:Int) {rs:List Int} (h:R64 rs):R64 (doF x pc rs).2.1:=by
 unfold doF
 split
 ·exact X57 h _ (ins_b64 hx)
 split
 ·exact X57 h _ (rg_64 h _)
 split
 ·split
  ·exact h
  ·exact X57 h _ (wrapD_64 _ (rg_64 h _))
 split
 ·exact h
 split
 ·exact h
 ·exact h
theorem doF_e (x:Ix) (pc:Int) (rs:List Int) (h:(doF x pc rs).2.2.2=0):(doF x pc rs).2.2.1=ofE x rs:=by
 unfold doF at h ⊢
 split
 ·rfl
 rename_i c1
 rw[if_neg c1] at h
 split
 ·rfl
 rename_i c2
 rw[if_neg c2] at h
 split
 ·rename_i c3
  rw[if_pos c3] at h
  split
  ·rename_i c4
   rw[if_pos c4] at h
   exact absurd h c4
  ·rfl
 split
 ·rfl
 split
 ·rfl
 ·rfl
theorem ofE_k24 (x:Ix) (rs:List Int):((ofE x rs).k=2→x.op=14)∧((ofE x rs).k=4→x.op=16):=by
 unfold ofE
 simp only
 by_cases h13:x.op=13
 ·simp[h13]
 by_cases h14:x.op=14
 ·simp[h14]
 by_cases h15:x.op=15
 ·simp[h15]
 by_cases h16:x.op=16
 ·simp[h16]
 by_cases h17:x.op=17
 ·simp[h17]
 by_cases h20:x.op=20
 ·simp[h20]
 by_cases h21:x.op=21
 ·simp[h21]
 by_cases h22:x.op=22
 ·simp[h22]
 by_cases h23:x.op=23
 ·simp[h23]
 by_cases h24:x.op=24
 ·simp[h24]
 by_cases h25:x.op=25
 ·simp[h25]
 by_cases h0:x.op=0
 ·simp[h0]
 simp[h13,h14,h15,h16,h17,h20,h21,h22,h23,h24,h25,h0,ef0]
theorem ofE_64 (x:Ix) {rs:List Int} (h:R64 rs):(ofE x rs).k=2∨(ofE x rs).k=4→W64 (ofE x rs).v∧W64 (ofE x rs).o:=by
 have h0:W64 0:=Q23 (by omega) (by omega)
 obtain ⟨k2,k4⟩:=ofE_k24 x rs
 rintro (c|c)
 ·have hop:=k2 c
  have e:ofE x rs=⟨2,rg rs x.a,rg rs x.b,0,0⟩:=by simp[ofE,hop]
  rw[e]
  exact ⟨rg_64 h _,h0⟩
 ·have hop:=k4 c
  have e:ofE x rs=⟨4,rg rs x.b,rg rs x.a,rg rs x.c,heldN x.a⟩:=by simp[ofE,hop]
  rw[e]
  exact ⟨rg_64 h _,rg_64 h _⟩
theorem askD_64 {d:List Int} (h:R64 d) {e:Ef} (he:e.k=2∨e.k=4→W64 e.v∧W64 e.o):W64 (askD d e).1∧R64 (askD d e).2.2:=by
 have h0:W64 0:=Q23 (by omega) (by omega)
 unfold askD
 split
 ·exact ⟨h0,h⟩
 split
 ·exact ⟨Yo h _,h⟩
 split
 ·rename_i c;exact ⟨h0,Yp h (he (.inl c)).1 _⟩
 split
 ·exact ⟨Yo h _,Yp h (w64_wrap _) _⟩
 split
 ·rename_i c
  refine ⟨Yo h _,?_⟩
  split
  ·exact Yp h (he (.inr c)).2 _
  ·exact h
 ·exact ⟨h0,h⟩
theorem tookR_64 {rs:List Int} (h:R64 rs) (e:Ef) {g:Int} (hg:W64 g):R64 (tookR rs e g):=by
 unfold tookR
 split
 ·refine X57 h _ ?_
  split<;>exact Q23 (by omega) (by omega)
 split
 ·exact X57 h _ hg
 ·exact h
structure Q64 (s:Sv):Prop where
 r:∀f∈s.l,R64 f.regs
 d:R64 s.data
theorem r64_z8:R64 z8:=by
 intro n hn
 have:n=0:=by simpa[z8] using hn
 subst this
 exact Q23 (by omega) (by omega)
theorem Q64.top {s:Sv} (h:Q64 s):R64 s.top.regs:=by
 unfold Sv.top
 cases e:s.l with
 | nil=>exact r64_z8
 | cons f r=>exact h.r f (by rw[e];simp)
theorem Q64.mark {s:Sv} (h:Q64 s) (k a:Int):Q64 (s.mark k a):=⟨h.r,h.d⟩
theorem Q64.stop {s:Sv} (h:Q64 s) (k a:Int):Q64 (s.stop k a):=⟨h.r,h.d⟩
theorem Q64.pop {s:Sv} (h:Q64 s):Q64 s.pop:=⟨fun f hf=>h.r f (List.mem_of_mem_tail hf),h.d⟩
theorem Q64.push {s:Sv} (h:Q64 s) {f:Sf} (hf:R64 f.regs):Q64 (s.push f):=⟨fun g hg=>by
 rcases List.mem_cons.1 hg with rfl|hg
 ·exact hf
 ·exact h.r g hg,h.d⟩
theorem Q64.setTop {s:Sv} (h:Q64 s) {g:Sf→Sf} (hg:∀f,R64 f.regs→R64 (g f).regs):Q64 (s.setTop g):=by
 unfold Sv.setTop
 split
 ·rename_i f r e
  refine ⟨fun x hx=>?_,h.d⟩
  rcases List.mem_cons.1 hx with rfl|hx
  ·exact hg f (h.r f (by rw[e];simp))
  ·exact h.r x (by rw[e];simp[hx])
 ·exact h
theorem Q64.set2 {s:Sv} (h:Q64 s) {g:Sf→Sf} (hg:∀f,R64 f.regs→R64 (g f).regs):Q64 (s.set2 g):=by
 unfold Sv.set2
 split
 ·rename_i f q r e
  refine ⟨fun x hx=>?_,h.d⟩
  rcases List.mem_cons.1 hx with rfl|hx
  ·exact h.r _ (by rw[e];simp)
  rcases List.mem_cons.1 hx with rfl|hx
  ·exact hg q (h.r q (by rw[e];simp))
  ·exact h.r x (by rw[e];simp[hx])
 ·exact h
theorem Q64.keep {s:Sv} (h:Q64 s):Q64 s.keep:=by
 unfold Sv.keep
 split
 ·exact h.set2 fun _ _=>h.top
 ·exact h
theorem Q64.iterate {s:Sv} (h:Q64 s):Q64 s.iterate:=by
 unfold Sv.iterate
 refine Q64.push (Q64.mark (Q64.setTop h ?_) _ _) ?_
 ·exact fun _ hf=>hf
 ·exact h.top
theorem Q64.begins {s:Sv} (h:Q64 s) (e:Ef):Q64 (s.begins e):=by
 unfold Sv.begins
 split
 ·exact ⟨h.r,h.d⟩
 split
 ·refine Q64.push (Q64.mark (Q64.setTop h ?_) _ _) ?_
  ·exact fun _ hf=>hf
  ·exact h.top
 split
 ·refine Q64.iterate (Q64.push (Q64.mark ?_ _ _) ?_)
  ·exact ⟨h.r,h.d⟩
  ·exact h.top
 ·exact h
theorem Q64.goOn {s:Sv} (h:Q64 s) (pc:Int) (e:Ef):Q64 (s.goOn pc e):=by
 unfold Sv.goOn
 split
 ·exact h.stop _ _
 split
 ·exact h.stop _ _
 ·refine Q64.mark (Q64.setTop h.keep ?_) _ _
  exact fun _ hf=>hf
theorem Q64.leave {s:Sv} (h:Q64 s):Q64 s.leave:=by
 unfold Sv.leave
 split
 ·exact h.stop _ _
 split
 ·exact h.stop _ _
 ·refine Q64.setTop (((h.keep.mark _ _).pop.pop).mark _ _) ?_
  exact fun _ _=>h.keep.pop.top
theorem Q64.back {s:Sv} (h:Q64 s):Q64 s.back:=by
 unfold Sv.back
 split
 ·exact ((h.keep.mark _ _).pop).iterate
 split
 ·exact h.stop _ _
 ·exact (h.mark _ _).pop
theorem Q64.meet {s:Sv} (h:Q64 s) (e:Ef):Q64 (s.meet e):=by
 unfold Sv.meet
 split
 ·refine Q64.mark (Q64.setTop h ?_) _ _
  exact fun _ hf=>hf
 ·exact h
theorem Q64.ask {s:Sv} (h:Q64 s) (pc:Int) {rs:List Int} (hr:R64 rs) {e:Ef} (he:e.k=2∨e.k=4→W64 e.v∧W64 e.o):Q64 (s.ask pc rs e):=by
 obtain ⟨h1,h2⟩:=askD_64 h.d he
 unfold Sv.ask
 split
 ·have h3:Q64 ({ s with data:=(askD s.data e).2.2 }:Sv):=⟨h.r,h2⟩
  refine Q64.setTop (h3.mark _ _) ?_
  exact fun _ _=>tookR_64 hr e h1
 ·exact h.stop _ _
theorem Q64.act {s:Sv} (h:Q64 s) {r:Int×List Int×Ef×Int} (hr:R64 r.2.1) (he:r.2.2.2=0→r.2.2.1.k=2∨r.2.2.1.k=4→W64 r.2.2.1.v∧W64 r.2.2.1.o):Q64 (s.act r):=by
 unfold Sv.act
 split
 ·exact h.stop _ _
 rename_i h0
 have he:=he (by simpa using h0)
 split
 ·exact h.ask _ hr he
 split
 ·exact h.goOn _ _
 split
 ·exact h.leave
 split
 ·exact h.back
 ·refine Q64.begins (Q64.setTop h ?_) _
  exact fun _ _=>hr
theorem one_q {fs:List (List Ix)} (hF:Fns fs) {s:Sv} (hW:Wf fs s) (h:Q64 s):Q64 (oneS fs s):=by
 obtain ⟨f,r,hl⟩:=hW.st.ne
 have hok:=hW.ok f (by rw[hl];simp)
 obtain ⟨l,hfl,_,h0,h1⟩:=hok.at_
 have hx:insE (insAt fs s.top)=0:=by
  have e:s.top=f:=by unfold Sv.top;rw[hl];rfl
  rw[e]
  unfold insAt
  have e1:fs.getD f.fn.toNat []=l:=by rw[List.getD_eq_getElem?_getD,hfl];rfl
  rw[e1,List.getD_eq_getElem?_getD]
  have hpc:f.pc.toNat < l.length:=by omega
  rw[List.getElem?_eq_getElem hpc,Option.getD_some]
  exact ((hF.fo l (List.mem_of_getElem? hfl)).al _ (List.getElem_mem hpc)).1
 unfold oneS
 have h2:Q64 ({ s with steps:=IntKind.i64.wrap (s.steps+1) }:Sv):=⟨h.r,h.d⟩
 refine (h2.meet _).act (doF_64 hx _ h.top) fun h3=>?_
 have:=doF_e (insAt fs s.top) s.top.pc s.top.regs h3
 unfold doS
 rw[this]
 exact ofE_64 _ h.top
def Lx (fs:List (List Ix)):Nat→Sv→Sv
 | 0,s=>if s.status≠0 then s else s.stop 6 0
 | n+1,s=>if s.status≠0 then s else Lx fs n (oneS fs s)
theorem X58 {fs:List (List Ix)} (n:Nat) {s:Sv} (h:s.status≠0):Lx fs n s=s:=by
 cases n<;>rw[Lx,if_pos h]
theorem Lx_succ {fs:List (List Ix)} (n:Nat) {s:Sv} (h:s.status=0):Lx fs (n+1) s=Lx fs n (oneS fs s):=by
 rw[Lx,if_neg (by simpa using h)]
theorem Lx_zero {fs:List (List Ix)} {s:Sv} (h:s.status=0):Lx fs 0 s=s.stop 6 0:=by
 rw[Lx,if_neg (by simpa using h)]
theorem Lx_loop {fs:List (List Ix)}:∀(n:Nat) (s:Sv),s.status=0→finS (loopS fs n s)=Lx fs n s:=by
 intro n
 induction n with
 | zero=>
  intro s h
  rw[Lx_zero h]
  have e:finS (loopS fs 0 s)=finS s:=rfl
  rw[e]
  unfold finS
  rw[if_pos h]
 | succ n ih=>
  intro s h
  rw[Lx_succ n h]
  simp only[loopS]
  by_cases hs:(oneS fs s).status≠0
  ·rw[if_pos hs,X58 n hs]
   unfold finS
   rw[if_neg hs]
  ·rw[if_neg hs]
   exact ih _ (by simpa using hs)
structure Iv (fs:List (List Ix)) (d k:Nat) (s:Sv):Prop where
 w:Wf fs s
 m:Lim k d s
 q:Q64 s
theorem Iv.one {fs:List (List Ix)} (hF:Fns fs) {d k:Nat} {s:Sv} (h:Iv fs d k s) (hk:k≤1000000):Iv fs d (k+1) (oneS fs s):=
 ⟨wf_one hF h.w,(one_lim h.m hk).1,one_q hF h.w h.q⟩
def Sv.e (s:Sv):Sv:={ s with l:=[] }
theorem Q24 (s:Sv) (g:Sf→Sf):(s.setTop g).e=s.e:=by unfold Sv.setTop;split<;>rfl
theorem e_set2 (s:Sv) (g:Sf→Sf):(s.set2 g).e=s.e:=by unfold Sv.set2;split<;>rfl
theorem e_keep (s:Sv):s.keep.e=s.e:=by unfold Sv.keep;split;exact e_set2 _ _;rfl
theorem e_pop (s:Sv):s.pop.e=s.e:=rfl
theorem Z20 (s:Sv) (k a:Int):(s.mark k a).e=s.e.mark k a:=rfl
theorem XY {s:Sv} {f:Sf} {r:List Sf} (h:s.l=f::r):s.top=f:=by unfold Sv.top;rw[h];rfl
theorem Q54 {s:Sv} {f:Sf} {r:List Sf} (h:s.l=f::r) (g:Sf→Sf):(s.setTop g).l=g f::r:=by unfold Sv.setTop;rw[h]
def nxS (s:Sv):Sv:={ s with steps:=IntKind.i64.wrap (s.steps+1) }
theorem one_eq (fs:List (List Ix)) (s:Sv):oneS fs s=((nxS s).meet (doS fs s).2.2.1).act (doS fs s):=rfl
theorem meet_f {s:Sv} {e:Ef} {f:Sf} {r:List Sf} (hl:s.l=f::r):(s.meet e).l={ f with dirty:=f.dirty&&!endsE e }::r∧(s.meet e).e=(if (endsE e&&f.dirty)=true then s.mark 6 0 else s).e:=by
 unfold Sv.meet
 rw[XY hl]
 by_cases h:(endsE e&&f.dirty)=true
 ·rw[if_pos h,if_pos h]
  have h1:endsE e=true∧f.dirty=true:=by simpa using h
  refine ⟨?_,?_⟩
  ·show (s.setTop _).l=_
   rw[Q54 hl,h1.1]
   simp
  ·rw[Z20,Q24,Z20]
 ·rw[if_neg h,if_neg h]
  refine ⟨?_,rfl⟩
  rw[hl]
  have:(f.dirty&&!endsE e)=f.dirty:=by
   cases hd:f.dirty<;>cases he:endsE e<;>simp[hd,he] at h ⊢
  rw[this]
theorem act_fault (s:Sv) {r:Int×List Int×Ef×Int} (h:r.2.2.2≠0):s.act r=s.stop 4 r.2.2.2:=by unfold Sv.act;rw[if_pos h]
theorem act_ask (s:Sv) {r:Int×List Int×Ef×Int} (h:r.2.2.2=0) (hk:1≤r.2.2.1.k∧r.2.2.1.k≤4):s.act r=s.ask r.1 r.2.1 r.2.2.1:=by
 unfold Sv.act;rw[if_neg (by simpa using h),if_pos hk]
theorem act_go (s:Sv) {r:Int×List Int×Ef×Int} (h:r.2.2.2=0) (hk:r.2.2.1.k=9∨r.2.2.1.k=10):s.act r=s.goOn r.1 r.2.2.1:=by
 unfold Sv.act;rw[if_neg (by simpa using h),if_neg (by omega),if_pos hk]
theorem act_leave (s:Sv) {r:Int×List Int×Ef×Int} (h:r.2.2.2=0) (hk:r.2.2.1.k=11):s.act r=s.leave:=by
 unfold Sv.act;rw[if_neg (by simpa using h),if_neg (by omega),if_neg (by omega),if_pos hk]
theorem act_back (s:Sv) {r:Int×List Int×Ef×Int} (h:r.2.2.2=0) (hk:r.2.2.1.k=12):s.act r=s.back:=by
 unfold Sv.act;rw[if_neg (by simpa using h),if_neg (by omega),if_neg (by omega),if_neg (by omega),if_pos hk]
theorem X29 (s:Sv) {r:Int×List Int×Ef×Int} (h:r.2.2.2=0) (hk:r.2.2.1.k=0∨r.2.2.1.k=5∨r.2.2.1.k=6∨r.2.2.1.k=7∨r.2.2.1.k=8):
  s.act r=(s.setTop fun f=>{ f with pc:=r.1,regs:=r.2.1 }).begins r.2.2.1:=by
 unfold Sv.act;rw[if_neg (by simpa using h),if_neg (by omega),if_neg (by omega),if_neg (by omega),if_neg (by omega)]
theorem ofE_kinds (x:Ix) (rs:List Int):0≤(ofE x rs).k∧(ofE x rs).k≤12:=by
 unfold ofE
 simp only
 by_cases h13:x.op=13
 ·simp[h13]
 by_cases h14:x.op=14
 ·simp[h14]
 by_cases h15:x.op=15
 ·simp[h15]
 by_cases h16:x.op=16
 ·simp[h16]
 by_cases h17:x.op=17
 ·simp[h17]
 by_cases h20:x.op=20
 ·simp[h20]
 by_cases h21:x.op=21
 ·simp[h21]
 by_cases h22:x.op=22
 ·simp[h22]
 by_cases h23:x.op=23
 ·simp[h23]
 by_cases h24:x.op=24
 ·simp[h24]
 by_cases h25:x.op=25
 ·simp[h25]
 by_cases h0:x.op=0
 ·simp[h0]
 simp[h13,h14,h15,h16,h17,h20,h21,h22,h23,h24,h25,h0,ef0]
theorem doF_regs (x:Ix) (pc:Int) (rs:List Int) (h:(doF x pc rs).2.2.2=0) (hk:5≤(doF x pc rs).2.2.1.k):(doF x pc rs).2.1=rs:=by
 have he:=doF_e x pc rs h
 rw[he] at hk
 have hop:¬x.op=1∧¬x.op=2∧¬(knownB x.op=true):=by
  refine ⟨fun c=>?_,fun c=>?_,fun c=>?_⟩
  ·simp[ofE,c,ef0] at hk
  ·simp[ofE,c,ef0] at hk
  ·unfold knownB at c
   have c:=of_decide_eq_true c
   unfold ofE at hk
   simp only at hk
   rw[if_neg (by omega),if_neg (by omega),if_neg (by omega),if_neg (by omega),if_neg (by omega),if_neg (by omega),if_neg (by omega),if_neg (by omega),if_neg (by omega),if_neg (by omega),if_neg (by omega),if_neg (by omega)] at hk
   simp[ef0] at hk
 unfold doF
 rw[if_neg hop.1,if_neg hop.2.1,if_neg hop.2.2]
 split
 ·rfl
 split
 ·rfl
 ·rfl
end Go.Proofs.YtncdnegdlkmicaaGreat
