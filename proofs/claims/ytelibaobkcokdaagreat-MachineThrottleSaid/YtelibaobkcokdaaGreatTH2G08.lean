/- Annotated values, part g: the rewriting rules of the walk on annotated values (t -/
import Derived.Test.YtelibaobkcokdaaGreatTH2G07
import Derived.Deep.Matrix
import Derived.Below
namespace Go.Kx
set_option linter.unusedSectionVars false
set_option linter.unusedVariables false
set_option linter.unusedSimpArgs false
open Go
def obindA (o:Option AV) (f:AV→Prop):Prop:=∃a,o=some a∧f a
def cndA (a:AV) (A B:Prop):Prop:=∃t,a=.v (.bool t)∧((t=true→A)∧(t=false→B))
def bselA (a:AV) (want:Bool) (A B:Prop):Prop:=if gselA a want then A else B
@[push_cast] theorem obindA_some (a:AV) (f:AV→Prop):obindA (some a) f=act (f a):=by simp[obindA,act]
@[push_cast] theorem cndA_true (A B:Prop):cndA (.v (.bool true)) A B=act A:=by simp[cndA,act]
@[push_cast] theorem cndA_false (A B:Prop):cndA (.v (.bool false)) A B=act B:=by simp[cndA,act]
@[push_cast] theorem bselA_undef (w:Bool) (A B:Prop):bselA (.v undef) w A B=act B:=rfl
@[push_cast] theorem bselA_tt (A B:Prop):bselA (.v (.bool true)) true A B=act A:=rfl
@[push_cast] theorem bselA_tf (A B:Prop):bselA (.v (.bool true)) false A B=act B:=rfl
@[push_cast] theorem bselA_ft (A B:Prop):bselA (.v (.bool false)) true A B=act B:=rfl
@[push_cast] theorem bselA_ff (A B:Prop):bselA (.v (.bool false)) false A B=act A:=rfl
@[push_cast] theorem evA_tmp (ε:AEnv) (t:Nat):evA ε (.tmp t)=ε t:=rfl
@[push_cast] theorem evA_const (ε:AEnv) (v:Value):evA ε (.const v)=absV v:=rfl
@[push_cast] theorem evA_func (ε:AEnv) (f:Nat):evA ε (.func f)=.fn (.func f) 0 []:=rfl
@[push_cast] theorem absV_int (k:IntKind) (n:Int):absV (.int k n)=.v (.int k n):=rfl
@[push_cast] theorem absV_bool (b:Bool):absV (.bool b)=.v (.bool b):=rfl
@[push_cast] theorem absV_string (s:ByteArray):absV (.string s)=.v (.string s):=rfl
@[push_cast] theorem absV_nil:absV (.slice none 0 0)=.sl 0 [] .nil:=rfl
@[push_cast] theorem absV_ptr (a:Option Addr):absV (.pointer a)=.v (.pointer a):=rfl
@[push_cast] theorem absV_nilFunc:absV .nilFunc=.v .nilFunc:=rfl
@[push_cast] theorem abs1_int (k:IntKind) (n:Int):abs1 (.int k n)=.v (.int k n):=rfl
@[push_cast] theorem abs1_bool (b:Bool):abs1 (.bool b)=.v (.bool b):=rfl
@[push_cast] theorem abs1_nil:abs1 (.slice none 0 0)=.sl 0 [] .nil:=rfl
@[push_cast] theorem abs1_ptr (a:Option Addr):abs1 (.pointer a)=.v (.pointer a):=rfl
@[push_cast] theorem abs1_nilFunc:abs1 .nilFunc=.v .nilFunc:=rfl
@[push_cast] theorem abs1s_nil:List.map abs1 []=[]:=rfl
@[push_cast] theorem abs1s_cons (v:Value) (l:List Value):List.map abs1 (v::l)=abs1 v::List.map abs1 l:=rfl
@[push_cast] theorem setA_get (ε:AEnv) (d:Nat) (a:AV) (i:Nat):(AEnv.set ε d a) i=if i=d then a else ε i:=rfl
@[push_cast] theorem putA_some (ε:AEnv) (d:Nat) (a:AV):AEnv.put ε (some d) a=ε.set d a:=rfl
@[push_cast] theorem putA_none (ε:AEnv) (a:AV):AEnv.put ε none a=ε:=rfl
@[push_cast] theorem initA_zero (a:AV) (as:List AV):initA (a::as) 0=a:=rfl
@[push_cast] theorem initA_succ (a:AV) (as:List AV) (n:Nat):initA (a::as) (n+1)=initA as n:=rfl
@[push_cast] theorem outA_nil (ρ ε:AEnv):outA [] ρ ε=ρ:=rfl
@[push_cast] theorem outA_cons (d:Nat) (ds:List Nat) (ρ ε:AEnv):outA (d::ds) ρ ε=outA ds (ρ.set d (ε d)) ε:=rfl
@[push_cast] theorem evAs_nil (ε:AEnv):List.map (evA ε) []=[]:=rfl
@[push_cast] theorem evAs_cons (ε:AEnv) (x:Operand) (xs:List Operand):List.map (evA ε) (x::xs)=evA ε x::List.map (evA ε) xs:=rfl
section
variable (P:Program) (K:AEnv→St→Prop) (X:Nat→AEnv→St→Prop) (R:AEnv→St→Prop) (ε:AEnv) (σ:St)
@[push_cast] theorem wpA_skip:act (wpA P .skip K X R ε σ)=act (K ε σ):=rfl
@[push_cast] theorem wpA_seq (a b:SCode):act (wpA P (.seq a b) K X R ε σ)=act (wpA P a (fun ε σ=>wpA P b K X R ε σ) X R ε σ):=rfl
@[push_cast] theorem wpA_reg (t:RT) (outs:List Nat):act (wpA P (.reg t outs) K X R ε σ)=act (goRA P t ε σ fun ε' σ'=>K (outA outs ε ε') σ'):=rfl
@[push_cast] theorem wpA_cond (c:Operand) (a b:SCode):act (wpA P (.cond c a b) K X R ε σ)=cndA (evA ε c) (wpA P a K X R ε σ) (wpA P b K X R ε σ):=rfl
@[push_cast] theorem wpA_block (id:Nat) (c:SCode):act (wpA P (.block id c) K X R ε σ)=act (wpA P c K (fun j ε σ=>if j=id then K ε σ else X j ε σ) R ε σ):=rfl
@[push_cast] theorem wpA_exit (id:Nat):act (wpA P (.exit id) K X R ε σ)=act (X id ε σ):=rfl
@[push_cast] theorem wpA_ret:act (wpA P .ret K X R ε σ)=act (R ε σ):=rfl
end
section
variable (P:Program) (ε:AEnv) (σ:St) (K:AEnv→St→Prop)
@[push_cast] theorem straightA_nil:act (goRA P (straight []) ε σ K)=act (K ε σ):=rfl
@[push_cast] theorem goRA_done:act (goRA P .done ε σ K)=act (K ε σ):=rfl
@[push_cast] theorem goRA_both (a b:RT):act (goRA P (.both a b) ε σ K)=(act (goRA P a ε σ K)∧act (goRA P b ε σ K)):=rfl
@[push_cast] theorem straightA_cons (it:SItem) (its:List SItem):act (goRA P (straight (it::its)) ε σ K)=act (goRA P (.run it (straight its)) ε σ K):=rfl
@[push_cast] theorem goRA_pur (d:Option Nat) (f:PF) (xs:List Operand) (rest:RT):
  act (goRA P (.run ⟨d,none,.pur f xs⟩ rest) ε σ K)=obindA (f.av (xs.map (evA ε))) fun a=>goRA P rest (ε.put d a) σ K:=rfl
@[push_cast] theorem goRA_ld (d:Option Nat) (n:Option Nat) (x:Operand) (rest:RT):
  act (goRA P (.run ⟨d,none,.ld n x⟩ rest) ε σ K)=obindA (ldA n (evA ε x) σ) fun a=>goRA P rest (ε.put d a) σ K:=rfl
@[push_cast] theorem goRA_run_eff (d:Option Nat) (e:EF) (xs:List Operand) (rest:RT):
  act (goRA P (.run ⟨d,none,.eff e xs⟩ rest) ε σ K)=act (e.awp P (xs.map (evA ε)) σ fun a σ'=>goRA P rest (ε.put d a) σ' K):=rfl
@[push_cast] theorem goRA_guard (d:Option Nat) (s:Nat) (want:Bool) (op:SOp) (rest:RT):
  act (goRA P (.run ⟨d,some (s,want),op⟩ rest) ε σ K)=bselA (ε s) want (goRA P (.run ⟨d,none,op⟩ rest) ε σ K) (goRA P rest (ε.put d (.v undef)) σ K):=rfl
@[push_cast] theorem goRA_eff (d:Option Nat) (e:EF) (xs:List Operand) (held:List SItem) (rest:RT):
  act (goRA P (.eff ⟨d,none,.eff e xs⟩ held rest) ε σ K)=act (e.awp P (xs.map (evA ε)) σ fun a σ'=>(∀q∈held,q.aholds (ε.put d a) σ')∧goRA P rest (ε.put d a) σ' K):=rfl
@[push_cast] theorem goRA_eff_guard (d:Option Nat) (s:Nat) (want:Bool) (op:SOp) (held:List SItem) (rest:RT):
  act (goRA P (.eff ⟨d,some (s,want),op⟩ held rest) ε σ K)=bselA (ε s) want (goRA P (.eff ⟨d,none,op⟩ held rest) ε σ K) ((∀q∈held,q.aholds (ε.put d (.v undef)) σ)∧goRA P rest (ε.put d (.v undef)) σ K):=rfl
@[push_cast] theorem goRA_eff_pur (d:Option Nat) (f:PF) (xs:List Operand) (held:List SItem) (rest:RT):
  act (goRA P (.eff ⟨d,none,.pur f xs⟩ held rest) ε σ K)=obindA (f.av (xs.map (evA ε))) fun a=>(∀q∈held,q.aholds (ε.put d a) σ)∧goRA P rest (ε.put d a) σ K:=rfl
end
@[push_cast] theorem act_held0 (ε:AEnv) (σ:St) (A:Prop):act ((∀q∈([]:List SItem),q.aholds ε σ)∧A)=act A:=by simp[act]
@[push_cast] theorem act_held1 (q:SItem) (qs:List SItem) (ε:AEnv) (σ:St) (A:Prop):act ((∀p∈q::qs,p.aholds ε σ)∧A)=(q.aholds ε σ∧act ((∀p∈qs,p.aholds ε σ)∧A)):=by simp[act,and_assoc]
def posts:List RV→List AV→(AV→St→Prop)→AEnv→St→Prop
 | [],acc,R,_,σ=>R (resA acc) σ
 | .tmp t::rs,acc,R,ε,σ=>posts rs (acc++[ε t]) R ε σ
 | .cell c n::rs,acc,R,ε,σ=>obindA (ldA n (ε c) σ) fun a=>posts rs (acc++[a]) R ε σ
theorem posts_spec (R:AV→St→Prop) (ε:AEnv) (σ:St):∀(res:List RV) (acc:List AV),posts res acc R ε σ=∃as,res.mapM (RV.av ε σ)=some as∧R (resA (acc++as)) σ:=by
 intro res
 induction res with
 | nil=>intro acc;simp[posts]
 | cons r res ih=>
  intro acc
  cases r with
  | tmp t=>
   simp only[posts,ih,List.mapM_cons,RV.av];apply propext;constructor
   ·rintro ⟨as,h1,h2⟩;exact ⟨ε t::as,by simp[h1],by simpa using h2⟩
   ·rintro ⟨as,h1,h2⟩;simp only[bind,Option.bind_eq_some_iff,pure,Option.some.injEq] at h1;obtain ⟨x,rfl,as',h3,rfl⟩:=h1;exact ⟨as',h3,by simpa using h2⟩
  | cell c n=>
   simp only[posts,ih,List.mapM_cons,RV.av,obindA];apply propext;constructor
   ·rintro ⟨a,ha,as,h1,h2⟩;exact ⟨a::as,by simp[ha,h1],by simpa using h2⟩
   ·rintro ⟨as,h1,h2⟩;simp only[bind,Option.bind_eq_some_iff,pure,Option.some.injEq] at h1;obtain ⟨x,hx,as',h3,rfl⟩:=h1;exact ⟨x,hx,as',h3,by simpa using h2⟩
@[push_cast] theorem postA_eq (res:List RV) (R:AV→St→Prop) (ε:AEnv) (σ:St):act (postA res R ε σ)=act (posts res [] R ε σ):=by rw[posts_spec];simp[postA]
@[push_cast] theorem posts_nil (acc:List AV) (R:AV→St→Prop) (ε:AEnv) (σ:St):act (posts [] acc R ε σ)=act (R (resA acc) σ):=rfl
@[push_cast] theorem posts_tmp (t:Nat) (rs:List RV) (acc:List AV) (R:AV→St→Prop) (ε:AEnv) (σ:St):act (posts (.tmp t::rs) acc R ε σ)=act (posts rs (acc++[ε t]) R ε σ):=rfl
@[push_cast] theorem posts_cell (c:Nat) (n:Option Nat) (rs:List RV) (acc:List AV) (R:AV→St→Prop) (ε:AEnv) (σ:St):act (posts (.cell c n::rs) acc R ε σ)=obindA (ldA n (ε c) σ) fun a=>posts rs (acc++[a]) R ε σ:=rfl
@[push_cast] theorem resA_1 (a:AV):resA [a]=a:=rfl
@[push_cast] theorem resA_2 (a b:AV) (l:List AV):resA (a::b::l)=.tup (a::b::l):=rfl
@[push_cast] theorem av_mov (a:AV):PF.av .mov [a]=some a:=rfl
@[push_cast] theorem av_pick (c:Bool) (a b:AV):PF.av .pick [.v (.bool c),a,b]=some (if c then a else b):=rfl
@[push_cast] theorem av_bin (op:BinOp) (x y:Value):PF.av (.bin op) [.v x,.v y]=(PF.val (.bin op) [x,y]).map .v:=rfl
@[push_cast] theorem av_eqn0 (ng:Bool) (x:Value):PF.av (.eqn ng 0) [.v x]=(PF.val (.eqn ng 0) [x]).map .v:=rfl
@[push_cast] theorem av_eqn2 (ng:Bool) (x:Value):PF.av (.eqn ng 2) [.v x]=(PF.val (.eqn ng 2) [x]).map .v:=rfl
@[push_cast] theorem av_eqn_ref (ng:Bool) (i w o:Nat):PF.av (.eqn ng 0) [.ref i w o]=some (.v (.bool ng)):=rfl
@[push_cast] theorem av_eqn_ms (ng:Bool) (i w o n s:Nat):PF.av (.eqn ng 1) [.ms i w o n s]=some (.v (.bool ng)):=rfl
@[push_cast] theorem av_eqn_fn (ng:Bool) (f:Fn) (k:Nat) (xs:List AV):PF.av (.eqn ng 2) [.fn f k xs]=some (.v (.bool ng)):=rfl
@[push_cast] theorem isNil_2 (ng:Bool):PF.val (.eqn ng 2) [.nilFunc]=some (.bool (!ng)):=by cases ng<;>rfl
@[push_cast] theorem av_not (x:Value):PF.av .not [.v x]=(PF.val .not [x]).map .v:=rfl
@[push_cast] theorem av_lens (x:Value):PF.av (.len true) [.v x]=(PF.val (.len true) [x]).map .v:=rfl
@[push_cast] theorem av_ixs (x y:Value):PF.av .ixs [.v x,.v y]=(PF.val .ixs [x,y]).map .v:=rfl
@[push_cast] theorem av_sls2 (lo hi:Bool) (x y z:Value):PF.av (.sls lo hi) [.v x,.v y,.v z]=(PF.val (.sls lo hi) [x,y,z]).map .v:=rfl
@[push_cast] theorem av_mm2 (mx:Bool) (x y:Value):PF.av (.minmax mx) [.v x,.v y]=(PF.val (.minmax mx) [x,y]).map .v:=rfl
@[push_cast] theorem av_bld (z:List Value) (ps:List (Nat×Nat)) (as:List AV):PF.av (.bld z ps) as=(fillA (z.map abs1) ps as).map .agg:=by unfold PF.av;rfl
@[push_cast] theorem av_len (n:Nat) (cs:List AV) (t:Tok):PF.av (.len false) [.sl n cs t]=some (.v (.int .i64 n)):=rfl
@[push_cast] theorem av_lenm (i w o n s:Nat):PF.av (.len false) [.ms i w o n s]=some (.v (.int .i64 n)):=rfl
@[push_cast] theorem av_ixa (sz n:Nat) (cs:List AV) (t:Tok) (k:IntKind) (i:Int) (h0:0≤i) (h1:i < n):PF.av (.ixa sz) [.sl n cs t,.v (.int k i)]=some (.ep (cs.drop (i.toNat * sz))):=if_pos ⟨h0,h1⟩
@[push_cast] theorem av_ixam (sz a w o n:Nat) (k:IntKind) (i:Int) (h0:0≤i) (h1:i < n):PF.av (.ixa sz) [.ms a w o n sz,.v (.int k i)]=some (.ref a w (o+i.toNat * sz)):=if_pos ⟨h0,h1,rfl⟩
@[push_cast] theorem av_ixaA (n sz a w o:Nat) (k:IntKind) (i:Int) (h0:0≤i) (h1:i < n):PF.av (.ixaA n sz) [.ref a w o,.v (.int k i)]=some (.ref a w (o+i.toNat * sz)):=if_pos ⟨h0,h1⟩
@[push_cast] theorem av_ixaE (n sz:Nat) (cs:List AV) (k:IntKind) (i:Int) (h0:0≤i) (h1:i < n):PF.av (.ixaA n sz) [.ep cs,.v (.int k i)]=some (.ep (cs.drop (i.toNat * sz))):=if_pos ⟨h0,h1⟩
@[push_cast] theorem av_fla (off i w o:Nat):PF.av (.fla off) [.ref i w o]=some (.ref i w (o+off)):=rfl
@[push_cast] theorem av_flae (off:Nat) (cs:List AV):PF.av (.fla off) [.ep cs]=some (.ep (cs.drop off)):=rfl
@[push_cast] theorem av_nilc (i w o:Nat):PF.av .nilc [.ref i w o]=some (.ref i w o):=rfl
@[push_cast] theorem av_mkf (fn:Fn) (n:Nat) (xs:List AV):PF.av (.mkf fn n) xs=some (.fn fn n xs):=by unfold PF.av;rfl
@[push_cast] theorem av_ext (i:Nat) (xs:List AV):PF.av (.ext i) [.tup xs]=xs[i]?:=rfl
theorem Y6 (y:Nat) (k:IntKind) (i:Int) (h0:0≤i) (h1:i≤y):bound y (.int k i)=some i.toNat:=if_pos ⟨h0,h1⟩
@[push_cast] theorem av_slcm_hi (sz a w o n:Nat) (k:IntKind) (i:Int) (h0:0≤i) (h1:i≤n):PF.av (.slc sz false true) [.ms a w o n sz,.v (.int k i)]=some (.ms a w o i.toNat sz):=by simp[PF.av,lit1s,lit1,loHi,Y6 _ _ _ h0 h1]
@[push_cast] theorem av_slcA_lo (sz n:Nat) (cs:List AV) (k:IntKind) (i:Int) (h0:0≤i) (h1:i≤n) (h2:n≤9223372036854775807):PF.av (.slcA n sz true false) [.ep cs,.v (.int k i)]=some (.sl (n - i.toNat) (subA cs (i.toNat * sz) ((n - i.toNat) * sz)) .none):=by simp[PF.av,lit1s,lit1,loHi,Y6 _ _ _ h0 h1,h2]
@[push_cast] theorem fillA_nil (cs:List AV):fillA cs [] []=some cs:=rfl
@[push_cast] theorem setAtA_nil (cs:List AV) (off:Nat):setAtA cs off []=cs:=rfl
@[push_cast] theorem setAtA_cons (cs:List AV) (off:Nat) (a:AV) (as:List AV):setAtA cs off (a::as)=setAtA (cs.set off a) (off+1) as:=rfl
@[push_cast] theorem cells_int (k:IntKind) (n:Int):AV.cells (.v (.int k n))=[.v (.int k n)]:=rfl
@[push_cast] theorem cells_str (b:ByteArray):AV.cells (.v (.string b))=[.v (.string b)]:=rfl
@[push_cast] theorem cells_agg (l:List AV):AV.cells (.agg l)=l:=rfl
@[push_cast] theorem cells_sl (n:Nat) (cs:List AV) (t:Tok):AV.cells (.sl n cs t)=[.sl n cs t]:=rfl
@[push_cast] theorem cells_ref (a b c:Nat):AV.cells (.ref a b c)=[.ref a b c]:=rfl
def ldR (n:Option Nat) (w off:Nat):Option Res→Option AV
 | some (.obj w' cs)=>if w=w' then cellsA n (cs.drop off) else none
 | some (.frz w' cs)=>if w=w' then cellsA n (cs.drop off) else none
 | _=>none
@[push_cast] theorem ldA_ep (n:Option Nat) (cs:List AV) (σ:St):ldA n (.ep cs) σ=cellsA n cs:=rfl
@[push_cast] theorem ldA_ref (n:Option Nat) (i w off:Nat) (σ:St):ldA n (.ref i w off) σ=ldR n w off σ[i]?:=by
 unfold ldA ldR;simp only
 cases σ[i]? with
 | none=>rfl
 | some r=>cases r<;>rfl
@[push_cast] theorem ldR_obj (n:Option Nat) (w off:Nat) (cs:List AV):ldR n w off (some (.obj w cs))=cellsA n (cs.drop off):=by simp[ldR]
@[push_cast] theorem cellsA_one (cs:List AV):cellsA none cs=cs[0]?:=rfl
@[push_cast] theorem XG (k:Nat) (cs:List AV) (h:k≤cs.length):cellsA (some k) cs=some (.agg (cs.take k)):=if_pos h
theorem Qj {P:Program} {f:FuncId} {F:Fun} (hk:compF P f=some F) (hm:P.follows .mixedOrders=true) {as:List AV} {Q:AV→Prop} (ha:Nat.ble as.length F.N=true) (hp:AV.pureL as=true)
  (H:act (wpA P F.code (postA F.res fun a σ'=>∃is,(a.res (freeze is σ')).pure=true∧Q (a.res (freeze is σ'))) (fun _ _ _=>False) (postA F.res fun a σ'=>∃is,(a.res (freeze is σ')).pure=true∧Q (a.res (freeze is σ'))) (initA as) [])):FnP P f as Q:=
 fnP_enter hk hm (Nat.le_of_ble_eq_true ha) hp H
theorem Q3 {P:Program} {f:FuncId} {F:Fun} (hk:compF P f=some F) (hm:P.follows .mixedOrders=true) {as:List AV} {σ:St} {R:AV→St→Prop} (ha:Nat.ble as.length F.N=true)
  (H:act (wpA P F.code (postA F.res R) (fun _ _ _=>False) (postA F.res R) (initA as) σ)):FnG P f as σ R:=fnG_enter hk hm (Nat.le_of_ble_eq_true ha) H
section
variable {P:Program} {σ:St} {K:AV→St→Prop}
theorem wpa_frz {e:EF} {as:List AV} (is:List Nat) (fs:List Bool) (h:act (EF.awp P e (weak (freeze is σ) fs as) (freeze is σ) K)):act (EF.awp P e as σ K):=EF.awp_step is fs h
theorem Q0 {f:FuncId} {as:List AV} {R:AV→St→Prop} (H:FnG P f as σ R) (hk:∀a σ',R a σ'→act (K a σ')):act (EF.awp P (.call f) as σ K):=by refine EF.awp_of ?_;have key:FnG P f as σ K:=H.mono hk;cases as<;>exact key
theorem Qv {f:FuncId} {as:List AV} {Q:AV→Prop} (H:FnP P f as Q) (hk:∀a,Q a→act (K a σ)):act (EF.awp P (.call f) as σ K):=
 Q0 (H.at σ) fun a σ' ⟨h1,h2⟩=>by subst h1;exact hk a h2
theorem wpa_callw {f:FuncId} {as as':List AV} {Q:AV→Prop} (is:List Nat) (fs:List Bool) (H:FnP P f as' Q) (he:weak (freeze is σ) fs as=as') (hk:∀a,Q a→act (K a (freeze is σ))):act (EF.awp P (.call f) as σ K):=
 wpa_frz is fs (by rw[he];exact Qv H hk)
theorem Q8 {f:FuncId} {k:Nat} {xs as as':List AV} {R:AV→St→Prop} (hok:fnOk P f=true) (he:xs.take k++as++xs.drop k=as') (H:FnG P f as' σ R) (hk:∀a σ',R a σ'→act (K a σ')):
  act (EF.awp P .callv (.fn (.func f) k xs::as) σ K):=by
 subst he;exact EF.awp_of ⟨hok,H.mono hk⟩
theorem Qm {T:TypeId} {z:List Value} (hk:act (K (.ref σ.length 0 0) (σ++[.obj 0 (z.map abs1)]))):act (EF.awp P (.new T z) [] σ K):=EF.awp_of hk
theorem Qs {T:TypeId} {a:AV} (hk:act (K (.ref σ.length 0 0) (σ++[.obj 0 a.cells]))):act (EF.awp P (.box T) [a] σ K):=EF.awp_of (.inl hk)
theorem Q6 {T:TypeId} {a:AV} (hk:act (K (.ep a.cells) σ)):act (EF.awp P (.box T) [a] σ K):=EF.awp_of (.inr hk)
theorem QA {E:TypeId} {sz:Nat} {as:List AV} (h1:∀a∈as,a.cells.length=sz) (h2:as.length≤9223372036854775807) (hk:act (K (.sl as.length (as.flatMap AV.cells) .full) σ)):act (EF.awp P (.bsl E sz) as σ K):=by have key:(∀a∈as,a.cells.length=sz)∧as.length≤9223372036854775807∧(K (.sl as.length (as.flatMap AV.cells) .full) σ∨K (.ms σ.length 0 0 as.length sz) (σ++[.obj 0 (as.flatMap AV.cells)])):=⟨h1,h2,.inl hk⟩;refine EF.awp_of ?_;cases as<;>exact key
theorem wpa_bslo {E:TypeId} {sz:Nat} {as:List AV} (h1:∀a∈as,a.cells.length=sz) (h2:as.length≤9223372036854775807) (hk:act (K (.ms σ.length 0 0 as.length sz) (σ++[.obj 0 (as.flatMap AV.cells)]))):act (EF.awp P (.bsl E sz) as σ K):=by have key:(∀a∈as,a.cells.length=sz)∧as.length≤9223372036854775807∧(K (.sl as.length (as.flatMap AV.cells) .full) σ∨K (.ms σ.length 0 0 as.length sz) (σ++[.obj 0 (as.flatMap AV.cells)])):=⟨h1,h2,.inr hk⟩;refine EF.awp_of ?_;cases as<;>exact key
theorem Y66 {E:TypeId} {sz by_:Nat} {z:List Value} {k k':IntKind} {n:Nat} (hz:z.length=sz) (hn:n * by_≤281474976710656) (hn2:n≤9223372036854775807) (hk:act (K (.ms σ.length 0 0 n sz) (σ++[.obj 0 (repA (z.map abs1) n)]))):
  act (EF.awp P (.mks E sz by_ z) [.v (.int k n),.v (.int k' n)] σ K):=by
 refine EF.awp_of ⟨hz,by omega,Int.le_refl _,by omega,?_,?_⟩
 ·have:((n * by_:Nat):Int)≤281474976710656:=by omega
  rw[Int.natCast_mul] at this
  rwa [Int.mul_comm]
 ·simpa[act] using hk
theorem repA_one (a:AV) (n:Nat):repA [a] n=List.replicate n a:=by
 simp only[repA]
 induction n with
 | zero=>rfl
 | succ n ih=>simp[List.replicate_succ,ih]
theorem Q9 {i w off:Nat} {a:AV} {cs:List AV} (hc:a.cells=[a]) (h1:a.one=true) (hi:σ[i]?=some (.obj w cs)) (ho:off < cs.length) (hk:act (K (.v undef) (σ.set i (.obj w (cs.set off a))))):act (EF.awp P (.st 1) [.ref i w off,a] σ K):=by refine EF.awp_of ⟨by rw[hc];rfl,by rw[hc];simp[h1],cs,hi,by omega,?_⟩;rw[hc];exact hk
theorem Qd {i w off n:Nat} {l cs:List AV} (hn:l.length=n) (h1:l.all AV.one=true) (hi:σ[i]?=some (.obj w cs)) (ho:off+n≤cs.length) (hk:act (K (.v undef) (σ.set i (.obj w (setAtA cs off l))))):act (EF.awp P (.st n) [.ref i w off,.agg l] σ K):=
 EF.awp_of ⟨hn,h1,cs,hi,ho,hk⟩
theorem X44 {E:TypeId} {sz by_:Nat} {z:List Value} {n i w:Nat} {cs:List AV} {y:AV} {m:Nat} {news:List AV} (hz:z.length=sz) (hs:srcA σ sz y=some (m,news)) (hm:news.length=m * sz) (h1:news.all AV.one=true) (hc:cs.length=n * sz)
  (hn:n+m≤9223372036854775807) (hb:(n+m) * by_≤140737488355328) (hi:σ[i]?=some (.tail w)) (hk:act (K (.sl (n+m) (cs++news) (.id i (w+1) sz)) (σ.set i (.tail (w+1))))):
  act (EF.awp P (.app E sz by_ z) [.sl n cs (.id i w sz),y] σ K):=EF.awp_of ⟨hz,m,news,hs,hm,h1,hn,hb,hc,rfl,hi,hk⟩
theorem Yo {E:TypeId} {sz by_:Nat} {z:List Value} {y:AV} {m:Nat} {news:List AV} (hz:z.length=sz) (hs:srcA σ sz y=some (m,news)) (hm:news.length=m * sz) (h1:news.all AV.one=true)
  (hn:m≤9223372036854775807) (hb:m * by_≤140737488355328) (hk:act (K (.sl m news (.id σ.length 1 sz)) (σ++[.tail 1]))):
  act (EF.awp P (.app E sz by_ z) [.sl 0 [] .nil,y] σ K):=by
 refine EF.awp_of ⟨hz,m,news,hs,hm,h1,by simpa[AV.num] using hn,by simpa[AV.num] using hb,by simp,.inl ?_⟩;simpa[act] using hk
theorem X66 {E:TypeId} {sz by_:Nat} {z:List Value} {n:Nat} {cs:List AV} {y:AV} {m:Nat} {news:List AV} (hz:z.length=sz) (hs:srcA σ sz y=some (m,news)) (hm:news.length=m * sz) (h1:news.all AV.one=true) (hc:cs.length=n * sz)
  (hn:n+m≤9223372036854775807) (hb:(n+m) * by_≤140737488355328) (hk:act (K (.sl (n+m) (cs++news) (.id σ.length 1 sz)) (σ++[.tail 1]))):
  act (EF.awp P (.app E sz by_ z) [.sl n cs .full,y] σ K):=EF.awp_of ⟨hz,m,news,hs,hm,h1,hn,hb,hc,.inl hk⟩
theorem QP {E:TypeId} {sz by_:Nat} {z:List Value} {n:Nat} {cs:List AV} {y:AV} {m:Nat} {news:List AV} (hz:z.length=sz) (hs:srcA σ sz y=some (m,news)) (hm:news.length=m * sz) (h1:news.all AV.one=true) (hc:cs.length=n * sz)
  (hn:n+m≤9223372036854775807) (hb:(n+m) * by_≤140737488355328) (hk:act (K (.sl (n+m) (cs++news) .none) σ)):
  act (EF.awp P (.app E sz by_ z) [.sl n cs .full,y] σ K):=EF.awp_of ⟨hz,m,news,hs,hm,h1,hn,hb,hc,.inr hk⟩
theorem Y34 {E:TypeId} {sz by_:Nat} {z:List Value} {n i w:Nat} {cs:List AV} {y:AV} {m:Nat} {news:List AV} (hz:z.length=sz) (hs:srcA σ sz y=some (m,news)) (hm:news.length=m * sz) (h1:news.all AV.one=true) (hc:n * sz≤cs.length)
  (hn:n+m≤9223372036854775807) (hb:(n+m) * by_≤140737488355328) (hi:σ[i]?=some (.obj w cs)) (hk:act (K (.ms i (w+1) 0 (n+m) sz) (σ.set i (.obj (w+1) (cs.take (n * sz)++news))))):
  act (EF.awp P (.app E sz by_ z) [.ms i w 0 n sz,y] σ K):=EF.awp_of ⟨hz,m,news,hs,hm,h1,hn,hb,rfl,rfl,cs,hi,hc,hk⟩
theorem wpa_app_nilo {E:TypeId} {sz by_:Nat} {z:List Value} {y:AV} {m:Nat} {news:List AV} (hz:z.length=sz) (hs:srcA σ sz y=some (m,news)) (hm:news.length=m * sz) (h1:news.all AV.one=true)
  (hn:m≤9223372036854775807) (hb:m * by_≤140737488355328) (h0:0 < m) (hk:act (K (.ms σ.length 0 0 m sz) (σ++[.obj 0 news]))):
  act (EF.awp P (.app E sz by_ z) [.sl 0 [] .nil,y] σ K):=by
 refine EF.awp_of ⟨hz,m,news,hs,hm,h1,by simpa[AV.num] using hn,by simpa[AV.num] using hb,by simp,.inr (.inl ⟨h0,?_⟩)⟩;exact hk
end
theorem ZE {P:Program} {id:Nat} {c:SCode} {K K0:AEnv→St→Prop} {X:Nat→AEnv→St→Prop} {R:AEnv→St→Prop} {ε:AEnv} {σ:St} {α:Type} (I:α→AEnv→St→Prop) (μ:α→Nat) (Q:AEnv→St→Prop) (x:α) (h0:I x ε σ)
  (hr:∀x ε σ (N E:AEnv→St→Prop),I x ε σ→(∀x' ε' σ',I x' ε' σ'→μ x' < μ x→act (N ε' σ'))→(∀ε' σ',Q ε' σ'→act (E ε' σ'))→act (wpA P c N (fun j ε σ=>if j=id then E ε σ else X j ε σ) R ε σ))
  (hK:∀ε σ,Q ε σ→act (K ε σ)):act (wpA P (.loop c) K0 (fun j ε σ=>if j=id then K ε σ else X j ε σ) R ε σ):=
 ⟨α,I,μ,x,ε,σ,.refl _ _,h0,fun x ε σ hI=>hr x ε σ _ _ hI (fun x' _ _ h1 h2=>⟨x',h1,h2⟩) hK⟩
theorem wpa_blg {P:Program} {id:Nat} {c:SCode} {K K0:AEnv→St→Prop} {X:Nat→AEnv→St→Prop} {R:AEnv→St→Prop} {ε ε0:AEnv} {σ σ0:St} (g:GU ε σ ε0 σ0) {α:Type} (I:α→AEnv→St→Prop) (μ:α→Nat) (Q:AEnv→St→Prop) (x:α) (h0:I x ε0 σ0)
  (hr:∀x ε σ (N E:AEnv→St→Prop),I x ε σ→(∀x' ε' σ',I x' ε' σ'→μ x' < μ x→act (N ε' σ'))→(∀ε' σ',Q ε' σ'→act (E ε' σ'))→act (wpA P c N (fun j ε σ=>if j=id then E ε σ else X j ε σ) R ε σ))
  (hK:∀ε σ,Q ε σ→act (K ε σ)):act (wpA P (.loop c) K0 (fun j ε σ=>if j=id then K ε σ else X j ε σ) R ε σ):=
 ⟨α,I,μ,x,ε0,σ0,g,h0,fun x ε σ hI=>hr x ε σ _ _ hI (fun x' _ _ h1 h2=>⟨x',h1,h2⟩) hK⟩
theorem GU.tok {ε:AEnv} {σ:St} (t sz:Nat) (ht:ε t=.sl 0 [] .nil):GU ε σ (ε.set t (.sl 0 [] (.id σ.length 0 sz))) (σ++[.tail 0]):=by
 intro base G h ρ H E;obtain ⟨G1,k1,k2,k3⟩:=H.newTail ⟨0,0,0,0,0,0,true⟩ (fun b o hh=>by simp[Loc.has] at hh);refine ⟨G1,k1,k2,fun s=>?_⟩;simp only[AEnv.set];split
 ·rename_i hs;subst hs;have:=E s;rw[ht] at this;generalize ρ s=u at this
  cases this with
  | sl _ _ _ a cap vs h1 h2 h3 h4 h5 h6=>obtain ⟨_,rfl,rfl⟩:=h6;exact .sl _ _ _ _ _ vs h1 (fun i a u ha hu=>(h2 i a u ha hu).mono k1) h3 h4 (h5.mono k1.g) ⟨_,k3,rfl,rfl,rfl,by simp,by simp⟩
 ·exact (E s).mono k1
theorem GU.frz {ε:AEnv} {σ:St} (is:List Nat) (t:Nat):GU ε σ (ε.set t ((ε t).res (freeze is σ))) (freeze is σ):=by
 intro base G h ρ H E;obtain ⟨G2,l2,H2⟩:=H.freeze is;refine ⟨G2,l2,H2,fun s=>?_⟩;simp only[AEnv.set];split
 ·rename_i hs;subst hs;exact Y61 H2 ((E s).mono l2)
 ·exact (E s).mono l2
theorem GU.tokO {ε:AEnv} {σ:St} {i w j:Nat} {cs:List AV} (sz:Nat) (hi:σ[i]?=some (.obj w cs)) (hj:cs[j]?=some (.sl 0 [] .nil)):
  GU ε σ ε (σ.set i (.obj w (cs.set j (.sl 0 [] (.id σ.length 0 sz))))++[.tail 0]):=by
 intro base G h ρ H E;obtain ⟨G1,k1,k2,k3⟩:=H.newTail ⟨0,0,0,0,0,0,true⟩ (fun b o hh=>by simp[Loc.has] at hh);have hlt:i < σ.length:=(List.getElem?_eq_some_iff.1 hi).1;have hi2:(σ++[.tail 0])[i]?=some (.obj w cs):=by rw[List.getElem?_append_left hlt];exact hi
 obtain ⟨l,e1,e2,e3,e4,e5⟩:=k2.obj i w cs hi2;refine ⟨G1,k1,?_,E.mono k1⟩
 have:=k2.retell hi2 (cs':=cs.set j (.sl 0 [] (.id σ.length 0 sz))) e1 (by simpa using e4) (fun m a ha=>by
  by_cases hm:j=m
  ·subst hm;have hjl:j < cs.length:=(List.getElem?_eq_some_iff.1 hj).1;rw[List.getElem?_set_self hjl] at ha;cases ha;obtain ⟨u,hu,hr⟩:=e5 j _ hj;refine ⟨u,hu,?_⟩
   cases hr with
   | sl _ _ _ a cap vs h1 h2 h3 h4 h5 h6=>obtain ⟨_,rfl,rfl⟩:=h6;exact .sl _ _ _ _ _ vs h1 h2 h3 h4 h5 ⟨_,k3,rfl,rfl,rfl,by simp,by simp⟩
  ·rw[List.getElem?_set_ne hm] at ha;exact e5 m a ha)
 rwa [List.set_append_left _ _ hlt] at this
theorem freeze_one {σ:St} {i w:Nat} {cs:List AV} (hi:σ[i]?=some (.obj w cs)) (hr:AV.resL σ cs=cs):Go.Kx.freeze [i] σ=σ.set i (.frz w cs):=by simp only[Go.Kx.freeze,List.foldl_cons,List.foldl_nil,freeze1,hi,hr]
theorem res_ms {σ:St} {i w n sz:Nat} {cs:List AV} (hi:σ[i]?=some (.frz w cs)) (hn:cs.length=n * sz):AV.res σ (.ms i w 0 n sz)=.sl n cs .none:=by simp only[AV.res,hi,if_true,subA,List.drop_zero];rw[List.take_of_length_le ka]
@[push_cast] theorem Qe {α:Type} (l:List α) (x:α):(l++[x])[l.length]?=some x:=by simp
@[push_cast] theorem Qu {α:Type} (l:List α) (x y:α):(l++[x]).set l.length y=l++[y]:=by simp
def aInt (x:Int):AV:=.v (.int .i64 x)
def aBool (b:Bool):AV:=.v (.bool b)
def aSl {α:Type} (f:α→AV) (xs:List α):AV:=.sl xs.length (xs.map f) .none
def aSlN {α:Type} (f:α→List AV) (xs:List α):AV:=.sl xs.length (xs.flatMap f) .none
@[push_cast] theorem res_v (σ:St) (x:Value):AV.res σ (.v x)=.v x:=by simp[AV.res]
theorem resL_flat {α:Type} (σ:St) (f:α→List AV) (xs:List α) (h:∀x,AV.resL σ (f x)=f x):AV.resL σ (xs.flatMap f)=xs.flatMap f:=by
 induction xs with
 | nil=>rfl
 | cons x xs ih=>simp only[List.flatMap_cons];rw[Q19,List.map_append,←Q19,←Q19,ih,h]
theorem aSl_res {α:Type} {f:α→AV} {σ:St} (h:∀x,(f x).res σ=f x) (xs:List α) (t:Tok):(AV.sl xs.length (xs.map f) t).res σ=aSl f xs:=by simp only[AV.res,Q19,List.map_map,aSl,AV.sl.injEq,true_and,and_true];congr 1;funext x;exact h x
theorem aSlN_res {α:Type} {f:α→List AV} {σ:St} (h:∀x,AV.resL σ (f x)=f x) (xs:List α) (t:Tok):(AV.sl xs.length (xs.flatMap f) t).res σ=aSlN f xs:=by simp only[AV.res,aSlN,AV.sl.injEq,true_and,and_true];exact resL_flat σ f xs h
theorem aSl_pure {α:Type} {f:α→AV} (h:∀x,(f x).pure=true) (xs:List α):(aSl f xs).pure=true:=by simp[aSl,AV.pure,X12,h]
theorem pureL_flat {α:Type} {f:α→List AV} (h:∀x,AV.pureL (f x)=true) (xs:List α):AV.pureL (xs.flatMap f)=true:=by rw[X12,List.all_eq_true];intro a ha;obtain ⟨x,_,hx⟩:=List.mem_flatMap.1 ha;have:=h x;rw[X12,List.all_eq_true] at this;exact this a hx
theorem aSlN_pure {α:Type} {f:α→List AV} (h:∀x,AV.pureL (f x)=true) (xs:List α):(aSlN f xs).pure=true:=by simp[aSlN,AV.pure,pureL_flat h]
def aInts (xs:List Int):AV:=aSl aInt xs
theorem aInt_res (σ:St) (x:Int):(aInt x).res σ=aInt x:=by simp[aInt,AV.res]
theorem Ql (x:Int):(aInt x).pure=true:=by simp[aInt,AV.pure]
theorem Z49 (xs:List Int):(aInts xs).pure=true:=aSl_pure Ql xs
theorem fin_v {x:Value} {b:AV} (h:AV.v x=b):∃_:List Nat,(AV.v x).pure=true∧AV.v x=b:=⟨[],rfl,h⟩
theorem Y67 {a b:AV} {σ:St} (is:List Nat) (h:a.res (Go.Kx.freeze is σ)=b) (hp:b.pure=true):∃is,(a.res (Go.Kx.freeze is σ)).pure=true∧a.res (Go.Kx.freeze is σ)=b:=⟨is,by rw[h];exact hp,h⟩
theorem Q4 {P:Program} {f:FuncId} {as:List AV} {σ τ:St} {v:AV} {K:AV→St→Prop} (H:FnG P f as σ fun a s=>a=v∧s=τ) (hk:act (K v τ)):act (EF.awp P (.call f) as σ K):=Q0 H fun _ _ h=>by rw[h.1,h.2];exact hk
theorem Q5 {P:Program} {f:FuncId} {as:List AV} {σ:St} {v:AV} {K:AV→St→Prop} (H:FnP P f as fun a=>a=v) (hk:act (K v σ)):act (EF.awp P (.call f) as σ K):=Qv H fun _ h=>by rw[h];exact hk
end Go.Kx
namespace Go.Kx
set_option linter.unusedVariables false
set_option linter.unusedSimpArgs false
open Go
theorem Q68 {w:World} {a:Addr} {u:Value} (h:w.cell? a=some u):a.spot=none∧cellG (hp w.heap) a.block a.off=some u:=by
 refine ⟨World.cell?_spot h,?_⟩;unfold World.cell? at h;unfold cellG hp;split at h
 ·rename_i heq;rw[heq];split at h
  ·cases h
  ·exact h
 ·cases h
theorem Yp (a:Addr) (n:Nat) (h:a.spot=none):a.add n=⟨a.block,a.off+n,none⟩:=by obtain ⟨b,o,s⟩:=a;simp only at h;subst h;by_cases hn:n=0<;>simp[Addr.add,hn]
theorem wf_inI {x:Int} (h:(Lit.int .i64 x).wf=true):inI x:=by
 have h1:IntKind.i64.min=-9223372036854775808:=by decide
 have h2:IntKind.i64.max=9223372036854775807:=by decide
 simp[Lit.wf,h1,h2] at h;exact h
theorem ints_in {w:World} {A:Option Addr} {L C:Nat} {Z:List Int} (h1:L≤C) (h2:C≤maxLen) (h3:Z.length=C) (h4:∀n∈Z,(Lit.int .i64 n).wf=true) (h5:A=none→C=0)
  (h6:∀a',A=some a'→∀c,c < C→w.cell? (a'.add c)=some (.int .i64 (Z.getD c 0))):Ints (hp w.heap) (.slice A L C) (Z.take L):=by
 have hl:(Z.take L).length=L:=by simp;omega
 have hmax:maxLen≤9223372036854775807:=by decide
 refine ⟨⟨by simp,A,C,by rw[hl],by omega,by omega,?_⟩,?_⟩
 ·by_cases hL:L=0
  ·left;omega
  ·right
   cases hA:A with
   | none=>have:=h5 hA;omega
   | some a=>
    have h0:=Q68 (h6 a hA 0 ka);have hs:a.spot=none:=by simpa[Addr.add] using h0.1
    refine ⟨a.block,a.off,by obtain ⟨b,o,s⟩:=a;simp only at hs;subst hs;rfl,?_⟩;intro i u hu;have hi:i < L:=by have:=(List.getElem?_eq_some_iff.1 hu).1;simp at this;omega
    have hc:=(Q68 (h6 a hA i ka)).2;rw[Yp a i hs] at hc;rw[hc];have hiz:i < Z.length:=by omega
    simp[List.getElem?_take,hi,hiz] at hu;simp[List.getD_eq_getElem?_getD,hiz,←hu]
 ·intro x hx;exact wf_inI (h4 x (List.mem_of_mem_take hx))
theorem ints1_in {H:Type} {enc:TypeId×Value→H} {P:Program} {w:World} {base:Nat} {held:Bool} {t q:TypeId} {fuel:Nat} {v:Value} {x:DataW H×List MemPlace} (ht:P.underlying t=some (.slice q)) (hq:P.underlying q=some (.int .i64))
  (cq:P.cellsOf q=1) (h:DataW.trod enc P w base (fun _=>true) held fuel t [v]=some x):∃xs,Ints (hp w.heap) v xs:=by
 rcases Go.ChangeShapes.open_ints ht hq cq h with ⟨hcs,_⟩|⟨a,len,cap,zs,hcs,_,hl,hm,hz,_,hcell,hwf⟩
 ·cases hcs
  exact ⟨[],⟨rfl,none,0,rfl,by simp,by simp,.inl rfl⟩,by simp⟩
 ·cases hcs
  simp only[if_true] at hz;exact ⟨_,ints_in hl hm hz hwf ke (fun a' ha c hc=>by cases ha;exact hcell c ka)⟩
def gAll (h:Heap):Gh:=⟨fun b o=>cellG (hp h) b o,fun _ _=>none⟩
theorem RelV_ints {h:Heap} {v:Value} {xs:List Int} (H:Ints (hp h) v xs):RelV (gAll h) (aInts xs) v:=by
 obtain ⟨⟨h1,a,cap,rfl,h2,h3,h4⟩,_⟩:=H;refine .sl _ _ _ _ _ (xs.map (.int .i64)) ke ?_ h2 h3 ?_ trivial
 ·intro i b u hb hu;simp only[List.getElem?_map,Option.map_eq_some_iff] at hb hu;obtain ⟨x,hx,rfl⟩:=hb;obtain ⟨y,hy,rfl⟩:=hu;rw[hx] at hy;cases hy;exact .v _
 ·rcases h4 with h4|⟨b,off,h4,h5⟩
  ·exact .inl ⟨h4,by rw[List.eq_nil_of_length_eq_zero h4];rfl⟩
  ·exact .inr ⟨b,off,h4,h5⟩
theorem law_run {P:Program} {f:FuncId} {as:List AV} (H:FnP P f as fun a=>a=aBool true) {h:Heap} {vs:List Value} (hr:RelL (gAll h) as vs) (ht:TabOk h:=by trivial):
  FnC P f vs.toArray h fun r h'=>(h.size≤h'.size∧∀b,b < h.size→h'[b]?=h[b]?)∧r=.bool true:=by
 have hH:RelH h (gAll h) h []:=by
  refine ⟨ht,Nat.le_refl _,fun _ _=>rfl,fun _ _ _ h=>h,fun i w cs hi=>by simp at hi,fun i w cs hi=>by simp at hi,fun i l hl=>?_,fun i j l m _ hl=>?_,(fun i w l hl=>by simp[gAll] at hl),⟨fun i es _ hi=>by simp at hi,fun i j es es' l m _ _ _ hi=>by simp at hi⟩⟩
  ·have:=Q26 hl;simp at this
  ·have:=Q26 hl;simp at this
 refine (H.2 h _ h vs hH hr).mono ?_;rintro r h' ⟨G',a,σ',k1,k2,k3,k4,rfl⟩;exact ⟨⟨k2.size,k2.keep⟩,by cases k3;rfl⟩
theorem RelL.one {G:Gh} {a:AV} {u:Value} (h:RelV G a u) {xs:List AV} {vs:List Value} (H:RelL G xs vs):RelL G (a::xs) (u::vs):=.cons h H
theorem below_of {W W':World} (H:W.heap.size≤W'.heap.size∧∀b,b < W.heap.size→W'.heap[b]?=W.heap[b]?) (S:Same W W'):Go.RowKit.Below W.heap.size W W':=
 ⟨S.1,S.2.1,S.2.2,H.1,H.2⟩
def Tok.shift (k:Nat):Tok→Tok
 | .id i ver sz=>.id (i+k) ver sz
 | t=>t
mutual
def AV.shift (k:Nat):AV→AV
 | .v x=>.v x
 | .agg xs=>.agg (AV.shiftL k xs)
 | .tup xs=>.tup (AV.shiftL k xs)
 | .sl n cs t=>.sl n (AV.shiftL k cs) (t.shift k)
 | .ep cs=>.ep (AV.shiftL k cs)
 | .ref i ver off=>.ref (i+k) ver off
 | .ms i ver off n sz=>.ms (i+k) ver off n sz
 | .fn f j xs=>.fn f j (AV.shiftL k xs)
 | .ifc t x=>.ifc t (AV.shift k x)
 | .mp i=>.mp (i+k)
def AV.shiftL (k:Nat):List AV→List AV
 | []=>[]
 | x::xs=>AV.shift k x::AV.shiftL k xs
end
theorem Y35 (k:Nat) (xs:List AV):AV.shiftL k xs=xs.map (AV.shift k):=by
 induction xs with
 | nil=>rfl
 | cons x xs ih=>simp[AV.shiftL,ih]
theorem X45 {k:Nat} {xs:List AV} {i:Nat} {a:AV} (h:(AV.shiftL k xs)[i]?=some a):∃b,xs[i]?=some b∧a=b.shift k:=by
 rw[Y35,List.getElem?_map] at h
 cases hx:xs[i]? with
 | none=>rw[hx] at h;cases h
 | some b=>rw[hx] at h;cases h;exact ⟨b,rfl,rfl⟩
theorem Q65 (k:Nat) (xs:List AV):(AV.shiftL k xs).length=xs.length:=by rw[Y35,List.length_map]
def Res.shift (k:Nat):Res→Res
 | .obj w cs=>.obj w (AV.shiftL k cs)
 | .frz w cs=>.frz w (AV.shiftL k cs)
 | .map es=>.map (es.map fun p=>(p.1,AV.shift k p.2))
 | r=>r
theorem Res.shift_live (k:Nat) (r:Res):(r.shift k).live=r.live:=by cases r<;>rfl
theorem shift_rel {G:Gh} {k:Nat} {T:Nat→Nat→Option Loc} (hT:∀i w l,G.T i w=some l→T (i+k) w=some l) {a:AV} {u:Value} (hr:RelV G a u):RelV ⟨G.g,T⟩ (a.shift k) u:=by
 have arm:∀{xs:List AV} {vs:List Value},(∀(i:Nat) (a:AV) (u:Value),xs[i]?=some a→vs[i]?=some u→RelV ⟨G.g,T⟩ (a.shift k) u)→∀(i:Nat) (a:AV) (u:Value),(AV.shiftL k xs)[i]?=some a→vs[i]?=some u→RelV ⟨G.g,T⟩ a u:=by intro xs vs h i a u ha hu;obtain ⟨b,h1,rfl⟩:=X45 ha;exact h i b u h1 hu
 induction hr with
 | v x=>exact .v x
 | agg xs vs h1 h2 ih=>exact .agg _ _ (by rw[Q65];exact h1) (arm ih)
 | tup xs vs h1 h2 ih=>exact .tup _ _ (by rw[Q65];exact h1) (arm ih)
 | sl n cs t a cap vs h1 h2 h3 h4 h5 h6 ih=>
  refine .sl _ _ _ _ _ vs (by rw[Q65];exact h1) (arm ih) h3 h4 h5 ?_;rw[Q65]
  cases t with
  | id i ver sz=>obtain ⟨l,e1,e2⟩:=h6;exact ⟨l,hT _ _ _ e1,e2⟩
  | _=>exact h6
 | ep cs vs b off h1 h2 h3 ih=>exact .ep _ vs _ _ (by rw[Q65];exact h1) (arm ih) h3
 | ref i ver off l h1 h2=>exact .ref _ _ _ l (hT _ _ _ h1) h2
 | ms i ver off n sz l cap h1 h2 h3 h4 h5=>exact .ms _ _ _ _ _ l cap (hT _ _ _ h1) h2 h3 h4 h5
 | fn f j xs vs h1 h2 ih=>exact .fn _ _ _ _ (by rw[Q65];exact h1) (arm ih)
 | ifc t x u h ih=>exact .ifc _ _ _ ih
 | mp i l h1 h2=>exact .mp _ l (hT _ _ _ h1) h2
theorem Xl {G:Gh} {T:Nat→Nat→Option Loc} {σ τ:St} (h1:∀i w,i < σ.length→T i w=G.T i w) {i:Nat} (hi:i < σ.length) (g:Nat→Nat→Option Value):locOf ⟨g,T⟩ (σ++τ) i=locOf G σ i:=by
 unfold locOf;rw[List.getElem?_append_left hi]
 cases hs:σ[i]? with
 | none=>rfl
 | some r=>cases r<;>simp[Res.live,h1 _ _ hi]
theorem Y7 {G:Gh} {T:Nat→Nat→Option Loc} {σ τ:St} {k:Nat} (hk:σ.length=k) (h1:∀i w,T (i+k) w=G.T i w) (i:Nat) (g:Nat→Nat→Option Value):locOf ⟨g,T⟩ (σ++τ.map (Res.shift k)) (i+k)=locOf G τ i:=by
 unfold locOf;rw[List.getElem?_append_right ka,hk,Nat.add_sub_cancel,List.getElem?_map]
 cases hs:τ[i]? with
 | none=>rfl
 | some r=>cases r<;>simp[Res.live,Res.shift,h1]
theorem FnG.frame {P:Program} {f:FuncId} {as:List AV} {R:AV→St→Prop} (H:FnG P f as [] R) (hpu:AV.pureL as=true) (σ:St):
  FnG P f as σ fun a σ'=>∃a0 τ,R a0 τ∧a=a0.shift σ.length∧σ'=σ++τ.map (Res.shift σ.length):=by
 intro base G h vs hH hL;have hL0:RelL ⟨G.g,fun _ _=>none⟩ as vs:=⟨hL.1,fun i a u ha hu=>Y62 (hL.2 i a u ha hu) (ZD hpu ha)⟩
 have hH0:RelH h ⟨G.g,fun _ _=>none⟩ h []:=by
  refine ⟨hH.tab.keep hH.size hH.keep,Nat.le_refl _,fun _ _=>rfl,hH.st,fun i w cs hi=>by simp at hi,fun i w cs hi=>by simp at hi,fun i l hl=>?_,fun i j l m _ hl=>?_,(fun i w l hl=>by simp at hl),⟨fun i es _ hi=>by simp at hi,fun i j es es' l m _ _ _ hi=>by simp at hi⟩⟩
  ·have:=Q26 hl;simp at this
  ·have:=Q26 hl;simp at this
 refine (H h _ h vs hH0 hL0).mono ?_;rintro r h' ⟨G',a,τ,k1,k2,k3,k4⟩;have hs:=k2.size;have hHs:=hH.size
 let T:Nat→Nat→Option Loc:=fun i w=>if i < σ.length then G.T i w else G'.T (i - σ.length) w
 have t1:∀i w,i < σ.length→T i w=G.T i w:=fun i w hi=>if_pos hi
 have t2:∀i w,T (i+σ.length) w=G'.T i w:=fun i w=>by
  have:¬(i+σ.length < σ.length):=by omega
  show (if _ then _ else _)=_;rw[if_neg this,Nat.add_sub_cancel]
 have hle:Gh.le h.size G ⟨G'.g,T⟩:=⟨k1.g,fun i w l hl=>by rw[←hl];exact t1 i w (hH.bd i w l hl).1,k1.old⟩;have hcell:∀b o,b < h.size→cellG (hp h') b o=cellG (hp h) b o:=by intro b o hb;unfold cellG hp;rw[k2.keep b hb]
 have sh:∀{a u},RelV G' a u→RelV ⟨G'.g,T⟩ (a.shift σ.length) u:=fun hr=>shift_rel (fun i w l hl=>by rw[t2];exact hl) hr
 have kv_shift:∀{en:List MapEntry} {es:List (Value×AV)},KvRel G' en es→KvRel ⟨G'.g,T⟩ en (es.map fun p=>(p.1,AV.shift σ.length p.2)):=by
  intro en
  induction en with
  | nil=>intro es h;cases es with
   | nil=>trivial
   | cons p es=>exact h.elim
  | cons e en ih=>
   intro es h
   cases es with
   | nil=>exact h.elim
   | cons p es=>exact ⟨h.1,sh h.2.1,ih h.2.2⟩
 have split:∀i,i < (σ++τ.map (Res.shift σ.length)).length→i < σ.length∨∃j,i=j+σ.length:=by
  intro i _;by_cases hi:i < σ.length
  ·exact .inl hi
  ·exact .inr ⟨i - σ.length,by omega⟩
 have getR:∀j,(σ++τ.map (Res.shift σ.length))[j+σ.length]?=(τ[j]?).map (Res.shift σ.length):=by intro j;rw[List.getElem?_append_right ka,Nat.add_sub_cancel,List.getElem?_map]
 refine ⟨⟨G'.g,T⟩,a.shift σ.length,σ++τ.map (Res.shift σ.length),hle.weaken hHs,?_,sh k3,a,τ,k4,rfl,rfl⟩;refine ⟨hH.tab,by omega,fun b hb=>by rw[k2.keep b ka];exact hH.keep b hb,k2.st,?_,?_,?_,?_,?_,?_⟩
 ·intro i w cs hi;rcases split i (List.getElem?_eq_some_iff.1 hi).1 with hlt|⟨j,rfl⟩
  ·rw[List.getElem?_append_left hlt] at hi;obtain ⟨l,h1,h2,h3,h4,h5⟩:=hH.obj i w cs hi;refine ⟨l,(t1 i w hlt).trans h1,h2,h3,h4,fun j a ha=>?_⟩;obtain ⟨u,h6,h7⟩:=h5 j a ha;exact ⟨u,by rw[hcell _ _ (Z02 h6)];exact h6,h7.mono hle⟩
  ·rw[getR] at hi
   cases hx:τ[j]? with
   | none=>rw[hx] at hi;cases hi
   | some r=>
    rw[hx] at hi
    cases r with
    | obj w0 cs0=>
     cases hi
     obtain ⟨l,h1,h2,h3,h4,h5⟩:=k2.obj j _ _ hx;refine ⟨l,(t2 j w).trans h1,h2,h3,by rw[Q65];exact h4,fun m a ha=>?_⟩;obtain ⟨b,h6,rfl⟩:=X45 ha;obtain ⟨u,h7,h8⟩:=h5 m b h6;exact ⟨u,h7,sh h8⟩
    | _=>simp[Res.shift] at hi
 ·intro i w cs hi;rcases split i (List.getElem?_eq_some_iff.1 hi).1 with hlt|⟨j,rfl⟩
  ·rw[List.getElem?_append_left hlt] at hi;obtain ⟨l,h1,h2,h3⟩:=hH.frz i w cs hi;refine ⟨l,(t1 i w hlt).trans h1,h2,fun j a ha=>?_⟩;obtain ⟨u,h6,h7⟩:=h3 j a ha;exact ⟨u,hle.g _ _ _ h6,h7.mono hle⟩
  ·rw[getR] at hi
   cases hx:τ[j]? with
   | none=>rw[hx] at hi;cases hi
   | some r=>
    rw[hx] at hi
    cases r with
    | frz w0 cs0=>
     cases hi
     obtain ⟨l,h1,h2,h3⟩:=k2.frz j _ _ hx;refine ⟨l,(t2 j w).trans h1,h2,fun m a ha=>?_⟩;obtain ⟨b,h6,rfl⟩:=X45 ha;obtain ⟨u,h7,h8⟩:=h3 m b h6;exact ⟨u,h7,sh h8⟩
    | _=>simp[Res.shift] at hi
 ·intro i l hl b o hh;rcases split i (Q26 hl) with hlt|⟨j,rfl⟩
  ·rw[Xl t1 hlt] at hl;obtain ⟨h1,h2,h3⟩:=hH.own i l hl b o hh;have hb:=h2.lt;refine ⟨h1,?_,?_⟩
   ·obtain ⟨c,E,fz,e1,e2⟩:=h2;exact ⟨c,E,fz,by rw[k2.keep b hb];exact e1,e2⟩
   ·show G'.g b o=none;rw[k1.old b o hb];exact h3
  ·rw[Y7 rfl t2] at hl;obtain ⟨h1,h2,h3⟩:=k2.own j l hl b o hh;exact ⟨by omega,h2,h3⟩
 ·intro i j l m hij hl hm b o hh hn;rcases split i (Q26 hl) with hi|⟨i',rfl⟩<;>rcases split j (Q26 hm) with hj|⟨j',rfl⟩
  ·rw[Xl t1 hi] at hl;rw[Xl t1 hj] at hm;exact hH.disj i j l m hij hl hm b o hh hn
  ·rw[Xl t1 hi] at hl;rw[Y7 rfl t2] at hm;have e1:=(hH.own i l hl b o hh).2.1.lt;have e2:=(k2.own j' m hm b o hn).1;omega
  ·rw[Y7 rfl t2] at hl;rw[Xl t1 hj] at hm;have e1:=(hH.own j m hm b o hn).2.1.lt;have e2:=(k2.own i' l hl b o hh).1;omega
  ·rw[Y7 rfl t2] at hl hm;exact k2.disj i' j' l m ka hl hm b o hh hn
 ·intro i w l hl;by_cases hi:i < σ.length
  ·have hl':G.T i w=some l:=by rw[←t1 i w hi];exact hl
   obtain ⟨h1,h2⟩:=hH.bd i w l hl';exact ⟨by rw[List.length_append];omega,fun r w' hr=>h2 r w' (by rwa [List.getElem?_append_left hi] at hr)⟩
  ·obtain ⟨j,rfl⟩:∃j,i=j+σ.length:=⟨i - σ.length,by omega⟩;have hl':G'.T j w=some l:=by rw[←t2];exact hl
   obtain ⟨h1,h2⟩:=k2.bd j w l hl';refine ⟨by rw[List.length_append,List.length_map];omega,fun r w' hr hw=>?_⟩;rw[getR] at hr
   cases hx:τ[j]? with
   | none=>rw[hx] at hr;cases hr
   | some r0=>rw[hx] at hr;cases hr;rw[Res.shift_live] at hw;exact h2 _ _ hx hw
 ·have hmap:∀(i:Nat) (es:Res),es.isMi=true→(σ++τ.map (Res.shift σ.length))[i]?=some es →
    (∃l,i < σ.length∧σ[i]?=some es∧G.T i 0=some l∧l.isnil=false∧base.size≤l.b∧l.b < h.size∧l.off=0∧∃o,h'[l.b]?=some o∧MiRel ⟨G'.g,T⟩ es o) ∨
    (∃j l,i=j+σ.length∧(∃es0,es0.isMi=true∧τ[j]?=some es0)∧G'.T j 0=some l∧l.isnil=false∧h.size≤l.b∧l.off=0∧∃o,h'[l.b]?=some o∧MiRel ⟨G'.g,T⟩ es o):=by
   intro i es hmi hi;rcases split i (List.getElem?_eq_some_iff.1 hi).1 with hlt|⟨j,rfl⟩
   ·rw[List.getElem?_append_left hlt] at hi;obtain ⟨l,a1,a2,a3,a0,o,a4,a5⟩:=hH.maps.mp i es hmi hi;have hlb:=(Array.getElem?_eq_some_iff.1 a4).1;exact .inl ⟨l,hlt,hi,a1,a2,a3,hlb,a0,o,by rw[k2.keep _ hlb];exact a4,a5.mono hle.g hle.T⟩
   ·rw[getR] at hi
    cases hx:τ[j]? with
    | none=>rw[hx] at hi;cases hi
    | some r=>
     rw[hx] at hi
     cases r with
     | map es0=>
      cases hi
      obtain ⟨l,a1,a2,a3,a0,o,a4,a5⟩:=k2.maps.mp j _ rfl hx;obtain ⟨en,c,rfl,a5⟩:=a5.ofMap;exact .inr ⟨j,l,rfl,⟨_,rfl,hx⟩,a1,a2,a3,a0,_,a4,kv_shift a5⟩
     | itr s pos=>
      cases hi
      obtain ⟨l,a1,a2,a3,a0,o,a4,a5⟩:=k2.maps.mp j _ rfl hx;cases a5.ofItr;exact .inr ⟨j,l,rfl,⟨_,rfl,hx⟩,a1,a2,a3,a0,_,a4,⟨rfl,rfl⟩⟩
     | _=>simp[Res.shift] at hi;rw[←hi] at hmi;cases hmi
  refine ⟨fun i es hm1 hi=>?_,fun i j es es' l m hij hm1 hm2 hi hj (hl:T i 0=some l) (hm:T j 0=some m)=>?_⟩
  ·rcases hmap i es hm1 hi with ⟨l,a1,a2,a3,a4,a5,a6,a7⟩|⟨j,l,rfl,⟨_,g2,a2⟩,a3,a4,a5,a7⟩
   ·exact ⟨l,(t1 i 0 a1).trans a3,a4,a5,a7⟩
   ·exact ⟨l,(t2 j 0).trans a3,a4,by omega,a7⟩
  ·rcases hmap i es hm1 hi with ⟨l0,a1,a2,a3,a4,a5,a6,a7⟩|⟨i',l0,rfl,⟨_,g1,a2⟩,a3,a4,a5,a7⟩<;>rcases hmap j es' hm2 hj with ⟨m0,b1,b2,b3,b4,b5,b6,b7⟩|⟨j',m0,rfl,⟨_,g2,b2⟩,b3,b4,b5,b7⟩
   ·have e1:=(t1 i 0 a1).trans a3;have e2:=(t1 j 0 b1).trans b3;rw[hl] at e1;cases e1;rw[hm] at e2;cases e2;exact hH.maps.dj i j es es' l m hij hm1 hm2 a2 b2 a3 b3
   ·have e1:=(t1 i 0 a1).trans a3;have e2:=(t2 j' 0).trans b3;rw[hl] at e1;cases e1;rw[hm] at e2;cases e2;omega
   ·have e1:=(t2 i' 0).trans a3;have e2:=(t1 j 0 b1).trans b3;rw[hl] at e1;cases e1;rw[hm] at e2;cases e2;omega
   ·have e1:=(t2 i' 0).trans a3;have e2:=(t2 j' 0).trans b3;rw[hl] at e1;cases e1;rw[hm] at e2;cases e2;exact k2.maps.dj i' j' _ _ l m ka g1 g2 a2 b2 a3 b3
end Go.Kx
