/- Annotated values, part g: the rewriting rules of the walk on annotated values (tagged push_cast), and its stopping places. -/
import Derived.Test.YtjdpejggafefjaaDoorVf
namespace Go.Kx
set_option linter.unusedVariables false
set_option linter.unusedSimpArgs false
open Go

def obindA (o : Option AV) (f : AV → Prop) : Prop := ∃ a, o = some a ∧ f a
def cndA (a : AV) (A B : Prop) : Prop := ∃ t, a = .v (.bool t) ∧ ((t = true → A) ∧ (t = false → B))
def bselA (a : AV) (want : Bool) (A B : Prop) : Prop := if gselA a want then A else B
@[push_cast] theorem obindA_some (a : AV) (f : AV → Prop) : obindA (some a) f = act (f a) := by simp [obindA, act]
@[push_cast] theorem cndA_true (A B : Prop) : cndA (.v (.bool true)) A B = act A := by simp [cndA, act]
@[push_cast] theorem cndA_false (A B : Prop) : cndA (.v (.bool false)) A B = act B := by simp [cndA, act]
@[push_cast] theorem bselA_undef (w : Bool) (A B : Prop) : bselA (.v undef) w A B = act B := rfl
@[push_cast] theorem bselA_tt (A B : Prop) : bselA (.v (.bool true)) true A B = act A := rfl
@[push_cast] theorem bselA_tf (A B : Prop) : bselA (.v (.bool true)) false A B = act B := rfl
@[push_cast] theorem bselA_ft (A B : Prop) : bselA (.v (.bool false)) true A B = act B := rfl
@[push_cast] theorem bselA_ff (A B : Prop) : bselA (.v (.bool false)) false A B = act A := rfl
theorem cndA_split {t : Bool} {A B : Prop} (h1 : t = true → act A) (h2 : t = false → act B) : cndA (.v (.bool t)) A B := ⟨t, rfl, h1, h2⟩
theorem cndA_dec {p : Prop} [Decidable p] {A B : Prop} (h1 : p → act A) (h2 : ¬ p → act B) : cndA (.v (.bool (decide p))) A B := ⟨_, rfl, fun h => h1 (of_decide_eq_true h), fun h => h2 (of_decide_eq_false h)⟩
theorem bselA_split {t w : Bool} {A B : Prop} (h1 : t = w → act A) (h2 : t = !w → act B) : bselA (.v (.bool t)) w A B := by
  cases t <;> cases w <;> first | exact h1 rfl | exact h2 rfl
theorem bselA_dec {p : Prop} [Decidable p] {A B : Prop} (h1 : p → act A) (h2 : ¬ p → act B) : bselA (.v (.bool (decide p))) true A B := bselA_split (fun h => h1 (of_decide_eq_true h)) (fun h => h2 (of_decide_eq_false h))
theorem bselA_decF {p : Prop} [Decidable p] {A B : Prop} (h1 : ¬ p → act A) (h2 : p → act B) : bselA (.v (.bool (decide p))) false A B := bselA_split (fun h => h1 (of_decide_eq_false h)) (fun h => h2 (of_decide_eq_true h))

@[push_cast] theorem bb_t (b : Bool) : (b == true) = b := by cases b <;> rfl
@[push_cast] theorem bb_f (b : Bool) : (b == false) = !b := by cases b <;> rfl
@[push_cast] theorem tb_t (b : Bool) : (true == b) = b := by cases b <;> rfl
@[push_cast] theorem fb_f (b : Bool) : (false == b) = !b := by cases b <;> rfl
@[push_cast] theorem bb_s (b : Bool) : (b == b) = true := by cases b <;> rfl

/-! ### The environment -/
@[push_cast] theorem evA_tmp (ε : AEnv) (t : Nat) : evA ε (.tmp t) = ε t := rfl
@[push_cast] theorem evA_const (ε : AEnv) (v : Value) : evA ε (.const v) = absV v := rfl
@[push_cast] theorem evA_global (ε : AEnv) (g : Nat) : evA ε (.global g) = .v (.pointer (some ⟨g, 0, none⟩)) := rfl
@[push_cast] theorem evA_func (ε : AEnv) (f : Nat) : evA ε (.func f) = .fn (.func f) 0 [] := rfl
@[push_cast] theorem absV_int (k : IntKind) (n : Int) : absV (.int k n) = .v (.int k n) := rfl
@[push_cast] theorem absV_bool (b : Bool) : absV (.bool b) = .v (.bool b) := rfl
@[push_cast] theorem absV_string (s : ByteArray) : absV (.string s) = .v (.string s) := rfl
@[push_cast] theorem absV_float (k : FloatKind) (b : Nat) : absV (.float k b) = .v (.float k b) := rfl
@[push_cast] theorem absV_complex (k : FloatKind) (a b : Nat) : absV (.complex k a b) = .v (.complex k a b) := rfl
@[push_cast] theorem absV_nil : absV (.slice none 0 0) = .sl 0 [] .nil := rfl
@[push_cast] theorem absV_ptr (a : Option Addr) : absV (.pointer a) = .v (.pointer a) := rfl
@[push_cast] theorem absV_nilFunc : absV .nilFunc = .v .nilFunc := rfl
@[push_cast] theorem absV_nilIface : absV .nilIface = .v .nilIface := rfl
@[push_cast] theorem absV_map (r : Option Nat) : absV (.map r) = .v (.map r) := rfl
@[push_cast] theorem absV_agg (l : List Value) : absV (.agg (List.toArray l)) = .agg (l.map abs1) := rfl
@[push_cast] theorem abs1_int (k : IntKind) (n : Int) : abs1 (.int k n) = .v (.int k n) := rfl
@[push_cast] theorem abs1_bool (b : Bool) : abs1 (.bool b) = .v (.bool b) := rfl
@[push_cast] theorem abs1_string (s : ByteArray) : abs1 (.string s) = .v (.string s) := rfl
@[push_cast] theorem abs1_float (k : FloatKind) (b : Nat) : abs1 (.float k b) = .v (.float k b) := rfl
@[push_cast] theorem abs1_complex (k : FloatKind) (a b : Nat) : abs1 (.complex k a b) = .v (.complex k a b) := rfl
@[push_cast] theorem abs1_nil : abs1 (.slice none 0 0) = .sl 0 [] .nil := rfl
@[push_cast] theorem abs1_ptr (a : Option Addr) : abs1 (.pointer a) = .v (.pointer a) := rfl
@[push_cast] theorem abs1_nilFunc : abs1 .nilFunc = .v .nilFunc := rfl
@[push_cast] theorem abs1_nilIface : abs1 .nilIface = .v .nilIface := rfl
@[push_cast] theorem abs1_map (r : Option Nat) : abs1 (.map r) = .v (.map r) := rfl
@[push_cast] theorem abs1s_nil : List.map abs1 [] = [] := rfl
@[push_cast] theorem abs1s_cons (v : Value) (l : List Value) : List.map abs1 (v :: l) = abs1 v :: List.map abs1 l := rfl
@[push_cast] theorem setA_get (ε : AEnv) (d : Nat) (a : AV) (i : Nat) : (AEnv.set ε d a) i = if i = d then a else ε i := rfl
@[push_cast] theorem putA_some (ε : AEnv) (d : Nat) (a : AV) : AEnv.put ε (some d) a = ε.set d a := rfl
@[push_cast] theorem putA_none (ε : AEnv) (a : AV) : AEnv.put ε none a = ε := rfl
@[push_cast] theorem initA_zero (a : AV) (as : List AV) : initA (a :: as) 0 = a := rfl
@[push_cast] theorem initA_succ (a : AV) (as : List AV) (n : Nat) : initA (a :: as) (n + 1) = initA as n := rfl
@[push_cast] theorem initA_nil (n : Nat) : initA [] n = .v undef := rfl
@[push_cast] theorem outA_nil (ρ ε : AEnv) : outA [] ρ ε = ρ := rfl
@[push_cast] theorem outA_cons (d : Nat) (ds : List Nat) (ρ ε : AEnv) : outA (d :: ds) ρ ε = outA ds (ρ.set d (ε d)) ε := rfl
@[push_cast] theorem evAs_nil (ε : AEnv) : List.map (evA ε) [] = [] := rfl
@[push_cast] theorem evAs_cons (ε : AEnv) (x : Operand) (xs : List Operand) : List.map (evA ε) (x :: xs) = evA ε x :: List.map (evA ε) xs := rfl

/-! ### Code -/
section
variable (P : Program) (K : AEnv → St → Prop) (X : Nat → AEnv → St → Prop) (R : AEnv → St → Prop) (ε : AEnv) (σ : St)
@[push_cast] theorem wpA_skip : act (wpA P .skip K X R ε σ) = act (K ε σ) := rfl
@[push_cast] theorem wpA_seq (a b : SCode) : act (wpA P (.seq a b) K X R ε σ) = act (wpA P a (fun ε σ => wpA P b K X R ε σ) X R ε σ) := rfl
@[push_cast] theorem wpA_reg (t : RT) (outs : List Nat) : act (wpA P (.reg t outs) K X R ε σ) = act (goRA P t ε σ fun ε' σ' => K (outA outs ε ε') σ') := rfl
@[push_cast] theorem wpA_cond (c : Operand) (a b : SCode) : act (wpA P (.cond c a b) K X R ε σ) = cndA (evA ε c) (wpA P a K X R ε σ) (wpA P b K X R ε σ) := rfl
@[push_cast] theorem wpA_block (id : Nat) (c : SCode) : act (wpA P (.block id c) K X R ε σ) = act (wpA P c K (fun j ε σ => if j = id then K ε σ else X j ε σ) R ε σ) := rfl
@[push_cast] theorem wpA_exit (id : Nat) : act (wpA P (.exit id) K X R ε σ) = act (X id ε σ) := rfl
@[push_cast] theorem wpA_ret : act (wpA P .ret K X R ε σ) = act (R ε σ) := rfl
end
section
variable (P : Program) (ε : AEnv) (σ : St) (K : AEnv → St → Prop)
@[push_cast] theorem straightA_nil : act (goRA P (straight []) ε σ K) = act (K ε σ) := rfl
@[push_cast] theorem goRA_done : act (goRA P .done ε σ K) = act (K ε σ) := rfl
@[push_cast] theorem goRA_both (a b : RT) : act (goRA P (.both a b) ε σ K) = (act (goRA P a ε σ K) ∧ act (goRA P b ε σ K)) := rfl
@[push_cast] theorem straightA_cons (it : SItem) (its : List SItem) : act (goRA P (straight (it :: its)) ε σ K) = act (goRA P (.run it (straight its)) ε σ K) := rfl
@[push_cast] theorem goRA_pur (d : Option Nat) (f : PF) (xs : List Operand) (rest : RT) :
    act (goRA P (.run ⟨d, none, .pur f xs⟩ rest) ε σ K) = obindA (f.av (xs.map (evA ε))) fun a => goRA P rest (ε.put d a) σ K := rfl
@[push_cast] theorem goRA_ld (d : Option Nat) (n : Option Nat) (x : Operand) (rest : RT) :
    act (goRA P (.run ⟨d, none, .ld n x⟩ rest) ε σ K) = obindA (ldA n (evA ε x) σ) fun a => goRA P rest (ε.put d a) σ K := rfl
@[push_cast] theorem goRA_run_eff (d : Option Nat) (e : EF) (xs : List Operand) (rest : RT) :
    act (goRA P (.run ⟨d, none, .eff e xs⟩ rest) ε σ K) = act (e.awp P (xs.map (evA ε)) σ fun a σ' => goRA P rest (ε.put d a) σ' K) := rfl
@[push_cast] theorem goRA_guard (d : Option Nat) (s : Nat) (want : Bool) (op : SOp) (rest : RT) :
    act (goRA P (.run ⟨d, some (s, want), op⟩ rest) ε σ K) = bselA (ε s) want (goRA P (.run ⟨d, none, op⟩ rest) ε σ K) (goRA P rest (ε.put d (.v undef)) σ K) := rfl
@[push_cast] theorem goRA_eff (d : Option Nat) (e : EF) (xs : List Operand) (held : List SItem) (rest : RT) :
    act (goRA P (.eff ⟨d, none, .eff e xs⟩ held rest) ε σ K) = act (e.awp P (xs.map (evA ε)) σ fun a σ' => (∀ q ∈ held, q.aholds (ε.put d a) σ') ∧ goRA P rest (ε.put d a) σ' K) := rfl
@[push_cast] theorem goRA_eff_guard (d : Option Nat) (s : Nat) (want : Bool) (op : SOp) (held : List SItem) (rest : RT) :
    act (goRA P (.eff ⟨d, some (s, want), op⟩ held rest) ε σ K) = bselA (ε s) want (goRA P (.eff ⟨d, none, op⟩ held rest) ε σ K) ((∀ q ∈ held, q.aholds (ε.put d (.v undef)) σ) ∧ goRA P rest (ε.put d (.v undef)) σ K) := rfl
@[push_cast] theorem goRA_eff_pur (d : Option Nat) (f : PF) (xs : List Operand) (held : List SItem) (rest : RT) :
    act (goRA P (.eff ⟨d, none, .pur f xs⟩ held rest) ε σ K) = obindA (f.av (xs.map (evA ε))) fun a => (∀ q ∈ held, q.aholds (ε.put d a) σ) ∧ goRA P rest (ε.put d a) σ K := rfl
@[push_cast] theorem goRA_eff_ld (d : Option Nat) (n : Option Nat) (x : Operand) (held : List SItem) (rest : RT) :
    act (goRA P (.eff ⟨d, none, .ld n x⟩ held rest) ε σ K) = obindA (ldA n (evA ε x) σ) fun a => (∀ q ∈ held, q.aholds (ε.put d a) σ) ∧ goRA P rest (ε.put d a) σ K := rfl
end
@[push_cast] theorem act_held0 (ε : AEnv) (σ : St) (A : Prop) : act ((∀ q ∈ ([] : List SItem), q.aholds ε σ) ∧ A) = act A := by simp [act]
@[push_cast] theorem act_held1 (q : SItem) (qs : List SItem) (ε : AEnv) (σ : St) (A : Prop) : act ((∀ p ∈ q :: qs, p.aholds ε σ) ∧ A) = (q.aholds ε σ ∧ act ((∀ p ∈ qs, p.aholds ε σ) ∧ A)) := by
  simp [act, and_assoc]

def posts : List RV → List AV → (AV → St → Prop) → AEnv → St → Prop
  | [], acc, R, _, σ => R (resA acc) σ
  | .tmp t :: rs, acc, R, ε, σ => posts rs (acc ++ [ε t]) R ε σ
  | .cell c n :: rs, acc, R, ε, σ => obindA (ldA n (ε c) σ) fun a => posts rs (acc ++ [a]) R ε σ
theorem posts_spec (R : AV → St → Prop) (ε : AEnv) (σ : St) : ∀ (res : List RV) (acc : List AV), posts res acc R ε σ = ∃ as, res.mapM (RV.av ε σ) = some as ∧ R (resA (acc ++ as)) σ := by
  intro res
  induction res with
  | nil => intro acc; simp [posts]
  | cons r res ih =>
    intro acc
    cases r with
    | tmp t =>
      simp only [posts, ih, List.mapM_cons, RV.av]
      apply propext
      constructor
      · rintro ⟨as, h1, h2⟩; exact ⟨ε t :: as, by simp [h1], by simpa using h2⟩
      · rintro ⟨as, h1, h2⟩
        simp only [bind, Option.bind_eq_some_iff, pure, Option.some.injEq] at h1
        obtain ⟨x, rfl, as', h3, rfl⟩ := h1
        exact ⟨as', h3, by simpa using h2⟩
    | cell c n =>
      simp only [posts, ih, List.mapM_cons, RV.av, obindA]
      apply propext
      constructor
      · rintro ⟨a, ha, as, h1, h2⟩; exact ⟨a :: as, by simp [ha, h1], by simpa using h2⟩
      · rintro ⟨as, h1, h2⟩
        simp only [bind, Option.bind_eq_some_iff, pure, Option.some.injEq] at h1
        obtain ⟨x, hx, as', h3, rfl⟩ := h1
        exact ⟨x, hx, as', h3, by simpa using h2⟩
@[push_cast] theorem postA_eq (res : List RV) (R : AV → St → Prop) (ε : AEnv) (σ : St) : act (postA res R ε σ) = act (posts res [] R ε σ) := by
  rw [posts_spec]; simp [postA]
@[push_cast] theorem posts_nil (acc : List AV) (R : AV → St → Prop) (ε : AEnv) (σ : St) : act (posts [] acc R ε σ) = act (R (resA acc) σ) := rfl
@[push_cast] theorem posts_tmp (t : Nat) (rs : List RV) (acc : List AV) (R : AV → St → Prop) (ε : AEnv) (σ : St) : act (posts (.tmp t :: rs) acc R ε σ) = act (posts rs (acc ++ [ε t]) R ε σ) := rfl
@[push_cast] theorem posts_cell (c : Nat) (n : Option Nat) (rs : List RV) (acc : List AV) (R : AV → St → Prop) (ε : AEnv) (σ : St) : act (posts (.cell c n :: rs) acc R ε σ) = obindA (ldA n (ε c) σ) fun a => posts rs (acc ++ [a]) R ε σ := rfl
@[push_cast] theorem resA_0 : resA [] = .tup [] := rfl
@[push_cast] theorem resA_1 (a : AV) : resA [a] = a := rfl
@[push_cast] theorem resA_2 (a b : AV) (l : List AV) : resA (a :: b :: l) = .tup (a :: b :: l) := rfl
@[push_cast] theorem app_nil1 (l : List AV) : [] ++ l = l := rfl
@[push_cast] theorem app_cons1 (a : AV) (k l : List AV) : a :: k ++ l = a :: (k ++ l) := rfl

/-! ### Pure operations -/
@[push_cast] theorem omapV (x : Value) : Option.map AV.v (some x) = some (.v x) := rfl
@[push_cast] theorem av_mov (a : AV) : PF.av .mov [a] = some a := rfl
@[push_cast] theorem av_pick (c : Bool) (a b : AV) : PF.av .pick [.v (.bool c), a, b] = some (if c then a else b) := rfl
@[push_cast] theorem av_pick_t (a b : AV) : PF.av .pick [.v (.bool true), a, b] = some a := rfl
@[push_cast] theorem av_pick_f (a b : AV) : PF.av .pick [.v (.bool false), a, b] = some b := rfl
@[push_cast] theorem av_bin (op : BinOp) (x y : Value) : PF.av (.bin op) [.v x, .v y] = (PF.val (.bin op) [x, y]).map .v := rfl
@[push_cast] theorem av_eqb (ng : Bool) (x y : Value) : PF.av (.eqb ng) [.v x, .v y] = (PF.val (.eqb ng) [x, y]).map .v := rfl
@[push_cast] theorem av_eqn0 (ng : Bool) (x : Value) : PF.av (.eqn ng 0) [.v x] = (PF.val (.eqn ng 0) [x]).map .v := rfl
@[push_cast] theorem av_eqn1 (ng : Bool) (x : Value) : PF.av (.eqn ng 1) [.v x] = (PF.val (.eqn ng 1) [x]).map .v := rfl
@[push_cast] theorem av_eqn2 (ng : Bool) (x : Value) : PF.av (.eqn ng 2) [.v x] = (PF.val (.eqn ng 2) [x]).map .v := rfl
@[push_cast] theorem av_eqn3 (ng : Bool) (x : Value) : PF.av (.eqn ng 3) [.v x] = (PF.val (.eqn ng 3) [x]).map .v := rfl
@[push_cast] theorem av_eqn4 (ng : Bool) (x : Value) : PF.av (.eqn ng 4) [.v x] = (PF.val (.eqn ng 4) [x]).map .v := rfl
@[push_cast] theorem av_eqn_ref (ng : Bool) (i w o : Nat) : PF.av (.eqn ng 0) [.ref i w o] = some (.v (.bool ng)) := rfl
@[push_cast] theorem av_eqn_ep (ng : Bool) (cs : List AV) : PF.av (.eqn ng 0) [.ep cs] = some (.v (.bool ng)) := rfl
@[push_cast] theorem av_eqn_nil (ng : Bool) (n : Nat) (cs : List AV) : PF.av (.eqn ng 1) [.sl n cs .nil] = some (.v (.bool (!ng))) := rfl
@[push_cast] theorem av_eqn_full (ng : Bool) (n : Nat) (cs : List AV) : PF.av (.eqn ng 1) [.sl n cs .full] = some (.v (.bool ng)) := rfl
@[push_cast] theorem av_eqn_ms (ng : Bool) (i w o n s : Nat) : PF.av (.eqn ng 1) [.ms i w o n s] = some (.v (.bool ng)) := rfl
@[push_cast] theorem av_eqn_fn (ng : Bool) (f : Fn) (k : Nat) (xs : List AV) : PF.av (.eqn ng 2) [.fn f k xs] = some (.v (.bool ng)) := rfl
@[push_cast] theorem av_eqn_mp (ng : Bool) (i : Nat) : PF.av (.eqn ng 3) [.mp i] = some (.v (.bool ng)) := rfl
@[push_cast] theorem av_eqn_ifc (ng : Bool) (t : TypeId) (x : AV) : PF.av (.eqn ng 4) [.ifc t x] = some (.v (.bool ng)) := rfl
@[push_cast] theorem isNil_0 (a : Option Addr) (ng : Bool) : PF.val (.eqn ng 0) [.pointer a] = some (.bool (if ng then !a.isNone else a.isNone)) := rfl
@[push_cast] theorem isNil_2 (ng : Bool) : PF.val (.eqn ng 2) [.nilFunc] = some (.bool (!ng)) := by cases ng <;> rfl
@[push_cast] theorem isNil_4 (ng : Bool) : PF.val (.eqn ng 4) [.nilIface] = some (.bool (!ng)) := by cases ng <;> rfl
@[push_cast] theorem isNil_3 (ng : Bool) : PF.val (.eqn ng 3) [.map none] = some (.bool (!ng)) := by cases ng <;> rfl
@[push_cast] theorem av_not (x : Value) : PF.av .not [.v x] = (PF.val .not [x]).map .v := rfl
@[push_cast] theorem av_neg (x : Value) : PF.av .neg [.v x] = (PF.val .neg [x]).map .v := rfl
@[push_cast] theorem av_cpl (x : Value) : PF.av .cpl [.v x] = (PF.val .cpl [x]).map .v := rfl
@[push_cast] theorem av_toInt (k : IntKind) (x : Value) : PF.av (.toInt k) [.v x] = (PF.val (.toInt k) [x]).map .v := rfl
@[push_cast] theorem av_intF (k : FloatKind) (x : Value) : PF.av (.intF k) [.v x] = (PF.val (.intF k) [x]).map .v := rfl
@[push_cast] theorem av_fInt (k : IntKind) (x : Value) : PF.av (.fInt k) [.v x] = (PF.val (.fInt k) [x]).map .v := rfl
@[push_cast] theorem av_strId (x : Value) : PF.av .strId [.v x] = (PF.val .strId [x]).map .v := rfl
@[push_cast] theorem av_lens (x : Value) : PF.av (.len true) [.v x] = (PF.val (.len true) [x]).map .v := rfl
@[push_cast] theorem av_ixs (x y : Value) : PF.av .ixs [.v x, .v y] = (PF.val .ixs [x, y]).map .v := rfl
@[push_cast] theorem av_sls1 (lo hi : Bool) (x y : Value) : PF.av (.sls lo hi) [.v x, .v y] = (PF.val (.sls lo hi) [x, y]).map .v := rfl
@[push_cast] theorem av_sls2 (lo hi : Bool) (x y z : Value) : PF.av (.sls lo hi) [.v x, .v y, .v z] = (PF.val (.sls lo hi) [x, y, z]).map .v := rfl
@[push_cast] theorem av_mm1 (mx : Bool) (x : Value) : PF.av (.minmax mx) [.v x] = (PF.val (.minmax mx) [x]).map .v := rfl
@[push_cast] theorem av_mm2 (mx : Bool) (x y : Value) : PF.av (.minmax mx) [.v x, .v y] = (PF.val (.minmax mx) [x, y]).map .v := rfl
@[push_cast] theorem av_cpx (k : FloatKind) (x y : Value) : PF.av (.cpx k) [.v x, .v y] = (PF.val (.cpx k) [x, y]).map .v := rfl
@[push_cast] theorem av_re (x : Value) : PF.av .re [.v x] = (PF.val .re [x]).map .v := rfl
@[push_cast] theorem av_im (x : Value) : PF.av .im [.v x] = (PF.val .im [x]).map .v := rfl
@[push_cast] theorem av_fld (off : Nat) (cs : List AV) : PF.av (.fld off none) [.agg cs] = cs[off]? := rfl
@[push_cast] theorem av_fldn (off n : Nat) (cs : List AV) : PF.av (.fld off (some n)) [.agg cs] = some (.agg (subA cs off n)) := rfl
@[push_cast] theorem av_bld (z : List Value) (ps : List (Nat × Nat)) (as : List AV) : PF.av (.bld z ps) as = (fillA (z.map abs1) ps as).map .agg := by
  unfold PF.av; rfl
@[push_cast] theorem av_len (n : Nat) (cs : List AV) (t : Tok) : PF.av (.len false) [.sl n cs t] = some (.v (.int .i64 n)) := rfl
@[push_cast] theorem av_lenm (i w o n s : Nat) : PF.av (.len false) [.ms i w o n s] = some (.v (.int .i64 n)) := rfl
@[push_cast] theorem av_ixa (sz n : Nat) (cs : List AV) (t : Tok) (k : IntKind) (i : Int) (h0 : 0 ≤ i) (h1 : i < n) : PF.av (.ixa sz) [.sl n cs t, .v (.int k i)] = some (.ep (cs.drop (i.toNat * sz))) := if_pos ⟨h0, h1⟩
@[push_cast] theorem av_ixam (sz a w o n : Nat) (k : IntKind) (i : Int) (h0 : 0 ≤ i) (h1 : i < n) : PF.av (.ixa sz) [.ms a w o n sz, .v (.int k i)] = some (.ref a w (o + i.toNat * sz)) := if_pos ⟨h0, h1, rfl⟩
@[push_cast] theorem av_ixaA (n sz a w o : Nat) (k : IntKind) (i : Int) (h0 : 0 ≤ i) (h1 : i < n) : PF.av (.ixaA n sz) [.ref a w o, .v (.int k i)] = some (.ref a w (o + i.toNat * sz)) := if_pos ⟨h0, h1⟩
@[push_cast] theorem av_ixaE (n sz : Nat) (cs : List AV) (k : IntKind) (i : Int) (h0 : 0 ≤ i) (h1 : i < n) : PF.av (.ixaA n sz) [.ep cs, .v (.int k i)] = some (.ep (cs.drop (i.toNat * sz))) := if_pos ⟨h0, h1⟩
@[push_cast] theorem av_ixv (n sz : Nat) (cs : List AV) (k : IntKind) (i : Int) (h0 : 0 ≤ i) (h1 : i < n) : PF.av (.ixv n sz none) [.agg cs, .v (.int k i)] = cs[i.toNat * sz]? := if_pos ⟨h0, h1⟩
@[push_cast] theorem av_ixvn (n sz m : Nat) (cs : List AV) (k : IntKind) (i : Int) (h0 : 0 ≤ i) (h1 : i < n) : PF.av (.ixv n sz (some m)) [.agg cs, .v (.int k i)] = some (.agg (subA cs (i.toNat * sz) m)) := if_pos ⟨h0, h1⟩
@[push_cast] theorem av_fla (off i w o : Nat) : PF.av (.fla off) [.ref i w o] = some (.ref i w (o + off)) := rfl
@[push_cast] theorem av_flae (off : Nat) (cs : List AV) : PF.av (.fla off) [.ep cs] = some (.ep (cs.drop off)) := rfl
@[push_cast] theorem av_nilc (i w o : Nat) : PF.av .nilc [.ref i w o] = some (.ref i w o) := rfl
@[push_cast] theorem av_nilce (cs : List AV) : PF.av .nilc [.ep cs] = some (.ep cs) := rfl
@[push_cast] theorem av_mkf (fn : Fn) (n : Nat) (xs : List AV) : PF.av (.mkf fn n) xs = some (.fn fn n xs) := by unfold PF.av; rfl
@[push_cast] theorem av_mkif (t : TypeId) (a : AV) : PF.av (.mkif t) [a] = some (.ifc t a) := rfl
@[push_cast] theorem av_ext (i : Nat) (xs : List AV) : PF.av (.ext i) [.tup xs] = xs[i]? := rfl
theorem bound_in (y : Nat) (k : IntKind) (i : Int) (h0 : 0 ≤ i) (h1 : i ≤ y) : bound y (.int k i) = some i.toNat := if_pos ⟨h0, h1⟩
@[push_cast] theorem av_slc_lo (sz n : Nat) (cs : List AV) (t : Tok) (k : IntKind) (i : Int) (h0 : 0 ≤ i) (h1 : i ≤ n) : PF.av (.slc sz true false) [.sl n cs t, .v (.int k i)] = some (.sl (n - i.toNat) (subA cs (i.toNat * sz) ((n - i.toNat) * sz)) .none) := by
  simp [PF.av, lit1s, lit1, loHi, bound_in _ _ _ h0 h1]
@[push_cast] theorem av_slc_hi (sz n : Nat) (cs : List AV) (t : Tok) (k : IntKind) (i : Int) (h0 : 0 ≤ i) (h1 : i ≤ n) : PF.av (.slc sz false true) [.sl n cs t, .v (.int k i)] = some (.sl i.toNat (cs.take (i.toNat * sz)) .none) := by
  simp [PF.av, lit1s, lit1, loHi, bound_in _ _ _ h0 h1, subA]
@[push_cast] theorem av_slc_lh (sz n : Nat) (cs : List AV) (t : Tok) (k k' : IntKind) (i j : Int) (h0 : 0 ≤ i) (h1 : i ≤ j) (h2 : j ≤ n) : PF.av (.slc sz true true) [.sl n cs t, .v (.int k i), .v (.int k' j)] = some (.sl (j.toNat - i.toNat) (subA cs (i.toNat * sz) ((j.toNat - i.toNat) * sz)) .none) := by
  simp [PF.av, lit1s, lit1, loHi, bound_in n k' j (by omega) h2, bound_in j.toNat k i h0 (by omega)]
@[push_cast] theorem av_slcm_hi (sz a w o n : Nat) (k : IntKind) (i : Int) (h0 : 0 ≤ i) (h1 : i ≤ n) : PF.av (.slc sz false true) [.ms a w o n sz, .v (.int k i)] = some (.ms a w o i.toNat sz) := by
  simp [PF.av, lit1s, lit1, loHi, bound_in _ _ _ h0 h1]
@[push_cast] theorem av_slcA_lo (sz n : Nat) (cs : List AV) (k : IntKind) (i : Int) (h0 : 0 ≤ i) (h1 : i ≤ n) (h2 : n ≤ 9223372036854775807) : PF.av (.slcA n sz true false) [.ep cs, .v (.int k i)] = some (.sl (n - i.toNat) (subA cs (i.toNat * sz) ((n - i.toNat) * sz)) .none) := by
  simp [PF.av, lit1s, lit1, loHi, bound_in _ _ _ h0 h1, h2]
@[push_cast] theorem fillA_nil (cs : List AV) : fillA cs [] [] = some cs := rfl
@[push_cast] theorem fillA_1 (cs : List AV) (off : Nat) (ps : List (Nat × Nat)) (a : AV) (as : List AV) (hv : a.cells = [a]) (ho : off + 1 ≤ cs.length) : fillA cs ((off, 1) :: ps) (a :: as) = fillA (cs.set off a) ps as := by
  simp [fillA, hv, ho, setAtA]
@[push_cast] theorem fillA_v (cs : List AV) (off : Nat) (ps : List (Nat × Nat)) (k : IntKind) (n : Int) (as : List AV) (ho : off + 1 ≤ cs.length) : fillA cs ((off, 1) :: ps) (.v (.int k n) :: as) = fillA (cs.set off (.v (.int k n))) ps as := fillA_1 _ _ _ _ _ rfl ho
@[push_cast] theorem fillA_b (cs : List AV) (off : Nat) (ps : List (Nat × Nat)) (b : Bool) (as : List AV) (ho : off + 1 ≤ cs.length) : fillA cs ((off, 1) :: ps) (.v (.bool b) :: as) = fillA (cs.set off (.v (.bool b))) ps as := fillA_1 _ _ _ _ _ rfl ho
@[push_cast] theorem fillA_str (cs : List AV) (off : Nat) (ps : List (Nat × Nat)) (b : ByteArray) (as : List AV) (ho : off + 1 ≤ cs.length) : fillA cs ((off, 1) :: ps) (.v (.string b) :: as) = fillA (cs.set off (.v (.string b))) ps as := fillA_1 _ _ _ _ _ rfl ho
@[push_cast] theorem fillA_ptr (cs : List AV) (off : Nat) (ps : List (Nat × Nat)) (b : Option Addr) (as : List AV) (ho : off + 1 ≤ cs.length) : fillA cs ((off, 1) :: ps) (.v (.pointer b) :: as) = fillA (cs.set off (.v (.pointer b))) ps as := fillA_1 _ _ _ _ _ rfl ho
@[push_cast] theorem fillA_sl (cs : List AV) (off : Nat) (ps : List (Nat × Nat)) (n : Nat) (c : List AV) (t : Tok) (as : List AV) (ho : off + 1 ≤ cs.length) : fillA cs ((off, 1) :: ps) (.sl n c t :: as) = fillA (cs.set off (.sl n c t)) ps as := fillA_1 _ _ _ _ _ rfl ho
@[push_cast] theorem fillA_ms (cs : List AV) (off : Nat) (ps : List (Nat × Nat)) (a b c d e : Nat) (as : List AV) (ho : off + 1 ≤ cs.length) : fillA cs ((off, 1) :: ps) (.ms a b c d e :: as) = fillA (cs.set off (.ms a b c d e)) ps as := fillA_1 _ _ _ _ _ rfl ho
@[push_cast] theorem fillA_ref (cs : List AV) (off : Nat) (ps : List (Nat × Nat)) (a b c : Nat) (as : List AV) (ho : off + 1 ≤ cs.length) : fillA cs ((off, 1) :: ps) (.ref a b c :: as) = fillA (cs.set off (.ref a b c)) ps as := fillA_1 _ _ _ _ _ rfl ho
@[push_cast] theorem fillA_fn (cs : List AV) (off : Nat) (ps : List (Nat × Nat)) (f : Fn) (k : Nat) (xs : List AV) (as : List AV) (ho : off + 1 ≤ cs.length) : fillA cs ((off, 1) :: ps) (.fn f k xs :: as) = fillA (cs.set off (.fn f k xs)) ps as := fillA_1 _ _ _ _ _ rfl ho
theorem fillA_n (cs : List AV) (off sz : Nat) (ps : List (Nat × Nat)) (l : List AV) (as : List AV) (hl : l.length = sz) (ho : off + sz ≤ cs.length) : fillA cs ((off, sz) :: ps) (.agg l :: as) = fillA (setAtA cs off l) ps as := by
  simp [fillA, AV.cells, hl, ho]
@[push_cast] theorem omapAgg (l : List AV) : Option.map AV.agg (some l) = some (.agg l) := rfl
@[push_cast] theorem setAtA_nil (cs : List AV) (off : Nat) : setAtA cs off [] = cs := rfl
@[push_cast] theorem setAtA_cons (cs : List AV) (off : Nat) (a : AV) (as : List AV) : setAtA cs off (a :: as) = setAtA (cs.set off a) (off + 1) as := rfl
@[push_cast] theorem cells_int (k : IntKind) (n : Int) : AV.cells (.v (.int k n)) = [.v (.int k n)] := rfl
@[push_cast] theorem cells_bool (b : Bool) : AV.cells (.v (.bool b)) = [.v (.bool b)] := rfl
@[push_cast] theorem cells_str (b : ByteArray) : AV.cells (.v (.string b)) = [.v (.string b)] := rfl
@[push_cast] theorem cells_cpx (k : FloatKind) (a b : Nat) : AV.cells (.v (.complex k a b)) = [.v (.complex k a b)] := rfl
@[push_cast] theorem cells_ptr (a : Option Addr) : AV.cells (.v (.pointer a)) = [.v (.pointer a)] := rfl
@[push_cast] theorem cells_nilFunc : AV.cells (.v .nilFunc) = [.v .nilFunc] := rfl
@[push_cast] theorem cells_nilIface : AV.cells (.v .nilIface) = [.v .nilIface] := rfl
@[push_cast] theorem cells_agg (l : List AV) : AV.cells (.agg l) = l := rfl
@[push_cast] theorem cells_sl (n : Nat) (cs : List AV) (t : Tok) : AV.cells (.sl n cs t) = [.sl n cs t] := rfl
@[push_cast] theorem cells_ms (a b c d e : Nat) : AV.cells (.ms a b c d e) = [.ms a b c d e] := rfl
@[push_cast] theorem cells_ref (a b c : Nat) : AV.cells (.ref a b c) = [.ref a b c] := rfl
@[push_cast] theorem cells_ep (cs : List AV) : AV.cells (.ep cs) = [.ep cs] := rfl
@[push_cast] theorem cells_fn (f : Fn) (k : Nat) (xs : List AV) : AV.cells (.fn f k xs) = [.fn f k xs] := rfl
@[push_cast] theorem cells_ifc (t : TypeId) (x : AV) : AV.cells (.ifc t x) = [.ifc t x] := rfl
@[push_cast] theorem cells_mp (i : Nat) : AV.cells (.mp i) = [.mp i] := rfl

/-! ### Loads -/
def ldR (n : Option Nat) (w off : Nat) : Option Res → Option AV
  | some (.obj w' cs) => if w = w' then cellsA n (cs.drop off) else none
  | some (.frz w' cs) => if w = w' then cellsA n (cs.drop off) else none
  | _ => none
@[push_cast] theorem ldA_ep (n : Option Nat) (cs : List AV) (σ : St) : ldA n (.ep cs) σ = cellsA n cs := rfl
@[push_cast] theorem ldA_ref (n : Option Nat) (i w off : Nat) (σ : St) : ldA n (.ref i w off) σ = ldR n w off σ[i]? := by
  unfold ldA ldR
  simp only
  cases σ[i]? with
  | none => rfl
  | some r => cases r <;> rfl
@[push_cast] theorem ldR_obj (n : Option Nat) (w off : Nat) (cs : List AV) : ldR n w off (some (.obj w cs)) = cellsA n (cs.drop off) := by simp [ldR]
@[push_cast] theorem ldR_frz (n : Option Nat) (w off : Nat) (cs : List AV) : ldR n w off (some (.frz w cs)) = cellsA n (cs.drop off) := by simp [ldR]
@[push_cast] theorem cellsA_one (cs : List AV) : cellsA none cs = cs[0]? := rfl
@[push_cast] theorem cellsA_n (k : Nat) (cs : List AV) (h : k ≤ cs.length) : cellsA (some k) cs = some (.agg (cs.take k)) := if_pos h

end Go.Kx
