/- Own small program logic, part k: the rewriting rules of the walk (tagged push_cast), and its stopping places. -/
import Derived.Test.YtjdpejggafefjaaDoorKj
namespace Go.Kx
set_option linter.unusedVariables false
set_option linter.unusedSimpArgs false
open Go

/-! ### Stopping places. 'act' marks where the walk stands: what comes later bears no mark, so nothing is rewritten there. -/
def act (p : Prop) : Prop := p
theorem act_i {p : Prop} (h : p) : act p := h
def obind (o : Option Value) (f : Value → Prop) : Prop := ∃ v, o = some v ∧ f v
def cnd (v : Value) (A B : Prop) : Prop := ∃ t, v = .bool t ∧ ((t = true → A) ∧ (t = false → B))
def bsel (v : Value) (want : Bool) (A B : Prop) : Prop := if gsel v want then A else B
@[push_cast] theorem bsel_undef (w : Bool) (A B : Prop) : bsel undef w A B = act B := rfl

@[push_cast] theorem obind_some (v : Value) (f : Value → Prop) : obind (some v) f = act (f v) := by simp [obind, act]
@[push_cast] theorem cnd_true (A B : Prop) : cnd (.bool true) A B = act A := by simp [cnd, act]
@[push_cast] theorem cnd_false (A B : Prop) : cnd (.bool false) A B = act B := by simp [cnd, act]
@[push_cast] theorem bsel_tt (A B : Prop) : bsel (.bool true) true A B = act A := rfl
@[push_cast] theorem bsel_tf (A B : Prop) : bsel (.bool true) false A B = act B := rfl
@[push_cast] theorem bsel_ft (A B : Prop) : bsel (.bool false) true A B = act B := rfl
@[push_cast] theorem bsel_ff (A B : Prop) : bsel (.bool false) false A B = act A := rfl
theorem cnd_split {t : Bool} {A B : Prop} (h1 : t = true → act A) (h2 : t = false → act B) : cnd (.bool t) A B := ⟨t, rfl, h1, h2⟩
theorem cnd_dec {p : Prop} [Decidable p] {A B : Prop} (h1 : p → act A) (h2 : ¬ p → act B) : cnd (.bool (decide p)) A B := ⟨_, rfl, fun h => h1 (of_decide_eq_true h), fun h => h2 (of_decide_eq_false h)⟩
theorem bsel_split {t w : Bool} {A B : Prop} (h1 : t = w → act A) (h2 : t = !w → act B) : bsel (.bool t) w A B := by
  cases t <;> cases w <;> first | exact h1 rfl | exact h2 rfl
theorem bsel_dec {p : Prop} [Decidable p] {A B : Prop} (h1 : p → act A) (h2 : ¬ p → act B) : bsel (.bool (decide p)) true A B := bsel_split (fun h => h1 (of_decide_eq_true h)) (fun h => h2 (of_decide_eq_false h))
theorem bsel_decF {p : Prop} [Decidable p] {A B : Prop} (h1 : ¬ p → act A) (h2 : p → act B) : bsel (.bool (decide p)) false A B := bsel_split (fun h => h1 (of_decide_eq_false h)) (fun h => h2 (of_decide_eq_true h))

/-! ### The environment -/
@[push_cast] theorem ev_tmp (ρ : Env) (t : Nat) : ev ρ (.tmp t) = ρ t := rfl
@[push_cast] theorem ev_const (ρ : Env) (v : Value) : ev ρ (.const v) = v := rfl
@[push_cast] theorem ev_global (ρ : Env) (g : Nat) : ev ρ (.global g) = .pointer (some ⟨g, 0, none⟩) := rfl
@[push_cast] theorem ev_func (ρ : Env) (f : Nat) : ev ρ (.func f) = .func (.func f) #[] #[] := rfl
@[push_cast] theorem set_get (ρ : Env) (d : Nat) (v : Value) (i : Nat) : (Env.set ρ d v) i = if i = d then v else ρ i := rfl
@[push_cast] theorem put_some (ρ : Env) (d : Nat) (v : Value) : Env.put ρ (some d) v = ρ.set d v := rfl
@[push_cast] theorem put_none (ρ : Env) (v : Value) : Env.put ρ none v = ρ := rfl
@[push_cast] theorem initE_zero (v : Value) (vs : List Value) : initE (v :: vs) 0 = v := rfl
@[push_cast] theorem initE_succ (v : Value) (vs : List Value) (n : Nat) : initE (v :: vs) (n + 1) = initE vs n := rfl
@[push_cast] theorem initE_nil (n : Nat) : initE [] n = undef := rfl
@[push_cast] theorem outEnv_nil (ρ ε : Env) : outEnv [] ρ ε = ρ := rfl
@[push_cast] theorem outEnv_cons (d : Nat) (ds : List Nat) (ρ ε : Env) : outEnv (d :: ds) ρ ε = outEnv ds (ρ.set d (ε d)) ε := rfl
@[push_cast] theorem evs_nil (ρ : Env) : List.map (ev ρ) [] = [] := rfl
@[push_cast] theorem evs_cons (ρ : Env) (x : Operand) (xs : List Operand) : List.map (ev ρ) (x :: xs) = ev ρ x :: List.map (ev ρ) xs := rfl

/-! ### Code -/
section
variable (P : Program) (K : Env → Heap → Prop) (X : Nat → Env → Heap → Prop) (R : Env → Heap → Prop) (ρ : Env) (h : Heap)
@[push_cast] theorem wpS_skip : act (wpS P .skip K X R ρ h) = act (K ρ h) := rfl
@[push_cast] theorem wpS_seq (a b : SCode) : act (wpS P (.seq a b) K X R ρ h) = act (wpS P a (fun ρ h => wpS P b K X R ρ h) X R ρ h) := rfl
@[push_cast] theorem wpS_reg (t : RT) (outs : List Nat) : act (wpS P (.reg t outs) K X R ρ h) = act (goR P t ρ h fun ε h' => K (outEnv outs ρ ε) h') := rfl
@[push_cast] theorem wpS_cond (c : Operand) (a b : SCode) : act (wpS P (.cond c a b) K X R ρ h) = cnd (ev ρ c) (wpS P a K X R ρ h) (wpS P b K X R ρ h) := rfl
@[push_cast] theorem wpS_block (id : Nat) (c : SCode) : act (wpS P (.block id c) K X R ρ h) = act (wpS P c K (fun j ρ h => if j = id then K ρ h else X j ρ h) R ρ h) := rfl
@[push_cast] theorem wpS_exit (id : Nat) : act (wpS P (.exit id) K X R ρ h) = act (X id ρ h) := rfl
@[push_cast] theorem wpS_ret : act (wpS P .ret K X R ρ h) = act (R ρ h) := rfl
end
section
variable {P : Program} {K : Env → Heap → Prop} {X : Nat → Env → Heap → Prop} {R : Env → Heap → Prop} {ρ : Env} {h : Heap}
theorem wp_loop' {c : SCode} {α : Type} (I : α → Env → Heap → Prop) (μ : α → Nat) (x : α) (h0 : I x ρ h) (hr : ∀ x ρ h, I x ρ h → act (wpS P c (fun ρ' h' => ∃ x', I x' ρ' h' ∧ μ x' < μ x) X R ρ h)) : act (wpS P (.loop c) K X R ρ h) :=
  ⟨α, I, μ, x, h0, hr⟩
end
section
variable (P : Program) (ε : Env) (h : Heap) (K : Env → Heap → Prop)
@[push_cast] theorem straight_nil : act (goR P (straight []) ε h K) = act (K ε h) := rfl
@[push_cast] theorem goR_done : act (goR P .done ε h K) = act (K ε h) := rfl
@[push_cast] theorem goR_both (a b : RT) : act (goR P (.both a b) ε h K) = (act (goR P a ε h K) ∧ act (goR P b ε h K)) := rfl
@[push_cast] theorem straight_cons (it : SItem) (its : List SItem) : act (goR P (straight (it :: its)) ε h K) = act (goR P (.run it (straight its)) ε h K) := rfl
@[push_cast] theorem goR_pur (d : Option Nat) (f : PF) (xs : List Operand) (rest : RT) :
    act (goR P (.run ⟨d, none, .pur f xs⟩ rest) ε h K) = obind (f.val (xs.map (ev ε))) fun v => goR P rest (ε.put d v) h K := rfl
@[push_cast] theorem goR_ld (d : Option Nat) (n : Option Nat) (x : Operand) (rest : RT) :
    act (goR P (.run ⟨d, none, .ld n x⟩ rest) ε h K) = obind (ldV n (ev ε x) (hp h)) fun v => goR P rest (ε.put d v) h K := rfl
@[push_cast] theorem goR_run_eff (d : Option Nat) (e : EF) (xs : List Operand) (rest : RT) :
    act (goR P (.run ⟨d, none, .eff e xs⟩ rest) ε h K) = act (e.wp P (xs.map (ev ε)) h fun v h' => goR P rest (ε.put d v) h' K) := rfl
@[push_cast] theorem goR_guard (d : Option Nat) (s : Nat) (want : Bool) (op : SOp) (rest : RT) :
    act (goR P (.run ⟨d, some (s, want), op⟩ rest) ε h K) = bsel (ε s) want (goR P (.run ⟨d, none, op⟩ rest) ε h K) (goR P rest (ε.put d undef) h K) := rfl
@[push_cast] theorem goR_eff (d : Option Nat) (e : EF) (xs : List Operand) (held : List SItem) (rest : RT) :
    act (goR P (.eff ⟨d, none, .eff e xs⟩ held rest) ε h K) = act (e.wp P (xs.map (ev ε)) h fun v h' => (∀ q ∈ held, q.holds (ε.put d v) h') ∧ goR P rest (ε.put d v) h' K) := rfl
@[push_cast] theorem goR_eff_pur (d : Option Nat) (f : PF) (xs : List Operand) (held : List SItem) (rest : RT) :
    act (goR P (.eff ⟨d, none, .pur f xs⟩ held rest) ε h K) = obind (f.val (xs.map (ev ε))) fun v => (∀ q ∈ held, q.holds (ε.put d v) h) ∧ goR P rest (ε.put d v) h K := rfl
@[push_cast] theorem goR_eff_ld (d : Option Nat) (n : Option Nat) (x : Operand) (held : List SItem) (rest : RT) :
    act (goR P (.eff ⟨d, none, .ld n x⟩ held rest) ε h K) = obind (ldV n (ev ε x) (hp h)) fun v => (∀ q ∈ held, q.holds (ε.put d v) h) ∧ goR P rest (ε.put d v) h K := rfl
end
@[push_cast] theorem act_if_true (A B : Prop) (c : Prop) [Decidable c] (hc : c) : act (if c then A else B) = act A := by rw [if_pos hc]
@[push_cast] theorem act_if_false (A B : Prop) (c : Prop) [Decidable c] (hc : ¬ c) : act (if c then A else B) = act B := by rw [if_neg hc]
@[push_cast] theorem act_held (ε : Env) (h : Heap) (A : Prop) : act ((∀ q ∈ ([] : List SItem), q.holds ε h) ∧ A) = act A := by simp [act]
theorem held_cons {q : SItem} {qs : List SItem} {ε : Env} {h : Heap} (h1 : q.holds ε h) (h2 : ∀ q ∈ qs, q.holds ε h) : ∀ p ∈ q :: qs, p.holds ε h := by
  intro p hp
  rcases List.mem_cons.1 hp with rfl | hp
  · exact h1
  · exact h2 p hp
theorem holds_ld {d : Nat} {n : Option Nat} {x : Operand} {ε : Env} {h : Heap} (H : ldV n (ev ε x) (hp h) = some (ε d)) : SItem.holds ⟨some d, none, .ld n x⟩ ε h :=
  ⟨ε d, H, fun e he => by cases he; rfl⟩

@[push_cast] theorem post1 (n0 : Nat) (t : Nat) (R : Value → Heap → Prop) (ρ : Env) (h : Heap) : act (post n0 [.tmp t] R ρ h) = act (∀ h', GrowD n0 h h' → R (ρ t) h') := by simp [post, RV.val, resV]
@[push_cast] theorem post0 (n0 : Nat) (R : Value → Heap → Prop) (ρ : Env) (h : Heap) : act (post n0 [] R ρ h) = act (∀ h', GrowD n0 h h' → R (.tuple #[]) h') := by simp [post, RV.val, resV]
@[push_cast] theorem post2 (n0 : Nat) (t u : Nat) (R : Value → Heap → Prop) (ρ : Env) (h : Heap) : act (post n0 [.tmp t, .tmp u] R ρ h) = act (∀ h', GrowD n0 h h' → R (.tuple #[ρ t, ρ u]) h') := by simp [post, RV.val, resV]
@[push_cast] theorem post3 (n0 : Nat) (t u v : Nat) (R : Value → Heap → Prop) (ρ : Env) (h : Heap) : act (post n0 [.tmp t, .tmp u, .tmp v] R ρ h) = act (∀ h', GrowD n0 h h' → R (.tuple #[ρ t, ρ u, ρ v]) h') := by simp [post, RV.val, resV]

/-! ### Pure operations -/
@[push_cast] theorem v_mov (x : Value) : PF.val .mov [x] = some x := rfl
@[push_cast] theorem v_pick (c : Bool) (a b : Value) : PF.val .pick [.bool c, a, b] = some (if c then a else b) := rfl
@[push_cast] theorem v_pick_t (a b : Value) : PF.val .pick [.bool true, a, b] = some a := rfl
@[push_cast] theorem v_pick_f (a b : Value) : PF.val .pick [.bool false, a, b] = some b := rfl
@[push_cast] theorem v_add (k : IntKind) (x y : Int) : PF.val (.bin .add) [.int k x, .int k y] = some (.int k (k.wrap (x + y))) := by simp [PF.val, binV, isSh, binI]
@[push_cast] theorem v_sub (k : IntKind) (x y : Int) : PF.val (.bin .sub) [.int k x, .int k y] = some (.int k (k.wrap (x - y))) := by simp [PF.val, binV, isSh, binI]
@[push_cast] theorem v_mul (k : IntKind) (x y : Int) : PF.val (.bin .mul) [.int k x, .int k y] = some (.int k (k.wrap (x * y))) := by simp [PF.val, binV, isSh, binI]
theorem v_quo (k : IntKind) (x y : Int) (h : y ≠ 0) : PF.val (.bin .quo) [.int k x, .int k y] = some (.int k (k.wrap (x.tdiv y))) := by simp [PF.val, binV, isSh, binI, h]
theorem v_rem (k : IntKind) (x y : Int) (h : y ≠ 0) : PF.val (.bin .rem) [.int k x, .int k y] = some (.int k (x.tmod y)) := by simp [PF.val, binV, isSh, binI, h]
@[push_cast] theorem v_quo' (k : IntKind) (x y : Int) (h : 0 < y) (hx : 0 ≤ x) : PF.val (.bin .quo) [.int k x, .int k y] = some (.int k (k.wrap (x / y))) := by
  rw [v_quo k x y (by omega), Int.tdiv_eq_ediv_of_nonneg hx]
@[push_cast] theorem v_rem' (k : IntKind) (x y : Int) (h : 0 < y) (hx : 0 ≤ x) : PF.val (.bin .rem) [.int k x, .int k y] = some (.int k (x % y)) := by
  rw [v_rem k x y (by omega), Int.tmod_eq_emod_of_nonneg hx]
@[push_cast] theorem v_eql (k : IntKind) (x y : Int) : PF.val (.bin .eql) [.int k x, .int k y] = some (.bool (decide (x = y))) := by
  simp [PF.val, binV, isSh, binI, cmpI]
  rw [Bool.eq_iff_iff]; simp
@[push_cast] theorem v_neq (k : IntKind) (x y : Int) : PF.val (.bin .neq) [.int k x, .int k y] = some (.bool (decide (x ≠ y))) := by
  simp [PF.val, binV, isSh, binI, cmpI, bne, BEq.beq]
@[push_cast] theorem v_lss (k : IntKind) (x y : Int) : PF.val (.bin .lss) [.int k x, .int k y] = some (.bool (decide (x < y))) := by simp [PF.val, binV, isSh, binI, cmpI]
@[push_cast] theorem v_leq (k : IntKind) (x y : Int) : PF.val (.bin .leq) [.int k x, .int k y] = some (.bool (decide (x ≤ y))) := by simp [PF.val, binV, isSh, binI, cmpI]
@[push_cast] theorem v_gtr (k : IntKind) (x y : Int) : PF.val (.bin .gtr) [.int k x, .int k y] = some (.bool (decide (y < x))) := by simp [PF.val, binV, isSh, binI, cmpI]
@[push_cast] theorem v_geq (k : IntKind) (x y : Int) : PF.val (.bin .geq) [.int k x, .int k y] = some (.bool (decide (y ≤ x))) := by simp [PF.val, binV, isSh, binI, cmpI]
@[push_cast] theorem v_not (b : Bool) : PF.val .not [.bool b] = some (.bool !b) := rfl
@[push_cast] theorem v_eqb (ng a b : Bool) : PF.val (.eqb ng) [.bool a, .bool b] = some (.bool (if ng then !(a == b) else a == b)) := rfl
@[push_cast] theorem v_len (a : Option Addr) (n c : Nat) : PF.val (.len false) [.slice a n c] = some (.int .i64 n) := rfl
@[push_cast] theorem v_lens (s : ByteArray) : PF.val (.len true) [.string s] = some (.int .i64 s.size) := rfl
@[push_cast] theorem v_cap (a : Option Addr) (n c : Nat) : PF.val .cap [.slice a n c] = some (.int .i64 c) := rfl
@[push_cast] theorem v_fla (b off k : Nat) : PF.val (.fla k) [.pointer (some ⟨b, off, none⟩)] = some (.pointer (some ⟨b, off + k, none⟩)) := by simp [PF.val, add_none]
@[push_cast] theorem v_nilc (a : Addr) : PF.val .nilc [.pointer (some a)] = some (.pointer (some a)) := rfl
@[push_cast] theorem v_ixa (b off sz n c : Nat) (k : IntKind) (i : Int) (h0 : 0 ≤ i) (h1 : i < n) : PF.val (.ixa sz) [.slice (some ⟨b, off, none⟩) n c, .int k i] = some (.pointer (some ⟨b, off + i.toNat * sz, none⟩)) := by
  simp [PF.val, h0, h1, add_none]
@[push_cast] theorem v_ixaA (b off sz n : Nat) (k : IntKind) (i : Int) (h0 : 0 ≤ i) (h1 : i < n) : PF.val (.ixaA n sz) [.pointer (some ⟨b, off, none⟩), .int k i] = some (.pointer (some ⟨b, off + i.toNat * sz, none⟩)) := by
  simp [PF.val, h0, h1, add_none]
@[push_cast] theorem v_ext0 (v : Value) (l : List Value) : PF.val (.ext 0) [.tuple (List.toArray (v :: l))] = some v := rfl
@[push_cast] theorem v_ext1 (u v : Value) (l : List Value) : PF.val (.ext 1) [.tuple (List.toArray (u :: v :: l))] = some v := rfl
@[push_cast] theorem v_ext2 (t u v : Value) (l : List Value) : PF.val (.ext 2) [.tuple (List.toArray (t :: u :: v :: l))] = some v := rfl
@[push_cast] theorem v_eqnp (ng : Bool) (a : Option Addr) : PF.val (.eqn ng 0) [.pointer a] = some (.bool (if ng then !a.isNone else a.isNone)) := rfl
@[push_cast] theorem v_eqns (ng : Bool) (a : Option Addr) (n c : Nat) : PF.val (.eqn ng 1) [.slice a n c] = some (.bool (if ng then !a.isNone else a.isNone)) := rfl
@[push_cast] theorem v_mm1 (mx : Bool) (x : Value) : PF.val (.minmax mx) [x] = some x := rfl
@[push_cast] theorem v_max (k : IntKind) (x y : Int) : PF.val (.minmax true) [.int k x, .int k y] = some (.int k (max x y)) := by
  simp only [PF.val, mms, mm, if_true, Option.bind_some, Option.some.injEq, Value.int.injEq, true_and]; split <;> omega
@[push_cast] theorem v_min (k : IntKind) (x y : Int) : PF.val (.minmax false) [.int k x, .int k y] = some (.int k (min x y)) := by
  simp only [PF.val, mms, mm, Bool.false_eq_true, if_false, Option.bind_some, Option.some.injEq, Value.int.injEq, true_and]; split <;> omega
@[push_cast] theorem v_toInt (k j : IntKind) (n : Int) : PF.val (.toInt k) [.int j n] = some (.int k (k.wrap n)) := rfl
@[push_cast] theorem v_mkf (fn : Fn) (n : Nat) (xs : List Value) : PF.val (.mkf fn n) xs = some (.func fn (xs.take n).toArray (xs.drop n).toArray) := by simp [PF.val]
@[push_cast] theorem v_fld (off : Nat) (cs : List Value) : PF.val (.fld off none) [.agg cs.toArray] = cs[off]? := rfl
@[push_cast] theorem v_fldn (off n : Nat) (cs : List Value) : PF.val (.fld off (some n)) [.agg cs.toArray] = some (.agg (subL cs off n).toArray) := rfl
@[push_cast] theorem v_bld (z : List Value) (ps : List (Nat × Nat)) (vs : List Value) : PF.val (.bld z ps) vs = (fillL z ps vs).map fun l => .agg l.toArray := by simp [PF.val]
@[push_cast] theorem fillL_nil (cs : List Value) : fillL cs [] [] = some cs := rfl
@[push_cast] theorem fillL_1 (cs : List Value) (off : Nat) (ps : List (Nat × Nat)) (v : Value) (vs : List Value) (hv : v.cells = #[v]) (ho : off + 1 ≤ cs.length) : fillL cs ((off, 1) :: ps) (v :: vs) = fillL (cs.set off v) ps vs := by
  simp [fillL, hv, ho, setAt]
theorem fillL_n (cs : List Value) (off sz : Nat) (ps : List (Nat × Nat)) (l : List Value) (vs : List Value) (hl : l.length = sz) (ho : off + sz ≤ cs.length) : fillL cs ((off, sz) :: ps) (.agg l.toArray :: vs) = fillL (setAt cs off l) ps vs := by
  simp [fillL, Value.cells, hl, ho]
@[push_cast] theorem omap_some (f : List Value → Value) (x : List Value) : Option.map f (some x) = some (f x) := rfl

/- Tests that linear arithmetic decides (the walk's discharger is omega). -/
@[push_cast] theorem dec_lt_t {a b : Int} (h : a < b) : decide (a < b) = true := decide_eq_true h
@[push_cast] theorem dec_lt_f {a b : Int} (h : b ≤ a) : decide (a < b) = false := decide_eq_false (by omega)
@[push_cast] theorem dec_le_t {a b : Int} (h : a ≤ b) : decide (a ≤ b) = true := decide_eq_true h
@[push_cast] theorem dec_le_f {a b : Int} (h : b < a) : decide (a ≤ b) = false := decide_eq_false (by omega)
@[push_cast] theorem dec_eq_t {a b : Int} (h : a = b) : decide (a = b) = true := decide_eq_true h
@[push_cast] theorem dec_eq_f {a b : Int} (h : a ≠ b) : decide (a = b) = false := decide_eq_false h
@[push_cast] theorem dec_ne_t {a b : Int} (h : a ≠ b) : decide (a ≠ b) = true := decide_eq_true h
@[push_cast] theorem dec_ne_f {a b : Int} (h : a = b) : decide (a ≠ b) = false := decide_eq_false (by simp [h])
@[push_cast] theorem wrap_in (n : Int) (h0 : -9223372036854775808 ≤ n) (h1 : n ≤ 9223372036854775807) : IntKind.i64.wrap n = n := IntWalk.i64_in n ⟨h0, h1⟩
@[push_cast] theorem ld_ptr (b off : Nat) (g : Nat → Option Obj) : ldV none (.pointer (some ⟨b, off, none⟩)) g = cellG g b off := rfl
@[push_cast] theorem toNat_nat (n : Nat) : (n : Int).toNat = n := rfl
@[push_cast] theorem toNat_nat1 (n : Nat) : ((n : Int) + 1).toNat = n + 1 := rfl
@[push_cast] theorem toNat_ofNat (n : Nat) : (OfNat.ofNat n : Int).toNat = OfNat.ofNat n := rfl

theorem fn_in {P : Program} {f : FuncId} {F : Fun} (hk : compF P f = some F) (hm : P.follows .mixedOrders = true) {args : List Value} {h : Heap} {R : Value → Heap → Prop} (ha : Nat.ble args.length F.N = true)
    (H : act (wpS P F.code (post h.size F.res R) (fun _ _ _ => False) (post h.size F.res R) (initE args) h)) : FnC P f args.toArray h R := fn_enter hk hm (Nat.le_of_ble_eq_true ha) H

/-- A loop with its way out: I holds at each round's head, Q where the loop is left. Inside the round what comes later is a variable. -/
theorem wp_bl {P : Program} {id : Nat} {c : SCode} {K K0 : Env → Heap → Prop} {X : Nat → Env → Heap → Prop} {R : Env → Heap → Prop} {ρ : Env} {h : Heap} {α : Type} (I : α → Env → Heap → Prop) (μ : α → Nat) (Q : Env → Heap → Prop) (x : α) (h0 : I x ρ h)
    (hr : ∀ x ρ h (N E : Env → Heap → Prop), I x ρ h → (∀ x' ρ' h', I x' ρ' h' → μ x' < μ x → act (N ρ' h')) → (∀ ρ' h', Q ρ' h' → act (E ρ' h')) → act (wpS P c N (fun j ρ h => if j = id then E ρ h else X j ρ h) R ρ h))
    (hK : ∀ ρ h, Q ρ h → act (K ρ h)) : act (wpS P (.loop c) K0 (fun j ρ h => if j = id then K ρ h else X j ρ h) R ρ h) :=
  ⟨α, I, μ, x, h0, fun x ρ h hI => hr x ρ h _ _ hI (fun x' _ _ h1 h2 => ⟨x', h1, h2⟩) hK⟩

end Go.Kx
