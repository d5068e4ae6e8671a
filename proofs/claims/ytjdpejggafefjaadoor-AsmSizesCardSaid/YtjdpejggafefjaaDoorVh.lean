/- Annotated values, part h: effects, calls and loops as steps of the walk; encodings. -/
import Derived.Test.YtjdpejggafefjaaDoorVg
namespace Go.Kx
set_option linter.unusedVariables false
set_option linter.unusedSimpArgs false
open Go

theorem fnP_in {P : Program} {f : FuncId} {F : Fun} (hk : compF P f = some F) (hm : P.follows .mixedOrders = true) {as : List AV} {Q : AV → Prop} (ha : Nat.ble as.length F.N = true) (hp : AV.pureL as = true)
    (H : act (wpA P F.code (postA F.res fun a σ' => ∃ is, (a.res (freeze is σ')).pure = true ∧ Q (a.res (freeze is σ'))) (fun _ _ _ => False) (postA F.res fun a σ' => ∃ is, (a.res (freeze is σ')).pure = true ∧ Q (a.res (freeze is σ'))) (initA as) [])) : FnP P f as Q :=
  fnP_enter hk hm (Nat.le_of_ble_eq_true ha) hp H
theorem fnG_in {P : Program} {f : FuncId} {F : Fun} (hk : compF P f = some F) (hm : P.follows .mixedOrders = true) {as : List AV} {σ : St} {R : AV → St → Prop} (ha : Nat.ble as.length F.N = true)
    (H : act (wpA P F.code (postA F.res R) (fun _ _ _ => False) (postA F.res R) (initA as) σ)) : FnG P f as σ R := fnG_enter hk hm (Nat.le_of_ble_eq_true ha) H
theorem fnGz_in {P : Program} {f : FuncId} {F : Fun} (hk : compF P f = some F) (hm : P.follows .mixedOrders = true) {as : List AV} {σ : St} {R : AV → St → Prop} (ha : Nat.ble as.length F.N = true)
    (H : act (wpA P F.code (postA F.res fun a σ' => ∃ is, R (a.res (freeze is σ')) (freeze is σ')) (fun _ _ _ => False) (postA F.res fun a σ' => ∃ is, R (a.res (freeze is σ')) (freeze is σ')) (initA as) σ)) : FnG P f as σ R := (fnG_enter hk hm (Nat.le_of_ble_eq_true ha) H).fz

section
variable {P : Program} {σ : St} {K : AV → St → Prop}
/-- An effect ahead of which some objects are frozen and some operands are read. -/
theorem wpa_frz {e : EF} {as : List AV} (is : List Nat) (fs : List Bool) (h : act (EF.awp P e (weak (freeze is σ) fs as) (freeze is σ) K)) : act (EF.awp P e as σ K) := EF.awp_step is fs h
theorem wpa_callG {f : FuncId} {as : List AV} {R : AV → St → Prop} (H : FnG P f as σ R) (hk : ∀ a σ', R a σ' → act (K a σ')) : act (EF.awp P (.call f) as σ K) := by
  refine EF.awp_of ?_
  have key : FnG P f as σ K := H.mono hk
  cases as <;> exact key
/-- A call of what touches nothing. -/
theorem wpa_call {f : FuncId} {as : List AV} {Q : AV → Prop} (H : FnP P f as Q) (hk : ∀ a, Q a → act (K a σ)) : act (EF.awp P (.call f) as σ K) :=
  wpa_callG (H.at σ) fun a σ' ⟨h1, h2⟩ => by subst h1; exact hk a h2
theorem wpa_callw {f : FuncId} {as as' : List AV} {Q : AV → Prop} (is : List Nat) (fs : List Bool) (H : FnP P f as' Q) (he : weak (freeze is σ) fs as = as') (hk : ∀ a, Q a → act (K a (freeze is σ))) : act (EF.awp P (.call f) as σ K) :=
  wpa_frz is fs (by rw [he]; exact wpa_call H hk)
theorem wpa_callvG {f : FuncId} {k : Nat} {xs as as' : List AV} {R : AV → St → Prop} (hok : fnOk P f = true) (he : xs.take k ++ as ++ xs.drop k = as') (H : FnG P f as' σ R) (hk : ∀ a σ', R a σ' → act (K a σ')) :
    act (EF.awp P .callv (.fn (.func f) k xs :: as) σ K) := by
  subst he
  exact EF.awp_of ⟨hok, H.mono hk⟩

theorem wpa_new {T : TypeId} {z : List Value} (hk : act (K (.ref σ.length 0 0) (σ ++ [.obj 0 (z.map abs1)]))) : act (EF.awp P (.new T z) [] σ K) := EF.awp_of hk
theorem wpa_box {T : TypeId} {a : AV} (hk : act (K (.ref σ.length 0 0) (σ ++ [.obj 0 a.cells]))) : act (EF.awp P (.box T) [a] σ K) := EF.awp_of hk
theorem wpa_bsl {E : TypeId} {sz : Nat} {as : List AV} (h1 : ∀ a ∈ as, a.cells.length = sz) (h2 : as.length ≤ 9223372036854775807) (hk : act (K (.sl as.length (as.flatMap AV.cells) .full) σ)) : act (EF.awp P (.bsl E sz) as σ K) := by
  have key : (∀ a ∈ as, a.cells.length = sz) ∧ as.length ≤ 9223372036854775807 ∧ (K (.sl as.length (as.flatMap AV.cells) .full) σ ∨ K (.ms σ.length 0 0 as.length sz) (σ ++ [.obj 0 (as.flatMap AV.cells)])) := ⟨h1, h2, .inl hk⟩
  refine EF.awp_of ?_
  cases as <;> exact key
theorem wpa_bslo {E : TypeId} {sz : Nat} {as : List AV} (h1 : ∀ a ∈ as, a.cells.length = sz) (h2 : as.length ≤ 9223372036854775807) (hk : act (K (.ms σ.length 0 0 as.length sz) (σ ++ [.obj 0 (as.flatMap AV.cells)]))) : act (EF.awp P (.bsl E sz) as σ K) := by
  have key : (∀ a ∈ as, a.cells.length = sz) ∧ as.length ≤ 9223372036854775807 ∧ (K (.sl as.length (as.flatMap AV.cells) .full) σ ∨ K (.ms σ.length 0 0 as.length sz) (σ ++ [.obj 0 (as.flatMap AV.cells)])) := ⟨h1, h2, .inr hk⟩
  refine EF.awp_of ?_
  cases as <;> exact key
theorem wpa_mks {E : TypeId} {sz by_ : Nat} {z : List Value} {k k' : IntKind} {n : Nat} (hz : z.length = sz) (hn : n * by_ ≤ 281474976710656) (hn2 : n ≤ 9223372036854775807) (hk : act (K (.ms σ.length 0 0 n sz) (σ ++ [.obj 0 (repA (z.map abs1) n)]))) :
    act (EF.awp P (.mks E sz by_ z) [.v (.int k n), .v (.int k' n)] σ K) := by
  refine EF.awp_of ⟨hz, by omega, Int.le_refl _, by omega, ?_, ?_⟩
  · have : ((n * by_ : Nat) : Int) ≤ 281474976710656 := by omega
    rw [Int.natCast_mul] at this
    rwa [Int.mul_comm]
  · simpa [act] using hk
theorem repA_one (a : AV) (n : Nat) : repA [a] n = List.replicate n a := by
  simp only [repA]
  induction n with
  | zero => rfl
  | succ n ih => simp [List.replicate_succ, ih]
/-- One cell of an object. -/
theorem wpa_st1 {i w off : Nat} {a : AV} {cs : List AV} (hc : a.cells = [a]) (h1 : a.one = true) (hi : σ[i]? = some (.obj w cs)) (ho : off < cs.length) (hk : act (K (.v undef) (σ.set i (.obj w (cs.set off a))))) : act (EF.awp P (.st 1) [.ref i w off, a] σ K) := by
  refine EF.awp_of ⟨by rw [hc]; rfl, by rw [hc]; simp [h1], cs, hi, by omega, ?_⟩
  rw [hc]; exact hk
/-- Some cells of an object. -/
theorem wpa_stn {i w off n : Nat} {l cs : List AV} (hn : l.length = n) (h1 : l.all AV.one = true) (hi : σ[i]? = some (.obj w cs)) (ho : off + n ≤ cs.length) (hk : act (K (.v undef) (σ.set i (.obj w (setAtA cs off l))))) : act (EF.awp P (.st n) [.ref i w off, .agg l] σ K) :=
  EF.awp_of ⟨hn, h1, cs, hi, ho, hk⟩
/-- append: to what somebody holds the tail of. -/
theorem wpa_app {E : TypeId} {sz by_ : Nat} {z : List Value} {n i w : Nat} {cs : List AV} {y : AV} {m : Nat} {news : List AV} (hz : z.length = sz) (hs : srcA σ sz y = some (m, news)) (hm : news.length = m * sz) (h1 : news.all AV.one = true) (hc : cs.length = n * sz)
    (hn : n + m ≤ 9223372036854775807) (hb : (n + m) * by_ ≤ 140737488355328) (hi : σ[i]? = some (.tail w)) (hk : act (K (.sl (n + m) (cs ++ news) (.id i (w + 1) sz)) (σ.set i (.tail (w + 1))))) :
    act (EF.awp P (.app E sz by_ z) [.sl n cs (.id i w sz), y] σ K) := EF.awp_of ⟨hz, m, news, hs, hm, h1, hn, hb, hc, rfl, hi, hk⟩
theorem wpa_app_nil {E : TypeId} {sz by_ : Nat} {z : List Value} {y : AV} {m : Nat} {news : List AV} (hz : z.length = sz) (hs : srcA σ sz y = some (m, news)) (hm : news.length = m * sz) (h1 : news.all AV.one = true)
    (hn : m ≤ 9223372036854775807) (hb : m * by_ ≤ 140737488355328) (hk : act (K (.sl m news (.id σ.length 1 sz)) (σ ++ [.tail 1]))) :
    act (EF.awp P (.app E sz by_ z) [.sl 0 [] .nil, y] σ K) := by
  refine EF.awp_of ⟨hz, m, news, hs, hm, h1, by simpa [AV.num] using hn, by simpa [AV.num] using hb, by simp, .inl ?_⟩
  simpa [act] using hk
theorem wpa_app_full {E : TypeId} {sz by_ : Nat} {z : List Value} {n : Nat} {cs : List AV} {y : AV} {m : Nat} {news : List AV} (hz : z.length = sz) (hs : srcA σ sz y = some (m, news)) (hm : news.length = m * sz) (h1 : news.all AV.one = true) (hc : cs.length = n * sz)
    (hn : n + m ≤ 9223372036854775807) (hb : (n + m) * by_ ≤ 140737488355328) (hk : act (K (.sl (n + m) (cs ++ news) (.id σ.length 1 sz)) (σ ++ [.tail 1]))) :
    act (EF.awp P (.app E sz by_ z) [.sl n cs .full, y] σ K) := EF.awp_of ⟨hz, m, news, hs, hm, h1, hn, hb, hc, .inl hk⟩
/-- append whose tail nobody wants. -/
theorem wpa_app_nil0 {E : TypeId} {sz by_ : Nat} {z : List Value} {y : AV} {m : Nat} {news : List AV} (hz : z.length = sz) (hs : srcA σ sz y = some (m, news)) (hm : news.length = m * sz) (h1 : news.all AV.one = true)
    (hn : m ≤ 9223372036854775807) (hb : m * by_ ≤ 140737488355328) (hk : act (K (.sl m news .none) σ)) :
    act (EF.awp P (.app E sz by_ z) [.sl 0 [] .nil, y] σ K) := by
  refine EF.awp_of ⟨hz, m, news, hs, hm, h1, by simpa [AV.num] using hn, by simpa [AV.num] using hb, by simp, .inr (.inr ?_)⟩
  simpa [act] using hk
theorem wpa_app_full0 {E : TypeId} {sz by_ : Nat} {z : List Value} {n : Nat} {cs : List AV} {y : AV} {m : Nat} {news : List AV} (hz : z.length = sz) (hs : srcA σ sz y = some (m, news)) (hm : news.length = m * sz) (h1 : news.all AV.one = true) (hc : cs.length = n * sz)
    (hn : n + m ≤ 9223372036854775807) (hb : (n + m) * by_ ≤ 140737488355328) (hk : act (K (.sl (n + m) (cs ++ news) .none) σ)) :
    act (EF.awp P (.app E sz by_ z) [.sl n cs .full, y] σ K) := EF.awp_of ⟨hz, m, news, hs, hm, h1, hn, hb, hc, .inr hk⟩
theorem wpa_app_ms {E : TypeId} {sz by_ : Nat} {z : List Value} {n i w : Nat} {cs : List AV} {y : AV} {m : Nat} {news : List AV} (hz : z.length = sz) (hs : srcA σ sz y = some (m, news)) (hm : news.length = m * sz) (h1 : news.all AV.one = true) (hc : n * sz ≤ cs.length)
    (hn : n + m ≤ 9223372036854775807) (hb : (n + m) * by_ ≤ 140737488355328) (hi : σ[i]? = some (.obj w cs)) (hk : act (K (.ms i (w + 1) 0 (n + m) sz) (σ.set i (.obj (w + 1) (cs.take (n * sz) ++ news))))) :
    act (EF.awp P (.app E sz by_ z) [.ms i w 0 n sz, y] σ K) := EF.awp_of ⟨hz, m, news, hs, hm, h1, hn, hb, rfl, rfl, cs, hi, hc, hk⟩
theorem wpa_app_nilo {E : TypeId} {sz by_ : Nat} {z : List Value} {y : AV} {m : Nat} {news : List AV} (hz : z.length = sz) (hs : srcA σ sz y = some (m, news)) (hm : news.length = m * sz) (h1 : news.all AV.one = true)
    (hn : m ≤ 9223372036854775807) (hb : m * by_ ≤ 140737488355328) (h0 : 0 < m) (hk : act (K (.ms σ.length 0 0 m sz) (σ ++ [.obj 0 news]))) :
    act (EF.awp P (.app E sz by_ z) [.sl 0 [] .nil, y] σ K) := by
  refine EF.awp_of ⟨hz, m, news, hs, hm, h1, by simpa [AV.num] using hn, by simpa [AV.num] using hb, by simp, .inr (.inl ⟨h0, ?_⟩)⟩
  exact hk
end

/-- A loop with its way out: I holds at each round's head, Q where the loop is left. Inside the round what comes later is a variable. -/
theorem wpa_bl {P : Program} {id : Nat} {c : SCode} {K K0 : AEnv → St → Prop} {X : Nat → AEnv → St → Prop} {R : AEnv → St → Prop} {ε : AEnv} {σ : St} {α : Type} (I : α → AEnv → St → Prop) (μ : α → Nat) (Q : AEnv → St → Prop) (x : α) (h0 : I x ε σ)
    (hr : ∀ x ε σ (N E : AEnv → St → Prop), I x ε σ → (∀ x' ε' σ', I x' ε' σ' → μ x' < μ x → act (N ε' σ')) → (∀ ε' σ', Q ε' σ' → act (E ε' σ')) → act (wpA P c N (fun j ε σ => if j = id then E ε σ else X j ε σ) R ε σ))
    (hK : ∀ ε σ, Q ε σ → act (K ε σ)) : act (wpA P (.loop c) K0 (fun j ε σ => if j = id then K ε σ else X j ε σ) R ε σ) :=
  ⟨α, I, μ, x, ε, σ, .refl _ _, h0, fun x ε σ hI => hr x ε σ _ _ hI (fun x' _ _ h1 h2 => ⟨x', h1, h2⟩) hK⟩
theorem wpa_blg {P : Program} {id : Nat} {c : SCode} {K K0 : AEnv → St → Prop} {X : Nat → AEnv → St → Prop} {R : AEnv → St → Prop} {ε ε0 : AEnv} {σ σ0 : St} (g : GU ε σ ε0 σ0) {α : Type} (I : α → AEnv → St → Prop) (μ : α → Nat) (Q : AEnv → St → Prop) (x : α) (h0 : I x ε0 σ0)
    (hr : ∀ x ε σ (N E : AEnv → St → Prop), I x ε σ → (∀ x' ε' σ', I x' ε' σ' → μ x' < μ x → act (N ε' σ')) → (∀ ε' σ', Q ε' σ' → act (E ε' σ')) → act (wpA P c N (fun j ε σ => if j = id then E ε σ else X j ε σ) R ε σ))
    (hK : ∀ ε σ, Q ε σ → act (K ε σ)) : act (wpA P (.loop c) K0 (fun j ε σ => if j = id then K ε σ else X j ε σ) R ε σ) :=
  ⟨α, I, μ, x, ε0, σ0, g, h0, fun x ε σ hI => hr x ε σ _ _ hI (fun x' _ _ h1 h2 => ⟨x', h1, h2⟩) hK⟩
/-- A nil slice in a variable, as the holder of a tail. -/
theorem GU.tok {ε : AEnv} {σ : St} (t sz : Nat) (ht : ε t = .sl 0 [] .nil) : GU ε σ (ε.set t (.sl 0 [] (.id σ.length 0 sz))) (σ ++ [.tail 0]) := by
  intro base G h ρ H E
  obtain ⟨G1, k1, k2, k3⟩ := H.newTail ⟨0, 0, 0, 0, 0, 0, true⟩ (fun b o hh => by simp [Loc.has] at hh)
  refine ⟨G1, k1, k2, fun s => ?_⟩
  simp only [AEnv.set]
  split
  · rename_i hs
    subst hs
    have := E s
    rw [ht] at this
    generalize ρ s = u at this
    cases this with
    | sl _ _ _ a cap vs h1 h2 h3 h4 h5 h6 =>
      obtain ⟨_, rfl, rfl⟩ := h6
      exact .sl _ _ _ _ _ vs h1 (fun i a u ha hu => (h2 i a u ha hu).mono k1) h3 h4 (h5.mono k1.g) ⟨_, k3, rfl, rfl, rfl, by simp, by simp⟩
  · exact (E s).mono k1

/-- An object is frozen, and a variable read. -/
theorem GU.frz {ε : AEnv} {σ : St} (is : List Nat) (t : Nat) : GU ε σ (ε.set t ((ε t).res (freeze is σ))) (freeze is σ) := by
  intro base G h ρ H E
  obtain ⟨G2, l2, H2⟩ := H.freeze is
  refine ⟨G2, l2, H2, fun s => ?_⟩
  simp only [AEnv.set]
  split
  · rename_i hs
    subst hs
    exact res_rel H2 ((E s).mono l2)
  · exact (E s).mono l2
/-- A nil slice in an object, as the holder of a tail. -/
theorem GU.tokO {ε : AEnv} {σ : St} {i w j : Nat} {cs : List AV} (sz : Nat) (hi : σ[i]? = some (.obj w cs)) (hj : cs[j]? = some (.sl 0 [] .nil)) :
    GU ε σ ε (σ.set i (.obj w (cs.set j (.sl 0 [] (.id σ.length 0 sz)))) ++ [.tail 0]) := by
  intro base G h ρ H E
  obtain ⟨G1, k1, k2, k3⟩ := H.newTail ⟨0, 0, 0, 0, 0, 0, true⟩ (fun b o hh => by simp [Loc.has] at hh)
  have hlt : i < σ.length := (List.getElem?_eq_some_iff.1 hi).1
  have hi2 : (σ ++ [.tail 0])[i]? = some (.obj w cs) := by rw [List.getElem?_append_left hlt]; exact hi
  obtain ⟨l, e1, e2, e3, e4, e5⟩ := k2.obj i w cs hi2
  refine ⟨G1, k1, ?_, E.mono k1⟩
  have := k2.retell hi2 (cs' := cs.set j (.sl 0 [] (.id σ.length 0 sz))) e1 (by simpa using e4) (fun m a ha => by
    by_cases hm : j = m
    · subst hm
      have hjl : j < cs.length := (List.getElem?_eq_some_iff.1 hj).1
      rw [List.getElem?_set_self hjl] at ha
      cases ha
      obtain ⟨u, hu, hr⟩ := e5 j _ hj
      refine ⟨u, hu, ?_⟩
      cases hr with
      | sl _ _ _ a cap vs h1 h2 h3 h4 h5 h6 =>
        obtain ⟨_, rfl, rfl⟩ := h6
        exact .sl _ _ _ _ _ vs h1 h2 h3 h4 h5 ⟨_, k3, rfl, rfl, rfl, by simp, by simp⟩
    · rw [List.getElem?_set_ne hm] at ha
      exact e5 m a ha)
  rwa [List.set_append_left _ _ hlt] at this

/-- One object is frozen, and read. -/
theorem freeze_one {σ : St} {i w : Nat} {cs : List AV} (hi : σ[i]? = some (.obj w cs)) (hr : AV.resL σ cs = cs) : Go.Kx.freeze [i] σ = σ.set i (.frz w cs) := by
  simp only [Go.Kx.freeze, List.foldl_cons, List.foldl_nil, freeze1, hi, hr]
theorem res_ms {σ : St} {i w n sz : Nat} {cs : List AV} (hi : σ[i]? = some (.frz w cs)) (hn : cs.length = n * sz) : AV.res σ (.ms i w 0 n sz) = .sl n cs .none := by
  simp only [AV.res, hi, if_true, subA, List.drop_zero]
  rw [List.take_of_length_le (by omega)]
theorem wpa_frz1 {P : Program} {σ : St} {K : AV → St → Prop} {e : EF} {i w n sz : Nat} {cs : List AV} (hi : σ[i]? = some (.obj w cs)) (hr : AV.resL σ cs = cs) (hn : cs.length = n * sz) (h : act (EF.awp P e [.sl n cs .none] (σ.set i (.frz w cs)) K)) : act (EF.awp P e [.ms i w 0 n sz] σ K) := by
  refine wpa_frz [i] [true] ?_
  have hlt : i < σ.length := (List.getElem?_eq_some_iff.1 hi).1
  rw [freeze_one hi hr]
  simp only [weak, if_true]
  rw [res_ms (by simp [hlt]) hn]
  exact h
@[push_cast] theorem at_snoc {α : Type} (l : List α) (x : α) : (l ++ [x])[l.length]? = some x := by simp
@[push_cast] theorem set_snoc {α : Type} (l : List α) (x y : α) : (l ++ [x]).set l.length y = l ++ [y] := by simp

/-! ### Encodings -/
def aInt (x : Int) : AV := .v (.int .i64 x)
def aBool (b : Bool) : AV := .v (.bool b)
/-- A slice whose elements are in one cell each. -/
def aSl {α : Type} (f : α → AV) (xs : List α) : AV := .sl xs.length (xs.map f) .none
/-- A slice whose elements are structs. -/
def aSlN {α : Type} (f : α → List AV) (xs : List α) : AV := .sl xs.length (xs.flatMap f) .none
@[push_cast] theorem res_v (σ : St) (x : Value) : AV.res σ (.v x) = .v x := by simp [AV.res]
theorem resL_flat {α : Type} (σ : St) (f : α → List AV) (xs : List α) (h : ∀ x, AV.resL σ (f x) = f x) : AV.resL σ (xs.flatMap f) = xs.flatMap f := by
  induction xs with
  | nil => rfl
  | cons x xs ih =>
    simp only [List.flatMap_cons]
    rw [resL_map, List.map_append, ← resL_map, ← resL_map, ih, h]
theorem aSl_res {α : Type} {f : α → AV} {σ : St} (h : ∀ x, (f x).res σ = f x) (xs : List α) (t : Tok) : (AV.sl xs.length (xs.map f) t).res σ = aSl f xs := by
  simp only [AV.res, resL_map, List.map_map, aSl, AV.sl.injEq, true_and, and_true]
  congr 1
  funext x
  exact h x
theorem aSlN_res {α : Type} {f : α → List AV} {σ : St} (h : ∀ x, AV.resL σ (f x) = f x) (xs : List α) (t : Tok) : (AV.sl xs.length (xs.flatMap f) t).res σ = aSlN f xs := by
  simp only [AV.res, aSlN, AV.sl.injEq, true_and, and_true]
  exact resL_flat σ f xs h
theorem aSl_pure {α : Type} {f : α → AV} (h : ∀ x, (f x).pure = true) (xs : List α) : (aSl f xs).pure = true := by
  simp [aSl, AV.pure, pureL_all, h]
theorem pureL_flat {α : Type} {f : α → List AV} (h : ∀ x, AV.pureL (f x) = true) (xs : List α) : AV.pureL (xs.flatMap f) = true := by
  rw [pureL_all, List.all_eq_true]
  intro a ha
  obtain ⟨x, _, hx⟩ := List.mem_flatMap.1 ha
  have := h x
  rw [pureL_all, List.all_eq_true] at this
  exact this a hx
theorem aSlN_pure {α : Type} {f : α → List AV} (h : ∀ x, AV.pureL (f x) = true) (xs : List α) : (aSlN f xs).pure = true := by
  simp [aSlN, AV.pure, pureL_flat h]
def aInts (xs : List Int) : AV := aSl aInt xs
def aInts2 (xss : List (List Int)) : AV := aSl aInts xss
theorem aInt_res (σ : St) (x : Int) : (aInt x).res σ = aInt x := by simp [aInt, AV.res]
theorem aBool_res (σ : St) (x : Bool) : (aBool x).res σ = aBool x := by simp [aBool, AV.res]
theorem aInts_res (σ : St) (xs : List Int) : (aInts xs).res σ = aInts xs := aSl_res (aInt_res σ) xs .none
theorem aInts2_res (σ : St) (xs : List (List Int)) : (aInts2 xs).res σ = aInts2 xs := aSl_res (aInts_res σ) xs .none
theorem aInt_pure (x : Int) : (aInt x).pure = true := by simp [aInt, AV.pure]
theorem aBool_pure (x : Bool) : (aBool x).pure = true := by simp [aBool, AV.pure]
theorem aInts_pure (xs : List Int) : (aInts xs).pure = true := aSl_pure aInt_pure xs
theorem aInts2_pure (xs : List (List Int)) : (aInts2 xs).pure = true := aSl_pure aInts_pure xs

/-! ### What comes back -/
theorem fin_v {x : Value} {b : AV} (h : AV.v x = b) : ∃ _ : List Nat, (AV.v x).pure = true ∧ AV.v x = b := ⟨[], rfl, h⟩
theorem fin_vv {x y : Value} {σ : St} {b : AV} (h : AV.tup [.v x, .v y] = b) : ∃ is, ((AV.tup [.v x, .v y]).res (Go.Kx.freeze is σ)).pure = true ∧ (AV.tup [.v x, .v y]).res (Go.Kx.freeze is σ) = b :=
  ⟨[], by simp [AV.res, AV.resL, AV.pure, AV.pureL], by simpa [AV.res, AV.resL] using h⟩
theorem fin_res {a b : AV} {σ : St} (is : List Nat) (h : a.res (Go.Kx.freeze is σ) = b) (hp : b.pure = true) : ∃ is, (a.res (Go.Kx.freeze is σ)).pure = true ∧ a.res (Go.Kx.freeze is σ) = b := ⟨is, by rw [h]; exact hp, h⟩
theorem fin_tup2 {a b c d : AV} {σ : St} {e : AV} (is : List Nat) (h1 : a.res (Go.Kx.freeze is σ) = c) (h2 : b.res (Go.Kx.freeze is σ) = d) (hc : c.pure = true) (hd : d.pure = true) (he : AV.tup [c, d] = e) :
    ∃ is, ((AV.tup [a, b]).res (Go.Kx.freeze is σ)).pure = true ∧ (AV.tup [a, b]).res (Go.Kx.freeze is σ) = e := by
  subst he
  exact ⟨is, by simp [AV.res, AV.resL, AV.pure, AV.pureL, h1, h2, hc, hd], by simp [AV.res, AV.resL, h1, h2]⟩

/-! ### What comes in is given a name: a slice whose cells never turn, as the slice of a frozen object -/
theorem RelH.pin {base : Heap} {G : Gh} {h : Heap} {σ : St} (H : RelH base G h σ) (l : Loc) (hl : ∀ b o, ¬ l.has b o) (hn : l.isnil = false) {cs : List AV} (hc : ∀ (j : Nat) (a : AV), cs[j]? = some a → ∃ u, G.g l.b (l.off + j) = some u ∧ RelV G a u) :
    ∃ G', Gh.le base.size G G' ∧ RelH base G' h (σ ++ [.frz 0 cs]) ∧ G'.T σ.length 0 = some l := by
  obtain ⟨G1, k1, k2, k3⟩ := H.newTail l hl
  refine ⟨G1, k1, ?_, k3⟩
  have hlt : ∀ {i : Nat} {r : Res}, (σ ++ [Res.frz 0 cs])[i]? = some r → i < σ.length ∧ (σ ++ [Res.tail 0])[i]? = some r ∨ i = σ.length ∧ r = .frz 0 cs := by
    intro i r hi
    by_cases h1 : i < σ.length
    · rw [List.getElem?_append_left h1] at hi
      exact .inl ⟨h1, by rw [List.getElem?_append_left h1]; exact hi⟩
    · have h2 := (List.getElem?_eq_some_iff.1 hi).1
      simp at h2
      have h3 : i = σ.length := by omega
      subst h3
      simp at hi
      exact .inr ⟨rfl, hi.symm⟩
  have hloc : ∀ {i : Nat} {m : Loc}, locOf G1 (σ ++ [Res.frz 0 cs]) i = some m → locOf G1 (σ ++ [Res.tail 0]) i = some m := by
    intro i m hm
    unfold locOf at hm ⊢
    cases hr : (σ ++ [Res.frz 0 cs])[i]? with
    | none => rw [hr] at hm; cases hm
    | some r =>
      rw [hr] at hm
      rcases hlt hr with ⟨_, h2⟩ | ⟨_, rfl⟩
      · rw [h2]; exact hm
      · cases hm
  refine ⟨k2.tab, k2.size, k2.keep, k2.st, fun i w ds hi => ?_, fun i w ds hi => ?_, fun i m hm => k2.own i m (hloc hm), fun i j m1 m2 hij h1 h2 => k2.disj i j m1 m2 hij (hloc h1) (hloc h2), fun i w m hm => ?_, k2.maps.mono (fun i es hm hi => ?_) (fun _ _ _ h => h) (fun _ _ _ h => h) fun _ _ _ h => h⟩
  · rcases hlt hi with ⟨_, h2⟩ | ⟨_, h2⟩
    · exact k2.obj i w ds h2
    · cases h2
  · rcases hlt hi with ⟨_, h2⟩ | ⟨rfl, h2⟩
    · exact k2.frz i w ds h2
    · cases h2
      refine ⟨l, k3, hn, fun j a ha => ?_⟩
      obtain ⟨u, h3, h4⟩ := hc j a ha
      exact ⟨u, k1.g _ _ _ h3, h4.mono k1⟩
  · obtain ⟨h1, h2⟩ := k2.bd i w m hm
    refine ⟨by simpa using h1, fun r w' hr hw => ?_⟩
    rcases hlt hr with ⟨_, h3⟩ | ⟨_, rfl⟩
    · exact h2 r w' h3 hw
    · cases hw
  · rcases hlt hi with ⟨_, h2⟩ | ⟨_, h2⟩
    · exact h2
    · subst h2; cases hm
theorem FnG.pin {P : Program} {f : FuncId} {a : AV} {n sz : Nat} {cs : List AV} {t : Tok} {rest : List AV} {σ : St} {R : AV → St → Prop} (hn : 0 < n) (H : FnG P f (.agg [a, .ms σ.length 0 0 n sz] :: rest) (σ ++ [.frz 0 cs]) R) : FnG P f (.agg [a, .sl n cs t] :: rest) σ R := by
  intro base G h vs hH hL
  obtain ⟨u, us, rfl, h1, h2⟩ := hL.cons_inv
  cases h1 with
  | agg _ ws k1 k2 =>
    match ws, k1, k2 with
    | [u0, u1], _, k2 =>
      have r0 := k2 0 _ _ rfl rfl
      have r1 := k2 1 _ _ rfl rfl
      cases r1 with
      | sl _ _ _ ad cap us' e1 e2 e3 e4 e5 e6 =>
        rcases e5 with ⟨e5, _⟩ | ⟨b, off, rfl, e5⟩
        · omega
        · obtain ⟨G1, g1, g2, g3⟩ := hH.pin ⟨b, off, cap, n, off + cap * sz, off + cap * sz, false⟩ (fun b o hh => by simp only [Loc.has] at hh; omega) rfl (cs := cs) fun j x hx => by
            obtain ⟨y, hy⟩ : ∃ y, us'[j]? = some y := ⟨us'[j]'(by rw [e1]; exact (List.getElem?_eq_some_iff.1 hx).1), List.getElem?_eq_getElem _⟩
            exact ⟨y, e5 j y hy, e2 j x y hx hy⟩
          refine (H base G1 h _ g2 ?_).mono fun r h' ⟨G2, x, σ', p1, p2, p3, p4⟩ => ⟨G2, x, σ', g1.trans p1, p2, p3, p4⟩
          refine .cons (.agg _ [u0, .slice (some ⟨b, off, none⟩) n cap] rfl fun i x y hx hy => ?_) (h2.mono g1)
          match i, hx, hy with
          | 0, hx, hy => simp at hx hy; subst hx; subst hy; exact r0.mono g1
          | 1, hx, hy => simp at hx hy; subst hx; subst hy; exact .ms _ _ _ _ _ _ cap g3 rfl e3 e4 rfl
end Go.Kx
