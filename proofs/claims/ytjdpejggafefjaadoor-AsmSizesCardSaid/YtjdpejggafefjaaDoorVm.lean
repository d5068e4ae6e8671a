/- Annotated values, part m: lists, and shapes of what comes in, for every seat. -/
import Derived.Test.YtjdpejggafefjaaDoorVl
import Derived.Test.YtjdpejggafefjaaDoorVj
namespace Go.Kx
set_option linter.unusedVariables false
set_option linter.unusedSimpArgs false
open Go

@[push_cast] theorem m_app_nil {α : Type} (l : List α) : [] ++ l = l := rfl
@[push_cast] theorem m_app_cons {α : Type} (a : α) (k l : List α) : a :: k ++ l = a :: (k ++ l) := rfl
theorem fzn (S : St) : Go.Kx.freeze [] S = S := rfl
theorem drop_at {α : Type} {l : List α} {k : Nat} {a : α} (h : l[k]? = some a) : l.drop k = a :: l.drop (k + 1) := by
  obtain ⟨hk, rfl⟩ := List.getElem?_eq_some_iff.1 h
  exact List.drop_eq_getElem_cons hk
theorem drop_all {α : Type} {l : List α} {k : Nat} (h : ¬ k < l.length) : l.drop k = [] := List.drop_of_length_le (by omega)
theorem at_lt {α : Type} {l : List α} {k : Nat} (h : k < l.length) : ∃ a, l[k]? = some a := ⟨_, List.getElem?_eq_getElem h⟩
theorem lt_at {α : Type} {l : List α} {i : Nat} {a : α} (h : l[i]? = some a) : i < l.length := (List.getElem?_eq_some_iff.1 h).1
theorem take_succ_at {α : Type} {l : List α} {k : Nat} {a : α} (h : l[k]? = some a) : l.take (k + 1) = l.take k ++ [a] := by
  rw [List.take_add_one, h]; rfl
theorem snoc_ind {α : Type} {P : List α → Prop} (h0 : P []) (hs : ∀ xs l, P xs → P (xs ++ [l])) (xs : List α) : P xs := by
  have : ∀ ys : List α, P ys.reverse := by
    intro ys
    induction ys with
    | nil => exact h0
    | cons y ys ih => rw [List.reverse_cons]; exact hs _ _ ih
  have := this xs.reverse
  rwa [List.reverse_reverse] at this
theorem flat_len {α : Type} {f : α → List AV} {n : Nat} (hf : ∀ x, (f x).length = n) (l : List α) : (l.flatMap f).length = l.length * n := by
  induction l with
  | nil => simp
  | cons a l ih => simp only [List.flatMap_cons, List.length_append, ih, hf, List.length_cons, Nat.succ_mul]; omega
theorem flat_drop {α : Type} {f : α → List AV} {n : Nat} (hf : ∀ x, (f x).length = n) {l : List α} : ∀ {k : Nat} {a : α}, l[k]? = some a → (l.flatMap f).drop (k * n) = f a ++ (l.drop (k + 1)).flatMap f := by
  induction l with
  | nil => intro k a h; simp at h
  | cons b l ih =>
    intro k a h
    cases k with
    | zero => simp at h; subst h; simp
    | succ k =>
      have := ih (k := k) (a := a) (by simpa using h)
      have e : (k + 1) * n = n + k * n := by rw [Nat.succ_mul]; omega
      rw [e, List.flatMap_cons, ← List.drop_drop]
      have e2 : (f b ++ l.flatMap f).drop n = l.flatMap f := by rw [List.drop_append, List.drop_of_length_le (by rw [hf]; omega), hf]; simp
      rw [e2, this]
      simp
theorem flat_dropN {α : Type} {f : α → List AV} {n : Nat} (hf : ∀ x, (f x).length = n) (l : List α) : ∀ k, (l.flatMap f).drop (k * n) = (l.drop k).flatMap f := by
  induction l with
  | nil => intro k; simp
  | cons r l ih =>
    intro k
    cases k with
    | zero => simp
    | succ k =>
      have e : (k + 1) * n = (f r).length + k * n := by rw [hf, Nat.succ_mul]; omega
      rw [e, List.flatMap_cons, List.drop_append, List.drop_of_length_le (by omega), Nat.add_sub_cancel_left, ih k]
      simp
theorem flat_takeN {α : Type} {f : α → List AV} {n : Nat} (hf : ∀ x, (f x).length = n) (l : List α) : ∀ k, (l.flatMap f).take (k * n) = (l.take k).flatMap f := by
  induction l with
  | nil => intro k; simp
  | cons r l ih =>
    intro k
    cases k with
    | zero => simp
    | succ k =>
      have e : (k + 1) * n = (f r).length + k * n := by rw [hf, Nat.succ_mul]; omega
      rw [e, List.flatMap_cons, List.take_append, List.take_of_length_le (by omega), Nat.add_sub_cancel_left, ih k]
      simp
theorem held0 {A : SItem → Prop} {p : Prop} (h : act p) : act ((∀ q ∈ ([] : List SItem), A q) ∧ p) := ⟨fun q hq => absurd hq List.not_mem_nil, h⟩
theorem both2 {A B : Prop} (h : act A) (k : act B) : act (A ∧ B) := ⟨h, k⟩
theorem aholds_ldg {d c : Nat} {w : Bool} {n : Option Nat} {x : Operand} {ε : AEnv} {σ : St} {a : AV} (hc : ε c = .v (.bool w)) (h : ldA n (evA ε x) σ = some a) (he : a.exact = true) (hd : ε d = a) : SItem.aholds ⟨some d, some (c, w), .ld n x⟩ ε σ :=
  .inl ⟨by show gselA (ε c) w = true; rw [hc]; simp [gselA], a, h, he, fun e he' => by cases he'; exact hd⟩
theorem aholds_off {d c : Nat} {w : Bool} {n : Option Nat} {x : Operand} {ε : AEnv} {σ : St} (hc : ε c = .v (.bool (!w))) (hd : ε d = .v undef) : SItem.aholds ⟨some d, some (c, w), .ld n x⟩ ε σ :=
  .inr ⟨by show gselA (ε c) w = false; rw [hc]; cases w <;> rfl, fun e he' => by cases he'; exact hd⟩
theorem setIm {s : List Int} {i : Nat} {x : Int} : (s.map aInt).set i (.v (.int .i64 x)) = (s.set i x).map aInt := by rw [List.map_set]; rfl
theorem setBm {s : List Bool} {i : Nat} {b : Bool} : (s.map aBool).set i (.v (.bool b)) = (s.set i b).map aBool := by rw [List.map_set]; rfl
theorem set_self {α : Type} {l : List α} {i : Nat} {a : α} (h : l[i]? = some a) : l.set i a = l := by
  obtain ⟨_, he⟩ := List.getElem?_eq_some_iff.1 h
  rw [← he]; simp
theorem get_set_ne {σ : St} {i j : Nat} {r o : Res} (hij : i ≠ j) (h : σ[j]? = some r) : (σ.set i o)[j]? = some r := by rw [List.getElem?_set_ne hij]; exact h
theorem get_set_eq {σ : St} {i : Nat} {r o : Res} (h : σ[i]? = some r) : (σ.set i o)[i]? = some o := by rw [List.getElem?_set, if_pos rfl, if_pos (lt_at h)]
theorem get_app {σ τ : St} {j : Nat} {r : Res} (h : σ[j]? = some r) : (σ ++ τ)[j]? = some r := by rw [List.getElem?_append_left (lt_at h)]; exact h

section
variable {P : Program} {σ : St} {K : AV → St → Prop}
theorem wpa_mkm (hk : act (K (.mp σ.length) (σ ++ [.map []]))) : act (EF.awp P .mkm [] σ K) := EF.awp_of hk
theorem wpa_mup {ck : CK} {i : Nat} {k : Value} {x : AV} {es ys : List (Value × AV)} (hi : σ[i]? = some (.map es)) (hp : putM ck k x es = some ys) (hk : act (K (.v undef) (σ.set i (.map ys)))) : act (EF.awp P (.mup ck) [.mp i, .v k, x] σ K) :=
  EF.awp_of ⟨es, hi, ys, hp, hk⟩
theorem wpa_mlk {ck : CK} {z k : Value} {v : AV} {i : Nat} {es : List (Value × AV)} (hi : σ[i]? = some (.map es)) (hg : getM ck (absV z) k es = some v) (hk : act (K v σ)) : act (EF.awp P (.mlk ck z) [.mp i, .v k] σ K) :=
  EF.awp_of ⟨es, hi, v, hg, hk⟩
end

/-! ### What comes in -/
theorem enc_sl {α : Type} {f : α → List AV} {n : Nat} {s : Sh} (hs : ∀ c, Enc s c → ∃ x : α, c = f x) {cs : List AV} (h : Enc (.sl n s) cs) : ∃ l : List α, cs = [aSlN f l] ∧ l.length ≤ 9223372036854775807 := by
  obtain ⟨css, rfl, hl, hc⟩ := h
  have : ∃ l : List α, css = l.map f := by
    clear hl
    induction css with
    | nil => exact ⟨[], rfl⟩
    | cons c css ih =>
      obtain ⟨l, hl⟩ := ih fun d hd => hc d (by simp [hd])
      obtain ⟨x, hx⟩ := hs c (hc c (by simp)).2
      exact ⟨x :: l, by rw [hl, hx]; rfl⟩
  obtain ⟨l, rfl⟩ := this
  exact ⟨l, by simp [aSlN, List.flatMap], by simpa using hl⟩
theorem flat_one {α : Type} (f : α → AV) : ∀ l : List α, l.flatMap (fun x => [f x]) = l.map f := by
  intro l
  induction l with
  | nil => rfl
  | cons a l ih => rw [List.flatMap_cons, ih]; rfl
def shN : Sh := .int .i64
theorem shN_read {c : List AV} (h : Enc shN c) : ∃ x : Int, c = [aInt x] ∧ -9223372036854775808 ≤ x ∧ x ≤ 9223372036854775807 := by
  obtain ⟨x, rfl, hx⟩ := h
  refine ⟨x, rfl, ?_⟩
  have : decide (IntKind.min .i64 ≤ x) = true ∧ decide (x ≤ IntKind.max .i64) = true := by simpa [Lit.wf] using hx
  exact ⟨of_decide_eq_true this.1, of_decide_eq_true this.2⟩
theorem enc_sl1 {α : Type} {f : α → AV} {s : Sh} (hs : ∀ c, Enc s c → ∃ x : α, c = [f x]) {cs : List AV} (h : Enc (.sl 1 s) cs) : ∃ l : List α, cs = [aSl f l] ∧ l.length ≤ 9223372036854775807 := by
  obtain ⟨l, rfl, hl⟩ := enc_sl (f := fun x => [f x]) hs h
  exact ⟨l, by simp only [aSlN, aSl, flat_one], hl⟩
theorem shNs_read {c : List AV} (h : Enc (.sl 1 shN) c) : ∃ l : List Int, c = [aInts l] ∧ l.length ≤ 9223372036854775807 :=
  enc_sl1 (f := aInt) (fun _ hc => by obtain ⟨x, h, _⟩ := shN_read hc; exact ⟨x, h⟩) h
/-- The walk's rules, under one name. -/
theorem wz : ((∀ i : Decidable True, @decide True i = true) ∧ (∀ i : Decidable False, @decide False i = false) ∧ (!true) = false ∧ (!false) = true ∧ (∀ b : Bool, (!!b) = b) ∧
    (∀ (α : Type) (a : α), (some a).isNone = false) ∧ (∀ α : Type, (none : Option α).isNone = true)) ∧
    ((∀ (α : Type) (l : List α), l.drop 0 = l) ∧ (∀ (α : Type) (a : α) (l : List α) (i : Nat), (a :: l).drop (i + 1) = l.drop i) ∧ (∀ (α : Type) (a : α) (l : List α), (a :: l)[0]? = some a) ∧ (∀ (α : Type) (a : α) (l : List α) (i : Nat), (a :: l)[i + 1]? = l[i]?) ∧
    (∀ (α : Type) (a : α) (l : List α), (a :: l).length = l.length + 1) ∧ (∀ α : Type, ([] : List α).length = 0) ∧ (∀ (α : Type) (a : α) (l : List α) (i : Nat), (a :: l).take (i + 1) = a :: l.take i) ∧ (∀ (α : Type) (l : List α), l.take 0 = []) ∧
    (∀ (α β : Type) (f : α → β) (l : List α) (i : Nat), (l.map f)[i]? = l[i]?.map f) ∧ (∀ (α : Type) (l : List α) (i j : Nat), (l.drop i)[j]? = l[i + j]?) ∧ (∀ (α : Type) (l : List α) (i j : Nat), (l.take i)[j]? = if j < i then l[j]? else none) ∧
    (∀ (α β : Type) (f : α → β) (l : List α), (l.map f).length = l.length) ∧ (∀ (α β : Type) (f : α → β) (a : α), (some a).map f = some (f a)) ∧ (∀ (α : Type) (a b : α) (l : List α), (a :: l).set 0 b = b :: l) ∧ (∀ (α : Type) (a b : α) (l : List α) (i : Nat), (a :: l).set (i + 1) b = a :: l.set i b) ∧
    (∀ (α β : Type) (f : α → List β) (a : α) (l : List α), (a :: l).flatMap f = f a ++ l.flatMap f) ∧ (∀ (α β : Type) (f : α → List β), ([] : List α).flatMap f = [])) ∧
    ((∀ n : Nat, n * 1 = n) ∧ (∀ n : Nat, 0 + n = n) ∧ (∀ n : Nat, n + 0 = n) ∧ (∀ n : Nat, 1 * n = n) ∧ (∀ n : Nat, 0 * n = 0) ∧ (∀ p : Prop, (p ∧ True) = p) ∧ (∀ p : Prop, (True ∧ p) = p)) := by
  refine ⟨⟨by simp, by simp, rfl, rfl, by simp, fun _ _ => rfl, fun _ => rfl⟩, ⟨fun _ _ => rfl, fun _ _ _ _ => rfl, fun _ _ _ => rfl, fun _ _ _ _ => rfl, fun _ _ _ => rfl, fun _ => rfl, fun _ _ _ _ => rfl, fun _ _ => by simp, fun _ _ _ _ _ => by simp, fun _ _ _ _ => by simp, fun _ _ _ _ => List.getElem?_take,
    fun _ _ _ _ => by simp, fun _ _ _ _ => rfl, fun _ _ _ _ => rfl, fun _ _ _ _ _ => rfl, fun _ _ _ _ _ => by simp, fun _ _ _ => rfl⟩, ⟨by simp, by simp, by simp, by simp, by simp, by simp, by simp⟩⟩
end Go.Kx
