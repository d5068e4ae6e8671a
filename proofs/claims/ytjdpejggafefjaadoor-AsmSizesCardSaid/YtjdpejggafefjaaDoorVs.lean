/- Annotated values, part s: strings. -/
import Derived.Test.YtjdpejggafefjaaDoorVm
namespace Go.Kx
set_option linter.unusedVariables false
set_option linter.unusedSimpArgs false
open Go

theorem str_ext {a b : ByteArray} (h : a.data.toList = b.data.toList) : a = b := by
  cases a; cases b; simp at h; simp [h]
theorem str_beq (a b : ByteArray) : (a.toList == b.toList) = decide (a = b) := by
  rw [ByteArray.toList_eq, ByteArray.toList_eq, Bool.eq_iff_iff]
  simp only [beq_iff_eq, decide_eq_true_eq]
  exact ⟨str_ext, fun h => by rw [h]⟩
@[push_cast] theorem pv_str_eq (a b : ByteArray) : PF.val (.bin .eql) [.string a, .string b] = some (.bool (decide (a = b))) := by
  simp [PF.val, binV, binS, str_beq]
@[push_cast] theorem pv_str_ne (a b : ByteArray) : PF.val (.bin .neq) [.string a, .string b] = some (.bool (!decide (a = b))) := by
  simp [PF.val, binV, binS, str_beq]
@[push_cast] theorem pv_str_add (a b : ByteArray) (h : a.size + b.size ≤ 9223372036854775807) : PF.val (.bin .add) [.string a, .string b] = some (.string (a ++ b)) := by
  have : ¬ (((a.size + b.size : Nat) : Int) > IntKind.i64.max) := by
    show ¬ ((9223372036854775807 : Int) < _)
    omega
  simp only [PF.val, binV, binS, if_neg this]
@[push_cast] theorem pv_str_len (a : ByteArray) : PF.val (.len true) [.string a] = some (.int .i64 a.size) := rfl
theorem pv_str_ix {s : ByteArray} {k : IntKind} {i : Int} {b : UInt8} (h0 : 0 ≤ i) (h : s.data.toList[i.toNat]? = some b) : PF.val .ixs [.string s, .int k i] = some (.int .u8 b.toNat) := by
  simp only [PF.val, if_pos h0, h]
  rfl
@[push_cast] theorem pv_sls_lh (s : ByteArray) (k k' : IntKind) (i j : Int) (h0 : 0 ≤ i) (h1 : i ≤ j) (h2 : j ≤ s.size) : PF.val (.sls true true) [.string s, .int k i, .int k' j] = some (.string (s.extract i.toNat j.toNat)) := by
  simp [PF.val, loHi, bound_in s.size k' j (by omega) h2, bound_in j.toNat k i h0 (by omega)]
theorem str_size (s : ByteArray) : s.size = s.data.toList.length := by cases s; rfl
/-- One byte cut out. -/
theorem str_one {s : ByteArray} {i : Nat} {b : UInt8} (h : s.data.toList[i]? = some b) : s.extract i (i + 1) = ⟨#[b]⟩ := by
  apply str_ext
  rw [ByteArray.data_extract, Array.toList_extract, List.extract_eq_take_drop]
  have : s.data.toList.drop i = b :: s.data.toList.drop (i + 1) := drop_at h
  rw [this, show i + 1 - i = 1 by omega]
  rfl
section
variable {P : Program} {σ : St} {K : AV → St → Prop}
theorem wpa_sit {s : ByteArray} (hk : act (K (.ref σ.length 0 0) (σ ++ [.itr s 0]))) : act (EF.awp P .sit [.v (.string s)] σ K) := EF.awp_of hk
theorem wpa_nxt {i : Nat} {s : ByteArray} {pos : Nat} (hi : σ[i]? = some (.itr s pos)) (hp : pos < s.size) (hk : act (K (.tup [.v (.bool true), .v (.int .i64 pos), .v (.int .i32 (Utf8.decode s pos).1)]) (σ.set i (.itr s (pos + (Utf8.decode s pos).2))))) : act (EF.awp P .nxt [.ref i 0 0] σ K) :=
  EF.awp_of ⟨rfl, rfl, s, pos, hi, by rw [if_pos hp]; exact hk⟩
theorem wpa_nxt_end {i : Nat} {s : ByteArray} {pos : Nat} (hi : σ[i]? = some (.itr s pos)) (hp : ¬ pos < s.size) (hk : act (K (.tup [.v (.bool false)]) σ)) : act (EF.awp P .nxt [.ref i 0 0] σ K) :=
  EF.awp_of ⟨rfl, rfl, s, pos, hi, by rw [if_neg hp]; exact hk⟩
theorem wpa_b2s {x : AV} {n : Nat} {bs : List UInt8} (h1 : x.isSl = true) (h2 : srcA σ 1 x = some (n, bs.map fun b => .v (.int .u8 b.toNat))) (h3 : bs.length = n) (hk : act (K (.v (.string ⟨bs.toArray⟩)) σ)) : act (EF.awp P .b2s [x] σ K) :=
  EF.awp_of ⟨h1, n, bs, h2, h3, hk⟩
theorem wpa_s2b {E : TypeId} {s : ByteArray} (h1 : s.size ≤ 9223372036854775807) (hk : act (K (.sl s.size (s.data.toList.map fun b => AV.v (.int .u8 b.toNat)) (.id σ.length 1 1)) (σ ++ [.tail 1]))) : act (EF.awp P (.s2b E) [.v (.string s)] σ K) := EF.awp_of ⟨h1, hk⟩
theorem wpa_cpy {sz i w off n m : Nat} {y : AV} {news cs : List AV} (hy : y.isSl = true) (hs : srcA σ sz y = some (m, news)) (hm : news.length = m * sz) (h1 : news.all AV.one = true) (hmn : m ≤ n) (hi : σ[i]? = some (.obj w cs)) (ho : off + m * sz ≤ cs.length)
    (hk : act (K (.v (.int .i64 m)) (σ.set i (.obj w (setAtA cs off news))))) : act (EF.awp P (.cpy sz) [.ms i w off n sz, y] σ K) :=
  EF.awp_of ⟨rfl, hy, m, news, hs, hm, h1, hmn, cs, hi, ho, hk⟩
end
/-- What follows stays a name. -/
theorem wpa_sq {P : Program} {a b : SCode} {K : AEnv → St → Prop} {X : Nat → AEnv → St → Prop} {R : AEnv → St → Prop} {ε : AEnv} {σ : St} (h : ∀ N : AEnv → St → Prop, N = (fun ε σ => wpA P b K X R ε σ) → act (wpA P a N X R ε σ)) : act (wpA P (.seq a b) K X R ε σ) := h _ rfl
theorem wpa_blk {P : Program} {id : Nat} {c : SCode} {K : AEnv → St → Prop} {X : Nat → AEnv → St → Prop} {R : AEnv → St → Prop} {ε : AEnv} {σ : St} (h : ∀ X' : Nat → AEnv → St → Prop, X' = (fun j ε σ => if j = id then K ε σ else X j ε σ) → act (wpA P c K X' R ε σ)) : act (wpA P (.block id c) K X R ε σ) := h _ rfl
end Go.Kx
