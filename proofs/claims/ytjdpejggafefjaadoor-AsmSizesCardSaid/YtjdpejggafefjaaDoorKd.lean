/- Own small program logic, part d: equality of flat values; all pure operations agree with the model. -/
import Derived.Test.YtjdpejggafefjaaDoorKc
import Derived.ChangeKeysEq
namespace Go.Kx
set_option linter.unusedVariables false
set_option linter.unusedSimpArgs false
open Go

theorem eqC_run {P : Program} {w : World} {t : TypeId} {u : TypeDesc} {k : CK} {x y : Value} {b : Bool} (hu : P.underlying t = some u) (hk : ckOf u = some k) (h : eqC k x y = some b) (D : Nat) :
    (Op.equalIn (D + 1) t x y).run P w = .ok b w := by
  cases u <;> simp [ckOf] at hk <;> subst hk <;> cases x <;> simp [eqC] at h <;> cases y <;> simp [eqC] at h <;>
    (try obtain ⟨rfl, rfl⟩ := h) <;> simp [Op.equalIn, run_underlying hu, *]

theorem eqCs_append (l1 l2 : List CK) : ∀ (xs ys : List Value) (b : Bool), eqCs (l1 ++ l2) xs ys = some b →
    ∃ b1, eqCs l1 xs ys = some b1 ∧ (b1 = false → b = false) ∧ (b1 = true → eqCs l2 (xs.drop l1.length) (ys.drop l1.length) = some b) := by
  induction l1 with
  | nil => intro xs ys b h; exact ⟨true, by simp [eqCs], by simp, fun _ => by simpa using h⟩
  | cons k ks ih =>
    intro xs ys b h
    cases xs <;> cases ys <;> simp only [List.cons_append, eqCs] at h <;> try cases h
    rename_i x xs y ys
    cases hk : eqC k x y with
    | none => simp [hk] at h
    | some r =>
      cases r
      · simp [hk] at h
        exact ⟨false, by simp [eqCs, hk], by simp [h], by simp⟩
      · simp only [hk] at h
        obtain ⟨b1, h1, h2, h3⟩ := ih xs ys b h
        exact ⟨b1, by simp [eqCs, hk, h1], h2, by simpa using h3⟩

theorem eqCs_take (l : List CK) : ∀ (n : Nat) (xs ys : List Value) (b : Bool), l.length ≤ n → eqCs l xs ys = some b → eqCs l (xs.take n) (ys.take n) = some b := by
  induction l with
  | nil => intro n xs ys b _ h; simpa [eqCs] using h
  | cons k ks ih =>
    intro n xs ys b hn h
    cases n with
    | zero => simp at hn
    | succ n =>
      cases xs <;> cases ys <;> simp only [eqCs] at h <;> try cases h
      rename_i x xs y ys
      simp only [List.take_succ_cons, eqCs]
      cases hk : eqC k x y with
      | none => simp [hk] at h
      | some r =>
        cases r
        · simpa [hk] using h
        · simp only [hk] at h ⊢
          exact ih n xs ys b (by simpa using hn) h

/-- The two parts at one place, compared. -/
def cmpAt (P : Program) (D : Nat) (t : TypeId) (xs ys : Array Value) (off : Nat) : Sem Bool := do
  let a ← part t xs off
  let b ← part t ys off
  Op.equalIn D t a b

theorem flat_eq (P : Program) : ∀ (d : Nat) (t : TypeId) (l : List CK), flat P d t = some l → ∀ (i : TypeInfo), P.info? t = some i → i.size = l.length → ∀ (D : Nat), d ≤ D → ∀ (w : World) (xs ys : Array Value) (off : Nat) (b : Bool),
    eqCs l (xs.toList.drop off) (ys.toList.drop off) = some b → (cmpAt P D t xs ys off).run P w = .ok b w
  | 0, t, l, h => by simp [flat] at h
  | d + 1, t, l, h => by
    intro i hi hsz D hD w xs ys off b hb
    obtain ⟨D, rfl⟩ : ∃ D', D = D' + 1 := ⟨D - 1, by omega⟩
    have hcells : P.cellsOf t = l.length := by simp [Program.cellsOf, hi, hsz]
    unfold flat at h
    cases hu : P.underlying t with
    | none => simp [hu] at h
    | some u =>
      simp only [hu] at h
      cases u with
      | struct fs =>
        simp only at h
        split at h
        · cases h
        rename_i hst
        have hagg : (isAgg t).run P w = .ok true w := by simp [isAgg, run_underlying hu]
        have hin : ∀ (fl : List Field) (o : Nat) (l' : List CK) (w : World) (X Y : Array Value), flatFields (flat P d) P o fl = some l' → ∀ b, eqCs l' (X.toList.drop o) (Y.toList.drop o) = some b → (Op.eqFields D X Y fl).run P w = .ok b w := by
          intro fl
          induction fl with
          | nil =>
            intro o l' w X Y hf b hb
            simp [flatFields] at hf
            subst hf
            simp [eqCs] at hb
            subst hb
            simp [Op.eqFields]
          | cons f fl ih =>
            intro o l' w X Y hf b hb
            unfold flatFields at hf
            split at hf
            · cases hf
            rename_i hno
            simp only [Bool.or_eq_true, beq_iff_eq, bne_iff_ne, ne_eq, not_or, Decidable.not_not] at hno
            obtain ⟨hn, ho⟩ := hno
            split at hf
            · rename_i lf jf hlf hjf
              split at hf
              · rename_i hjs
                simp only [Option.map_eq_some_iff] at hf
                obtain ⟨l2, hl2, rfl⟩ := hf
                obtain ⟨b1, e1, e2, e3⟩ := eqCs_append _ _ _ _ _ hb
                have hone := flat_eq P d f.type lf hlf jf hjf hjs D (by omega) w X Y o b1 e1
                simp only [cmpAt, Sem.run_bind] at hone
                simp only [Op.eqFields, hn, ne_eq, not_false_eq_true, if_true, Sem.run_bind, ho]
                revert hone
                generalize (part f.type X o).run P w = r1
                cases r1 with
                | halt x w1 => simp [Result.andThen]
                | ok a w1 =>
                  simp only [Result.andThen_ok]
                  generalize (part f.type Y o).run P w1 = r2
                  cases r2 with
                  | halt x w2 => simp [Result.andThen]
                  | ok a2 w2 =>
                    simp only [Result.andThen_ok]
                    intro hone
                    rw [hone]
                    cases b1
                    · simp [e2 rfl]
                    · simp only [Result.andThen_ok, Bool.not_true, Bool.false_eq_true, if_false]
                      exact ih _ l2 w X Y hl2 b (by have := e3 rfl; simpa [List.drop_drop] using this)
              · cases hf
            · cases hf
        have hpart : ∀ (X : Array Value), (part t X off).run P w = .ok (.agg (X.extract off (off + l.length))) w := by
          intro X
          simp [part, hagg, run_sizeOf w hi, hcells]
        simp only [cmpAt, Sem.run_bind, hpart, Result.andThen_ok]
        have hfo : P.fieldsOf t = fs := by simp [Program.fieldsOf, hu]
        have := run_equalIn_struct (P := P) w D (t := t) (xs.extract off (off + l.length)) (ys.extract off (off + l.length)) (by rw [hfo]; exact hu) (by simpa using hst)
        rw [this, hfo]
        refine hin _ 0 l w _ _ h b ?_
        have := eqCs_take l l.length _ _ b (Nat.le_refl _) hb
        simpa [Array.toList_extract, List.extract_eq_take_drop] using this
      | array n e =>
        simp only at h
        split at h
        · rename_i le je hle hje
          split at h
          · rename_i hjs
            simp only [Option.some.injEq] at h
            subst h
            have hagg : (isAgg t).run P w = .ok true w := by simp [isAgg, run_underlying hu]
            have hce : P.cellsOf e = le.length := by simp [Program.cellsOf, hje, hjs]
            have hin : ∀ (m k : Nat) (w : World) (X Y : Array Value) (b : Bool), eqCs (List.replicate m le).flatten (X.toList.drop (k * le.length)) (Y.toList.drop (k * le.length)) = some b →
                (Op.eqItems D e le.length X Y (List.range' k m)).run P w = .ok b w := by
              intro m
              induction m with
              | zero =>
                intro k w X Y b hb
                simp [eqCs] at hb
                subst hb
                simp [Op.eqItems]
              | succ m ih =>
                intro k w X Y b hb
                rw [List.replicate_succ, List.flatten_cons] at hb
                obtain ⟨b1, e1, e2, e3⟩ := eqCs_append _ _ _ _ _ hb
                have hone := flat_eq P d e le hle je hje hjs D (by omega) w X Y (k * le.length) b1 e1
                simp only [cmpAt, Sem.run_bind] at hone
                simp only [List.range'_succ, Op.eqItems, Sem.run_bind]
                revert hone
                generalize (part e X (k * le.length)).run P w = r1
                cases r1 with
                | halt x w1 => simp [Result.andThen]
                | ok a w1 =>
                  simp only [Result.andThen_ok]
                  generalize (part e Y (k * le.length)).run P w1 = r2
                  cases r2 with
                  | halt x w2 => simp [Result.andThen]
                  | ok a2 w2 =>
                    simp only [Result.andThen_ok]
                    intro hone
                    rw [hone]
                    cases b1
                    · simp [e2 rfl]
                    · simp only [Result.andThen_ok, Bool.not_true, Bool.false_eq_true, if_false]
                      exact ih (k + 1) w X Y b (by have := e3 rfl; simpa [List.drop_drop, Nat.add_mul, Nat.add_comm] using this)
            have hpart : ∀ (X : Array Value), (part t X off).run P w = .ok (.agg (X.extract off (off + (List.replicate n le).flatten.length))) w := by
              intro X
              simp [part, hagg, run_sizeOf w hi, hcells]
            simp only [cmpAt, Sem.run_bind, hpart, Result.andThen_ok]
            rw [run_equalIn_array (P := P) w D (t := t) _ _ hu hje, hce, List.range_eq_range']
            refine hin n 0 w _ _ b ?_
            have := eqCs_take _ _ _ _ b (Nat.le_refl _) hb
            simpa [Array.toList_extract, List.extract_eq_take_drop] using this
          · cases h
        · cases h
      | _ =>
        obtain ⟨k, hk, rfl⟩ := Option.map_eq_some_iff.1 h
        · cases hx : xs.toList.drop off with
          | nil => simp [hx, eqCs] at hb
          | cons x xr =>
            cases hy : ys.toList.drop off with
            | nil => simp [hx, hy, eqCs] at hb
            | cons y yr =>
              have hx0 : xs[off]? = some x := by have := congrArg (·[0]?) hx; simpa using this
              have hy0 : ys[off]? = some y := by have := congrArg (·[0]?) hy; simpa using this
              have hbb : eqC k x y = some b := by
                simp only [hx, hy, eqCs] at hb
                revert hb
                cases hq : eqC k x y with
                | none => simp
                | some r => cases r <;> simp
              simp only [cmpAt, part, isAgg, run_underlying hu, Sem.run_bind, Result.andThen_ok, Sem.run_pure, Sem.run_ite, Bool.false_eq_true, if_false, hx0, hy0]
              exact eqC_run hu hk hbb D

theorem eqs_run {P : Program} {w : World} {t : TypeId} {l : List CK} {xs ys : Array Value} {b : Bool} (hl : flat P 40 t = some l) (ha : (isAgg t).run P w = .ok true w)
    {i : TypeInfo} (hi : P.info? t = some i) (hs : i.size = l.length) (hx : xs.size = l.length) (hy : ys.size = l.length)
    (hb : eqCs l xs.toList ys.toList = some b) : (Op.equal t (.agg xs) (.agg ys)).run P w = .ok b w := by
  have hc : P.cellsOf t = l.length := by simp [Program.cellsOf, hi, hs]
  have h := flat_eq P 40 t l hl i hi hs Op.maxDepth (by decide) w xs ys 0 b (by simpa using hb)
  have e1 : xs.extract 0 l.length = xs := by rw [← hx]; simp
  have e2 : ys.extract 0 l.length = ys := by rw [← hy]; simp
  simpa [cmpAt, part, ha, run_sizeOf w hi, hc, e1, e2, Op.equal] using h

end Go.Kx
