/- Tsa Tsb -/
import Derived.Test.YtncdnegdlkmicaaSea
import Derived.Test.YtncdnegdlkmicaaTsc
/- TidySame: programs whose instructions answer one another do the same. Plain. -/
namespace Go.Proofs.Ytncdnegdlkmicaa
set_option linter.unusedVariables false
set_option linter.unusedSimpArgs false
open Go Go.Kx Go.Proofs

/-! ### Frames and states that differ by where they stand alone -/
def FR (P : Int → Int → Int → Prop) (f f' : Sf) : Prop := ∃ p, f' = { f with pc := p } ∧ P f.fn f.pc p
def LR (P : Int → Int → Int → Prop) : List Sf → List Sf → Prop
  | [], [] => True
  | f :: l, f' :: l' => FR P f f' ∧ LR P l l'
  | _, _ => False
theorem LR.len {P : Int → Int → Int → Prop} : ∀ {l l' : List Sf}, LR P l l' → l'.length = l.length
  | [], [], _ => rfl
  | _ :: _, _ :: _, h => by simp [LR.len h.2]
  | [], _ :: _, h => h.elim
  | _ :: _, [], h => h.elim
structure SR (P : Int → Int → Int → Prop) (s s' : Sv) : Prop where
  l : LR P s.l s'.l
  eq : s' = { s with l := s'.l, steps := s'.steps }
section
variable {P : Int → Int → Int → Prop} {s s' : Sv}
theorem SR.status (h : SR P s s') : s'.status = s.status := by rw [h.eq]
theorem SR.data (h : SR P s s') : s'.data = s.data := by rw [h.eq]
theorem SR.serial (h : SR P s s') : s'.serial = s.serial := by rw [h.eq]
theorem SR.of {l l' : List Sf} {t : Sv} {k : Int} (h : LR P l l') : SR P { t with l := l } { t with l := l', steps := k } := ⟨h, rfl⟩
/-- Both changed alike, but for frames and steps. -/
theorem SR.alike (h : SR P s s') {t t' : Sv} (hl : LR P t.l t'.l) (he : t' = { t with l := t'.l, steps := t'.steps }) : SR P t t' := ⟨hl, he⟩
theorem SR.mark (h : SR P s s') (k a : Int) : SR P (s.mark k a) (s'.mark k a) := ⟨h.l, by rw [h.eq]; rfl⟩
theorem SR.stop (h : SR P s s') (k a : Int) : SR P (s.stop k a) (s'.stop k a) := ⟨h.l, by rw [h.eq]; rfl⟩
theorem SR.push (h : SR P s s') {f f' : Sf} (hf : FR P f f') : SR P (s.push f) (s'.push f') := by
  refine ⟨⟨hf, h.l⟩, ?_⟩
  have hn := h.l.len
  have e := h.eq
  unfold Sv.push
  rw [hn, e]
theorem LR.tail {l l' : List Sf} (h : LR P l l') : LR P l.tail l'.tail := by
  cases l with
  | nil => cases l' with
    | nil => exact h
    | cons _ _ => exact h.elim
  | cons f l => cases l' with
    | nil => exact h.elim
    | cons f' l' => exact h.2
theorem SR.pop (h : SR P s s') : SR P s.pop s'.pop := ⟨h.l.tail, by show { s' with l := s'.l.tail } = _; rw [h.eq]; rfl⟩
theorem SR.tops (h : SR P s s') {f : Sf} {r : List Sf} (hl : s.l = f :: r) : ∃ f' r', s'.l = f' :: r' ∧ FR P f f' ∧ LR P r r' := by
  have := h.l
  rw [hl] at this
  cases hl' : s'.l with
  | nil => rw [hl'] at this; exact this.elim
  | cons f' r' => rw [hl'] at this; exact ⟨f', r', rfl, this.1, this.2⟩
theorem SR.setTop (h : SR P s s') {f f' : Sf} {r r' : List Sf} (hl : s.l = f :: r) (hl' : s'.l = f' :: r') {g g' : Sf → Sf} (hg : FR P (g f) (g' f')) : SR P (s.setTop g) (s'.setTop g') := by
  have e1 : s.setTop g = { s with l := g f :: r } := by unfold Sv.setTop; rw [hl]
  have e2 : s'.setTop g' = { s' with l := g' f' :: r' } := by unfold Sv.setTop; rw [hl']
  have hL := h.l
  rw [hl, hl'] at hL
  rw [e1, e2]
  exact ⟨⟨hg, hL.2⟩, by show { s' with l := _ } = _; rw [h.eq]⟩
theorem FR.regs {f f' : Sf} (h : FR P f f') (rs : List Int) : FR P { f with regs := rs } { f' with regs := rs } := by
  obtain ⟨p, rfl, hp⟩ := h
  exact ⟨p, rfl, hp⟩
theorem SR.keep (h : SR P s s') {f f' : Sf} {r r' : List Sf} (hl : s.l = f :: r) (hl' : s'.l = f' :: r') (hf : FR P f f') : SR P s.keep s'.keep := by
  have t1 : s.top = f := by simp [Sv.top, hl]
  have t2 : s'.top = f' := by simp [Sv.top, hl']
  obtain ⟨p, rfl, hp⟩ := hf
  unfold Sv.keep
  rw [t1, t2]
  by_cases c : f.stage = 0
  · rw [if_pos c, if_pos (show ({ f with pc := p } : Sf).stage = 0 from c)]
    have hL := h.l
    rw [hl, hl'] at hL
    unfold Sv.set2
    rw [hl, hl']
    match r, r', hL with
    | [], [], hL => exact h
    | q :: r, q' :: r', hL =>
      refine ⟨⟨hL.1, hL.2.1.regs _, hL.2.2⟩, ?_⟩
      show { s' with l := _ } = _
      rw [h.eq]
  · rw [if_neg c, if_neg (show ¬ ({ f with pc := p } : Sf).stage = 0 from c)]
    exact h
theorem keep_top (s : Sv) : s.keep.top = s.top := by
  unfold Sv.keep
  split
  · unfold Sv.set2 Sv.top
    split
    · rename_i h; simp [h]
    · rfl
  · rfl
theorem keep_cons {f : Sf} {r : List Sf} (hl : s.l = f :: r) : ∃ r1, s.keep.l = f :: r1 := by
  unfold Sv.keep
  split
  · unfold Sv.set2
    split
    · rename_i f1 q1 r1 h
      rw [hl] at h
      cases h
      exact ⟨_, rfl⟩
    · exact ⟨r, hl⟩
  · exact ⟨r, hl⟩
variable (P0 : ∀ v, P v 0 0)
include P0
theorem SR.iterate (h : SR P s s') : SR P s.iterate s'.iterate := by
  cases hl : s.l with
  | nil =>
    have hl' : s'.l = [] := by
      have := h.l.len
      rw [hl] at this
      exact List.length_eq_zero_iff.1 this
    have t1 : s.top = s'.top := by simp [Sv.top, hl, hl']
    unfold Sv.iterate
    rw [← t1]
    have e1 : (s.setTop fun f => { f with index := IntKind.i64.wrap (f.index + 1) }) = s := by unfold Sv.setTop; rw [hl]
    have e2 : (s'.setTop fun f => { f with index := IntKind.i64.wrap (f.index + 1) }) = s' := by unfold Sv.setTop; rw [hl']
    rw [e1, e2]
    exact (h.mark _ _).push ⟨0, rfl, P0 _⟩
  | cons f r =>
    obtain ⟨f', r', hl', hf, hr⟩ := h.tops hl
    have t1 : s.top = f := by simp [Sv.top, hl]
    have t2 : s'.top = f' := by simp [Sv.top, hl']
    obtain ⟨p, rfl, hp⟩ := hf
    unfold Sv.iterate
    rw [t1, t2]
    exact ((h.setTop hl hl' ⟨p, rfl, hp⟩).mark _ _).push ⟨0, rfl, P0 _⟩
theorem SR.begins (h : SR P s s') {f f' : Sf} {r r' : List Sf} (hl : s.l = f :: r) (hl' : s'.l = f' :: r') (hf : FR P f f') (e : Ef) : SR P (s.begins e) (s'.begins e) := by
  have t1 : s.top = f := by simp [Sv.top, hl]
  have t2 : s'.top = f' := by simp [Sv.top, hl']
  obtain ⟨p, rfl, hp⟩ := hf
  unfold Sv.begins
  rw [t1, t2]
  split
  · exact SR.mark (s := { s with out := s.out ++ [e.v] }) (s' := { s' with out := s'.out ++ [e.v] }) ⟨h.l, by show { s' with out := s'.out ++ [e.v] } = _; rw [h.eq]⟩ _ _
  · split
    · exact ((h.setTop hl hl' ⟨p, rfl, hp⟩).mark _ _).push ⟨0, rfl, P0 _⟩
    · split
      · have es := h.serial
        rw [es]
        have h1 : SR P { s with serial := IntKind.i64.wrap (s.serial + 1) } { s' with serial := IntKind.i64.wrap (s.serial + 1) } := ⟨h.l, by show { s' with serial := _ } = _; rw [h.eq]⟩
        exact SR.iterate P0 ((h1.mark _ _).push ⟨0, rfl, P0 _⟩)
      · exact h
omit P0 in
theorem SR.goOn (h : SR P s s') {f f' : Sf} {r r' : List Sf} (hl : s.l = f :: r) (hl' : s'.l = f' :: r') (hf : FR P f f') {pc pc' : Int} (hp' : P f.fn pc pc') (e : Ef) : SR P (s.goOn pc e) (s'.goOn pc' e) := by
  have t1 : s.top = f := by simp [Sv.top, hl]
  have t2 : s'.top = f' := by simp [Sv.top, hl']
  have hk := h.keep hl hl' hf
  obtain ⟨r1, k1⟩ := keep_cons hl
  obtain ⟨r2, k2⟩ := keep_cons hl'
  obtain ⟨p, rfl, hp⟩ := hf
  unfold Sv.goOn
  rw [t1, t2]
  by_cases c1 : f.kind ≠ 2
  · rw [if_pos c1, if_pos (show ({ f with pc := p } : Sf).kind ≠ 2 from c1)]
    exact h.stop _ _
  · rw [if_neg c1, if_neg (show ¬ ({ f with pc := p } : Sf).kind ≠ 2 from c1)]
    by_cases c2 : goE f.stage e.v ≠ 0
    · rw [if_pos c2, if_pos (show goE ({ f with pc := p } : Sf).stage e.v ≠ 0 from c2)]
      exact h.stop _ _
    · rw [if_neg c2, if_neg (show ¬ goE ({ f with pc := p } : Sf).stage e.v ≠ 0 from c2)]
      exact (hk.setTop k1 k2 ⟨pc', rfl, hp'⟩).mark _ _
omit P0 in
theorem SR.leave (h : SR P s s') {f f' : Sf} {r r' : List Sf} (hl : s.l = f :: r) (hl' : s'.l = f' :: r') (hf : FR P f f') : SR P s.leave s'.leave := by
  have t1 : s.top = f := by simp [Sv.top, hl]
  have t2 : s'.top = f' := by simp [Sv.top, hl']
  have hk := h.keep hl hl' hf
  have hL := h.l
  rw [hl, hl'] at hL
  obtain ⟨p, rfl, hp⟩ := hf
  unfold Sv.leave
  rw [t1, t2]
  by_cases c1 : f.kind ≠ 2
  · rw [if_pos c1, if_pos (show ({ f with pc := p } : Sf).kind ≠ 2 from c1)]
    exact h.stop _ _
  · rw [if_neg c1, if_neg (show ¬ ({ f with pc := p } : Sf).kind ≠ 2 from c1)]
    by_cases c2 : f.stage ≠ 0
    · rw [if_pos c2, if_pos (show ({ f with pc := p } : Sf).stage ≠ 0 from c2)]
      exact h.stop _ _
    · rw [if_neg c2, if_neg (show ¬ ({ f with pc := p } : Sf).stage ≠ 0 from c2)]
      have hpp := hk.pop
      have hser : s'.keep.pop.top.serial = s.keep.pop.top.serial ∧ s'.keep.pop.top.regs = s.keep.pop.top.regs := by
        cases hq : s.keep.pop.l with
        | nil =>
          have hq' : s'.keep.pop.l = [] := by
            have := hpp.l.len
            rw [hq] at this
            exact List.length_eq_zero_iff.1 this
          simp [Sv.top, hq, hq']
        | cons q r1 =>
          obtain ⟨q', r1', hq', ⟨p1, e1, _⟩, _⟩ := hpp.tops hq
          simp [Sv.top, hq, hq', e1]
      rw [hser.1, hser.2]
      have h3 : SR P (((s.keep.mark 10 f.index).pop.pop).mark 8 (s.keep.pop.top.serial)) (((s'.keep.mark 10 ({ f with pc := p } : Sf).index).pop.pop).mark 8 (s.keep.pop.top.serial)) := (((hk.mark 10 f.index).pop).pop).mark _ _
      cases hq : (((s.keep.mark 10 f.index).pop.pop).mark 8 (s.keep.pop.top.serial)).l with
      | nil =>
        have hq' : (((s'.keep.mark 10 ({ f with pc := p } : Sf).index).pop.pop).mark 8 (s.keep.pop.top.serial)).l = [] := by
          have := h3.l.len
          rw [hq] at this
          exact List.length_eq_zero_iff.1 this
        unfold Sv.setTop
        rw [hq, hq']
        exact h3
      | cons q r1 =>
        obtain ⟨q', r1', hq', hqf, _⟩ := h3.tops hq
        exact h3.setTop hq hq' (hqf.regs _)
theorem SR.back (h : SR P s s') {f f' : Sf} {r r' : List Sf} (hl : s.l = f :: r) (hl' : s'.l = f' :: r') (hf : FR P f f') : SR P s.back s'.back := by
  have t1 : s.top = f := by simp [Sv.top, hl]
  have t2 : s'.top = f' := by simp [Sv.top, hl']
  have hk := h.keep hl hl' hf
  have hn := h.l.len
  obtain ⟨p, rfl, hp⟩ := hf
  unfold Sv.back
  rw [t1, t2, hn]
  by_cases c1 : f.kind = 2
  · rw [if_pos c1, if_pos (show ({ f with pc := p } : Sf).kind = 2 from c1)]
    exact SR.iterate P0 ((hk.mark _ _).pop)
  · rw [if_neg c1, if_neg (show ¬ ({ f with pc := p } : Sf).kind = 2 from c1)]
    split
    · exact h.stop _ _
    · exact (h.mark _ _).pop
omit P0 in
theorem SR.ask (h : SR P s s') {f f' : Sf} {r r' : List Sf} (hl : s.l = f :: r) (hl' : s'.l = f' :: r') (hf : FR P f f') {pc pc' : Int} (hp' : P f.fn pc pc') (rs : List Int) (e : Ef) : SR P (s.ask pc rs e) (s'.ask pc' rs e) := by
  obtain ⟨p, rfl, hp⟩ := hf
  unfold Sv.ask
  rw [h.data]
  split
  · have h1 : SR P { s with data := (askD s.data e).2.2 } { s' with data := (askD s.data e).2.2 } := ⟨h.l, by show { s' with data := _ } = _; rw [h.eq]⟩
    exact (h1.mark _ _).setTop (f := f) (f' := { f with pc := p }) hl hl' ⟨pc', rfl, hp'⟩
  · exact h.stop _ _
omit P0 in
theorem SR.meet (h : SR P s s') {f f' : Sf} {r r' : List Sf} (hl : s.l = f :: r) (hl' : s'.l = f' :: r') (hf : FR P f f') (e : Ef) :
    SR P (s.meet e) (s'.meet e) ∧ ∃ b r1 r1' p, (s.meet e).l = { f with dirty := b } :: r1 ∧ (s'.meet e).l = { f with dirty := b, pc := p } :: r1' ∧ P f.fn f.pc p := by
  have t1 : s.top = f := by simp [Sv.top, hl]
  have t2 : s'.top = f' := by simp [Sv.top, hl']
  obtain ⟨p, rfl, hp⟩ := hf
  unfold Sv.meet
  rw [t1, t2]
  by_cases c : (endsE e && f.dirty) = true
  · rw [if_pos c, if_pos (show (endsE e && ({ f with pc := p } : Sf).dirty) = true from c)]
    refine ⟨(h.setTop hl hl' ⟨p, rfl, hp⟩).mark _ _, false, r, r', p, ?_, ?_, hp⟩
    · simp [Sv.setTop, Sv.mark, hl]
    · simp [Sv.setTop, Sv.mark, hl']
  · rw [if_neg c, if_neg (show ¬ (endsE e && ({ f with pc := p } : Sf).dirty) = true from c)]
    exact ⟨h, f.dirty, r, r', p, hl, hl', hp⟩
end
/-- What an instruction answers, alike but for where it goes on. -/
structure Match (P : Int → Int → Int → Prop) (fn : Int) (a b : Int × List Int × Ef × Int) : Prop where
  regs : b.2.1 = a.2.1
  ef : b.2.2.1 = a.2.2.1
  fault : b.2.2.2 = a.2.2.2
  pc : a.2.2.2 = 0 → a.2.2.1.k ≠ 11 → a.2.2.1.k ≠ 12 → P fn a.1 b.1
theorem act_sr {P : Int → Int → Int → Prop} (P0 : ∀ v, P v 0 0) {s s' : Sv} (h : SR P s s') {f : Sf} {r r' : List Sf} {p : Int} (hl : s.l = f :: r) (hl' : s'.l = { f with pc := p } :: r') (hp : P f.fn f.pc p) {a b : Int × List Int × Ef × Int} (hm : Match P f.fn a b) :
    SR P (s.act a) (s'.act b) := by
  obtain ⟨a1, a2, a3, a4⟩ := a
  obtain ⟨b1, b2, b3, b4⟩ := b
  obtain ⟨e1, e2, e3, e4⟩ := hm
  simp only at e1 e2 e3 e4
  subst e1 e2 e3
  unfold Sv.act
  simp only
  have hf : FR P f { f with pc := p } := ⟨p, rfl, hp⟩
  by_cases c0 : b4 = 0
  · have c0' : ¬ b4 ≠ 0 := fun hh => hh c0
    rw [if_neg c0', if_neg c0']
    by_cases cA : 1 ≤ b3.k ∧ b3.k ≤ 4
    · rw [if_pos cA, if_pos cA]
      exact h.ask hl hl' hf (e4 c0 (by omega) (by omega)) _ _
    rw [if_neg cA, if_neg cA]
    by_cases c9 : b3.k = 9 ∨ b3.k = 10
    · rw [if_pos c9, if_pos c9]
      exact h.goOn hl hl' hf (e4 c0 (by omega) (by omega)) _
    rw [if_neg c9, if_neg c9]
    by_cases c11 : b3.k = 11
    · rw [if_pos c11, if_pos c11]
      exact h.leave hl hl' hf
    rw [if_neg c11, if_neg c11]
    by_cases c12 : b3.k = 12
    · rw [if_pos c12, if_pos c12]
      exact h.back P0 hl hl' hf
    rw [if_neg c12, if_neg c12]
    have h2 := h.setTop (g := fun f => { f with pc := a1, regs := b2 }) (g' := fun f => { f with pc := b1, regs := b2 }) hl hl' ⟨b1, rfl, e4 c0 c11 c12⟩
    exact h2.begins P0 (f := { f with pc := a1, regs := b2 }) (f' := { f with pc := b1, regs := b2 }) (r := r) (r' := r') (by simp [Sv.setTop, hl]) (by simp [Sv.setTop, hl']) ⟨b1, rfl, e4 c0 c11 c12⟩ _
  · rw [if_pos c0, if_pos c0]
    exact h.stop _ _
/-- What functions answer one another: silently, or alike. -/
def Sim (P : Int → Int → Int → Prop) (fs fs' : List (List Ix)) : Prop :=
  ∀ (f : Sf) (p : Int), SfOk fs f → P f.fn f.pc p →
    (∃ pc1, doF (insAt fs f) f.pc f.regs = (pc1, f.regs, ef0, 0) ∧ P f.fn pc1 p) ∨
    Match P f.fn (doF (insAt fs f) f.pc f.regs) (doF (insAt fs' { f with pc := p }) p f.regs)
theorem one_match {P : Int → Int → Int → Prop} (P0 : ∀ v, P v 0 0) {fs fs' : List (List Ix)} {s s' : Sv} (h : SR P s s') {f f' : Sf} {r : List Sf} (hl : s.l = f :: r) {r' : List Sf} {p : Int} (hl' : s'.l = { f with pc := p } :: r') (hp : P f.fn f.pc p)
    (hm : Match P f.fn (doF (insAt fs f) f.pc f.regs) (doF (insAt fs' { f with pc := p }) p f.regs)) : SR P (oneS fs s) (oneS fs' s') := by
  have t1 : s.top = f := by simp [Sv.top, hl]
  have t2 : s'.top = { f with pc := p } := by simp [Sv.top, hl']
  have d1 : doS fs s = doF (insAt fs f) f.pc f.regs := by unfold doS; rw [t1]
  have d2 : doS fs' s' = doF (insAt fs' { f with pc := p }) p f.regs := by unfold doS; rw [t2]
  unfold oneS
  rw [d1, d2]
  generalize doF (insAt fs f) f.pc f.regs = a at hm ⊢
  generalize doF (insAt fs' { f with pc := p }) p f.regs = b at hm ⊢
  have h0 : SR P { s with steps := IntKind.i64.wrap (s.steps + 1) } { s' with steps := IntKind.i64.wrap (s'.steps + 1) } := ⟨h.l, by show { s' with steps := _ } = _; rw [h.eq]⟩
  rw [hm.ef]
  obtain ⟨h1, bb, r1, r1', p1, k1, k2, hp1⟩ := h0.meet (f := f) (f' := { f with pc := p }) hl hl' ⟨p, rfl, hp⟩ a.2.2.1
  exact act_sr P0 h1 (f := { f with dirty := bb }) k1 k2 hp1 hm
theorem ends_ef0 : endsE ef0 = false := by unfold endsE ef0; simp
theorem one_silent {P : Int → Int → Int → Prop} {fs : List (List Ix)} {s s' : Sv} (h : SR P s s') {f : Sf} {r : List Sf} (hl : s.l = f :: r) {r' : List Sf} {p : Int} (hl' : s'.l = { f with pc := p } :: r')
    {pc1 : Int} (hd : doF (insAt fs f) f.pc f.regs = (pc1, f.regs, ef0, 0)) (hp : P f.fn pc1 p) : SR P (oneS fs s) s' ∧ (oneS fs s).status = s.status := by
  have t1 : s.top = f := by simp [Sv.top, hl]
  have d1 : doS fs s = (pc1, f.regs, ef0, 0) := by unfold doS; rw [t1, hd]
  have hone : oneS fs s = { s with steps := IntKind.i64.wrap (s.steps + 1), l := { f with pc := pc1 } :: r } := by
    unfold oneS
    rw [d1]
    have hmeet : ∀ t : Sv, t.meet ef0 = t := fun t => by unfold Sv.meet; rw [if_neg (by simp [ends_ef0])]
    simp only [hmeet]
    simp [Sv.act, ef0, Sv.begins, Sv.setTop, hl]
  rw [hone]
  have hL := h.l
  rw [hl, hl'] at hL
  refine ⟨⟨?_, ?_⟩, rfl⟩
  · rw [hl']
    exact ⟨⟨p, rfl, hp⟩, hL.2⟩
  · conv => lhs; rw [h.eq]
/-- Runs that end do so alike. -/
theorem run_sim {P : Int → Int → Int → Prop} (P0 : ∀ v, P v 0 0) {fs fs' : List (List Ix)} (hF : Fns fs) (hS : Sim P fs fs') {d : Nat} :
    ∀ (n k k' : Nat) (s s' : Sv), SR P s s' → Wf fs s → Lim k d s → Lim k' d s' → k' ≤ k → k + n ≤ 1000000 → s.status = 0 → (loopS fs n s).status ≠ 0 →
      SR P (loopS fs n s) (loopS fs' n s') ∧ (loopS fs' n s').steps ≤ (loopS fs n s).steps := by
  intro n
  induction n with
  | zero => intro k k' s s' _ _ _ _ _ _ h0 h1; exact absurd h0 h1
  | succ n ih =>
    intro k k' s s' h hW hL hL' hk hkn h0 h1
    obtain ⟨f, r, hl⟩ := hW.st.ne
    obtain ⟨f', r', hl', ⟨p, rfl, hp⟩, hr⟩ := h.tops hl
    have hfo := hW.ok f (by rw [hl]; simp)
    have hL1 := (one_lim (fs := fs) hL (by omega)).1
    rcases hS f p hfo hp with ⟨pc1, hd, hp1⟩ | hm
    · obtain ⟨h2, hst⟩ := one_silent h hl hl' hd hp1
      have hst0 : ¬ (oneS fs s).status ≠ 0 := by rw [hst]; simpa using h0
      have e1 : loopS fs (n + 1) s = loopS fs n (oneS fs s) := by simp only [loopS]; rw [if_neg hst0]
      rw [e1] at h1 ⊢
      obtain ⟨h3, h4⟩ := ih (k + 1) k' (oneS fs s) s' h2 (wf_one hF hW) hL1 hL' (by omega) (by omega) (by simpa using hst0) h1
      have e2 : loopS fs' (n + 1) s' = loopS fs' n s' := loop_stop n 1 s' (by rw [h.status]; exact h0) (by rw [h3.status]; exact h1)
      rw [e2]
      exact ⟨h3, h4⟩
    · have h2 := one_match P0 (f' := f) h hl hl' hp hm
      have hL2 := (one_lim (fs := fs') hL' (by omega)).1
      simp only [loopS] at h1 ⊢
      by_cases hst : (oneS fs s).status ≠ 0
      · rw [if_pos hst, if_pos (by rw [h2.status]; exact hst)]
        refine ⟨h2, ?_⟩
        rw [hL1.steps, hL2.steps]
        omega
      · rw [if_neg hst] at h1 ⊢
        rw [if_neg (by rw [h2.status]; exact hst)]
        exact ih (k + 1) (k' + 1) _ _ h2 (wf_one hF hW) hL1 hL2 (by omega) (by omega) (by simpa using hst) h1
/-- The same but for the steps, which are no more. -/
structure Same (a b : Sv) : Prop where
  marks : b.marks = a.marks
  out : b.out = a.out
  data : b.data = a.data
  status : b.status = a.status
  why : b.why = a.why
  frames : b.frames = a.frames
  deepest : b.deepest = a.deepest
  steps : b.steps ≤ a.steps
theorem Same.refl (a : Sv) : Same a a := ⟨rfl, rfl, rfl, rfl, rfl, rfl, rfl, Int.le_refl _⟩
theorem Same.trans {a b c : Sv} (h : Same a b) (k : Same b c) : Same a c :=
  ⟨k.marks.trans h.marks, k.out.trans h.out, k.data.trans h.data, k.status.trans h.status, k.why.trans h.why, k.frames.trans h.frames, k.deepest.trans h.deepest, Int.le_trans k.steps h.steps⟩
theorem fin_st (s : Sv) : (finS s).status = 6 ∨ finS s = s ∧ s.status ≠ 0 := by
  unfold finS
  split
  · exact .inl rfl
  · rename_i h; exact .inr ⟨rfl, h⟩
theorem runS_sim {P : Int → Int → Int → Prop} (P0 : ∀ v, P v 0 0) {fs fs' : List (List Ix)} (hF : Fns fs) (h0 : 0 < fs.length) (hS : Sim P fs fs') {m : Int} {inp : List Int} (hi : (inp.length : Int) ≤ m) (n : Nat) (hn : n ≤ 1000000)
    (h : (runS m fs inp n).status ≠ 6) : Same (runS m fs inp n) (runS m fs' inp n) := by
  unfold runS at h ⊢
  rcases fin_st (loopS fs n (initS m inp)) with h1 | ⟨h1, h2⟩
  · exact absurd h1 h
  rw [h1]
  have hSR : SR P (initS m inp) (initS m inp) := ⟨⟨⟨0, rfl, P0 _⟩, trivial⟩, rfl⟩
  obtain ⟨h3, h4⟩ := run_sim P0 hF hS n 0 0 _ _ hSR (init_wf hF h0 m inp) (init_lim m inp hi) (init_lim m inp hi) (Nat.le_refl _) (by omega) rfl h2
  have h5 : finS (loopS fs' n (initS m inp)) = loopS fs' n (initS m inp) := by unfold finS; rw [if_neg (by rw [h3.status]; exact h2)]
  rw [h5]
  have e := h3.eq
  exact ⟨by rw [e], by rw [e], by rw [e], by rw [e], by rw [e], by rw [e], by rw [e], h4⟩
end Go.Proofs.Ytncdnegdlkmicaa
/- TidySame: what is tidied does the same: plain. -/
namespace Go.Proofs.Ytncdnegdlkmicaa
set_option linter.unusedVariables false
set_option linter.unusedSimpArgs false
open Go Go.Kx Go.Proofs

/-! ### Instructions whose targets were turned -/
theorem map_none (f : Nat → Nat) {x : Ix} (h1 : x.op ≠ 18) (h2 : x.op ≠ 19) : mapX f x = x := by
  unfold mapX
  have : tgtX x = none := by unfold tgtX; rw [if_neg h1, if_neg h2]
  rw [this]
theorem map_18 (f : Nat → Nat) {x : Ix} (h : x.op = 18) : mapX f x = { x with a := (f x.a.toNat : Nat) } := by
  unfold mapX
  rw [tgt_jump h]
  simp only
  unfold wthX
  rw [if_pos h]
theorem map_19 (f : Nat → Nat) {x : Ix} (h : x.op = 19) : mapX f x = { x with b := (f x.b.toNat : Nat) } := by
  unfold mapX
  have : tgtX x = some x.b := by unfold tgtX; rw [if_neg (by omega), if_pos h]
  rw [this]
  simp only
  unfold wthX
  rw [if_neg (by omega), if_pos h]
theorem of_1819 {x : Ix} (h : x.op = 18 ∨ x.op = 19) (rs : List Int) : ofE x rs = ef0 := by
  unfold ofE
  simp only
  rcases h with h | h <;> simp [h]
theorem do_18 {x : Ix} (h : x.op = 18) (pc : Int) (rs : List Int) : doF x pc rs = (x.a, rs, ef0, 0) := by
  unfold doF
  have : knownB x.op = false := by unfold knownB; rw [h]; decide
  rw [if_neg (by omega), if_neg (by omega), if_neg (by simp [this]), if_pos h, of_1819 (.inl h)]
theorem do_19 {x : Ix} (h : x.op = 19) (pc : Int) (rs : List Int) : doF x pc rs = (if rg rs x.a = 0 then x.b else IntKind.i64.wrap (pc + 1), rs, ef0, 0) := by
  unfold doF
  have : knownB x.op = false := by unfold knownB; rw [h]; decide
  rw [if_neg (by omega), if_neg (by omega), if_neg (by simp [this]), if_neg (by omega), of_1819 (.inr h)]
  by_cases c : rg rs x.a = 0
  · rw [if_pos ⟨h, c⟩, if_pos c]
  · rw [if_neg fun hh => c hh.2, if_neg c]
/-- An instruction that is no jump goes on to the next place, wherever it stands. -/
theorem do_other {x : Ix} (h1 : x.op ≠ 18) (h2 : x.op ≠ 19) (pc p : Int) (rs : List Int) : (doF x p rs).2 = (doF x pc rs).2 ∧ ((doF x pc rs).2.2.2 = 0 → (doF x pc rs).1 = IntKind.i64.wrap (pc + 1) ∧ (doF x p rs).1 = IntKind.i64.wrap (p + 1)) ∧ ((doF x pc rs).2.2.1 = ofE x rs ∨ (doF x pc rs).2.2.2 ≠ 0) := by
  unfold doF
  by_cases c1 : x.op = 1
  · rw [if_pos c1, if_pos c1]; exact ⟨rfl, fun _ => ⟨rfl, rfl⟩, .inl rfl⟩
  rw [if_neg c1, if_neg c1]
  by_cases c2 : x.op = 2
  · rw [if_pos c2, if_pos c2]; exact ⟨rfl, fun _ => ⟨rfl, rfl⟩, .inl rfl⟩
  rw [if_neg c2, if_neg c2]
  by_cases c3 : knownB x.op = true
  · rw [if_pos c3, if_pos c3]
    by_cases c4 : (wrapD x.op (rg rs x.b) (rg rs x.c)).2 ≠ 0
    · rw [if_pos c4, if_pos c4]; exact ⟨rfl, fun h => absurd h c4, .inr c4⟩
    · rw [if_neg c4, if_neg c4]; exact ⟨rfl, fun _ => ⟨rfl, rfl⟩, .inl rfl⟩
  have c5 : ¬ (x.op = 19 ∧ rg rs x.a = 0) := fun h => h2 h.1
  rw [if_neg c3, if_neg h1, if_neg c5, if_neg c3, if_neg h1, if_neg c5]
  exact ⟨rfl, fun _ => ⟨rfl, rfl⟩, .inl rfl⟩
theorem ins_at {fs : List (List Ix)} {f : Sf} {l : List Ix} (h : fs[f.fn.toNat]? = some l) {x : Ix} (hx : l[f.pc.toNat]? = some x) : insAt fs f = x := by
  unfold insAt
  rw [show fs.getD f.fn.toNat [] = l by rw [List.getD_eq_getElem?_getD, h]; rfl, List.getD_eq_getElem?_getD, hx]
  rfl
/-! ### Targets led on -/
def Pled (fs : List (List Ix)) (fn pc p : Int) : Prop := 0 ≤ pc ∧ 0 ≤ p ∧ ∃ k, runN (fs.getD fn.toNat []) k pc.toNat = p.toNat
theorem lead_run (l : List Ix) (t : Nat) : ∃ k, runN l k t = leadF l t := by
  unfold leadF
  split
  · exact ⟨l.length, rfl⟩
  · exact ⟨0, rfl⟩
theorem run_first (l : List Ix) (k t : Nat) : runN l (k + 1) t = runN l k (nxt l t) := run_add l k 1 t
theorem led_sim {fs : List (List Ix)} (hF : Fns fs) : Sim (Pled fs) fs (fs.map ledL) := by
  intro f p hf hp
  obtain ⟨l, h1, h2, h3, h4⟩ := hf.at_
  have hfo := hF.fo l (List.mem_of_getElem? h1)
  have h200 := hfo.le
  obtain ⟨x, hx⟩ := at_lt (l := l) (k := f.pc.toNat) (by omega)
  have hl : fs.getD f.fn.toNat [] = l := by rw [List.getD_eq_getElem?_getD, h1]; rfl
  have hins := ins_at h1 hx
  rw [hins]
  obtain ⟨p0, p1, k, hk⟩ := hp
  rw [hl] at hk
  have hdo := do_ok hF (List.mem_of_getElem? h1) h3 hx hf.regs
  have hsame : p = f.pc → Match (Pled fs) f.fn (doF x f.pc f.regs) (doF (insAt (fs.map ledL) { f with pc := p }) p f.regs) := by
    intro e
    subst e
    have hi2 : insAt (fs.map ledL) f = mapX (leadF l) x := ins_at (l := ledL l) (by rw [List.getElem?_map, h1]; rfl) (led_at hx)
    have hi3 : insAt (fs.map ledL) { f with pc := f.pc } = mapX (leadF l) x := hi2
    rw [hi3]
    have P0 : ∀ q : Int, 0 ≤ q → Pled fs f.fn q q := fun q h => ⟨h, h, 0, rfl⟩
    by_cases c18 : x.op = 18
    · have e := map_18 (leadF l) c18
      have e' : (mapX (leadF l) x).op = 18 := by rw [map_op]; exact c18
      rw [do_18 c18, do_18 e']
      refine ⟨rfl, rfl, rfl, fun _ _ _ => ?_⟩
      have ht := hfo.rt.tg _ x _ hx (tgt_jump c18)
      rw [e]
      obtain ⟨j, hj⟩ := lead_run l x.a.toNat
      exact ⟨ht.1, by show (0 : Int) ≤ (leadF l x.a.toNat : Nat); omega, j, by rw [hl, hj]; show _ = ((leadF l x.a.toNat : Nat) : Int).toNat; omega⟩
    by_cases c19 : x.op = 19
    · have e := map_19 (leadF l) c19
      have e' : (mapX (leadF l) x).op = 19 := by rw [map_op]; exact c19
      rw [do_19 c19] at hdo
      rw [do_19 c19, do_19 e']
      refine ⟨rfl, rfl, rfl, fun _ _ _ => ?_⟩
      have ht := hfo.rt.tg _ x x.b hx (by unfold tgtX; rw [if_neg (by omega), if_pos c19])
      rw [e]
      show Pled fs f.fn (if rg f.regs x.a = 0 then x.b else _) (if rg f.regs x.a = 0 then ((leadF l x.b.toNat : Nat) : Int) else _)
      by_cases c : rg f.regs x.a = 0
      · rw [if_pos c, if_pos c]
        obtain ⟨j, hj⟩ := lead_run l x.b.toNat
        exact ⟨ht.1, by omega, j, by rw [hl, hj]; omega⟩
      · rw [if_neg c, if_neg c]
        exact P0 _ (by rw [w64_id (by omega) (by omega)]; omega)
    · rw [map_none _ c18 c19]
      exact ⟨rfl, rfl, rfl, fun a b c => P0 _ (hdo.2.1 a b c).1⟩
  by_cases hn : nxt l f.pc.toNat = f.pc.toNat
  · rw [run_fix hn] at hk
    exact .inr (hsame (by omega))
  · cases k with
    | zero => exact .inr (hsame (by have : f.pc.toNat = p.toNat := hk; omega))
    | succ k =>
      have c18 : x.op = 18 := by
        by_cases c : x.op = 18
        · exact c
        · exact absurd (nxt_other hx c) hn
      rw [run_first, nxt_jump hx c18] at hk
      have ht := hfo.rt.tg _ x _ hx (tgt_jump c18)
      exact .inl ⟨x.a, do_18 c18 _ _, ht.1, p1, k, by rw [hl]; exact hk⟩
/-! ### What does nothing, or is not reached, left out -/
theorem kN_get {m : List Ix} {i : Nat} {x : Ix} (hx : m[i]? = some x) (hk : kp m i = true) : ∀ n, i < n → n ≤ m.length → (kN m n)[cnt m i]? = some x := by
  intro n
  induction n with
  | zero => intro h; omega
  | succ n ih =>
    intro h hn
    obtain ⟨y, hy⟩ := at_lt (l := m) (k := n) (by omega)
    rw [kN_succ hy]
    by_cases e : i = n
    · subst e
      rw [hx] at hy
      cases hy
      rw [if_pos hk, List.getElem?_append_right (by unfold cnt; omega)]
      simp [cnt]
    · have := ih (by omega) (by omega)
      rw [List.getElem?_append_left (lt_at this)]
      exact this
theorem rndM_get {m : List Ix} {i : Nat} {x : Ix} (hx : m[i]? = some x) (hk : kp m i = true) : (rndM m)[cnt m i]? = some (mapX (cnt m) x) := by
  unfold rndM
  rw [List.getElem?_map, kN_get hx hk _ (lt_at hx) (Nat.le_refl _)]
  rfl
def Prnd (fs : List (List Ix)) (fn pc p : Int) : Prop := 0 ≤ pc ∧ Rc (fs.getD fn.toNat []) pc.toNat ∧ p = (cnt (fs.getD fn.toNat []) pc.toNat : Nat)
theorem set_getD {rs : List Int} (k : Nat) : rs.set k (rs.getD k 0) = rs := by
  by_cases h : k < rs.length
  · rw [List.getD_eq_getElem?_getD, List.getElem?_eq_getElem h]
    simp
  · rw [List.set_eq_of_length_le (by omega)]
theorem rnd_sim {fs : List (List Ix)} (hF : Fns fs) : Sim (Prnd fs) fs (fs.map rndM) := by
  intro f p hf hp
  obtain ⟨l, h1, h2, h3, h4⟩ := hf.at_
  have hfo := hF.fo l (List.mem_of_getElem? h1)
  have h200 := hfo.le
  obtain ⟨x, hx⟩ := at_lt (l := l) (k := f.pc.toNat) (by omega)
  have hl : fs.getD f.fn.toNat [] = l := by rw [List.getD_eq_getElem?_getD, h1]; rfl
  rw [ins_at h1 hx]
  obtain ⟨p0, hr, hpc⟩ := hp
  rw [hl] at hr hpc
  have hw : IntKind.i64.wrap (f.pc + 1) = f.pc + 1 := w64_id (by omega) (by omega)
  have hcl := cnt_le l f.pc.toNat
  have hwp : IntKind.i64.wrap (p + 1) = p + 1 := w64_id (by omega) (by omega)
  have hcs := cnt_succ hx
  have mk : ∀ q : Int, 0 ≤ q → Rc l q.toNat → Prnd fs f.fn q (cnt l q.toNat : Nat) := fun q a b => ⟨a, by rw [hl]; exact b, by rw [hl]⟩
  have e1 : (f.pc + 1).toNat = f.pc.toNat + 1 := by omega
  have hdo := do_ok hF (List.mem_of_getElem? h1) h3 hx hf.regs
  cases hk : kp l f.pc.toNat with
  | true =>
    right
    rw [if_pos hk] at hcs
    have hi2 : insAt (fs.map rndM) { f with pc := p } = mapX (cnt l) x := ins_at (f := { f with pc := p }) (l := rndM l) (by show (fs.map rndM)[f.fn.toNat]? = _; rw [List.getElem?_map, h1]; rfl) (by show (rndM l)[p.toNat]? = _; rw [hpc, Int.toNat_natCast]; exact rndM_get hx hk)
    rw [hi2]
    by_cases c18 : x.op = 18
    · have e := map_18 (cnt l) c18
      have e' : (mapX (cnt l) x).op = 18 := by rw [map_op]; exact c18
      rw [do_18 c18, do_18 e']
      refine ⟨rfl, rfl, rfl, fun _ _ _ => ?_⟩
      have ht := hfo.rt.tg _ x _ hx (tgt_jump c18)
      rw [e]
      exact mk _ ht.1 (hr.tgt hx (tgt_jump c18))
    by_cases c19 : x.op = 19
    · have e := map_19 (cnt l) c19
      have e' : (mapX (cnt l) x).op = 19 := by rw [map_op]; exact c19
      have htg : tgtX x = some x.b := by unfold tgtX; rw [if_neg c18, if_pos c19]
      rw [do_19 c19, do_19 e']
      refine ⟨rfl, rfl, rfl, fun _ _ _ => ?_⟩
      have ht := hfo.rt.tg _ x x.b hx htg
      rw [e]
      show Prnd fs f.fn (if rg f.regs x.a = 0 then x.b else _) (if rg f.regs x.a = 0 then ((cnt l x.b.toNat : Nat) : Int) else _)
      by_cases c : rg f.regs x.a = 0
      · rw [if_pos c, if_pos c]
        exact mk _ ht.1 (hr.tgt hx htg)
      · rw [if_neg c, if_neg c, hw, hwp]
        have := mk (f.pc + 1) (by omega) (by rw [e1]; exact hr.next hx (by unfold endsX; simp [c19]))
        rw [e1, hcs] at this
        rw [show p + 1 = ((cnt l f.pc.toNat + 1 : Nat) : Int) by omega]
        exact this
    · rw [map_none _ c18 c19]
      obtain ⟨d1, d2, d5⟩ := do_other c18 c19 f.pc p f.regs
      refine ⟨by rw [d1], by rw [d1], by rw [d1], fun a b c => ?_⟩
      obtain ⟨d3, d4⟩ := d2 a
      rw [d3, d4, hw, hwp]
      have hne : endsX x = false := by
        unfold endsX
        simp only [decide_eq_false_iff_not]
        have hE := d5
        rcases hE with hE | hE
        · rw [hE] at b c
          obtain ⟨_, _, _, _, b25, b0⟩ := ofE_k x f.regs
          rintro (hh | hh | hh)
          · exact c (b0 hh)
          · exact c18 hh
          · exact b (b25 hh)
        · exact absurd a hE
      have := mk (f.pc + 1) (by omega) (by rw [e1]; exact hr.next hx hne)
      rw [e1, hcs] at this
      rw [show p + 1 = ((cnt l f.pc.toNat + 1 : Nat) : Int) by omega]
      exact this
  | false =>
    left
    rw [hk] at hcs
    have hu : usL l f.pc.toNat = true := by
      cases hu : usL l f.pc.toNat with
      | true => rfl
      | false => rw [kp_of hfo.rt hr hu] at hk; cases hk
    unfold usL at hu
    rw [hx] at hu
    simp only at hu
    unfold usX at hu
    have fin : Rc l (f.pc.toNat + 1) → Prnd fs f.fn (f.pc + 1) p := fun hR => by
      have := mk (f.pc + 1) (by omega) (by rw [e1]; exact hR)
      rw [e1, hcs] at this
      rw [hpc]
      simpa using this
    by_cases c2 : x.op = 2
    · rw [if_pos c2] at hu
      have hab : x.a = x.b := by simpa using hu
      refine ⟨f.pc + 1, ?_, fin (hr.next hx (by unfold endsX; simp [c2]))⟩
      unfold doF
      rw [if_neg (by omega), if_pos c2, hw]
      have h5 : setR f.regs x.a (rg f.regs x.b) = f.regs := by rw [← hab]; exact set_getD _
      have h6 : ofE x f.regs = ef0 := by unfold ofE; simp [c2]
      rw [h5, h6]
    rw [if_neg c2] at hu
    cases ht : tgtX x with
    | none => rw [ht] at hu; cases hu
    | some t =>
      rw [ht] at hu
      have hte : t = f.pc + 1 := by simp only [decide_eq_true_eq] at hu; omega
      have hR := hr.tgt hx ht
      rw [hte, e1] at hR
      have hop : x.op = 18 ∧ t = x.a ∨ x.op = 19 ∧ t = x.b := by
        unfold tgtX at ht
        by_cases c18 : x.op = 18
        · rw [if_pos c18] at ht; exact .inl ⟨c18, by simpa using ht.symm⟩
        · rw [if_neg c18] at ht
          by_cases c19 : x.op = 19
          · rw [if_pos c19] at ht; exact .inr ⟨c19, by simpa using ht.symm⟩
          · rw [if_neg c19] at ht; cases ht
      refine ⟨f.pc + 1, ?_, fin hR⟩
      rcases hop with ⟨c18, e⟩ | ⟨c19, e⟩
      · rw [do_18 c18, ← e, hte]
      · rw [do_19 c19, ← e, hte, hw]
        simp
/-! ### Rounds, till nothing changes -/
theorem fns_map {fs : List (List Ix)} (hF : Fns fs) {g : List Ix → List Ix} (h : ∀ l, Fo l fs.length → Fo (g l) fs.length) : Fns (fs.map g) := by
  refine ⟨fun l hl => ?_, by rw [List.length_map]; exact hF.le⟩
  obtain ⟨y, hy, rfl⟩ := List.mem_map.1 hl
  rw [List.length_map]
  exact h y (hF.fo y hy)
theorem round_same {fs : List (List Ix)} (hF : Fns fs) (h0 : 0 < fs.length) {m : Int} {inp : List Int} (hi : (inp.length : Int) ≤ m) (n : Nat) (hn : n ≤ 1000000) (h : (runS m fs inp n).status ≠ 6) :
    Same (runS m fs inp n) (runS m (fs.map rnd) inp n) := by
  have hF2 : Fns (fs.map ledL) := fns_map hF fun l hl => led_fo hl
  have s1 := runS_sim (P := Pled fs) (fun v => ⟨Int.le_refl 0, Int.le_refl 0, 0, rfl⟩) hF h0 (led_sim hF) hi n hn h
  have s2 := runS_sim (P := Prnd (fs.map ledL)) (fun v => ⟨Int.le_refl 0, .zero, rfl⟩) hF2 (by simpa using h0) (rnd_sim hF2) hi n hn (by rw [s1.status]; exact h)
  have e : (fs.map ledL).map rndM = fs.map rnd := by rw [List.map_map]; rfl
  rw [e] at s2
  exact s1.trans s2
def rndK : Nat → List Ix → List Ix
  | 0, l => l
  | n + 1, l => rndK n (rnd l)
theorem rndK_done {l : List Ix} (h : rnd l = l) : ∀ n, rndK n l = l
  | 0 => rfl
  | n + 1 => by simp only [rndK]; rw [h]; exact rndK_done h n
theorem fixN_K : ∀ (n : Nat) (l : List Ix), fixN n l = rndK n l
  | 0, _ => rfl
  | n + 1, l => by
    by_cases h : rnd l = l
    · rw [fixN_done h, rndK_done h]
    · rw [fixN_step h]; simp only [rndK]; exact fixN_K n _
theorem rndK_add : ∀ (a b : Nat) (l : List Ix), rndK (a + b) l = rndK b (rndK a l)
  | 0, b, l => by rw [Nat.zero_add]; rfl
  | a + 1, b, l => by rw [Nat.succ_add]; simp only [rndK]; exact rndK_add a b _
theorem fix_K {l : List Ix} (h : Rt l) {n : Nat} (hn : l.length + 1 ≤ n) : rndK n l = fixR l := by
  obtain ⟨d, rfl⟩ : ∃ d, n = (l.length + 1) + d := ⟨n - (l.length + 1), by omega⟩
  have h1 := (fixR_spec h).1
  rw [rndK_add, ← fixN_K (l.length + 1)]
  exact rndK_done h1 d
theorem rounds_same : ∀ (k : Nat) {fs : List (List Ix)}, Fns fs → 0 < fs.length → ∀ {m : Int} {inp : List Int}, (inp.length : Int) ≤ m → ∀ (n : Nat), n ≤ 1000000 → (runS m fs inp n).status ≠ 6 →
    Same (runS m fs inp n) (runS m (fs.map (rndK k)) inp n) ∧ Fns (fs.map (rndK k)) := by
  intro k
  induction k with
  | zero =>
    intro fs hF h0 m inp hi n hn h
    have : fs.map (rndK 0) = fs := by rw [show rndK 0 = id from rfl]; simp
    rw [this]
    exact ⟨.refl _, hF⟩
  | succ k ih =>
    intro fs hF h0 m inp hi n hn h
    have s1 := round_same hF h0 hi n hn h
    have hF1 : Fns (fs.map rnd) := fns_map hF fun l hl => rnd_fo hl
    obtain ⟨s2, hF2⟩ := ih hF1 (by simpa using h0) hi n hn (by rw [s1.status]; exact h)
    have e : (fs.map rnd).map (rndK k) = fs.map (rndK (k + 1)) := by rw [List.map_map]; rfl
    rw [e] at s2 hF2
    exact ⟨s1.trans s2, hF2⟩
theorem tidy_same {fs : List (List Ix)} (hF : Fns fs) (h0 : 0 < fs.length) {m : Int} {inp : List Int} (hi : (inp.length : Int) ≤ m) (n : Nat) (hn : n ≤ 1000000) (h : (runS m fs inp n).status ≠ 6) :
    Same (runS m fs inp n) (runS m (fs.map fixR) inp n) := by
  have e : fs.map fixR = fs.map (rndK 201) := List.map_congr_left fun l hl => (fix_K (hF.fo l hl).rt (by have := (hF.fo l hl).le; omega)).symm
  rw [e]
  exact (rounds_same 201 hF h0 hi n hn h).1
end Go.Proofs.Ytncdnegdlkmicaa
