import Derived.Test.YtkfmphlnpmemdaaQMaH
set_option linter.unusedVariables false
namespace Go.Proofs.Ytkfmphlnpmemdaa.Sx
open Go Go.Conc Go.ConcN
open Go.ConcR (KK wgBlock WgAt stA smA)
section
variable {σ : Gh} {w w' : World} {t u : Trace} {i j : Nat} {p : Ph}
def Gh.took (σ : Gh) (p : Ph) (i : Nat) : Gh := { σ with ph := some { p with q := p.q + 1, tk := setF p.tk p.q (some i) } }
theorem Ok.recv (h : Ok σ w t) (hi : i < σ.n) (hp : σ.ph = some p) (h7 : σ.st i = 7) (hf : p.c.f0 ≤ i) (hq : p.q < p.c.N) (hw : But p.c.Ch w w') (hc : ∃ s tm, w'.heap[p.c.Ch]? = some (.chan p.c.N (queue (p.q + 1) p.c.N) true s (p.q + 1) tm))
    (hu : ∀ op ∈ u, op.g = i ∧ op.act.touch? = none ∧ ∀ m, op.act ≠ .mark m) : Ok (σ.took p i) w' (t ++ u) := by
  have q := h.phs p hp
  have h0 : i ≠ 0 := fun e => by have := q.f1; omega
  have hne : ∀ b, σ.kd b ≠ .chan → w'.heap[b]? = w.heap[b]? := fun b hb => hw.block b fun e => hb (by rw [e]; exact q.kch)
  have tkq : p.tk p.q = none := by
    cases e : p.tk p.q with
    | none => rfl
    | some g => have := (q.stk _ _ e).1; omega
  have tr1 : TR (deal (σ.took p i)) σ.n t := by
    refine h.tr.deal (fun l hl => .inl (by cases l <;> exact hl)) (fun g l hl => ?_) (fun g l hl => ?_) (fun l p (hl : False) => hl.elim) (Nat.le_refl _)
    · cases l with
      | cell a =>
        rcases hl with hl | hl | ⟨hl, p', e, hk⟩
        · exact h.tr.own (.inl hl)
        · exact h.tr.own (.inr (.inl hl))
        · cases e
          have hk : setF p.tk p.q (some i) ((a.off - p.c.β.o) / 6) = some g := hk
          by_cases e : (a.off - p.c.β.o) / 6 = p.q
          · rw [e, setF_same] at hk; cases hk
            exact q.frs a hl (by rw [e]; exact tkq) i (.inr ⟨hf, hi⟩)
          · rw [setF_ne e] at hk
            exact h.tr.own (.inr (.inr ⟨hl, p, hp, hk⟩))
      | obj r => exact h.tr.own (l := .obj r) hl
      | _ => exact hl.elim
    · cases l with
      | cell a =>
        rcases hl with hl | ⟨hl, h0 | ⟨p', e, hk⟩⟩
        · exact h.tr.ro (.inl hl)
        · exact h.tr.ro (.inr ⟨hl, .inl h0⟩)
        · cases e; exact h.tr.ro (.inr ⟨hl, .inr ⟨p, hp, hk⟩⟩)
      | _ => exact hl.elim
  have tr2 := tr1.app (deal_fair _) (g := i) hi (u := u) fun op hop => ⟨(hu op hop).1, fun x hx => by rw [(hu op hop).2.1] at hx; cases hx⟩
  refine ⟨h.n1, tr2, fun j a ha hm => ?_, fun b hb => h.kdl b (by rw [← hw.size]; exact hb), fun j => ?_, fun a => (h.nrel a).app fun op hop => (hu op hop).2.2 _, fun g h1 hg he => h.st1 g h1 hg fun p' e => ?_, ?_, fun p' hp' => ?_, h.kon, fun e => by cases e⟩
  · rw [hw.size]
    rcases touch_app ha with ⟨_, h1⟩ | ⟨_, op, hop, _, hx⟩
    · exact h.low j a h1 hm
    · rw [(hu op hop).2.1] at hx; cases hx
  · rw [Deaf_quiet t j fun op hop m hm => absurd hm ((hu op hop).2.2 m)]; exact h.deaf j
  · rw [hp] at e; cases e; exact (elder_some (σ := σ.took p i) rfl).1 he
  · have H := hand_app (t := t) (u := u) (K := fun b => σ.kd b = .free) (E := σ.elder) h.hand fun op x hop _ _ hx => by rw [(hu op hop).2.1] at hx; cases hx
    exact fun j g x hg h0 he hx => H j g x hg h0 (fun p' e => by rw [hp] at e; cases e; exact (elder_some (σ := σ.took p i) rfl).1 he) hx
  · cases hp'
    refine ⟨q.f1, q.fn, q.fm, q.kwg, q.kch, q.kpay, q.kpaN, q.s7, fun g a b c => ?_, fun a ha htk g hg => ?_, fun k g hk => ?_, fun k hk => ?_, hq, fun g a b c => ?_, hc, fun b hb => ?_, ?_, q.don, ?_⟩
    · obtain ⟨r, hr⟩ := q.rel g a b c
      refine ⟨r, hr.other fun op hop e => ?_⟩
      have c' : σ.st g ≤ 6 := c
      rw [← e, (hu op hop).1, h7] at c'; omega
    · have htk : setF p.tk p.q (some i) ((a.off - p.c.β.o) / 6) = none := htk
      refine (q.frs a ha ?_ g hg).app fun op hop b hb e => by rw [(hu op hop).2.1] at hb; cases hb
      by_cases e : (a.off - p.c.β.o) / 6 = p.q
      · rw [e]; exact tkq
      · rw [setF_ne e] at htk; exact htk
    · have hk : setF p.tk p.q (some i) k = some g := hk
      show k < p.q + 1 ∧ _
      by_cases e : k = p.q
      · subst e; rw [setF_same] at hk; cases hk; exact ⟨by omega, hf, hi⟩
      · rw [setF_ne e] at hk
        have := q.stk k g hk
        exact ⟨by omega, this.2⟩
    · have hk : k < p.q + 1 := hk
      show ∃ g, setF p.tk p.q (some i) k = some g
      by_cases e : k = p.q
      · subst e; exact ⟨i, setF_same⟩
      · rw [setF_ne e]; exact q.tkd k (by omega)
    · have := (q.rdy g a b c).1
      omega
    · exact (hne b (by rw [show σ.kd b = .lent from hb]; simp)).trans (q.lnt b hb)
    · refine q.row.mono (fun b hb => hb) (fun b hb => hne b ?_) fun h0 => hne _ (by rw [q.kpaN h0]; simp)
      rcases hb with hb | ⟨g, hb⟩ | hb <;> rw [show σ.kd b = _ from hb] <;> simp
    · obtain ⟨st, sm, h1, h2⟩ := q.mode
      have hk := (q.kwg p.c.Wg).2 rfl
      exact ⟨st, sm, WgAt.of_block h1 (hne _ (by rw [hk]; simp)), h2⟩
theorem EnvP.recv (h : Ok σ w t) (hj : j ≠ i) (hp : σ.ph = some p) (hw : But p.c.Ch w w') : EnvP j (σ, w) (σ.took p i, w') := by
  have q := h.phs p hp
  have hX : ∀ g b, σ.im g b ∨ σ.own g b → b ≠ p.c.Ch := fun g b hb e => by
    have hk := q.kch
    rw [← e] at hk
    rcases hb with (hb | ⟨_, hb | hb⟩) | hb
    · rw [hk] at hb; cases hb
    · rw [hk] at hb; cases hb
    · rw [hk] at hb; cases hb
    · rw [show σ.kd b = .own g from hb] at hk; cases hk
  have tkq : p.tk p.q = none := by
    cases e : p.tk p.q with
    | none => rfl
    | some g => have := (q.stk _ _ e).1; omega
  cases j with
  | zero => exact ⟨rfl, rfl, fun _ => .rfl, fun _ h => h, fun e => (by rw [hp] at e; cases e), fun p' e => (by rw [hp] at e; cases e; exact ⟨_, rfl, rfl, rfl⟩), fun _ _ _ _ _ => Nat.le_refl _, hw.rely (hX 0), fun _ h => h, fun b _ hf => ⟨hw.block b fun e => (by have hk := q.kch; rw [← e, show σ.kd b = .free from hf] at hk; cases hk), hf⟩, fun _ h => h⟩
  | succ j =>
    refine ⟨rfl, rfl, fun _ => ⟨fun p' e => ?_, fun _ => .rfl, fun _ h => h, fun _ h => h, fun _ h => h, hw.rely (hX _)⟩, Nat.le_refl _⟩
    rw [hp] at e; cases e
    refine ⟨_, rfl, rfl, Nat.le_succ _, fun k => ?_, fun _ _ => .rfl⟩
    show setF p.tk p.q (some i) k = some (j + 1) ↔ _
    by_cases e : k = p.q
    · subst e
      rw [setF_same, tkq]
      exact ⟨fun h => by cases h; exact absurd rfl hj, fun h => by cases h⟩
    · rw [setF_ne e]
open Classical in
noncomputable def Gh.laid (σ : Gh) (p : Ph) (i k : Nat) (d : Nat → D) : Gh :=
  { σ with kd := fun b => if σ.kd b = .own i then .fz i else σ.kd b, ph := some { p with dn := fun k' => k' = k ∨ p.dn k', get := fun e => if e = k then d else p.get e } }
theorem laid_kd {k : Nat} {d : Nat → D} (b : Nat) : (σ.laid p i k d).kd b = .fz i ∧ σ.kd b = .own i ∨ (σ.laid p i k d).kd b = σ.kd b ∧ σ.kd b ≠ .own i := by
  unfold Gh.laid
  dsimp only
  split
  · exact .inl ⟨rfl, by assumption⟩
  · exact .inr ⟨rfl, by assumption⟩
theorem Ok.store (h : Ok σ w t) (hi : i < σ.n) (hp : σ.ph = some p) (h7 : σ.st i = 7) (hf : p.c.f0 ≤ i) {k : Nat} {d : Nat → D} (htk : p.tk k = some i) (hs0 : 0 < p.c.β.s) (hw : But p.c.β.b w w')
    (hrow : BOk (σ.laid p i k d).still w' p.c.β 37 6 ⟨p.c.N, fun e => if e = k then d else p.get e⟩) (hpost : p.c.post k d)
    (hu : ∀ op ∈ u, op.g = i ∧ (∀ x, op.act.touch? = some x → ∃ a, x.loc = .cell a ∧ a.block = p.c.β.b ∧ (a.off - p.c.β.o) / 6 = k) ∧ ∀ m, op.act ≠ .mark m) : Ok (σ.laid p i k d) w' (t ++ u) := by
  have q := h.phs p hp
  have h0 : i ≠ 0 := fun e => by have := q.f1; omega
  have hpay := q.kpaN hs0
  have hne : ∀ b, σ.kd b ≠ .pay → w'.heap[b]? = w.heap[b]? := fun b hb => hw.block b fun e => hb (by rw [e]; exact hpay)
  have same : ∀ b K, (σ.laid p i k d).kd b = K → (∀ g, K ≠ .fz g) → σ.kd b = K := fun b K hb hK => by
    rcases laid_kd (p := p) (i := i) (k := k) (d := d) (σ := σ) b with ⟨h1, _⟩ | ⟨h1, _⟩
    · exact absurd (hb.symm.trans h1) (hK i)
    · exact h1.symm.trans hb
  have fwd : ∀ b, σ.kd b ≠ .own i → (σ.laid p i k d).kd b = σ.kd b := fun b hb => by
    rcases laid_kd (p := p) (i := i) (k := k) (d := d) (σ := σ) b with ⟨_, h1⟩ | ⟨h1, _⟩
    · exact absurd h1 hb
    · exact h1
  have fzc : ∀ b g, (σ.laid p i k d).kd b = .fz g → (g = i ∧ σ.kd b = .own i) ∨ σ.kd b = .fz g := fun b g hb => by
    rcases laid_kd (p := p) (i := i) (k := k) (d := d) (σ := σ) b with ⟨h1, h2⟩ | ⟨h1, _⟩
    · rw [hb] at h1; cases h1; exact .inl ⟨rfl, h2⟩
    · exact .inr (h1.symm.trans hb)
  have nown : ∀ b, (σ.laid p i k d).kd b ≠ .own i := fun b hb => by
    rcases laid_kd (p := p) (i := i) (k := k) (d := d) (σ := σ) b with ⟨h1, h2⟩ | ⟨h1, h2⟩
    · rw [hb] at h1; cases h1
    · exact h2 (h1.symm.trans hb)
  have tr1 : TR (deal (σ.laid p i k d)) σ.n t := by
    refine h.tr.deal (fun l hl => .inl ?_) (fun g l hl => ?_) (fun g l hl => ?_) (fun l p (hl : False) => hl.elim) (Nat.le_refl _)
    · cases l with
      | cell a => exact same _ _ hl (by simp)
      | _ => exact hl.elim
    · cases l with
      | cell a =>
        rcases hl with hl | hl | ⟨hl, p', e, hk⟩
        · exact h.tr.own (.inl (same _ _ hl (by simp)))
        · rcases fzc _ _ hl with ⟨rfl, hl⟩ | hl
          · exact h.tr.own (.inl hl)
          · exact h.tr.own (.inr (.inl hl))
        · cases e; exact h.tr.own (.inr (.inr ⟨same _ _ hl (by simp), p, hp, hk⟩))
      | obj r =>
        rcases hl with hl | hl
        · exact h.tr.own (l := .obj r) (.inl (same _ _ hl (by simp)))
        · rcases fzc _ _ hl with ⟨rfl, hl⟩ | hl
          · exact h.tr.own (l := .obj r) (.inl hl)
          · exact h.tr.own (l := .obj r) (.inr hl)
      | _ => exact hl.elim
    · cases l with
      | cell a =>
        rcases hl with hl | ⟨hl, h0 | ⟨p', e, hk⟩⟩
        · exact h.tr.ro (.inl (same _ _ hl (by simp)))
        · exact h.tr.ro (.inr ⟨same _ _ hl (by simp), .inl h0⟩)
        · cases e; exact h.tr.ro (.inr ⟨same _ _ hl (by simp), .inr ⟨p, hp, hk⟩⟩)
      | _ => exact hl.elim
  have tr2 := tr1.app (deal_fair _) (g := i) hi (u := u) fun op hop => ⟨(hu op hop).1, fun x hx => .inr (.inl (by
    obtain ⟨a, e1, e2, e3⟩ := (hu op hop).2.1 x hx
    rw [e1]
    refine .inr (.inr ⟨(fwd _ (by rw [e2, hpay]; simp)).trans (by rw [e2]; exact hpay), _, rfl, ?_⟩)
    show p.tk _ = _
    rw [e3]; exact htk))⟩
  refine ⟨h.n1, tr2, fun j a ha hm => ?_, fun b hb => ?_, fun j => ?_, fun a => (h.nrel a).app fun op hop => (hu op hop).2.2 _, fun g h1 hg he => h.st1 g h1 hg fun p' e => ?_, ?_, fun p' hp' => ?_, fun b g hb => h.kon b g (same _ _ hb (by simp)), fun e => by cases e⟩
  · rw [hw.size]
    rcases touch_app ha with ⟨_, h1⟩ | ⟨_, op, hop, _, hx⟩
    · exact h.low j a h1 hm
    · obtain ⟨ad, e1, e2, _⟩ := (hu op hop).2.1 a hx
      rw [e1]
      show ad.block < _
      rw [e2]; exact h.lt (by rw [hpay]; simp)
  · have hb' : w.heap.size ≤ b := by rw [← hw.size]; exact hb
    have := h.kdl b hb'
    exact (fwd b (by rw [this]; simp)).trans this
  · rw [Deaf_quiet t j fun op hop m hm => absurd hm ((hu op hop).2.2 m)]; exact h.deaf j
  · rw [hp] at e; cases e; exact (elder_some (σ := σ.laid p i k d) rfl).1 he
  · have H := hand_app (t := t) (u := u) (K := fun b => σ.kd b = .free) (E := σ.elder) h.hand fun op x hop h0 he hx => by
      rw [(hu op hop).1] at he
      have := he p hp
      omega
    exact fun j g x hg h0 he hx => (H j g x hg h0 (fun p' e => by rw [hp] at e; cases e; exact (elder_some (σ := σ.laid p i k d) rfl).1 he) hx).imp id fun ⟨k1, k2, a, k3, k4⟩ => ⟨k1, k2, a, k3, (fwd _ (by rw [k4]; simp)).trans k4⟩
  · cases hp'
    refine ⟨q.f1, q.fn, q.fm, fun b => ⟨fun hb => (q.kwg b).1 (same _ _ hb (by simp)), fun e => ?_⟩, (fwd _ (by rw [q.kch]; simp)).trans q.kch, fun b hb => q.kpay b (same _ _ hb (by simp)), fun h0 => (fwd _ (by rw [q.kpaN h0]; simp)).trans (q.kpaN h0), q.s7, fun g a b c => ?_, fun a ha htk' g hg => ?_, q.stk, q.tkd, q.qn, fun g a b c => ?_, ?_, fun b hb => ?_, hrow, fun k' hk' hd => ?_, ?_⟩
    · have := (q.kwg b).2 e
      exact (fwd b (by rw [this]; simp)).trans this
    · obtain ⟨r, hr⟩ := q.rel g a b c
      refine ⟨r, hr.other fun op hop e => ?_⟩
      have c' : σ.st g ≤ 6 := c
      rw [← e, (hu op hop).1, h7] at c'; omega
    · have htk' : p.tk ((a.off - p.c.β.o) / 6) = none := htk'
      refine (q.frs a (same _ _ ha (by simp)) htk' g hg).app fun op hop b hb e => ?_
      obtain ⟨ad, e1, e2, e3⟩ := (hu op hop).2.1 b hb
      rw [e] at e1; cases e1
      rw [e3, htk] at htk'; cases htk'
    · have := q.rdy g a b c
      exact ⟨this.1, fun k' hk' => .inr (this.2 k' hk')⟩
    · obtain ⟨s, tm, hc⟩ := q.chn
      exact ⟨s, tm, (hne _ (by rw [q.kch]; simp)).trans hc⟩
    · have hb' := same _ _ hb (by simp)
      exact (hne b (by rw [hb']; simp)).trans (q.lnt b hb')
    · show p.c.post k' (if k' = k then d else p.get k')
      by_cases e : k' = k
      · subst e; rw [if_pos rfl]; exact hpost
      · rw [if_neg e]; exact q.don k' hk' (hd.resolve_left e)
    · obtain ⟨st, sm, h1, h2⟩ := q.mode
      have hk := (q.kwg p.c.Wg).2 rfl
      exact ⟨st, sm, WgAt.of_block h1 (hne _ (by rw [hk]; simp)), h2⟩
theorem EnvP.store (h : Ok σ w t) (hj : j ≠ i) (hp : σ.ph = some p) {k : Nat} {d : Nat → D} (htk : p.tk k = some i) (hs0 : 0 < p.c.β.s) (hw : But p.c.β.b w w') : EnvP j (σ, w) (σ.laid p i k d, w') := by
  have q := h.phs p hp
  have hk := q.kpaN hs0
  have hX : ∀ g b, σ.im g b ∨ σ.own g b → b ≠ p.c.β.b := fun g b hb e => by
    rw [← e] at hk
    rcases hb with (hb | ⟨_, hb | hb⟩) | hb
    · rw [hk] at hb; cases hb
    · rw [hk] at hb; cases hb
    · rw [hk] at hb; cases hb
    · rw [show σ.kd b = .own g from hb] at hk; cases hk
  have fwd : ∀ b, σ.kd b ≠ .own i → (σ.laid p i k d).kd b = σ.kd b := fun b hb => by
    rcases laid_kd (p := p) (i := i) (k := k) (d := d) (σ := σ) b with ⟨_, h1⟩ | ⟨h1, _⟩
    · exact absurd h1 hb
    · exact h1
  have own : ∀ b, (σ.laid p i k d).kd b = .own j ↔ σ.kd b = .own j := fun b => by
    rcases laid_kd (p := p) (i := i) (k := k) (d := d) (σ := σ) b with ⟨h1, h2⟩ | ⟨h1, _⟩
    · rw [h1, h2]
      exact ⟨fun e => (by cases e), fun e => (by cases e; exact absurd rfl hj)⟩
    · rw [h1]
  cases j with
  | zero => exact ⟨rfl, rfl, own, fun b hb => (fwd b (by rw [show σ.kd b = .imm from hb]; simp)).trans hb, fun e => (by rw [hp] at e; cases e), fun p' e => (by rw [hp] at e; cases e; exact ⟨_, rfl, rfl, rfl⟩), fun _ _ _ _ _ => Nat.le_refl _, hw.rely (hX 0), fun b hb => (fwd b (by rw [show σ.kd b = .lent from hb]; simp)).trans hb, fun b _ hf => ⟨hw.block b fun e => (by rw [← e, show σ.kd b = .free from hf] at hk; cases hk), (fwd b (by rw [show σ.kd b = .free from hf]; simp)).trans hf⟩, fun b hb => by
    have hb : (σ.laid p i k d).kd b = .imm := hb
    rcases laid_kd (p := p) (i := i) (k := k) (d := d) (σ := σ) b with ⟨h1, _⟩ | ⟨h1, _⟩
    · rw [hb] at h1; cases h1
    · exact h1.symm.trans hb⟩
  | succ j =>
    refine ⟨rfl, rfl, fun _ => ⟨fun p' e => ?_, own, fun b hb => (fwd b (by rw [show σ.kd b = .imm from hb]; simp)).trans hb, fun b hb => (fwd b (by rw [show σ.kd b = .lent from hb]; simp)).trans hb, fun b hb => (fwd b (by rw [show σ.kd b = .fz (j + 1) from hb]; simp)).trans hb, hw.rely (hX _)⟩, Nat.le_refl _⟩
    rw [hp] at e; cases e
    refine ⟨_, rfl, rfl, Nat.le_refl _, fun _ => .rfl, fun k' hk' => ⟨fun hd => hd.resolve_left fun e => ?_, .inr⟩⟩
    subst e
    rw [htk] at hk'; cases hk'; exact hj rfl
end
section
variable {σ : Gh} {w w' : World} {t u : Trace} {i j : Nat} {p : Ph}
def Gh.said (σ : Gh) (i d : Nat) : Gh := { σ with df := setF σ.df i d }
theorem Ok.said (h : Ok σ w t) (h1 : 1 ≤ i) (hi : i < σ.n) (he : σ.elder i) {d : Nat} (hd : ∀ j, Deaf (t ++ u) j = setF σ.df i d j)
    (hu : ∀ op ∈ u, op.g = i ∧ op.act.touch? = none ∧ ∀ a, op.act ≠ .mark (.release a)) : Ok (σ.said i d) w (t ++ u) := by
  have tr1 : TR (deal (σ.said i d)) σ.n t := h.tr
  have tr2 := tr1.app (deal_fair _) (g := i) hi (u := u) fun op hop => ⟨(hu op hop).1, fun x hx => by rw [(hu op hop).2.1] at hx; cases hx⟩
  refine ⟨h.n1, tr2, fun j a ha hm => ?_, h.kdl, hd, fun a => (h.nrel a).app fun op hop => (hu op hop).2.2 a, h.st1, ?_, fun p hp => ?_, h.kon, h.kno⟩
  · rcases touch_app ha with ⟨_, h1⟩ | ⟨_, op, hop, _, hx⟩
    · exact h.low j a h1 hm
    · rw [(hu op hop).2.1] at hx; cases hx
  · exact hand_app (t := t) (u := u) (K := fun b => σ.kd b = .free) (E := σ.elder) h.hand fun op x hop _ _ hx => by rw [(hu op hop).2.1] at hx; cases hx
  · have q := h.phs p hp
    have hif := he p hp
    refine ⟨q.f1, q.fn, q.fm, q.kwg, q.kch, q.kpay, q.kpaN, q.s7, fun g a b c => ?_, fun a ha htk g hg => ?_, q.stk, q.tkd, q.qn, q.rdy, q.chn, q.lnt, q.row, q.don, q.mode⟩
    · obtain ⟨r, hr⟩ := q.rel g a b c
      exact ⟨r, hr.other fun op hop e => by rw [(hu op hop).1] at e; omega⟩
    · exact (q.frs a ha htk g hg).app fun op hop b hb e => by rw [(hu op hop).2.1] at hb; cases hb
theorem EnvP.said (hj : j ≠ i) {d : Nat} : EnvP j (σ, w) (σ.said i d, w) := by
  have e : (σ.said i d).df j = σ.df j := setF_ne hj
  cases j with
  | zero => exact ⟨rfl, e, fun _ => .rfl, fun _ h => h, fun h => h, fun p hp => ⟨p, hp, rfl, rfl⟩, fun _ _ _ _ _ => Nat.le_refl _, Rely.refl _ _ _, fun _ h => h, fun b _ hf => ⟨rfl, hf⟩, fun _ h => h⟩
  | succ j => exact ⟨rfl, e, fun _ => ⟨fun p hp => ⟨p, hp, rfl, Nat.le_refl _, fun _ => .rfl, fun _ _ => .rfl⟩, fun _ => .rfl, fun _ h => h, fun _ h => h, fun _ h => h, Rely.refl _ _ _⟩, Nat.le_refl _⟩
def Gh.born (σ : Gh) (p : Ph) : Gh := { σ with n := σ.n + 1, st := setF σ.st σ.n 7, ph := some { p with tag := .opn } }
theorem vc_born {s : Nat → Nat} {f n : Nat} (hf : f ≤ n) : vc (setF s n 7) f (n + 1 - f) = vc s f (n - f) + 1 := by
  rw [show n + 1 - f = (n - f) + 1 by omega]
  simp only [vc]
  rw [show f + (n - f) = n by omega, setF_same, if_pos (by omega), vc_congr (s := s) fun i _ hi => setF_ne (by omega)]
theorem Ok.born (h : Ok σ w t) (hp : σ.ph = some p) (ht : p.tag = .add) (hd0 : σ.df 0 = 0) (hn : σ.n < p.c.f0 + 100) {x y : MemOp} (hx : x.g = 0 ∧ x.act = .go σ.n) (hy : y.g = σ.n ∧ y.act = .start) : Ok (σ.born p) w (t ++ #[x, y]) := by
  have q := h.phs p hp
  have hu : ∀ op ∈ #[x, y], op.act.touch? = none := fun op hop => by
    simp at hop
    rcases hop with rfl | rfl
    · rw [hx.2]; rfl
    · rw [hy.2]; rfl
  have hum : ∀ op ∈ #[x, y], ∀ m, op.act ≠ .mark m := fun op hop m e => by
    simp at hop
    rcases hop with rfl | rfl
    · rw [hx.2] at e; cases e
    · rw [hy.2] at e; cases e
  obtain ⟨trf, kn⟩ := h.tr.fork (deal_fair _) h.n1 hx hy ((h.deaf 0).trans hd0)
  have tr2 : TR (deal (σ.born p)) (σ.n + 1) (t ++ #[x, y]) := by
    refine trf.deal (fun l hl => .inl (by cases l <;> exact hl)) (fun g l hl => trf.own ?_) (fun g l hl => ?_) (fun l p (hl : False) => hl.elim) (Nat.le_refl _)
    · cases l with
      | cell a =>
        rcases hl with hl | hl | ⟨hl, p', e, hk⟩
        · exact .inl hl
        · exact .inr (.inl hl)
        · cases e; exact .inr (.inr ⟨hl, p, hp, hk⟩)
      | obj r => exact hl
      | _ => exact hl.elim
    · cases l with
      | cell a =>
        rcases hl with hl | ⟨hl, h0 | ⟨p', e, hk, hg⟩⟩
        · exact trf.ro (.inl hl)
        · exact trf.ro (.inr ⟨hl, .inl h0⟩)
        · cases e
          have hg : g < σ.n + 1 := hg
          by_cases e : g = σ.n
          · subst e
            exact permW_knows (h.tr.ro (g := 0) (.inr ⟨hl, .inl rfl⟩)) kn hu
          · exact trf.ro (.inr ⟨hl, .inr ⟨p, hp, hk, by omega⟩⟩)
      | _ => exact hl.elim
  refine ⟨Nat.le_add_left 1 _, tr2, fun j a ha hm => ?_, h.kdl, fun j => ?_, fun a => (h.nrel a).app fun op hop => hum op hop _, fun g h1 hg he => ?_, ?_, fun p' hp' => ?_, fun b g hb => Nat.lt_succ_of_lt (h.kon b g hb), fun e => by cases e⟩
  · rcases touch_app ha with ⟨_, h1⟩ | ⟨_, op, hop, _, hx⟩
    · exact h.low j a h1 hm
    · rw [hu op hop] at hx; cases hx
  · rw [Deaf_quiet t j fun op hop m hm => absurd hm (hum op hop m)]; exact h.deaf j
  · have he' : g < p.c.f0 := (elder_some (σ := σ.born p) rfl).1 he
    have := q.fn
    exact (setF_ne (by omega)).trans (h.st1 g h1 (by omega) ((elder_some hp).2 he'))
  · have H := hand_app (t := t) (u := #[x, y]) (K := fun b => σ.kd b = .free) (E := σ.elder) h.hand fun op x hop _ _ hx => by rw [hu op hop] at hx; cases hx
    exact fun j g x hg h0 he hx => H j g x hg h0 ((elder_some hp).2 ((elder_some (σ := σ.born p) rfl).1 he)) hx
  · cases hp'
    have hfn := q.fn
    have stO : ∀ g, g ≠ σ.n → (σ.born p).st g = σ.st g := fun g hg => setF_ne hg
    have stN : (σ.born p).st σ.n = 7 := setF_same
    have old : ∀ g, g < (σ.born p).n → g ≠ σ.n → g < σ.n := fun g hg hne => by
      have : g < σ.n + 1 := hg
      omega
    refine ⟨q.f1, Nat.le_succ_of_le q.fn, by show σ.n + 1 ≤ p.c.f0 + 100; omega, q.kwg, q.kch, q.kpay, q.kpaN, fun g a b => ?_, fun g a b c => ?_, fun a ha htk g hg => ?_, fun k g hk => ?_, q.tkd, q.qn, fun g a b c => ?_, q.chn, q.lnt, q.row, q.don, ?_⟩
    · by_cases e : g = σ.n
      · subst e; rw [stN]; exact Nat.le_refl _
      · rw [stO g e]; exact q.s7 g a (old g b e)
    · by_cases e : g = σ.n
      · subst e; rw [stN] at c; omega
      · rw [stO g e] at c
        obtain ⟨r, hr⟩ := q.rel g a (old g b e) c
        exact ⟨r, hr.app fun j x _ _ hx => by
          rcases touch_app hx with ⟨hl, _⟩ | ⟨_, op, hop, _, hx⟩
          · omega
          · rw [hu op hop] at hx; cases hx⟩
    · rcases hg with hg | ⟨hg1, hg2⟩
      · exact (q.frs a ha htk g (.inl hg)).app fun op hop b hb _ => by rw [hu op hop] at hb; cases hb
      · by_cases e : g = σ.n
        · subst e; exact perm_knows (q.frs a ha htk 0 (.inl rfl)) kn hu
        · exact (q.frs a ha htk g (.inr ⟨hg1, old g hg2 e⟩)).app fun op hop b hb _ => by rw [hu op hop] at hb; cases hb
    · have := q.stk k g hk
      exact ⟨this.1, this.2.1, Nat.lt_succ_of_lt this.2.2⟩
    · by_cases e : g = σ.n
      · subst e; rw [stN] at c; omega
      · rw [stO g e] at c
        exact q.rdy g a (old g b e) c
    · obtain ⟨st, sm, h1, h2⟩ := q.mode
      refine ⟨st, sm, h1, ?_⟩
      rw [ht] at h2
      cases h2 with
      | add ho =>
        have := vc_born (s := σ.st) hfn
        show Mode (setF σ.st σ.n 7) p.c.f0 (σ.n + 1 - p.c.f0) .opn _ _
        have e : ((vc σ.st p.c.f0 (σ.n - p.c.f0) : Int) + 1) * KK = (vc (setF σ.st σ.n 7) p.c.f0 (σ.n + 1 - p.c.f0) : Int) * KK := by rw [this]; simp
        rw [e]
        refine .opn fun i a b => ?_
        by_cases e : i = σ.n
        · subst e; rw [setF_same]; exact .inl rfl
        · rw [setF_ne e]; exact ho i a (by omega)
theorem EnvP.born (hp : σ.ph = some p) (hj : j ≠ 0) (hn : j < σ.n) : EnvP j (σ, w) (σ.born p, w) := by
  cases j with
  | zero => exact absurd rfl hj
  | succ j =>
    refine ⟨setF_ne (by omega), rfl, fun _ => ⟨fun p' e => ?_, fun _ => .rfl, fun _ h => h, fun _ h => h, fun _ h => h, Rely.refl _ _ _⟩, Nat.le_succ _⟩
    rw [hp] at e; cases e
    exact ⟨_, rfl, rfl, Nat.le_refl _, fun _ => .rfl, fun _ _ => .rfl⟩
open Classical in
noncomputable def Gh.opened (σ : Gh) (c : Ph0) (L : Nat → Prop) (get : Nat → Nat → D) : Gh :=
  { σ with kd := fun b => if b = c.Wg then .wg else if b = c.Ch then .chan else if b = c.β.b ∧ 0 < c.β.s then .pay else if L b then .lent else σ.kd b, ph := some ⟨c, .opn, 0, fun _ => none, fun _ => False, get⟩ }
structure Opens (σ : Gh) (w w' : World) (c : Ph0) (L : Nat → Prop) (get : Nat → Nat → D) : Prop where
  ph : σ.ph = none
  Wg : c.Wg = w.heap.size
  f0 : c.f0 = σ.n
  w0 : c.w0 = w
  os : w'.os = w.os
  tape : w'.tape = w.tape
  output : w'.output = w.output
  size : w'.heap.size = w.heap.size + 1
  block : ∀ b, b < w.heap.size → w'.heap[b]? = w.heap[b]?
  wg : WgAt 52 c.Wg w' 0 0
  lo : ∀ b, L b → σ.kd b = .own 0
  cho : σ.kd c.Ch = .own 0
  chL : ¬ L c.Ch
  po : 0 < c.β.s → σ.kd c.β.b = .own 0
  pL : 0 < c.β.s → ¬ L c.β.b
  pC : 0 < c.β.s → c.β.b ≠ c.Ch
  chn : ∃ s tm, w.heap[c.Ch]? = some (.chan c.N (queue 0 c.N) true s 0 tm)
  row : BOk (fun b => σ.kd b = .imm) w c.β 37 6 ⟨c.N, get⟩
theorem opened_kd {c : Ph0} {L : Nat → Prop} {get : Nat → Nat → D} (b : Nat) :
    (b = c.Wg ∧ (σ.opened c L get).kd b = .wg) ∨ (b ≠ c.Wg ∧ b = c.Ch ∧ (σ.opened c L get).kd b = .chan) ∨ (b ≠ c.Wg ∧ b ≠ c.Ch ∧ b = c.β.b ∧ 0 < c.β.s ∧ (σ.opened c L get).kd b = .pay) ∨
    (b ≠ c.Wg ∧ b ≠ c.Ch ∧ ¬ (b = c.β.b ∧ 0 < c.β.s) ∧ L b ∧ (σ.opened c L get).kd b = .lent) ∨ (b ≠ c.Wg ∧ b ≠ c.Ch ∧ ¬ (b = c.β.b ∧ 0 < c.β.s) ∧ ¬ L b ∧ (σ.opened c L get).kd b = σ.kd b) := by
  unfold Gh.opened
  dsimp only
  by_cases h1 : b = c.Wg
  · exact .inl ⟨h1, if_pos h1⟩
  rw [if_neg h1]
  by_cases h2 : b = c.Ch
  · exact .inr (.inl ⟨h1, h2, if_pos h2⟩)
  rw [if_neg h2]
  by_cases h3 : b = c.β.b ∧ 0 < c.β.s
  · exact .inr (.inr (.inl ⟨h1, h2, h3.1, h3.2, if_pos h3⟩))
  rw [if_neg h3]
  by_cases h4 : L b
  · exact .inr (.inr (.inr (.inl ⟨h1, h2, h3, h4, if_pos h4⟩)))
  rw [if_neg h4]
  exact .inr (.inr (.inr (.inr ⟨h1, h2, h3, h4, rfl⟩)))
theorem Ok.opens (h : Ok σ w t) {c : Ph0} {L : Nat → Prop} {get : Nat → Nat → D} (o : Opens σ w w' c L get) (hu : ∀ op ∈ u, OpOk (fun _ => False) (fun _ => False) 0 op) : Ok (σ.opened c L get) w' (t ++ u) := by
  have hut : ∀ op ∈ u, op.act.touch? = none := fun op hop => by
    cases e : op.act.touch? with
    | none => rfl
    | some x =>
      have h1 := (hu op hop).touch x e
      have h2 := (hu op hop).mem x e
      obtain ⟨loc, wr, k⟩ := x
      cases loc with
      | cell a => exact h1.elim (fun h => h.elim) fun h => h.2.elim
      | obj r => exact h1.elim
      | _ => cases h2
  have kd := @opened_kd σ c L get
  have hWg : σ.kd c.Wg = .free := h.kdl _ (by rw [o.Wg]; exact Nat.le_refl _)
  have kno := h.kno o.ph
  
  have ownb : ∀ b, (σ.opened c L get).kd b = .own 0 → σ.kd b = .own 0 := fun b hb => by
    rcases kd b with ⟨_, e⟩ | ⟨_, _, e⟩ | ⟨_, _, _, _, e⟩ | ⟨_, _, _, _, e⟩ | ⟨_, _, _, _, e⟩ <;> rw [hb] at e <;> first | cases e; done | exact e.symm
  have owng : ∀ b g, (σ.opened c L get).kd b = .own g → σ.kd b = .own g := fun b g hb => by
    rcases kd b with ⟨_, e⟩ | ⟨_, _, e⟩ | ⟨_, _, _, _, e⟩ | ⟨_, _, _, _, e⟩ | ⟨_, _, _, _, e⟩ <;> rw [hb] at e <;> first | cases e; done | exact e.symm
  have fzg : ∀ b g, (σ.opened c L get).kd b ≠ .fz g := fun b g hb => by
    rcases kd b with ⟨_, e⟩ | ⟨_, _, e⟩ | ⟨_, _, _, _, e⟩ | ⟨_, _, _, _, e⟩ | ⟨_, _, _, _, e⟩ <;> rw [hb] at e <;> first | cases e; done | skip
    rcases kno b with k | k | k <;> rw [k] at e <;> cases e
  have immb : ∀ b, (σ.opened c L get).kd b = .imm ↔ σ.kd b = .imm := fun b => by
    rcases kd b with ⟨rfl, e⟩ | ⟨_, rfl, e⟩ | ⟨_, _, rfl, hs, e⟩ | ⟨_, _, _, hl, e⟩ | ⟨_, _, _, _, e⟩ <;> rw [e]
    · rw [hWg]; simp
    · rw [o.cho]; simp
    · rw [o.po hs]; simp
    · rw [o.lo b hl]; simp
  have lentb : ∀ b, (σ.opened c L get).kd b = .lent → σ.kd b = .own 0 ∧ b < w.heap.size := fun b hb => by
    rcases kd b with ⟨_, e⟩ | ⟨_, _, e⟩ | ⟨_, _, _, _, e⟩ | ⟨_, _, _, hl, e⟩ | ⟨_, _, _, _, e⟩ <;> rw [hb] at e <;> first | cases e; done | skip
    · have := o.lo b hl
      exact ⟨this, h.lt (by rw [this]; simp)⟩
    · rcases kno b with k | k | k <;> rw [k] at e <;> cases e
  have payb : ∀ b, (σ.opened c L get).kd b = .pay → b = c.β.b ∧ 0 < c.β.s := fun b hb => by
    rcases kd b with ⟨_, e⟩ | ⟨_, _, e⟩ | ⟨_, _, e1, e2, e⟩ | ⟨_, _, _, _, e⟩ | ⟨_, _, _, _, e⟩ <;> rw [hb] at e <;> first | cases e; done | skip
    · exact ⟨e1, e2⟩
    · rcases kno b with k | k | k <;> rw [k] at e <;> cases e
  have wgb : ∀ b, (σ.opened c L get).kd b = .wg ↔ b = c.Wg := fun b => by
    rcases kd b with ⟨h1, e⟩ | ⟨h1, _, e⟩ | ⟨h1, _, _, _, e⟩ | ⟨h1, _, _, _, e⟩ | ⟨h1, _, _, _, e⟩ <;> rw [e] <;> simp [h1]
    rcases kno b with k | k | k <;> rw [k] <;> simp
  have tr1 : TR (deal (σ.opened c L get)) σ.n t := by
    refine h.tr.deal (fun l hl => .inr ?_) (fun g l hl => ?_) (fun g l hl => ?_) (fun l p (hl : False) => hl.elim) (Nat.le_refl _)
    · cases l with
      | cell a =>
        have e : a.block = c.Wg := (wgb _).1 hl
        intro j b hb eb
        have := h.low j b hb (by rw [eb]; rfl)
        rw [eb] at this
        have : a.block < w.heap.size := this
        rw [e, o.Wg] at this; omega
      | _ => exact hl.elim
    · cases l with
      | cell a =>
        rcases hl with hl | hl | ⟨hl, p', e, hk⟩
        · exact h.tr.own (.inl (owng _ _ hl))
        · exact absurd hl (fzg _ _)
        · cases e; cases hk
      | obj r =>
        rcases hl with hl | hl
        · exact h.tr.own (l := .obj r) (.inl (owng _ _ hl))
        · exact absurd hl (fzg _ _)
      | _ => exact hl.elim
    · cases l with
      | cell a =>
        rcases hl with hl | ⟨hl, h0 | ⟨p', e, hk, hg⟩⟩
        · exact h.tr.ro (.inl ((immb _).1 hl))
        · subst h0; exact PermW.of (h.tr.own (.inl (lentb _ hl).1))
        · cases e
          have hk : c.f0 ≤ g := hk
          have hg : g < σ.n := hg
          rw [o.f0] at hk; omega
      | _ => exact hl.elim
  have tr2 := tr1.app (deal_fair _) (g := 0) h.n1 (u := u) fun op hop => ⟨(hu op hop).g, fun x hx => by rw [hut op hop] at hx; cases hx⟩
  refine ⟨h.n1, tr2, fun j a ha hm => ?_, fun b hb => ?_, fun j => ?_, fun a => (h.nrel a).app fun op hop e => ?_, fun g h1 hg he => h.st1 g h1 hg fun p e => ?_, ?_, fun p' hp' => ?_, fun b g hb => h.kon b g (owng b g hb), fun e => by cases e⟩
  · rw [o.size]
    rcases touch_app ha with ⟨_, h1⟩ | ⟨_, op, hop, _, hx⟩
    · exact Nat.lt_succ_of_lt (h.low j a h1 hm)
    · rw [hut op hop] at hx; cases hx
  · rw [o.size] at hb
    have hf := h.kdl b (by omega)
    rcases kd b with ⟨e1, e⟩ | ⟨_, rfl, e⟩ | ⟨_, _, rfl, hs, e⟩ | ⟨_, _, _, hl, e⟩ | ⟨_, _, _, _, e⟩
    · rw [e1, o.Wg] at hb; omega
    · rw [o.cho] at hf; cases hf
    · rw [o.po hs] at hf; cases hf
    · rw [o.lo b hl] at hf; cases hf
    · rw [e]; exact hf
  · rw [Deaf_quiet t j fun op hop m hm => by rw [(hu op hop).mark m hm]; simp]; exact h.deaf j
  · have := (hu op hop).mark _ e; cases this
  · rw [o.ph] at e; cases e
  · have H := hand_app (t := t) (u := u) (K := fun b => σ.kd b = .free ∧ b < w.heap.size) (E := σ.elder) (fun j g x hg h0 he hx => (h.hand j g x hg h0 he hx).imp id fun ⟨k1, k2, a, k3, k4⟩ => ⟨k1, k2, a, k3, k4, by
      have := h.low j x hx (by rw [k3]; rfl)
      rw [k3] at this; exact this⟩) fun op x hop h0 he hx => by rw [hut op hop] at hx; cases hx
    refine fun j g x hg h0 he hx => (H j g x hg h0 (fun p e => by rw [o.ph] at e; cases e) hx).imp id fun ⟨k1, k2, a, k3, k4, k5⟩ => ⟨k1, k2, a, k3, ?_⟩
    rcases kd a.block with ⟨e1, e⟩ | ⟨_, e1, e⟩ | ⟨_, _, e1, hs, e⟩ | ⟨_, _, _, hl, e⟩ | ⟨_, _, _, _, e⟩
    · rw [e1, o.Wg] at k5; omega
    · rw [e1, o.cho] at k4; cases k4
    · rw [e1, o.po hs] at k4; cases k4
    · rw [o.lo _ hl] at k4; cases k4
    · rw [e]; exact k4
  · cases hp'
    have nog : ∀ g, c.f0 ≤ g → g < σ.n → False := fun g a b => by rw [o.f0] at a; omega
    refine ⟨by show 1 ≤ c.f0; rw [o.f0]; exact h.n1, by show c.f0 ≤ σ.n; rw [o.f0]; exact Nat.le_refl _, by show σ.n ≤ c.f0 + 100; rw [o.f0]; omega, wgb, ?_, fun b hb => (payb b hb).1, fun hs => ?_, fun g a b => (nog g a b).elim, fun g a b => (nog g a b).elim, fun a ha htk g hg => ?_, (fun k g hk => by cases hk), (fun k hk => absurd hk (Nat.not_lt_zero k)), Nat.zero_le _, fun g a b => (nog g a b).elim, ?_, fun b hb => ?_, ?_, (fun k _ hd => hd.elim), ?_⟩
    · have hne : c.Ch ≠ c.Wg := fun e => by have := o.cho; rw [e, hWg] at this; cases this
      rcases kd c.Ch with ⟨e1, _⟩ | ⟨_, _, e⟩ | ⟨_, e1, _⟩ | ⟨_, e1, _⟩ | ⟨_, e1, _⟩
      · exact absurd e1 hne
      · exact e
      · exact absurd rfl e1
      · exact absurd rfl e1
      · exact absurd rfl e1
    · have hne : c.β.b ≠ c.Wg := fun e => by have := o.po hs; rw [e, hWg] at this; cases this
      rcases kd c.β.b with ⟨e1, _⟩ | ⟨_, e1, _⟩ | ⟨_, _, _, _, e⟩ | ⟨_, _, e1, _⟩ | ⟨_, _, e1, _⟩
      · exact absurd e1 hne
      · exact absurd e1 (o.pC hs)
      · exact e
      · exact absurd ⟨rfl, hs⟩ e1
      · exact absurd ⟨rfl, hs⟩ e1
    · have hg0 : g = 0 := hg.elim id fun ⟨a, b⟩ => (nog g a b).elim
      subst hg0
      obtain ⟨e1, hs⟩ := payb _ ha
      exact (h.tr.own (g := 0) (l := .cell a) (.inl (by rw [e1]; exact o.po hs))).app fun op hop b hb _ => by rw [hut op hop] at hb; cases hb
    · obtain ⟨s, tm, hc⟩ := o.chn
      exact ⟨s, tm, (o.block _ (h.lt (by rw [o.cho]; simp))).trans hc⟩
    · show w'.heap[b]? = c.w0.heap[b]?
      rw [o.w0]; exact o.block b (lentb b hb).2
    · refine o.row.mono (fun b hb => .inl ((immb b).2 hb)) (fun b hb => o.block b (h.lt (by rw [show σ.kd b = .imm from hb]; simp))) fun hs => o.block _ (h.lt (by rw [o.po hs]; simp))
    · refine ⟨0, 0, o.wg, ?_⟩
      have hm : Mode σ.st c.f0 (σ.n - c.f0) .opn ((vc σ.st c.f0 (σ.n - c.f0) : Int) * KK) 0 := .opn fun i a b => (nog i a (by rw [o.f0] at a b; omega)).elim
      have e : vc σ.st c.f0 (σ.n - c.f0) = 0 := by rw [o.f0, Nat.sub_self]; rfl
      rw [e] at hm
      have hm0 : Mode σ.st c.f0 (σ.n - c.f0) .opn 0 0 := by simpa using hm
      exact hm0
theorem EnvP.opens (h : Ok σ w t) (hj : j ≠ 0) (hn : j < σ.n) {c : Ph0} {L : Nat → Prop} {get : Nat → Nat → D} (o : Opens σ w w' c L get) : EnvP j (σ, w) (σ.opened c L get, w') := by
  have e : σ.st j = 1 := h.st1 j (by omega) hn fun p e => by rw [o.ph] at e; cases e
  cases j with
  | zero => exact absurd rfl hj
  | succ j => exact ⟨rfl, rfl, fun hs => absurd e hs, Nat.le_refl _⟩
def Kd.back : Kd → Kd
  | .imm => .imm
  | .free => .free
  | .wg => .free
  | _ => .own 0
def Gh.closed (σ : Gh) : Gh := { σ with kd := fun b => (σ.kd b).back, ph := none }
theorem Ok.acquire (h : Ok σ w t) (hp : σ.ph = some p) (ht : p.tag = .fin) (hd0 : σ.df 0 = 0) {y : MemOp} (hy : y.g = 0 ∧ y.act = .mark (.acquire (stA p.c.Wg))) : Ok σ.closed w (t ++ #[y]) := by
  have q := h.phs p hp
  have hut : ∀ op ∈ #[y], op.act.touch? = none := fun op hop => by simp at hop; subst hop; rw [hy.2]; rfl
  have hq : AllQ σ.st p.c.f0 (σ.n - p.c.f0) := by
    obtain ⟨st, sm, _, h2⟩ := q.mode
    rw [ht] at h2
    cases h2; assumption
  have hfn := q.fn
  have tr1 := h.tr.app (deal_fair _) (g := 0) h.n1 (u := #[y]) fun op hop => ⟨by simp at hop; subst hop; exact hy.1, fun x hx => by rw [hut op hop] at hx; cases hx⟩
  have all : ∀ i g x, (t ++ #[y]).g? i = some g → g ≠ 0 → touchAt (t ++ #[y]) i = some x → Knows (t ++ #[y]) 0 i ∨ (x.kind = .atomic ∧ ¬ (t ++ #[y]).heard i ∧ ∃ a, x.loc = .cell a ∧ (σ.kd a.block).back = .free) := by
    intro i g x hg h0 hx
    rcases touch_app hx with ⟨hl, hx'⟩ | ⟨_, op, hop, _, hxo⟩
    · rw [g?_old hl] at hg
      by_cases he : g < p.c.f0
      · rw [heard_old hl]
        exact (h.hand i g x hg h0 ((elder_some hp).2 he) hx').imp (fun k => k.app _) fun ⟨k1, k2, a, k3, k4⟩ => ⟨k1, k2, a, k3, by rw [k4]; rfl⟩
      · have hgn : g < σ.n := by
          obtain ⟨op, ho, hog⟩ := Option.map_eq_some_iff.1 hg
          rw [← hog]; exact h.tr.gs i op ho
        obtain ⟨r, hr⟩ := q.rel g (by omega) hgn (by rw [hq g (by omega) (by omega)]; omega)
        have kr : Knows (t ++ #[y]) 0 r := by
          have := acq_knows (y := y) hr.act hr.heard (h.nrel _) hy.2 (by rw [hy.1]; exact (h.deaf 0).trans hd0)
          rwa [hy.1] at this
        have hrt := lt_of_act? hr.act
        rcases Nat.lt_trichotomy i r with hlt | rfl | hgt
        · left
          refine Knows.of_before (.inr ?_) kr
          obtain ⟨op, ho, hog⟩ := Option.map_eq_some_iff.1 hg
          obtain ⟨op', ho', hog'⟩ := Option.map_eq_some_iff.1 hr.gg
          exact hb_po hlt (by rw [getElem?_append_old hl]; exact ho) (by rw [getElem?_append_old hrt]; exact ho') (hog.trans hog'.symm)
        · exact .inl kr
        · right
          obtain ⟨k1, k2, a, k3, k4⟩ := hr.after i x hgt hg hx'
          exact ⟨k1, by rw [heard_old hl]; exact k2, a, k3, by rw [(q.kwg _).2 k4]; rfl⟩
    · rw [hut op hop] at hxo; cases hxo
  have known : ∀ i x, touchAt (t ++ #[y]) i = some x → Knows (t ++ #[y]) 0 i ∨ ∃ a, x.loc = .cell a ∧ (σ.kd a.block).back = .free := fun i x hx => by
    obtain ⟨op, ho, _⟩ := touch_of hx
    by_cases e : op.g = 0
    · left; have := knows_own ho; rwa [e] at this
    · exact (all i op.g x (by unfold Trace.g?; rw [ho]; rfl) e hx).imp id fun ⟨_, _, a, k1, k2⟩ => ⟨a, k1, k2⟩
  have bk : ∀ b, σ.closed.kd b = .free ∨ σ.closed.kd b = .own 0 ∨ σ.closed.kd b = .imm := fun b => by
    show (σ.kd b).back = _ ∨ (σ.kd b).back = _ ∨ (σ.kd b).back = _
    cases σ.kd b <;> simp [Kd.back]
  have tr2 : TR (deal σ.closed) σ.n (t ++ #[y]) := by
    refine tr1.deal (fun l hl => ?_) (fun g l hl => ?_) (fun g l hl => ?_) (fun l p (hl : False) => hl.elim) (Nat.le_refl _)
    · cases l with
      | cell a => have hl : σ.closed.kd a.block = .wg := hl; rcases bk a.block with k | k | k <;> rw [k] at hl <;> cases hl
      | _ => exact hl.elim
    · have fin : σ.closed.kd (blkOf l) = .own g → (∀ x : Touch, x.loc = l → ∀ a, x.loc = .cell a → a.block = blkOf l) → Perm (t ++ #[y]) g l := fun hk hb i x hx e => by
        have g0 : g = 0 := by rcases bk (blkOf l) with k | k | k <;> rw [hk] at k <;> cases k; rfl
        subst g0
        rcases known i x hx with k | ⟨a, k1, k2⟩
        · exact k
        · have := hb x e a k1
          rw [this] at k2
          have hk : (σ.kd (blkOf l)).back = .own 0 := hk
          rw [k2] at hk; cases hk
      cases l with
      | cell a =>
        rcases hl with hl | hl | ⟨_, p', e, _⟩
        · exact fin hl fun x e a' e' => by rw [e] at e'; cases e'; rfl
        · rcases bk a.block with k | k | k <;> rw [hl] at k <;> cases k
        · cases e
      | obj r =>
        rcases hl with hl | hl
        · exact fin hl fun x e a' e' => by rw [e] at e'; cases e'
        · rcases bk r with k | k | k <;> rw [hl] at k <;> cases k
      | _ => exact hl.elim
    · cases l with
      | cell a =>
        rcases hl with hl | ⟨hl, _⟩
        · refine tr1.ro (.inl ?_)
          have hl : (σ.kd a.block).back = .imm := hl
          revert hl
          cases σ.kd a.block <;> simp [Kd.back]
        · rcases bk a.block with k | k | k <;> rw [hl] at k <;> cases k
      | _ => exact hl.elim
  refine ⟨h.n1, tr2, fun j a ha hm => ?_, fun b hb => ?_, fun j => ?_, fun a => (h.nrel a).app fun op hop e => ?_, fun g h1 hg _ => ?_, fun i g x hg h0 _ hx => all i g x hg h0 hx, (fun p e => by cases e), fun b g hb => ?_, fun _ b => bk b⟩
  · rcases touch_app ha with ⟨_, h1⟩ | ⟨_, op, hop, _, hx⟩
    · exact h.low j a h1 hm
    · rw [hut op hop] at hx; cases hx
  · show (σ.kd b).back = _
    rw [h.kdl b hb]; rfl
  · rw [Deaf_quiet t j fun op hop m hm => by simp at hop; subst hop; rw [hy.2] at hm; cases hm; simp]; exact h.deaf j
  · simp at hop; subst hop; rw [hy.2] at e; cases e
  · by_cases he : g < p.c.f0
    · exact h.st1 g h1 hg ((elder_some hp).2 he)
    · have hg : g < σ.n := hg
      exact hq g (by omega) (by omega)
  · rcases bk b with k | k | k <;> rw [k] at hb <;> cases hb
    exact h.n1
theorem EnvP.acquire (h : Ok σ w t) (hj : j ≠ 0) (hn : j < σ.n) (hp : σ.ph = some p) (ht : p.tag = .fin) : EnvP j (σ, w) (σ.closed, w) := by
  have q := h.phs p hp
  have hq : AllQ σ.st p.c.f0 (σ.n - p.c.f0) := by
    obtain ⟨st, sm, _, h2⟩ := q.mode
    rw [ht] at h2
    cases h2; assumption
  have hfn := q.fn
  have e : σ.st j = 1 := by
    by_cases he : j < p.c.f0
    · exact h.st1 j (by omega) hn ((elder_some hp).2 he)
    · exact hq j (by omega) (by omega)
  cases j with
  | zero => exact absurd rfl hj
  | succ j => exact ⟨rfl, rfl, fun hs => absurd e hs, Nat.le_refl _⟩
end
end Go.Proofs.Ytkfmphlnpmemdaa.Sx
namespace Go.Proofs.Ytkfmphlnpmemdaa.Sx
open Go Go.Conc Go.ConcN
open Go.ConcR (KK wgBlock WgAt stA smA mk)
def Ev0s (Wg : Nat) (e : Event) : Prop := (e.sync = true ∧ ∃ a, e.loc = .cell a ∧ a.block = Wg) ∨ e.loc = .mark .disable ∨ e.loc = .mark .enable ∨ ∃ a, a.block = Wg ∧ (e.loc = .mark (.read a) ∨ e.loc = .mark (.write a))
def Moded (σ : Gh) (p : Ph) (s : Nat → Nat) (tag : Tg) (w' : World) : Prop := ∃ st sm, WgAt 52 p.c.Wg w' st sm ∧ Mode s p.c.f0 (σ.n - p.c.f0) tag st sm
inductive Ac : Nat → Gh × World → Gh × World → Trace → Prop
  | mem {i : Nat} {σ : Gh} {w w' : World} {u : Trace} (h1 : σ.works i) (h2 : Turns (σ.own i) w w') (h3 : ∀ op ∈ u, OpOk (σ.im i) (grow (σ.own i) w w') i op) : Ac i (σ, w) (σ.grown i w w', w') u
  | recv {i : Nat} {σ : Gh} {w w' : World} {u : Trace} {p : Ph} (hp : σ.ph = some p) (h7 : σ.st i = 7) (hf : p.c.f0 ≤ i) (hq : p.q < p.c.N) (hw : But p.c.Ch w w') (hc : ∃ s tm, w'.heap[p.c.Ch]? = some (.chan p.c.N (queue (p.q + 1) p.c.N) true s (p.q + 1) tm))
      (hu : ∀ op ∈ u, op.g = i ∧ op.act.touch? = none ∧ ∀ m, op.act ≠ .mark m) : Ac i (σ, w) (σ.took p i, w') u
  | store {i : Nat} {σ : Gh} {w w' : World} {u : Trace} {p : Ph} (hp : σ.ph = some p) (h7 : σ.st i = 7) (hf : p.c.f0 ≤ i) {k : Nat} {d : Nat → D} (htk : p.tk k = some i) (hs0 : 0 < p.c.β.s) (hw : But p.c.β.b w w')
      (hrow : BOk (σ.laid p i k d).still w' p.c.β 37 6 ⟨p.c.N, fun e => if e = k then d else p.get e⟩) (hpost : p.c.post k d)
      (hu : ∀ op ∈ u, op.g = i ∧ (∀ x, op.act.touch? = some x → ∃ a, x.loc = .cell a ∧ a.block = p.c.β.b ∧ (a.off - p.c.β.o) / 6 = k) ∧ ∀ m, op.act ≠ .mark m) : Ac i (σ, w) (σ.laid p i k d, w') u
  | rel {i : Nat} {σ : Gh} {w : World} {p : Ph} {fn : FuncId} {pos : String} (hp : σ.ph = some p) (hf : p.c.f0 ≤ i) (h7 : σ.st i = 7) (hd : σ.df i = 0) (hq : p.q = p.c.N) (hn : ∀ k, p.tk k = some i → p.dn k) :
      Ac i (σ, w) (σ.sync p (setF σ.st i 6) (setF σ.df i 0) p.tag, w) (MemOp.ofEvents i fn pos #[mk (.releaseMerge (stA p.c.Wg))])
  | say {i : Nat} {σ : Gh} {w : World} {p : Ph} {fn : FuncId} {pos : String} {es : Array Event} {v : Nat} (hp : σ.ph = some p) (hf : p.c.f0 ≤ i) (h6 : σ.st i ≤ 6) (hv : v = σ.st i ∨ (σ.st i = 6 ∧ v = 5)) (hm : ∀ e ∈ es, Event.mute e = true) :
      Ac i (σ, w) (σ.sync p (setF σ.st i v) (setF σ.df i (deafBehind (σ.df i) es)) p.tag, w) (MemOp.ofEvents i fn pos es)
  | sayE {i : Nat} {σ : Gh} {w : World} {fn : FuncId} {pos : String} {es : Array Event} (h1 : 1 ≤ i) (he : σ.elder i) (hm : ∀ e ∈ es, Event.mute e = true) :
      Ac i (σ, w) (σ.said i (deafBehind (σ.df i) es), w) (MemOp.ofEvents i fn pos es)
  | ato {i : Nat} {σ : Gh} {w w' : World} {p : Ph} {fn : FuncId} {pos : String} {es : Array Event} {v : Nat} (hp : σ.ph = some p) (hf : p.c.f0 ≤ i) (h6 : σ.st i ≤ 6) (hv : v ≤ σ.st i) (hw : But p.c.Wg w w')
      (he : ∀ k e, es[k]? = some e → (e.sync = true ∧ (∃ a, e.loc = .cell a ∧ a.block = p.c.Wg) ∧ deafBehind (σ.df i) (es.extract 0 k) ≠ 0) ∨ e.loc = .mark .disable ∨ e.loc = .mark .enable) (hm : Moded σ p (setF σ.st i v) p.tag w') : Ac i (σ, w) (σ.sync p (setF σ.st i v) (setF σ.df i (deafBehind (σ.df i) es)) p.tag, w') (MemOp.ofEvents i fn pos es)
  | syn0 {σ : Gh} {w w' : World} {p : Ph} {fn : FuncId} {pos : String} {es : Array Event} {tag : Tg} (hp : σ.ph = some p) (hw : But p.c.Wg w w') (he : ∀ e ∈ es, Ev0s p.c.Wg e) (hm : Moded σ p σ.st tag w') :
      Ac 0 (σ, w) (σ.sync p σ.st (setF σ.df 0 (deafBehind (σ.df 0) es)) tag, w') (MemOp.ofEvents 0 fn pos es)
  | opens {σ : Gh} {w w' : World} {u : Trace} {c : Ph0} {L : Nat → Prop} {get : Nat → Nat → D} (o : Opens σ w w' c L get) (hu : ∀ op ∈ u, OpOk (fun _ => False) (fun _ => False) 0 op) : Ac 0 (σ, w) (σ.opened c L get, w') u
  | acq {σ : Gh} {w : World} {p : Ph} {fn : FuncId} {pos : String} (hp : σ.ph = some p) (ht : p.tag = .fin) (hd : σ.df 0 = 0) : Ac 0 (σ, w) (σ.closed, w) (MemOp.ofEvents 0 fn pos #[mk (.acquire (stA p.c.Wg))])
theorem mem_ofEvents {i : Nat} {fn : FuncId} {pos : String} {es : Array Event} {op : MemOp} (h : op ∈ MemOp.ofEvents i fn pos es) : ∃ e ∈ es, op.g = i ∧ op.act = .ofEvent e := by
  rw [ofEvents_eq] at h
  obtain ⟨e, he, rfl⟩ := Array.mem_map.1 h
  exact ⟨e, he, rfl, rfl⟩
theorem ofEvents_one {i : Nat} {fn : FuncId} {pos : String} {e : Event} : MemOp.ofEvents i fn pos #[e] = #[{ g := i, fn, pos, act := .ofEvent e }] := by rw [ofEvents_eq]; simp
theorem Deaf_events {t : Trace} {i : Nat} {fn : FuncId} {pos : String} {es : Array Event} {df : Nat → Nat} (h : ∀ j, Deaf t j = df j) (j : Nat) : Deaf (t ++ MemOp.ofEvents i fn pos es) j = setF df i (deafBehind (df i) es) j := by
  by_cases e : j = i
  · subst e; rw [setF_same, Deaf_own, h]
  · rw [setF_ne e, Deaf_other t (g' := i) (Ne.symm e) _ fun op hop => let ⟨_, _, h, _⟩ := mem_ofEvents hop; h, h]
theorem mute_act {e : Event} (h : Event.mute e = true) : (MemAct.ofEvent e).touch? = none ∧ ∀ a, MemAct.ofEvent e ≠ .mark (.release a) := by
  obtain ⟨loc, wr, sy⟩ := e
  cases loc with
  | mark m => cases m <;> first | (cases h; done) | exact ⟨rfl, fun a h => (by cases h)⟩
  | _ => cases h
theorem atomic_act {e : Event} {a : Addr} (h : e.sync = true) (hl : e.loc = .cell a) : (MemAct.ofEvent e).touch? = some ⟨.cell a, e.write, .atomic⟩ ∧ ∀ m, MemAct.ofEvent e ≠ .mark m := by
  obtain ⟨loc, wr, sy⟩ := e
  cases h; cases hl
  exact ⟨rfl, fun m h => by cases h⟩
theorem deaf_at {t : Trace} {i : Nat} {fn : FuncId} {pos : String} {es : Array Event} {k : Nat} (hk : k ≤ es.size) : (t ++ MemOp.ofEvents i fn pos es).deaf i (t.size + k) = deafBehind (Deaf t i) (es.extract 0 k) := by
  have e : t ++ MemOp.ofEvents i fn pos es = (t ++ MemOp.ofEvents i fn pos (es.extract 0 k)) ++ MemOp.ofEvents i fn pos (es.extract k es.size) := by
    rw [Array.append_assoc]
    congr 1
    simp only [ofEvents_eq, ← Array.map_append]
    congr 1
    rw [Array.extract_append_extract, Nat.max_eq_right hk]
    simp
  have hs : (t ++ MemOp.ofEvents i fn pos (es.extract 0 k)).size = t.size + k := by simp [ofEvents_eq, hk]
  rw [e, ← hs, deaf_old (Nat.le_refl _)]
  exact Deaf_own t i fn pos _
section
variable {σ σ' : Gh} {w w' : World} {t u : Trace} {i j : Nat} {p : Ph}
theorem OpenS.set' {s : Nat → Nat} {f m : Nat} {tg : Tg} {st sm : Int} (h : Mode s f m tg st sm) {i v : Nat} (hi : f ≤ i) (hm : i < f + m) (hv : v = s i ∨ (s i = 6 ∧ v = 5)) : Mode (setF s i v) f m tg st sm := by
  rcases hv with rfl | ⟨h1, rfl⟩
  · exact h.congr fun j _ _ => by
      by_cases e : j = i
      · subst e; exact setF_same
      · exact setF_ne e
  · exact h.low hi hm (by omega) (by omega)
theorem act_keeps (hi : i < σ.n) (h : Ok σ w t) (ha : Ac i (σ, w) (σ', w') u) : Ok σ' w' (t ++ u) ∧ σ'.n = σ.n ∧ ∀ j, j < σ.n → j ≠ i → EnvP j (σ, w) (σ', w') := by
  generalize hx : (σ, w) = x at ha
  generalize hy : (σ', w') = y at ha
  cases ha with
  | mem h1 h2 h3 => cases hx; cases hy; exact ⟨h.mem hi h1 h2 h3, rfl, fun j _ hj => EnvP.mem h hj h2⟩
  | recv hp h7 hf hq hw hc hu => cases hx; cases hy; exact ⟨h.recv hi hp h7 hf hq hw hc hu, rfl, fun j _ hj => EnvP.recv h hj hp hw⟩
  | store hp h7 hf htk hs0 hw hrow hpost hu => cases hx; cases hy; exact ⟨h.store hi hp h7 hf htk hs0 hw hrow hpost hu, rfl, fun j _ hj => EnvP.store h hj hp htk hs0 hw⟩
  | @rel _ _ _ p fn pos hp hf h7 hd hq hn =>
    cases hx; cases hy
    have q := h.phs p hp
    have h0 : i ≠ 0 := by have := q.f1; omega
    have hfn := q.fn
    have e0 : setF σ.df i 0 = setF σ.df i (deafBehind (σ.df i) #[mk (.releaseMerge (stA p.c.Wg))]) := by rw [hd]; rfl
    refine ⟨h.sync hi hp (But.refl _ _) (fun op hop => ?_) (fun g hg => setF_ne hg) (fun j => by rw [e0]; exact Deaf_events h.deaf j) (fun _ => ⟨hf, by rw [setF_same]; omega⟩) (fun _ _ => ⟨t.size, ?_⟩) (fun _ _ => ⟨hq, hn⟩) ?_, rfl, fun j _ hj => EnvP.sync h hj hp (But.refl _ _) (fun g hg => setF_ne hg) (fun g hg => setF_ne hg) fun _ => ⟨rfl, by rw [setF_same, h7]; omega⟩⟩
    · obtain ⟨e, he, k1, k2⟩ := mem_ofEvents hop
      simp at he
      subst he
      exact ⟨k1, fun x hx => (by rw [k2] at hx; cases hx), fun a hx => (by rw [k2] at hx; cases hx)⟩
    · rw [ofEvents_one]
      have hy : (t ++ #[({ g := i, fn := fn, pos := pos, act := .ofEvent (mk (.releaseMerge (stA p.c.Wg))) } : MemOp)])[t.size]? = some { g := i, fn := fn, pos := pos, act := .ofEvent (mk (.releaseMerge (stA p.c.Wg))) } := by
        rw [Array.getElem?_append_right (Nat.le_refl _)]; simp
      refine ⟨by rw [act?_of hy]; rfl, by unfold Trace.g?; rw [hy]; rfl, ⟨i, by unfold Trace.g?; rw [hy]; rfl, by rw [deaf_old (Nat.le_refl _)]; exact (h.deaf i).trans hd⟩, fun j x hj hg hx => ?_⟩
      rcases touch_app hx with ⟨hl, _⟩ | ⟨_, op, hop, _, hxo⟩
      · omega
      · simp at hop; subst hop; cases hxo
    · obtain ⟨st, sm, h1, h2⟩ := q.mode
      exact ⟨st, sm, h1, h2.low hf (by omega) (by omega) (by omega)⟩
  | @say _ _ _ p fn pos es v hp hf h6 hv hm =>
    cases hx; cases hy
    have q := h.phs p hp
    have h0 : i ≠ 0 := by have := q.f1; omega
    have hfn := q.fn
    have hu : ∀ op ∈ MemOp.ofEvents i fn pos es, op.g = i ∧ op.act.touch? = none ∧ ∀ a, op.act ≠ .mark (.release a) := fun op hop => by
      obtain ⟨e, he, k1, k2⟩ := mem_ofEvents hop
      rw [k2]
      exact ⟨k1, mute_act (hm e he)⟩
    have hv6 : v ≤ σ.st i := by omega
    refine ⟨h.sync hi hp (But.refl _ _) (fun op hop => ⟨(hu op hop).1, fun x hx => (by rw [(hu op hop).2.1] at hx; cases hx), (hu op hop).2.2⟩) (fun g hg => setF_ne hg) (Deaf_events h.deaf) (fun _ => ⟨hf, by rw [setF_same]; omega⟩) (fun _ _ => ?_) (fun _ _ => q.rdy i hf hi h6) ?_, rfl, fun j _ hj => EnvP.sync h hj hp (But.refl _ _) (fun g hg => setF_ne hg) (fun g hg => setF_ne hg) fun _ => ⟨rfl, by rw [setF_same]; exact hv6⟩⟩
    · obtain ⟨r, hr⟩ := q.rel i hf hi h6
      refine ⟨r, hr.app fun j x hj hg hx => ?_⟩
      rcases touch_app hx with ⟨hl, _⟩ | ⟨_, op, hop, _, hxo⟩
      · omega
      · rw [(hu op hop).2.1] at hxo; cases hxo
    · obtain ⟨st, sm, h1, h2⟩ := q.mode
      exact ⟨st, sm, h1, OpenS.set' h2 hf (by omega) hv⟩
  | @sayE _ _ _ fn pos es h1 he hm =>
    cases hx; cases hy
    refine ⟨h.said h1 hi he (Deaf_events h.deaf) fun op hop => ?_, rfl, fun j _ hj => EnvP.said hj⟩
    obtain ⟨e, he, k1, k2⟩ := mem_ofEvents hop
    rw [k2]
    exact ⟨k1, mute_act (hm e he)⟩
  | @ato _ _ _ _ p fn pos es v hp hf h6 hv hw he hm =>
    cases hx; cases hy
    have q := h.phs p hp
    have h0 : i ≠ 0 := by have := q.f1; omega
    have hu : ∀ op ∈ MemOp.ofEvents i fn pos es, op.g = i ∧ (∀ x, op.act.touch? = some x → x.kind = .atomic ∧ ∃ a, x.loc = .cell a ∧ a.block = p.c.Wg) ∧ ∀ a, op.act ≠ .mark (.release a) := fun op hop => by
      obtain ⟨e, hee, k1, k2⟩ := mem_ofEvents hop
      rw [k2]
      refine ⟨k1, ?_⟩
      obtain ⟨k, hk⟩ := Array.mem_iff_getElem?.1 hee
      rcases he k e hk with ⟨hs, ⟨a, ha, hb⟩, _⟩ | h1 | h1
      · obtain ⟨k3, k4⟩ := atomic_act hs ha
        exact ⟨fun x hx => (by rw [k3] at hx; cases hx; exact ⟨rfl, a, rfl, hb⟩), fun a => k4 _⟩
      all_goals
        obtain ⟨loc, wr, sy⟩ := e
        cases h1
        exact ⟨fun x hx => (by cases hx), fun a hx => (by cases hx)⟩
    refine ⟨h.sync hi hp hw (fun op hop => ⟨(hu op hop).1, fun x hx => ?_, (hu op hop).2.2⟩) (fun g hg => setF_ne hg) (Deaf_events h.deaf) (fun _ => ⟨hf, by rw [setF_same]; omega⟩) (fun _ _ => ?_) (fun _ _ => q.rdy i hf hi h6) hm, rfl, fun j _ hj => EnvP.sync h hj hp hw (fun g hg => setF_ne hg) (fun g hg => setF_ne hg) fun _ => ⟨rfl, by rw [setF_same]; exact hv⟩⟩
    · obtain ⟨k1, k2⟩ := (hu op hop).2.1 x hx
      exact ⟨by rw [k1]; simp, fun e => (by rw [k1] at e; cases e), k2⟩
    · obtain ⟨r, hr⟩ := q.rel i hf hi h6
      refine ⟨r, hr.app fun j x hj hg hx => ?_⟩
      rcases touch_app hx with ⟨hl, _⟩ | ⟨_, op, hop, ho, hxo⟩
      · omega
      · obtain ⟨k1, k2⟩ := (hu op hop).2.1 x hxo
        refine ⟨k1, fun ⟨g, hg', hd'⟩ => ?_, k2⟩
        rw [hg] at hg'; cases hg'
        obtain ⟨k, rfl⟩ : ∃ k, j = t.size + k := ⟨j - t.size, by omega⟩
        have hks : k < es.size := by
          have := lt_size_of_getElem? ho
          simp [ofEvents_eq] at this
          omega
        rw [deaf_at (Nat.le_of_lt hks), h.deaf] at hd'
        have hop' : op.act = .ofEvent es[k] := by
          rw [Array.getElem?_append_right (by omega)] at ho
          simp [ofEvents_eq, hks] at ho
          rw [← ho]
        rcases he k es[k] (by simp [hks]) with ⟨_, _, h3⟩ | h1 | h1
        · exact h3 hd'
        all_goals
          rw [hop'] at hxo
          generalize es[k] = e at *
          obtain ⟨loc, wr, sy⟩ := e
          cases h1
          cases hxo
  | @syn0 _ _ _ p fn pos es tag hp hw he hm =>
    cases hx; cases hy
    refine ⟨h.sync hi hp hw (fun op hop => ?_) (fun g _ => rfl) (Deaf_events h.deaf) (fun h0 => absurd rfl h0) (fun h0 => absurd rfl h0) (fun h0 => absurd rfl h0) hm, rfl, fun j _ hj => EnvP.sync h hj hp hw (fun g _ => rfl) (fun g hg => setF_ne hg) fun h0 => absurd rfl h0⟩
    obtain ⟨e, hee, k1, k2⟩ := mem_ofEvents hop
    rw [k2]
    refine ⟨k1, ?_⟩
    rcases he e hee with ⟨hs, a, ha, hb⟩ | h1 | h1 | ⟨a, hb, h1 | h1⟩
    · obtain ⟨k3, k4⟩ := atomic_act hs ha
      exact ⟨fun x hx => (by rw [k3] at hx; cases hx; exact ⟨by simp, fun _ => rfl, a, rfl, hb⟩), fun a => k4 _⟩
    all_goals
      obtain ⟨loc, wr, sy⟩ := e
      cases h1
    · exact ⟨fun x hx => (by cases hx), fun a hx => (by cases hx)⟩
    · exact ⟨fun x hx => (by cases hx), fun a hx => (by cases hx)⟩
    · exact ⟨fun x hx => (by cases hx; exact ⟨by simp, fun _ => rfl, a, rfl, hb⟩), fun a hx => (by cases hx)⟩
    · exact ⟨fun x hx => (by cases hx; exact ⟨by simp, fun _ => rfl, a, rfl, hb⟩), fun a hx => (by cases hx)⟩
  | opens o hu => cases hx; cases hy; exact ⟨h.opens o hu, rfl, fun j hn hj => EnvP.opens h hj hn o⟩
  | @acq _ _ p fn pos hp ht hd =>
    cases hx; cases hy
    rw [ofEvents_one]
    exact ⟨h.acquire hp ht hd ⟨rfl, rfl⟩, rfl, fun j hn hj => EnvP.acquire h hj hn hp ht⟩
def Bo (x y : Gh × World) (u : Trace) : Prop :=
  ∃ (p : Ph) (a b : MemOp), x.1.ph = some p ∧ p.tag = .add ∧ x.1.df 0 = 0 ∧ x.1.n < p.c.f0 + 100 ∧ y = (x.1.born p, x.2) ∧ u = #[a, b] ∧ (a.g = 0 ∧ a.act = .go x.1.n) ∧ (b.g = x.1.n ∧ b.act = .start)
def Fi (σ : Gh) (w : World) (u : Trace) : Prop := σ.ph = none ∧ ∀ op ∈ u, OpOk (σ.im 0) (σ.own 0) 0 op
theorem Ok.at {d : Nat} (h : Ok σ w t) : Ok σ (w.at d) t :=
  ⟨h.n1, h.tr, h.low, h.kdl, h.deaf, h.nrel, h.st1, h.hand, fun p hp => let q := h.phs p hp
    ⟨q.f1, q.fn, q.fm, q.kwg, q.kch, q.kpay, q.kpaN, q.s7, q.rel, q.frs, q.stk, q.tkd, q.qn, q.rdy, q.chn, q.lnt, q.row.mono (fun _ h => h) (fun _ _ => rfl) (fun _ => rfl), q.don, q.mode⟩, h.kon, h.kno⟩
noncomputable def many (P : Program) : Pro P where
  S := Gh
  size := Gh.n
  Ok := Ok
  Env := EnvP
  Act := Ac
  Born := Bo
  quit σ i d := 1 ≤ i ∧ σ.st i = 1 ∧ σ.df i = d
  waits σ := ∃ p, σ.ph = some p ∧ p.tag = .w3 ∧ ∃ i, p.c.f0 ≤ i ∧ i < σ.n ∧ σ.st i ≠ 1
  Fin := Fi
  trans := EnvP.trans
  draw := EnvP.refl fun Im O => Rely.drew Im O _ _
  okDraw := Ok.at
  envQuit {i} _ _ _ _ d h hq := by
    obtain ⟨k, rfl⟩ : ∃ k, i = k + 1 := ⟨i - 1, by have := hq.1; omega⟩
    exact ⟨_, hq.1, (show EnvW _ _ _ from h).st ▸ hq.2.1, rfl⟩
  keepQuit {i} _ _ _ _ d h hq := by
    obtain ⟨k, rfl⟩ : ∃ k, i = k + 1 := ⟨i - 1, by have := hq.1; omega⟩
    have h' : EnvW _ _ _ := h
    exact ⟨hq.1, h'.st.trans hq.2.1, h'.df.trans hq.2.2⟩
  act hi h ha := act_keeps hi h ha
  born {σ w t σ' w' ops} h hb := by
    obtain ⟨p, a, b, hp, ht, hd, hn, e, rfl, ha, hb⟩ := hb
    cases e
    exact ⟨h.born hp ht hd hn ha hb, rfl, fun j hj h0 => EnvP.born hp h0 hj⟩
  deaf h hq := (h.deaf _).trans hq.2.2
  slip {σ w t i d es fn pos} h hq hm := by
    by_cases he : σ.elder i
    · refine ⟨_, Ac.sayE hq.1 he hm, ⟨hq.1, hq.2.1, ?_⟩, fun hw => hw⟩
      show setF σ.df i _ i = _
      rw [setF_same, hq.2.2]
    · obtain ⟨p, hp, hf⟩ : ∃ p, σ.ph = some p ∧ p.c.f0 ≤ i := Classical.byContradiction fun hn => he fun p hp => Nat.lt_of_not_le fun hl => hn ⟨p, hp, hl⟩
      refine ⟨_, Ac.say (v := σ.st i) hp hf (by rw [hq.2.1]; omega) (.inl rfl) hm, ⟨hq.1, ?_, ?_⟩, fun ⟨p', e, ht, j, a, b, c⟩ => ?_⟩
      · show setF σ.st i _ i = _
        rw [setF_same]; exact hq.2.1
      · show setF σ.df i _ i = _
        rw [setF_same, hq.2.2]
      · rw [hp] at e; cases e
        refine ⟨_, rfl, ht, j, a, b, ?_⟩
        show setF σ.st i _ j ≠ 1
        by_cases e : j = i
        · subst e; rw [setF_same]; exact c
        · rw [setF_ne e]; exact c
  alive {σ w t} h hw := by
    obtain ⟨p, hp, _, i, a, b, c⟩ := hw
    have := (h.phs p hp).f1
    exact ⟨i, by omega, b, fun d hd => c hd.2.1⟩
  fin {σ w t ops} h hf := by
    obtain ⟨hp, hu⟩ := hf
    have tr := h.tr.app (deal_fair _) (g := 0) h.n1 (u := ops) fun op hop => ⟨(hu op hop).g, fun x hx => by
      have hk := (hu op hop).touch x hx
      have hm := (hu op hop).mem x hx
      obtain ⟨loc, wr, k⟩ := x
      cases loc with
      | cell a =>
        rcases hk with hk | ⟨h1, hk | ⟨h0, _⟩⟩
        · exact .inr (.inl (.inl hk))
        · exact .inr (.inr ⟨.inl hk, h1⟩)
        · exact absurd rfl h0
      | obj r => exact .inr (.inl (.inl hk))
      | _ => cases hm⟩
    refine ⟨tr.nr, fun i g hg h0 ⟨x, hx, _, hk⟩ => ?_, fun i h1 hi => ⟨⟨_, h1, h.st1 i h1 hi fun p e => (by rw [hp] at e; cases e), rfl⟩, Deaf_other t (g' := 0) (by omega) _ fun op hop => (hu op hop).g⟩⟩
    have hh := hand_app (t := t) (u := ops) (K := fun b => σ.kd b = .free) (E := σ.elder) h.hand (fun op x hop h0 _ _ => h0 (hu op hop).g) i g x hg h0 (fun p e => by rw [hp] at e; cases e) hx
    rcases hh with ⟨q, z, h1, h2, h3⟩ | ⟨h1, h2, _⟩
    · have hgq : (t ++ ops).g? q = some 0 := by unfold Trace.g?; rw [h1]; exact congrArg some h2
      rcases h3 with rfl | h3
      · rw [hg] at hgq; cases hgq; exact absurd rfl h0
      · exact ⟨q, hgq, h3⟩
    · exact (hk.elim (fun hk => hk h1) h2).elim
end
end Go.Proofs.Ytkfmphlnpmemdaa.Sx
