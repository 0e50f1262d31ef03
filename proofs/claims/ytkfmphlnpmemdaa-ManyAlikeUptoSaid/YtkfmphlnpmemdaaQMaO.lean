import Derived.Test.YtkfmphlnpmemdaaQMaK
import Derived.Test.YtkfmphlnpmemdaaQMaN
import Derived.Test.YtkfmphlnpmemdaaQCoN
set_option linter.unusedVariables false
set_option linter.unusedSimpArgs false
namespace Go.Proofs.Ytkfmphlnpmemdaa.Sx
open Go Go.Conc Go.ConcN
open Go.ConcR (KK wgBlock WgAt stA smA rd wr mk DC0)
section
variable {P : Program} {i : Nat}
structure Wx (i : Nat) (c : Ph0) (s d : Nat) (σ : Gh) (w : World) : Prop where
  st : σ.st i = s
  df : σ.df i = d
  ph : ∃ p, σ.ph = some p ∧ p.c = c
  f0 : 1 ≤ c.f0 ∧ c.f0 ≤ i
  hn : i < σ.n
theorem Wx.env {c : Ph0} {s d : Nat} {σ σ₁ : Gh} {w w₁ : World} (h : Wx i c s d σ w) (hs : s ≠ 1) (he : EnvP i (σ, w) (σ₁, w₁)) : Wx i c s d σ₁ w₁ := by
  obtain ⟨k, rfl⟩ : ∃ k, i = k + 1 := ⟨i - 1, by have := h.f0; omega⟩
  have he : EnvW _ _ _ := he
  obtain ⟨p, hp, hc⟩ := h.ph
  obtain ⟨p', hp', hc', _⟩ := (he.run (by show σ.st (k + 1) ≠ 1; rw [h.st]; exact hs)).1 p hp
  exact ⟨he.st.trans h.st, he.df.trans h.df, ⟨p', hp', hc'.trans hc⟩, h.f0, Nat.lt_of_lt_of_le h.hn he.n⟩
theorem WgAt.live {c : Ph0} {σ : Gh} {w : World} {t : Trace} (ho : Ok σ w t) {p : Ph} (hp : σ.ph = some p) : WgLive 52 p.c.Wg w := let ⟨st, sm, h, _⟩ := (ho.phs p hp).mode; ⟨st, sm, h⟩
theorem goesW (h1 : 1 ≤ i) {Wg : Nat} {J : Gh → World → Prop} (hE : ∀ σ w σ₁ w₁, J σ w → EnvP i (σ, w) (σ₁, w₁) → J σ₁ w₁) (hL : ∀ σ w t, J σ w → Ok σ w t → WgLive 52 Wg w)
    (hA : ∀ σ w t fn pos, J σ w → Ok σ w t → ∃ σ', Ac i (σ, w) (σ', w) (MemOp.ofEvents i fn pos #[]) ∧ J σ' w ∧ ((many P).waits σ → (many P).waits σ')) (hq : ∀ σ w d, J σ w → ¬ (many P).quit σ i d)
    {Stop : Goroutine → World → Prop} (hS : ∀ σ g w, J σ w → (∀ w₁, Rl 52 Wg w w₁ → Stop g w₁) → WLife (many P) i σ g w) : ∀ (n : Nat) (g : Goroutine) (w : World), Goes P false (Rl 52 Wg) DC0 Stop n g w → ∀ σ, J σ w → WLife (many P) i σ g w
  | 0, g, w, h, σ, hJ => hS σ g w hJ h
  | n + 1, g, w, h, σ, hJ => by
    rcases h with h | ⟨hs, h⟩
    · exact hS σ g w hJ h
    · refine WLife.mk hs (fun d => hq σ w d hJ) fun σ₁ w₁ he ⟨t, ho⟩ => ?_
      have hJ1 := hE σ w σ₁ w₁ hJ he
      have hk := h w₁ fun _ => hL σ₁ w₁ t hJ1 ho
      generalize hst : stepG P false g w₁ = s at hk
      cases s with
      | go g' w' es =>
        obtain ⟨⟨rfl, rfl⟩, hg⟩ := hk
        obtain ⟨σ', k1, k2, k3⟩ := hA σ₁ w' t g.frame.fn g.frame.place hJ1 ho
        exact ⟨g', w', _, _, σ', Moves.go (by rw [show (i == 0) = false by simp; omega]; exact hst), k1, fun hw => .inl (k3 hw), goesW h1 hE hL hA hq hS n g' w' hg σ' k2⟩
      | _ => exact hk.elim
theorem Wx.idle {c : Ph0} {s d : Nat} {σ : Gh} {w : World} (h : Wx i c s d σ w) (h6 : s ≤ 6) (fn : FuncId) (pos : String) : ∃ σ', Ac i (σ, w) (σ', w) (MemOp.ofEvents i fn pos #[]) ∧ Wx i c s d σ' w ∧ ((many P).waits σ → (many P).waits σ') := by
  obtain ⟨p, hp, rfl⟩ := h.ph
  refine ⟨_, Ac.say (v := σ.st i) hp h.f0.2 (by rw [h.st]; exact h6) (.inl rfl) (fun e he => absurd he (Array.not_mem_empty _)), ⟨?_, ?_, ⟨_, rfl, rfl⟩, h.f0, h.hn⟩, fun ⟨p', e, ht, j, a, b, cc⟩ => ?_⟩
  · show setF σ.st i _ i = _
    rw [setF_same]; exact h.st
  · show setF σ.df i _ i = _
    rw [setF_same, h.df]; rfl
  · rw [hp] at e; cases e
    refine ⟨_, rfl, ht, j, a, b, ?_⟩
    show setF σ.st i _ j ≠ 1
    by_cases e : j = i
    · subst e; rw [setF_same]; exact cc
    · rw [setF_ne e]; exact cc
theorem Wx.goes {c : Ph0} {s d : Nat} (h6 : s ≤ 6) (hs : s ≠ 1) {Stop : Goroutine → World → Prop} (hS : ∀ σ g w, Wx i c s d σ w → (∀ w₁, Rl 52 c.Wg w w₁ → Stop g w₁) → WLife (many P) i σ g w) {n : Nat} {g : Goroutine} {w : World} (h : Goes P false (Rl 52 c.Wg) DC0 Stop n g w) {σ : Gh} (hJ : Wx i c s d σ w) : WLife (many P) i σ g w :=
  goesW (by have := hJ.f0; omega) (fun _ _ _ _ h he => h.env hs he) (fun σ w t h ho => let ⟨p, hp, hc⟩ := h.ph; hc ▸ WgAt.live (c := c) ho hp) (fun σ w t fn pos h _ => h.idle h6 fn pos) (fun σ w d' h hq => hs (h.st.symm.trans hq.2.1)) hS n g w h σ hJ
theorem Wx.mode {c : Ph0} {s d : Nat} {σ : Gh} {w : World} {t : Trace} (h : Wx i c s d σ w) (ho : Ok σ w t) : ∃ p st sm, σ.ph = some p ∧ p.c = c ∧ WgAt 52 c.Wg w st sm ∧ Mode σ.st c.f0 (σ.n - c.f0) p.tag st sm ∧ i < c.f0 + (σ.n - c.f0) := by
  obtain ⟨p, hp, rfl⟩ := h.ph
  obtain ⟨st, sm, h1, h2⟩ := (ho.phs p hp).mode
  exact ⟨p, st, sm, hp, rfl, h1, h2, by have := h.f0; have := h.hn; omega⟩
theorem But.setSt {ty : TypeId} {Wg : Nat} {w : World} (v : Value) (a : Addr) (ha : a.block = Wg) : But Wg w (w.setCell a v) := ⟨rfl, rfl, rfl, by simp, fun b hb => heap_setCell_other w a b v fun e => hb (e.trans ha)⟩
theorem last_only {s : Nat → Nat} {f m L : Nat} {tg : Tg} {st sm : Int} (h : Mode s f m tg st sm) (h1 : f ≤ L) (h2 : L < f + m) (hL : s L = 4 ∨ s L = 3 ∨ s L = 2) : tg = .w3 ∧ st = (if s L = 2 then 0 else 1) ∧ sm = 0 ∧ ∀ i, f ≤ i → i < f + m → i ≠ L → s i = 1 := by
  cases h with
  | opn h => rcases h L h1 h2 with h | h | h | h <;> omega
  | add h => rcases h L h1 h2 with h | h | h | h <;> omega
  | reg h _ => rcases h L h1 h2 with h | h | h | h <;> omega
  | last L' a b c' e =>
    have : L = L' := Classical.byContradiction fun hn => by have := e L h1 h2 hn; omega
    subst this
    exact ⟨rfl, rfl, rfl, e⟩
  | sema h => have := h L h1 h2; omega
  | fin h => have := h L h1 h2; omega
theorem again_all {g g' : Goroutine} {w' : World} {q d : Nat} (hm : mayWake P g = true) (hq : QuitsD P q (d + 1) g') : ∀ o, woken P g g' w' o = o.again w' := fun o => by
  have hs : g'.status = .running := by
    cases q with
    | zero => exact absurd hq.2 (by omega)
    | succ q => exact hq.elim (fun h => absurd h.2 (by omega)) fun h => h.1
  unfold woken
  simp [hm, hs]
end
section
variable {P : Program} {i : Nat} {c : Ph0}
theorem pos_false {i : Nat} (h : 1 ≤ c.f0 ∧ c.f0 ≤ i) : (i == 0) = false := by simp; omega
theorem setF_rest {s : Nat → Nat} {f m v : Nat} (h : ∀ j, f ≤ j → j < f + m → j ≠ i → s j = 1) (hv : v = 1) : AllQ (setF s i v) f m := fun j a b => by
  by_cases e : j = i
  · subst e; rw [setF_same]; exact hv
  · rw [setF_ne e]; exact h j a b e
theorem Moded.last {σ : Gh} {p : Ph} {w : World} {v : Nat} (ht : p.tag = .w3) (hi : p.c.f0 ≤ i) (hlt : i < p.c.f0 + (σ.n - p.c.f0)) (hoth : ∀ j, p.c.f0 ≤ j → j < p.c.f0 + (σ.n - p.c.f0) → j ≠ i → σ.st j = 1) (hv : v = 4 ∨ v = 3 ∨ v = 2)
    (hw : WgAt 52 p.c.Wg w (if v = 2 then 0 else 1) 0) : Moded σ p (setF σ.st i v) p.tag w := by
  refine ⟨_, _, hw, ?_⟩
  rw [ht]
  have := Mode.last (s := setF σ.st i v) (f := p.c.f0) (m := σ.n - p.c.f0) i hi hlt (by rw [setF_same]; exact hv) fun j a b e => by rw [setF_ne e]; exact hoth j a b e
  rwa [setF_same] at this
theorem tail4 {σ : Gh} {g : Goroutine} {w : World} (hx : Wx i c 2 1 σ w) (hst : ∀ w₁, Rl 52 c.Wg w w₁ → Wd4 P 52 c.Wg g w₁) : WLife (many P) i σ g w := by
  refine WLife.mk (hst w fun h => h).1 (fun d hq => by have := hx.st.symm.trans hq.2.1; omega) fun σ₁ w₁ he ⟨t, ho⟩ => ?_
  have hx1 := hx.env (by decide) he
  obtain ⟨p, st, sm, hp, rfl, hw, hm, hlt⟩ := hx1.mode ho
  obtain ⟨ht, e1, e2, hoth⟩ := last_only hm hx1.f0.2 hlt (.inr (.inr hx1.st))
  rw [if_pos hx1.st] at e1
  subst e1 e2
  obtain ⟨_, hmw, hgo⟩ := hst w₁ fun _ => ⟨_, _, hw⟩
  obtain ⟨g', hs, q, hq⟩ := hgo hw
  refine ⟨g', _, _, _, _, Moves.go (by rw [pos_false hx1.f0]; exact hs), Ac.ato (v := 1) hp hx1.f0.2 (by rw [hx1.st]; omega) (by rw [hx1.st]; omega) (But.setSt (ty := 52) _ _ rfl) (fun k e hk => ?_) ⟨0, 1, hw.setSm 1, by rw [ht]; exact .sema (setF_rest hoth rfl)⟩, fun _ => .inr (again_all hmw hq), WLife.quits hq ⟨by have := hx1.f0; omega, setF_same, ?_⟩⟩
  · have hs4 : (semEvents (smA p.c.Wg)).size = 4 := rfl
    have hk4 : k < 4 := by
      have := (Array.getElem?_eq_some_iff.1 hk).1
      rw [hs4] at this; exact this
    rw [hx1.df]
    match k, hk4 with
    | 0, _ => cases hk; exact .inr (.inl rfl)
    | 1, _ => cases hk; exact .inl ⟨rfl, ⟨_, rfl, rfl⟩, by simp [deafBehind, semEvents, rd, wr]⟩
    | 2, _ => cases hk; exact .inl ⟨rfl, ⟨_, rfl, rfl⟩, by simp [deafBehind, semEvents, rd, wr]⟩
    | 3, _ => cases hk; exact .inr (.inr rfl)
  · show setF σ₁.df i _ i = 1
    rw [setF_same, hx1.df]; rfl
theorem tail3 {σ : Gh} {g : Goroutine} {w : World} (hx : Wx i c 3 1 σ w) (hst : ∀ w₁, Rl 52 c.Wg w w₁ → Wd3 P 52 c.Wg g w₁) : WLife (many P) i σ g w := by
  refine WLife.mk (hst w fun h => h).1 (fun d hq => by have := hx.st.symm.trans hq.2.1; omega) fun σ₁ w₁ he ⟨t, ho⟩ => ?_
  have hx1 := hx.env (by decide) he
  obtain ⟨p, st, sm, hp, rfl, hw, hm, hlt⟩ := hx1.mode ho
  obtain ⟨ht, e1, e2, hoth⟩ := last_only hm hx1.f0.2 hlt (.inr (.inl hx1.st))
  rw [if_neg (by rw [hx1.st]; omega)] at e1
  subst e1 e2
  obtain ⟨_, hgo⟩ := hst w₁ fun _ => ⟨_, _, hw⟩
  obtain ⟨g', hs, m, hg⟩ := hgo hw
  refine ⟨g', _, _, _, _, Moves.go (by rw [pos_false hx1.f0]; exact hs), Ac.ato (v := 2) hp hx1.f0.2 (by rw [hx1.st]; omega) (by rw [hx1.st]; omega) (But.setSt (ty := 52) _ _ rfl) (fun k e hk => ?_) (Moded.last ht hx1.f0.2 hlt hoth (.inr (.inr rfl)) (hw.setSt 0)), fun _ => .inl ⟨_, rfl, ht, i, hx1.f0.2, hx1.hn, ?_⟩,
    Wx.goes (by omega) (by omega) (fun σ g w h hs => tail4 h hs) hg ⟨setF_same, ?_, ⟨_, rfl, rfl⟩, hx1.f0, hx1.hn⟩⟩
  · match k with
    | 0 => cases hk; rw [hx1.df]; exact .inl ⟨rfl, ⟨_, rfl, rfl⟩, by simp [deafBehind, semEvents, rd, wr]⟩
    | k + 1 => cases hk
  · show setF σ₁.st i 2 i ≠ 1
    rw [setF_same]; decide
  · show setF σ₁.df i _ i = 1
    rw [setF_same, hx1.df]; rfl
theorem tail2 {σ : Gh} {g : Goroutine} {w : World} (hx : Wx i c 4 1 σ w) (hst : ∀ w₁, Rl 52 c.Wg w w₁ → Wd2 P 52 c.Wg g w₁) : WLife (many P) i σ g w := by
  refine WLife.mk (hst w fun h => h).1 (fun d hq => by have := hx.st.symm.trans hq.2.1; omega) fun σ₁ w₁ he ⟨t, ho⟩ => ?_
  have hx1 := hx.env (by decide) he
  obtain ⟨p, st, sm, hp, rfl, hw, hm, hlt⟩ := hx1.mode ho
  obtain ⟨ht, e1, e2, hoth⟩ := last_only hm hx1.f0.2 hlt (.inl hx1.st)
  rw [if_neg (by rw [hx1.st]; omega)] at e1
  subst e1 e2
  obtain ⟨_, hgo⟩ := hst w₁ fun _ => ⟨_, _, hw⟩
  obtain ⟨g', hs, m, hg⟩ := hgo hw
  refine ⟨g', _, _, _, _, Moves.go (by rw [pos_false hx1.f0]; exact hs), Ac.ato (v := 3) hp hx1.f0.2 (by rw [hx1.st]; omega) (by rw [hx1.st]; omega) (But.refl _ _) (fun k e hk => ?_) (Moded.last ht hx1.f0.2 hlt hoth (.inr (.inl rfl)) hw), fun _ => .inl ⟨_, rfl, ht, i, hx1.f0.2, hx1.hn, ?_⟩,
    Wx.goes (by omega) (by omega) (fun σ g w h hs => tail3 h hs) hg ⟨setF_same, ?_, ⟨_, rfl, rfl⟩, hx1.f0, hx1.hn⟩⟩
  · match k with
    | 0 => cases hk; rw [hx1.df]; exact .inl ⟨rfl, ⟨_, rfl, rfl⟩, by simp [deafBehind, semEvents, rd, wr]⟩
    | k + 1 => cases hk
  · show setF σ₁.st i 3 i ≠ 1
    rw [setF_same]; decide
  · show setF σ₁.df i _ i = 1
    rw [setF_same, hx1.df]; rfl
theorem tail1 {σ : Gh} {g : Goroutine} {w : World} (hx : Wx i c 5 1 σ w) (hst : ∀ w₁, Rl 52 c.Wg w w₁ → Wd1 P 52 c.Wg g w₁) : WLife (many P) i σ g w := by
  refine WLife.mk (hst w fun h => h).1 (fun d hq => by have := hx.st.symm.trans hq.2.1; omega) fun σ₁ w₁ he ⟨t, ho⟩ => ?_
  have hx1 := hx.env (by decide) he
  obtain ⟨p, st, sm, hp, rfl, hw, hm, hlt⟩ := hx1.mode ho
  have hvc := vc_one (s := σ₁.st) hx1.f0.2 hlt (by rw [hx1.st]; omega)
  have hm100 := (ho.phs p hp).fm
  have hle := vc_le σ₁.st p.c.f0 (σ₁.n - p.c.f0)
  have hset : ∀ v, v < 5 → vc (setF σ₁.st i v) p.c.f0 (σ₁.n - p.c.f0) + 1 = vc σ₁.st p.c.f0 (σ₁.n - p.c.f0) := fun v hv => by
    have := vc_set (s := σ₁.st) (v := v) hx1.f0.2 hlt
    rw [if_pos (by rw [hx1.st]; omega), if_neg (by omega)] at this
    omega
  have evs : ∀ k e, (#[rd (stA p.c.Wg), wr (stA p.c.Wg)] : Array Event)[k]? = some e → (e.sync = true ∧ (∃ a, e.loc = .cell a ∧ a.block = p.c.Wg) ∧ deafBehind (σ₁.df i) ((#[rd (stA p.c.Wg), wr (stA p.c.Wg)] : Array Event).extract 0 k) ≠ 0) ∨ e.loc = .mark .disable ∨ e.loc = .mark .enable := fun k e hk => by
    rw [hx1.df]
    match k with
    | 0 => cases hk; exact .inl ⟨rfl, ⟨_, rfl, rfl⟩, by simp [deafBehind, semEvents, rd, wr]⟩
    | 1 => cases hk; exact .inl ⟨rfl, ⟨_, rfl, rfl⟩, by simp [deafBehind, semEvents, rd, wr]⟩
    | k + 2 => cases hk
  have hdf : ∀ v, (σ₁.sync p (setF σ₁.st i v) (setF σ₁.df i (deafBehind (σ₁.df i) #[rd (stA p.c.Wg), wr (stA p.c.Wg)])) p.tag).df i = 1 := fun v => by
    show setF σ₁.df i _ i = 1
    rw [setF_same, hx1.df]; rfl
  obtain ⟨_, hgo⟩ := hst w₁ fun _ => ⟨_, _, hw⟩
  
  have leave : ∀ v wt : Nat, wt ≤ 1 → v < 2147483647 → WgAt 52 p.c.Wg w₁ ((v + 1) * KK + wt) 0 → ¬ (v = 0 ∧ wt = 1) → Mode (setF σ₁.st i 1) p.c.f0 (σ₁.n - p.c.f0) p.tag (v * KK + wt) 0 →
      ((many P).waits σ₁ → ∃ j, p.c.f0 ≤ j ∧ j < σ₁.n ∧ setF σ₁.st i 1 j ≠ 1) →
      ∃ g' w' ops wk σ', Moves P i g w₁ g' w' ops wk ∧ Ac i (σ₁, w₁) (σ', w') ops ∧ ((many P).waits σ₁ → (many P).waits σ' ∨ ∀ o, wk o = o.again w') ∧ WLife (many P) i σ' g' w' := fun v wt h1 h2 h3 h4 h5 h6 => by
    obtain ⟨g', hs, _, hq⟩ := hgo v wt h1 h2 h3
    obtain ⟨q, hq⟩ := hq h4
    refine ⟨g', _, _, _, _, Moves.go (by rw [pos_false hx1.f0]; exact hs), Ac.ato (v := 1) hp hx1.f0.2 (by rw [hx1.st]; omega) (by rw [hx1.st]; omega) (But.setSt (ty := 52) _ _ rfl) evs ⟨_, 0, h3.setSt _, h5⟩, fun hwt => .inl ?_, WLife.quits hq ⟨by have := hx1.f0; omega, setF_same, hdf 1⟩⟩
    obtain ⟨j, a, b, cc⟩ := h6 hwt
    obtain ⟨p', e, ht, _⟩ := hwt
    rw [hp] at e; cases e
    exact ⟨_, rfl, ht, j, a, b, cc⟩
  obtain ⟨v, hv⟩ : ∃ v, vc σ₁.st p.c.f0 (σ₁.n - p.c.f0) = v + 1 := ⟨_ - 1, (Nat.sub_add_cancel hvc).symm⟩
  have hv1 : vc (setF σ₁.st i 1) p.c.f0 (σ₁.n - p.c.f0) = v := by have := hset 1 (by omega); omega
  generalize htg : p.tag = tg at *
  have nowait : tg ≠ .w3 → (many P).waits σ₁ → ∃ j, p.c.f0 ≤ j ∧ j < σ₁.n ∧ setF σ₁.st i 1 j ≠ 1 := fun hn ⟨p', e, ht, _⟩ => by
    rw [hp] at e; cases e
    exact absurd (htg.symm.trans ht) hn
  cases hm with
  | opn h =>
    rw [hv] at hw
    refine leave v 0 (by omega) (by omega) (by simpa using hw) (by omega) ?_ (nowait (by simp))
    have := Mode.opn (h.set (i := i) (v := 1) (by omega))
    rw [hv1] at this
    simpa using this
  | add h =>
    rw [hv] at hw
    refine leave (v + 1) 0 (by omega) (by omega) (by simpa using hw) (by omega) ?_ (nowait (by simp))
    have := Mode.add (h.set (i := i) (v := 1) (by omega))
    rw [hv1] at this
    simpa using this
  | reg h h1 =>
    rw [hv] at hw
    by_cases hv0 : v = 0
    · subst hv0
      obtain ⟨g', hs, hq, _⟩ := hgo 0 1 (by omega) (by omega) (by simpa using hw)
      obtain ⟨m, hg⟩ := hq ⟨rfl, rfl⟩
      have z : ((0 : Nat) : Int) * KK + ((1 : Nat) : Int) = 1 := by simp
      rw [z] at hs hg
      have hoth : ∀ j, p.c.f0 ≤ j → j < p.c.f0 + (σ₁.n - p.c.f0) → j ≠ i → σ₁.st j = 1 := fun j a b e => by
        rcases h j a b with h5 | h5 | h5 | h5
        · have := vc_one (s := setF σ₁.st i 1) a b (by rw [setF_ne e]; omega); omega
        · have := vc_one (s := setF σ₁.st i 1) a b (by rw [setF_ne e]; omega); omega
        · have := vc_one (s := setF σ₁.st i 1) a b (by rw [setF_ne e]; omega); omega
        · exact h5
      refine ⟨g', _, _, _, _, Moves.go (by rw [pos_false hx1.f0]; exact hs), Ac.ato (v := 4) hp hx1.f0.2 (by rw [hx1.st]; omega) (by rw [hx1.st]; omega) (But.setSt (ty := 52) _ _ rfl) evs (Moded.last htg hx1.f0.2 hlt hoth (.inl rfl) (hw.setSt 1)), fun _ => .inl ⟨_, rfl, htg, i, hx1.f0.2, hx1.hn, ?_⟩,
        Wx.goes (by omega) (by omega) (fun σ g w h hs => tail2 h hs) hg ⟨setF_same, (by show setF σ₁.df i _ i = 1; rw [setF_same, hx1.df]; rfl), ⟨_, rfl, rfl⟩, hx1.f0, hx1.hn⟩⟩
      show setF σ₁.st i 4 i ≠ 1
      rw [setF_same]; decide
    · refine leave v 1 (by omega) (by omega) (by simpa using hw) (by omega) ?_ fun _ => ?_
      · have := Mode.reg (h.set (i := i) (v := 1) (by omega)) (by omega)
        rw [hv1] at this
        simpa using this
      · obtain ⟨j, a, b, c5⟩ := vc_pos (s := setF σ₁.st i 1) (f := p.c.f0) (m := σ₁.n - p.c.f0) (by omega)
        exact ⟨j, a, by have := (ho.phs p hp).fn; omega, by omega⟩
  | last L h1 h2 h3 h4 =>
    by_cases e : i = L
    · subst e; rw [hx1.st] at h3; omega
    · have := h4 i hx1.f0.2 hlt e; rw [hx1.st] at this; omega
  | sema h => have := h i hx1.f0.2 hlt; rw [hx1.st] at this; omega
  | fin h => have := h i hx1.f0.2 hlt; rw [hx1.st] at this; omega
theorem tailK {σ : Gh} {g : Goroutine} {w : World} (hx : Wx i c 6 0 σ w) (hst : ∀ w₁, Rl 52 c.Wg w w₁ → At1 P false 52 c.Wg (mk .disable) (Wd1 P 52 c.Wg) g w₁) : WLife (many P) i σ g w := by
  refine WLife.mk (hst w fun h => h).1 (fun d hq => by have := hx.st.symm.trans hq.2.1; omega) fun σ₁ w₁ he ⟨t, ho⟩ => ?_
  have hx1 := hx.env (by decide) he
  obtain ⟨p, hp, rfl⟩ := hx1.ph
  obtain ⟨_, g', hs, m, hg⟩ := hst w₁ fun _ => WgAt.live (c := p.c) ho hp
  refine ⟨g', _, _, _, _, Moves.go (by rw [pos_false hx1.f0]; exact hs), Ac.say (v := 5) hp hx1.f0.2 (by rw [hx1.st]; omega) (.inr ⟨hx1.st, rfl⟩) (fun e he => by simp at he; subst he; rfl), fun hw => .inl ?_,
    Wx.goes (by omega) (by omega) (fun σ g w h hs => tail1 h hs) hg ⟨setF_same, ?_, ⟨_, rfl, rfl⟩, hx1.f0, hx1.hn⟩⟩
  · obtain ⟨p', e, ht, j, a, b, cc⟩ := hw
    rw [hp] at e; cases e
    refine ⟨_, rfl, ht, j, a, b, ?_⟩
    show setF σ₁.st i 5 j ≠ 1
    by_cases e : j = i
    · subst e; rw [setF_same]; decide
    · rw [setF_ne e]; exact cc
  · show setF σ₁.df i _ i = 1
    rw [setF_same, hx1.df]; rfl
theorem tailR {σ : Gh} {g : Goroutine} {w : World} (hx : Wx i c 7 0 σ w) (hall : ∀ σ₁ w₁, EnvP i (σ, w) (σ₁, w₁) → ∀ t, Ok σ₁ w₁ t → ∀ p, σ₁.ph = some p → p.q = p.c.N ∧ ∀ k, p.tk k = some i → p.dn k)
    (hst : ∀ w₁, Rl 52 c.Wg w w₁ → At1 P false 52 c.Wg (mk (.releaseMerge (stA c.Wg))) (At1 P false 52 c.Wg (mk .disable) (Wd1 P 52 c.Wg)) g w₁) : WLife (many P) i σ g w := by
  refine WLife.mk (hst w fun h => h).1 (fun d hq => by have := hx.st.symm.trans hq.2.1; omega) fun σ₁ w₁ he ⟨t, ho⟩ => ?_
  have hx1 := hx.env (by decide) he
  obtain ⟨p, hp, rfl⟩ := hx1.ph
  obtain ⟨_, g', hs, m, hg⟩ := hst w₁ fun _ => WgAt.live (c := p.c) ho hp
  obtain ⟨hq, hn⟩ := hall σ₁ w₁ he t ho p hp
  refine ⟨g', _, _, _, _, Moves.go (by rw [pos_false hx1.f0]; exact hs), Ac.rel hp hx1.f0.2 hx1.st hx1.df hq hn, fun hw => .inl ?_,
    Wx.goes (by omega) (by omega) (fun σ g w h hs => tailK h hs) hg ⟨setF_same, setF_same, ⟨_, rfl, rfl⟩, hx1.f0, hx1.hn⟩⟩
  obtain ⟨p', e, ht, j, a, b, cc⟩ := hw
  rw [hp] at e; cases e
  refine ⟨_, rfl, ht, j, a, b, ?_⟩
  show setF σ₁.st i 6 j ≠ 1
  by_cases e : j = i
  · subst e; rw [setF_same]; decide
  · rw [setF_ne e]; exact cc
end
section
variable {P : Program} {main : Mn} {Im : Nat → Prop} {ops : Array Oper} {md : Region.Mode} {S : Array Bool → World → (Nat → Prop) → Prop} {QS : Act → World → (Nat → Prop) → Prop} {leaf : Nat}
theorem GoesO.opi {b : Frame} {k : List Item} {cs : List Frame} {i : Nat} {rest : List Nat} {K : Act → World → (Nat → Prop) → Prop} {a : Act} {w : World} {O : Nat → Prop} (hk : b.kind ≠ .early) (h : opiO P main Im ops i K a w O)
    (hn : ∀ a' w' O', K a' w' O' → GoesO P main.b Im main.Stop O' (G (b.at a' (.inRegion ops rest :: k)) cs) w') : GoesO P main.b Im main.Stop O (G (b.at a (.inRegion ops (i :: rest) :: k)) cs) w := by
  unfold opiO at h
  split at h
  · exact h.elim
  · rename_i o ho
    split at h
    · rename_i hw
      refine .one rfl fun w₁ h₁ => ?_
      have hh := h w₁ h₁
      generalize hr : (execOp a.eval o).run P w₁ = r at hh
      cases r with
      | halt x w' => exact hh.elim
      | ok n w' =>
        cases n <;> first | exact hh.elim | skip
        · exact ⟨_, _, _, stepG_value ho hw hk hr, hh.1.seen P b.fn, hn _ _ _ hh.2⟩
        · exact ⟨_, _, _, stepG_none ho hw hk hr, hh.1.seen P b.fn, hn _ _ _ hh.2⟩
        · obtain ⟨rfl, he, hcall⟩ := hh
          refine ⟨_, _, _, stepG_enter ho hw hk hr, ?_, ?_⟩
          · unfold listed; rw [he]; exact (Guar.idle _ _ _).seen P b.fn
          · rw [grow_self]
            exact GoesO.enter ho hcall fun v w' O' q => hn _ _ _ q
    · rename_i hw
      exact .move rfl (fun w₁ => stepG_unwanted ho (by simpa using hw)) (hn _ _ _ h)
def anyS (P : Program) (main : Mn) (Im : Nat → Prop) (md : Region.Mode) (ops : Array Oper) (QS : Act → World → (Nat → Prop) → Prop) (S : Array Bool → World → (Nat → Prop) → Prop) (leaf : Nat) : Nat → Array Bool → Act → World → (Nat → Prop) → Prop
  | 0, _, _, _, _ => False
  | fuel + 1, listed, a, w, O => (Region.ready md ops listed = [leaf] ∧ Region.ready md ops (listed.setIfInBounds leaf true) = [] ∧ QS a w O) ∨
    (Region.ready md ops listed ≠ [] ∧ leaf ∉ Region.ready md ops listed ∧ ∀ i ∈ Region.ready md ops listed, opiO P main Im ops i (fun a' w' O' => S (listed.setIfInBounds i true) w' O' ∧ anyS P main Im md ops QS S leaf fuel (listed.setIfInBounds i true) a' w' O') a w O)
theorem go_nil {fuel t : Nat} {listed : Array Bool} (h : Region.ready md ops listed = []) : Region.linearise.go md ops fuel t listed [] = [] := by
  cases fuel with
  | zero => simp [Region.linearise.go]
  | succ f =>
    simp only [Region.linearise.go]
    change (match (Region.ready md ops listed)[t % (Region.ready md ops listed).length]? with
      | some i => Region.linearise.go md ops f (t / (Region.ready md ops listed).length) (listed.setIfInBounds i true) [i]
      | none => [].reverse) = []
    rw [h]; rfl
theorem anyS_sound {b : Frame} {k : List Item} {cs : List Frame} (hk : b.kind ≠ .early) (hQ : ∀ a w O, QS a w O → GoesO P main.b Im main.Stop O (G (b.at a (.inRegion ops [leaf] :: k)) cs) w) :
    ∀ (fuel t : Nat) (listed : Array Bool) (a : Act) (w : World) (O : Nat → Prop), anyS P main Im md ops QS S leaf fuel listed a w O →
      GoesO P main.b Im main.Stop O (G (b.at a (.inRegion ops (Region.linearise.go md ops fuel t listed []) :: k)) cs) w
  | 0, _, _, _, _, _, h => h.elim
  | fuel + 1, t, listed, a, w, O, h => by
    simp only [Region.linearise.go]
    change GoesO P main.b Im main.Stop O (G (b.at a (.inRegion ops (match (Region.ready md ops listed)[t % (Region.ready md ops listed).length]? with
      | some i => Region.linearise.go md ops fuel (t / (Region.ready md ops listed).length) (listed.setIfInBounds i true) [i]
      | none => [].reverse) :: k)) cs) w
    rcases h with ⟨h1, h2, h3⟩ | ⟨h1, h2, h3⟩
    · rw [h1]
      simp only [List.length_cons, List.length_nil, Nat.zero_add, Nat.mod_one, List.getElem?_cons_zero]
      rw [linearise_go_acc, go_nil h2]
      exact hQ _ _ _ h3
    · have hpos : 0 < (Region.ready md ops listed).length := List.length_pos_iff.2 h1
      have hlt : t % (Region.ready md ops listed).length < (Region.ready md ops listed).length := Nat.mod_lt _ hpos
      rw [List.getElem?_eq_getElem hlt]
      simp only []
      rw [linearise_go_acc, List.reverse_singleton, List.singleton_append]
      exact GoesO.opi hk (h3 _ (List.getElem_mem hlt)) fun a' w' O' x => anyS_sound hk hQ fuel _ _ a' w' O' x.2
theorem anyS_rely (hSR : ∀ L w w₁ O, S L w O → Rely Im O w w₁ → S L w₁ O) (hQR : ∀ a w w₁ O, QS a w O → Rely Im O w w₁ → QS a w₁ O) :
    ∀ (fuel : Nat) (listed : Array Bool) (a : Act) (w w₁ : World) (O : Nat → Prop), anyS P main Im md ops QS S leaf fuel listed a w O → Rely Im O w w₁ → anyS P main Im md ops QS S leaf fuel listed a w₁ O
  | 0, _, _, _, _, _, h, _ => h
  | fuel + 1, listed, a, w, w₁, O, h, r => by
    rcases h with ⟨h1, h2, h3⟩ | ⟨h1, h2, h3⟩
    · exact .inl ⟨h1, h2, hQR _ _ _ _ h3 r⟩
    · refine .inr ⟨h1, h2, fun i hi => ?_⟩
      have := h3 i hi
      unfold opiO at *
      split
      · simp_all
      · rename_i o ho
        simp only [ho] at this
        split
        · rename_i hw; simp only [hw, if_true] at this; exact opO_rely this r
        · rename_i hw; simp only [hw] at this; exact ⟨hSR _ _ _ _ this.1 r, anyS_rely hSR hQR fuel _ _ _ _ _ this.2 r⟩
theorem anyS_first {T : World → (Nat → Prop) → Prop} (hTR : ∀ w w₁ O, T w O → Rely Im O w w₁ → T w₁ O) (hSR : ∀ L w w₁ O, S L w O → Rely Im O w w₁ → S L w₁ O) (hQR : ∀ a w w₁ O, QS a w O → Rely Im O w w₁ → QS a w₁ O)
    {i : Nat} {oi : Oper} {v : Value} (hi : ops[i]? = some oi) (hil : i ≠ leaf) (hsel : ∀ (j : Nat) (o : Oper) cs b, ops[j]? = some o → o.op ≠ .select cs b)
    (hS1 : ∀ L w O, S L w O → S (L.setIfInBounds i true) w O) (hS2 : ∀ L w O, S (L.setIfInBounds i true) w O → S L w O) (hST : ∀ L w O, S L w O → T w O)
    (hlf : ∀ L, i ∈ Region.ready md ops L → leaf ∉ Region.ready md ops L) :
    ∀ (fuel : Nat) (listed : Array Bool) (a : Act) (w : World) (O : Nat → Prop),
      (∀ j oj, ops[j]? = some oj → j ≠ i → listed.getD j true = false → (∀ e ∈ oj.after, Region.binds md e = true → e.on ≠ i) → oi.apart ops oj = true) →
      i ∈ Region.ready md ops listed → YieldsO P Im ops T oi v a → S listed w O →
      anyS P main Im md ops QS S leaf fuel (listed.setIfInBounds i true) (a.put oi.dst v) w O → anyS P main Im md ops QS S leaf (fuel + 1) listed a w O := by
  have hK : ∀ fuel L, ∀ a w w₁ O, (S L w O ∧ anyS P main Im md ops QS S leaf fuel L a w O) → Rely Im O w w₁ → (S L w₁ O ∧ anyS P main Im md ops QS S leaf fuel L a w₁ O) :=
    fun fuel L a w w₁ O h r => ⟨hSR _ _ _ _ h.1 r, anyS_rely hSR hQR fuel L a w w₁ O h.2 r⟩
  intro fuel
  induction fuel with
  | zero => intro listed a w O _ _ _ _ H; exact H.elim
  | succ fuel ih =>
    intro listed a w O hfree hr hy hS H
    refine .inr ⟨fun h => (by rw [h] at hr; cases hr), hlf _ hr, fun j hj => ?_⟩
    by_cases hji : j = i
    · subst hji; exact hy.op hTR hi (hK _ _) (hST _ _ _ hS) ⟨hS1 _ _ _ hS, H⟩
    · rcases H with ⟨h1, _, _⟩ | ⟨_, _, H⟩
      · have := ready_mono hj hji
        rw [h1] at this
        obtain rfl : j = leaf := by simpa using this
        exact absurd hj (hlf _ hr)
      have h1 := H j (ready_mono hj hji)
      obtain ⟨hjun, oj, hoj, hall⟩ := mem_ready.1 hj
      have hnot : ∀ e ∈ oj.after, Region.binds md e = true → e.on ≠ i := fun e he hb heq => by
        have h1 := hall e he hb
        have h0 := (mem_ready.1 hr).1
        rw [heq] at h1
        rcases Nat.lt_or_ge i listed.size with h' | h'
        · simp [h'] at h0 h1; rw [h0] at h1; cases h1
        · simp [Array.getElem?_eq_none h'] at h1
      have h2 := opiO_putIf hoj (hfree j oj hoj hji hjun hnot) (fun cs b => hsel i oi cs b hi) (fun cs b => hsel j oj cs b hoj) hy h1
      have hfree' : ∀ k ok, ops[k]? = some ok → k ≠ i → (listed.setIfInBounds j true).getD k true = false →
          (∀ e ∈ ok.after, Region.binds md e = true → e.on ≠ i) → oi.apart ops ok = true := fun k ok hk hki hun hno => by
        refine hfree k ok hk hki ?_ hno
        by_cases hjk : j = k
        · subst hjk; exact hjun
        · rw [getD_set_ne true hjk] at hun; exact hun
      refine opiO_mono (fun a' w' O' h3 => ?_) h2
      have hS' : S (listed.setIfInBounds j true) w' O' := hS2 _ _ _ (by rw [Array.setIfInBounds_comm _ _ hji]; exact h3.2.1)
      refine ⟨hS', ih (listed.setIfInBounds j true) a' w' O' hfree' (ready_mono hr (Ne.symm hji)) h3.1 hS' ?_⟩
      rw [Array.setIfInBounds_comm _ _ hji]
      exact h3.2.2
end
def LJ (i : Nat) (J : Gh → World → Prop) (Life : Gh → Goroutine → World → Prop) (O : Nat → Prop) (g : Goroutine) (w : World) : Prop := ∀ σ : Gh, σ.own i = O → J σ w → Life σ g w
theorem EvOk.im {Im Im' O : Nat → Prop} (h : ∀ b, Im b → Im' b) {e : Event} (he : EvOk Im O e) : EvOk Im' O e := by
  unfold EvOk at *
  split
  · rename_i a ha; rw [ha] at he; exact he.imp id fun x => ⟨x.1, h _ x.2⟩
  · rename_i r hr; rw [hr] at he; exact he
  · trivial
  · rename_i h1 h2 h3; split at he
    · exact absurd ‹_› (h1 _)
    · exact absurd ‹_› (h2 _)
    · exact absurd ‹_› h3
    · exact he
theorem Guar.turns {Im O : Nat → Prop} {w w' : World} {es : Array Event} (h : Guar Im O w w' es) : Turns O w w' := ⟨h.os, h.tape, h.output, h.size, h.block⟩
theorem Ok.grown_im {σ : Gh} {w w' : World} {t : Trace} (ho : Ok σ w t) {i g b : Nat} (h : σ.im g b) : (σ.grown i w w').im g b := by
  have e : (σ.grown i w w').kd b = σ.kd b := if_neg fun hh => by
    have := ho.lt (b := b) (by rcases h with h | ⟨_, h | h⟩ <;> rw [h] <;> simp)
    omega
  unfold Gh.im
  rw [e]; exact h
theorem piece {y : Cy} {fn : Func} {c : Code} {Jt : St → Prop} {s : St} (hc : Y.GoC y fn (fun _ _ _ => False) c [.again Jt] s) {I : Nat → Prop} {a : Act} {w : World} {O : Nat → Prop} (hs : SatY y I s a w O) {b : Frame} {k : List Item} {cs : List Frame} (hb : b.fn = y.f) (hk : b.kind ≠ .early)
    (hn : ∀ a' w' O' s' I', Jt s' → SatY y I' s' a' w' O' → GoesO y.P y.main.b y.Im y.main.Stop O' (G (b.at a' k) cs) w') : GoesO y.P y.main.b y.Im y.main.Stop O (G (b.at a (.code c :: k)) cs) w :=
  hc.run I a w O hs b k cs hb hk fun e a' w' O' q => by
    cases e with
    | normal => obtain ⟨s', I', h1, h2⟩ := q; exact hn a' w' O' s' I' h1 h2
    | ret => obtain ⟨_, h⟩ := q; obtain ⟨_, _, _, h⟩ := h w' (Rely.refl _ _ _); exact h.elim
    | _ => exact q.elim
end Go.Proofs.Ytkfmphlnpmemdaa.Sx
