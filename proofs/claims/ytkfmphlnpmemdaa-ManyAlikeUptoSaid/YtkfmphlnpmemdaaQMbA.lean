import Derived.Test.YtkfmphlnpmemdaaQMaV
import Derived.Test.YtkfmphlnpmemdaaQMaNp
import Derived.Test.YtkfmphlnpmemdaaQMaNw
set_option linter.unusedVariables false
namespace Go.Proofs.Ytkfmphlnpmemdaa.Sx
open Go Go.Conc Go.ConcN Go.Conc.Lib
open Go.ConcR (KK wgBlock WgAt stA smA rd wr mk DC0)
structure Cj (A : Nat → Prop) (d : Nat) (R : Gh → Prop) (σ : Gh) (w : World) : Prop where
  df : σ.df 0 = d
  im : ∀ b, A b ↔ σ.kd b = .imm
  r : R σ
structure RS (R : Gh → Prop) : Prop where
  env : ∀ {σ w σ₁ w₁}, R σ → Env0 (σ, w) (σ₁, w₁) → R σ₁
  own : ∀ {σ w w' t}, Ok σ w t → R σ → R (σ.grown 0 w w')
def R0 (σ : Gh) : Prop := σ.ph = none
def Rp (c : Ph0) (tg : Tg) (n : Nat) (L : Nat → Prop) (v : Nat) (σ : Gh) : Prop := (∃ p, σ.ph = some p ∧ p.c = c ∧ p.tag = tg) ∧ σ.n = n ∧ (∀ b, L b → σ.kd b = .lent) ∧ vc σ.st c.f0 (n - c.f0) ≤ v ∧ c.f0 ≤ n
theorem rs0 : RS R0 := ⟨fun h he => he.none h, fun _ h => h⟩
theorem grown_kd {σ : Gh} {w w' : World} {t : Trace} (ho : Ok σ w t) {i b : Nat} (hb : σ.kd b ≠ .free) : (σ.grown i w w').kd b = σ.kd b := if_neg fun h => by have := ho.lt hb; omega
theorem rsp {c : Ph0} {tg : Tg} {n : Nat} {L : Nat → Prop} {v : Nat} : RS (Rp c tg n L v) := ⟨fun {σ w σ₁ w₁} ⟨⟨p, hp, hc, ht⟩, hn, hl, hv, hf⟩ he => by
    obtain ⟨p', hp', hc', ht'⟩ := he.ph p hp
    exact ⟨⟨p', hp', hc'.trans hc, ht'.trans ht⟩, he.n.trans hn, fun b hb => he.lent b (hl b hb), Nat.le_trans (vc_mono fun i a b => he.st p hp i (by rw [hc]; exact a) (by show i < σ.n; omega)) hv, hf⟩,
  fun {σ w w' t} ho ⟨h1, h2, h3, h4⟩ => ⟨h1, h2, fun b hb => (grown_kd ho (by rw [h3 b hb]; simp)).trans (h3 b hb), h4⟩⟩
section
variable {P : Program} {A : Nat → Prop} {d : Nat} {R : Gh → Prop} {Post : Value → World → Prop}
theorem Cj.env (hR : RS R) {σ σ₁ : Gh} {w w₁ : World} (h : Cj A d R σ w) (he : Env0 (σ, w) (σ₁, w₁)) : Cj A d R σ₁ w₁ ∧ Rely A (σ.own 0) w w₁ ∧ σ₁.own 0 = σ.own 0 :=
  ⟨⟨he.df.trans h.df, fun b => ⟨fun hb => he.imm b ((h.im b).1 hb), fun hb => (h.im b).2 (he.immb b hb)⟩, hR.env h.r he⟩, he.rely.mono (fun b hb => .inl ((h.im b).1 hb)) fun b hb => hb, funext fun b => propext (he.own b)⟩
theorem Cj.own (hR : RS R) {σ : Gh} {w w' : World} {t u : Trace} (h : Cj A d R σ w) (ho : Ok σ w t) (hT : Turns (σ.own 0) w w') (hu : ∀ op ∈ u, OpOk A (grow (σ.own 0) w w') 0 op) :
    Ac 0 (σ, w) (σ.grown 0 w w', w') u ∧ (σ.grown 0 w w').own 0 = grow (σ.own 0) w w' ∧ Cj A d R (σ.grown 0 w w') w' :=
  ⟨Ac.mem (.inl rfl) hT fun op hop => ⟨(hu op hop).g, fun x hx => ((hu op hop).touch x hx).im fun b hb => .inl ((h.im b).1 hb), (hu op hop).mem, (hu op hop).mark⟩, grown_own σ 0 w w',
    ⟨h.df, fun b => ⟨fun hb => (grown_kd ho (by rw [(h.im b).1 hb]; simp)).trans ((h.im b).1 hb), fun hb => (h.im b).2 (by
      have hb : (if w.heap.size ≤ b ∧ b < w'.heap.size then Kd.own 0 else σ.kd b) = .imm := hb
      split at hb
      · cases hb
      · exact hb)⟩, hR.own ho h.r⟩⟩
theorem cIdle (hR : RS R) : Idle (many P) 0 A (fun σ => σ.own 0) (Cj A d R) where
  env h he := let ⟨h1, h2, h3⟩ := h.env hR he; ⟨h2, h3, h1⟩
  act {σ w t w' es fn pos} h ho hg := let ⟨h1, h2, h3⟩ := h.own hR ho hg.turns (opOk_ofEvents (fn := fn) (pos := pos) hg.evs); ⟨_, h1, h2, h3, fun h => h⟩
theorem cWalk (hR : RS R) {O : Nat → Prop} {g : Goroutine} {w : World} (h : GoesO P true A (LJ 0 (Cj A d R) (CLife (many P) Post)) O g w) {σ : Gh} (ho : σ.own 0 = O) (hJ : Cj A d R σ w) : CLife (many P) Post σ g w :=
  walkC (Stop := LJ 0 (Cj A d R) (CLife (many P) Post)) (cIdle hR) (fun σ g w hJ hs => hs w (Rely.refl _ _ _) σ rfl hJ) h σ ho hJ
theorem goesC {Wg : Nat} {J : Gh → World → Prop} (hE : ∀ σ w σ₁ w₁, J σ w → EnvP 0 (σ, w) (σ₁, w₁) → J σ₁ w₁) (hL : ∀ σ w t, J σ w → Ok σ w t → WgLive 52 Wg w)
    (hA : ∀ σ w t fn pos, J σ w → Ok σ w t → ∃ σ', Ac 0 (σ, w) (σ', w) (MemOp.ofEvents 0 fn pos #[]) ∧ J σ' w) {Stop : Goroutine → World → Prop} (hS : ∀ σ g w, J σ w → (∀ w₁, Rl 52 Wg w w₁ → Stop g w₁) → CLife (many P) Post σ g w) :
    ∀ (n : Nat) (g : Goroutine) (w : World), Goes P true (Rl 52 Wg) DC0 Stop n g w → ∀ σ, J σ w → CLife (many P) Post σ g w
  | 0, g, w, h, σ, hJ => hS σ g w hJ h
  | n + 1, g, w, h, σ, hJ => by
    rcases h with h | ⟨hs, h⟩
    · exact hS σ g w hJ h
    · refine CLife.mk hs fun σ₁ w₁ he ⟨t, ho⟩ => .inl ?_
      have hJ1 := hE σ w σ₁ w₁ hJ he
      have hk := h w₁ fun _ => hL σ₁ w₁ t hJ1 ho
      generalize hst : stepG P true g w₁ = s at hk
      cases s with
      | go g' w' es =>
        obtain ⟨⟨rfl, rfl⟩, hg⟩ := hk
        obtain ⟨σ', k1, k2⟩ := hA σ₁ w' t g.frame.fn g.frame.place hJ1 ho
        exact ⟨g', w', _, _, σ', Moves.go hst, k1, goesC hE hL hA hS n g' w' hg σ' k2⟩
      | _ => exact hk.elim
structure Cw (A O : Nat → Prop) (ws : World) (d : Nat) (R : Gh → Prop) (σ : Gh) (w : World) : Prop where
  j : Cj A d R σ w
  own : σ.own 0 = O
  rel : Rely A O ws w
theorem Cw.env {O : Nat → Prop} {ws : World} (hR : RS R) {σ σ₁ : Gh} {w w₁ : World} (h : Cw A O ws d R σ w) (he : Env0 (σ, w) (σ₁, w₁)) : Cw A O ws d R σ₁ w₁ :=
  let ⟨h1, h2, h3⟩ := h.j.env hR he; ⟨h1, h3.trans h.own, h.rel.trans (h.own ▸ h2)⟩
theorem Cw.idle {O : Nat → Prop} {ws : World} (hR : RS R) {σ : Gh} {w : World} {t : Trace} (h : Cw A O ws d R σ w) (ho : Ok σ w t) (fn : FuncId) (pos : String) : ∃ σ', Ac 0 (σ, w) (σ', w) (MemOp.ofEvents 0 fn pos #[]) ∧ Cw A O ws d R σ' w := by
  obtain ⟨h1, h2, h3⟩ := h.j.own hR ho (Guar.idle A _ w).turns (opOk_ofEvents (fn := fn) (pos := pos) (Guar.idle A (σ.own 0) w).evs)
  rw [grow_self] at h2
  exact ⟨_, h1, h3, h2.trans h.own, h.rel⟩
variable {O L : Nat → Prop} {ws : World} {c : Ph0} {n v : Nat} {tg : Tg}
theorem Cw.goes {Stop : Goroutine → World → Prop} (hS : ∀ σ g w, Cw A O ws d (Rp c tg n L v) σ w → (∀ w₁, Rl 52 c.Wg w w₁ → Stop g w₁) → CLife (many P) Post σ g w) {m : Nat} {g : Goroutine} {w : World} (h : Goes P true (Rl 52 c.Wg) DC0 Stop m g w) {σ : Gh} (hJ : Cw A O ws d (Rp c tg n L v) σ w) : CLife (many P) Post σ g w :=
  goesC (fun _ _ _ _ h he => h.env rsp he) (fun σ w t h ho => let ⟨⟨p, hp, hc, _⟩, _⟩ := h.j.r; hc ▸ WgAt.live (c := c) ho hp) (fun σ w t fn pos h ho => h.idle rsp ho fn pos) hS m g w h σ hJ
theorem Cw.syn {es : Array Event} {tag : Tg} {σ : Gh} {w w' : World} {t : Trace} {p : Ph} (h : Cw A O ws d (Rp c tg n L v) σ w) (ho : Ok σ w t) (hp : σ.ph = some p) (hw : But p.c.Wg w w') : Cw A O ws (deafBehind d es) (Rp c tag n L v) (σ.sync p σ.st (setF σ.df 0 (deafBehind (σ.df 0) es)) tag) w' := by
  obtain ⟨⟨p', hp', hc, _⟩, hn, hl, hv, hf⟩ := h.j.r
  rw [hp] at hp'; cases hp'
  refine ⟨⟨(show (setF σ.df 0 (deafBehind (σ.df 0) es)) 0 = deafBehind d es from setF_same.trans (by rw [h.j.df])), h.j.im, ⟨_, rfl, hc, rfl⟩, hn, hl, hv, hf⟩, h.own, h.rel.trans (hw.rely fun b hb e => ?_)⟩
  have hk := ((ho.phs p hp).kwg b).2 e
  rcases hb with hb | hb
  · rw [(h.j.im b).1 hb] at hk; cases hk
  · rw [← h.own] at hb
    rw [show σ.kd b = .own 0 from hb] at hk; cases hk
theorem Moded.same {σ : Gh} {w : World} {t : Trace} {p : Ph} (ho : Ok σ w t) (hp : σ.ph = some p) : Moded σ p σ.st p.tag w := (ho.phs p hp).mode
theorem rp_mode {σ : Gh} {w : World} {t : Trace} (h : Cw A O ws d (Rp c tg n L v) σ w) (ho : Ok σ w t) : ∃ p st sm, σ.ph = some p ∧ p.c = c ∧ p.tag = tg ∧ WgAt 52 c.Wg w st sm ∧ Mode σ.st c.f0 (σ.n - c.f0) tg st sm ∧ σ.n ≤ c.f0 + 100 ∧ vc σ.st c.f0 (σ.n - c.f0) ≤ v := by
  obtain ⟨⟨p, hp, hc, ht⟩, hn, _, hv, _⟩ := h.j.r
  obtain ⟨st, sm, h1, h2⟩ := (ho.phs p hp).mode
  have h3 := (ho.phs p hp).fm
  rw [hc] at h1 h2 h3
  rw [ht] at h2
  exact ⟨p, st, sm, hp, hc, ht, h1, h2, h3, by rw [hn]; exact hv⟩
theorem word_life {e : Event} {Next : Goroutine → World → Prop} {g : Goroutine} {w : World} {σ : Gh} (hJ : Cw A O ws d (Rp c tg n L v) σ w) (he : Ev0s c.Wg e) (hst : ∀ w₁, Rl 52 c.Wg w w₁ → At1 P true 52 c.Wg e Next g w₁)
    (hS : ∀ σ g w, Cw A O ws (deafBehind d #[e]) (Rp c tg n L v) σ w → (∀ w₁, Rl 52 c.Wg w w₁ → Next g w₁) → CLife (many P) Post σ g w) : CLife (many P) Post σ g w := by
  refine CLife.mk (hst w fun h => h).1 fun σ₁ w₁ henv ⟨t, ho⟩ => .inl ?_
  have hJ1 := hJ.env rsp henv
  obtain ⟨⟨p, hp, hc, ht⟩, _⟩ := hJ1.j.r
  obtain ⟨_, g', hs, m, hg⟩ := hst w₁ fun _ => hc ▸ WgAt.live (c := c) ho hp
  refine ⟨g', _, _, _, _, Moves.go hs, Ac.syn0 hp (But.refl _ _) (fun e' he' => ?_) (Moded.same ho hp), ?_⟩
  · simp at he'; subst he'; rw [hc]; exact he
  · have := hJ1.syn (es := #[e]) (tag := p.tag) ho hp (But.refl _ w₁)
    rw [ht] at this ⊢
    exact Cw.goes hS hg this
theorem add_life {g0 : Goroutine} (fin : ∀ σ w, Cw A O ws 0 (Rp c .add n L v) σ w → CLife (many P) Post σ g0 w) {m : Nat} {g : Goroutine} {w : World} {σ : Gh} (hJ : Cw A O ws 0 (Rp c .opn n L v) σ w)
    (h : Goes P true (Rl 52 c.Wg) DC0 (At1 P true 52 c.Wg (mk .disable) (Ca1 P 52 c.Wg g0)) m g w) : CLife (many P) Post σ g w := by
  have hF : ∀ σ g w, Cw A O ws 0 (Rp c .add n L v) σ w → (∀ w₁, Rl 52 c.Wg w w₁ → FinG g0 g w₁) → CLife (many P) Post σ g w := fun σ g w hJ hs => by
    have e : g = g0 := hs w fun h => h
    rw [e]; exact fin σ w hJ
  have hE : ∀ σ g w, Cw A O ws 1 (Rp c .add n L v) σ w → (∀ w₁, Rl 52 c.Wg w w₁ → CaE P 52 c.Wg g0 g w₁) → CLife (many P) Post σ g w := fun σ g w hJ hs => word_life hJ (.inr (.inr (.inl rfl))) hs hF
  have hR : ∀ σ g w, Cw A O ws 1 (Rp c .add n L v) σ w → (∀ w₁, Rl 52 c.Wg w w₁ → CaR P 52 c.Wg g0 g w₁) → CLife (many P) Post σ g w := fun σ g w hJ hs => word_life hJ (.inr (.inr (.inr ⟨_, rfl, .inl rfl⟩))) hs hE
  have h1 : ∀ σ g w, Cw A O ws 1 (Rp c .opn n L v) σ w → (∀ w₁, Rl 52 c.Wg w w₁ → Ca1 P 52 c.Wg g0 g w₁) → CLife (many P) Post σ g w := fun σ g w hJ hst => by
    refine CLife.mk (hst w fun h => h).1 fun σ₁ w₁ henv ⟨t, ho⟩ => .inl ?_
    have hJ1 := hJ.env rsp henv
    obtain ⟨p, st, sm, hp, hc, ht, hw, hm, h100, hvv⟩ := rp_mode hJ1 ho
    cases hm with
    | opn hop =>
      have hle := vc_le σ₁.st c.f0 (σ₁.n - c.f0)
      obtain ⟨_, hgo⟩ := hst w₁ fun _ => ⟨_, _, hw⟩
      obtain ⟨g', hs, hg⟩ := hgo _ (by omega) hw
      have hbut : But p.c.Wg w₁ (w₁.setCell (stA c.Wg) (.int .u64 (((vc σ₁.st c.f0 (σ₁.n - c.f0) : Nat) + 1) * KK))) := by rw [hc]; exact But.setSt (ty := 52) _ _ rfl
      refine ⟨g', _, _, _, _, Moves.go hs, Ac.syn0 (tag := .add) hp hbut (fun e he => ?_) ?_, ?_⟩
      · simp at he
        rw [hc]
        rcases he with rfl | rfl <;> exact .inl ⟨rfl, stA c.Wg, rfl, rfl⟩
      · refine ⟨((vc σ₁.st c.f0 (σ₁.n - c.f0) : Int) + 1) * KK, 0, ?_, ?_⟩
        · rw [hc]; exact hw.setSt _
        · rw [hc]; exact .add hop
      · have hC := hJ1.syn (es := #[rd (stA c.Wg), wr (stA c.Wg)]) (tag := .add) ho hp hbut
        rcases hg with ⟨m, hg⟩ | ⟨m, hg⟩
        · exact Cw.goes hR hg hC
        · exact Cw.goes hE hg hC
  exact Cw.goes (fun σ g w hJ hs => word_life hJ (.inr (.inl rfl)) hs h1) h hJ
end
theorem Kd.back_own {k : Kd} : k.back = .own 0 ↔ k ≠ .imm ∧ k ≠ .free ∧ k ≠ .wg := by cases k <;> simp [Kd.back]
theorem Kd.back_imm {k : Kd} : k.back = .imm ↔ k = .imm := by cases k <;> simp [Kd.back]
theorem RdL.mono {I I' : Nat → Prop} {w w' : World} (hI : ∀ b, I b → I' b) (hw : ∀ b, I b → w'.heap[b]? = w.heap[b]?) {ds : List D} {vs : List Value} (h : RdL I w ds vs) : RdL I' w' ds vs :=
  RdL.of_nth h.length fun i hi => let ⟨u, h1, h2⟩ := h.nth i hi; ⟨u, h1, Rd.mono hI hw _ _ h2⟩
theorem CLife.ok {P : Program} {Post : Value → World → Prop} {σ : Gh} {g : Goroutine} {w : World} (hs : g.status = .running) (h : ∀ σ₁ w₁, Env0 (σ, w) (σ₁, w₁) → ∀ t, Ok σ₁ w₁ t → CLife (many P) Post σ₁ g w₁) : CLife (many P) Post σ g w := by
  refine CLife.mk hs fun σ₁ w₁ he ⟨t, ho⟩ => ?_
  obtain ⟨r, hr⟩ := h σ₁ w₁ he t ho
  cases r with
  | z => exact hr.elim
  | s f =>
    rcases hr.2 σ₁ w₁ (show EnvP 0 (σ₁, w₁) (σ₁, w₁) from EnvP.refl fun Im O => Rely.refl Im O w₁) ⟨t, ho⟩ with ⟨g', w', ops, wk, σ', h1, h2, h3⟩ | ⟨g', child, w', es, σ', rc, h1, h2, h3, h4⟩ | h1 | h1
    · exact .inl ⟨g', w', ops, wk, σ', h1, h2, _, h3⟩
    · exact .inr (.inl ⟨g', child, w', es, σ', h1, h2, ⟨_, h3⟩, _, h4⟩)
    · exact .inr (.inr (.inl h1))
    · exact .inr (.inr (.inr h1))
structure Cz (A O : Nat → Prop) (ws : World) (c : Ph0) (L : Nat → Prop) (σ : Gh) (w : World) : Prop where
  j : Cj A 0 R0 σ w
  own : ∀ b, O b → σ.own 0 b
  lent : ∀ b, L b → σ.own 0 b ∧ w.heap[b]? = c.w0.heap[b]?
  rel : Rely A O ws w
  row : ∃ get, (∀ k, k < c.N → c.post k (get k)) ∧ BOk (fun b => A b ∨ L b ∨ (σ.own 0 b ∧ ¬ O b)) w c.β 37 6 ⟨c.N, get⟩
  pay : 0 < c.β.s → σ.own 0 c.β.b
  lt : ∀ b, A b ∨ σ.own 0 b → b < w.heap.size
structure Cq (A O : Nat → Prop) (ws : World) (c : Ph0) (L : Nat → Prop) (σ : Gh) (w : World) : Prop where
  z : Cz A O ws c L σ w
  live : WgLive 52 c.Wg w
  free : σ.kd c.Wg = .free
  lt : c.Wg < w.heap.size
section
variable {P : Program} {A O L : Nat → Prop} {ws : World} {c : Ph0} {n v : Nat} {Post : Value → World → Prop}
theorem Cz.env {σ σ₁ : Gh} {w w₁ : World} (h : Cz A O ws c L σ w) (he : Env0 (σ, w) (σ₁, w₁)) : Cz A O ws c L σ₁ w₁ := by
  obtain ⟨h1, h2, h3⟩ := h.j.env rs0 he
  have stay : ∀ b, A b ∨ σ.own 0 b → w₁.heap[b]? = w.heap[b]? := fun b hb => h2.block b (h.lt b hb) hb
  obtain ⟨get, hp, hr⟩ := h.row
  exact ⟨h1, fun b hb => by rw [h3]; exact h.own b hb, fun b hb => let ⟨k1, k2⟩ := h.lent b hb; ⟨by rw [h3]; exact k1, (stay b (.inr k1)).trans k2⟩, h.rel.trans (h2.mono (fun _ h => h) h.own),
    ⟨get, hp, hr.mono (fun b hb => by rw [h3]; exact hb) (fun b hb => stay b (hb.imp id fun h' => h'.elim (fun h' => (h.lent b h').1) And.left)) fun h0 => stay _ (.inr (h.pay h0))⟩, fun h0 => by rw [h3]; exact h.pay h0, fun b hb => Nat.lt_of_lt_of_le (h.lt b (by rw [h3] at hb; exact hb)) h2.size⟩
theorem Cz.idle {σ : Gh} {w : World} {t : Trace} (h : Cz A O ws c L σ w) (ho : Ok σ w t) (fn : FuncId) (pos : String) : ∃ σ', Ac 0 (σ, w) (σ', w) (MemOp.ofEvents 0 fn pos #[]) ∧ Cz A O ws c L σ' w ∧ σ'.kd = σ.kd := by
  obtain ⟨h1, h2, h3⟩ := h.j.own rs0 ho (Guar.idle A _ w).turns (opOk_ofEvents (fn := fn) (pos := pos) (Guar.idle A (σ.own 0) w).evs)
  rw [grow_self] at h2
  have hk : (σ.grown 0 w w).kd = σ.kd := funext fun b => if_neg (by omega)
  exact ⟨_, h1, ⟨h3, by rw [h2]; exact h.own, by rw [h2]; exact h.lent, h.rel, by rw [h2]; exact h.row, by rw [h2]; exact h.pay, by rw [h2]; exact h.lt⟩, hk⟩
theorem Cq.goes {Stop : Goroutine → World → Prop} (hS : ∀ σ g w, Cz A O ws c L σ w → (∀ w₁, Rl 52 c.Wg w w₁ → Stop g w₁) → CLife (many P) Post σ g w) {m : Nat} {g : Goroutine} {w : World} (h : Goes P true (Rl 52 c.Wg) DC0 Stop m g w) {σ : Gh} (hJ : Cq A O ws c L σ w) : CLife (many P) Post σ g w :=
  goesC (J := Cq A O ws c L) (fun _ _ _ _ h he => let ⟨h1, h2⟩ := Env0.dead he _ h.lt h.free; ⟨h.z.env he, let ⟨st, sm, h3⟩ := h.live; ⟨st, sm, WgAt.of_block h3 h1⟩, h2, Nat.lt_of_lt_of_le h.lt he.rely.size⟩) (fun σ w t h ho => h.live)
    (fun σ w t fn pos h ho => let ⟨σ', h1, h2, h3⟩ := h.z.idle ho fn pos; ⟨σ', h1, ⟨h2, h.live, by rw [h3]; exact h.free, h.lt⟩⟩) (fun σ g w h hs => hS σ g w h.z hs) m g w h σ hJ
theorem Cw.close {σ : Gh} {w : World} {t : Trace} (h : Cw A O ws 0 (Rp c .fin n L v) σ w) (ho : Ok σ w t) (hn : c.f0 < n) : Cq A O ws c L σ.closed w := by
  obtain ⟨⟨p, hp, hc, ht⟩, hn', hl, _, _⟩ := h.j.r
  have q := ho.phs p hp
  subst hc
  have hk : σ.kd p.c.Wg = .wg := (q.kwg _).2 rfl
  have hq : AllQ σ.st p.c.f0 (σ.n - p.c.f0) := by
    obtain ⟨st, sm, _, h2⟩ := q.mode
    rw [ht] at h2
    cases h2; assumption
  have all : ∀ g, p.c.f0 ≤ g → g < σ.n → p.q = p.c.N ∧ ∀ k, p.tk k = some g → p.dn k := fun g a b => q.rdy g a b (by rw [hq g a (by omega)]; omega)
  have hN := (all p.c.f0 (Nat.le_refl _) (by omega)).1
  have own : ∀ b, σ.closed.own 0 b ↔ σ.kd b ≠ .imm ∧ σ.kd b ≠ .free ∧ σ.kd b ≠ .wg := fun b => Kd.back_own
  have nf : ∀ b, A b ∨ σ.closed.own 0 b → b < w.heap.size := fun b hb => by
    rcases hb with hb | hb
    · exact ho.lt (by rw [(h.j.im b).1 hb]; simp)
    · exact ho.lt ((own b).1 hb).2.1
  refine ⟨⟨⟨h.j.df, fun b => (h.j.im b).trans Kd.back_imm.symm, rfl⟩, fun b hb => ?_, fun b hb => ⟨?_, q.lnt b (hl b hb)⟩, h.rel, ⟨p.get, fun k hk => ?_, q.row.mono (fun b hb => ?_) (fun _ _ => rfl) fun _ => rfl⟩, fun h0 => ?_, nf⟩, ?_, ?_, ho.lt (by rw [hk]; simp)⟩
  · rw [← h.own] at hb
    exact (own b).2 (by rw [show σ.kd b = .own 0 from hb]; simp)
  · exact (own b).2 (by rw [hl b hb]; simp)
  · obtain ⟨g, hg⟩ := q.tkd k (by omega)
    have := q.stk k g hg
    exact q.don k hk ((all g this.2.1 this.2.2).2 k hg)
  · have no : ∀ K, σ.kd b = K → K ≠ .own 0 → ¬ O b := fun K e hK hO => by
      rw [← h.own] at hO
      exact hK (e.symm.trans hO)
    rcases hb with hb | ⟨g, hb⟩ | hb
    · exact .inl ((h.j.im b).2 hb)
    · exact .inr (.inr ⟨(own b).2 (by rw [hb]; simp), no _ hb (by simp)⟩)
    · exact .inr (.inr ⟨(own b).2 (by rw [hb]; simp), no _ hb (by simp)⟩)
  · exact (own _).2 (by rw [q.kpaN h0]; simp)
  · exact WgAt.live (c := p.c) ho hp
  · show (σ.kd p.c.Wg).back = _
    rw [hk]; rfl
theorem wait_life (hn : c.f0 < n) (hmax : n ≤ c.f0 + 100) (HL : WgLib P lk) {cf : Frame} {b₀ : Frame} {a₀ : Act} {ops₀ : Array Oper} {i₀ : Nat} {rest₀ : List Nat} {k₀ : List Item} {cs : List Frame} {g0 : Goroutine} (hcf : cf = b₀.at a₀ (.inRegion ops₀ (i₀ :: rest₀) :: k₀))
    (hg0 : g0 = G (b₀.at (a₀.put ((ops₀[i₀]?).bind (·.dst)) (.tuple #[])) (.inRegion ops₀ rest₀ :: k₀)) cs)
    (fin : ∀ σ w, Cz A O ws c L σ w → CLife (many P) Post σ g0 w) {m : Nat} {g : Goroutine} {w : World} {σ : Gh} (hJ : Cw A O ws 0 (Rp c .opn n L v) σ w)
    (h : Goes P true (Rl 52 c.Wg) DC0 (At1 P true 52 c.Wg (mk .disable) (AnchY lk c.Wg cf cs)) m g w) : CLife (many P) Post σ g w := by
  subst hcf
  have hF : ∀ σ g w, Cz A O ws c L σ w → (∀ w₁, Rl 52 c.Wg w w₁ → FinG g0 g w₁) → CLife (many P) Post σ g w := fun σ g w hJ hs => by
    have e : g = g0 := hs w fun h => h
    rw [e]; exact fin σ w hJ
  have hA : ∀ v σ g w, Cw A O ws 0 (Rp c .fin n L v) σ w → (∀ w₁, Rl 52 c.Wg w w₁ → CwA P 52 c.Wg g0 g w₁) → CLife (many P) Post σ g w := fun v σ g w hJ hst => by
    refine CLife.mk (hst w fun h => h).1 fun σ₁ w₁ henv ⟨t, ho⟩ => .inl ?_
    have hJ1 := hJ.env rsp henv
    obtain ⟨⟨p, hp, hc, ht⟩, _⟩ := hJ1.j.r
    obtain ⟨_, g', hs, m, hg⟩ := hst w₁ fun _ => hc ▸ WgAt.live (c := c) ho hp
    have hacq := Ac.acq (w := w₁) (fn := g.frame.fn) (pos := g.frame.place) hp ht hJ1.j.df
    rw [hc] at hacq
    exact ⟨g', _, _, _, _, Moves.go hs, hacq, Cq.goes hF hg (hJ1.close ho hn)⟩
  have hE : ∀ v σ g w, Cw A O ws 1 (Rp c .fin n L v) σ w → (∀ w₁, Rl 52 c.Wg w w₁ → CwE P 52 c.Wg g0 g w₁) → CLife (many P) Post σ g w := fun v σ g w hJ hs => word_life hJ (.inr (.inr (.inl rfl))) hs (hA v)
  have h4 : ∀ v σ g w, Cw A O ws 1 (Rp c .fin n L v) σ w → (∀ w₁, Rl 52 c.Wg w w₁ → Cw4 P 52 c.Wg g0 g w₁) → CLife (many P) Post σ g w := fun v σ g w hJ hst => by
    refine CLife.mk (hst w fun h => h).1 fun σ₁ w₁ henv ⟨t, ho⟩ => .inl ?_
    have hJ1 := hJ.env rsp henv
    obtain ⟨p, st, sm, hp, hc, ht, hw, hm, h100, hvv⟩ := rp_mode hJ1 ho
    obtain ⟨_, hgo⟩ := hst w₁ fun _ => ⟨_, _, hw⟩
    cases hm with
    | fin hall =>
      obtain ⟨g', hs, m, hg⟩ := hgo hw
      refine ⟨g', _, _, _, _, Moves.go hs, Ac.syn0 (tag := .fin) hp (But.refl _ _) (fun e he => ?_) (by have := Moded.same ho hp; rwa [ht] at this), ?_⟩
      · simp at he; subst he; rw [hc]; exact .inl ⟨rfl, stA c.Wg, rfl, rfl⟩
      · exact Cw.goes (hE v) hg (hJ1.syn (es := #[rd (stA c.Wg)]) (tag := .fin) ho hp (But.refl _ w₁))
  have h3 : ∀ v σ g w, Cw A O ws 1 (Rp c .w3 n L v) σ w → (∀ w₁, Rl 52 c.Wg w w₁ → Cw3 P 52 c.Wg g0 g w₁) → CLife (many P) Post σ g w := fun v σ g w hJ hst => by
    refine CLife.mk (hst w fun h => h).1 fun σ₁ w₁ henv ⟨t, ho⟩ => ?_
    have hJ1 := hJ.env rsp henv
    obtain ⟨p, st, sm, hp, hc, ht, hw, hm, h100, hvv⟩ := rp_mode hJ1 ho
    obtain ⟨_, hof, hbl, hgo⟩ := hst w₁ fun _ => ⟨_, _, hw⟩
    have wt : ∀ i, c.f0 ≤ i → i < c.f0 + (σ₁.n - c.f0) → σ₁.st i ≠ 1 → (many P).waits σ₁ := fun i a b e => ⟨p, hp, ht, i, by rw [hc]; exact a, by omega, e⟩
    cases hm with
    | reg hop h1 =>
      obtain ⟨i, a, b, h5⟩ := vc_pos h1
      exact .inr (.inr (.inl ⟨hbl ⟨_, hw⟩, hof, wt i a b (by omega)⟩))
    | last i a b h5 _ => exact .inr (.inr (.inl ⟨hbl ⟨_, hw⟩, hof, wt i a b (by omega)⟩))
    | sema hall =>
      obtain ⟨g', hs, m, hg⟩ := hgo hw
      have hbut : But p.c.Wg w₁ (w₁.setCell (smA c.Wg) (.int .u32 0)) := by rw [hc]; exact But.setSt (ty := 52) _ _ rfl
      refine .inl ⟨g', _, _, _, _, Moves.go hs, Ac.syn0 (tag := .fin) hp hbut (fun e he => ?_) ⟨0, 0, ?_, ?_⟩, ?_⟩
      · simp [semEvents] at he
        rw [hc]
        rcases he with rfl | rfl | rfl | rfl
        · exact .inr (.inl rfl)
        · exact .inl ⟨rfl, smA c.Wg, rfl, rfl⟩
        · exact .inl ⟨rfl, smA c.Wg, rfl, rfl⟩
        · exact .inr (.inr (.inl rfl))
      · rw [hc]; exact hw.setSm _
      · rw [hc]; exact .fin hall
      · have hC := hJ1.syn (es := semEvents (smA c.Wg)) (tag := .fin) ho hp hbut
        exact Cw.goes (h4 v) hg hC
  have hW : ∀ v σ g w, Cw A O ws 1 (Rp c .w3 n L v) σ w → (∀ w₁, Rl 52 c.Wg w w₁ → CwW P 52 c.Wg g0 g w₁) → CLife (many P) Post σ g w := fun v σ g w hJ hs => word_life hJ (.inr (.inr (.inr ⟨_, rfl, .inr rfl⟩))) hs (h3 v)
  have hloop : ∀ v σ g w, Cw A O ws 1 (Rp c .opn n L v) σ w → (∀ w₁, Rl 52 c.Wg w w₁ → AnchY lk c.Wg (b₀.at a₀ (.inRegion ops₀ (i₀ :: rest₀) :: k₀)) cs g w₁) → CLife (many P) Post σ g w := by
    intro v
    induction v using Nat.strongRecOn with
    | _ v ih =>
    have h2 : ∀ vs, vs ≤ v → vs ≠ 0 → ∀ σ g w, Cw A O ws 1 (Rp c .opn n L vs) σ w → (∀ w₁, Rl 52 c.Wg w w₁ → Cw2 P 52 c.Wg g0 (AnchY lk c.Wg (b₀.at a₀ (.inRegion ops₀ (i₀ :: rest₀) :: k₀)) cs) vs g w₁) → CLife (many P) Post σ g w := fun vs hvs h0 σ g w hJ hst => by
      refine CLife.mk (hst w fun h => h).1 fun σ₁ w₁ henv ⟨t, ho⟩ => .inl ?_
      have hJ1 := hJ.env rsp henv
      obtain ⟨p, st, sm, hp, hc, ht, hw, hm, h100, hvv⟩ := rp_mode hJ1 ho
      obtain ⟨_, hgo⟩ := hst w₁ fun _ => ⟨_, _, hw⟩
      cases hm with
      | opn hop =>
        have hle := vc_le σ₁.st c.f0 (σ₁.n - c.f0)
        obtain ⟨hit, miss⟩ := hgo _ (by omega) hw
        by_cases e : vc σ₁.st c.f0 (σ₁.n - c.f0) = vs
        · obtain ⟨g', hs, m, hg⟩ := hit e
          have hbut : But p.c.Wg w₁ (w₁.setCell (stA c.Wg) (.int .u64 (((vc σ₁.st c.f0 (σ₁.n - c.f0) : Nat) : Int) * KK + 1))) := by rw [hc]; exact But.setSt (ty := 52) _ _ rfl
          refine ⟨g', _, _, _, _, Moves.go hs, Ac.syn0 (tag := .w3) hp hbut (fun e he => ?_) ⟨((vc σ₁.st c.f0 (σ₁.n - c.f0) : Nat) : Int) * KK + 1, 0, ?_, ?_⟩, ?_⟩
          · simp at he
            rw [hc]
            rcases he with rfl | rfl <;> exact .inl ⟨rfl, stA c.Wg, rfl, rfl⟩
          · rw [hc]; exact hw.setSt _
          · rw [hc]; exact .reg hop (by omega)
          · have hC := hJ1.syn (es := #[rd (stA c.Wg), wr (stA c.Wg)]) (tag := .w3) ho hp hbut
            exact Cw.goes (hW vs) hg hC
        · obtain ⟨g', hs, m, hg⟩ := miss e
          refine ⟨g', _, _, _, _, Moves.go hs, Ac.syn0 (tag := .opn) hp (But.refl _ _) (fun e he => ?_) (by have := Moded.same ho hp; rwa [ht] at this), ?_⟩
          · simp at he; subst he; rw [hc]; exact .inl ⟨rfl, stA c.Wg, rfl, rfl⟩
          · have hC := hJ1.syn (es := #[rd (stA c.Wg)]) (tag := .opn) ho hp (But.refl _ w₁)
            obtain ⟨⟨_, hn', _⟩⟩ := hJ1.j.r
            exact Cw.goes (ih (vs - 1) (by omega)) hg ⟨⟨hC.j.df, hC.j.im, ⟨hC.j.r.1, hC.j.r.2.1, hC.j.r.2.2.1, by show vc σ₁.st c.f0 (n - c.f0) ≤ _; rw [← hJ1.j.r.2.1]; omega, hC.j.r.2.2.2.2⟩⟩, hC.own, hC.rel⟩
    have h1 : ∀ σ g w, Cw A O ws 1 (Rp c .opn n L v) σ w → (∀ w₁, Rl 52 c.Wg w w₁ → Cw1 P 52 c.Wg g0 (AnchY lk c.Wg (b₀.at a₀ (.inRegion ops₀ (i₀ :: rest₀) :: k₀)) cs) g w₁) → CLife (many P) Post σ g w := fun σ g w hJ hst => by
      refine CLife.mk (hst w fun h => h).1 fun σ₁ w₁ henv ⟨t, ho⟩ => .inl ?_
      have hJ1 := hJ.env rsp henv
      obtain ⟨p, st, sm, hp, hc, ht, hw, hm, h100, hvv⟩ := rp_mode hJ1 ho
      obtain ⟨_, hgo⟩ := hst w₁ fun _ => ⟨_, _, hw⟩
      cases hm with
      | opn hop =>
        have hle := vc_le σ₁.st c.f0 (σ₁.n - c.f0)
        obtain ⟨g', hs, hz, hnz⟩ := hgo _ (by omega) hw
        have hev : ∀ e ∈ #[rd (stA c.Wg)], Ev0s p.c.Wg e := fun e he => by simp at he; subst he; rw [hc]; exact .inl ⟨rfl, stA c.Wg, rfl, rfl⟩
        by_cases e : vc σ₁.st c.f0 (σ₁.n - c.f0) = 0
        · obtain ⟨m, hg⟩ := hz e
          refine ⟨g', _, _, _, _, Moves.go hs, Ac.syn0 (tag := .fin) hp (But.refl _ _) hev ⟨0, 0, ?_, ?_⟩, Cw.goes (hE v) hg (hJ1.syn (es := #[rd (stA c.Wg)]) (tag := .fin) ho hp (But.refl _ w₁))⟩
          · rw [e] at hw; rw [hc]; simpa using hw
          · rw [hc]; exact .fin (.of_open hop e)
        · obtain ⟨m, hg⟩ := hnz e
          refine ⟨g', _, _, _, _, Moves.go hs, Ac.syn0 (tag := .opn) hp (But.refl _ _) hev (by have := Moded.same ho hp; rwa [ht] at this), ?_⟩
          have hC := hJ1.syn (es := #[rd (stA c.Wg)]) (tag := .opn) ho hp (But.refl _ w₁)
          exact Cw.goes (h2 _ hvv e) hg ⟨⟨hC.j.df, hC.j.im, ⟨hC.j.r.1, hC.j.r.2.1, hC.j.r.2.2.1, by show vc σ₁.st c.f0 (n - c.f0) ≤ _; rw [← hJ1.j.r.2.1]; exact Nat.le_refl _, hC.j.r.2.2.2.2⟩⟩, hC.own, hC.rel⟩
    intro σ g w hJ hst
    obtain ⟨T, rfl, _⟩ := hst w fun h => h
    refine CLife.ok rfl fun σ₁ w₁ henv t ho => ?_
    have hJ1 := hJ.env rsp henv
    obtain ⟨p, st, sm, hp, hc, ht, hw, hm, h100, hvv⟩ := rp_mode hJ1 ho
    obtain ⟨m, hg⟩ := waitRoundY HL _ w₁ (hst w fun h => h) ⟨_, _, hw⟩
    rw [← hg0] at hg
    exact Cw.goes h1 hg hJ1
  exact Cw.goes (fun σ g w hJ hs => word_life hJ (.inr (.inl rfl)) hs (hloop v)) h hJ
end
section
variable {A O L : Nat → Prop} {ws : World} {c : Ph0} {n v : Nat} {Post : Value → World → Prop} {jobs : List (List Deed)}
theorem spawn_life (hN : jobs.length = c.N) (hpost : c.post = postW jobs) (hall : ∀ k, k < jobs.length → ∃ out, many_do_F (jobs.getD k El.d) = some out) (hmax : n < c.f0 + 100)
    {ops : Array Oper} {i : Nat} {rest : List Nat} {o : Oper} {b : Frame} {a : Act} {k : List Item} {cs : List Frame} {v0 v1 v2 v3 : Value}
    (hop : ops[i]? = some o) (hw : Region.wanted o (yielded ops a.tmps) = true) (hk : b.kind ≠ .early)
    (hr : ∀ w, (execOp a.eval o).run Try.prog w = .ok (.spawn (call10 v0 v1 v2 v3)) w ∧ (execOp a.eval o).events Try.prog w #[] = #[])
    (hargs : RdL (fun b => A b ∨ L b) c.w0 (argsW c jobs) [v0, v1, v2, v3]) (hA : Rely A (fun _ => False) c.w0 ws) (hsz : ∀ b, A b ∨ L b → b < c.w0.heap.size)
    (next : ∀ σ w, Cw A O ws 0 (Rp c .opn (n + 1) L (v + 1)) σ w → CLife (many Try.prog) Post σ (G (b.at (a.put o.dst undef) (.inRegion ops rest :: k)) cs) w)
    {w : World} {σ : Gh} (hJ : Cw A O ws 0 (Rp c .add n L v) σ w) : CLife (many Try.prog) Post σ (G (b.at a (.inRegion ops (i :: rest) :: k)) cs) w := by
  refine CLife.mk rfl fun σ₁ w₁ henv ⟨t, ho⟩ => .inr (.inl ?_)
  have hJ1 := hJ.env rsp henv
  obtain ⟨⟨p, hp, hc, ht⟩, hn, hl, hv, hf⟩ := hJ1.j.r
  have q := ho.phs p hp
  subst hc
  have hA1 : Rely A (fun _ => False) p.c.w0 w₁ := hA.trans (hJ1.rel.mono (fun _ h => h) fun _ h => h.elim)
  have hout : ∀ op, op ∈ t → op.g ≠ σ₁.n := fun op hop => by
    obtain ⟨k, hk⟩ := Array.mem_iff_getElem?.1 hop
    have := ho.tr.gs k op hk
    omega
  have hn0 : σ₁.n ≠ 0 := by have := q.f1; omega
  have hdf : σ₁.df σ₁.n = 0 := by
    rw [← ho.deaf]
    exact Deaf_absent fun i op h => by have := ho.tr.gs i op h; omega
  have hstay : ∀ b, A b ∨ L b → w₁.heap[b]? = p.c.w0.heap[b]? := fun b hb => by
    rcases hb with h | h
    · exact hA1.block b (hsz b (.inl h)) (.inl h)
    · exact q.lnt b (hl b h)
  refine ⟨_, _, w₁, _, σ₁.born p, stepG_spawn hop hw hk (hr w₁).1 rfl, ?_, ?_, next _ _ ?_⟩
  · rw [listed_nil (hr w₁).2]
    have hlt : σ₁.n < p.c.f0 + 100 := by
      have e : σ₁.n = n := hn
      omega
    exact ⟨p, _, _, hp, ht, hJ1.j.df, hlt, rfl, rfl, ⟨rfl, rfl⟩, ⟨rfl, rfl⟩⟩
  · refine worker_life (A := fun b => A b ∨ L b) (I := fun b => A b ∨ L b) hN hpost hall ⟨⟨setF_same, hdf, ⟨_, rfl, rfl⟩, ⟨q.f1, q.fn⟩, Nat.lt_succ_self _⟩, fun b hb => ?_, fun p' hp' => ?_⟩ (funext fun b => propext ⟨fun hb => ?_, fun h => h.elim⟩) (hargs.mono (fun _ h => h) hstay) fun b hb => ⟨?_, hb⟩
    · rcases hb with hb | hb
      · exact .inl ((hJ1.j.im b).1 hb)
      · exact .inr ⟨hn0, .inl (hl b hb)⟩
    · cases hp'
      exact ⟨Nat.zero_le _, fun k hk => absurd (q.stk k _ hk).2.2 (Nat.lt_irrefl _), fun k hk => by cases hk⟩
    · have := ho.kon b σ₁.n hb
      omega
    · exact Nat.lt_of_lt_of_le (hsz b hb) hA1.size
  · refine ⟨⟨hJ1.j.df, hJ1.j.im, ⟨⟨_, rfl, rfl, rfl⟩, by show σ₁.n + 1 = n + 1; omega, hl, ?_, by omega⟩⟩, hJ1.own, hJ1.rel⟩
    have := vc_born (s := σ₁.st) (f := p.c.f0) (n := σ₁.n) q.fn
    show vc (setF σ₁.st σ₁.n 7) p.c.f0 (n + 1 - p.c.f0) ≤ v + 1
    rw [← hn, this, hn]
    omega
end
end Go.Proofs.Ytkfmphlnpmemdaa.Sx
