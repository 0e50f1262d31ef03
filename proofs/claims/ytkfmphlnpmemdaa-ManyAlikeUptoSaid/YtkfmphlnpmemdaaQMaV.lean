import Derived.Test.YtkfmphlnpmemdaaQMaR
import Derived.Conc.AppendEvents
set_option linter.unusedVariables false
set_option linter.unusedSimpArgs false
namespace Go.Proofs.Ytkfmphlnpmemdaa.Sx
open Go Go.Conc Go.ConcN Go.Conc.Lib Go.RowKit
open Go.ConcR (KK wgBlock WgAt stA smA rd wr mk DC0)
theorem ev_storeCells {P : Program} (g o : Nat) (t : TypeId) : ∀ (vs : List Value) (i : Nat) (cur : Array Value) (w : World) (es : Array Event), w.heap[g]? = some (.cells cur t (0, 0)) → o + i + vs.length ≤ cur.size → (∀ v ∈ vs, v.oneCell' = true) →
    ∀ ev ∈ (storeCells ⟨g, o, none⟩ vs i).events P w es, ev ∈ es ∨ ∃ j, i ≤ j ∧ j < i + vs.length ∧ ev.loc = .cell ⟨g, o + j, none⟩
  | [], _, _, _, _, _, _, _ => fun ev h => .inl (by simpa [storeCells] using h)
  | v :: rest, i, cur, w, es, hg, hl, h1 => fun ev h => by
    have hi : o + i < cur.size := by simp at hl; omega
    have hadd : (⟨g, o, none⟩ : Addr).add i = ⟨g, o + i, none⟩ := by unfold Addr.add; split <;> simp_all
    have hcell : w.cell? ⟨g, o + i, none⟩ = some cur[o + i] := by simp [World.cell?, hg, hi]
    have hfro : w.frozen? ⟨g, o + i, none⟩ = false := by simp [World.frozen?, hg]
    have hst : (store ((⟨g, o, none⟩ : Addr).add i) v).run P w = .ok () (w.setRow g (cur.setIfInBounds (o + i) v)) := by
      rw [hadd, run_store P w _ v _ (h1 v (by simp)), hcell]
      simp [hfro, setCell_eq_setRow w g (o + i) cur t (0, 0) v hg]
    have hev : (store ((⟨g, o, none⟩ : Addr).add i) v).events P w es = es.push ⟨.cell ⟨g, o + i, none⟩, true, false⟩ := by
      rw [hadd, events_store P w es _ v _ (h1 v (by simp)), hcell]
      simp only [hfro, Bool.false_eq_true, if_false]
      rfl
    simp only [storeCells, Sem.events_bind, hst, Result.evThen_ok, hev] at h
    rcases ev_storeCells g o t rest (i + 1) (cur.setIfInBounds (o + i) v) (w.setRow g (cur.setIfInBounds (o + i) v)) _ (setRow_heap w g cur _ t _ hg) (by simp at hl ⊢; omega) (fun x hx => h1 x (by simp [hx])) ev h with h | ⟨j, h2, h3, h4⟩
    · rcases Array.mem_push.1 h with h | rfl
      · exact .inl h
      · exact .inr ⟨i, Nat.le_refl _, by simp, rfl⟩
    · exact .inr ⟨j, by omega, by simp; omega, h4⟩
section
variable {i : Nat} {c : Ph0} {A : Nat → Prop} {I0 I : Nat → Prop} {w0 : World} {a : Act} {w : World} {jobs : List (List Deed)} {env : List (Nat × D)} {q q0 : Nat} {out : Tale} {σ : Gh}
theorem setRow_but {w : World} {g : Nat} {cs : Array Value} : But g w (w.setRow g cs) := ⟨rfl, rfl, rfl, by simp, fun b hb => setRow_other w g b cs hb⟩
theorem store_life {J : Gh → World → Prop} {k : List Item} {cs : List Frame} (hs : SatY (yW i J w0 I0 A) I ⟨sW c jobs q out env, []⟩ a w (σ.own i)) (hJ : Wk i c A (some q) q0 σ w) (hqN : q < c.N) (hpost : c.post q (El.enc out))
    (next : ∀ A' w', (∀ b, A b → A' b) → (∀ b, I b → b < w'.heap.size ∧ A' b) → (∀ d x, look (sW c jobs q out env) d = some x → Rd I w' x (a.tmps.getD d undef)) → GoesO Try.prog false A' (LJ i (Wk i c A' none q0) (WLife (many Try.prog) i)) (fun _ => False) (G (b10.at a (.inRegion ops3_10 [] :: k)) cs) w') :
    WLife (many Try.prog) i σ (G (b10.at a (.inRegion ops3_10 [8] :: k)) cs) w := by
  refine WLife.mk rfl (fun d => hJ.alive (P := Try.prog) d) fun σ₂ w₂ he ⟨t, hok⟩ => ?_
  obtain ⟨hJ2, hr2, hown2⟩ := hJ.env he
  have hs2 := hs.rely hr2
  rw [← hown2] at hs2
  obtain ⟨p, hp, hc⟩ := hJ2.x.ph
  have hph := hok.phs p hp
  have hrow := hph.row
  rw [hc] at hrow
  have hs0 : 0 < c.β.s := by have : c.N ≤ c.β.s := hrow.1; omega
  have hpay : σ₂.kd c.β.b = .pay := by have := hph.kpaN; rw [hc] at this; exact this hs0
  have e16 : a.eval (.tmp 16) = .pointer (some ⟨c.β.b, c.β.o + (q * 6 + 0), none⟩) := hs2.core.ev (x := .tmp 16) rfl
  obtain ⟨vs, hvs, hsz, hr⟩ := hs2.core.ev (x := .tmp 15) (d := .ag 6 (El.enc out)) rfl
  have hnI : ¬ (σ₂.still c.β.b ∨ I c.β.b) := by
    rintro (h | h)
    · rcases h with h | ⟨g, h⟩ | h <;> rw [hpay] at h <;> cases h
    · rcases hs2.imO h with h | h
      · rcases hJ2.im _ h with h | ⟨_, h | h⟩ <;> rw [hpay] at h <;> cases h
      · rw [show σ₂.kd c.β.b = .own i from h] at hpay; cases hpay
  have hrow1 : BOk (fun b => σ₂.still b ∨ I b) w₂ c.β 37 6 ⟨c.N, p.get⟩ := hrow.mono (fun _ h => .inl h) (fun _ _ => rfl) fun _ => rfl
  obtain ⟨cs0, hg, hfit, hb'⟩ := hrow1.store (c' := ⟨c.N, fun e => if e = q then El.enc out else p.get e⟩) (e := q) (f := 0) (n := 6) (q := El.enc out) ⟨rfl, fun e' f' he' hf' => by
    show (if e' = q then El.enc out else p.get e') f' = _
    by_cases e : e' = q
    · rw [if_pos e, if_pos ⟨e, Nat.zero_le _, by omega⟩]; rfl
    · rw [if_neg e, if_neg fun h => e h.1]⟩ hqN (by omega) (vs := vs.toList) (by simpa using hsz) (fun j hj => by
      obtain ⟨u, h1, h2, h3⟩ := hr j hj
      exact ⟨u, by simpa using h1, h2, h3.mono (fun _ h => .inr h) fun _ _ => rfl⟩) hnI
  have hone : ∀ u ∈ (Value.agg vs).cells.toList, u.oneCell' = true := fun u hu => by
    obtain ⟨j, hj⟩ := List.mem_iff_getElem?.1 hu
    have hj' : vs[j]? = some u := by simpa [Value.cells] using hj
    have hjn : j < 6 := by
      have := (Array.getElem?_eq_some_iff.1 hj').1
      omega
    obtain ⟨u', h1, h2, _⟩ := hr j hjn
    rw [hj'] at h1
    cases h1
    exact h2
  have hrun := run_storeVar (P := Try.prog) (w := w₂) (t := 37) (v := .agg vs) hsz hg hfit hone
  have hoff : ∀ e ∈ (execOp a.eval { dst := none, op := .store 37 (.tmp 16) (.tmp 15), type := 0, pos := "many.go:27", after := #[⟨7, .data⟩, ⟨6, .data⟩, ⟨6, .chain⟩, ⟨0, .phase⟩, ⟨1, .phase⟩, ⟨2, .phase⟩, ⟨3, .phase⟩, ⟨4, .phase⟩, ⟨5, .phase⟩, ⟨6, .phase⟩], guard := none }).events Try.prog w₂ #[], ∃ j, j < 6 ∧ e.loc = .cell ⟨c.β.b, c.β.o + (q * 6 + 0) + j, none⟩ := fun e he => by
    simp only [execOp, Instr.storeAt, Instr.sureAddr, e16, hvs, Sem.events_bind, Sem.run_bind, Sem.run_pure, Sem.events_pure, Result.evThen, Result.andThen_ok] at he
    have he' : e ∈ (storeVar 37 ⟨c.β.b, c.β.o + (q * 6 + 0), none⟩ (.agg vs)).events Try.prog w₂ #[] := by
      revert he
      cases (storeVar 37 ⟨c.β.b, c.β.o + (q * 6 + 0), none⟩ (.agg vs)).run Try.prog w₂ <;> exact id
    have h6 : (Value.agg vs).cells.size = 6 := hsz
    simp only [storeVar, Sem.events_bind, events_sizeOf, (inferInstance : TI Try.prog 37 6 true).size, Result.evThen, h6, ne_eq, not_true_eq_false, if_false] at he'
    rcases ev_storeCells c.β.b (c.β.o + (q * 6 + 0)) 37 (Value.agg vs).cells.toList 0 cs0 w₂ #[] hg (by simpa [h6] using hfit) hone e he' with h | ⟨j, h1, h2, h3⟩
    · exact absurd h (Array.not_mem_empty _)
    · exact ⟨j, by simpa [h6] using h2, h3⟩
  have hop : (execOp a.eval { dst := none, op := .store 37 (.tmp 16) (.tmp 15), type := 0, pos := "many.go:27", after := #[⟨7, .data⟩, ⟨6, .data⟩, ⟨6, .chain⟩, ⟨0, .phase⟩, ⟨1, .phase⟩, ⟨2, .phase⟩, ⟨3, .phase⟩, ⟨4, .phase⟩, ⟨5, .phase⟩, ⟨6, .phase⟩], guard := none }).run Try.prog w₂ = .ok .skip (w₂.setRow c.β.b (splice cs0 (c.β.o + (q * 6 + 0)) (Value.agg vs).cells.toList)) := by
    simp only [execOp, Instr.storeAt, Instr.sureAddr, e16, hvs, Sem.run_bind, Sem.run_pure, Result.andThen_ok, hrun]
  have hst : stepG Try.prog (i == 0) (G (b10.at a (.inRegion ops3_10 [8] :: k)) cs) w₂ = _ := stepG_none o3_8 rfl (by simp [b10, baseD]) hop
  have htk : p.tk q = some i := (hJ2.jobs p hp).2.2 q rfl
  have hlaid : ∀ b, σ₂.kd b ≠ .own i → (σ₂.laid p i q (El.enc out)).kd b = σ₂.kd b := fun b hb => by
    rcases laid_kd (σ := σ₂) (p := p) (i := i) (k := q) (d := El.enc out) b with ⟨_, h⟩ | ⟨h, _⟩
    · exact absurd h hb
    · exact h
  have hfz : ∀ b, σ₂.kd b = .own i → (σ₂.laid p i q (El.enc out)).kd b = .fz i := fun b hb => by
    rcases laid_kd (σ := σ₂) (p := p) (i := i) (k := q) (d := El.enc out) b with ⟨h, _⟩ | ⟨_, h⟩
    · exact h
    · exact absurd hb h
  have him : ∀ b, A b ∨ σ₂.own i b → (σ₂.laid p i q (El.enc out)).im i b ∧ (σ₂.laid p i q (El.enc out)).still b := fun b hb => by
    rcases hb with hb | hb
    · rcases hJ2.im b hb with h | ⟨h0, h | h⟩
      · have := (hlaid b (by rw [h]; simp)).trans h
        exact ⟨.inl this, .inl this⟩
      · have := (hlaid b (by rw [h]; simp)).trans h
        exact ⟨.inr ⟨h0, .inl this⟩, .inr (.inr this)⟩
      · have := (hlaid b (by rw [h]; simp)).trans h
        exact ⟨.inr ⟨h0, .inr this⟩, .inr (.inl ⟨i, this⟩)⟩
    · have := hfz b hb
      exact ⟨.inr ⟨by have := hJ2.x.f0; omega, .inr this⟩, .inr (.inl ⟨i, this⟩)⟩
  have hrow' : BOk (σ₂.laid p i q (El.enc out)).still (w₂.setRow c.β.b (splice cs0 (c.β.o + (q * 6 + 0)) (Value.agg vs).cells.toList)) p.c.β 37 6 ⟨p.c.N, fun e => if e = q then El.enc out else p.get e⟩ := by
    rw [hc]
    refine BOk.mono hb' (fun b hb => ?_) (fun _ _ => rfl) fun _ => rfl
    rcases hb with h | h
    · rcases h with h | ⟨g, h⟩ | h
      · exact .inl ((hlaid b (by rw [h]; simp)).trans h)
      · exact .inr (.inl ⟨g, (hlaid b (by rw [h]; simp)).trans h⟩)
      · exact .inr (.inr ((hlaid b (by rw [h]; simp)).trans h))
    · exact (him b (hs2.imO h)).2
  have hnew : Wk i c (fun b => A b ∨ σ₂.own i b) none q0 (σ₂.laid p i q (El.enc out)) (w₂.setRow c.β.b (splice cs0 (c.β.o + (q * 6 + 0)) (Value.agg vs).cells.toList)) := by
    refine ⟨⟨hJ2.x.st, hJ2.x.df, ⟨_, rfl, hc⟩, hJ2.x.f0, hJ2.x.hn⟩, fun b hb => (him b hb).1, fun p' hp' => ?_⟩
    cases hp'
    obtain ⟨j1, j2, _⟩ := hJ2.jobs p hp
    refine ⟨j1, fun k' hk' => .inl ?_, fun k' hk' => by cases hk'⟩
    show k' = q ∨ p.dn k'
    rcases j2 k' hk' with h | h
    · exact .inr h
    · cases h; exact .inl rfl
  refine ⟨_, _, _, _, _, Moves.go hst, Ac.store (k := q) (d := El.enc out) hp hJ2.x.st (by rw [hc]; exact hJ2.x.f0.2) htk (by rw [hc]; exact hs0) (by rw [hc]; exact setRow_but) hrow' (by rw [hc]; exact hpost) (fun op hop' => ?_), fun hw => .inl ?_, ?_⟩
  · obtain ⟨e, he, k1, k2⟩ := mem_ofEvents hop'
    obtain ⟨j, hj, hl⟩ := hoff e (mem_seen he)
    obtain ⟨loc, wr, sy⟩ := e
    cases hl
    rw [k2]
    refine ⟨k1, fun x hx => ?_, fun m hm => by cases hm⟩
    cases hx
    refine ⟨_, rfl, by rw [hc], ?_⟩
    rw [hc]
    show (c.β.o + (q * 6 + 0) + j - c.β.o) / 6 = q
    omega
  · obtain ⟨p', e, ht, j, a1, b1, cc⟩ := hw
    rw [hp] at e; cases e
    exact ⟨_, rfl, ht, j, a1, b1, cc⟩
  · refine wkWalk (σ := σ₂.laid p i q (El.enc out)) (next (fun b => A b ∨ σ₂.own i b) _ (fun b hb => .inl hb) (fun b hb => ⟨by rw [(setRow_but (g := c.β.b) (cs := splice cs0 (c.β.o + (q * 6 + 0)) (Value.agg vs).cells.toList) (w := w₂)).size]; exact (hs2.tab.2 b hb).1, hs2.imO hb⟩) (fun d x hx => ?_)) (funext fun b => propext ⟨fun hb => ?_, fun hb => hb.elim⟩) hnew
    · exact (hs2.core.env d x hx).mono (fun _ h => h) fun b hb => setRow_other _ c.β.b b _ fun e => hnI (.inr (by rw [← e]; exact hb))
    · rcases laid_kd (σ := σ₂) (p := p) (i := i) (k := q) (d := El.enc out) b with ⟨h, _⟩ | ⟨h, h'⟩
      · rw [show (σ₂.laid p i q (El.enc out)).kd b = .own i from hb] at h; cases h
      · exact h' (h.symm.trans hb)
end
theorem lib_kind : b10.kind ≠ .early := by simp [b10, baseD]
section
variable {i : Nat} {c : Ph0} {jobs : List (List Deed)}
def postW (jobs : List (List Deed)) (k : Nat) (d : Nat → D) : Prop := ∃ out, many_do_F (jobs.getD k El.d) = some out ∧ d = El.enc out
theorem r2_eq : r2_10 = .region 2 [{ dst := some 8, op := .extract (.tmp 6) 0, type := 3, pos := "many.go:26", after := #[], guard := none }, { dst := some 4, op := .assign (.tmp 8), type := 3, pos := "many.go:26", after := #[⟨0, .data⟩, ⟨0, .phase⟩], guard := none }].toArray false := by kernel_rfl
set_option maxRecDepth 20000 in
theorem w_round {q0 : Nat} (hN : jobs.length = c.N) (hpost : c.post = postW jobs) (hall : ∀ k, k < jobs.length → ∃ out, many_do_F (jobs.getD k El.d) = some out) {A I0 I : Nat → Prop} {w0 w : World} {a : Act} {O : Nat → Prop}
    (ih : ∀ q, q < c.N → q0 ≤ q → ∀ (A I0 I : Nat → Prop) (w0 w : World) (a : Act) (O : Nat → Prop), SatY (yW i (Wk i c A none (q + 1)) w0 I0 A) I (sL c jobs) a w O → (∀ b, I0 b → A b) →
      GoesO Try.prog false A (LJ i (Wk i c A none (q + 1)) (WLife (many Try.prog) i)) O (G (b10.at a (.code lb10 :: K10)) [botF]) w)
    (hs : SatY (yW i (Wk i c A none q0) w0 I0 A) I (sL c jobs) a w O) (hIA : ∀ b, I0 b → A b) :
    GoesO Try.prog false A (LJ i (Wk i c A none q0) (WLife (many Try.prog) i)) O (G (b10.at a (.code lb10 :: K10)) [botF]) w := by
  have eK : (Item.code lb10 :: K10) = Item.code (.seq (.region 1 ops1_10 false) tl10) :: K10 := by rw [lb10_eq]
  rw [eK]
  refine .move rfl (fun _ => stepG_seq) ?_
  refine .move rfl (fun _ => stepG_region) ?_
  rw [range1]
  refine .stop fun w₁ h₁ σ ho hJ => ?_
  have hs1 := hs.rely h₁
  rw [← ho] at hs1
  refine recv_life lib_kind op1_0 hs1 rfl hJ (fun q w' a' O' hq hq0 hs' => ?_) fun w' a' O' hs' => w_end (jobs := jobs) (hs' _) rfl
  obtain ⟨out, hout⟩ := hall q (by omega)
  refine got1 (hs' _) fun a2 w2 O2 I2 hs2 => ?_
  have hcnd : a2.eval (.tmp 7) = .bool true := hs2.core.ev (x := .tmp 7) rfl
  have etl : (Item.code tl10 :: K10) = Item.code (.seq (.cond (.tmp 7) .skip (.exit 0)) (.block 1 (.seq r2_10 (.region 3 ops3_10 true)))) :: K10 := rfl
  rw [etl]
  refine .move rfl (fun _ => stepG_seq) ?_
  refine .move rfl (fun _ => stepG_cond hcnd) ?_
  refine .move rfl (fun _ => stepG_skip) ?_
  refine .move rfl (fun _ => stepG_block) ?_
  refine .move rfl (fun _ => stepG_seq) ?_
  rw [r2_eq]
  refine piece (y := yW i (Wk i c A (some q) (q + 1)) w0 I0 A) (fn := Try.f10) (Jt := fun s' => s' = ((((sL c jobs).put 6 (.tp 2 (nth [.v (.int .i64 (q : Int)), .v (.bool true)]))).put 7 (.v (.bool true))).put 8 (.v (.int .i64 (q : Int)))).put 4 (.v (.int .i64 (q : Int)))) (Y.GoC.region (Y.GoO.pure (Y.ps_extract rfl rfl rfl) (Y.GoO.pure (Y.ps_assign rfl rfl) (Y.GoO.nil (Y.GoK.again rfl))))) hs2 rfl lib_kind fun a3 w3 O3 s3 I3 e3 hs3 => ?_
  subst e3
  refine w_work (c := c) (jobs := jobs) (by omega) hq hout hs3 (fun b hb => (hs3.imO hb)) rfl rfl rfl fun a4 w4 O4 I4 hI4 hs4 => ?_
  refine .stop fun w₅ h₅ σ₅ ho₅ hJ₅ => ?_
  have hs5 := hs4.rely h₅
  rw [← ho₅] at hs5
  refine store_life hs5 hJ₅ hq (by rw [hpost]; exact ⟨out, hout, rfl⟩) fun A' w' hA' hI' hRd => ?_
  refine .move rfl (fun _ => stepG_region_end) ?_
  refine .move rfl (fun _ => stepG_inBlock) ?_
  refine .move rfl (fun _ => stepG_inLoop) ?_
  exact ih q hq hq0 A' I4 I4 w' w' a4 (fun _ => False) (yW_begin hs5.core.tsz hs5.core.dfr (fun k d hk => hRd k d (by
    match k, hk with
    | 0, hk => exact hk
    | 1, hk => exact hk
    | 2, hk => exact hk
    | 3, hk => exact hk
    | 4, hk => cases hk
    | 5, hk => exact hk
    | k + 6, hk => cases hk)) hI') fun b hb => (hI' b hb).2
theorem w_rounds (hN : jobs.length = c.N) (hpost : c.post = postW jobs) (hall : ∀ k, k < jobs.length → ∃ out, many_do_F (jobs.getD k El.d) = some out) :
    ∀ m q0, c.N - q0 ≤ m → ∀ (A I0 I : Nat → Prop) (w0 w : World) (a : Act) (O : Nat → Prop), SatY (yW i (Wk i c A none q0) w0 I0 A) I (sL c jobs) a w O → (∀ b, I0 b → A b) →
      GoesO Try.prog false A (LJ i (Wk i c A none q0) (WLife (many Try.prog) i)) O (G (b10.at a (.code lb10 :: K10)) [botF]) w := by
  intro m
  induction m with
  | zero => exact fun q0 hm A I0 I w0 w a O hs hIA => w_round hN hpost hall (fun q hq hq0 => absurd hq (by omega)) hs hIA
  | succ m ih => exact fun q0 hm A I0 I w0 w a O hs hIA => w_round hN hpost hall (fun q hq hq0 A' I0' I' w0' w' a' O' hs' hIA' => ih (q + 1) (by omega) A' I0' I' w0' w' a' O' hs' hIA') hs hIA
end
instance : TI Try.prog 42 1 false := TI.of (by kernel_rfl) Try.underlying42 rfl
section
variable {i : Nat} {c : Ph0} {jobs : List (List Deed)}
theorem r0_eq : r0_10 = .region 0 [{ dst := some 5, op := .load 42 (.tmp 0), type := 42, pos := "many.go:26", after := #[], guard := none }].toArray false := by kernel_rfl
theorem worker_life (hN : jobs.length = c.N) (hpost : c.post = postW jobs) (hall : ∀ k, k < jobs.length → ∃ out, many_do_F (jobs.getD k El.d) = some out) {A I : Nat → Prop} {σ : Gh} {w : World} {v0 v1 v2 v3 : Value}
    (hx : Wk i c A none 0 σ w) (ho : σ.own i = fun _ => False) (hargs : RdL I w (argsW c jobs) [v0, v1, v2, v3]) (hI : ∀ b, I b → b < w.heap.size ∧ A b) : WLife (many Try.prog) i σ (Conc.born Try.prog (call10 v0 v1 v2 v3)) w := by
  refine wkWalk (q0 := 0) (hk := none) (A := A) (c := c) ?_ ho hx
  refine .move rfl (fun w₁ => born_step10 v0 v1 v2 v3 w₁) ?_
  rw [body10_eq]
  refine .move rfl (fun _ => stepG_seq) ?_
  refine .move rfl (fun _ => stepG_seq) ?_
  rw [r0_eq]
  have hs : SatY (yW i (Wk i c A none 0) w I A) I ⟨argEnv 0 (argsW c jobs), []⟩ ⟨#[v0, v1, v2, v3] ++ Array.replicate 14 undef, []⟩ w (fun _ => False) := yW_begin rfl rfl (fun k d hk => by
    obtain ⟨_, v, h4, h5⟩ := look_argEnv 0 hargs k d hk
    have h6 : [v0, v1, v2, v3][k]? = some v := by simpa using h4
    have hlt : k < 4 := by have := (List.getElem?_eq_some_iff.1 h6).1; simpa using this
    have h7 : ([v0, v1, v2, v3].toArray ++ Array.replicate 14 undef).getD k undef = v := by
      simp only [Array.getD_eq_getD_getElem?]
      rw [Array.getElem?_append_left (by simpa using hlt)]
      simp [h6]
    show Rd I w d (([v0, v1, v2, v3].toArray ++ Array.replicate 14 undef).getD k undef)
    rw [h7]; exact h5) hI
  refine piece (y := yW i (Wk i c A none 0) w I A) (fn := Try.f10) (Jt := fun s' => s' = sL c jobs) (Y.GoC.region (Y.GoO.pure (fun {w I tb} => ?_) (Y.GoO.nil (Y.GoK.again rfl)))) hs rfl lib_kind fun a1 w1 O1 s1 I1 e1 hs1 => ?_
  · unfold yW
    exact Y.ps_loadR (size := 1) (len := 1) (e := 0) (f := 0) (get := fun _ _ => .v (.chan (some c.Ch))) rfl (by decide) rfl rfl
  subst e1
  refine .move rfl (fun _ => stepG_block) ?_
  refine .move rfl (fun _ => stepG_loop) ?_
  exact w_rounds hN hpost hall c.N 0 (by omega) A I I1 w w1 a1 O1 hs1 fun b hb => (hI b hb).2
end
end Go.Proofs.Ytkfmphlnpmemdaa.Sx
