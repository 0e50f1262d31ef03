import Derived.Test.YtkfmphlnpmemdaaQMaO
import Derived.Test.YtkfmphlnpmemdaaQMaNn
import Derived.Test.YtkfmphlnpmemdaaQWgL
import Derived.Test.YtkfmphlnpmemdaaQYGmany
set_option linter.unusedVariables false
set_option linter.unusedSimpArgs false
namespace Go.Proofs.Ytkfmphlnpmemdaa.Sx
open Go Go.Conc Go.ConcN Go.Conc.Lib Go.RowKit
open Go.ConcR (KK wgBlock WgAt stA smA rd wr mk DC0)
structure Wk (i : Nat) (c : Ph0) (A : Nat → Prop) (hk : Option Nat) (q0 : Nat) (σ : Gh) (w : World) : Prop where
  x : Wx i c 7 0 σ w
  im : ∀ b, A b → σ.im i b
  jobs : ∀ p, σ.ph = some p → q0 ≤ p.q ∧ (∀ k, p.tk k = some i → p.dn k ∨ hk = some k) ∧ (∀ k, hk = some k → p.tk k = some i)
section
variable {P : Program} {i : Nat} {c : Ph0} {A : Nat → Prop} {hk : Option Nat} {q0 : Nat}
theorem Wk.env {σ σ₁ : Gh} {w w₁ : World} (h : Wk i c A hk q0 σ w) (he : EnvP i (σ, w) (σ₁, w₁)) : Wk i c A hk q0 σ₁ w₁ ∧ Rely A (σ.own i) w w₁ ∧ σ₁.own i = σ.own i := by
  have hx := h.x.env (by decide) he
  obtain ⟨k, rfl⟩ : ∃ k, i = k + 1 := ⟨i - 1, by have := h.x.f0; omega⟩
  have he : EnvW _ _ _ := he
  obtain ⟨h1, h2, h3, h4, h5, h6⟩ := he.run (by show σ.st (k + 1) ≠ 1; rw [h.x.st]; decide)
  refine ⟨⟨hx, fun b hb => ?_, fun p₁ hp₁ => ?_⟩, h6.mono h.im fun b hb => hb, funext fun b => propext (h2 b)⟩
  · rcases h.im b hb with h' | ⟨h0, h' | h'⟩
    · exact .inl (h3 b h')
    · exact .inr ⟨h0, .inl (h4 b h')⟩
    · exact .inr ⟨h0, .inr (h5 b h')⟩
  · obtain ⟨p, hp, _⟩ := h.x.ph
    obtain ⟨p', hp', _, hq, ht, hd⟩ := h1 p hp
    rw [hp₁] at hp'; cases hp'
    obtain ⟨j1, j2, j3⟩ := h.jobs p hp
    exact ⟨Nat.le_trans j1 hq, fun k hk => (j2 k ((ht k).1 hk)).imp (fun h => (hd k ((ht k).1 hk)).2 h) id, fun k hk => (ht k).2 (j3 k hk)⟩
theorem Wk.own {σ : Gh} {w w' : World} {t u : Trace} (h : Wk i c A hk q0 σ w) (ho : Ok σ w t) (hT : Turns (σ.own i) w w') (hu : ∀ op ∈ u, OpOk A (grow (σ.own i) w w') i op) :
    Ac i (σ, w) (σ.grown i w w', w') u ∧ (σ.grown i w w').own i = grow (σ.own i) w w' ∧ Wk i c A hk q0 (σ.grown i w w') w' ∧ ((many P).waits σ → (many P).waits (σ.grown i w w')) :=
  ⟨Ac.mem (.inr h.x.st) hT fun op hop => ⟨(hu op hop).g, fun x hx => ((hu op hop).touch x hx).im h.im, (hu op hop).mem, (hu op hop).mark⟩, grown_own σ i w w',
    ⟨⟨h.x.st, h.x.df, h.x.ph, h.x.f0, h.x.hn⟩, fun b hb => ho.grown_im (h.im b hb), h.jobs⟩, fun h => h⟩
theorem wkIdle : Idle (many P) i A (fun σ => σ.own i) (Wk i c A hk q0) where
  env h he := let ⟨h1, h2, h3⟩ := h.env he; ⟨h2, h3, h1⟩
  act {σ w t w' es fn pos} h ho hg := let ⟨h1, h2, h3, h4⟩ := h.own (P := P) ho hg.turns (opOk_ofEvents (fn := fn) (pos := pos) hg.evs); ⟨_, h1, h2, h3, h4⟩
theorem Wk.alive {σ : Gh} {w : World} (h : Wk i c A hk q0 σ w) (d : Nat) : ¬ (many P).quit σ i d := fun hq => by have := h.x.st.symm.trans hq.2.1; omega
theorem wkWalk {O : Nat → Prop} {g : Goroutine} {w : World} (h : GoesO P false A (LJ i (Wk i c A hk q0) (WLife (many P) i)) O g w) {σ : Gh} (ho : σ.own i = O) (hJ : Wk i c A hk q0 σ w) : WLife (many P) i σ g w :=
  walkW (Stop := LJ i (Wk i c A hk q0) (WLife (many P) i)) (by have := hJ.x.f0; simp; omega) wkIdle (fun σ w h d => h.alive (P := P) d) (fun σ g w hJ hs => hs w (Rely.refl _ _ _) σ rfl hJ) h σ ho hJ
theorem wkGoes {Stop : Goroutine → World → Prop} (hS : ∀ σ g w, Wk i c A hk q0 σ w → (∀ w₁, Rl 52 c.Wg w w₁ → Stop g w₁) → WLife (many P) i σ g w) {n : Nat} {g : Goroutine} {w : World} (h : Goes P false (Rl 52 c.Wg) DC0 Stop n g w) {σ : Gh} (hJ : Wk i c A hk q0 σ w) : WLife (many P) i σ g w :=
  goesW (by have := hJ.x.f0; omega) (fun _ _ _ _ h he => (h.env he).1) (fun σ w t h ho => let ⟨p, hp, hc⟩ := h.x.ph; hc ▸ WgAt.live (c := c) ho hp)
    (fun σ w t fn pos h ho => by
      obtain ⟨h1, _, h3, h4⟩ := h.own (P := P) ho (Guar.idle A _ w).turns (opOk_ofEvents (fn := fn) (pos := pos) (Guar.idle A (σ.own i) w).evs)
      exact ⟨_, h1, h3, h4⟩) (fun σ w d h => h.alive (P := P) d) hS n g w h σ hJ
end
def b10 : Frame := baseD 10
noncomputable def botF : Frame := { (default : Frame) with fn := Try.prog.funcs.size, defers := [], mode := .panicking [goexitEntry] }
noncomputable def body10 : Code := Try.f10.body.getD .skip
def call10 (v0 v1 v2 v3 : Value) : Deferred := { target := .fn (.func 10) #[v0, v1, v2, v3], args := #[] }
theorem quitsTail10 (T : Array Value) : QuitsD Try.prog 2 0 (G { b10.at ⟨T, []⟩ [] with mode := .returning } [botF]) := by
  refine QuitsD.ctl (g' := G botF []) rfl (fun w => ?_) ?_
  · simp [G, stepG, unwind, doReturn, results, Frame.at, b10, baseD, botF, Try.func10, Try.f10, seen, GStep.after, goexitEntry]
  refine QuitsD.ctl (g' := { G botF [] with status := .finished }) rfl (fun w => ?_) ⟨rfl, rfl⟩
  simp [G, stepG, unwind, botF, goexitEntry, Frame.catches]
  rfl
theorem born_step10 (v0 v1 v2 v3 : Value) (w : World) : stepG Try.prog false (born Try.prog (call10 v0 v1 v2 v3)) w =
    .go (G (b10.at ⟨#[v0, v1, v2, v3] ++ Array.replicate 14 undef, []⟩ [.code body10]) [botF]) w #[] := by
  simp [born, call10, stepG, unwind, callDeferred, invoke, callFunc, Try.func10, Try.f10, seen, GStep.after, G, Frame.enter, Frame.at, b10, baseD, botF, body10]
def recvOp : Oper := { dst := some 6, op := .recv 42 (.tmp 5) true, type := 0, pos := "many.go:26", after := #[], guard := none }
theorem recv_run {a : Act} {w : World} {Ch : Nat} (h : a.eval (.tmp 5) = .chan (some Ch)) :
    (execOp a.eval recvOp).run Try.prog w = .ok (.comm #[rcase Ch (.int .i64 0)] true (.recv true)) w ∧ (execOp a.eval recvOp).events Try.prog w #[] = #[] := by
  have h' : a.tmps[5]?.getD undef = .chan (some Ch) := by simpa [Act.eval] using h
  constructor
  · simp [execOp, recvOp, rcase, h', go_sem, Try.underlying42, Try.underlying3]
  · simp [execOp, recvOp, h, go_sem, Try.underlying42, Try.underlying3]
noncomputable def r0_10 : Code := match body10 with | .seq (.seq r _) _ => r | _ => .skip
noncomputable def lb10 : Code := match body10 with | .seq (.seq _ (.block _ (.loop c))) _ => c | _ => .skip
noncomputable def ops4_10 : Array Oper := match body10 with | .seq _ (.region _ o _) => o | _ => #[]
theorem body10_eq : body10 = .seq (.seq r0_10 (.block 0 (.loop lb10))) (.region 4 ops4_10 false) := rfl
noncomputable def ops1_10 : Array Oper := match lb10 with | .seq (.region _ o _) _ => o | _ => #[]
noncomputable def r2_10 : Code := match lb10 with | .seq _ (.seq _ (.block _ (.seq r _))) => r | _ => .skip
noncomputable def ops3_10 : Array Oper := match lb10 with | .seq _ (.seq _ (.block _ (.seq _ (.region _ o _)))) => o | _ => #[]
noncomputable def tl10 : Code := .seq (.cond (.tmp 7) .skip (.exit 0)) (.block 1 (.seq r2_10 (.region 3 ops3_10 true)))
theorem lb10_eq : lb10 = .seq (.region 1 ops1_10 false) tl10 := rfl
noncomputable def K10 : List Item := [.inLoop lb10, .inBlock 0, .code (.region 4 ops4_10 false)]
theorem noTab (I : Nat → Prop) (w : World) : Tab Try.prog I w := fun g hg => by
  have e : Try.prog.globalNamed "internal/strconv.uint64pow10" = none := by kernel_rfl
  rw [e] at hg; cases hg
noncomputable def yW (i : Nat) (J : Gh → World → Prop) (w0 : World) (I0 A : Nat → Prop) : Cy := ⟨Try.prog, 18, ⟨false, LJ i J (WLife (many Try.prog) i)⟩, 10, w0, fun _ => False, I0, fun _ => False, A⟩
section
variable {i : Nat} {J J' : Gh → World → Prop} {w0 w : World} {I I0 A : Nat → Prop} {s : St} {a : Act} {O : Nat → Prop}
theorem SatY.chgJ (h : SatY (yW i J w0 I0 A) I s a w O) : SatY (yW i J' w0 I0 A) I s a w O := ⟨h.tab, h.core, h.own, h.imm, h.i0, h.sub, h.olt, h.keep, h.imk, h.os, h.tape, h.output, h.size⟩
theorem yW_begin {env : List (Nat × D)} (hT : a.tmps.size = 18) (hd : a.defers = []) (he : ∀ k d, look env k = some d → Rd I w d (a.tmps.getD k undef)) (hI : ∀ b, I b → b < w.heap.size ∧ A b) : SatY (yW i J w I A) I ⟨env, []⟩ a w (fun _ => False) := by
  have tb : Tb Try.prog I ⟨env, []⟩ w := ⟨noTab I w, fun b hb => ⟨(hI b hb).1, fun ⟨z, hz, _⟩ => absurd hz (by simp)⟩⟩
  exact ⟨tb, ⟨hT, hd, he, fun z hz => absurd hz (by simp), List.Pairwise.nil, fun b ⟨z, hz, _⟩ => absurd hz (by simp), fun b hb => ⟨(hI b hb).1, .inl hb⟩, fun _ hb => hb, Same.refl _ _⟩,
    fun b ⟨z, hz, _⟩ => absurd hz (by simp), fun b hb => .inl hb, fun b hb => ⟨hb, .inl (hI b hb).2⟩, fun b hb => hb.elim, fun b hb => hb.elim, fun b hb => hb.elim, fun _ _ => rfl, rfl, rfl, rfl, Nat.le_refl _⟩
end
noncomputable def argsW (c : Ph0) (jobs : List (List Deed)) : List D := [.rp 1 1 (fun _ _ => .v (.chan (some c.Ch))) 0 0, .rp 1 1 (fun _ _ => slD jobs) 0 0, .rp 1 1 (fun _ _ => .own c.β 6 0 c.N) 0 0, .v (.pointer (some ⟨c.Wg, 0, none⟩))]
noncomputable def sL (c : Ph0) (jobs : List (List Deed)) : St := ⟨(5, .v (.chan (some c.Ch))) :: argEnv 0 (argsW c jobs), []⟩
theorem setChan_but {w : World} {c cap s r : Nat} {buf : Array Value} {closed tm : Bool} : But c w (w.setChan c cap buf closed s r tm) := ⟨rfl, rfl, rfl, by simp [World.setChan], fun b hb => by simp [World.setChan, Array.getElem?_setIfInBounds_ne (Ne.symm hb)]⟩
theorem setChan_at {w : World} {c cap s r : Nat} {buf : Array Value} {closed tm : Bool} (h : c < w.heap.size) : (w.setChan c cap buf closed s r tm).heap[c]? = some (.chan cap buf closed s r tm) := by simp [World.setChan, h]
section
variable {i : Nat} {c : Ph0} {A : Nat → Prop} {jobs : List (List Deed)}
theorem recv_life {q0 : Nat} {I0 I : Nat → Prop} {w0 : World} {s : St} {a : Act} {w : World} {σ : Gh} {ops : Array Oper} {rest : List Nat} {k : List Item} {cs : List Frame} {b : Frame}
    (hb : b.kind ≠ .early) (hop : ops[0]? = some recvOp) (hs : SatY (yW i (Wk i c A none q0) w0 I0 A) I s a w (σ.own i)) (h5 : look s.env 5 = some (.v (.chan (some c.Ch)))) (hJ : Wk i c A none q0 σ w)
    (got : ∀ q w' a' O, q < c.N → q0 ≤ q → (∀ J, SatY (yW i J w0 I0 A) I (s.put 6 (.tp 2 (nth [.v (.int .i64 (q : Int)), .v (.bool true)]))) a' w' O) → GoesO Try.prog false A (LJ i (Wk i c A (some q) (q + 1)) (WLife (many Try.prog) i)) O (G (b.at a' (.inRegion ops rest :: k)) cs) w')
    (nomore : ∀ w' a' O, (∀ J, SatY (yW i J w0 I0 A) I (s.put 6 (.tp 2 (nth [.v (.int .i64 0), .v (.bool false)]))) a' w' O) → GoesO Try.prog false A (LJ i (Wk i c A none c.N) (WLife (many Try.prog) i)) O (G (b.at a' (.inRegion ops rest :: k)) cs) w') :
    WLife (many Try.prog) i σ (G (b.at a (.inRegion ops (0 :: rest) :: k)) cs) w := by
  refine WLife.mk rfl (fun d => hJ.alive (P := Try.prog) d) fun σ₂ w₂ he ⟨t, hok⟩ => ?_
  obtain ⟨hJ2, hr2, hown2⟩ := hJ.env he
  have hs2 := hs.rely hr2
  rw [← hown2] at hs2
  obtain ⟨p, hp, hc⟩ := hJ2.x.ph
  have q := hok.phs p hp
  have h0 : (i == 0) = false := pos_false hJ2.x.f0
  have hch : a.eval (.tmp 5) = .chan (some c.Ch) := hs2.core.ev (x := .tmp 5) h5
  obtain ⟨hrun, hev⟩ := recv_run (w := w₂) hch
  have hst : stepG Try.prog (i == 0) (G (b.at a (.inRegion ops (0 :: rest) :: k)) cs) w₂ = .comm (G (b.at a (.inRegion ops (0 :: rest) :: k)) cs) #[rcase c.Ch (.int .i64 0)] true (.recv true) w₂ #[] := by
    rw [stepG_comm hop rfl hb hrun]
    unfold listed
    rw [hev, seen_none]
  obtain ⟨sn, tm, hchan⟩ := q.chn
  rw [hc] at hchan
  have hkch : σ₂.kd c.Ch = .chan := by rw [← hc]; exact q.kch
  have hlt : c.Ch < w₂.heap.size := hok.lt (by rw [hkch]; simp)
  have fin : ∀ v, (b.at a (.inRegion ops (0 :: rest) :: k)).finish v = b.at (a.put (some 6) v) (.inRegion ops rest :: k) := fun v => by rw [Frame.finish_at, hop]; rfl
  have hput : ∀ (x y : Value) w', Rely A (σ₂.own i) w₂ w' → ∀ J, SatY (yW i J w0 I0 A) I (s.put 6 (.tp 2 (nth [.v x, .v y]))) (a.put (some 6) (.tuple #[x, y])) w' (σ₂.own i) := fun x y w' hr J => by
    have h1 := (hs2.rely hr).chgJ (J' := J)
    refine h1.here (h1.core.put (k := 6) (by show 6 < 18; omega) ⟨#[x, y], rfl, rfl, fun j hj => ?_⟩)
    match j, hj with
    | 0, _ => exact ⟨x, rfl, rfl⟩
    | 1, _ => exact ⟨y, rfl, rfl⟩
  rcases Nat.lt_or_ge p.q c.N with hlt' | hge
  · have hsz : 0 < (queue p.q c.N).size := by rw [queue_size]; omega
    have hm := Moves.recv hst hchan hsz
    rw [queue_getD hlt', queue_tail hlt'] at hm
    have hbut : But p.c.Ch w₂ (w₂.setChan c.Ch c.N (queue (p.q + 1) c.N) true sn (p.q + 1) tm) := by rw [hc]; exact setChan_but
    have hrel : Rely A (σ₂.own i) w₂ (w₂.setChan c.Ch c.N (queue (p.q + 1) c.N) true sn (p.q + 1) tm) := setChan_but.rely fun b' hb' e => by
      subst e
      rcases hb' with hb' | hb'
      · rcases hJ2.im _ hb' with h | ⟨_, h | h⟩ <;> rw [hkch] at h <;> cases h
      · rw [show σ₂.kd c.Ch = .own i from hb'] at hkch; cases hkch
    have hnew : Wk i c A (some p.q) (p.q + 1) (σ₂.took p i) (w₂.setChan c.Ch c.N (queue (p.q + 1) c.N) true sn (p.q + 1) tm) := by
      refine ⟨⟨hJ2.x.st, hJ2.x.df, ⟨_, rfl, hc⟩, hJ2.x.f0, hJ2.x.hn⟩, hJ2.im, fun p' hp' => ?_⟩
      cases hp'
      refine ⟨Nat.le_refl _, fun k' hk' => ?_, fun k' hk' => by cases hk'; exact setF_same⟩
      have hk' : setF p.tk p.q (some i) k' = some i := hk'
      by_cases e : k' = p.q
      · exact .inr (by rw [e])
      · rw [setF_ne e] at hk'
        exact .inl (((hJ2.jobs p hp).2.1 k' hk').resolve_right (by simp))
    refine ⟨_, _, _, _, σ₂.took p i, hm, Ac.recv hp hJ2.x.st (by rw [hc]; exact hJ2.x.f0.2) (by rw [hc]; exact hlt') hbut ⟨sn, tm, by rw [hc]; exact setChan_at hlt⟩ (fun op hop' => ?_), fun hw => .inl ?_, ?_⟩
    · rw [ofEvents_none, Array.empty_append] at hop'
      simp at hop'
      rcases hop' with rfl | rfl <;> exact ⟨rfl, rfl, fun m e => (by cases e)⟩
    · obtain ⟨p', e, ht, j, a1, b1, cc⟩ := hw
      rw [hp] at e; cases e
      exact ⟨_, rfl, ht, j, a1, b1, cc⟩
    · have hg := got p.q _ _ _ hlt' (hJ2.jobs p hp).1 (hput (.int .i64 (p.q : Int)) (.bool true) _ hrel)
      have := wkWalk hg (σ := σ₂.took p i) rfl hnew
      unfold Goroutine.finishComm
      rw [show (G (b.at a (.inRegion ops (0 :: rest) :: k)) cs).frame = b.at a (.inRegion ops (0 :: rest) :: k) from rfl, fin]
      exact this
  · have hqN : p.q = c.N := by have := q.qn; rw [hc] at this; omega
    rw [hqN, queue_nil] at hchan
    have hm := Moves.recvClosed hst hchan
    rw [ofEvents_none, Array.empty_append] at hm
    obtain ⟨h1, h2, h3, h4⟩ := hJ2.own (P := Try.prog) (w' := w₂) (u := #[{ g := i, fn := (G (b.at a (.inRegion ops (0 :: rest) :: k)) cs).frame.fn, pos := (G (b.at a (.inRegion ops (0 :: rest) :: k)) cs).frame.place, act := .recvClosed c.Ch }]) hok (Guar.idle A _ w₂).turns fun op hop' => by
      simp at hop'
      subst hop'
      exact ⟨rfl, fun x hx => (by cases hx), fun x hx => (by cases hx), fun m hm => (by cases hm)⟩
    rw [grow_self] at h2
    refine ⟨_, _, _, _, _, hm, h1, fun hw => .inl (h4 hw), ?_⟩
    have hnew : Wk i c A none c.N (σ₂.grown i w₂ w₂) w₂ := ⟨h3.x, h3.im, fun p' hp' => by
      have e : p' = p := Option.some.inj ((show σ₂.ph = some p' from hp').symm.trans hp)
      have hj := (h3.jobs p' hp').2
      rw [e] at hj ⊢
      exact ⟨by omega, hj⟩⟩
    have hg := nomore _ _ _ (hput (.int .i64 0) (.bool false) _ (Rely.refl _ _ _))
    have := wkWalk hg (σ := σ₂.grown i w₂ w₂) h2 hnew
    unfold Goroutine.finishComm
    rw [show (G (b.at a (.inRegion ops (0 :: rest) :: k)) cs).frame = b.at a (.inRegion ops (0 :: rest) :: k) from rfl, fin]
    exact this
end
end Go.Proofs.Ytkfmphlnpmemdaa.Sx
namespace Go.Proofs.Ytkfmphlnpmemdaa.Sx
open Go Go.Conc Go.ConcN Go.Conc.Lib Go.RowKit Go.ConcR.Gen Go.ConcN.Gen
open Go.ConcR (KK wgBlock WgAt stA smA rd wr mk DC0)
theorem pieceO {y : Cy} {fn : Func} {all : Array Oper} {l : List Oper} {k0 : Nat} {Jt : St → Prop} {s : St} (hc : Y.GoO y fn (fun _ _ _ => False) all l [.again Jt] s) (hl : ∀ j, j < l.length → l[j]? = all[k0 + j]?) {I : Nat → Prop} {a : Act} {w : World} {O : Nat → Prop} (hs : SatY y I s a w O) {b : Frame} {k : List Item} {cs : List Frame} (hb : b.fn = y.f) (hk : b.kind ≠ .early)
    (hn : ∀ a' w' O' s' I', Jt s' → SatY y I' s' a' w' O' → GoesO y.P y.main.b y.Im y.main.Stop O' (G (b.at a' k) cs) w') : GoesO y.P y.main.b y.Im y.main.Stop O (G (b.at a (.inRegion all (List.range' k0 l.length) :: k)) cs) w :=
  opsO_list (fn := y.f) l k0 a w O hl (hc.run I a w O hs) b k cs hb hk fun e a' w' O' q => by
    cases e with
    | normal => obtain ⟨s', I', h1, h2⟩ := q; exact hn a' w' O' s' I' h1 h2
    | ret => obtain ⟨_, h⟩ := q; obtain ⟨_, _, _, h⟩ := h w' (Rely.refl _ _ _); exact h.elim
    | _ => exact q.elim
theorem call_step {P : Program} {main : Bool} {b : Frame} {a : Act} {k : List Item} {cs : List Frame} {ops : Array Oper} {i : Nat} {rest : List Nat} {o : Oper} {f : FuncId} {fn : Func} {c : Code} {args : Array Operand} {ats : Array TypeId} (w : World)
    (ho : ops[i]? = some o) (hw : Region.wanted o (yielded ops a.tmps) = true) (hk : b.kind ≠ .early) (hop : o.op = .call { callee := .value (.func f), args, argTypes := ats }) (hf : P.funcs[f]? = some fn) (hname : (fn.name == "runtime.NumGoroutine") = false) (hb : fn.body = some c) :
    stepG P main (G (b.at a (.inRegion ops (i :: rest) :: k)) cs) w = .go (G ((base f).at { tmps := args.map a.eval ++ Array.replicate (fn.ntmps - (args.map a.eval).size) undef, defers := [] } [.code c]) (b.at a (.inRegion ops (i :: rest) :: k) :: cs)) w #[] := by
  have hb' : fn.body.isNone = false := by rw [hb]; rfl
  rw [stepG_enter ho hw hk (run_call_body hop hf hname hb'), enter_at _ hf hb]
  congr 1
  simpa using listed_nil (events_call_body hop hf hname hb' #[])
section
variable {i : Nat} {c : Ph0} {A : Nat → Prop} {I0 I : Nat → Prop} {w0 : World} {s : St} {a : Act} {w : World} {O : Nat → Prop}
theorem range1 : List.range ops1_10.size = [0, 1] := by kernel_rfl
theorem range4 : List.range ops4_10.size = [0] := by kernel_rfl
theorem op1_0 : ops1_10[0]? = some recvOp := by kernel_rfl
noncomputable def op1_1 : Oper := { dst := some 7, op := .extract (.tmp 6) 1, type := 4, pos := "many.go:26", after := #[⟨0, .data⟩], guard := none }
theorem op1_1_eq : ops1_10[1]? = some op1_1 := by kernel_rfl
theorem got1 {J : Gh → World → Prop} {x y : Value} (hs : SatY (yW i J w0 I0 A) I (s.put 6 (.tp 2 (nth [.v x, .v y]))) a w O) {k : List Item} {cs : List Frame}
    (hn : ∀ a' w' O' I', SatY (yW i J w0 I0 A) I' ((s.put 6 (.tp 2 (nth [.v x, .v y]))).put 7 (.v y)) a' w' O' → GoesO Try.prog false A (LJ i J (WLife (many Try.prog) i)) O' (G (b10.at a' k) cs) w') :
    GoesO Try.prog false A (LJ i J (WLife (many Try.prog) i)) O (G (b10.at a (.inRegion ops1_10 [1] :: k)) cs) w := by
  have hrun : Y.GoO (yW i J w0 I0 A) Try.f10 (fun _ _ _ => False) ops1_10 [op1_1] [.again fun s' => s' = (s.put 6 (.tp 2 (nth [.v x, .v y]))).put 7 (.v y)] (s.put 6 (.tp 2 (nth [.v x, .v y]))) := by
    refine Y.GoO.pure (Y.ps_extract rfl rfl rfl) ?_
    exact Y.GoO.nil (Y.GoK.again rfl)
  exact pieceO (k0 := 1) hrun (fun j hj => by
    obtain rfl : j = 0 := by simp at hj; omega
    exact op1_1_eq.symm) hs rfl (by simp [b10, baseD]) fun a' w' O' s' I' e hs' => by subst e; exact hn a' w' O' I' hs'
noncomputable def op4_0 : Oper := { dst := some 17, op := .call { callee := .value (.func 12), args := #[.tmp 3], argTypes := #[52] }, type := 0, pos := "many.go:29", after := #[], guard := none }
theorem op4_0_eq : ops4_10[0]? = some op4_0 := by kernel_rfl
theorem quits10 {d : Option Tmp} {v : Value} {ops : Array Oper} (hd : a.defers = []) : QuitsD Try.prog 4 0 (G (b10.at (a.put d v) [.inRegion ops []]) [botF]) := by
  obtain ⟨T, D⟩ := a
  simp only at hd
  subst hd
  refine z_region_end (z_end ?_)
  cases d <;> exact quitsTail10 _
theorem w_end {jobs : List (List Deed)} (hs : SatY (yW i (Wk i c A none c.N) w0 I0 A) I (s.put 6 (.tp 2 (nth [.v (.int .i64 0), .v (.bool false)]))) a w O) (h3 : look s.env 3 = some (.v (.pointer (some ⟨c.Wg, 0, none⟩)))) :
    GoesO Try.prog false A (LJ i (Wk i c A none c.N) (WLife (many Try.prog) i)) O (G (b10.at a (.inRegion ops1_10 [1] :: .code tl10 :: K10)) [botF]) w := by
  refine got1 hs fun a' w' O' I' hs' => ?_
  have hcnd : a'.eval (.tmp 7) = .bool false := hs'.core.ev (x := .tmp 7) rfl
  have hp3 : a'.eval (.tmp 3) = .pointer (some ⟨c.Wg, 0, none⟩) := hs'.core.ev (x := .tmp 3) h3
  have hd : a'.defers = [] := hs'.core.dfr
  unfold tl10 K10
  refine .move rfl (fun _ => stepG_seq) ?_
  refine .move rfl (fun _ => stepG_cond hcnd) ?_
  refine .move rfl (fun _ => stepG_exit rfl) ?_
  refine .move rfl (fun _ => stepG_region) ?_
  rw [range4]
  refine .stop fun w₁ h₁ σ ho hJ => ?_
  refine WLife.mk rfl (fun d => hJ.alive (P := Try.prog) d) fun σ₂ w₂ he ⟨t, hok⟩ => ?_
  have hJ2 := (hJ.env he).1
  have e : (#[Operand.tmp 3].map a'.eval ++ Array.replicate ((doneFn lk).ntmps - (#[Operand.tmp 3].map a'.eval).size) undef) = #[.pointer (some ⟨c.Wg, 0, none⟩), undef, undef, undef] := by
    simp [hp3, doneFn]
  have hst := call_step (P := Try.prog) (main := i == 0) (b := b10) (a := a') (k := []) (cs := [botF]) (rest := []) (f := 12) (fn := doneFn lk) (c := body_done lk) w₂ op4_0_eq rfl (by simp [b10, baseD]) rfl wgLib.f_done (nm_done lk) rfl
  rw [e] at hst
  obtain ⟨h1, h2, h3', h4⟩ := hJ2.own (P := Try.prog) hok (Guar.idle A _ w₂).turns (opOk_ofEvents (fn := (G (b10.at a' [.inRegion ops4_10 [0]]) [botF]).frame.fn) (pos := (G (b10.at a' [.inRegion ops4_10 [0]]) [botF]).frame.place) (Guar.idle A (σ₂.own i) w₂).evs)
  obtain ⟨p0, hp0, hc0⟩ := hJ2.x.ph
  refine ⟨_, _, _, _, _, Moves.go hst, h1, fun hw => .inl (h4 hw), ?_⟩
  refine wkGoes (Stop := At1 Try.prog false 52 c.Wg (mk (.releaseMerge (stA c.Wg))) (At1 Try.prog false 52 c.Wg (mk .disable) (Wd1 Try.prog 52 c.Wg))) (fun σ g w hk hst => tailR hk.x (fun σ₁ w₁ he t hok p hp => ?_) hst) (doneY wgLib (qt := 4) (quits10 hd) _ (hc0 ▸ WgAt.live (c := c) hok hp0)) h3'
  have h1 := (hk.env he).1
  obtain ⟨p', hp', hc⟩ := h1.x.ph
  rw [hp] at hp'; cases hp'
  obtain ⟨j1, j2, _⟩ := h1.jobs p hp
  have := (hok.phs p hp).qn
  rw [hc] at this ⊢
  exact ⟨by omega, fun k hk => (j2 k hk).resolve_right (by simp)⟩
end
end Go.Proofs.Ytkfmphlnpmemdaa.Sx
namespace Go.Proofs.Ytkfmphlnpmemdaa.Sx
open Go Go.Conc Go.ConcN Go.Conc.Lib Go.RowKit
open Go.ConcR (KK wgBlock WgAt stA smA rd wr mk DC0)
theorem leaf_after {all : Array Oper} {leaf i : Nat} {ol : Oper} (hl : all[leaf]? = some ol) (he : ol.after.any (fun e => Region.binds .any e && e.on == i) = true) : ∀ L, i ∈ Region.ready .any all L → leaf ∉ Region.ready .any all L := fun L hi hl' => by
  obtain ⟨_, o', ho', hall⟩ := mem_ready.1 hl'
  rw [hl] at ho'; cases ho'
  rw [← Array.any_toList, List.any_eq_true] at he
  obtain ⟨e, hmem, hb⟩ := he
  have hmem : e ∈ ol.after := by simpa using hmem
  simp only [Bool.and_eq_true, beq_iff_eq] at hb
  have h1 := hall e hmem hb.1
  have h0 := (mem_ready.1 hi).1
  rw [hb.2] at h1
  rcases Nat.lt_or_ge i L.size with h' | h'
  · simp [h'] at h0 h1; rw [h0] at h1; cases h1
  · simp [Array.getElem?_eq_none h'] at h1
section
variable {y : Cy} {all : Array Oper} {leaf i : Nat} {o : Oper} {s s' : St} {I : Nat → Prop} {wR : World} {QS : Act → World → (Nat → Prop) → Prop} {fuel : Nat} {listed : Array Bool} {a : Act} {w : World} {O : Nat → Prop}
theorem S_first (hi : all[i]? = some o) (hg : o.guard = none) (hB : (Region.noSelect all && (Region.ready .any all listed).contains i && Region.free .any all listed i) = true) (hil : i ≠ leaf) (hlf : ∀ L, i ∈ Region.ready .any all L → leaf ∉ Region.ready .any all L)
    (hQR : ∀ a w w₁ O, QS a w O → Rely y.Im O w w₁ → QS a w₁ O) (hs : SatY y I s a w O) (hS : Y.SHO y I [] wR w O)
    (hp : ∀ {w : World} {I : Nat → Prop} {tb : Tb y.P I s w}, PureE ⟨y.P, y.nt, w, fps s.heap, I, [], tb⟩ [] o s s') (h : ∀ a', SatY y I s' a' w O → anyS y.P y.main y.Im .any all QS (fun _ => Y.SHO y I [] wR) leaf fuel (listed.setIfInBounds i true) a' w O) :
    anyS y.P y.main y.Im .any all QS (fun _ => Y.SHO y I [] wR) leaf (fuel + 1) listed a w O := by
  simp only [Bool.and_eq_true] at hB
  obtain ⟨v, h1, h2⟩ := Y.yieldsE (fun {w I tb} => @hp w I tb) hs hS
  exact anyS_first (T := Y.SHO y I [] wR) (fun _ _ _ h r => h.rely r) (fun _ _ _ _ h r => h.rely r) hQR hi hil (Region.noSelect_spec hB.1.1) (fun _ _ _ h => h) (fun _ _ _ h => h) (fun _ _ _ h => h) hlf fuel listed a w O
    (Region.free_spec hi hB.2) (by simpa using hB.1.2) (.inl ⟨by simp [Region.wanted, hg], h1⟩) hS (h _ h2)
theorem S_one (hi : all[i]? = some o) (hg : o.guard = none) (hr : Region.ready .any all listed = [i]) (hil : i ≠ leaf) {K : Act → World → (Nat → Prop) → Prop} (he : opO y.P y.main y.Im o K a w O)
    (h : ∀ a' w' O', K a' w' O' → Y.SHO y I [] wR w' O' ∧ anyS y.P y.main y.Im .any all QS (fun _ => Y.SHO y I [] wR) leaf fuel (listed.setIfInBounds i true) a' w' O') :
    anyS y.P y.main y.Im .any all QS (fun _ => Y.SHO y I [] wR) leaf (fuel + 1) listed a w O := by
  refine .inr ⟨by rw [hr]; simp, by rw [hr]; simpa using Ne.symm hil, fun j hj => ?_⟩
  rw [hr] at hj
  obtain rfl : j = i := by simpa using hj
  unfold opiO
  simp only [hi]
  rw [if_pos (by simp [Region.wanted, hg])]
  exact opO_mono h he
end
theorem o3_0 : ops3_10[0]? = some { dst := some 9, op := .load 23 (.tmp 2), type := 23, pos := "many.go:27", after := #[], guard := none } := by kernel_rfl
theorem o3_1 : ops3_10[1]? = some { dst := some 10, op := .move (.tmp 4), type := 3, pos := "many.go:27", after := #[], guard := none } := by kernel_rfl
theorem o3_2 : ops3_10[2]? = some { dst := some 11, op := .load 22 (.tmp 1), type := 22, pos := "many.go:27", after := #[], guard := none } := by kernel_rfl
theorem o3_3 : ops3_10[3]? = some { dst := some 12, op := .move (.tmp 4), type := 3, pos := "many.go:27", after := #[], guard := none } := by kernel_rfl
theorem o3_4 : ops3_10[4]? = some { dst := some 13, op := .indexAddr 22 (.tmp 11) (.tmp 12), type := 0, pos := "many.go:27", after := #[⟨2, .data⟩, ⟨3, .data⟩], guard := none } := by kernel_rfl
theorem o3_5 : ops3_10[5]? = some { dst := some 14, op := .load 29 (.tmp 13), type := 29, pos := "many.go:27", after := #[⟨4, .data⟩], guard := none } := by kernel_rfl
theorem o3_6 : ops3_10[6]? = some { dst := some 15, op := .call { callee := .value (.func 11), args := #[.tmp 14], argTypes := #[29] }, type := 37, pos := "many.go:27", after := #[⟨5, .data⟩], guard := none } := by kernel_rfl
theorem o3_7 : ops3_10[7]? = some { dst := some 16, op := .indexAddr 23 (.tmp 9) (.tmp 10), type := 0, pos := "many.go:27", after := #[⟨0, .data⟩, ⟨1, .data⟩, ⟨0, .phase⟩, ⟨1, .phase⟩, ⟨2, .phase⟩, ⟨3, .phase⟩, ⟨4, .phase⟩, ⟨5, .phase⟩, ⟨6, .phase⟩], guard := none } := by kernel_rfl
theorem o3_8 : ops3_10[8]? = some { dst := none, op := .store 37 (.tmp 16) (.tmp 15), type := 0, pos := "many.go:27", after := #[⟨7, .data⟩, ⟨6, .data⟩, ⟨6, .chain⟩, ⟨0, .phase⟩, ⟨1, .phase⟩, ⟨2, .phase⟩, ⟨3, .phase⟩, ⟨4, .phase⟩, ⟨5, .phase⟩, ⟨6, .phase⟩], guard := none } := by kernel_rfl
theorem o3_sz : ops3_10.size = 9 := by kernel_rfl
theorem do_told {deeds : List Deed} {out : Tale} (H : many_do_F deeds = some out) : Y.Does Try.prog 11 [slD deeds] [] (fun d H => d = .ag 6 (El.enc out) ∧ H = []) :=
  Y.Does.freeze (Y.many_do_spec deeds H) fun d H hp => by
    obtain ⟨β1, β2, β3, rfl, rfl⟩ := hp
    refine ⟨_, ⟨rfl, rfl⟩, Lend.agL (l' := [slD out.numbers, slD out.errs, .v (.int .i64 out.net.n), .v (.int .i64 out.net.s), .v (.int .i64 out.net.t), slD out.net.as]) ?_⟩
    refine LendL.cons (Lend.all' (.p0) rfl rfl) (LendL.cons (Lend.all' (.p1) rfl rfl) (LendL.cons (Lend.refl _ _) (LendL.cons (Lend.refl _ _) (LendL.cons (Lend.refl _ _) (LendL.cons (Lend.all' (.p2) rfl rfl) LendL.nil)))))
def L0 : Array Bool := Array.replicate 9 false
section
variable {i : Nat} {c : Ph0} {A : Nat → Prop} {I0 I : Nat → Prop} {w0 : World} {a : Act} {w : World} {O : Nat → Prop} {jobs : List (List Deed)} {env : List (Nat × D)} {q : Nat} {out : Tale}
noncomputable def sW (c : Ph0) (jobs : List (List Deed)) (q : Nat) (out : Tale) (env : List (Nat × D)) : List (Nat × D) :=
  (16, .ptr c.β 6 q 0) :: (15, .ag 6 (El.enc out)) :: (14, slD (jobs.getD q El.d)) :: (13, .rp 1 jobs.length (row jobs).get q 0) :: (10, .v (.int .i64 (q : Int))) :: (9, .own c.β 6 0 c.N) :: (12, .v (.int .i64 (q : Int))) :: (11, slD jobs) :: env
set_option maxRecDepth 100000 in
theorem w_work {J : Gh → World → Prop} (hq : q < jobs.length) (hN : q < c.N) (hout : many_do_F (jobs.getD q El.d) = some out) (hs : SatY (yW i J w0 I0 A) I ⟨env, []⟩ a w O) (hA : ∀ b, I b → A b ∨ O b)
    (h1 : look env 1 = some (.rp 1 1 (fun _ _ => slD jobs) 0 0)) (h2 : look env 2 = some (.rp 1 1 (fun _ _ => .own c.β 6 0 c.N) 0 0)) (h4 : look env 4 = some (.v (.int .i64 (q : Int)))) {k : List Item} {cs : List Frame}
    (hn : ∀ a' w' O' I', (∀ b, I b → I' b) → SatY (yW i J w0 I0 A) I' ⟨sW c jobs q out env, []⟩ a' w' O' → GoesO Try.prog false A (LJ i J (WLife (many Try.prog) i)) O' (G (b10.at a' (.inRegion ops3_10 [8] :: k)) cs) w') :
    GoesO Try.prog false A (LJ i J (WLife (many Try.prog) i)) O (G (b10.at a (.code (.region 3 ops3_10 true) :: k)) cs) w := by
  unfold yW at *
  refine .one rfl fun w₁ h₁ => ⟨_, _, _, stepG_region_draw, Guar.drew _ _ _ _, ?_⟩
  have eg : grow O w₁ { w₁ with drawn := w₁.drawn + 1 } = O := grow_self O w₁
  rw [eg]
  have hm : Try.prog.follows .mixedOrders = true := by kernel_rfl
  simp only [Region.schedule, hm, Bool.true_or, if_true]
  have hs1 : SatY ⟨Try.prog, 18, ⟨false, LJ i J (WLife (many Try.prog) i)⟩, 10, w0, fun _ => False, I0, fun _ => False, A⟩ I ⟨env, []⟩ a { w₁ with drawn := w₁.drawn + 1 } O := (hs.rely h₁).drew
  have hS : Y.SHO ⟨Try.prog, 18, ⟨false, LJ i J (WLife (many Try.prog) i)⟩, 10, w0, fun _ => False, I0, fun _ => False, A⟩ I [] w { w₁ with drawn := w₁.drawn + 1 } O := by
    intro b hb
    rcases hb with hb | ⟨z, hz, _⟩
    · exact ⟨h₁.block b (hs.tab.2 b hb).1 (hA b hb), (hs1.tab.2 b hb).1, hA b hb⟩
    · exact absurd hz (by simp)
  refine anyS_sound (main := ⟨false, LJ i J (WLife (many Try.prog) i)⟩) (leaf := 8) (QS := fun a w O => ∃ I', (∀ b, I b → I' b) ∧ SatY ⟨Try.prog, 18, ⟨false, LJ i J (WLife (many Try.prog) i)⟩, 10, w0, fun _ => False, I0, fun _ => False, A⟩ I' ⟨sW c jobs q out env, []⟩ a w O) (S := fun _ => Y.SHO ⟨Try.prog, 18, ⟨false, LJ i J (WLife (many Try.prog) i)⟩, 10, w0, fun _ => False, I0, fun _ => False, A⟩ I [] w) (by simp [b10, baseD]) (fun a w O ⟨I', hI, hs⟩ => hn a w O I' hI hs) ops3_10.size _ _ a _ O ?_
  have hQR : ∀ a w w₁ O, (∃ I', (∀ b, I b → I' b) ∧ SatY ⟨Try.prog, 18, ⟨false, LJ i J (WLife (many Try.prog) i)⟩, 10, w0, fun _ => False, I0, fun _ => False, A⟩ I' ⟨sW c jobs q out env, []⟩ a w O) → Rely A O w w₁ → ∃ I', (∀ b, I b → I' b) ∧ SatY ⟨Try.prog, 18, ⟨false, LJ i J (WLife (many Try.prog) i)⟩, 10, w0, fun _ => False, I0, fun _ => False, A⟩ I' ⟨sW c jobs q out env, []⟩ a w₁ O := fun a w w₁ O ⟨I', hI, hs⟩ r => ⟨I', hI, hs.rely r⟩
  generalize ({ w₁ with drawn := w₁.drawn + 1 } : World) = w2 at *
  rw [o3_sz]
  show anyS Try.prog ⟨false, LJ i J (WLife (many Try.prog) i)⟩ A .any ops3_10 _ _ 8 9 L0 a w2 O
  refine S_first (i := 2) (s' := (⟨env, []⟩ : St).put 11 (slD jobs)) o3_2 rfl (by kernel_rfl) (by decide) (leaf_after o3_8 (by kernel_rfl)) hQR hs1 hS (Y.ps_loadR (size := 1) (len := 1) (e := 0) (f := 0) (get := fun _ _ => slD jobs) h1 (by decide) rfl rfl) fun a1 hs2 => ?_
  refine S_first (i := 3) o3_3 rfl (by kernel_rfl) (by decide) (leaf_after o3_8 (by kernel_rfl)) hQR hs2 hS (Y.ps_move (q := .v (.int .i64 (q : Int))) h4 rfl) fun a2 hs3 => ?_
  refine S_first (i := 0) o3_0 rfl (by kernel_rfl) (by decide) (leaf_after o3_8 (by kernel_rfl)) hQR hs3 hS (Y.ps_loadR (size := 1) (len := 1) (e := 0) (f := 0) (get := fun _ _ => .own c.β 6 0 c.N) h2 (by decide) rfl rfl) fun a3 hs4 => ?_
  refine S_first (i := 1) o3_1 rfl (by kernel_rfl) (by decide) (leaf_after o3_8 (by kernel_rfl)) hQR hs4 hS (Y.ps_move (q := .v (.int .i64 (q : Int))) h4 rfl) fun a4 hs5 => ?_
  refine S_first (i := 4) o3_4 rfl (by kernel_rfl) (by decide) (leaf_after o3_8 (by kernel_rfl)) hQR hs5 hS (Y.ps_indexAddrRN (size := 1) (len := jobs.length) (get := (row jobs).get) (i := q) rfl rfl hq rfl) fun a5 hs6 => ?_
  refine S_first (i := 5) (s' := _) o3_5 rfl (by kernel_rfl) (by decide) (leaf_after o3_8 (by kernel_rfl)) hQR hs6 hS (Y.ps_loadR (size := 1) (len := jobs.length) (e := q) (f := 0) (get := (row jobs).get) rfl hq rfl rfl) fun a6 hs7 => ?_
  refine S_one (i := 6) o3_6 rfl (by kernel_rfl) (by decide) (Y.call_opO (d := 15) true (ds := [slD (jobs.getD q El.d)]) rfl (.nil _) (.nil _) (do_told hout) (LendL.cons (Lend.refl _ _) LendL.nil) rfl (fun b ⟨z, hz, _⟩ => absurd hz (by simp)) hs7) ?_
  rintro a7 w7 O7 ⟨⟨k1, k2, k3⟩, s2, ⟨r, H', ⟨rfl, rfl⟩, rfl⟩, I7, _, hI7, hs8⟩
  have hS7 : Y.SHO ⟨Try.prog, 18, ⟨false, LJ i J (WLife (many Try.prog) i)⟩, 10, w0, fun _ => False, I0, fun _ => False, A⟩ I [] w w7 O7 := by
    intro b hb
    have h3 := hS b hb
    rcases hb with hb | ⟨z, hz, _⟩
    · exact ⟨(k1 b (.inl hb) fun ⟨z, hz, _⟩ => absurd hz (by simp)).trans h3.1, Nat.lt_of_lt_of_le h3.2.1 k3, h3.2.2.imp id (k2 b)⟩
    · exact absurd hz (by simp)
  refine ⟨hS7, ?_⟩
  refine S_one (y := ⟨Try.prog, 18, ⟨false, LJ i J (WLife (many Try.prog) i)⟩, 10, w0, fun _ => False, I0, fun _ => False, A⟩) (i := 7) o3_7 rfl (by kernel_rfl) (by decide) (Y.EffO.of (Y := ⟨Try.prog, 18, ⟨false, LJ i J (WLife (many Try.prog) i)⟩, 10, w0, fun _ => False, I0, fun _ => False, A⟩) (s := ⟨(15, D.ag 6 (El.enc out)) :: (14, slD (jobs.getD q El.d)) :: (13, .rp 1 jobs.length (row jobs).get q 0) :: (10, .v (.int .i64 (q : Int))) :: (9, .own c.β 6 0 c.N) :: (12, .v (.int .i64 (q : Int))) :: (11, slD jobs) :: env, []⟩) (fun {w I tb} => EffE.pure (H1 := []) (Y.ps_indexAddr0N (β := c.β) (size := 6) (len := c.N) (i := q) rfl rfl hN rfl) (fun b hb => hb)) I7 a7 w7 O7 hs8) ?_
  rintro a8 w8 O8 ⟨⟨k4, k5, k6⟩, s3, rfl, hs9⟩
  refine ⟨?_, .inl ⟨by kernel_rfl, by kernel_rfl, I7, hI7, hs9⟩⟩
  intro b hb
  have h3 := hS7 b hb
  rcases hb with hb | ⟨z, hz, _⟩
  · exact ⟨(k4 b (.inl (hI7 b hb)) fun ⟨z, hz, _⟩ => absurd hz (by simp)).trans h3.1, Nat.lt_of_lt_of_le h3.2.1 k6, h3.2.2.imp id (k5 b)⟩
  · exact absurd hz (by simp)
end
end Go.Proofs.Ytkfmphlnpmemdaa.Sx
