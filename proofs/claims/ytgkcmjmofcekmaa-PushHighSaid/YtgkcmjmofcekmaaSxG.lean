/- The walk's rules for functions that are told as functions: typed rows, what may be weakened, joins and loops whose state is told by a plain function. Plain laws over any program. -/
import Derived.Test.YtgkcmjmofcekmaaSxF
import Derived.Laws.Cover3
import Derived.Lib.AppendZeros
namespace Go.Proofs.Ytgkcmjmofcekmaa.Sx
open Go
set_option linter.unusedVariables false
set_option linter.unusedSimpArgs false

/-! ### plain functions that may fail -/
instance (z : Int) : Decidable (InI z) := by unfold InI; infer_instance
def ck {α : Type} (p : Prop) [Decidable p] (k : Option α) : Option α := if p then k else none
theorem ck_l {α : Type} {p : Prop} [Decidable p] {k : Option α} {o : α} (h : ck p k = some o) : p := by
  unfold ck at h; split at h
  · assumption
  · cases h
theorem ck_r {α : Type} {p : Prop} [Decidable p] {k : Option α} {o : α} (h : ck p k = some o) : k = some o := by
  unfold ck at h; split at h
  · exact h
  · cases h
theorem ck_pos {α : Type} {p : Prop} [Decidable p] {k : Option α} (h : p) : ck p k = k := if_pos h
theorem ite_t {α : Type} {p : Prop} [Decidable p] {a b : Option α} {o : α} (h : p) (H : (if p then a else b) = some o) : a = some o := by rwa [if_pos h] at H
theorem ite_f {α : Type} {p : Prop} [Decidable p] {a b : Option α} {o : α} (h : ¬ p) (H : (if p then a else b) = some o) : b = some o := by rwa [if_neg h] at H
theorem itb_t {α : Type} {c : Bool} {a b : Option α} {o : α} (h : c = true) (H : (if c = true then a else b) = some o) : a = some o := by rwa [if_pos h] at H
theorem itb_f {α : Type} {c : Bool} {a b : Option α} {o : α} (h : c = false) (H : (if c = true then a else b) = some o) : b = some o := by rwa [if_neg (by rw [h]; simp)] at H
theorem bind_l {α β : Type} {x : Option α} {f : α → Option β} {o : β} (h : x.bind f = some o) : ∃ r, x = some r ∧ f r = some o := by
  cases x with
  | none => cases h
  | some r => exact ⟨r, rfl, h⟩

/-- How a round ends. -/
inductive Ct (σ ρ : Type) where
  | go (s : σ)
  | brk (s : σ)
  | ret (r : ρ)
/-- The end of a part: on it goes, or the function is left. -/
inductive Ex (σ ρ : Type) where
  | go (s : σ)
  | ret (r : ρ)
/-- so many rounds, from the k-th on -/
def forN {σ : Type} (f : Nat → σ → Option σ) : Nat → Nat → σ → Option σ
  | 0, _, s => some s
  | n + 1, k, s => (f k s).bind (forN f n (k + 1))
def forC {σ ρ : Type} (f : Nat → σ → Option (Ct σ ρ)) : Nat → Nat → σ → Option (Ex σ ρ)
  | 0, _, s => some (.go s)
  | n + 1, k, s => (f k s).bind fun q => match q with
    | .go s => forC f n (k + 1) s
    | .brk s => some (.go s)
    | .ret r => some (.ret r)
def loopC {σ ρ : Type} (f : σ → Option (Ct σ ρ)) : Nat → σ → Option (Ex σ ρ)
  | 0, _ => none
  | n + 1, s => (f s).bind fun q => match q with
    | .go s => loopC f n s
    | .brk s => some (.go s)
    | .ret r => some (.ret r)

/-! ### data: what is weaker -/
def AllLt : Nat → (Nat → Prop) → Prop
  | 0, _ => True
  | n + 1, P => AllLt n P ∧ P n
theorem AllLt.all {P : Nat → Prop} : ∀ {n : Nat}, AllLt n P → ∀ i, i < n → P i
  | 0, _, i, h => absurd h (by omega)
  | n + 1, h, i, hi => by
    by_cases h1 : i < n
    · exact AllLt.all h.1 i h1
    · have : i = n := by omega
      subst this
      exact h.2

def DLe (d d' : D) : Prop := ∀ I w v, Rd I w d v → Rd I w d' v
theorem DLe.refl (d : D) : DLe d d := fun _ _ _ h => h
theorem DLe.len {β : BK} {size r len len' : Nat} (h : len = len') : DLe (.own β size r len) (.own β size r len') := by subst h; exact DLe.refl _
theorem DLe.ag {n : Nat} {g g' : Nat → D} (h : AllLt n fun i => DLe (g i) (g' i)) : DLe (.ag n g) (.ag n g') := by
  rintro I w v ⟨vs, rfl, h1, h2⟩
  exact ⟨vs, rfl, h1, fun i hi => let ⟨u, h3, h4, h5⟩ := h2 i hi; ⟨u, h3, h4, h.all i hi I w u h5⟩⟩
theorem DLe.tp {n : Nat} {g g' : Nat → D} (h : AllLt n fun i => DLe (g i) (g' i)) : DLe (.tp n g) (.tp n g') := by
  rintro I w v ⟨vs, rfl, h1, h2⟩
  exact ⟨vs, rfl, h1, fun i hi => let ⟨u, h3, h5⟩ := h2 i hi; ⟨u, h3, h.all i hi I w u h5⟩⟩
theorem DLe.nilSl {size : Nat} {get : Nat → Nat → D} : DLe (.v (.slice none 0 0)) (.sl size 0 get) := by
  rintro I w v hv
  exact ⟨none, 0, hv, Nat.le_refl _, Nat.zero_le _, fun h => absurd h (by omega)⟩
theorem DLe.e0Sl {size : Nat} {get : Nat → Nat → D} : DLe .e0 (.sl size 0 get) := by
  rintro I w v ⟨a, hv⟩
  exact ⟨a, 0, hv, Nat.le_refl _, Nat.zero_le _, fun h => absurd h (by omega)⟩
theorem DLe.nilOwn {size : Nat} {β : BK} : DLe (.v (.slice none 0 0)) (.own β size 0 0) := by
  rintro I w v hv
  exact ⟨none, 0, hv, Nat.le_refl _, Nat.zero_le _, by simp, fun h => absurd h (by omega)⟩
theorem DLe.e0Own {size : Nat} {β : BK} : DLe .e0 (.own β size 0 0) := by
  rintro I w v ⟨a, hv⟩
  exact ⟨a, 0, hv, Nat.le_refl _, Nat.zero_le _, by simp, fun h => absurd h (by omega)⟩
theorem DLe.sl {size len : Nat} {g g' : Nat → Nat → D} (h : ∀ e, e < len → ∀ f, f < size → DLe (g e f) (g' e f)) : DLe (.sl size len g) (.sl size len g') := by
  rintro I w v ⟨a, cap, rfl, h1, h2, h3⟩
  refine ⟨a, cap, rfl, h1, h2, fun h0 => ?_⟩
  obtain ⟨g0, q, ha, hg, hc⟩ := h3 h0
  exact ⟨g0, q, ha, hg, fun e he f hf => let ⟨u, hu, ho, hr⟩ := hc e he f hf; ⟨u, hu, ho, h e he f hf I w u hr⟩⟩
theorem DLe.eq {d d' : D} (h : d = d') : DLe d d' := h ▸ DLe.refl d
theorem Lend.le {H : List HL} {d d' d'' : D} (h : Lend H d d') (h' : DLe d' d'') : Lend H d d'' := fun I w v hok hr => h' _ _ _ (h I w v hok hr)
theorem Lend.ofLe {H : List HL} {d d' : D} (h : DLe d d') : Lend H d d' := (Lend.refl H d).le h
theorem Lend.agA {H : List HL} {n : Nat} {g g' : Nat → D} (h : AllLt n fun i => Lend H (g i) (g' i)) : Lend H (.ag n g) (.ag n g') := Lend.ag h.all
theorem ResD.le {X : Cx} {s : St} {r : ResultVar} {d d' : D} (h : ResD X s r d) (hl : DLe d d') : ResD X s r d' := fun I a w hs => let ⟨v, h1, h2⟩ := h I a w hs; ⟨v, h1, hl _ _ _ h2⟩

def HLe (x x' : HL) : Prop := (∀ I w, x.ok I w → x'.ok I w) ∧ ∀ b, x'.fp b → x.fp b
theorem HLe.refl (x : HL) : HLe x x := ⟨fun _ _ h => h, fun _ h => h⟩
theorem HLe.c {β : BK} {t : TypeId} {size : Nat} {c c' : C} (hl : c'.len ≤ c.len) (h : ∀ e, e < c'.len → ∀ f, f < size → DLe (c.get e f) (c'.get e f)) : HLe (.one β t size c) (.one β t size c') :=
  ⟨fun I w hb => ⟨Nat.le_trans hl hb.1, fun hs => let ⟨cs, h1, h2, h3⟩ := hb.2 hs; ⟨cs, h1, h2, fun e he f hf => let ⟨u, hu, ho, hr⟩ := h3 e (by omega) f hf; ⟨u, hu, ho, h e he f hf I w u hr⟩⟩⟩, fun _ h => h⟩
theorem HLe.st {β : BK} {t : TypeId} {size : Nat} {g g' : Nat → D} (h : AllLt size fun f => DLe (g f) (g' f)) : HLe (.one β t size (st1 g)) (.one β t size (st1 g')) :=
  HLe.c (Nat.le_refl _) fun e _ f hf => h.all f hf

/-! ### states: what is weaker -/
def EnvD (env : List (Nat × D)) : List (Nat × D) → Prop
  | [] => True
  | (k, d) :: r => (∃ d0, look env k = some d0 ∧ DLe d0 d) ∧ EnvD env r
theorem EnvD.nil {env : List (Nat × D)} : EnvD env [] := trivial
theorem EnvD.cons {env r : List (Nat × D)} {k : Nat} {d0 d : D} (h : look env k = some d0) (hd : DLe d0 d) (h' : EnvD env r) : EnvD env ((k, d) :: r) := ⟨⟨d0, h, hd⟩, h'⟩
theorem EnvD.eq {env r : List (Nat × D)} {k : Nat} {d : D} (h : look env k = some d) (h' : EnvD env r) : EnvD env ((k, d) :: r) := ⟨⟨d, h, DLe.refl d⟩, h'⟩
theorem EnvD.look {env : List (Nat × D)} : ∀ {env' : List (Nat × D)}, EnvD env env' → ∀ k d, look env' k = some d → ∃ d0, Sx.look env k = some d0 ∧ DLe d0 d
  | [], _, _, _, h => by cases h
  | (j, e) :: r, h, k, d, hk => by
    by_cases hj : j = k
    · subst hj
      have : Nat.beq j j = true := by simp
      simp only [Sx.look, this, cond_true, Option.some.injEq] at hk
      subst hk
      exact h.1
    · have : Nat.beq j k = false := by rw [Bool.eq_false_iff]; exact fun e => hj (Nat.eq_of_beq_eq_true e)
      simp only [Sx.look, this, cond_false] at hk
      exact EnvD.look h.2 k d hk
inductive TkD : List HL → List HL → Prop
  | nil (l : List HL) : TkD l []
  | cons (l m : List HL) (x x' : HL) (A : List HL) (h : Rem l x m) (hx : HLe x x') (h' : TkD m A) : TkD l (x' :: A)
  | no (l : List HL) (t : TypeId) (size : Nat) (c : C) (A : List HL) (hc : c.len = 0) (h' : TkD l A) : TkD l (.one ⟨0, 0, 0⟩ t size c :: A)
theorem no_fp {t : TypeId} {size : Nat} {c : C} (b : Nat) : ¬ (HL.one ⟨0, 0, 0⟩ t size c).fp b := fun h => absurd h.1 (by simp)
theorem TkD.ok {l A : List HL} (h : TkD l A) : (∀ I w, (∀ x, x ∈ l → x.ok I w) → ∀ x, x ∈ A → x.ok I w) ∧ (Sep l → Sep A) ∧ ∀ b, fps A b → fps l b := by
  induction h with
  | nil => exact ⟨fun _ _ _ _ h => (by cases h), fun _ => List.Pairwise.nil, fun b ⟨_, h, _⟩ => (by cases h)⟩
  | cons l m x x' A h hx _ ih =>
    have hp := h.perm
    refine ⟨fun I w hl y hy => ?_, fun hs => ?_, fun b ⟨y, hy, hb⟩ => ?_⟩
    · rcases List.mem_cons.1 hy with rfl | hy
      · exact hx.1 I w (hl x (hp.mem_iff.2 (List.mem_cons_self ..)))
      · exact ih.1 I w (fun z hz => hl z (hp.mem_iff.2 (List.mem_cons_of_mem _ hz))) y hy
    · obtain ⟨h1, h2⟩ := List.pairwise_cons.1 (sep_perm hp hs)
      refine List.pairwise_cons.2 ⟨fun y hy b hb hyb => ?_, ih.2.1 h2⟩
      obtain ⟨z, hz, hzb⟩ := ih.2.2 b ⟨y, hy, hyb⟩
      exact h1 z hz b (hx.2 b hb) hzb
    · refine (fps_perm hp b).2 ?_
      rcases List.mem_cons.1 hy with rfl | hy
      · exact ⟨x, List.mem_cons_self .., hx.2 b hb⟩
      · obtain ⟨z, hz, hzb⟩ := ih.2.2 b ⟨y, hy, hb⟩
        exact ⟨z, List.mem_cons_of_mem _ hz, hzb⟩
  | no l t size c A hc _ ih =>
    refine ⟨fun I w hl y hy => ?_, fun hs => ?_, fun b ⟨y, hy, hb⟩ => ?_⟩
    · rcases List.mem_cons.1 hy with rfl | hy
      · exact ⟨by simp [hc], fun h => absurd h (by simp)⟩
      · exact ih.1 I w hl y hy
    · exact List.pairwise_cons.2 ⟨fun y _ b hb => absurd hb (no_fp b), ih.2.1 hs⟩
    · rcases List.mem_cons.1 hy with rfl | hy
      · exact absurd hb (no_fp b)
      · exact ih.2.2 b ⟨y, hy, hb⟩
theorem Le.ofD {s s' : St} (he : EnvD s.env s'.env) (hh : TkD s.heap s'.heap) : Le s s' := fun _ _ _ _ hs =>
  ⟨hs.tsz, hs.dfr, fun k d hk => let ⟨d0, h0, hd⟩ := he.look k d hk; hd _ _ _ (hs.env k d0 h0), hh.ok.1 _ _ hs.heap, hh.ok.2.1 hs.sep, fun b hb => hs.own b (hh.ok.2.2 b hb), hs.imm, hs.i0, hs.same⟩
/-- A row of nothing. -/
theorem le_row0 {s : St} (t : TypeId) (size : Nat) (c : C) (hc : c.len = 0) : Le s ⟨s.env, .one ⟨0, 0, 0⟩ t size c :: s.heap⟩ := fun X I a w hs =>
  ⟨hs.tsz, hs.dfr, hs.env, fun z hz => by
      rcases List.mem_cons.1 hz with rfl | hz
      · exact ⟨by simp [hc], fun h => absurd h (by simp)⟩
      · exact hs.heap z hz,
    List.pairwise_cons.2 ⟨fun z hz b hb => absurd hb (no_fp b), hs.sep⟩,
    fun b ⟨z, hz, hzb⟩ => by
      rcases List.mem_cons.1 hz with rfl | hz
      · exact absurd hzb (no_fp b)
      · exact hs.own b ⟨z, hz, hzb⟩, hs.imm, hs.i0, hs.same⟩
/-- One slot is told anew. -/
theorem Le.re {s : St} (k : Nat) {d d' : D} (hk : look s.env k = some d) (hd : DLe d d') : Le s ⟨(k, d') :: s.env, s.heap⟩ := fun _ I a w hs =>
  ⟨hs.tsz, hs.dfr, fun j e hj => by
    by_cases hkj : k = j
    · subst hkj
      have e1 : Nat.beq k k = true := by simp
      have : some d' = some e := by simpa [look, e1] using hj
      cases this
      exact hd _ _ _ (hs.env k d hk)
    · have e1 : Nat.beq k j = false := by rw [Bool.eq_false_iff]; exact fun e => hkj (Nat.eq_of_beq_eq_true e)
      exact hs.env j e (by simpa [look, e1] using hj), hs.heap, hs.sep, hs.own, hs.imm, hs.i0, hs.same⟩
/-- One row is told anew. -/
theorem Le.reH {s : St} {x x' : HL} {H' : List HL} (hat : At s.heap x x' H') (hx : HLe x x') : Le s ⟨s.env, H'⟩ := fun _ I a w hs =>
  ⟨hs.tsz, hs.dfr, hs.env, fun z hz => by
    rcases hat.old z hz with rfl | hz
    · exact hx.1 _ _ (hs.heap x hat.mem)
    · exact hs.heap z hz, hat.sep hs.sep fun b hb => .inl (hx.2 b hb), fun b ⟨z, hz, hb⟩ => by
    rcases hat.old z hz with rfl | hz
    · exact hs.own b ⟨x, hat.mem, hx.2 b hb⟩
    · exact hs.own b ⟨z, hz, hb⟩, hs.imm, hs.i0, hs.same⟩

theorem Le.ofDW {s s' : St} (he : EnvLeW s.env [] s'.env) (hh : TkD s.heap s'.heap) : Le s s' := fun _ _ _ _ hs =>
  ⟨hs.tsz, hs.dfr, fun k d hk => hs.env k d (he.look k d (by simp) hk), hh.ok.1 _ _ hs.heap, hh.ok.2.1 hs.sep, fun b hb => hs.own b (hh.ok.2.2 b hb), hs.imm, hs.i0, hs.same⟩
section
variable {X : Cx} {fn : Func} {R : Ending → World → Prop} {k : List It} {s s' : St}
theorem GoP.leD {all : Array Oper} {H0 : List HL} {p : Plan} (hl : Le s s') (h : GoP X fn R all H0 p k s') : GoP X fn R all H0 p k s := ⟨fun I a w wR fuel listed hs => h.run I a w wR fuel listed (hl _ _ _ _ hs)⟩

/-- A loop whose state is told by J. -/
theorem GoC.loopJ {c : Code} (env : List (Nat × D)) (rest : List HL) (J : Nat → List (Nat × D) → List HL → Prop) (m : Nat) {v0 : List (Nat × D)} {h0 : List HL} (hj : J m v0 h0) (he : EnvD s.env (v0 ++ env)) (ht : TkD s.heap (h0 ++ rest))
    (round : ∀ n v h, J n v h → GoC X fn R c (.again (fun s'' => ∃ n' v h, n' < n ∧ J n' v h ∧ s'' = ⟨v ++ env, h ++ rest⟩) :: k) ⟨v ++ env, h ++ rest⟩) : GoC X fn R (.loop c) k s := by
  refine GoC.le (s' := ⟨v0 ++ env, h0 ++ rest⟩) (Le.ofD he ht) (GoC.loop (fun n s' => ∃ v h, J n v h ∧ s' = ⟨v ++ env, h ++ rest⟩) m ⟨v0, h0, hj, rfl⟩ fun n s' ⟨v, h, hj, e⟩ => ?_)
  subst e
  refine ⟨fun I a w hs => wp_mono ((round n v h hj).run I a w hs) fun e a w hq => ?_⟩
  cases e with
  | normal => obtain ⟨s2, I2, ⟨n', v', h', hn, hj', e⟩, hs2⟩ := hq; exact ⟨s2, I2, ⟨n', hn, v', h', hj', e⟩, hs2⟩
  | exit id => exact hq
  | goto l => exact hq
  | ret => exact hq
  | panic ch => exact hq
  | outgrown => exact hq
theorem GoK.againJ {env : List (Nat × D)} {rest : List HL} {J : Nat → List (Nat × D) → List HL → Prop} {n : Nat} (n' : Nat) {v : List (Nat × D)} {h : List HL} (hn : n' < n) (hj : J n' v h) (he : EnvD s.env (v ++ env)) (ht : TkD s.heap (h ++ rest)) :
    GoK X fn R (.again (fun s'' => ∃ n' v h, n' < n ∧ J n' v h ∧ s'' = ⟨v ++ env, h ++ rest⟩) :: k) s :=
  GoK.le (s' := ⟨v ++ env, h ++ rest⟩) (Le.ofD he ht) (GoK.again ⟨n', v, h, hn, hj, rfl⟩)

/-- Where ways meet: what holds there is J. -/
def Meet (env : List (Nat × D)) (rest : List HL) (J : List (Nat × D) → List HL → Prop) (s : St) : Prop := ∃ v h, J v h ∧ s = ⟨v ++ env, h ++ rest⟩
theorem GoK.meet {env : List (Nat × D)} {rest : List HL} {J : List (Nat × D) → List HL → Prop} {v : List (Nat × D)} {h : List HL} (hj : J v h) (he : EnvD s.env (v ++ env)) (ht : TkD s.heap (h ++ rest)) :
    GoK X fn R (.again (Meet env rest J) :: k) s := GoK.le (s' := ⟨v ++ env, h ++ rest⟩) (Le.ofD he ht) (GoK.again ⟨v, h, hj, rfl⟩)
theorem kont_again {J : St → Prop} {Q : Prop} {c : Code} (h1 : ∀ I a w, Sat X I s a w → c.wp X.P (Kont X fn R (.again J :: k)) a w) (h2 : ∀ s', J s' → GoK X fn R k s') {I : Nat → Prop} {a : Act} {w : World} (hs : Sat X I s a w) :
    c.wp X.P (Kont X fn R k) a w := wp_mono (h1 I a w hs) fun e a w hq => by
  cases e with
  | normal => obtain ⟨s2, I2, hj, hs2⟩ := hq; exact (h2 s2 hj).run I2 a w hs2
  | exit id => exact hq
  | goto l => exact hq
  | ret => exact hq
  | panic ch => exact hq
  | outgrown => exact hq
/-- x; y: after x J holds. -/
theorem GoC.seqJ {x y : Code} (env : List (Nat × D)) (rest : List HL) (J : List (Nat × D) → List HL → Prop) (h1 : GoC X fn R x (.again (Meet env rest J) :: .code y :: k) s)
    (h2 : ∀ v h, J v h → GoC X fn R y k ⟨v ++ env, h ++ rest⟩) : GoC X fn R (.seq x y) k s :=
  GoC.seq ⟨fun I a w hs => kont_again (Q := True) (fun I a w hs => h1.run I a w hs) (fun s' ⟨v, h, hj, e⟩ => e ▸ GoK.code (h2 v h hj)) hs⟩
/-- x; (y; z): after y J holds. -/
theorem GoC.seq2J {x y z : Code} (env : List (Nat × D)) (rest : List HL) (J : List (Nat × D) → List HL → Prop) (h1 : GoC X fn R x (.code y :: .again (Meet env rest J) :: .code z :: k) s)
    (h2 : ∀ v h, J v h → GoC X fn R z k ⟨v ++ env, h ++ rest⟩) : GoC X fn R (.seq x (.seq y z)) k s :=
  GoC.seq ⟨fun I a w hs => wp_mono (h1.run I a w hs) fun e a w hq => by
    cases e with
    | normal =>
      refine wp_seq (wp_mono (show y.wp X.P (Kont X fn R (.again (Meet env rest J) :: .code z :: k)) a w from hq) fun e a w hq => ?_)
      cases e with
      | normal => obtain ⟨s2, I2, ⟨v, h, hj, e⟩, hs2⟩ := hq; subst e; exact (h2 v h hj).run I2 a w hs2
      | exit id => exact hq
      | goto l => exact hq
      | ret => exact hq
      | panic ch => exact hq
      | outgrown => exact hq
    | exit id => exact hq
    | goto l => exact hq
    | ret => exact hq
    | panic ch => exact hq
    | outgrown => exact hq⟩
/-- A block that is left in more than one place. -/
theorem GoC.blockJ {id : Nat} {c : Code} (env : List (Nat × D)) (rest : List HL) (J : List (Nat × D) → List HL → Prop) (h1 : GoC X fn R c (.blk id :: .again (Meet env rest J) :: k) s)
    (h2 : ∀ v h, J v h → GoK X fn R k ⟨v ++ env, h ++ rest⟩) : GoC X fn R (.block id c) k s :=
  ⟨fun I a w hs => kont_again (Q := True) (fun I a w hs => (GoC.block h1).run I a w hs) (fun s' ⟨v, h, hj, e⟩ => e ▸ h2 v h hj) hs⟩

/-- What a slice's length can be. -/
theorem GoO.lenLe {all : Array Oper} {os : List Oper} {n : Nat} {x : Operand} {q : D} (hx : s.ev x = some q) (hl : LenOf q n) (hq : ∀ I w v, Rd I w q v → n ≤ maxLen) (h : n ≤ maxLen → GoO X fn R all os k s) : GoO X fn R all os k s :=
  ⟨fun I a w hs => (h (hq _ _ _ (hs.ev hx))).run I a w hs⟩
theorem GoC.lenLe {c : Code} {n : Nat} {x : Operand} {q : D} (hx : s.ev x = some q) (hq : ∀ I w v, Rd I w q v → n ≤ maxLen) (h : n ≤ maxLen → GoC X fn R c k s) : GoC X fn R c k s :=
  ⟨fun I a w hs => (h (hq _ _ _ (hs.ev hx))).run I a w hs⟩
theorem own_lenLe {β : BK} {size r n : Nat} : ∀ I w v, Rd I w (.own β size r n) v → n ≤ maxLen := fun I w v ⟨_, _, _, h1, h2, _⟩ => Nat.le_trans h1 h2
theorem sl_lenLe {size n : Nat} {get : Nat → Nat → D} : ∀ I w v, Rd I w (.sl size n get) v → n ≤ maxLen := fun I w v ⟨_, _, _, h1, h2, _⟩ => Nat.le_trans h1 h2

/-- A row of the call's own that nobody writes any more becomes data. -/
theorem sat_freeze {x : HL} {rest : List HL} {r r' : D} {j : Nat} {I : Nat → Prop} {a : Act} {w : World} (hj : look s.env j = some r) (hrem : Rem s.heap x rest) (hl : Lend [x] r r') (hA : ∀ b, fps [x] b → ¬ X.may b) (hs : Sat X I s a w) :
    Sat X (fun b => I b ∨ fps [x] b) ⟨(j, r') :: s.env, rest⟩ a w := by
  have hp := hrem.perm
  obtain ⟨s1, s2⟩ := List.pairwise_cons.1 (sep_perm hp hs.sep)
  have hx : x ∈ s.heap := hp.mem_iff.2 (List.mem_cons_self ..)
  have hmem : ∀ z, z ∈ rest → z ∈ s.heap := fun z hz => hp.mem_iff.2 (List.mem_cons_of_mem _ hz)
  refine ⟨hs.tsz, hs.dfr, fun i e hi => ?_, fun z hz => (hs.heap z (hmem z hz)).mono (fun _ h => .inl h) (fun _ _ => rfl) (fun _ _ => rfl), s2, ?_, ?_, fun b hb => .inl (hs.i0 b hb), hs.same⟩
  · by_cases hji : j = i
    · subst hji
      have e1 : Nat.beq j j = true := by simp
      have hi' : some r' = some e := by simpa [look, e1] using hi
      cases hi'
      exact hl I w _ (fun z hz => by rw [List.mem_singleton.1 hz]; exact hs.heap x hx) (hs.env j r hj)
    · have e1 : Nat.beq j i = false := by rw [Bool.eq_false_iff]; exact fun e => hji (Nat.eq_of_beq_eq_true e)
      exact (hs.env i e (by simpa [look, e1] using hi)).mono (fun _ h => .inl h) (fun _ _ => rfl)
  · rintro b ⟨z, hz, hzb⟩
    obtain ⟨o1, o2, o3⟩ := hs.own b ⟨z, hmem z hz, hzb⟩
    refine ⟨fun hh => ?_, o2, o3⟩
    rcases hh with hh | ⟨z', hz', hzb'⟩
    · exact o1 hh
    · rw [List.mem_singleton.1 hz'] at hzb'
      exact s1 z hz b hzb' hzb
  · intro b hb
    rcases hb with hb | hb
    · exact hs.imm b hb
    · obtain ⟨z, hz, hzb⟩ := hb
      rw [List.mem_singleton.1 hz] at hzb
      obtain ⟨_, o2, o3⟩ := hs.own b ⟨x, hx, hzb⟩
      exact ⟨o3, .inr (o2.resolve_right (hA b (fps_one hzb)))⟩
theorem GoO.freezeJ {all : Array Oper} {os : List Oper} {x : HL} {rest : List HL} {r r' : D} {j : Nat} (hj : look s.env j = some r) (hrem : Rem s.heap x rest) (hl : Lend [x] r r') (hA : ∀ b, fps [x] b → ¬ X.may b) (h : GoO X fn R all os k ⟨(j, r') :: s.env, rest⟩) : GoO X fn R all os k s :=
  ⟨fun I a w hs => h.run _ a w (sat_freeze hj hrem hl hA hs)⟩
theorem GoC.freezeJ {c : Code} {x : HL} {rest : List HL} {r r' : D} {j : Nat} (hj : look s.env j = some r) (hrem : Rem s.heap x rest) (hl : Lend [x] r r') (hA : ∀ b, fps [x] b → ¬ X.may b) (h : GoC X fn R c k ⟨(j, r') :: s.env, rest⟩) : GoC X fn R c k s :=
  ⟨fun I a w hs => h.run _ a w (sat_freeze hj hrem hl hA hs)⟩
/-- A slice of the call's own that begins later: as a row of its own. -/
theorem Le.shift {β : BK} {t : TypeId} {size r len : Nat} {c : C} {env : List (Nat × D)} {H H' : List HL} {j : Nat} (hat : At H (.one β t size c) (.one ⟨β.b, β.o + r * size, β.s - r⟩ t size ⟨len, fun e f => c.get (e + r) f⟩) H') (hl : r + len ≤ c.len) :
    Le ⟨(j, .own β size r len) :: env, H⟩ ⟨(j, .own ⟨β.b, β.o + r * size, β.s - r⟩ size 0 len) :: env, H'⟩ := fun X I a w hs => by
  have hb : BOk I w β t size c := hs.heap _ hat.mem
  have hrs : r ≤ β.s := by have := hb.1; omega
  refine ⟨hs.tsz, hs.dfr, fun i e hi => ?_, fun z hz => ?_, hat.sep hs.sep fun b hb' => .inl ⟨by have := hb'.1; simp only at this; omega, hb'.2⟩, fun b ⟨z, hz, hzb⟩ => ?_, hs.imm, hs.i0, hs.same⟩
  · by_cases hji : j = i
    · subst hji
      have e1 : Nat.beq j j = true := by simp
      have hi' : some (D.own ⟨β.b, β.o + r * size, β.s - r⟩ size 0 len) = some e := by simpa [look, e1] using hi
      cases hi'
      obtain ⟨ad, cap, hv, g1, g2, g3, g4⟩ := hs.env j (.own β size r len) (by simp [look, e1])
      exact ⟨ad, cap, hv, g1, g2, by simp only; omega, fun h => by rw [g4 h]; simp⟩
    · have e1 : Nat.beq j i = false := by rw [Bool.eq_false_iff]; exact fun e => hji (Nat.eq_of_beq_eq_true e)
      exact hs.env i e (by simpa [look, e1] using hi)
  · rcases hat.old z hz with rfl | hz
    · refine ⟨by simp only; have := hb.1; omega, fun hpos => ?_⟩
      obtain ⟨cs, h1, h2, h3⟩ := hb.2 (by simp only at hpos; omega)
      refine ⟨cs, h1, ?_, fun e he f hf => ?_⟩
      · rw [h2]
        have : β.s * size = r * size + (β.s - r) * size := by rw [← Nat.add_mul]; congr 1; omega
        simp only; omega
      · obtain ⟨u, hu, ho, hr⟩ := h3 (e + r) (by simp only at he; omega) f hf
        refine ⟨u, ?_, ho, hr⟩
        rw [show β.o + r * size + (e * size + f) = β.o + ((e + r) * size + f) by rw [Nat.add_mul]; omega]
        exact hu
    · exact hs.heap z hz
  · rcases hat.old z hz with rfl | hz
    · exact hs.own b ⟨_, hat.mem, by have := hzb.1; simp only at this; omega, hzb.2⟩
    · exact hs.own b ⟨z, hz, hzb⟩
end

/-! ### typed rows -/
class El (α : Type) where
  size : Nat
  enc : α → Nat → D
  d : α
def row {α : Type} [El α] (xs : List α) : C := ⟨xs.length, fun e f => El.enc (xs.getD e El.d) f⟩
def slD {α : Type} [El α] (xs : List α) : D := .sl (El.size α) xs.length (row xs).get
instance : El Int := ⟨1, fun x _ => .v (.int .i64 x), 0⟩
instance : El Bool := ⟨1, fun x _ => .v (.bool x), false⟩
instance {α : Type} [El α] : El (List α) := ⟨1, fun l _ => slD l, []⟩
/-- a number of another kind -/
structure U16 where
  v : Int
instance : El U16 := ⟨1, fun x _ => .v (.int .u16 x.v), ⟨0⟩⟩
@[simp] theorem row_len {α : Type} [El α] (xs : List α) : (row xs).len = xs.length := rfl
class IndepE (α : Type) [El α] : Prop where
  h : ∀ (a : α) f, Indep (El.enc a f)
instance : IndepE Int := ⟨fun _ _ => inferInstanceAs (Indep (.v _))⟩
instance : IndepE Bool := ⟨fun _ _ => inferInstanceAs (Indep (.v _))⟩
instance : IndepE U16 := ⟨fun _ _ => inferInstanceAs (Indep (.v _))⟩
instance {α : Type} [El α] [h : IndepE α] (xs : List α) : IndepC (row xs) := ⟨fun _ _ => h.h _ _⟩
theorem IndepP.of {post : D → List HL → Prop} (h : ∀ d H, post d H → Indep d ∧ IndepH H) : IndepP post := fun d H hp =>
  ⟨fun I w v hr => (h d H hp).1.h I w v hr w, fun x hx I w hk => (h d H hp).2.h x hx I w hk⟩
instance {β : BK} {t : TypeId} {size : Nat} {g : Nat → D} {H : List HL} [hg : IndepC (st1 g)] [hh : IndepH H] : IndepH (.one β t size (st1 g) :: H) := inferInstance
instance {l : List D} [h : IndepL l] : IndepC (st1 (nth l)) := ⟨fun _ f => h.h f⟩

section
variable {α : Type} [El α] {xs ys : List α} {v : α} {e size : Nat} {q : D} {g : Nat → D}
theorem upd_row1 (hq : El.enc v 0 = q) : Upd1 1 (row xs) e 0 q (row (xs.set e v)) :=
  ⟨by simp, fun e' f' he hf => by
    have hf0 : f' = 0 := by omega
    subst hf0
    simp only [row] at he ⊢
    rw [getD_set _ _ _ _ _ he]
    by_cases h : e' = e <;> simp [h, hq]⟩
theorem upd_rowN (h : AllLt size fun f => El.enc v f = g f) : UpdN size (row xs) e 0 size g (row (xs.set e v)) :=
  ⟨by simp, fun e' f' he hf => by
    simp only [row] at he ⊢
    rw [getD_set _ _ _ _ _ he]
    by_cases hh : e' = e
    · rw [if_pos hh, if_pos ⟨hh, by omega, by omega⟩, h.all f' hf, Nat.sub_zero]
    · rw [if_neg hh, if_neg (fun x => hh x.1)]⟩
theorem upd_rowF {f : Nat} (h : AllLt size fun f' => El.enc v f' = cond (Nat.beq f' f) q (El.enc (xs.getD e El.d) f')) : Upd1 size (row xs) e f q (row (xs.set e v)) :=
  ⟨by simp, fun e' f' he hf => by
    simp only [row] at he ⊢
    rw [getD_set _ _ _ _ _ he]
    by_cases hh : e' = e
    · subst hh
      rw [if_pos rfl, h.all f' hf]
      by_cases hf2 : f' = f
      · subst hf2; simp
      · have : Nat.beq f' f = false := by rw [Bool.eq_false_iff]; exact fun e => hf2 (Nat.eq_of_beq_eq_true e)
        simp [this, hf2]
    · rw [if_neg hh, if_neg (fun x => hh x.1)]⟩
theorem upd_rowFF {f : Nat} {v0 : α} (h : AllLt size fun f' => El.enc v f' = cond (Nat.beq f' f) q (El.enc v0 f')) (he : e < xs.length) : Upd1 size (row (xs.set e v0)) e f q (row (xs.set e v)) :=
  ⟨by simp, fun e' f' he' hf => by
    simp only [row, List.length_set] at he' ⊢
    rw [getD_set _ _ _ _ _ he', getD_set _ _ _ _ _ he']
    by_cases hh : e' = e
    · subst hh
      rw [if_pos rfl, if_pos rfl, h.all f' hf]
      by_cases hf2 : f' = f
      · subst hf2; simp
      · have : Nat.beq f' f = false := by rw [Bool.eq_false_iff]; exact fun e => hf2 (Nat.eq_of_beq_eq_true e)
        simp [this, hf2]
    · rw [if_neg hh, if_neg hh, if_neg (fun x => hh x.1)]⟩
theorem set_set_same {α : Type} {xs : List α} {i j : Nat} {v : α} : (xs.set i v).set j v = (xs.set j v).set i v := by
  by_cases h : i = j
  · subst h; rfl
  · exact List.set_comm v v h
theorem HLe.eq {β : BK} {t : TypeId} {size : Nat} {xs ys : List α} (h : xs = ys) : HLe (.one β t size (row xs)) (.one β t size (row ys)) := h ▸ HLe.refl _
theorem cat_row {len n : Nat} {get : Nat → Nat → D} (hl : len = xs.length) (hn : n = ys.length) (hg : ∀ e f, e < n → f < size → get e f = El.enc (ys.getD e El.d) f) : Cat size (row xs) 0 len n get (row (xs ++ ys)) := by
  subst hl hn
  refine ⟨by simp, fun e f he _ => ?_, fun e f he hf => ?_⟩
  · simp [row, he, List.getElem?_append_left, List.getD_eq_getElem?_getD]
  · rw [hg e f he hf]
    simp only [row, List.getD_eq_getElem?_getD]
    rw [List.getElem?_append_right (by omega), Nat.add_sub_cancel_left]
theorem cat_row0 {n : Nat} {get : Nat → Nat → D} {c : C} (hn : n = ys.length) (hg : ∀ e f, e < n → f < size → get e f = El.enc (ys.getD e El.d) f) : Cat size c 0 0 n get (row ys) :=
  cat_new c (by simp [hn]) fun e f he hf => (hg e f he hf).symm
/-- the part from r on, so many -/
def subl (xs : List α) (r len : Nat) : List α := (xs.drop r).take len
theorem subl_getD {r len : Nat} (h : e < len) : (subl xs r len).getD e El.d = xs.getD (e + r) El.d := by
  simp only [subl, List.getD_eq_getElem?_getD, List.getElem?_take, if_pos h, List.getElem?_drop]
  rw [Nat.add_comm]
omit [El α] in
theorem subl_length {α : Type} (xs : List α) (r len : Nat) : (subl xs r len).length = min len (xs.length - r) := by
  simp [subl]
omit [El α] in
theorem subl_len {r len : Nat} (h : r + len ≤ xs.length) : (subl xs r len).length = len := by
  simp [subl]; omega
theorem HLe.part {β : BK} {t : TypeId} {r len : Nat} (h : r + len ≤ xs.length) : HLe (.one β t size ⟨len, fun e f => (row xs).get (e + r) f⟩) (.one β t size (row (subl xs r len))) :=
  HLe.c (by simp [subl_len h]) fun e he f hf => DLe.eq (by
    have : e < len := by simpa [subl_len h] using he
    simp only [row, subl_getD this])
theorem HLe.take {β : BK} {t : TypeId} {len : Nat} (h : len ≤ xs.length) : HLe (.one β t size (row xs)) (.one β t size (row (subl xs 0 len))) :=
  HLe.c (by simp [subl_len (xs := xs) (r := 0) (len := len) (by omega)]; exact h) fun e he f hf => DLe.eq (by
    have : e < len := by simpa [subl_len (xs := xs) (r := 0) (len := len) (by omega)] using he
    simp only [row, subl_getD this, Nat.add_zero])
theorem DLe.part {r len : Nat} (h : r + len ≤ xs.length) : DLe (.sl size len fun e f => (row xs).get (e + r) f) (.sl size (subl xs r len).length (row (subl xs r len)).get) := by
  rw [subl_len h]
  exact DLe.sl fun e he f _ => DLe.eq (by simp only [row, subl_getD he])
/-- zero elements -/
theorem HLe.zeros {β : BK} {t : TypeId} {n : Nat} {z : Array Value} (h : AllLt size fun f => DLe (.v (z.getD f undef)) (El.enc (El.d : α) f)) : HLe (.one β t size ⟨n, fun _ f => .v (z.getD f undef)⟩) (.one β t size (row (List.replicate n (El.d : α)))) :=
  HLe.c (by simp) fun e he f hf => by
    have := h.all f hf
    have he' : e < n := by simpa using he
    simpa [row, he', List.getD_eq_getElem?_getD] using this
end

theorem app_le {n b m : Nat} (h : n ≤ m) (hb : Nat.ble (m * b) 140737488355328 = true) : n * b ≤ 140737488355328 :=
  Nat.le_trans (Nat.mul_le_mul_right b h) (Nat.le_of_ble_eq_true hb)
theorem idx_lt {i : Int} {n : Nat} (h : 0 ≤ i ∧ i < (n : Int)) : i.toNat < n := by omega
theorem lt_len {e n m : Nat} (h : e < n) (hm : n = m) : e < m := hm ▸ h
/-! ### arrays in a box -/
/-- cells pre, then the elements xs -/
theorem zeroCells_get {z : Array Value} {size n j f : Nat} (hz : z.size = size) (hj : j < n * size) (hm : j % size = f) (hf : f < z.size) : (Builtin.zeroCells z n)[j]? = some z[f] := by
  have h := size_zeroCells z n
  unfold Builtin.zeroCells at h ⊢
  have hj' : j < n * z.size := by rw [hz]; exact hj
  have e : z[j % z.size]! = z[f] := by rw [hz, hm, getElem!_pos z f hf]
  simp [hj', e]
section
variable {X : Cx} {H0 : List HL} {s : St} {d : Tmp} {ty : TypeId} {pos : String} {aft : Array Edge} {gd : Option (Nat × Bool)} {x y : Operand} {q : D}
/-- A new row of zeros, told by its cells. -/
theorem ef_makeZ {t e : TypeId} {size bytes : Nat} {z : Value} {m : Int} [ht : SlT X.P t e] [hz : ZI X.P e size bytes z] (hx : s.ev x = some (.v (.int .i64 m))) (hy : s.ev y = some (.v (.int .i64 m))) (h0 : 0 ≤ m ∧ m ≤ 10000000000) (hb : Nat.ble bytes 100 = true)
    (hd : Nat.blt d X.nt = true) (hb1 : Nat.blt 0 bytes = true) :
    Eff X ⟨some d, .makeSlice t x y, ty, pos, aft, gd⟩ s [] (fun s2 => ∃ β : BK, s2 = ⟨(d, .own β size 0 m.toNat) :: s.env, .one β e size ⟨m.toNat, fun _ f => .v (z.cells.getD f undef)⟩ :: s.heap⟩) :=
  have hzc : ZC X.P e size bytes (fun n => ⟨n, fun _ f => .v (z.cells.getD f undef)⟩) := ⟨⟨z, hz, fun n => ⟨rfl, fun _ _ _ _ => rfl⟩⟩⟩
  @ef_make X s d ty pos aft gd x y t e size bytes (fun n => ⟨n, fun _ f => .v (z.cells.getD f undef)⟩) m ht hzc hx hy h0.1 (by
    have h1 := Nat.le_of_ble_eq_true hb
    have h2 : m * bytes ≤ m * 100 := Int.mul_le_mul_of_nonneg_left (by omega) h0.1
    omega) hd hb1
/-- A slice held against nil: what comes of it is not said but that a nil one is empty. -/
theorem ef_eqlNil {size len : Nat} {get : Nat → Nat → D} {e xt yt : TypeId} [ht : SlT X.P xt e] (hx : s.ev x = some (.sl size len get)) (hy : s.ev y = some (.v (.slice none 0 0))) (hd : Nat.blt d X.nt = true) :
    Eff X ⟨some d, .binOp .eql xt x y yt, ty, pos, aft, gd⟩ s [] (fun s2 => ∃ b : Bool, (b = true → len = 0) ∧ s2 = s.put d (.v (.bool b))) := fun I a w hs Q => by
  obtain ⟨ad, cap, hv, h1, h2, h3⟩ := hs.ev hx
  have e2 : a.eval y = .slice none 0 0 := hs.ev hy
  have e4 : (eqGuard .eql xt x y (.slice ad len cap) (.slice none 0 0)).run X.P w = .ok () w := rfl
  have h := run_equal_slice_nil (P := X.P) w xt e ad len cap ht.h
  refine wp_val (v := .bool ad.isNone) (w' := w) ?_ ⟨Same.refl _ _, _, ⟨ad.isNone, fun hb => ?_, rfl⟩, hs.put (blt_lt hd) rfl⟩
  · simp only [execOp, hv, e2, Sem.run_bind, e4, Result.andThen_ok, binOp, h, Sem.run_pure]
  · rcases Nat.eq_zero_or_pos len with h0 | h0
    · exact h0
    · obtain ⟨g, q, ha, _⟩ := h3 h0
      rw [ha] at hb; cases hb
theorem ps_capNil {t e : TypeId} [ht : SlT X.P t e] (hx : s.ev x = some (.v (.slice none 0 0))) (hd : Nat.blt d X.nt = true) :
    PureStep X H0 ⟨some d, .call { callee := .builtin .cap, args := #[x], argTypes := #[t] }, ty, pos, aft, none⟩ s (s.put d (.v (.int .i64 0))) :=
  ps_of hd fun _ a _ hs => by
    have hv : a.eval x = .slice none 0 0 := hs.ev hx
    refine ⟨_, fun w' _ => ?_, rfl⟩
    simp [execOp, resolve, invoke, builtin, Builtin.cap_, hv, run_underlying ht.h, goInt]
theorem ps_sliceNil {t e : TypeId} {size : Nat} {ag : Bool} {k : IntKind} [ht : SlT X.P t e] [he : TI X.P e size ag] (hx : s.ev x = some (.v (.slice none 0 0))) (hy : s.ev y = some (.v (.int k 0))) (hd : Nat.blt d X.nt = true) :
    PureStep X H0 ⟨some d, .slice t x none (some y) none, ty, pos, aft, none⟩ s (s.put d (.v (.slice none 0 0))) :=
  ps_of hd fun _ a _ hs => by
    have hv : a.eval x = .slice none 0 0 := hs.ev hx
    have e1 : a.eval y = .int k 0 := hs.ev hy
    refine ⟨.slice none 0 0, fun w' _ => ?_, rfl⟩
    have := run_slicing (P := X.P) (w := w') ht.h he (a := none) (len := 0) (cap := 0) (l := 0) (h := 0) (lo := none) (hi := some (.int k 0)) (.inl ⟨rfl, rfl⟩) (.inr ⟨k, rfl⟩) (Nat.le_refl _) (Nat.le_refl _)
    simp only [execOp, hv, Option.map_none, Option.map_some, e1, this, Sem.run_bind, Result.andThen_ok, Sem.run_pure]
    rfl
/-- onto nothing so many zeros -/
theorem ef_appendZ {t tn e : TypeId} {size bytes : Nat} {zv : Value} {kn k : IntKind} {m : Int} [ht : SlT X.P t e] [hn : IntT X.P tn kn] [hz : ZI X.P e size bytes zv] (hx : s.ev x = some (.v (.slice none 0 0))) (hy : s.ev y = some (.v (.int k m))) (h : 1 ≤ m ∧ m ≤ 10000000000)
    (hsz : Nat.blt 0 size = true) (hb : Nat.ble bytes 100 = true) (hd : Nat.blt d X.nt = true) :
    Eff X ⟨some d, .call { callee := .builtin .append, args := #[x, y], argTypes := #[t, tn] }, ty, pos, aft, gd⟩ s [] (fun s2 => ∃ β : BK, s2 = ⟨(d, .own β size 0 m.toNat) :: s.env, .one β e size ⟨m.toNat, fun _ f => .v (zv.cells.getD f undef)⟩ :: s.heap⟩) := fun I a w hs Q => by
  obtain ⟨i, h1, h2, h3, h4, h5, h6⟩ := hz.h
  have e1 : a.eval x = .slice none 0 0 := hs.ev hx
  have e2 : a.eval y = .int k m := hs.ev hy
  have hsz' := blt_lt hsz
  have hb' := Nat.le_of_ble_eq_true hb
  have em : m = (m.toNat : Int) := by omega
  have hmul : m.toNat * i.bytes ≤ 10000000000 * 100 := Nat.mul_le_mul (by omega) (by rw [h4]; exact hb')
  have hr := Go.Lib.run_append_nil_zeros (P := X.P) w t tn ty e i zv k kn ht.h hn.h h1 h2 m.toNat (by omega) (by rw [h3]; exact hsz') (by omega) (by omega)
  rw [← em] at hr
  have hge := grownCap_ge w m.toNat 0 e
  have hmx := grownCap_le_maxLen w m.toNat 0 e (by unfold maxLen; omega)
  have hrun : (execOp a.eval ⟨some d, .call { callee := .builtin .append, args := #[x, y], argTypes := #[t, tn] }, ty, pos, aft, gd⟩).run X.P w = .ok (.value (.slice (some ⟨w.heap.size, 0, none⟩) m.toNat (grownCap w m.toNat 0 e)))
      (w.drew.alloc (.cells (Builtin.zeroCells zv.cells m.toNat ++ Builtin.zeroCells zv.cells (grownCap w m.toNat 0 e - m.toNat)) e)) := by
    simp only [execOp, resolve, invoke, builtin, Sem.run_bind, Sem.run_pure, Result.andThen_ok, List.map_toArray, List.map_cons, List.map_nil, e1, e2, hr]
  refine wp_val hrun ⟨(Same.drew w _).trans (Same.alloc w.drew _ _), _, ⟨⟨w.heap.size, 0, grownCap w m.toNat 0 e⟩, rfl⟩, ?_⟩
  have hsz1 : (Builtin.zeroCells zv.cells m.toNat).size = m.toNat * size := by rw [size_zeroCells, h5]
  have hfr := hs.drew.fresh (Builtin.zeroCells zv.cells m.toNat ++ Builtin.zeroCells zv.cells (grownCap w m.toNat 0 e - m.toNat)) e (grownCap w m.toNat 0 e) size ⟨m.toNat, fun _ f => .v (zv.cells.getD f undef)⟩ (by
      simp only [Array.size_append, size_zeroCells, h5, ← Nat.add_mul]
      congr 1
      omega) hge fun e' he' f hf => by
    have hf' : f < zv.cells.size := by omega
    have he2 : e' < m.toNat := he'
    have hlt : e' * size + f < m.toNat * size := by have := le_cells (s := m.toNat) (size := size) (e := e') (f := f + 1) he2 (by omega); omega
    have hm : (e' * size + f) % size = f := by rw [Nat.mul_comm, Nat.mul_add_mod, Nat.mod_eq_of_lt hf]
    have e9 : zv.cells.getD f undef = zv.cells[f] := by simp [hf']
    refine ⟨zv.cells.getD f undef, ?_, by rw [e9]; exact h6 _ (by simp), rfl⟩
    rw [Array.getElem?_append_left (by rw [hsz1]; exact hlt)]
    rw [e9]
    exact zeroCells_get h5 hlt hm hf'
  exact hfr.put (blt_lt hd) ⟨some ⟨w.heap.size, 0, none⟩, grownCap w m.toNat 0 e, rfl, hge, hmx, by simp, fun _ => by simp⟩
end
end Go.Proofs.Ytgkcmjmofcekmaa.Sx
