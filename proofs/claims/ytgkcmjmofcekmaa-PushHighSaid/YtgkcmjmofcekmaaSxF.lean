/- The walk's rules: regions that draw their order, by a plan: what only reads is taken first; of what changes memory each order is walked. Plain laws over any program. -/
import Derived.Test.YtgkcmjmofcekmaaSxE
import Derived.OrdersHeld
namespace Go.Proofs.Ytgkcmjmofcekmaa.Sx
open Go
set_option linter.unusedVariables false
set_option linter.unusedSimpArgs false

def SH (I : Nat → Prop) (H0 : List HL) (wR : World) (w' : World) : Prop := ∀ b, (I b ∨ fps H0 b) → w'.heap[b]? = wR.heap[b]?

inductive Plan where
  | done
  | q (i : Nat) (p : Plan)
  | one (i : Nat) (p : Plan)
  | two (i j : Nat) (p p' : Plan)
  | three (i j l : Nat) (p p' p'' : Plan)

def planOk (all : Array Oper) : Plan → Nat → Array Bool → Bool
  | .done, _, listed => decide (Region.ready .any all listed = [])
  | .q i p, f + 1, listed => (Region.ready .any all listed).contains i && Region.free .any all listed i && planOk all p f (listed.setIfInBounds i true)
  | .one i p, f + 1, listed => decide (Region.ready .any all listed = [i]) && planOk all p f (listed.setIfInBounds i true)
  | .two i j p p', f + 1, listed => decide (Region.ready .any all listed = [i, j]) && planOk all p f (listed.setIfInBounds i true) && planOk all p' f (listed.setIfInBounds j true)
  | .three i j l p p' p'', f + 1, listed => decide (Region.ready .any all listed = [i, j, l]) && planOk all p f (listed.setIfInBounds i true) && planOk all p' f (listed.setIfInBounds j true) && planOk all p'' f (listed.setIfInBounds l true)
  | _, 0, _ => false

structure GoP (X : Cx) (fn : Func) (R : Ending → World → Prop) (all : Array Oper) (H0 : List HL) (p : Plan) (k : List It) (s : St) : Prop where
  run : ∀ I a w wR fuel listed, Sat X I s a w → SH I H0 wR w → (∀ b, fps H0 b → b < w.heap.size) → Region.noSelect all = true → planOk all p fuel listed = true →
    wpAnyH X.P .any all (Kont X fn R k) (SH I H0 wR) fuel listed a w

/-- The block that a slot points into. -/
def bk (env : List (Nat × D)) (k : Nat) : BK := match look env k with
  | some (.ptr β _ _ _) => β
  | some (.own β _ _ _) => β
  | _ => ⟨0, 0, 0⟩
def rowsOf (s : St) : List (Nat × TypeId × Nat × C) → List HL
  | [] => []
  | (k, t, size, c) :: l => .one (bk s.env k) t size c :: rowsOf s l

section
variable {X : Cx} {fn : Func} {R : Ending → World → Prop} {k : List It} {s s' : St} {all : Array Oper} {H0 : List HL} {p p1 p2 : Plan}

/-- What lies in that slot tells nothing of the results, or no call is deferred. -/
class KeepOk (ds : List Deferred) (fn : Func) (dst : Option Tmp) : Prop where
  h : ds = [] ∨ ∀ (a : Act) (v : Value), results fn (a.put dst v).tmps = results fn a.tmps
instance (fn : Func) (dst : Option Tmp) : KeepOk [] fn dst := ⟨.inl rfl⟩
theorem Leaves_congr {P : Program} {tmps tmps' : Array Value} (hr : results fn tmps = results fn tmps') : ∀ {l : List Deferred} {u : FrameMode} {w : World}, Leaves P fn tmps R l u w → Leaves P fn tmps' R l u w
  | [], .returning, w, ⟨v, h1, h2⟩ => ⟨v, hr ▸ h1, h2⟩
  | [], .panicking _, _, h => h
  | d :: l, u, w, ⟨hu, fv, cap, f, args, h1, h2, h3⟩ => ⟨hu, fv, cap, f, args, h1, h2, h3.mono fun e u' w' he => by
    cases e with
    | returned v => exact Leaves_congr hr he
    | panicked c => exact Leaves_congr hr he
    | outgrown => exact he⟩
theorem Kont_panic {dst : Option Tmp} [hk : KeepOk X.ds fn dst] {c : List PanicEntry} {a : Act} {w : World} {v : Value} : ∀ {k : List It}, Kont X fn R k (.panic c) (a.put dst v) w → Kont X fn R k (.panic c) a w := by
  intro k h
  induction k with
  | nil =>
    obtain ⟨h1, h2⟩ := (show (a.put dst v).defers = X.ds ∧ Leaves X.P fn (a.put dst v).tmps R X.ds (.panicking c) w from h)
    refine ⟨by cases dst <;> exact h1, ?_⟩
    rcases hk.h with e | e
    · rw [e] at h2 ⊢
      exact h2
    · exact Leaves_congr (e a v) h2
  | cons x k ih => cases x <;> exact ih h

theorem GoC.drawP (p : Plan) (L : List (Nat × TypeId × Nat × C)) {id : Nat} {ops : List Oper} {r : List HL} (hm : X.P.follows .mixedOrders = true) (hB : (Region.noSelect ops.toArray && planOk ops.toArray p ops.toArray.size (Array.replicate ops.toArray.size false)) = true)
    (ht : Take s.heap (rowsOf s L) r) (h : GoP X fn R ops.toArray (rowsOf s L) p k s) : GoC X fn R (.region id ops.toArray true) k s :=
  ⟨fun I a w hs => wp_region_held (S := SH I (rowsOf s L) w.drew) hm (by
    simp only [Bool.and_eq_true] at hB
    refine h.run I a w.drew w.drew _ _ hs.drew (fun _ _ => rfl) (fun b ⟨z, hz, hzb⟩ => ?_) hB.1 hB.2
    exact (hs.own b ⟨z, ht.perm.mem_iff.2 (List.mem_append_left _ hz), hzb⟩).2.2)⟩

/-- .. no row is written -/
theorem GoC.drawA (p : Plan) {id : Nat} {ops : List Oper} (hm : X.P.follows .mixedOrders = true) (hB : (Region.noSelect ops.toArray && planOk ops.toArray p ops.toArray.size (Array.replicate ops.toArray.size false)) = true)
    (h : GoP X fn R ops.toArray s.heap p k s) : GoC X fn R (.region id ops.toArray true) k s :=
  ⟨fun I a w hs => wp_region_held (S := SH I s.heap w.drew) hm (by
    simp only [Bool.and_eq_true] at hB
    exact h.run I a w.drew w.drew _ _ hs.drew (fun _ _ => rfl) (fun b hb => (hs.own b hb).2.2) hB.1 hB.2)⟩
theorem GoP.done (h : GoK X fn R k s) : GoP X fn R all H0 .done k s :=
  ⟨fun I a w wR fuel listed hs _ _ _ hp => wpAnyH_done (by simpa [planOk] using hp) (h.run I a w hs) fuel⟩

section
variable {d : Option Tmp} {t : Tmp} {op : Op} {ty : TypeId} {pos : String} {aft : Array Edge} {gd : Option (Nat × Bool)} {i j g : Nat} {want : Bool}

theorem GoP.takeq {o : Oper} [hk : KeepOk X.ds fn o.dst] (hi : all[i]? = some o) (h : GoP X fn R all H0 p k s')
    (hy : ∀ I a w wR, Sat X I s a w → SH I H0 wR w → ∃ v, YieldsIf X.P all (SH I H0 wR) o v a ∧ Sat X I s' (a.put o.dst v) w) : GoP X fn R all H0 (.q i p) k s :=
  ⟨fun I a w wR fuel listed hs hS hH hns hp => by
    cases fuel with
    | zero => simp [planOk] at hp
    | succ f =>
      simp only [planOk, Bool.and_eq_true] at hp
      obtain ⟨v, h1, h2⟩ := hy I a w wR hs hS
      exact wpAnyH_take hi hns hp.1.2 hp.1.1 (fun c a w hq => Kont_panic hq) h1 hS (h.run I _ w wR f _ h2 hS hH hns hp.2)⟩

theorem PureStep.yields {o : Oper} (hp : PureStep X H0 o s s') {I : Nat → Prop} {a : Act} {w wR : World} (hs : Sat X I s a w) (hS : SH I H0 wR w) :
    ∃ v, (∀ w', SH I H0 wR w' → (execOp a.eval o).run X.P w' = .ok (.value v) w') ∧ Sat X I s' (a.put o.dst v) w := by
  obtain ⟨v, h1, h2⟩ := hp I a w hs
  exact ⟨v, fun w' hw' => h1 w' fun b hb => (hw' b hb).trans (hS b hb).symm, h2⟩

theorem GoP.qN [hk : KeepOk X.ds fn d] (hi : all[i]? = some ⟨d, op, ty, pos, aft, none⟩) (hp : PureStep X H0 ⟨d, op, ty, pos, aft, none⟩ s s') (h : GoP X fn R all H0 p k s') : GoP X fn R all H0 (.q i p) k s :=
  GoP.takeq (hk := hk) hi h fun I a w wR hs hS => by
    obtain ⟨v, h1, h2⟩ := hp.yields hs hS
    exact ⟨v, .inl ⟨by simp [Region.wanted], h1⟩, h2⟩
theorem GoP.qT [hk : KeepOk X.ds fn d] (hi : all[i]? = some ⟨d, op, ty, pos, aft, some (j, want)⟩) (hj : gslot all j = some g) (hg : Nat.blt g X.nt = true) (hb : look s.env g = some (.v (.bool want)))
    (hp : PureStep X H0 ⟨d, op, ty, pos, aft, none⟩ s s') (h : GoP X fn R all H0 p k s') : GoP X fn R all H0 (.q i p) k s :=
  GoP.takeq (hk := hk) hi h fun I a w wR hs hS => by
    obtain ⟨v, h1, h2⟩ := hp.yields hs hS
    refine ⟨v, .inl ⟨?_, h1⟩, h2⟩
    have hy := hs.yielded hj hg hb
    simp [Region.wanted, hy, boolOf]
theorem GoP.qX {x : Value} [hk : KeepOk X.ds fn (some t)] (hi : all[i]? = some ⟨some t, op, ty, pos, aft, some (j, want)⟩) (hj : gslot all j = some g) (hg : Nat.blt g X.nt = true) (hb : look s.env g = some (.v x)) (hx : boolOf x ≠ some want) (ht : Nat.blt t X.nt = true)
    (h : GoP X fn R all H0 p k (s.put t (.v undef))) : GoP X fn R all H0 (.q i p) k s :=
  GoP.takeq (hk := hk) hi h fun I a w wR hs hS => by
    refine ⟨undef, .inr ⟨?_, rfl⟩, hs.put (blt_lt ht) rfl⟩
    have hy := hs.yielded hj hg hb
    have hne : (boolOf x == some want) = false := by
      rw [Bool.eq_false_iff]; exact fun e => hx (eq_of_beq e)
    simp [Region.wanted, hy, hne]
theorem GoP.qF [hk : KeepOk X.ds fn (some t)] (hi : all[i]? = some ⟨some t, op, ty, pos, aft, some (j, want)⟩) (hj : gslot all j = some g) (hg : Nat.blt g X.nt = true) (hb : look s.env g = some (.v (.bool (!want)))) (ht : Nat.blt t X.nt = true)
    (h : GoP X fn R all H0 p k (s.put t (.v undef))) : GoP X fn R all H0 (.q i p) k s := GoP.qX hi hj hg hb (by cases want <;> simp [boolOf]) ht h
theorem GoP.qU [hk : KeepOk X.ds fn (some t)] (hi : all[i]? = some ⟨some t, op, ty, pos, aft, some (j, want)⟩) (hj : gslot all j = some g) (hg : Nat.blt g X.nt = true) (hb : look s.env g = some (.v undef)) (ht : Nat.blt t X.nt = true)
    (h : GoP X fn R all H0 p k (s.put t (.v undef))) : GoP X fn R all H0 (.q i p) k s := GoP.qX hi hj hg hb (by simp [boolOf, undef]) ht h

theorem GoP.decide {b : Bool} (g : Nat) (hb : look s.env g = some (.v (.bool b))) (h1 : b = true → GoP X fn R all H0 p k (s.put g (.v (.bool true)))) (h2 : b = false → GoP X fn R all H0 p k (s.put g (.v (.bool false)))) :
    GoP X fn R all H0 p k s :=
  ⟨fun I a w wR fuel listed hs => by
    cases hbb : b with
    | true => exact (h1 hbb).run I a w wR fuel listed (hs.reput hb (by rw [hbb]))
    | false => exact (h2 hbb).run I a w wR fuel listed (hs.reput hb (by rw [hbb]))⟩
theorem GoP.decideD {q : Prop} [Decidable q] (g : Nat) (hb : look s.env g = some (.v (.bool (Decidable.decide q)))) (h1 : q → GoP X fn R all H0 p k (s.put g (.v (.bool true)))) (h2 : ¬ q → GoP X fn R all H0 p k (s.put g (.v (.bool false)))) :
    GoP X fn R all H0 p k s :=
  GoP.decide g hb (fun h => h1 (of_decide_eq_true h)) (fun h => h2 (of_decide_eq_false h))

/-- The guard lets it through. -/
def Lets (X : Cx) (all : Array Oper) (s : St) : Option (Nat × Bool) → Prop
  | none => True
  | some (j, want) => ∃ g, gslot all j = some g ∧ Nat.blt g X.nt = true ∧ look s.env g = some (.v (.bool want))
theorem Lets.wanted {o : Oper} (h : Lets X all s o.guard) {I : Nat → Prop} {a : Act} {w : World} (hs : Sat X I s a w) : Region.wanted o (yielded all a.tmps) = true := by
  unfold Region.wanted
  cases hg : o.guard with
  | none => rfl
  | some x =>
    obtain ⟨j, want⟩ := x
    rw [hg] at h
    obtain ⟨g, hj, hgl, hb⟩ := h
    have hy := hs.yielded hj hgl hb
    simp [hy, boolOf]

theorem step_one {o : Oper} {wr r : List HL} {next : St → Prop} (hi : all[i]? = some o) (hg : Lets X all s o.guard) (he : Eff X o s wr next) (ht : Take s.heap (wr ++ H0) r) (h : ∀ s', next s' → GoP X fn R all H0 p k s')
    {I : Nat → Prop} {a : Act} {w wR : World} {f : Nat} {listed : Array Bool} (hs : Sat X I s a w) (hS : SH I H0 wR w) (hH : ∀ b, fps H0 b → b < w.heap.size) (hns : Region.noSelect all = true)
    (hp : planOk all p f listed = true) : wpOp X.P all (Kont X fn R k) i (fun a' w' => SH I H0 wR w' ∧ wpAnyH X.P .any all (Kont X fn R k) (SH I H0 wR) f listed a' w') a w := by
  unfold wpOp
  simp only [hi, hg.wanted hs, if_true]
  refine .inl (Oper.wp_mono ?_ (he I a w hs _))
  rintro a' w' ⟨hsame, s', hn, hs'⟩
  have hp2 := ht.perm
  have hsep := (List.pairwise_append.1 (List.pairwise_append.1 (sep_perm hp2 hs.sep)).1).2.2
  have hwr : ∀ b, fps wr b → ¬ I b ∧ ¬ fps H0 b := fun b ⟨z, hz, hzb⟩ => ⟨(hs.own b ⟨z, hp2.mem_iff.2 (List.mem_append_left _ (List.mem_append_left _ hz)), hzb⟩).1, fun ⟨z', hz', hzb'⟩ => hsep z hz z' hz' b hzb hzb'⟩
  have hS' : SH I H0 wR w' := fun b hb => by
    refine (hsame.block b ?_ fun hh => ?_).trans (hS b hb)
    · rcases hb with hb | hb
      · exact (hs.imm b hb).1
      · exact hH b hb
    · rcases hb with hb | hb
      · exact (hwr b hh).1 hb
      · exact (hwr b hh).2 hb
  exact ⟨hS', (h s' hn).run I a' w' wR f listed hs' hS' (fun b hb => Nat.lt_of_lt_of_le (hH b hb) hsame.size) hns hp⟩

theorem GoP.one {o : Oper} {wr r : List HL} {next : St → Prop} (hi : all[i]? = some o) (hg : Lets X all s o.guard) (he : Eff X o s wr next) (ht : Take s.heap (wr ++ H0) r) (h : ∀ s', next s' → GoP X fn R all H0 p k s') :
    GoP X fn R all H0 (.one i p) k s :=
  ⟨fun I a w wR fuel listed hs hS hH hns hp => by
    cases fuel with
    | zero => simp [planOk] at hp
    | succ f =>
      simp only [planOk, Bool.and_eq_true, decide_eq_true_eq] at hp
      refine wpAnyH_all hp.1 (by simp) fun i' hi' => ?_
      have : i' = i := by simpa using hi'
      subst this
      exact step_one hi hg he ht h hs hS hH hns hp.2⟩
theorem GoP.one1 {o : Oper} {wr r : List HL} (hi : all[i]? = some o) (hg : Lets X all s o.guard) (he : Eff X o s wr (fun s2 => s2 = s')) (ht : Take s.heap (wr ++ H0) r) (h : GoP X fn R all H0 p k s') :
    GoP X fn R all H0 (.one i p) k s := GoP.one hi hg he ht fun _ e => e ▸ h
/-- what the guard does not let through, where it comes alone -/
theorem GoP.oneX {t : Tmp} {x : Value} (hi : all[i]? = some ⟨some t, op, ty, pos, aft, some (j, want)⟩) (hj : gslot all j = some g) (hg : Nat.blt g X.nt = true) (hb : look s.env g = some (.v x)) (hx : boolOf x ≠ some want) (ht : Nat.blt t X.nt = true)
    (h : GoP X fn R all H0 p k (s.put t (.v undef))) : GoP X fn R all H0 (.one i p) k s :=
  ⟨fun I a w wR fuel listed hs hS hH hns hp => by
    cases fuel with
    | zero => simp [planOk] at hp
    | succ f =>
      simp only [planOk, Bool.and_eq_true, decide_eq_true_eq] at hp
      refine wpAnyH_all hp.1 (by simp) fun i' hi' => ?_
      have : i' = i := by simpa using hi'
      subst this
      have hy := hs.yielded hj hg hb
      have hne : (boolOf x == some want) = false := by
        rw [Bool.eq_false_iff]; exact fun e => hx (eq_of_beq e)
      unfold wpOp
      simp only [hi, Region.wanted, hy, hne, Bool.false_eq_true, if_false]
      exact ⟨hS, h.run I _ w wR f _ (hs.put (blt_lt ht) rfl) hS hH hns hp.2⟩⟩
theorem GoP.oneF (hi : all[i]? = some ⟨some t, op, ty, pos, aft, some (j, want)⟩) (hj : gslot all j = some g) (hg : Nat.blt g X.nt = true) (hb : look s.env g = some (.v (.bool (!want)))) (ht : Nat.blt t X.nt = true)
    (h : GoP X fn R all H0 p k (s.put t (.v undef))) : GoP X fn R all H0 (.one i p) k s := GoP.oneX hi hj hg hb (by cases want <;> simp [boolOf]) ht h
theorem GoP.oneU (hi : all[i]? = some ⟨some t, op, ty, pos, aft, some (j, want)⟩) (hj : gslot all j = some g) (hg : Nat.blt g X.nt = true) (hb : look s.env g = some (.v undef)) (ht : Nat.blt t X.nt = true)
    (h : GoP X fn R all H0 p k (s.put t (.v undef))) : GoP X fn R all H0 (.one i p) k s := GoP.oneX hi hj hg hb (by simp [boolOf, undef]) ht h
theorem GoP.oneB {o : Oper} {wr r : List HL} {F : BK → St} (hi : all[i]? = some o) (hg : Lets X all s o.guard) (he : Eff X o s wr (fun s2 => ∃ β, s2 = F β)) (ht : Take s.heap (wr ++ H0) r) (h : ∀ β, GoP X fn R all H0 p k (F β)) :
    GoP X fn R all H0 (.one i p) k s := GoP.one hi hg he ht fun _ ⟨β, e⟩ => e ▸ h β
theorem GoP.oneC {o : Oper} {wr r : List HL} {post : D → List HL → Prop} {F : D → List HL → St} (hi : all[i]? = some o) (hg : Lets X all s o.guard) (he : Eff X o s wr (fun s2 => ∃ r H', post r H' ∧ s2 = F r H')) (ht : Take s.heap (wr ++ H0) r)
    (h : ∀ r H', post r H' → GoP X fn R all H0 p k (F r H')) : GoP X fn R all H0 (.one i p) k s := GoP.one hi hg he ht fun _ ⟨r, H', hp, e⟩ => e ▸ h r H' hp
/-- what only reads, where it comes alone -/
theorem Eff.pure {o : Oper} {H1 : List HL} (hp : PureStep X H1 o s s') : Eff X o s [] (fun s2 => s2 = s') := fun I a w hs Q => by
  obtain ⟨v, h1, h2⟩ := hp I a w hs
  exact wp_val (h1 w fun _ _ => rfl) ⟨Same.refl _ _, s', rfl, h2⟩
theorem GoP.oneN {r : List HL} (hi : all[i]? = some ⟨d, op, ty, pos, aft, none⟩) (he : PureStep X s.heap ⟨d, op, ty, pos, aft, none⟩ s s') (ht : Take s.heap H0 r) (h : GoP X fn R all H0 p k s') :
    GoP X fn R all H0 (.one i p) k s := GoP.one1 hi trivial (Eff.pure he) (by simpa using ht) h

theorem GoP.two {o1 o2 : Oper} {wr1 wr2 r1 r2 : List HL} {next1 next2 : St → Prop} (hi1 : all[i]? = some o1) (hi2 : all[j]? = some o2) (hg1 : Lets X all s o1.guard) (hg2 : Lets X all s o2.guard)
    (he1 : Eff X o1 s wr1 next1) (he2 : Eff X o2 s wr2 next2) (ht1 : Take s.heap (wr1 ++ H0) r1) (ht2 : Take s.heap (wr2 ++ H0) r2) (h1 : ∀ s', next1 s' → GoP X fn R all H0 p1 k s') (h2 : ∀ s', next2 s' → GoP X fn R all H0 p2 k s') :
    GoP X fn R all H0 (.two i j p1 p2) k s :=
  ⟨fun I a w wR fuel listed hs hS hH hns hp => by
    cases fuel with
    | zero => simp [planOk] at hp
    | succ f =>
      simp only [planOk, Bool.and_eq_true, decide_eq_true_eq] at hp
      refine wpAnyH_all hp.1.1 (by simp) fun i' hi' => ?_
      rcases List.mem_cons.1 hi' with rfl | hi'
      · exact step_one hi1 hg1 he1 ht1 h1 hs hS hH hns hp.1.2
      · have : i' = j := by simpa using hi'
        subst this
        exact step_one hi2 hg2 he2 ht2 h2 hs hS hH hns hp.2⟩
theorem GoP.three {l : Nat} {p3 : Plan} {o1 o2 o3 : Oper} {wr1 wr2 wr3 r1 r2 r3 : List HL} {next1 next2 next3 : St → Prop} (hi1 : all[i]? = some o1) (hi2 : all[j]? = some o2) (hi3 : all[l]? = some o3) (hg1 : Lets X all s o1.guard) (hg2 : Lets X all s o2.guard) (hg3 : Lets X all s o3.guard)
    (he1 : Eff X o1 s wr1 next1) (he2 : Eff X o2 s wr2 next2) (he3 : Eff X o3 s wr3 next3) (ht1 : Take s.heap (wr1 ++ H0) r1) (ht2 : Take s.heap (wr2 ++ H0) r2) (ht3 : Take s.heap (wr3 ++ H0) r3)
    (h1 : ∀ s', next1 s' → GoP X fn R all H0 p1 k s') (h2 : ∀ s', next2 s' → GoP X fn R all H0 p2 k s') (h3 : ∀ s', next3 s' → GoP X fn R all H0 p3 k s') :
    GoP X fn R all H0 (.three i j l p1 p2 p3) k s :=
  ⟨fun I a w wR fuel listed hs hS hH hns hp => by
    cases fuel with
    | zero => simp [planOk] at hp
    | succ f =>
      simp only [planOk, Bool.and_eq_true, decide_eq_true_eq] at hp
      refine wpAnyH_all hp.1.1.1 (by simp) fun i' hi' => ?_
      rcases List.mem_cons.1 hi' with rfl | hi'
      · exact step_one hi1 hg1 he1 ht1 h1 hs hS hH hns hp.1.1.2
      · rcases List.mem_cons.1 hi' with rfl | hi'
        · exact step_one hi2 hg2 he2 ht2 h2 hs hS hH hns hp.1.2
        · have : i' = l := by simpa using hi'
          subst this
          exact step_one hi3 hg3 he3 ht3 h3 hs hS hH hns hp.2⟩
theorem GoP.twoBB {o1 o2 : Oper} {wr1 wr2 r1 r2 : List HL} {F1 F2 : BK → St} (hi1 : all[i]? = some o1) (hi2 : all[j]? = some o2) (hg1 : Lets X all s o1.guard) (hg2 : Lets X all s o2.guard)
    (he1 : Eff X o1 s wr1 (fun s2 => ∃ β, s2 = F1 β)) (he2 : Eff X o2 s wr2 (fun s2 => ∃ β, s2 = F2 β)) (ht1 : Take s.heap (wr1 ++ H0) r1) (ht2 : Take s.heap (wr2 ++ H0) r2) (h1 : ∀ β, GoP X fn R all H0 p1 k (F1 β)) (h2 : ∀ β, GoP X fn R all H0 p2 k (F2 β)) :
    GoP X fn R all H0 (.two i j p1 p2) k s := GoP.two hi1 hi2 hg1 hg2 he1 he2 ht1 ht2 (fun _ ⟨β, e⟩ => e ▸ h1 β) (fun _ ⟨β, e⟩ => e ▸ h2 β)
theorem le_swap {d1 d2 : Nat} {q1 q2 : D} {x1 x2 : HL} {env : List (Nat × D)} {H : List HL} (hne : Nat.beq d1 d2 = false) : Le ⟨(d1, q1) :: (d2, q2) :: env, x1 :: x2 :: H⟩ ⟨(d2, q2) :: (d1, q1) :: env, x2 :: x1 :: H⟩ := fun X I a w hs =>
  ⟨hs.tsz, hs.dfr, fun k d hk => hs.env k d (by
    simp only [look] at hk ⊢
    cases h1 : Nat.beq d1 k with
    | false => simpa [h1] using hk
    | true =>
      have e1 := Nat.eq_of_beq_eq_true h1
      subst e1
      have h2 : Nat.beq d2 d1 = false := by
        rw [Bool.eq_false_iff] at hne ⊢
        intro e
        exact hne (by rw [Nat.eq_of_beq_eq_true e]; simp)
      simpa [h1, h2] using hk), fun z hz => hs.heap z ((List.Perm.swap x1 x2 H).mem_iff.1 hz), sep_perm (List.Perm.swap x2 x1 H) hs.sep, fun b hb => hs.own b ((fps_perm (List.Perm.swap x2 x1 H) b).2 hb), hs.imm, hs.i0, hs.same⟩
/-- Two new rows, in either order. -/
theorem GoP.twoBB' {o1 o2 : Oper} {r1 : List HL} {F1 F2 : BK → St} {G1 G2 : BK → BK → St} (hi1 : all[i]? = some o1) (hi2 : all[j]? = some o2) (hg1 : o1.guard = none) (hg2 : o2.guard = none)
    (he1 : Eff X o1 s [] (fun s2 => ∃ β, s2 = F1 β)) (he2 : ∀ β, Eff X o2 (F1 β) [] (fun s2 => ∃ β', s2 = G1 β β')) (he3 : Eff X o2 s [] (fun s2 => ∃ β', s2 = F2 β')) (he4 : ∀ β', Eff X o1 (F2 β') [] (fun s2 => ∃ β, s2 = G2 β' β))
    (hle : ∀ β β', Le (G2 β' β) (G1 β β')) (ht : Take s.heap H0 r1) (ht1 : ∀ β, ∃ r, Take (F1 β).heap H0 r) (ht2 : ∀ β, ∃ r, Take (F2 β).heap H0 r) (h : ∀ β β', GoP X fn R all H0 p k (G1 β β')) :
    GoP X fn R all H0 (.two i j (.one j p) (.one i p)) k s :=
  have lets : ∀ (s : St) {g : Option (Nat × Bool)}, g = none → Lets X all s g := fun s g e => by subst e; trivial
  GoP.two hi1 hi2 (lets _ hg1) (lets _ hg2) he1 he3 ht ht
    (fun _ ⟨β, e⟩ => by
      subst e
      obtain ⟨r, hr⟩ := ht1 β
      exact GoP.one hi2 (lets _ hg2) (he2 β) hr fun _ ⟨β', e⟩ => e ▸ h β β')
    (fun _ ⟨β', e⟩ => by
      subst e
      obtain ⟨r, hr⟩ := ht2 β'
      exact GoP.one hi1 (lets _ hg1) (he4 β') hr fun _ ⟨β, e⟩ => by
        subst e
        exact ⟨fun I a w wR fuel listed hs => (h β β').run I a w wR fuel listed (hle β β' _ _ _ _ hs)⟩)
/-- Two operations that may come in either order: both ways are gone up to the region's end; what comes after (Q) is shown once. -/
theorem GoP.fork {Q : Prop} {o1 o2 : Oper} {wr1 wr2 r1 r2 : List HL} {next1 next2 : St → Prop} (hi1 : all[i]? = some o1) (hi2 : all[j]? = some o2) (hg1 : Lets X all s o1.guard) (hg2 : Lets X all s o2.guard)
    (he1 : Eff X o1 s wr1 next1) (he2 : Eff X o2 s wr2 next2) (ht1 : Take s.heap (wr1 ++ H0) r1) (ht2 : Take s.heap (wr2 ++ H0) r2) (h1 : Q → ∀ s', next1 s' → GoP X fn R all H0 p1 k s') (h2 : Q → ∀ s', next2 s' → GoP X fn R all H0 p2 k s') (hQ : Q) :
    GoP X fn R all H0 (.two i j p1 p2) k s := GoP.two hi1 hi2 hg1 hg2 he1 he2 ht1 ht2 (h1 hQ) (h2 hQ)
theorem GoP.fork0 (F : St) {o1 o2 : Oper} {wr1 wr2 r1 r2 : List HL} {next1 next2 : St → Prop} (hi1 : all[i]? = some o1) (hi2 : all[j]? = some o2) (hg1 : Lets X all s o1.guard) (hg2 : Lets X all s o2.guard)
    (he1 : Eff X o1 s wr1 next1) (he2 : Eff X o2 s wr2 next2) (ht1 : Take s.heap (wr1 ++ H0) r1) (ht2 : Take s.heap (wr2 ++ H0) r2) (h1 : GoK X fn R k F → ∀ s', next1 s' → GoP X fn R all H0 p1 k s') (h2 : GoK X fn R k F → ∀ s', next2 s' → GoP X fn R all H0 p2 k s') (hQ : GoK X fn R k F) :
    GoP X fn R all H0 (.two i j p1 p2) k s := GoP.two hi1 hi2 hg1 hg2 he1 he2 ht1 ht2 (h1 hQ) (h2 hQ)
theorem GoP.fork1 (F : BK → St) {o1 o2 : Oper} {wr1 wr2 r1 r2 : List HL} {next1 next2 : St → Prop} (hi1 : all[i]? = some o1) (hi2 : all[j]? = some o2) (hg1 : Lets X all s o1.guard) (hg2 : Lets X all s o2.guard)
    (he1 : Eff X o1 s wr1 next1) (he2 : Eff X o2 s wr2 next2) (ht1 : Take s.heap (wr1 ++ H0) r1) (ht2 : Take s.heap (wr2 ++ H0) r2) (h1 : (∀ β, GoK X fn R k (F β)) → ∀ s', next1 s' → GoP X fn R all H0 p1 k s') (h2 : (∀ β, GoK X fn R k (F β)) → ∀ s', next2 s' → GoP X fn R all H0 p2 k s') (hQ : ∀ β, GoK X fn R k (F β)) :
    GoP X fn R all H0 (.two i j p1 p2) k s := GoP.two hi1 hi2 hg1 hg2 he1 he2 ht1 ht2 (h1 hQ) (h2 hQ)
theorem GoP.fork2 (F : BK → BK → St) {o1 o2 : Oper} {wr1 wr2 r1 r2 : List HL} {next1 next2 : St → Prop} (hi1 : all[i]? = some o1) (hi2 : all[j]? = some o2) (hg1 : Lets X all s o1.guard) (hg2 : Lets X all s o2.guard)
    (he1 : Eff X o1 s wr1 next1) (he2 : Eff X o2 s wr2 next2) (ht1 : Take s.heap (wr1 ++ H0) r1) (ht2 : Take s.heap (wr2 ++ H0) r2) (h1 : (∀ β γ, GoK X fn R k (F β γ)) → ∀ s', next1 s' → GoP X fn R all H0 p1 k s') (h2 : (∀ β γ, GoK X fn R k (F β γ)) → ∀ s', next2 s' → GoP X fn R all H0 p2 k s') (hQ : ∀ β γ, GoK X fn R k (F β γ)) :
    GoP X fn R all H0 (.two i j p1 p2) k s := GoP.two hi1 hi2 hg1 hg2 he1 he2 ht1 ht2 (h1 hQ) (h2 hQ)
theorem GoP.fork3 (F : BK → BK → BK → St) {o1 o2 : Oper} {wr1 wr2 r1 r2 : List HL} {next1 next2 : St → Prop} (hi1 : all[i]? = some o1) (hi2 : all[j]? = some o2) (hg1 : Lets X all s o1.guard) (hg2 : Lets X all s o2.guard)
    (he1 : Eff X o1 s wr1 next1) (he2 : Eff X o2 s wr2 next2) (ht1 : Take s.heap (wr1 ++ H0) r1) (ht2 : Take s.heap (wr2 ++ H0) r2) (h1 : (∀ β γ δ, GoK X fn R k (F β γ δ)) → ∀ s', next1 s' → GoP X fn R all H0 p1 k s') (h2 : (∀ β γ δ, GoK X fn R k (F β γ δ)) → ∀ s', next2 s' → GoP X fn R all H0 p2 k s') (hQ : ∀ β γ δ, GoK X fn R k (F β γ δ)) :
    GoP X fn R all H0 (.two i j p1 p2) k s := GoP.two hi1 hi2 hg1 hg2 he1 he2 ht1 ht2 (h1 hQ) (h2 hQ)
theorem GoP.forkT0 (F : St) {l : Nat} {p3 : Plan} {o1 o2 o3 : Oper} {wr1 wr2 wr3 r1 r2 r3 : List HL} {next1 next2 next3 : St → Prop} (hi1 : all[i]? = some o1) (hi2 : all[j]? = some o2) (hi3 : all[l]? = some o3) (hg1 : Lets X all s o1.guard) (hg2 : Lets X all s o2.guard) (hg3 : Lets X all s o3.guard)
    (he1 : Eff X o1 s wr1 next1) (he2 : Eff X o2 s wr2 next2) (he3 : Eff X o3 s wr3 next3) (ht1 : Take s.heap (wr1 ++ H0) r1) (ht2 : Take s.heap (wr2 ++ H0) r2) (ht3 : Take s.heap (wr3 ++ H0) r3)
    (h1 : (GoK X fn R k (F)) → ∀ s', next1 s' → GoP X fn R all H0 p1 k s') (h2 : (GoK X fn R k (F)) → ∀ s', next2 s' → GoP X fn R all H0 p2 k s') (h3 : (GoK X fn R k (F)) → ∀ s', next3 s' → GoP X fn R all H0 p3 k s') (hQ : GoK X fn R k (F)) :
    GoP X fn R all H0 (.three i j l p1 p2 p3) k s := GoP.three hi1 hi2 hi3 hg1 hg2 hg3 he1 he2 he3 ht1 ht2 ht3 (h1 hQ) (h2 hQ) (h3 hQ)
theorem GoP.forkT1 (F : BK → St) {l : Nat} {p3 : Plan} {o1 o2 o3 : Oper} {wr1 wr2 wr3 r1 r2 r3 : List HL} {next1 next2 next3 : St → Prop} (hi1 : all[i]? = some o1) (hi2 : all[j]? = some o2) (hi3 : all[l]? = some o3) (hg1 : Lets X all s o1.guard) (hg2 : Lets X all s o2.guard) (hg3 : Lets X all s o3.guard)
    (he1 : Eff X o1 s wr1 next1) (he2 : Eff X o2 s wr2 next2) (he3 : Eff X o3 s wr3 next3) (ht1 : Take s.heap (wr1 ++ H0) r1) (ht2 : Take s.heap (wr2 ++ H0) r2) (ht3 : Take s.heap (wr3 ++ H0) r3)
    (h1 : (∀ β0 : BK, GoK X fn R k (F β0)) → ∀ s', next1 s' → GoP X fn R all H0 p1 k s') (h2 : (∀ β0 : BK, GoK X fn R k (F β0)) → ∀ s', next2 s' → GoP X fn R all H0 p2 k s') (h3 : (∀ β0 : BK, GoK X fn R k (F β0)) → ∀ s', next3 s' → GoP X fn R all H0 p3 k s') (hQ : ∀ β0 : BK, GoK X fn R k (F β0)) :
    GoP X fn R all H0 (.three i j l p1 p2 p3) k s := GoP.three hi1 hi2 hi3 hg1 hg2 hg3 he1 he2 he3 ht1 ht2 ht3 (h1 hQ) (h2 hQ) (h3 hQ)
theorem GoP.forkT2 (F : BK → BK → St) {l : Nat} {p3 : Plan} {o1 o2 o3 : Oper} {wr1 wr2 wr3 r1 r2 r3 : List HL} {next1 next2 next3 : St → Prop} (hi1 : all[i]? = some o1) (hi2 : all[j]? = some o2) (hi3 : all[l]? = some o3) (hg1 : Lets X all s o1.guard) (hg2 : Lets X all s o2.guard) (hg3 : Lets X all s o3.guard)
    (he1 : Eff X o1 s wr1 next1) (he2 : Eff X o2 s wr2 next2) (he3 : Eff X o3 s wr3 next3) (ht1 : Take s.heap (wr1 ++ H0) r1) (ht2 : Take s.heap (wr2 ++ H0) r2) (ht3 : Take s.heap (wr3 ++ H0) r3)
    (h1 : (∀ β0 β1 : BK, GoK X fn R k (F β0 β1)) → ∀ s', next1 s' → GoP X fn R all H0 p1 k s') (h2 : (∀ β0 β1 : BK, GoK X fn R k (F β0 β1)) → ∀ s', next2 s' → GoP X fn R all H0 p2 k s') (h3 : (∀ β0 β1 : BK, GoK X fn R k (F β0 β1)) → ∀ s', next3 s' → GoP X fn R all H0 p3 k s') (hQ : ∀ β0 β1 : BK, GoK X fn R k (F β0 β1)) :
    GoP X fn R all H0 (.three i j l p1 p2 p3) k s := GoP.three hi1 hi2 hi3 hg1 hg2 hg3 he1 he2 he3 ht1 ht2 ht3 (h1 hQ) (h2 hQ) (h3 hQ)
theorem GoP.forkT3 (F : BK → BK → BK → St) {l : Nat} {p3 : Plan} {o1 o2 o3 : Oper} {wr1 wr2 wr3 r1 r2 r3 : List HL} {next1 next2 next3 : St → Prop} (hi1 : all[i]? = some o1) (hi2 : all[j]? = some o2) (hi3 : all[l]? = some o3) (hg1 : Lets X all s o1.guard) (hg2 : Lets X all s o2.guard) (hg3 : Lets X all s o3.guard)
    (he1 : Eff X o1 s wr1 next1) (he2 : Eff X o2 s wr2 next2) (he3 : Eff X o3 s wr3 next3) (ht1 : Take s.heap (wr1 ++ H0) r1) (ht2 : Take s.heap (wr2 ++ H0) r2) (ht3 : Take s.heap (wr3 ++ H0) r3)
    (h1 : (∀ β0 β1 β2 : BK, GoK X fn R k (F β0 β1 β2)) → ∀ s', next1 s' → GoP X fn R all H0 p1 k s') (h2 : (∀ β0 β1 β2 : BK, GoK X fn R k (F β0 β1 β2)) → ∀ s', next2 s' → GoP X fn R all H0 p2 k s') (h3 : (∀ β0 β1 β2 : BK, GoK X fn R k (F β0 β1 β2)) → ∀ s', next3 s' → GoP X fn R all H0 p3 k s') (hQ : ∀ β0 β1 β2 : BK, GoK X fn R k (F β0 β1 β2)) :
    GoP X fn R all H0 (.three i j l p1 p2 p3) k s := GoP.three hi1 hi2 hi3 hg1 hg2 hg3 he1 he2 he3 ht1 ht2 ht3 (h1 hQ) (h2 hQ) (h3 hQ)
theorem GoP.fork4 (F : BK → BK → BK → BK → St) {o1 o2 : Oper} {wr1 wr2 r1 r2 : List HL} {next1 next2 : St → Prop} (hi1 : all[i]? = some o1) (hi2 : all[j]? = some o2) (hg1 : Lets X all s o1.guard) (hg2 : Lets X all s o2.guard)
    (he1 : Eff X o1 s wr1 next1) (he2 : Eff X o2 s wr2 next2) (ht1 : Take s.heap (wr1 ++ H0) r1) (ht2 : Take s.heap (wr2 ++ H0) r2) (h1 : (∀ β0 β1 β2 β3 : BK, GoK X fn R k (F β0 β1 β2 β3)) → ∀ s', next1 s' → GoP X fn R all H0 p1 k s') (h2 : (∀ β0 β1 β2 β3 : BK, GoK X fn R k (F β0 β1 β2 β3)) → ∀ s', next2 s' → GoP X fn R all H0 p2 k s') (hQ : ∀ β0 β1 β2 β3 : BK, GoK X fn R k (F β0 β1 β2 β3)) :
    GoP X fn R all H0 (.two i j p1 p2) k s := GoP.two hi1 hi2 hg1 hg2 he1 he2 ht1 ht2 (h1 hQ) (h2 hQ)
theorem GoP.forkT4 (F : BK → BK → BK → BK → St) {l : Nat} {p3 : Plan} {o1 o2 o3 : Oper} {wr1 wr2 wr3 r1 r2 r3 : List HL} {next1 next2 next3 : St → Prop} (hi1 : all[i]? = some o1) (hi2 : all[j]? = some o2) (hi3 : all[l]? = some o3) (hg1 : Lets X all s o1.guard) (hg2 : Lets X all s o2.guard) (hg3 : Lets X all s o3.guard)
    (he1 : Eff X o1 s wr1 next1) (he2 : Eff X o2 s wr2 next2) (he3 : Eff X o3 s wr3 next3) (ht1 : Take s.heap (wr1 ++ H0) r1) (ht2 : Take s.heap (wr2 ++ H0) r2) (ht3 : Take s.heap (wr3 ++ H0) r3)
    (h1 : (∀ β0 β1 β2 β3 : BK, GoK X fn R k (F β0 β1 β2 β3)) → ∀ s', next1 s' → GoP X fn R all H0 p1 k s') (h2 : (∀ β0 β1 β2 β3 : BK, GoK X fn R k (F β0 β1 β2 β3)) → ∀ s', next2 s' → GoP X fn R all H0 p2 k s') (h3 : (∀ β0 β1 β2 β3 : BK, GoK X fn R k (F β0 β1 β2 β3)) → ∀ s', next3 s' → GoP X fn R all H0 p3 k s') (hQ : ∀ β0 β1 β2 β3 : BK, GoK X fn R k (F β0 β1 β2 β3)) :
    GoP X fn R all H0 (.three i j l p1 p2 p3) k s := GoP.three hi1 hi2 hi3 hg1 hg2 hg3 he1 he2 he3 ht1 ht2 ht3 (h1 hQ) (h2 hQ) (h3 hQ)
theorem GoP.fork5 (F : BK → BK → BK → BK → BK → St) {o1 o2 : Oper} {wr1 wr2 r1 r2 : List HL} {next1 next2 : St → Prop} (hi1 : all[i]? = some o1) (hi2 : all[j]? = some o2) (hg1 : Lets X all s o1.guard) (hg2 : Lets X all s o2.guard)
    (he1 : Eff X o1 s wr1 next1) (he2 : Eff X o2 s wr2 next2) (ht1 : Take s.heap (wr1 ++ H0) r1) (ht2 : Take s.heap (wr2 ++ H0) r2) (h1 : (∀ β0 β1 β2 β3 β4 : BK, GoK X fn R k (F β0 β1 β2 β3 β4)) → ∀ s', next1 s' → GoP X fn R all H0 p1 k s') (h2 : (∀ β0 β1 β2 β3 β4 : BK, GoK X fn R k (F β0 β1 β2 β3 β4)) → ∀ s', next2 s' → GoP X fn R all H0 p2 k s') (hQ : ∀ β0 β1 β2 β3 β4 : BK, GoK X fn R k (F β0 β1 β2 β3 β4)) :
    GoP X fn R all H0 (.two i j p1 p2) k s := GoP.two hi1 hi2 hg1 hg2 he1 he2 ht1 ht2 (h1 hQ) (h2 hQ)
theorem GoP.forkT5 (F : BK → BK → BK → BK → BK → St) {l : Nat} {p3 : Plan} {o1 o2 o3 : Oper} {wr1 wr2 wr3 r1 r2 r3 : List HL} {next1 next2 next3 : St → Prop} (hi1 : all[i]? = some o1) (hi2 : all[j]? = some o2) (hi3 : all[l]? = some o3) (hg1 : Lets X all s o1.guard) (hg2 : Lets X all s o2.guard) (hg3 : Lets X all s o3.guard)
    (he1 : Eff X o1 s wr1 next1) (he2 : Eff X o2 s wr2 next2) (he3 : Eff X o3 s wr3 next3) (ht1 : Take s.heap (wr1 ++ H0) r1) (ht2 : Take s.heap (wr2 ++ H0) r2) (ht3 : Take s.heap (wr3 ++ H0) r3)
    (h1 : (∀ β0 β1 β2 β3 β4 : BK, GoK X fn R k (F β0 β1 β2 β3 β4)) → ∀ s', next1 s' → GoP X fn R all H0 p1 k s') (h2 : (∀ β0 β1 β2 β3 β4 : BK, GoK X fn R k (F β0 β1 β2 β3 β4)) → ∀ s', next2 s' → GoP X fn R all H0 p2 k s') (h3 : (∀ β0 β1 β2 β3 β4 : BK, GoK X fn R k (F β0 β1 β2 β3 β4)) → ∀ s', next3 s' → GoP X fn R all H0 p3 k s') (hQ : ∀ β0 β1 β2 β3 β4 : BK, GoK X fn R k (F β0 β1 β2 β3 β4)) :
    GoP X fn R all H0 (.three i j l p1 p2 p3) k s := GoP.three hi1 hi2 hi3 hg1 hg2 hg3 he1 he2 he3 ht1 ht2 ht3 (h1 hQ) (h2 hQ) (h3 hQ)
theorem GoP.le (hl : ∀ X I a w, Sat X I s a w → Sat X I s' a w) (h : GoP X fn R all H0 p k s') : GoP X fn R all H0 p k s := ⟨fun I a w wR fuel listed hs => h.run I a w wR fuel listed (hl _ _ _ _ hs)⟩
end
end
end Go.Proofs.Ytgkcmjmofcekmaa.Sx
