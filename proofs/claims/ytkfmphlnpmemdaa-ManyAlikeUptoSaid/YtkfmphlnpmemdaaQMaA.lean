import Derived.Test.YtkfmphlnpmemdaaQCoA
import Derived.Conc.Crowd
import Derived.Conc.CrowdComm
import Derived.Conc.CrowdRun
set_option linter.unusedVariables false
namespace Go.Proofs.Ytkfmphlnpmemdaa.Sx
open Go Go.Conc
inductive Rk (A : Type)
  | z
  | s (f : A → Rk A)
section
variable {P : Program} {main : Bool} {Im : Nat → Prop} {Stop Stop' : (Nat → Prop) → Goroutine → World → Prop} {O : Nat → Prop} {g : Goroutine} {w w₁ : World}
end
def Step1 {A : Type} (v' v : List (Rk A)) : Prop := ∃ i f w, v[i]? = some (.s f) ∧ v' = v.set i (f w)
theorem acc_cons {A : Type} : ∀ (x : Rk A) {v : List (Rk A)}, Acc Step1 v → Acc Step1 (x :: v)
  | .z, v, h => by
    induction h with
    | intro v _ ih =>
      refine Acc.intro _ ?_
      rintro v' ⟨i, f, w, h1, rfl⟩
      cases i with
      | zero => cases h1
      | succ i => exact ih _ ⟨i, f, w, h1, rfl⟩
  | .s f, v, h => by
    induction h with
    | intro v h0 ih =>
      refine Acc.intro _ ?_
      rintro v' ⟨i, f', w, h1, rfl⟩
      cases i with
      | zero => cases h1; exact acc_cons (f w) (Acc.intro v h0)
      | succ i => exact ih _ ⟨i, f', w, h1, rfl⟩
theorem acc_vec {A : Type} : ∀ v : List (Rk A), Acc Step1 v
  | [] => Acc.intro _ (by rintro v' ⟨i, f, w, h1, rfl⟩; cases h1)
  | x :: v => acc_cons x (acc_vec v)
def Open (gs : Array Goroutine) : Prop := ∀ o ∈ gs, o.status ≠ .blocked ∨ o.offers = none
def Moves (P : Program) (i : Nat) (g : Goroutine) (w : World) (g' : Goroutine) (w' : World) (ops : Trace) (wk : Goroutine → Goroutine) : Prop :=
  (∀ o, wk o = o ∨ (wk o = o.again w')) ∧ ∀ (gs : Array Goroutine) (sl : Option (Nat × Nat)), gs[i]? = some g → Open gs →
    runT P (crowd gs w sl) i = (.next (crowd ((gs.map wk).setIfInBounds i g') w' sl), ops)
section
variable {P : Program} {i : Nat} {g g' g₂ : Goroutine} {w w' w₁ : World} {es : Array Event} {shape : CommShape} {blocking : Bool} {c cap s r : Nat} {buf : Array Value} {closed tm : Bool} {v z : Value}
theorem Moves.go (h : stepG P (i == 0) g w = .go g' w' es) : Moves P i g w g' w' (MemOp.ofEvents i g.frame.fn g.frame.place es) (woken P g g' w') :=
  ⟨fun o => by unfold woken; split <;> simp, fun gs sl hi _ => runT_crowd_go hi h⟩
theorem partners_open {gs : Array Goroutine} (h : Open gs) (i c : Nat) (send : Bool) : partners (gs.setIfInBounds i ph) c send = [] := by
  refine partners_nil fun j x hx => ?_
  rcases getElem?_stand gs i j x hx with ⟨_, rfl⟩ | ⟨_, hx⟩
  · rfl
  · rcases h x (Array.mem_of_getElem? hx) with h | h
    · exact offersAt_of_not_blocked h _ _
    · unfold offersAt; simp [h]
theorem map_id_set (gs : Array Goroutine) (i : Nat) (x : Goroutine) : (gs.map fun o => o).setIfInBounds i x = gs.setIfInBounds i x := by simp
theorem Moves.send (h : stepG P (i == 0) g w = .comm g₂ #[scase c v z] blocking shape w₁ es) (hc : w₁.heap[c]? = some (.chan cap buf false s r tm)) (hroom : buf.size < cap) :
    Moves P i g w (g₂.finishComm P #[scase c v z] shape 0 undef false) (w₁.setChan c cap (buf.push v) false (s + 1) r tm)
      (MemOp.ofEvents i g.frame.fn g.frame.place es ++ #[{ g := i, fn := g₂.frame.fn, pos := g₂.frame.place, act := .send c s }, { g := i, fn := g₂.frame.fn, pos := g₂.frame.place, act := .sendDone c s }]) (fun o => o) :=
  ⟨fun o => .inl rfl, fun gs sl hi ho => by rw [map_id_set]; exact crowd_send_room hi h hc hroom (partners_open ho i c false)⟩
theorem Moves.recv (h : stepG P (i == 0) g w = .comm g₂ #[rcase c z] blocking shape w₁ es) (hc : w₁.heap[c]? = some (.chan cap buf closed s r tm)) (hsome : 0 < buf.size) :
    Moves P i g w (g₂.finishComm P #[rcase c z] shape 0 (buf.getD 0 undef) true) (w₁.setChan c cap (buf.extract 1 buf.size) closed s (r + 1) tm)
      (MemOp.ofEvents i g.frame.fn g.frame.place es ++ #[{ g := i, fn := g₂.frame.fn, pos := g₂.frame.place, act := .recv c r cap }, { g := i, fn := g₂.frame.fn, pos := g₂.frame.place, act := .recvDone c r }]) (fun o => o) :=
  ⟨fun o => .inl rfl, fun gs sl hi ho => by rw [map_id_set]; exact crowd_recv_buf hi h hc hsome (partners_open ho i c true)⟩
theorem Moves.recvClosed (h : stepG P (i == 0) g w = .comm g₂ #[rcase c z] blocking shape w₁ es) (hc : w₁.heap[c]? = some (.chan cap #[] true s r tm)) :
    Moves P i g w (g₂.finishComm P #[rcase c z] shape 0 z false) w₁
      (MemOp.ofEvents i g.frame.fn g.frame.place es ++ #[{ g := i, fn := g₂.frame.fn, pos := g₂.frame.place, act := .recvClosed c }]) (fun o => o) :=
  ⟨fun o => .inl rfl, fun gs sl hi ho => by rw [map_id_set]; exact crowd_recv_closed hi h hc (partners_open ho i c true)⟩
end
def Rk.len {A : Type} : Nat → Rk A
  | 0 => .z
  | n + 1 => .s fun _ => Rk.len n
structure Pro (P : Program) where
  S : Type
  size : S → Nat
  Ok : S → World → Trace → Prop
  Env : Nat → S × World → S × World → Prop
  Act : Nat → S × World → S × World → Trace → Prop
  Born : S × World → S × World → Trace → Prop
  quit : S → Nat → Nat → Prop
  waits : S → Prop
  Fin : S → World → Trace → Prop
  trans : ∀ {i a b c}, Env i a b → Env i b c → Env i a c
  draw : ∀ {i σ w d}, Env i (σ, w) (σ, w.at d)
  okDraw : ∀ {σ w t d}, Ok σ w t → Ok σ (w.at d) t
  envQuit : ∀ {i σ w σ' w' d}, Env i (σ, w) (σ', w') → quit σ' i d → ∃ d', quit σ i d'
  keepQuit : ∀ {i σ w σ' w' d}, Env i (σ, w) (σ', w') → quit σ i d → quit σ' i d
  act : ∀ {i σ w t σ' w' ops}, i < size σ → Ok σ w t → Act i (σ, w) (σ', w') ops → Ok σ' w' (t ++ ops) ∧ size σ' = size σ ∧ ∀ j, j < size σ → j ≠ i → Env j (σ, w) (σ', w')
  born : ∀ {σ w t σ' w' ops}, Ok σ w t → Born (σ, w) (σ', w') ops → Ok σ' w' (t ++ ops) ∧ size σ' = size σ + 1 ∧ ∀ j, j < size σ → j ≠ 0 → Env j (σ, w) (σ', w')
  deaf : ∀ {σ w t i d}, Ok σ w t → quit σ i d → Deaf t i = d
  slip : ∀ {σ w t i d es fn pos}, Ok σ w t → quit σ i d → (∀ e ∈ es, Event.mute e = true) → ∃ σ', Act i (σ, w) (σ', w) (MemOp.ofEvents i fn pos es) ∧ quit σ' i (deafBehind d es) ∧ (waits σ → waits σ')
  alive : ∀ {σ w t}, Ok σ w t → waits σ → ∃ i, 1 ≤ i ∧ i < size σ ∧ ∀ d, ¬ quit σ i d
  fin : ∀ {σ w t ops}, Ok σ w t → Fin σ w ops → (∀ said, ¬ Race said (t ++ ops)) ∧ (t ++ ops).HandedOver ∧ (∀ i, 1 ≤ i → i < size σ → (∃ d, quit σ i d) ∧ Deaf (t ++ ops) i = Deaf t i)
section
variable {P : Program} (Φ : Pro P)
def LifeW (i : Nat) : Rk (Φ.S × World) → Φ.S → Goroutine → World → Prop
  | .z, _, _, _ => False
  | .s f, σ, g, w => g.status = .running ∧ (∀ d, ¬ Φ.quit σ i d) ∧ ∀ σ₁ w₁, Φ.Env i (σ, w) (σ₁, w₁) → (∃ t, Φ.Ok σ₁ w₁ t) → ∃ g' w' ops wk σ', Moves P i g w₁ g' w' ops wk ∧ Φ.Act i (σ₁, w₁) (σ', w') ops ∧
      (Φ.waits σ₁ → Φ.waits σ' ∨ ∀ o, wk o = o.again w') ∧ (LifeW i (f (σ₁, w₁)) σ' g' w' ∨ ∃ q d, f (σ₁, w₁) = Rk.len q ∧ QuitsD P q d g' ∧ Φ.quit σ' i d)
def WAt (i : Nat) (r : Rk (Φ.S × World)) (σ : Φ.S) (g : Goroutine) (w : World) : Prop := LifeW Φ i r σ g w ∨ ∃ q d, r = Rk.len q ∧ QuitsD P q d g ∧ Φ.quit σ i d
def LifeC (Post : Value → World → Prop) : Rk (Φ.S × World) → Φ.S → Goroutine → World → Prop
  | .z, _, _, _ => False
  | .s f, σ, g, w => g.status = .running ∧ ∀ σ₁ w₁, Φ.Env 0 (σ, w) (σ₁, w₁) → (∃ t, Φ.Ok σ₁ w₁ t) →
      (∃ g' w' ops wk σ', Moves P 0 g w₁ g' w' ops wk ∧ Φ.Act 0 (σ₁, w₁) (σ', w') ops ∧ LifeC Post (f (σ₁, w₁)) σ' g' w') ∨
      (∃ g' child w' es σ' rc, stepG P true g w₁ = .spawn g' child w' es ∧ Φ.Born (σ₁, w₁) (σ', w') ((MemOp.ofEvents 0 g.frame.fn g.frame.place es).push { g := 0, fn := g.frame.fn, pos := g.frame.place, act := .go (Φ.size σ₁) } |>.push { g := Φ.size σ₁, fn := child.frame.fn, pos := g.frame.place, act := .start }) ∧
        WAt Φ (Φ.size σ₁) rc σ' child w' ∧ LifeC Post (f (σ₁, w₁)) σ' g' w') ∨
      (stepG P true g w₁ = .go { g with status := .blocked } w₁ #[] ∧ g.offers = none ∧ Φ.waits σ₁) ∨
      (∃ v es, stepG P true g w₁ = .ended (.done v) w₁ es ∧ Φ.Fin σ₁ w₁ (MemOp.ofEvents 0 g.frame.fn g.frame.place es) ∧ Post v w₁)
variable {Φ} {Post : Value → World → Prop}
theorem LifeW.env {i : Nat} {r : Rk (Φ.S × World)} {σ σ₁ : Φ.S} {g : Goroutine} {w w₁ : World} (h : LifeW Φ i r σ g w) (he : Φ.Env i (σ, w) (σ₁, w₁)) : LifeW Φ i r σ₁ g w₁ := by
  cases r with
  | z => exact h
  | s f => exact ⟨h.1, fun d hd => let ⟨d', h'⟩ := Φ.envQuit he hd; h.2.1 d' h', fun σ₂ w₂ h₂ => h.2.2 σ₂ w₂ (Φ.trans he h₂)⟩
theorem WAt.env {i : Nat} {r : Rk (Φ.S × World)} {σ σ₁ : Φ.S} {g : Goroutine} {w w₁ : World} (h : WAt Φ i r σ g w) (he : Φ.Env i (σ, w) (σ₁, w₁)) : WAt Φ i r σ₁ g w₁ :=
  h.imp (fun h => h.env he) fun ⟨q, d, h1, h2, h3⟩ => ⟨q, d, h1, h2, Φ.keepQuit he h3⟩
theorem LifeC.env {r : Rk (Φ.S × World)} {σ σ₁ : Φ.S} {g : Goroutine} {w w₁ : World} (h : LifeC Φ Post r σ g w) (he : Φ.Env 0 (σ, w) (σ₁, w₁)) : LifeC Φ Post r σ₁ g w₁ := by
  cases r with
  | z => exact h
  | s f => exact ⟨h.1, fun σ₂ w₂ h₂ => h.2 σ₂ w₂ (Φ.trans he h₂)⟩
theorem LifeC.running {r : Rk (Φ.S × World)} {σ : Φ.S} {g : Goroutine} {w : World} (h : LifeC Φ Post r σ g w) : g.status = .running := by
  cases r with
  | z => exact h.elim
  | s f => exact h.1
theorem WAt.status {i : Nat} {r : Rk (Φ.S × World)} {σ : Φ.S} {g : Goroutine} {w : World} (h : WAt Φ i r σ g w) : g.status = .running ∨ g.status = .finished := by
  rcases h with h | ⟨q, d, _, h, _⟩
  · cases r with
    | z => exact h.elim
    | s f => exact .inl h.1
  · exact h.status
end
theorem again_still {g : Goroutine} (h : g.status = .running ∨ g.status = .finished) (w : World) : g.again w = g := by
  rcases h with h | h <;> simp [Goroutine.again, h]
theorem again_blocked {g : Goroutine} (h : g.status = .running) (ho : g.offers = none) (w : World) : ({ g with status := .blocked } : Goroutine).again w = g := by
  cases g
  simp only at h ho
  subst h ho
  rfl
def Sub {A : Type} (r' r : Rk A) : Prop := ∃ f x, r = .s f ∧ r' = f x
theorem acc_sub {A : Type} : ∀ r : Rk A, Acc Sub r
  | .z => Acc.intro _ (by rintro r' ⟨f, x, h, _⟩; cases h)
  | .s f => Acc.intro _ (by rintro r' ⟨f', x, h, rfl⟩; cases h; exact acc_sub (f x))
def Lt3 {A : Type} : (Rk A × List (Rk A) × Nat) → (Rk A × List (Rk A) × Nat) → Prop := Prod.Lex Sub (Prod.Lex Step1 (· < ·))
theorem lt3_wf {A : Type} : WellFounded (Lt3 (A := A)) :=
  (Prod.lex ⟨Sub, ⟨acc_sub⟩⟩ (Prod.lex ⟨Step1, ⟨acc_vec⟩⟩ Nat.lt_wfRel)).wf
section
variable {P : Program} {Φ : Pro P} {Post : Value → World → Prop}
variable (Φ Post) in
def MInv (μ : Rk (Φ.S × World) × List (Rk (Φ.S × World)) × Nat) (m : Machine) (t : Trace) : Prop :=
  ∃ (gs : Array Goroutine) (w : World) (sl : Option (Nat × Nat)) (σ : Φ.S) (a a0 : Goroutine), m = crowd gs w sl ∧ gs[0]? = some a ∧ gs.size = Φ.size σ ∧ μ.2.1.length + 1 = gs.size ∧ Φ.Ok σ w t ∧ LifeC Φ Post μ.1 σ a0 w ∧
    ((μ.2.2 = 1 ∧ a = a0) ∨ (μ.2.2 = 0 ∧ a = { a0 with status := .blocked } ∧ a0.offers = none ∧ Φ.waits σ)) ∧
    ∀ i r, μ.2.1[i]? = some r → ∃ g, gs[i + 1]? = some g ∧ WAt Φ (i + 1) r σ g w
theorem get_ms {gs : Array Goroutine} (f : Goroutine → Goroutine) {a b : Nat} (x : Goroutine) (hb : a ≠ b) : ((gs.map f).setIfInBounds a x)[b]? = (gs[b]?).map f := by
  rw [Array.getElem?_setIfInBounds_ne hb, Array.getElem?_map]
theorem get_ms_same {gs : Array Goroutine} (f : Goroutine → Goroutine) {a : Nat} (x : Goroutine) (ha : a < gs.size) : ((gs.map f).setIfInBounds a x)[a]? = some x := by
  simp [ha]
theorem wk_still {wk : Goroutine → Goroutine} {w : World} (h : ∀ o, wk o = o ∨ wk o = o.again w) {g : Goroutine} (hg : g.status = .running ∨ g.status = .finished) : wk g = g := by
  rcases h g with h | h
  · exact h
  · rw [h, again_still hg]
theorem worker_move {gs : Array Goroutine} {w w' : World} {sl : Option (Nat × Nat)} {σ σ' : Φ.S} {a a0 : Goroutine} {rc : Rk (Φ.S × World)} {v : List (Rk (Φ.S × World))} {b : Nat} {t ops : Trace} {i : Nat} {g g' : Goroutine} {wk : Goroutine → Goroutine} {f : Φ.S × World → Rk (Φ.S × World)} {x : Φ.S × World}
    (ha : gs[0]? = some a) (hsz : gs.size = Φ.size σ) (hv : v.length + 1 = gs.size) (hok : Φ.Ok σ w t) (hC : LifeC Φ Post rc σ a0 w) (hb : (b = 1 ∧ a = a0) ∨ (b = 0 ∧ a = { a0 with status := .blocked } ∧ a0.offers = none ∧ Φ.waits σ))
    (hW : ∀ i r, v[i]? = some r → ∃ g, gs[i + 1]? = some g ∧ WAt Φ (i + 1) r σ g w) (hop : Open gs) (hg : gs[i + 1]? = some g) (hr : v[i]? = some (.s f))
    (hm : Moves P (i + 1) g w g' w' ops wk) (hact : Φ.Act (i + 1) (σ, w) (σ', w') ops) (hwt : Φ.waits σ → Φ.waits σ' ∨ ∀ o, wk o = o.again w') (hn : WAt Φ (i + 1) (f x) σ' g' w') :
    ∃ m' μ', runT P (crowd gs w sl) (i + 1) = (.next m', ops) ∧ Lt3 μ' (rc, v, b) ∧ MInv Φ Post μ' m' (t ++ ops) := by
  have hi : i + 1 < gs.size := (Array.getElem?_eq_some_iff.1 hg).1
  obtain ⟨ok', sz', env'⟩ := Φ.act (by omega) hok hact
  have hrun := hm.2 gs sl hg hop
  have hlt : ∀ b', Lt3 (rc, v.set i (f x), b') (rc, v, b) := fun b' => Prod.Lex.right _ (Prod.Lex.left _ _ ⟨i, f, x, hr, rfl⟩)
  have hW' : ∀ j r, (v.set i (f x))[j]? = some r → ∃ g₁, ((gs.map wk).setIfInBounds (i + 1) g')[j + 1]? = some g₁ ∧ WAt Φ (j + 1) r σ' g₁ w' := fun j r hj => by
    by_cases e : i = j
    · subst e
      have hlt : i < v.length := (List.getElem?_eq_some_iff.1 hr).1
      rw [List.getElem?_set_self hlt] at hj
      cases hj
      exact ⟨g', get_ms_same _ _ hi, hn⟩
    · rw [List.getElem?_set_ne e] at hj
      obtain ⟨g₁, h1, h2⟩ := hW j r hj
      have hj1 : j + 1 < gs.size := (Array.getElem?_eq_some_iff.1 h1).1
      refine ⟨g₁, ?_, h2.env (env' (j + 1) (by omega) (by omega))⟩
      rw [get_ms _ _ (by omega), h1, Option.map_some, wk_still hm.1 h2.status]
  have h0 : ((gs.map wk).setIfInBounds (i + 1) g')[0]? = some (wk a) := by rw [get_ms _ _ (by omega), ha]; rfl
  have hC' := hC.env (env' 0 (by omega) (by omega))
  have run : a = a0 → wk a = a0 := fun e => by rw [wk_still hm.1 (e ▸ .inl hC.running), e]
  have fin : ∀ b', ((b' = 1 ∧ wk a = a0) ∨ (b' = 0 ∧ wk a = { a0 with status := .blocked } ∧ a0.offers = none ∧ Φ.waits σ')) → ∃ m' μ', runT P (crowd gs w sl) (i + 1) = (.next m', ops) ∧ Lt3 μ' (rc, v, b) ∧ MInv Φ Post μ' m' (t ++ ops) := fun b' hb' =>
    ⟨_, _, hrun, hlt b', _, _, sl, σ', wk a, a0, rfl, h0, by simp [hsz, sz'], by simp [hv], ok', hC', hb', hW'⟩
  rcases hb with ⟨_, e⟩ | ⟨_, e, ho, hw⟩
  · exact fin 1 (.inl ⟨rfl, run e⟩)
  · have hag : wk a = a.again w' → wk a = a0 := fun h => by rw [h, e]; exact again_blocked hC.running ho _
    rcases hwt hw with h | h
    · rcases hm.1 a with h1 | h1
      · exact fin 0 (.inr ⟨rfl, h1.trans e, ho, h⟩)
      · exact fin 1 (.inl ⟨rfl, hag h1⟩)
    · exact fin 1 (.inl ⟨rfl, hag (h a)⟩)
end
section
variable {P : Program} {Φ : Pro P} {Post : Value → World → Prop}
theorem lives_step : ∀ μ m t, MInv Φ Post μ m t →
    (∃ o w ops, stepT P m = (.ended o w, ops) ∧ Good P Post m o w (t ++ ops)) ∨ (∃ m' ops μ', stepT P m = (.next m', ops) ∧ Lt3 μ' μ ∧ MInv Φ Post μ' m' (t ++ ops)) := by
  rintro ⟨rc, v, b⟩ m t ⟨gs, w, sl, σ, a, a0, rfl, ha, hsz, hv, hok, hC, hb, hW⟩
  simp only at hv hC hb hW
  have hst : ∀ (j : Nat) (g : Goroutine), gs[j + 1]? = some g → ∃ r, v[j]? = some r ∧ WAt Φ (j + 1) r σ g w := fun j g hj => by
    have hlt : j + 1 < gs.size := (Array.getElem?_eq_some_iff.1 hj).1
    have hjv : j < v.length := by omega
    obtain ⟨g', h1, h2⟩ := hW j v[j] (List.getElem?_eq_getElem hjv)
    rw [hj] at h1
    cases h1
    exact ⟨_, List.getElem?_eq_getElem hjv, h2⟩
  have ha' : a.status = .running ∨ (a.status = .blocked ∧ a.offers = none) := by
    rcases hb with ⟨_, rfl⟩ | ⟨_, rfl, ho, _⟩
    · exact .inl hC.running
    · exact .inr ⟨rfl, ho⟩
  have hop : Open gs := fun o ho => by
    obtain ⟨i, hi⟩ := Array.mem_iff_getElem?.1 ho
    cases i with
    | zero =>
      rw [ha] at hi; cases hi
      rcases ha' with h | ⟨_, h⟩
      · exact .inl (by rw [h]; simp)
      · exact .inr h
    | succ i =>
      obtain ⟨r, _, h⟩ := hst i o hi
      rcases h.status with h | h <;> exact .inl (by rw [h]; simp)
  have haw : ∀ g ∈ gs, awake g := fun o ho => by
    obtain ⟨i, hi⟩ := Array.mem_iff_getElem?.1 ho
    cases i with
    | zero =>
      rw [ha] at hi; cases hi
      rcases ha' with h | ⟨h, _⟩
      · exact awake_of (.inl h)
      · exact awake_of (.inr (.inl h))
    | succ i =>
      obtain ⟨r, _, h⟩ := hst i o hi
      rcases h.status with h | h
      · exact awake_of (.inl h)
      · exact awake_of (.inr (.inr h))
  have some1 : ∃ (i : Nat) (g : Goroutine), gs[i]? = some g ∧ g.status = .running := by
    rcases hb with ⟨_, rfl⟩ | ⟨_, _, _, hw⟩
    · exact ⟨0, _, ha, hC.running⟩
    · obtain ⟨i, h1, h2, h3⟩ := Φ.alive hok hw
      obtain ⟨j, rfl⟩ : ∃ j, i = j + 1 := ⟨i - 1, by omega⟩
      have hjl : j < v.length := by omega
      obtain ⟨g, h4, h5⟩ := hW j v[j] (List.getElem?_eq_getElem hjl)
      refine ⟨j + 1, g, h4, ?_⟩
      rcases h5 with h5 | ⟨_, d, _, _, h5⟩
      · generalize v[j] = r at h5
        cases r with
        | z => exact h5.elim
        | s f => exact h5.1
      · exact absurd h5 (h3 d)
  obtain ⟨i, g, d, sl', hg, hrun, hstep⟩ := crowd_pick (P := P) (w := w) (sl := sl) haw some1
  rw [hstep]
  have hok' : Φ.Ok σ (w.at d) t := Φ.okDraw hok
  have hC' : LifeC Φ Post rc σ a0 (w.at d) := hC.env Φ.draw
  have hW' : ∀ i r, v[i]? = some r → ∃ g, gs[i + 1]? = some g ∧ WAt Φ (i + 1) r σ g (w.at d) := fun i r hi => let ⟨g, h1, h2⟩ := hW i r hi; ⟨g, h1, h2.env Φ.draw⟩
  cases i with
  | succ i =>
    right
    obtain ⟨r, hr, hwa⟩ := hst i g hg
    have hwa := hwa.env (Φ.draw (d := d))
    rcases hwa with hl | ⟨q, dd, rfl, hq, hqu⟩
    · cases r with
      | z => exact hl.elim
      | s f =>
        obtain ⟨g', w', ops, wk, σ', h1, h2, h3, h4⟩ := hl.2.2 σ (w.at d) Φ.draw ⟨t, hok'⟩
        obtain ⟨m', μ', k1, k2, k3⟩ := worker_move (sl := sl') ha hsz hv hok' hC' hb hW' hop hg hr h1 h2 h3 h4
        exact ⟨m', ops, μ', k1, k2, k3⟩
    · cases q with
      | zero => rw [hq.1] at hrun; cases hrun
      | succ q =>
        rcases hq with ⟨h, _⟩ | ⟨_, g', es, hm, hs, hq'⟩
        · rw [h] at hrun; cases hrun
        · obtain ⟨σ', h2, h3, h4⟩ := Φ.slip (fn := g.frame.fn) (pos := g.frame.place) hok' hqu hm
          obtain ⟨m', μ', k1, k2, k3⟩ := worker_move (x := (σ, w)) (sl := sl') ha hsz hv hok' hC' hb hW' hop hg hr (Moves.go (hs (w.at d))) h2 (fun h => .inl (h4 h)) (.inr ⟨q, _, rfl, hq', h3⟩)
          exact ⟨m', _, μ', k1, k2, k3⟩
  | zero =>
    rw [ha] at hg
    cases hg
    have e : a = a0 := by
      rcases hb with ⟨_, e⟩ | ⟨_, e, _⟩
      · exact e
      · rw [e] at hrun; cases hrun
    subst e
    have h0 : 0 < gs.size := (Array.getElem?_eq_some_iff.1 ha).1
    cases rc with
    | z => exact hC'.elim
    | s f =>
      rcases hC'.2 σ (w.at d) Φ.draw ⟨t, hok'⟩ with ⟨g', w', ops, wk, σ', h1, h2, h3⟩ | ⟨g', child, w', es, σ', rk, h1, h2, h3, h4⟩ | ⟨h1, h2, h3⟩ | ⟨v', es, h1, h2, h3⟩
      · right
        obtain ⟨ok', sz', env'⟩ := Φ.act (by omega) hok' h2
        refine ⟨_, ops, (f (σ, w.at d), v, 1), h1.2 gs sl' ha hop, Prod.Lex.left _ _ ⟨f, _, rfl, rfl⟩, _, _, sl', σ', g', g', rfl, get_ms_same _ _ h0, by simp [hsz, sz'], by simp [hv], ok', h3, .inl ⟨rfl, rfl⟩, fun j r hj => ?_⟩
        obtain ⟨g₁, k1, k2⟩ := hW' j r hj
        have hj1 : j + 1 < gs.size := (Array.getElem?_eq_some_iff.1 k1).1
        exact ⟨g₁, by rw [get_ms _ _ (by omega), k1, Option.map_some, wk_still h1.1 k2.status], k2.env (env' (j + 1) (by omega) (by omega))⟩
      · right
        obtain ⟨ok', sz', env'⟩ := Φ.born hok' h2
        refine ⟨_, _, (f (σ, w.at d), v ++ [rk], 1), runT_crowd_spawn (i := 0) ha h1, Prod.Lex.left _ _ ⟨f, _, rfl, rfl⟩, _, _, sl', σ', g', g', rfl, ?_, by simp [hsz, sz'], by simp [hv], ?_, h4, .inl ⟨rfl, rfl⟩, fun j r hj => ?_⟩
        · rw [Array.getElem?_push_lt (by simpa using h0)]
          simp
        · rw [hsz]; exact ok'
        · rcases Nat.lt_or_ge j v.length with hjl | hjl
          · rw [List.getElem?_append_left hjl] at hj
            obtain ⟨g₁, k1, k2⟩ := hW' j r hj
            have hj1 : j + 1 < gs.size := (Array.getElem?_eq_some_iff.1 k1).1
            refine ⟨g₁, ?_, k2.env (env' (j + 1) (by omega) (by omega))⟩
            rw [Array.getElem?_push, if_neg (by simp; omega), Array.getElem?_setIfInBounds_ne (by omega), k1]
          · rw [List.getElem?_append_right hjl] at hj
            have hj0 : j = v.length := by
              rcases Nat.lt_or_ge (j - v.length) 1 with h | h
              · omega
              · rw [List.getElem?_eq_none (by simpa using h)] at hj; cases hj
            subst hj0
            simp at hj
            subst hj
            refine ⟨child, ?_, ?_⟩
            · rw [Array.getElem?_push, if_pos (by simp [hv])]
            · rw [show v.length + 1 = Φ.size σ by omega]; exact h3
      · right
        have hwk : ∀ o, woken P a { a with status := .blocked } (w.at d) o = o := fun o => by simp [woken]
        have hrun' := runT_crowd_go (P := P) (sl := sl') (i := 0) ha h1
        refine ⟨_, _, (Rk.s f, v, 0), hrun', ?_, _, _, sl', σ, { a with status := .blocked }, a, rfl, get_ms_same _ _ h0, by simp [hsz], by simp [hv], by rw [ofEvents_none, Array.append_empty]; exact hok', hC', .inr ⟨rfl, rfl, h2, h3⟩, fun j r hj => ?_⟩
        · rcases hb with ⟨rfl, _⟩ | ⟨_, e, _⟩
          · exact Prod.Lex.right _ (Prod.Lex.right _ (by decide))
          · rw [e] at hrun; cases hrun
        · obtain ⟨g₁, k1, k2⟩ := hW' j r hj
          exact ⟨g₁, by rw [get_ms _ _ (by omega), k1, Option.map_some, hwk], k2⟩
      · left
        obtain ⟨f1, f2, f3⟩ := Φ.fin hok' h2
        have hqs : ∀ j g, gs[j + 1]? = some g → ∃ q d, QuitsD P q d g ∧ Φ.quit σ (j + 1) d := fun j g hj => by
          obtain ⟨r, hr, hwa⟩ := hst j g hj
          have hjl : j + 1 < gs.size := (Array.getElem?_eq_some_iff.1 hj).1
          obtain ⟨⟨d', hd⟩, _⟩ := f3 (j + 1) (by omega) (by omega)
          rcases hwa with hl | ⟨q, dd, _, h, h'⟩
          · cases r with
            | z => exact hl.elim
            | s f => exact absurd hd (hl.2.1 d')
          · exact ⟨q, dd, h, h'⟩
        refine ⟨_, _, _, ConcN.runT_crowd_ended (i := 0) ha h1, v', rfl, h3, f1, f2, ⟨fun g hg => ?_, rfl⟩, fun i g hg hi0 => ?_⟩
        · obtain ⟨i, hi⟩ := List.mem_iff_getElem?.1 hg
          rw [List.getElem?_drop] at hi
          obtain ⟨q, dd, hq, _⟩ := hqs i g (by simpa [crowd, Nat.add_comm] using hi)
          exact ⟨q, hq.leaves⟩
        · obtain ⟨j, rfl⟩ : ∃ j, i = j + 1 := ⟨i - 1, by omega⟩
          have hg' : gs[j + 1]? = some g := hg
          have hjl : j + 1 < gs.size := (Array.getElem?_eq_some_iff.1 hg').1
          obtain ⟨q, dd, hq, hqu⟩ := hqs j g hg'
          refine ⟨q, ?_⟩
          have h5 : (t ++ MemOp.ofEvents 0 a.frame.fn a.frame.place es).deaf (j + 1) (t ++ MemOp.ofEvents 0 a.frame.fn a.frame.place es).size = dd := ((f3 (j + 1) (by omega) (by omega)).2).trans (Φ.deaf hok' hqu)
          rw [h5]
          exact hq.hears _
theorem lives_end {μ : Rk (Φ.S × World) × List (Rk (Φ.S × World)) × Nat} {m : Machine} {t : Trace} (h : MInv Φ Post μ m t) :
    ∃ N last o w t', runNT P (N + 1) m t = (.ended o w, t') ∧ runN P N m = .next last ∧ step P last = .ended o w ∧ Good P Post last o w t' :=
  run_of_inv lt3_wf (MInv Φ Post) (Good P Post) lives_step μ m t h
end
section
variable {P : Program} {Φ : Pro P} {Post : Value → World → Prop}
variable (Φ) in
def WLife (i : Nat) (σ : Φ.S) (g : Goroutine) (w : World) : Prop := ∃ r, WAt Φ i r σ g w
variable (Φ Post) in
def CLife (σ : Φ.S) (g : Goroutine) (w : World) : Prop := ∃ r, LifeC Φ Post r σ g w
theorem WLife.quits {i : Nat} {σ : Φ.S} {g : Goroutine} {w : World} {q d : Nat} (h : QuitsD P q d g) (hq : Φ.quit σ i d) : WLife Φ i σ g w := ⟨_, .inr ⟨q, d, rfl, h, hq⟩⟩
theorem WLife.mk {i : Nat} {σ : Φ.S} {g : Goroutine} {w : World} (hs : g.status = .running) (hq : ∀ d, ¬ Φ.quit σ i d)
    (h : ∀ σ₁ w₁, Φ.Env i (σ, w) (σ₁, w₁) → (∃ t, Φ.Ok σ₁ w₁ t) → ∃ g' w' ops wk σ', Moves P i g w₁ g' w' ops wk ∧ Φ.Act i (σ₁, w₁) (σ', w') ops ∧ (Φ.waits σ₁ → Φ.waits σ' ∨ ∀ o, wk o = o.again w') ∧ WLife Φ i σ' g' w') : WLife Φ i σ g w := by
  have key : ∀ x : Φ.S × World, ∃ r, Φ.Env i (σ, w) x → (∃ t, Φ.Ok x.1 x.2 t) → ∃ g' w' ops wk σ', Moves P i g x.2 g' w' ops wk ∧ Φ.Act i x (σ', w') ops ∧ (Φ.waits x.1 → Φ.waits σ' ∨ ∀ o, wk o = o.again w') ∧ WAt Φ i r σ' g' w' := fun x => by
    by_cases he : Φ.Env i (σ, w) x ∧ ∃ t, Φ.Ok x.1 x.2 t
    · obtain ⟨g', w', ops, wk, σ', h1, h2, h3, r, h4⟩ := h x.1 x.2 he.1 he.2
      exact ⟨r, fun _ _ => ⟨g', w', ops, wk, σ', h1, h2, h3, h4⟩⟩
    · exact ⟨.z, fun a b => absurd ⟨a, b⟩ he⟩
  exact ⟨.s fun x => (key x).choose, .inl ⟨hs, hq, fun σ₁ w₁ he ho => (key (σ₁, w₁)).choose_spec he ho⟩⟩
theorem CLife.mk {σ : Φ.S} {g : Goroutine} {w : World} (hs : g.status = .running)
    (h : ∀ σ₁ w₁, Φ.Env 0 (σ, w) (σ₁, w₁) → (∃ t, Φ.Ok σ₁ w₁ t) →
      (∃ g' w' ops wk σ', Moves P 0 g w₁ g' w' ops wk ∧ Φ.Act 0 (σ₁, w₁) (σ', w') ops ∧ CLife Φ Post σ' g' w') ∨
      (∃ g' child w' es σ', stepG P true g w₁ = .spawn g' child w' es ∧ Φ.Born (σ₁, w₁) (σ', w') ((MemOp.ofEvents 0 g.frame.fn g.frame.place es).push { g := 0, fn := g.frame.fn, pos := g.frame.place, act := .go (Φ.size σ₁) } |>.push { g := Φ.size σ₁, fn := child.frame.fn, pos := g.frame.place, act := .start }) ∧
        WLife Φ (Φ.size σ₁) σ' child w' ∧ CLife Φ Post σ' g' w') ∨
      (stepG P true g w₁ = .go { g with status := .blocked } w₁ #[] ∧ g.offers = none ∧ Φ.waits σ₁) ∨
      (∃ v es, stepG P true g w₁ = .ended (.done v) w₁ es ∧ Φ.Fin σ₁ w₁ (MemOp.ofEvents 0 g.frame.fn g.frame.place es) ∧ Post v w₁)) : CLife Φ Post σ g w := by
  have key : ∀ x : Φ.S × World, ∃ r, Φ.Env 0 (σ, w) x → (∃ t, Φ.Ok x.1 x.2 t) →
      (∃ g' w' ops wk σ', Moves P 0 g x.2 g' w' ops wk ∧ Φ.Act 0 x (σ', w') ops ∧ LifeC Φ Post r σ' g' w') ∨
      (∃ g' child w' es σ' rc, stepG P true g x.2 = .spawn g' child w' es ∧ Φ.Born x (σ', w') ((MemOp.ofEvents 0 g.frame.fn g.frame.place es).push { g := 0, fn := g.frame.fn, pos := g.frame.place, act := .go (Φ.size x.1) } |>.push { g := Φ.size x.1, fn := child.frame.fn, pos := g.frame.place, act := .start }) ∧
        WAt Φ (Φ.size x.1) rc σ' child w' ∧ LifeC Φ Post r σ' g' w') ∨
      (stepG P true g x.2 = .go { g with status := .blocked } x.2 #[] ∧ g.offers = none ∧ Φ.waits x.1) ∨
      (∃ v es, stepG P true g x.2 = .ended (.done v) x.2 es ∧ Φ.Fin x.1 x.2 (MemOp.ofEvents 0 g.frame.fn g.frame.place es) ∧ Post v x.2) := fun x => by
    by_cases he : Φ.Env 0 (σ, w) x ∧ ∃ t, Φ.Ok x.1 x.2 t
    · rcases h x.1 x.2 he.1 he.2 with ⟨g', w', ops, wk, σ', h1, h2, r, h3⟩ | ⟨g', child, w', es, σ', h1, h2, ⟨rc, h3⟩, r, h4⟩ | h1 | h1
      · exact ⟨r, fun _ _ => .inl ⟨g', w', ops, wk, σ', h1, h2, h3⟩⟩
      · exact ⟨r, fun _ _ => .inr (.inl ⟨g', child, w', es, σ', rc, h1, h2, h3, h4⟩)⟩
      · exact ⟨.z, fun _ _ => .inr (.inr (.inl h1))⟩
      · exact ⟨.z, fun _ _ => .inr (.inr (.inr h1))⟩
    · exact ⟨.z, fun a b => absurd ⟨a, b⟩ he⟩
  exact ⟨.s fun x => (key x).choose, hs, fun σ₁ w₁ he ho => (key (σ₁, w₁)).choose_spec he ho⟩
structure Idle (Φ : Pro P) (i : Nat) (Im : Nat → Prop) (own : Φ.S → Nat → Prop) (J : Φ.S → World → Prop) : Prop where
  env : ∀ {σ w σ₁ w₁}, J σ w → Φ.Env i (σ, w) (σ₁, w₁) → Rely Im (own σ) w w₁ ∧ own σ₁ = own σ ∧ J σ₁ w₁
  act : ∀ {σ w t w' es fn pos}, J σ w → Φ.Ok σ w t → Guar Im (own σ) w w' es → ∃ σ', Φ.Act i (σ, w) (σ', w') (MemOp.ofEvents i fn pos es) ∧ own σ' = grow (own σ) w w' ∧ J σ' w' ∧ (Φ.waits σ → Φ.waits σ')
theorem walkW {i : Nat} (hi : (i == 0) = false) {Im : Nat → Prop} {own : Φ.S → Nat → Prop} {J : Φ.S → World → Prop} (I : Idle Φ i Im own J) (hq : ∀ σ w, J σ w → ∀ d, ¬ Φ.quit σ i d) {Stop : (Nat → Prop) → Goroutine → World → Prop}
    (hstop : ∀ σ g w, J σ w → (∀ w₁, Rely Im (own σ) w w₁ → Stop (own σ) g w₁) → WLife Φ i σ g w) {O : Nat → Prop} {g : Goroutine} {w : World} (h : GoesO P false Im Stop O g w) : ∀ σ, own σ = O → J σ w → WLife Φ i σ g w := by
  induction h with
  | stop h => rintro σ rfl hJ; exact hstop σ _ _ hJ h
  | @step O g w hs h1 h2 ih =>
    rintro σ rfl hJ
    refine WLife.mk hs (hq σ w hJ) fun σ₁ w₁ he ⟨t, ho⟩ => ?_
    obtain ⟨hr, e, hJ1⟩ := I.env hJ he
    obtain ⟨g', w', es, hst, hg⟩ := h1 w₁ hr
    rw [← e] at hg
    obtain ⟨σ', ha, e', hJ', hw⟩ := I.act (fn := g.frame.fn) (pos := g.frame.place) hJ1 ho hg
    exact ⟨g', w', _, _, σ', Moves.go (by rw [hi]; exact hst), ha, fun h => .inl (hw h), ih w₁ hr g' w' es hst σ' (by rw [e', e]) hJ'⟩
theorem walkC {Im : Nat → Prop} {own : Φ.S → Nat → Prop} {J : Φ.S → World → Prop} (I : Idle Φ 0 Im own J) {Stop : (Nat → Prop) → Goroutine → World → Prop}
    (hstop : ∀ σ g w, J σ w → (∀ w₁, Rely Im (own σ) w w₁ → Stop (own σ) g w₁) → CLife Φ Post σ g w) {O : Nat → Prop} {g : Goroutine} {w : World} (h : GoesO P true Im Stop O g w) : ∀ σ, own σ = O → J σ w → CLife Φ Post σ g w := by
  induction h with
  | stop h => rintro σ rfl hJ; exact hstop σ _ _ hJ h
  | @step O g w hs h1 h2 ih =>
    rintro σ rfl hJ
    refine CLife.mk hs fun σ₁ w₁ he ⟨t, ho⟩ => .inl ?_
    obtain ⟨hr, e, hJ1⟩ := I.env hJ he
    obtain ⟨g', w', es, hst, hg⟩ := h1 w₁ hr
    rw [← e] at hg
    obtain ⟨σ', ha, e', hJ', hw⟩ := I.act (fn := g.frame.fn) (pos := g.frame.place) hJ1 ho hg
    exact ⟨g', w', _, _, σ', Moves.go hst, ha, ih w₁ hr g' w' es hst σ' (by rw [e', e]) hJ'⟩
end
end Go.Proofs.Ytkfmphlnpmemdaa.Sx
