import Derived.Conc.CrowdTrace
import Derived.Test.YtkfmphlnpmemdaaQMaA
set_option linter.unusedVariables false
set_option linter.unusedSimpArgs false
namespace Go.Proofs.Ytkfmphlnpmemdaa.Sx
open Go Go.Conc Go.ConcN
structure Deal where
  Sh : Loc → Prop
  Own : Nat → Loc → Prop
  Ro : Nat → Loc → Prop
  Giv : Loc → Nat → Prop
structure Deal.Fair (D : Deal) : Prop where
  own : ∀ {g g' l}, D.Own g l → D.Own g' l → g = g'
  ownRo : ∀ {g g' l}, D.Own g l → ¬ D.Ro g' l
  ownSh : ∀ {g l}, D.Own g l → ¬ D.Sh l
  roSh : ∀ {g l}, D.Ro g l → ¬ D.Sh l
  givOwn : ∀ {g l p}, D.Giv l p → ¬ D.Own g l
  givRo : ∀ {g l p}, D.Giv l p → ¬ D.Ro g l
  givSh : ∀ {l p}, D.Giv l p → ¬ D.Sh l
structure TR (D : Deal) (n : Nat) (t : Trace) : Prop where
  quiet : Quiet D.Sh t
  own : ∀ {g l}, D.Own g l → Perm t g l
  ro : ∀ {g l}, D.Ro g l → PermW t g l
  giv : ∀ {l p}, D.Giv l p → PermAt t l p
  nr : ∀ said, ¬ Race said t
  gs : ∀ (i : Nat) (op : MemOp), t[i]? = some op → op.g < n
def May (D : Deal) (g : Nat) (op : MemOp) : Prop :=
  op.g = g ∧ ∀ x, op.act.touch? = some x → (D.Sh x.loc ∧ x.kind ≠ .plain ∧ (x.kind = .said → g = 0)) ∨ D.Own g x.loc ∨ (D.Ro g x.loc ∧ x.write = false)
section
variable {D D' : Deal} {n : Nat} {t u : Trace}
theorem TR.app (F : D.Fair) (h : TR D n t) {g : Nat} (hg : g < n) (hu : ∀ op ∈ u, May D g op) : TR D n (t ++ u) := by
  refine ⟨h.quiet.app fun op hop x hx hs => ?_, fun {k l} hl => (h.own hl).app fun op hop b hb e => ?_, fun {k l} hl => (h.ro hl).app fun op hop b hb e hw => ?_, fun {l p} hl => (h.giv hl).app fun op hop b hb e => ?_, fun said => ?_, fun i op hi => ?_⟩
  · rcases (hu op hop).2 x hx with ⟨_, hk, hn⟩ | ho | ⟨hr, _⟩
    · exact ⟨hk, fun e => (hu op hop).1.trans (hn e)⟩
    · exact absurd hs (F.ownSh ho)
    · exact absurd hs (F.roSh hr)
  · rcases (hu op hop).2 b hb with ⟨hs, _⟩ | ho | ⟨hr, _⟩
    · exact absurd (e ▸ hs) (F.ownSh hl)
    · rw [(hu op hop).1]; exact F.own (e ▸ ho) hl
    · exact absurd (e ▸ hr) (F.ownRo hl)
  · rcases (hu op hop).2 b hb with ⟨hs, _⟩ | ho | ⟨_, hr⟩
    · exact absurd (e ▸ hs) (F.roSh hl)
    · exact absurd hl (F.ownRo (e ▸ ho))
    · rw [hr] at hw; cases hw
  · rcases (hu op hop).2 b hb with ⟨hs, _⟩ | ho | ⟨hr, _⟩
    · exact F.givSh hl (e ▸ hs)
    · exact F.givOwn hl (e ▸ ho)
    · exact F.givRo hl (e ▸ hr)
  · refine noRace_append (h.nr said) (fun op hop => (hu op hop).1) (fun i a ha op hop b hb hc => ?_)
    rcases (hu op hop).2 b hb with ⟨hs, hk, hn⟩ | ho | ⟨hr, hbw⟩
    · exact h.quiet.known hs hk (fun e => hn e) i a ha hc
    · exact h.own ho i a ha hc.1
    · exact h.ro hr i a ha hc.1 (hc.2.2.1.resolve_right (by simp [hbw]))
  · rcases getElem?_append_cases hi with ⟨_, hi'⟩ | ⟨_, hiu⟩
    · exact h.gs i op hi'
    · rw [(hu op hiu).1]; exact hg
def Fresh (t : Trace) (l : Loc) : Prop := ∀ i a, touchAt t i = some a → a.loc ≠ l
theorem Fresh.perm {l : Loc} (h : Fresh t l) (g : Nat) : Perm t g l := fun i a ha e => absurd e (h i a ha)
theorem TR.deal (h : TR D n t) (hs : ∀ l, D'.Sh l → D.Sh l ∨ Fresh t l) (ho : ∀ g l, D'.Own g l → Perm t g l) (hr : ∀ g l, D'.Ro g l → PermW t g l) (hg : ∀ l p, D'.Giv l p → PermAt t l p) {n' : Nat} (hn : n ≤ n') : TR D' n' t :=
  ⟨fun i op x hi hx hsh => (hs _ hsh).elim (fun h' => h.quiet i op x hi hx h') (fun h' => absurd rfl (h' i x (by rw [touchAt_of hi]; exact hx))), fun {g l} => ho g l, fun {g l} => hr g l, fun {l p} => hg l p, h.nr, fun i op hi => Nat.lt_of_lt_of_le (h.gs i op hi) hn⟩
theorem TR.fork (F : D.Fair) (h : TR D n t) (hn : 0 < n) {x y : MemOp} (hx : x.g = 0 ∧ x.act = .go n) (hy : y.g = n ∧ y.act = .start) (h0 : Deaf t 0 = 0) : TR D (n + 1) (t ++ #[x, y]) ∧ ∀ i, Knows t 0 i → Knows (t ++ #[x, y]) n i := by
  have hk : Deaf t n = 0 := Deaf_absent fun i op hi e => by have := h.gs i op hi; omega
  have e : t ++ #[x, y] = (t ++ #[x]) ++ #[y] := by apply Array.ext'; simp
  have h1 : TR D (n + 1) (t ++ #[x]) := (h.app F hn (g := 0) fun op hop => by
    simp at hop
    subst hop
    exact ⟨hx.1, fun b hb => by rw [hx.2] at hb; cases hb⟩).deal (fun l hs => .inl hs) (fun g l ho => ?_) (fun g l ho => ?_) (fun l p ho => ?_) (Nat.le_succ n)
  · refine ⟨?_, fun i hi => fork_knows hx hy h0 hk hi⟩
    rw [e]
    exact h1.app F (g := n) (by omega) fun op hop => by
      simp at hop
      subst hop
      exact ⟨hy.1, fun b hb => by rw [hy.2] at hb; cases hb⟩
  all_goals
    have h2 : TR D n (t ++ #[x]) := h.app F hn (g := 0) fun op hop => by
      simp at hop
      subst hop
      exact ⟨hx.1, fun b hb => by rw [hx.2] at hb; cases hb⟩
    first | exact h2.own ho | exact h2.ro ho | exact h2.giv ho
theorem perm_knows {g g' : Nat} {l : Loc} (h : Perm t g l) (hk : ∀ i, Knows t g i → Knows (t ++ u) g' i) (hu : ∀ op ∈ u, op.act.touch? = none) : Perm (t ++ u) g' l := fun i a ha e => by
  obtain ⟨x, hx, hxa⟩ := touch_of ha
  rcases getElem?_append_cases hx with ⟨hi, hx'⟩ | ⟨_, hxu⟩
  · exact hk i (h i a (by rw [touchAt_of hx']; exact hxa) e)
  · rw [hu x hxu] at hxa; cases hxa
theorem permW_knows {g g' : Nat} {l : Loc} (h : PermW t g l) (hk : ∀ i, Knows t g i → Knows (t ++ u) g' i) (hu : ∀ op ∈ u, op.act.touch? = none) : PermW (t ++ u) g' l := fun i a ha e hw => by
  obtain ⟨x, hx, hxa⟩ := touch_of ha
  rcases getElem?_append_cases hx with ⟨hi, hx'⟩ | ⟨_, hxu⟩
  · exact hk i (h i a (by rw [touchAt_of hx']; exact hxa) e hw)
  · rw [hu x hxu] at hxa; cases hxa
theorem acq_knows {a : Addr} {y : MemOp} {r : Nat} (hr : t.act? r = some (.mark (.releaseMerge a))) (hh : t.heard r) (hn : NoRelease a t) (hy : y.act = .mark (.acquire a)) (hd : Deaf t y.g = 0) : Knows (t ++ #[y]) y.g r := by
  have hlt := lt_of_act? hr
  have hyp : (t ++ #[y])[t.size]? = some y := by rw [Array.getElem?_append_right (Nat.le_refl _)]; simp
  have hq : (t ++ #[y]).act? t.size = some (.mark (.acquire a)) := by rw [act?_of hyp, hy]
  have hb : (t ++ #[y]).heard t.size := ⟨y.g, by simp [Trace.g?, hyp], by rw [deaf_old (Nat.le_refl _)]; exact hd⟩
  have hn' : ∀ k, (t ++ #[y]).act? k ≠ some (.mark (.release a)) := fun k e => by
    obtain ⟨op, ho, hoa⟩ := Option.map_eq_some_iff.1 e
    rcases getElem?_append_cases ho with ⟨_, ho'⟩ | ⟨_, hou⟩
    · exact hn k (by rw [act?_of ho', hoa])
    · simp at hou
      subst hou
      rw [hy] at hoa; cases hoa
  exact ⟨t.size, y, hyp, rfl, .inr (.single (.inr ⟨.marked hlt (.inr (by rw [act?_old hlt]; exact hr)) hq (fun k _ _ => hn' k), (heard_old hlt).2 hh, hb⟩))⟩
end
end Go.Proofs.Ytkfmphlnpmemdaa.Sx
