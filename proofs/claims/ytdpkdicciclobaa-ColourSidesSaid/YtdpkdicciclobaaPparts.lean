/- Parts and Sides of package walk: what they answer. -/
import Derived.Test.YtdpkdicciclobaaPwalk
namespace Go.Proofs.Ytdpkdicciclobaa
open Go Go.Proofs.Ytdpkdicciclobaa.Sx
set_option linter.unusedVariables false
set_option linter.unusedSimpArgs false

theorem count_loop {f : Nat → List Int → Option (List Int)} (hf : ∀ k l, f k l = ck (k < l.length) (some (l.set k (k : Int)))) {n : Nat} :
    forN f n 0 (List.replicate n 0) = some (nodes (fun i => i) (n : Int)) := by
  obtain ⟨l, h1, h2, h3⟩ := forN_inv (f := f) (fun j l => l.length = n ∧ ∀ i, i < j → l.getD i 0 = (i : Int)) (n := n) (k := 0) (s := List.replicate n 0) ⟨by simp, fun i h => absurd h (by omega)⟩ fun j l _ hj ⟨e1, e2⟩ => by
    refine ⟨l.set j (j : Int), by rw [hf, ck_some (by omega)], by simpa using e1, fun i hi => ?_⟩
    rw [getD_set']
    by_cases h : i = j
    · rw [if_pos ⟨h, by omega⟩, h]
    · rw [if_neg (fun x => h x.1)]; exact e2 i (by omega)
  rw [h1]
  refine congrArg some (eq_of_getD (d := 0) (by rw [nodes_len]; omega) fun i hi => ?_)
  rw [h3 i (by omega), nodes_getD _ (by omega)]
/-- The labels on their way. -/
structure PI (g : Graph) (l : List Int) : Prop where
  len : l.length = g.n.toNat
  lo : ∀ x, 0 ≤ x → x < g.n → 0 ≤ atI l x ∧ atI l x ≤ x
  joined : ∀ m : Int → Int, (∀ a, a ∈ g.as → m a.f = m a.t) → ∀ x, 0 ≤ x → x < g.n → m (atI l x) = m x
/-- One arc: both ends get the least of both. -/
def joinA (l : List Int) (a : Arc) : List Int := (l.set a.f.toNat (min (atI l a.f) (atI l a.t))).set a.t.toNat (min (atI l a.f) (atI l a.t))
theorem joinA_at {g : Graph} {l : List Int} {a : Arc} (hl : l.length = g.n.toNat) (ha : Good g.n (-10000) a) {x : Int} (hx : 0 ≤ x) : atI (joinA l a) x = if x = a.f ∨ x = a.t then min (atI l a.f) (atI l a.t) else atI l x := by
  unfold joinA
  have := ha.f0; have := ha.f1; have := ha.t0; have := ha.t1
  rw [atI_set ha.t0 (by simp; omega) hx, atI_set ha.f0 (by omega) hx]
  by_cases h1 : x = a.t
  · rw [if_pos h1, if_pos (.inr h1)]
  · rw [if_neg h1]
    by_cases h2 : x = a.f
    · rw [if_pos h2, if_pos (.inl h2)]
    · rw [if_neg h2, if_neg (fun h => h.elim h2 h1)]
theorem PI.step {g : Graph} {l : List Int} {a : Arc} (h : PI g l) (ha : Good g.n (-10000) a) (hm : a ∈ g.as) : PI g (joinA l a) := by
  have b1 := h.lo a.f ha.f0 ha.f1
  have b2 := h.lo a.t ha.t0 ha.t1
  refine ⟨by simp [joinA, h.len], fun x hx hx2 => ?_, fun m hmm x hx hx2 => ?_⟩
  · rw [joinA_at h.len ha hx]
    by_cases e : x = a.f ∨ x = a.t
    · rw [if_pos e]; rcases e with e | e <;> subst e <;> omega
    · rw [if_neg e]; exact h.lo x hx hx2
  · rw [joinA_at h.len ha hx]
    by_cases e : x = a.f ∨ x = a.t
    · rw [if_pos e]
      have e1 := h.joined m hmm a.f ha.f0 ha.f1
      have e2 := h.joined m hmm a.t ha.t0 ha.t1
      have e3 := hmm a hm
      have : min (atI l a.f) (atI l a.t) = atI l a.f ∨ min (atI l a.f) (atI l a.t) = atI l a.t := by omega
      rcases e with e | e <;> subst e <;> rcases this with t | t <;> rw [t] <;> omega
    · rw [if_neg e]; exact h.joined m hmm x hx hx2
def joinAll (bs : List Arc) (l : List Int) : List Int := bs.foldl joinA l
theorem parts_round {g : Graph} (hg : Ok g) {l : List Int} (hl : l.length = g.n.toNat) : forN (walk_Parts_B3 g) g.as.length 0 l = some (joinAll g.as l) ∧ (joinAll g.as l).length = g.n.toNat := by
  refine forN_list (f := walk_Parts_B3 g) g.as El.d joinA (fun _ l => l.length = g.n.toNat) hl fun j s hj hs => ?_
  have ha := hg.arc _ (mem_getD (d := El.d) hj)
  have := ha.f0; have := ha.f1; have := ha.t0; have := ha.t1
  unfold walk_Parts_B3
  rw [ck_some ⟨ha.f0, by omega⟩, ck_some ⟨ha.t0, by omega⟩]
  exact ⟨rfl, by simp [joinA, hs]⟩
theorem joinAll_PI {g : Graph} : ∀ {bs : List Arc} {l : List Int}, (∀ a, a ∈ bs → a ∈ g.as ∧ Good g.n (-10000) a) → PI g l → PI g (joinAll bs l)
  | [], _, _, h => h
  | a :: bs, l, hs, h => joinAll_PI (bs := bs) (fun b hb => hs b (by simp [hb])) (h.step (hs a (by simp)).2 (hs a (by simp)).1)
/-- which nodes have a label of at most m: told by which had one -/
theorem joinA_below {g : Graph} {l : List Int} {a : Arc} (hl : l.length = g.n.toNat) (ha : Good g.n (-10000) a) (m x : Int) (hx : 0 ≤ x) : atI (joinA l a) x ≤ m ↔ atI l x ≤ m ∨ ((x = a.f ∨ x = a.t) ∧ (atI l a.f ≤ m ∨ atI l a.t ≤ m)) := by
  rw [joinA_at hl ha hx]
  by_cases e : x = a.f ∨ x = a.t
  · rw [if_pos e]
    rcases e with e | e <;> subst e <;> constructor <;> intro h <;> omega
  · rw [if_neg e]; simp [e]
theorem joinAll_congr {g : Graph} {m : Int} : ∀ {bs : List Arc} {l l' : List Int}, (∀ a, a ∈ bs → Good g.n (-10000) a) → l.length = g.n.toNat → l'.length = g.n.toNat → (∀ x, 0 ≤ x → x < g.n → (atI l x ≤ m ↔ atI l' x ≤ m)) →
    ∀ x, 0 ≤ x → x < g.n → (atI (joinAll bs l) x ≤ m ↔ atI (joinAll bs l') x ≤ m)
  | [], _, _, _, _, _, h => h
  | a :: bs, l, l', hs, h1, h2, h => by
    have ha := hs a (by simp)
    refine joinAll_congr (bs := bs) (l := joinA l a) (l' := joinA l' a) (fun b hb => hs b (by simp [hb])) (by simp [joinA, h1]) (by simp [joinA, h2]) fun x hx hx2 => ?_
    rw [joinA_below h1 ha m x hx, joinA_below h2 ha m x hx, h x hx hx2, h a.f ha.f0 ha.f1, h a.t ha.t0 ha.t1]
theorem joinAll_mono {g : Graph} : ∀ {bs : List Arc} {l : List Int}, (∀ a, a ∈ bs → Good g.n (-10000) a) → l.length = g.n.toNat → ∀ m x, 0 ≤ x → atI l x ≤ m → atI (joinAll bs l) x ≤ m
  | [], _, _, _, _, _, _, h => h
  | a :: bs, l, hs, h1, m, x, hx, h => by
    have ha := hs a (by simp)
    exact joinAll_mono (bs := bs) (l := joinA l a) (fun b hb => hs b (by simp [hb])) (by simp [joinA, h1]) m x hx ((joinA_below h1 ha m x hx).2 (.inl h))
theorem joinAll_arc {g : Graph} : ∀ {bs : List Arc} {l : List Int}, (∀ a, a ∈ bs → Good g.n (-10000) a) → l.length = g.n.toNat → ∀ m a, a ∈ bs → (atI l a.f ≤ m ∨ atI l a.t ≤ m) → atI (joinAll bs l) a.f ≤ m ∧ atI (joinAll bs l) a.t ≤ m
  | a :: bs, l, hs, h1, m, b, hb, h => by
    have ha := hs a (by simp)
    have hr : ∀ c, c ∈ bs → Good g.n (-10000) c := fun c hc => hs c (by simp [hc])
    have hl : (joinA l a).length = g.n.toNat := by simp [joinA, h1]
    have hbb := hs b hb
    rcases List.mem_cons.1 hb with e | e
    · subst e
      exact ⟨joinAll_mono hr hl m b.f hbb.f0 ((joinA_below h1 ha m _ hbb.f0).2 (.inr ⟨.inl rfl, h⟩)), joinAll_mono hr hl m b.t hbb.t0 ((joinA_below h1 ha m _ hbb.t0).2 (.inr ⟨.inr rfl, h⟩))⟩
    · refine joinAll_arc (bs := bs) hr hl m b e (h.imp (fun h => ?_) fun h => ?_)
      · exact (joinA_below h1 ha m _ hbb.f0).2 (.inl h)
      · exact (joinA_below h1 ha m _ hbb.t0).2 (.inl h)
def rounds (bs : List Arc) : Nat → List Int → List Int
  | 0, l => l
  | r + 1, l => joinAll bs (rounds bs r l)
/-- What Parts answers. -/
structure Parted (g : Graph) (l : List Int) : Prop where
  pi : PI g l
  arc : ∀ a, a ∈ g.as → atI l a.f = atI l a.t
theorem nodes_at {n : Int} : ∀ x, 0 ≤ x → x < n → atI (nodes (fun i => i) n) x = x := fun x hx hx2 => by
  unfold atI; rw [nodes_getD _ (by omega)]; omega
theorem rounds_PI {g : Graph} (hg : Ok g) (r : Nat) : PI g (rounds g.as r (nodes (fun i => i) g.n)) := by
  have hat := nodes_at (n := g.n)
  have p0 : PI g (nodes (fun i => i) g.n) := ⟨nodes_len _ _, fun x hx hx2 => by rw [hat x hx hx2]; omega, fun m _ x hx hx2 => by rw [hat x hx hx2]⟩
  have hall : ∀ a, a ∈ g.as → a ∈ g.as ∧ Good g.n (-10000) a := fun a ha => ⟨ha, hg.arc a ha⟩
  induction r with
  | zero => exact p0
  | succ r ih => exact joinAll_PI hall ih
theorem rounds_len {g : Graph} (hg : Ok g) (r : Nat) : (rounds g.as r (nodes (fun i => i) g.n)).length = g.n.toNat := (rounds_PI hg r).len
theorem rounds_parted {g : Graph} (hg : Ok g) : Parted g (rounds g.as g.n.toNat (nodes (fun i => i) g.n)) := by
  have hn0 := hg.n0; have hn1 := hg.n1
  have hat := nodes_at (n := g.n)
  have hR := rounds_PI hg
  refine ⟨hR _, fun a ha => ?_⟩
  have hga := hg.arc a ha
  -- for each number m the nodes with a label of at most m have come to rest
  have rest : ∀ m, (atI (rounds g.as g.n.toNat (nodes (fun i => i) g.n)) a.f ≤ m ∨ atI (rounds g.as g.n.toNat (nodes (fun i => i) g.n)) a.t ≤ m) → atI (rounds g.as g.n.toNat (nodes (fun i => i) g.n)) a.f ≤ m ∧ atI (rounds g.as g.n.toNat (nodes (fun i => i) g.n)) a.t ≤ m := by
    intro m hm
    by_cases hm0 : m < 0
    · exfalso
      have b1 := (hR g.n.toNat).lo a.f hga.f0 hga.f1
      have b2 := (hR g.n.toNat).lo a.t hga.t0 hga.t1
      omega
    · have st := rounds_rest (n := g.n.toNat) (fun r x => decide (atI (rounds g.as r (nodes (fun i => i) g.n)) (x : Int) ≤ m)) (fun r x hx h => by
          simp only [decide_eq_true_eq] at h ⊢
          exact joinAll_mono hg.arc (hR r).len m x (by omega) h) (fun r r' h x hx => by
          have h' : ∀ y : Int, 0 ≤ y → y < g.n → (atI (rounds g.as r (nodes (fun i => i) g.n)) y ≤ m ↔ atI (rounds g.as r' (nodes (fun i => i) g.n)) y ≤ m) := fun y hy hy2 => by
            have := h y.toNat (by omega)
            rw [show ((y.toNat : Nat) : Int) = y by omega] at this
            simpa using this
          have := joinAll_congr (m := m) hg.arc (hR r).len (hR r').len h' (x : Int) (by omega) (by omega)
          simp only [decide_eq_decide]
          exact this) ⟨0, by omega, by
          simp only [decide_eq_true_eq]
          have := hat 0 (by omega) (by omega)
          show atI (nodes (fun i => i) g.n) ((0 : Nat) : Int) ≤ m
          rw [show ((0 : Nat) : Int) = 0 from rfl, this]; omega⟩
      have := joinAll_arc hg.arc (hR g.n.toNat).len m a ha hm
      have s1 := st a.f.toNat (by have := hga.f0; have := hga.f1; omega)
      have s2 := st a.t.toNat (by have := hga.t0; have := hga.t1; omega)
      rw [show ((a.f.toNat : Nat) : Int) = a.f by have := hga.f0; omega] at s1
      rw [show ((a.t.toNat : Nat) : Int) = a.t by have := hga.t0; omega] at s2
      simp only [decide_eq_decide] at s1 s2
      exact ⟨s1.1 this.1, s2.1 this.2⟩
  have r1 := rest _ (.inl (Int.le_refl _))
  have r2 := rest _ (.inr (Int.le_refl _))
  omega
theorem parts_ok {g : Graph} (hg : Ok g) : ∃ l, walk_Parts_F g = some (l, 0) ∧ Parted g l := by
  unfold walk_Parts_F
  have hn0 := hg.n0; have hn1 := hg.n1
  rw [checkLong_ok hg, bind_some', if_neg (by simp), ck_some ⟨by omega, by omega⟩, count_loop (f := walk_Parts_B1) (fun k l => rfl), bind_some', ck_some (inI_small (by omega) (by omega))]
  have e0 : nodes (fun i => i) ((g.n.toNat : Nat) : Int) = nodes (fun i => i) g.n := by rw [show ((g.n.toNat : Nat) : Int) = g.n by omega]
  rw [e0]
  have hloop : ∀ n k, forN (walk_Parts_B2 g) n k (rounds g.as k (nodes (fun i => i) g.n)) = some (rounds g.as (k + n) (nodes (fun i => i) g.n)) := by
    intro n
    induction n with
    | zero => intro k; rfl
    | succ n ih =>
      intro k
      rw [forN]
      unfold walk_Parts_B2
      rw [(parts_round hg (rounds_len hg k)).1]
      show (some _).bind (forN (walk_Parts_B2 g) n (k + 1)) = _
      rw [bind_some', show k + (n + 1) = k + 1 + n by omega]
      exact ih (k + 1)
  have := hloop g.n.toNat 0
  simp only [Nat.zero_add] at this
  have e1 : forN (walk_Parts_B2 g) g.n.toNat 0 (nodes (fun i => i) g.n) = some (rounds g.as g.n.toNat (nodes (fun i => i) g.n)) := this
  rw [e1]
  exact ⟨_, rfl, rounds_parted hg⟩
theorem parts_bad {g : Graph} (h : checkF g (-10000) ≠ 0) : walk_Parts_F g = some ([], checkF g (-10000)) := by
  unfold walk_Parts_F; rw [checkLong_eq, bind_some', if_pos h]
/-- There is but one answer. -/
theorem Parted.le {g g' : Graph} {l l' : List Int} (h : Parted g l) (h' : Parted g' l') (hn : g.n = g'.n) (hs : ∀ a, a ∈ g.as → atI l' a.f = atI l' a.t) {x : Int} (hx : 0 ≤ x) (hx2 : x < g.n) : atI l' x ≤ atI l x := by
  have e := h.pi.joined (atI l') hs x hx hx2
  have b := h.pi.lo x hx hx2
  have b' := h'.pi.lo (atI l x) b.1 (by omega)
  omega
end Go.Proofs.Ytdpkdicciclobaa
