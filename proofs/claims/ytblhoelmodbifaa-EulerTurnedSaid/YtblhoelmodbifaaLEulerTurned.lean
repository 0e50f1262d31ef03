/- EulerTurned: the law's function answers true. -/
import Derived.Test.YtblhoelmodbifaaPtrail3
import Derived.Test.YtblhoelmodbifaaKEulerTurned
namespace Go.Proofs.Ytblhoelmodbifaa
open Go Go.Proofs.Ytblhoelmodbifaa.Sx
set_option linter.unusedVariables false
set_option linter.unusedSimpArgs false
theorem roundsT_eq : weirkeep_rounds_F = some true := by kernel_rfl
theorem canT_some (g : Graph) : ∃ a b, euler_Can_F g = some (a, b) := by
  by_cases hc : checkF g (-10000) = 0
  · obtain ⟨p, _, _, e⟩ := can_ok ((checkF_ok g _).1 hc)
    exact ⟨_, _, e⟩
  · exact ⟨_, _, can_bad hc⟩
theorem trailT_some (g : Graph) : ∃ l e, euler_Trail_F g = some (l, e) := by
  by_cases h : ∃ p, Ok g ∧ euler_Can_F g = some (kindOf g p, 0) ∧ kindOf g p ≠ 0
  · obtain ⟨p, hg, hcan, hk⟩ := h
    obtain ⟨l, _, _, e, _⟩ := trail_ok hg hcan hk
    exact ⟨_, _, e⟩
  · obtain ⟨e, _, h⟩ := trail_none h
    exact ⟨_, _, h⟩
/-! ### a trail takes all arcs -/
theorem trail_all {g : Graph} (hg : Ok g) {p : List Int} (hP : Parted g p) (hC : Conn g.as p) {kind : Int} {l : List Int} {st e0 : Int} (hT : TrailR g kind l st e0) : l.length = g.as.length := by
  obtain ⟨used, hun, hbal, hst, hfull, hmem⟩ := hT.fin
  -- each node of the trail has no arc that is not used
  have hout : ∀ x, (x = st ∨ ∃ i, i < l.length ∧ x = tT g (l.getD i 0).toNat) → ∀ j, j < g.as.length → (fF g j = x ∨ tT g j = x) → used.getD j false = true := fun x hx => by
    have ho : ∀ j, j < g.as.length → fF g j = x → used.getD j false = true := fun j hj hf => by
      rcases hx with e | ⟨i, hi, e⟩
      · exact hst j hj (hf.trans e)
      · exact hfull i hi j hj (hf.trans e)
    have hz : ui g used x = 0 := by rw [← hbal x]; exact uo_zero ho
    intro j hj hc
    rcases hc with hf | ht
    · exact ho j hj hf
    · refine Classical.byContradiction fun hu => ?_
      have hle := tot_le (f := fun k => if k = j then (1 : Int) else 0) (g := fun k => if used.getD k false = false ∧ tT g k = x then 1 else 0) (n := g.as.length) fun k hk => by
        by_cases e : k = j
        · rw [if_pos e, e, if_pos ⟨by simpa using hu, ht⟩]; omega
        · rw [if_neg e]; split <;> omega
      rw [tot_single (k := j) hj (fun i _ hi => if_neg hi), if_pos rfl] at hle
      have : ui g used x = tot (fun k => if used.getD k false = false ∧ tT g k = x then 1 else 0) g.as.length := rfl
      omega
  have all : ∀ j, j < g.as.length → used.getD j false = true := by
    by_cases hl : l.length = 0
    · intro j hj
      exfalso
      -- the start has an arc, and it is used
      have ha := hg.arc _ (mem_getD (d := El.d) hj)
      have hpos : ∀ j, j < g.as.length → 0 < outs g.as (fF g j) := fun j hj => by
        have := uo_start g (fF g j)
        have hle := tot_le (f := fun k => if k = j then (1 : Int) else 0) (g := fun k => if (List.replicate g.as.length false).getD k false = false ∧ fF g k = fF g j then 1 else 0) (n := g.as.length) fun k hk => by
          by_cases e : k = j
          · rw [if_pos e, e, if_pos ⟨by rw [getD_replicate', if_pos hj], rfl⟩]; omega
          · rw [if_neg e]; split <;> omega
        rw [tot_single (k := j) hj (fun i _ hi => if_neg hi), if_pos rfl] at hle
        unfold uo at this
        omega
      have h1 := hT.start.2 ⟨fF g j, ha.f0, ha.f1, hpos j hj⟩
      have h2 := uo_start g st
      -- some arc leaves the start
      have : ∃ i, i < g.as.length ∧ fF g i = st := Classical.byContradiction fun hno => by
        have : uo g (List.replicate g.as.length false) st = 0 := tot_zero fun k hk => if_neg fun z => hno ⟨k, hk, z.2⟩
        omega
      obtain ⟨i, hi, ei⟩ := this
      obtain ⟨i', hi', _⟩ := hmem i hi (hst i hi ei)
      omega
    · -- on the trail, or not, is alike at both ends of each arc
      have inV : ∀ i, i < l.length → (fF g (l.getD i 0).toNat = st ∨ ∃ i', i' < l.length ∧ fF g (l.getD i 0).toNat = tT g (l.getD i' 0).toNat) := fun i hi => by
        by_cases e : i = 0
        · rw [e]; exact .inl (hT.first (by omega))
        · refine .inr ⟨i - 1, by omega, ?_⟩
          have := hT.ch (i - 1) (by omega)
          rw [show i - 1 + 1 = i by omega] at this
          exact this.symm
      let V : Int → Prop := fun x => x = st ∨ ∃ i, i < l.length ∧ x = tT g (l.getD i 0).toNat
      have vEnds : ∀ j, j < g.as.length → (V (fF g j) ↔ V (tT g j)) ∧ (V (fF g j) → used.getD j false = true) := fun j hj => by
        have hu1 : V (fF g j) → used.getD j false = true := fun hv => hout _ hv j hj (.inl rfl)
        have hu2 : V (tT g j) → used.getD j false = true := fun hv => hout _ hv j hj (.inr rfl)
        have both : used.getD j false = true → V (fF g j) ∧ V (tT g j) := fun hu => by
          obtain ⟨i, hi, ei⟩ := hmem j hj hu
          have ej : (l.getD i 0).toNat = j := by omega
          have := inV i hi
          rw [ej] at this
          exact ⟨this, .inr ⟨i, hi, by rw [ej]⟩⟩
        exact ⟨⟨fun h => (both (hu1 h)).2, fun h => (both (hu2 h)).1⟩, hu1⟩
      have key : ∃ m : Int → Int, (∀ x, m x = 1 ↔ V x) ∧ ∀ x, m x = 0 ∨ m x = 1 := by
        classical
        exact ⟨fun x => if V x then 1 else 0, fun x => by by_cases c : V x <;> simp [c], fun x => by by_cases c : V x <;> simp [c]⟩
      obtain ⟨m, hm, hm01⟩ := key
      have hconst : ∀ a, a ∈ g.as → m a.f = m a.t := fun a ha => by
        obtain ⟨j, hj, rfl⟩ := getD_of_mem (d := El.d) ha
        have h1 := (vEnds j hj).1
        have a1 := hm (fF g j)
        have a2 := hm (tT g j)
        have b1 := hm01 (fF g j)
        have b2 := hm01 (tT g j)
        show m (fF g j) = m (tT g j)
        by_cases c : V (fF g j)
        · rw [a1.2 c, a2.2 (h1.1 c)]
        · have c2 : ¬ V (tT g j) := fun z => c (h1.2 z)
          have d1 : m (fF g j) ≠ 1 := fun z => c (a1.1 z)
          have d2 : m (tT g j) ≠ 1 := fun z => c2 (a2.1 z)
          omega
      have same : ∀ j, j < g.as.length → m (fF g j) = m (fF g 0) := fun j hj => by
        have hA := hg.arc _ (mem_getD (d := El.d) hj)
        have h0 := hg.arc _ (mem_getD (d := El.d) (show 0 < g.as.length by omega))
        have j1 := hP.pi.joined m hconst _ hA.f0 hA.f1
        have j2 := hP.pi.joined m hconst _ h0.f0 h0.f1
        have hc := hC _ (mem_getD (d := El.d) hj)
        rw [hc, j2] at j1
        exact j1.symm
      have hr := hT.rg 0 (by omega)
      have h1 : m (fF g (l.getD 0 0).toNat) = 1 := (hm _).2 (inV 0 (by omega))
      intro j hj
      refine (vEnds j hj).2 ((hm _).1 ?_)
      rw [same j hj, ← same (l.getD 0 0).toNat (by omega)]
      exact h1
  have hz : un g used = 0 := tot_zero fun k hk => if_neg (by rw [all k hk]; decide)
  omega
/-! ### the turned graph is of the same kind -/
theorem exc_turn (l : List Arc) (x : Int) : exc (l.map turnA) x = -exc l x := by
  unfold exc
  rw [outs_turn, inns_turn]; omega
theorem conn_turn {g : Graph} (hg : Ok g) {p p' : List Int} (hP : Parted g p) (hP' : Parted ⟨g.n, g.as.map turnA⟩ p') (hC : Conn g.as p) : Conn (g.as.map turnA) p' := fun b hb => by
  obtain ⟨a, ha, rfl⟩ := List.mem_map.1 hb
  have hconst : ∀ a, a ∈ g.as → atI p' a.f = atI p' a.t := fun a ha => (hP'.arc (turnA a) (List.mem_map_of_mem ha)).symm
  have hlen : 0 < g.as.length := List.length_pos_of_mem ha
  have h0m := mem_getD (d := El.d) hlen
  have hA := hg.arc a ha
  have h0 := hg.arc _ h0m
  have j1 := hP.pi.joined (atI p') hconst _ hA.f0 hA.f1
  have j2 := hP.pi.joined (atI p') hconst _ h0.f0 h0.f1
  rw [hC a ha, j2] at j1
  have e0 : (g.as.map turnA).getD 0 El.d = turnA (g.as.getD 0 El.d) := by
    cases hh : g.as with
    | nil => rw [hh] at hlen; exact absurd hlen (by simp)
    | cons c r => rfl
  rw [e0]
  show atI p' a.t = atI p' (g.as.getD 0 El.d).t
  rw [← hconst a ha, ← hconst _ h0m]
  exact j1.symm
theorem kind_turn {g : Graph} (hg : Ok g) {p p' : List Int} (hP : Parted g p) (hP' : Parted ⟨g.n, g.as.map turnA⟩ p') : kindOf ⟨g.n, g.as.map turnA⟩ p' = kindOf g p := by
  have hN : Near (g.as.map turnA) g.n.toNat ↔ Near g.as g.n.toNat := by
    unfold Near
    constructor
    · intro h x hx
      have := h x hx
      rw [exc_turn] at this
      omega
    · intro h x hx
      have := h x hx
      rw [exc_turn]
      omega
  have hCC : Conn (g.as.map turnA) p' ↔ Conn g.as p := by
    constructor
    · intro h
      have hP2 : Parted ⟨g.n, (g.as.map turnA).map turnA⟩ p := by rw [turn_turn]; exact hP
      have := conn_turn (g := ⟨g.n, g.as.map turnA⟩) hg.turn hP' hP2 h
      rwa [turn_turn] at this
    · exact conn_turn hg hP hP'
  have hc : cntD (g.as.map turnA) 1 g.n.toNat = cntD g.as (-1) g.n.toNat := by
    unfold cntD
    congr 1
    funext x
    rw [exc_turn, decide_eq_decide]
    omega
  unfold kindOf
  dsimp only
  by_cases c : Near g.as g.n.toNat ∧ Conn g.as p
  · have hs := near_same hg c.1
    rw [if_pos c, if_pos ⟨hN.2 c.1, hCC.2 c.2⟩, hc, ← hs]
  · rw [if_neg c, if_neg fun z => c ⟨hN.1 z.1, hCC.1 z.2⟩]
theorem turn_at (g : Graph) {k : Nat} (hk : k < g.as.length) : fF ⟨g.n, g.as.map turnA⟩ k = tT g k ∧ tT ⟨g.n, g.as.map turnA⟩ k = fF g k := by
  have : (g.as.map turnA).getD k El.d = turnA (g.as.getD k El.d) := by
    simp [List.getD_eq_getElem?_getD, hk]
  unfold fF tT
  dsimp only
  rw [this]
  exact ⟨rfl, rfl⟩
theorem turned_loop {g : Graph} (hl : g.as.length ≤ 60) {l : List Int} (hlen : l.length ≤ 60) (hr : ∀ i, i < l.length → 0 ≤ l.getD i 0 ∧ l.getD i 0 < g.as.length) (hc : ∀ i, i + 1 < l.length → tT g (l.getD (i + 1) 0).toNat = fF g (l.getD i 0).toNat) : ∃ k, loopC (weirkeep_EulerTurned_B1 g l) 1000000 1 = some (.go k) := by
  obtain ⟨q, e, hQ⟩ := loopC_or (f := weirkeep_EulerTurned_B1 g l) (fun (k : Nat) => 1 ≤ k) (fun q => ∃ k, q = .go k) (fun k => 61 - k) (fun k hk => by
    unfold weirkeep_EulerTurned_B1
    by_cases c : ((k : Nat) : Int) < ((l.length : Nat) : Int)
    · have a := hr k (by omega)
      have b := hr (k - 1) (by omega)
      have en : (((k : Nat) : Int) - 1).toNat = k - 1 := by omega
      have h := hc (k - 1) (by omega)
      rw [show k - 1 + 1 = k by omega] at h
      have h' : (g.as.getD (l.getD k 0).toNat El.d).t = (g.as.getD (l.getD (k - 1) 0).toNat El.d).f := h
      rw [if_pos c, ck_some (by omega), ck_some (inI_small (by omega) (by omega)), ck_some (by omega), en, if_neg (by omega), if_neg (by omega), ck_some a, ck_some b, if_neg (fun z => z h'), ck_some (inI_small (by omega) (by omega))]
      exact .inl ⟨k + 1, rfl, by omega, by omega⟩
    · rw [if_neg c]
      exact .inr (.inl ⟨k, rfl, k, rfl⟩)) (n := 1000000) (s := 1) (Nat.le_refl _) (by omega)
  obtain ⟨k, rfl⟩ := hQ
  exact ⟨k, e⟩
theorem EulerTurned_true (g : Graph) : weirkeep_EulerTurned_F g = some true := by
  unfold weirkeep_EulerTurned_F
  rw [roundsT_eq, bind_some', if_neg (by decide)]
  by_cases hc : checkF g (-10000) = 0
  · have hg := (checkF_ok g _).1 hc
    have hl := hg.len
    obtain ⟨p, _, hP, e1⟩ := can_ok hg
    obtain ⟨p', _, hP', e2⟩ := can_ok (g := ⟨g.n, g.as.map turnA⟩) hg.turn
    have hkt := kind_turn hg hP hP'
    rw [turn_ok hg, bind_some']
    dsimp only
    rw [e1, bind_some']
    dsimp only
    rw [e2, bind_some', hkt]
    dsimp only
    by_cases hk : kindOf g p = 0
    · obtain ⟨e, he, e3⟩ := trail_none (g := ⟨g.n, g.as.map turnA⟩) (fun ⟨p2, _, e4, h4⟩ => by
        rw [e2] at e4
        have : kindOf ⟨g.n, g.as.map turnA⟩ p' = kindOf ⟨g.n, g.as.map turnA⟩ p2 := congrArg Prod.fst (Option.some.inj e4)
        rw [← this, hkt] at h4
        exact h4 hk)
      rw [e3, bind_some']
      dsimp only
      rw [if_neg (by decide), if_neg (by decide), if_neg (by decide), if_pos he, if_pos rfl]
      exact congrArg some (decide_eq_true rfl)
    · obtain ⟨l, st, e0, e3, hT, hC⟩ := trail_ok hg.turn e2 (by rw [hkt]; exact hk)
      have hlen := trail_all hg.turn hP' hC hT
      have hlen' : l.length = g.as.length := by simpa using hlen
      have hrg := hT.rg
      have hch := hT.ch
      simp only [List.length_map] at hrg
      obtain ⟨k, ek⟩ := turned_loop hl (l := l) (by omega) hrg (fun i hi => by
        have a := hrg i (by omega)
        have b := hrg (i + 1) hi
        have := hch i hi
        rw [(turn_at g (k := (l.getD i 0).toNat) (by omega)).2, (turn_at g (k := (l.getD (i + 1) 0).toNat) (by omega)).1] at this
        exact this.symm)
      rw [e3, bind_some']
      dsimp only
      rw [if_neg (by decide), if_neg (by decide), if_neg (by decide), if_neg (by decide), ek, bind_some']
      dsimp only
      rw [if_pos rfl]
      exact congrArg some (decide_eq_true (by omega))
  · obtain ⟨a, b, e2⟩ := canT_some ⟨0, []⟩
    obtain ⟨l, e, e3⟩ := trailT_some ⟨0, []⟩
    rw [turn_bad hc, bind_some']
    dsimp only
    rw [can_bad hc, bind_some']
    dsimp only
    rw [e2, bind_some']
    dsimp only
    rw [e3, bind_some']
    dsimp only
    rw [if_pos hc, if_pos rfl]
    rfl
end Go.Proofs.Ytblhoelmodbifaa
