/- Package colour: changing a way over; Sides answers a colouring of as few colours as there can be. -/
import Derived.Test.YtdpkdicciclobaaPkoenig
namespace Go.Proofs.Ytdpkdicciclobaa
open Go Go.Proofs.Ytdpkdicciclobaa.Sx
set_option linter.unusedVariables false
set_option linter.unusedSimpArgs false
section
variable {g : Graph} {s : Nat → Bool} {D k : Nat} {col : List Int} {at_ : List (List Int)}
theorem range_getD {m i : Nat} (a : Nat → Nat) (hi : i < m) : ((List.range m).map (fun i => (a i : Int))).getD i 0 = (a i : Int) := by
  rw [List.getD_eq_getElem?_getD, List.getElem?_map, List.getElem?_range hi]; rfl
/-- first all of the way is taken out -/
theorem clear_ok (hB : Bip2 g s) (hk : k ≤ g.as.length) (h : Colo g D k col at_) {a : Nat → Nat} {m : Nat} (ha : ∀ i, i < m → a i < k) :
    ∃ G, forN (colour_swap_B2 g col ((List.range m).map (fun i => (a i : Int)))) m 0 at_ = some G ∧ Rc g.n.toNat D G ∧ ∀ u c, u < g.n.toNat → c < D → ((∃ i, i < m ∧ inc g (a i) u ∧ col.getD (a i) 0 = (c : Int)) → en G u c = 0) ∧ (¬ (∃ i, i < m ∧ inc g (a i) u ∧ col.getD (a i) 0 = (c : Int)) → en G u c = en at_ u c) := by
  obtain ⟨G, e, h1, h2⟩ := forN_inv (f := colour_swap_B2 g col ((List.range m).map (fun i => (a i : Int)))) (fun p G => Rc g.n.toNat D G ∧ ∀ u c, u < g.n.toNat → c < D → ((∃ i, i < p ∧ inc g (a i) u ∧ col.getD (a i) 0 = (c : Int)) → en G u c = 0) ∧ (¬ (∃ i, i < p ∧ inc g (a i) u ∧ col.getD (a i) 0 = (c : Int)) → en G u c = en at_ u c)) (n := m) (k := 0) (s := at_)
    ⟨h.rc, fun u c _ _ => ⟨fun ⟨i, hi, _⟩ => absurd hi (by omega), fun _ => rfl⟩⟩ fun p G _ hp ⟨i1, i2⟩ => by
    have hpm : p < m := by omega
    have hw := ha p hpm
    obtain ⟨⟨r1, r2⟩, rf, rt⟩ := hB.rng (j := a p) (by omega)
    obtain ⟨γ, g1, g2, _⟩ := h.e1 (a p) hw
    have hcl := h.cl
    have l0 := i1.l0
    unfold colour_swap_B2
    rw [range_getD a hpm, Int.toNat_natCast, rf, rt, g2, Int.toNat_natCast, Int.toNat_natCast, Int.toNat_natCast]
    rw [ck_some ⟨by omega, by omega⟩, ck_some ⟨by omega, by omega⟩, ck_some ⟨by omega, by omega⟩, ck_some ⟨by omega, by omega⟩, ck_some ⟨by omega, by rw [i1.l1 _ r1]; omega⟩, ck_some ⟨by omega, by rw [i1.l1 _ r2]; omega⟩]
    have s1 := i1.st (fA g (a p)) γ 0
    refine ⟨stE (stE G (fA g (a p)) γ 0) (tA g (a p)) γ 0, rfl, s1.st _ _ _, fun u c hu hc => ?_⟩
    rw [en_st s1 r2 g1, en_st i1 r1 g1]
    obtain ⟨j1, j2⟩ := i2 u c hu hc
    constructor
    · rintro ⟨i, hi, hinc, hcol⟩
      by_cases q : i = p
      · subst q
        have : c = γ := by omega
        subst this
        rcases hinc with rfl | rfl
        · by_cases w : fA g (a i) = tA g (a i)
          · rw [if_pos ⟨w, rfl⟩]
          · rw [if_neg (fun z => w z.1), if_pos ⟨rfl, rfl⟩]
        · rw [if_pos ⟨rfl, rfl⟩]
      · have := j1 ⟨i, by omega, hinc, hcol⟩
        split
        · rfl
        · split
          · rfl
          · exact this
    · intro hno
      rw [if_neg (fun z => hno ⟨p, by omega, .inr z.1.symm, by rw [g2, z.2]⟩), if_neg (fun z => hno ⟨p, by omega, .inl z.1.symm, by rw [g2, z.2]⟩)]
      exact j2 fun ⟨i, hi, x⟩ => hno ⟨i, by omega, x⟩
  exact ⟨G, e, h1, fun u c hu hc => by have := h2 u c hu hc; rw [Nat.zero_add] at this; exact this⟩
/-- then it is put in with the other colour -/
theorem put_ok (hB : Bip2 g s) (hk : k ≤ g.as.length) (h : Colo g D k col at_) {a : Nat → Nat} {m c d : Nat} (hc : c < D) (hd : d < D) (hDb : D ≤ 1000) (ha : ∀ i, i < m → a i < k) (hcol : ∀ i, i < m → col.getD (a i) 0 = (alt c d i : Int)) (hinj : ∀ i j, i < j → j < m → a i ≠ a j) {G : List (List Int)} (hG : Rc g.n.toNat D G) :
    ∃ G' col', forN (colour_swap_B3 g (c : Int) (d : Int) ((List.range m).map (fun i => (a i : Int)))) m 0 (G, col) = some (G', col') ∧ Rc g.n.toNat D G' ∧ col'.length = col.length ∧ (∀ i, i < m → col'.getD (a i) 0 = (alt c d (i + 1) : Int)) ∧ (∀ j, (∀ i, i < m → a i ≠ j) → col'.getD j 0 = col.getD j 0) ∧
      (∀ i u, i < m → inc g (a i) u → en G' u (alt c d (i + 1)) = (a i : Int) + 1) ∧ ∀ u γ, u < g.n.toNat → γ < D → (∀ i, i < m → inc g (a i) u → alt c d (i + 1) ≠ γ) → en G' u γ = en G u γ := by
  have aD : ∀ i, alt c d i < D := fun i => by unfold alt; split <;> assumption
  obtain ⟨⟨G', col'⟩, e, h1, h2, h3, h4, h5, h6⟩ := forN_inv (f := colour_swap_B3 g (c : Int) (d : Int) ((List.range m).map (fun i => (a i : Int)))) (fun p σ => Rc g.n.toNat D σ.1 ∧ σ.2.length = col.length ∧ (∀ i, i < p → σ.2.getD (a i) 0 = (alt c d (i + 1) : Int)) ∧ (∀ j, (∀ i, i < p → a i ≠ j) → σ.2.getD j 0 = col.getD j 0) ∧
      (∀ i u, i < p → inc g (a i) u → en σ.1 u (alt c d (i + 1)) = (a i : Int) + 1) ∧ ∀ u γ, u < g.n.toNat → γ < D → (∀ i, i < p → inc g (a i) u → alt c d (i + 1) ≠ γ) → en σ.1 u γ = en G u γ) (n := m) (k := 0) (s := (G, col))
    ⟨hG, rfl, fun i hi => absurd hi (by omega), fun j _ => rfl, fun i u hi => absurd hi (by omega), fun u γ _ _ _ => rfl⟩ fun p σ _ hp ⟨i1, i2, i3, i4, i5, i6⟩ => by
    obtain ⟨F, cl⟩ := σ
    dsimp only at i1 i2 i3 i4 i5 i6 ⊢
    have hpm : p < m := by omega
    have hw := ha p hpm
    obtain ⟨⟨r1, r2⟩, rf, rt⟩ := hB.rng (j := a p) (by omega)
    have hcl := h.cl
    have l0 := i1.l0
    have ec : cl.getD (a p) 0 = (alt c d p : Int) := by rw [i4 (a p) fun i hi => hinj i p hi hpm, hcol p hpm]
    have en1 : (c : Int) + d - alt c d p = (alt c d (p + 1) : Int) := (alt_succ c d p).symm
    have b1 := aD p
    have b2 := aD (p + 1)
    have hlen := hB.ok.len
    unfold colour_swap_B3
    dsimp only
    rw [range_getD a hpm, Int.toNat_natCast, ec, en1, rf, rt, Int.toNat_natCast, Int.toNat_natCast]
    have es : (cl.set (a p) (alt c d (p + 1) : Int)).getD (a p) 0 = (alt c d (p + 1) : Int) := by rw [getD_set', if_pos ⟨rfl, by omega⟩]
    rw [es, Int.toNat_natCast]
    rw [ck_some (by unfold InI; omega), ck_some ⟨by omega, by omega⟩, ck_some (by unfold InI; omega), ck_some ⟨by omega, by omega⟩, ck_some ⟨by omega, by omega⟩, ck_some ⟨by omega, by omega⟩, ck_some (by unfold InI; omega), ck_some ⟨by omega, by rw [i1.l1 _ r1]; omega⟩, ck_some ⟨by omega, by rw [i1.l1 _ r2]; omega⟩]
    have s1 := i1.st (fA g (a p)) (alt c d (p + 1)) ((a p : Int) + 1)
    have ev : ∀ u γ, en (stE (stE F (fA g (a p)) (alt c d (p + 1)) ((a p : Int) + 1)) (tA g (a p)) (alt c d (p + 1)) ((a p : Int) + 1)) u γ = if u = tA g (a p) ∧ γ = alt c d (p + 1) then (a p : Int) + 1 else if u = fA g (a p) ∧ γ = alt c d (p + 1) then (a p : Int) + 1 else en F u γ := fun u γ => by
      rw [en_st s1 r2 b2, en_st i1 r1 b2]
    refine ⟨(stE (stE F (fA g (a p)) (alt c d (p + 1)) ((a p : Int) + 1)) (tA g (a p)) (alt c d (p + 1)) ((a p : Int) + 1), cl.set (a p) (alt c d (p + 1) : Int)), rfl, s1.st _ _ _, by simpa using i2, fun i hi => ?_, fun j hj => ?_, fun i u hi hu => ?_, fun u γ hu hγ hno => ?_⟩
    · dsimp only
      rw [getD_set']
      by_cases q : i = p
      · rw [q, if_pos ⟨rfl, by omega⟩]
      · rw [if_neg (fun z => hinj i p (by omega) hpm z.1)]; exact i3 i (by omega)
    · dsimp only
      rw [getD_set', if_neg (fun z => hj p (by omega) z.1.symm)]
      exact i4 j fun i hi => hj i (by omega)
    · dsimp only
      rw [ev]
      by_cases q : i = p
      · subst q
        rcases hu with rfl | rfl
        · by_cases w : fA g (a i) = tA g (a i)
          · rw [if_pos ⟨w, rfl⟩]
          · rw [if_neg (fun z => w z.1), if_pos ⟨rfl, rfl⟩]
        · rw [if_pos ⟨rfl, rfl⟩]
      · -- another arc of the way has another place
        have apart : ¬ (inc g (a p) u ∧ alt c d (i + 1) = alt c d (p + 1)) := fun ⟨z1, z2⟩ => by
          have : (alt c d i : Int) = alt c d p := by
            have := alt_succ c d i
            have := alt_succ c d p
            omega
          exact hinj i p (by omega) hpm (h.uniq (c := alt c d i) (ha i (by omega)) hw (hcol i (by omega)) (by rw [hcol p hpm, this]) hu z1)
        rw [if_neg (fun z => apart ⟨.inr z.1.symm, z.2⟩), if_neg (fun z => apart ⟨.inl z.1.symm, z.2⟩)]
        exact i5 i u (by omega) hu
    · dsimp only
      rw [ev, if_neg (fun z => hno p (by omega) (.inr z.1.symm) z.2.symm), if_neg (fun z => hno p (by omega) (.inl z.1.symm) z.2.symm)]
      exact i6 u γ hu hγ fun i hi => hno i (by omega)
  rw [Nat.zero_add] at h3 h4 h5 h6
  exact ⟨G', col', e, h1, h2, h3, h4, h5, h6⟩
/-- what swap leaves: still a colouring; one colour is free now at both ends -/
theorem swap_ok (hB : Bip2 g s) (hk : k ≤ g.as.length) (h : Colo g D k col at_) {x y c d : Nat} (hx : x < g.n.toNat) (hy : y < g.n.toNat) (hs : s x ≠ s y) (hc : c < D) (hdD : d < D) (hDb : D ≤ 1000) (hcx : en at_ x c = 0) (hd : en at_ y d = 0) (hcy : 0 < en at_ y c) :
    ∃ G col', colour_swap_F g at_ col (y : Int) (c : Int) (d : Int) = some (col', G) ∧ Colo g D k col' G ∧ en G x c = 0 ∧ en G y c = 0 := by
  have hcd : c ≠ d := fun z => by rw [z, hd] at hcy; omega
  obtain ⟨v, a, m, z, ew, hW, hend, hm⟩ := way_ok hB hk h hy hc hdD hcd hd hDb
  have hinj := hW.inj hB h hk hcd hd
  obtain ⟨G2, e2, rc2, c2⟩ := clear_ok hB hk h hW.lt
  obtain ⟨G, col', e3, rc3, cl3, p1, p2, p3, p4⟩ := put_ok hB hk h hc hdD hDb hW.lt hW.col hinj rc2
  have aD : ∀ i, alt c d i < D := fun i => by unfold alt; split <;> assumption
  have hl0 := h.rc.l0
  have hm0 : 0 < m := by
    rcases Nat.eq_zero_or_pos m with q | q
    · subst q
      rw [hW.v0] at hend
      exact absurd hcy hend
    · exact q
  have bE : en at_ y c ≤ 1000 := by
    have := hB.ok.len
    rcases h.e2 y c hy hc with q | ⟨j, hj, q, _⟩ <;> omega
  -- is an arc on the way
  have dec : ∀ j, (∃ i, i < m ∧ a i = j) ∨ ∀ i, i < m → a i ≠ j := fun j => by
    by_cases q : ∃ i, i < m ∧ a i = j
    · exact .inl q
    · exact .inr fun i hi e => q ⟨i, hi, e⟩
  refine ⟨G, col', ?_, ⟨cl3.trans h.cl, rc3, fun j hj => ?_, fun u γ hu hγ => ?_⟩, ?_, ?_⟩
  · unfold colour_swap_F
    rw [ck_some ⟨by omega, by omega⟩, Int.toNat_natCast, Int.toNat_natCast, ck_some ⟨by omega, by rw [h.rc.l1 y hy]; omega⟩, show (at_.getD y []).getD c (0 : Int) = en at_ y c from rfl, ck_some (by unfold InI; omega), ew, bind_some']
    dsimp only
    rw [show ((List.range m).map (fun i => (a i : Int))).length = m by simp, e2, bind_some', e3, bind_some']
  · rcases dec j with ⟨i, hi, rfl⟩ | hno
    · exact ⟨alt c d (i + 1), aD _, p1 i hi, p3 i _ hi (.inl rfl), p3 i _ hi (.inr rfl)⟩
    · obtain ⟨γ, g1, g2, g3, g4⟩ := h.e1 j hj
      obtain ⟨⟨r1, r2⟩, _, _⟩ := hB.rng (j := j) (by omega)
      have keep : ∀ u, u < g.n.toNat → inc g j u → en at_ u γ = (j : Int) + 1 → en G u γ = (j : Int) + 1 := fun u hu hju ev => by
        rw [p4 u γ hu g1 fun i hi hiu eγ => ?_]
        · rw [(c2 u γ hu g1).2 fun ⟨i, hi, hiu, hic⟩ => hno i hi (h.uniq (hW.lt i hi) hj hic g2 hiu hju)]
          exact ev
        · obtain ⟨i', hi', e'⟩ := hW.closed h hd hend hi hiu hj hju (by rw [g2, ← eγ]; exact alt_succ c d i)
          exact hno i' hi' e'
      exact ⟨γ, g1, by rw [p2 j hno]; exact g2, keep _ r1 (.inl rfl) g3, keep _ r2 (.inr rfl) g4⟩
  · by_cases q : ∃ i, i < m ∧ inc g (a i) u ∧ alt c d (i + 1) = γ
    · obtain ⟨i, hi, hiu, rfl⟩ := q
      exact .inr ⟨a i, hW.lt i hi, p3 i u hi hiu, hiu, p1 i hi⟩
    · rw [p4 u γ hu hγ fun i hi hiu e => q ⟨i, hi, hiu, e⟩]
      by_cases q2 : ∃ i, i < m ∧ inc g (a i) u ∧ col.getD (a i) 0 = (γ : Int)
      · exact .inl ((c2 u γ hu hγ).1 q2)
      · rw [(c2 u γ hu hγ).2 q2]
        refine (h.e2 u γ hu hγ).imp id fun ⟨j, hj, ej, hju, hjc⟩ => ⟨j, hj, ej, hju, ?_⟩
        rw [p2 j fun i hi e => q2 ⟨i, hi, by rw [e]; exact hju, by rw [e]; exact hjc⟩]
        exact hjc
  · -- the way does not come to x
    have off : ∀ i, i < m → ¬ inc g (a i) x := fun i hi hix => by
      -- x is on the side of the odd places
      have sx : s x = !s y := by cases q1 : s x <;> cases q2 : s y <;> rw [q1, q2] at hs <;> first | rfl | exact absurd rfl hs
      have e1 := two_ends hix (hW.inc1 i hi) (hW.inc2 i hi)
      have n1 := hW.ne i hi
      have at2 : ∀ j, 1 ≤ j → j ≤ m → x = v j → j % 2 = 1 → False := fun j j1 j2 e hp => by
        have hc2 := hW.col (j - 1) (by omega)
        have : alt c d (j - 1) = c := by unfold alt; rw [if_pos (by omega)]
        rw [this] at hc2
        have hi2 := hW.inc2 (j - 1) (by omega)
        rw [show j - 1 + 1 = j by omega, ← e] at hi2
        have := h.at (hW.lt (j - 1) (by omega)) hc2 hi2
        omega
      have odd : ∀ j, j ≤ m → x = v j → j % 2 = 1 := fun j hj e => by
        have := hW.side j hj
        rw [← e, sx] at this
        refine Classical.byContradiction fun w => ?_
        rw [if_pos (by omega)] at this
        cases q : s y <;> rw [q] at this <;> cases this
      rcases (by omega : x = v i ∨ x = v (i + 1)) with e | e
      · have := odd i (by omega) e
        exact at2 i (by omega) (by omega) e this
      · have := odd (i + 1) (by omega) e
        exact at2 (i + 1) (by omega) (by omega) e this
    rw [p4 x c hx hc fun i hi hix => absurd hix (off i hi), (c2 x c hx hc).2 fun ⟨i, hi, hix, _⟩ => off i hi hix]
    exact hcx
  · rw [p4 y c hy hc fun i hi hiy e => ?_]
    · refine (c2 y c hy hc).1 ⟨0, hm0, ?_, hW.col 0 hm0⟩
      have := hW.inc1 0 hm0
      rwa [hW.v0] at this
    · have hcol := hW.col i hi
      have : alt c d i = d := by
        have := alt_succ c d i
        omega
      rw [this] at hcol
      have := h.at (hW.lt i hi) hcol hiy
      omega
/-! ### a colour that is free -/
theorem inc_count (hB : Bip2 g s) (u : Nat) : ∀ j, j ≤ g.as.length → num (fun i => inc g i u) j = outs (g.as.take j) u + inns (g.as.take j) u
  | 0, _ => by simp [num_zero, outs, inns]
  | j + 1, hj => by
    have ih := inc_count hB u j (by omega)
    have hj' : j < g.as.length := by omega
    obtain ⟨_, rf, rt⟩ := hB.rng hj'
    have ha := hB.arc j hj'
    rw [take_succ_getD hj', outs_snoc, inns_snoc, rf, rt]
    by_cases c1 : fA g j = u
    · have c2 : tA g j ≠ u := fun z => ha (by rw [c1, z])
      rw [num_t (.inl c1), ih, if_pos (by omega), if_neg (by omega)]; omega
    · by_cases c2 : tA g j = u
      · rw [num_t (.inr c2), ih, if_neg (by omega), if_pos (by omega)]; omega
      · rw [num_f (fun z => z.elim c1 c2), ih, if_neg (by omega), if_neg (by omega)]; omega
theorem num_grow (A : Nat → Prop) {a b : Nat} (h : a ≤ b) : num A a ≤ num A b := by
  induction b with
  | zero => rw [show a = 0 by omega]; exact Int.le_refl _
  | succ b ih =>
    by_cases c : a = b + 1
    · rw [c]; exact Int.le_refl _
    · have := ih (by omega)
      by_cases q : A b
      · rw [num_t q]; omega
      · rw [num_f q]; exact this
theorem free_colour (hB : Bip2 g s) (h : Colo g D k col at_) (hk : k < g.as.length) {u : Nat} (hu : u < g.n.toNat) (hku : inc g k u) (hD : outs g.as u + inns g.as u ≤ D) : ∃ c, c < D ∧ en at_ u c = 0 := by
  refine Classical.byContradiction fun hno => ?_
  have pick : ∀ c, ∃ j, c < D → j < k ∧ inc g j u ∧ col.getD j 0 = (c : Int) := fun c => by
    by_cases hc : c < D
    · rcases h.e2 u c hu hc with z | ⟨j, hj, _, h1, h2⟩
      · exact absurd ⟨c, hc, z⟩ hno
      · exact ⟨j, fun _ => ⟨hj, h1, h2⟩⟩
    · exact ⟨0, fun z => absurd z hc⟩
  obtain ⟨f, hf⟩ := Classical.axiomOfChoice pick
  have e := num_inj (n := D) (m := k) (A := fun _ => True) (B := fun i => inc g i u) (f := f) (fun c hc _ => ⟨(hf c hc).1, (hf c hc).2.1⟩) fun c c' hc hc' _ _ e => by
    have a := (hf c hc).2.2
    have b := (hf c' hc').2.2
    rw [e] at a
    omega
  have full : ∀ n : Nat, num (fun _ => True) n = n := fun n => by
    induction n with
    | zero => rfl
    | succ n ih => rw [num_t trivial, ih]; omega
  have e1 : num (fun i => inc g i u) (k + 1) = num (fun i => inc g i u) k + 1 := num_t hku
  have e2 := num_grow (fun i => inc g i u) (show k + 1 ≤ g.as.length by omega)
  have e3 := inc_count hB u g.as.length (Nat.le_refl _)
  rw [List.take_of_length_le (Nat.le_refl _)] at e3
  rw [full] at e
  omega
end
end Go.Proofs.Ytdpkdicciclobaa
