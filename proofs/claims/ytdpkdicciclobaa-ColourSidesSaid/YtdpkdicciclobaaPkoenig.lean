/- Package colour: arcs between two sides, coloured; ways of two colours change over (Koenig). -/
import Derived.Test.YtdpkdicciclobaaPberge
import Derived.Test.YtdpkdicciclobaaPsides
import Derived.Test.YtdpkdicciclobaaGcolour
namespace Go.Proofs.Ytdpkdicciclobaa
open Go Go.Proofs.Ytdpkdicciclobaa.Sx
set_option linter.unusedVariables false
set_option linter.unusedSimpArgs false
/-! ### tables -/
def en (g : List (List Int)) (x y : Nat) : Int := (g.getD x []).getD y 0
structure Rc (n m : Nat) (g : List (List Int)) : Prop where
  l0 : g.length = n
  l1 : ∀ x, x < n → (g.getD x []).length = m
def stE (g : List (List Int)) (i k : Nat) (v : Int) : List (List Int) := g.set i ((g.getD i []).set k v)
theorem Rc.st {n m : Nat} {g : List (List Int)} (h : Rc n m g) (i k : Nat) (v : Int) : Rc n m (stE g i k v) := by
  refine ⟨by simp [stE, h.l0], fun x hx => ?_⟩
  unfold stE
  rw [getD_set']
  split
  · rename_i e; rw [List.length_set, ← e.1]; exact h.l1 x hx
  · exact h.l1 x hx
theorem en_st {n m : Nat} {g : List (List Int)} (h : Rc n m g) {i k : Nat} (hi : i < n) (hk : k < m) (v : Int) (x y : Nat) : en (stE g i k v) x y = if x = i ∧ y = k then v else en g x y := by
  unfold en stE
  rw [getD_set']
  by_cases e : x = i
  · subst e
    rw [if_pos ⟨rfl, by rw [h.l0]; exact hi⟩, getD_set']
    by_cases e2 : y = k
    · subst e2; rw [if_pos ⟨rfl, by rw [h.l1 x hi]; exact hk⟩, if_pos ⟨rfl, rfl⟩]
    · rw [if_neg (fun z => e2 z.1), if_neg (fun z => e2 z.2)]
  · rw [if_neg (fun z => e z.1), if_neg (fun z => e z.1)]
theorem indexK_eq (l : List Int) (v : Int) : ∃ r, slices_Index_int_F l v = some r ∧ ((r = -1 ∧ v ∉ l) ∨ (0 ≤ r ∧ r < l.length ∧ l.getD r.toNat 0 = v)) := by
  unfold slices_Index_int_F
  obtain ⟨q, h1, h2⟩ := forC_or (f := slices_Index_int_B1 l v) (fun k _ => ∀ i, i < k → l.getD i 0 ≠ v) (fun q => (∀ r, q = .ret r → 0 ≤ r ∧ r < l.length ∧ l.getD r.toNat 0 = v) ∧ (q = .go () → v ∉ l)) (n := l.length) (k := 0) (s := ()) (fun i h => absurd h (by omega)) (fun j s _ hj hI => by
    unfold slices_Index_int_B1
    by_cases he : v = l.getD j 0
    · right; right
      refine ⟨(j : Int), by rw [if_pos he], fun r e => ?_, fun e => by cases e⟩
      injection e with e; subst e
      exact ⟨by omega, by omega, by rw [Int.toNat_natCast]; exact he.symm⟩
    · left
      refine ⟨(), by rw [if_neg he], fun i hi => ?_⟩
      by_cases h : i = j
      · subst h; exact fun e => he e.symm
      · exact hI i (by omega)) (fun s h => ⟨fun r e => (by cases e), fun _ hm => by
    obtain ⟨k, hk, e⟩ := getD_of_mem (d := 0) hm
    exact h k (by omega) e⟩)
  rw [h1, bind_some']
  cases q with
  | go s => exact ⟨-1, rfl, .inl ⟨rfl, h2.2 rfl⟩⟩
  | ret r => exact ⟨r, rfl, .inr (h2.1 r rfl)⟩
/-! ### arcs at nodes -/
abbrev fA (g : Graph) (j : Nat) : Nat := (g.as.getD j El.d).f.toNat
abbrev tA (g : Graph) (j : Nat) : Nat := (g.as.getD j El.d).t.toNat
def inc (g : Graph) (j u : Nat) : Prop := fA g j = u ∨ tA g j = u
structure Bip2 (g : Graph) (s : Nat → Bool) : Prop where
  ok : Ok g
  arc : ∀ j, j < g.as.length → s (fA g j) ≠ s (tA g j)
theorem Bip2.rng {g : Graph} {s : Nat → Bool} (h : Bip2 g s) {j : Nat} (hj : j < g.as.length) : (fA g j < g.n.toNat ∧ tA g j < g.n.toNat) ∧ (g.as.getD j El.d).f = (fA g j : Int) ∧ (g.as.getD j El.d).t = (tA g j : Int) := by
  have G := h.ok.arc _ (mem_getD (d := (El.d : Arc)) hj)
  have := G.f0; have := G.f1; have := G.t0; have := G.t1
  unfold fA tA
  omega
/-- which arc has which colour at which node -/
structure Colo (g : Graph) (D k : Nat) (col : List Int) (at_ : List (List Int)) : Prop where
  cl : col.length = g.as.length
  rc : Rc g.n.toNat D at_
  e1 : ∀ j, j < k → ∃ c : Nat, c < D ∧ col.getD j 0 = (c : Int) ∧ en at_ (fA g j) c = (j : Int) + 1 ∧ en at_ (tA g j) c = (j : Int) + 1
  e2 : ∀ u c, u < g.n.toNat → c < D → en at_ u c = 0 ∨ ∃ j, j < k ∧ en at_ u c = (j : Int) + 1 ∧ inc g j u ∧ col.getD j 0 = (c : Int)
section
variable {g : Graph} {s : Nat → Bool} {D k : Nat} {col : List Int} {at_ : List (List Int)}
theorem Colo.at (h : Colo g D k col at_) {j c u : Nat} (hj : j < k) (hc : col.getD j 0 = (c : Int)) (hu : inc g j u) : en at_ u c = (j : Int) + 1 := by
  obtain ⟨c', _, e, a, b⟩ := h.e1 j hj
  have : c' = c := by omega
  subst this
  rcases hu with rfl | rfl
  · exact a
  · exact b
theorem Colo.uniq (h : Colo g D k col at_) {i j c u : Nat} (hi : i < k) (hj : j < k) (h1 : col.getD i 0 = (c : Int)) (h2 : col.getD j 0 = (c : Int)) (u1 : inc g i u) (u2 : inc g j u) : i = j := by
  have a := h.at hi h1 u1
  have b := h.at hj h2 u2
  omega
/-! ### the way of two colours -/
def alt (c d i : Nat) : Nat := if i % 2 = 0 then c else d
theorem alt_succ (c d i : Nat) : (alt c d (i + 1) : Int) = c + d - alt c d i := by
  unfold alt
  by_cases h : i % 2 = 0
  · rw [if_pos h, if_neg (by omega)]; omega
  · rw [if_neg h, if_pos (by omega)]; omega
structure WayK (g : Graph) (s : Nat → Bool) (k : Nat) (col : List Int) (y c d : Nat) (v a : Nat → Nat) (m : Nat) : Prop where
  v0 : v 0 = y
  lt : ∀ i, i < m → a i < k
  col : ∀ i, i < m → col.getD (a i) 0 = (alt c d i : Int)
  inc1 : ∀ i, i < m → inc g (a i) (v i)
  inc2 : ∀ i, i < m → inc g (a i) (v (i + 1))
  ne : ∀ i, i < m → v i ≠ v (i + 1)
  side : ∀ i, i ≤ m → s (v i) = (if i % 2 = 0 then s y else !s y)
theorem two_ends {j u v w : Nat} (hu : inc g j u) (hv : inc g j v) (hw : inc g j w) : u = v ∨ v = w ∨ u = w := by
  unfold inc at *; omega
theorem WayK.apart (hB : Bip2 g s) (h : Colo g D k col at_) {y c d : Nat} {v a : Nat → Nat} {m : Nat} (hW : WayK g s k col y c d v a m) (hd : en at_ y d = 0) : ∀ i j, i < j → j ≤ m → i % 2 = j % 2 → v i ≠ v j := by
  intro i
  induction i with
  | zero =>
    intro j hij hj hp e
    have hj1 : j - 1 < m := by omega
    have hc := hW.col (j - 1) hj1
    have : alt c d (j - 1) = d := by unfold alt; rw [if_neg (by omega)]
    rw [this] at hc
    have hi2 := hW.inc2 (j - 1) hj1
    rw [show j - 1 + 1 = j by omega, ← e, hW.v0] at hi2
    have := h.at (hW.lt (j - 1) hj1) hc hi2
    omega
  | succ i ih =>
    intro j hij hj hp e
    have hj1 : j - 1 < m := by omega
    have c1 := hW.col i (by omega)
    have c2 := hW.col (j - 1) hj1
    have ea : alt c d (j - 1) = alt c d i := by
      unfold alt
      by_cases q : i % 2 = 0
      · rw [if_pos q, if_pos (by omega)]
      · rw [if_neg q, if_neg (by omega)]
    rw [ea] at c2
    have i1 := hW.inc2 i (by omega)
    have i2 := hW.inc2 (j - 1) hj1
    rw [show j - 1 + 1 = j by omega, ← e] at i2
    have same := h.uniq (hW.lt i (by omega)) (hW.lt (j - 1) hj1) c1 c2 i1 i2
    have p1 := hW.inc1 i (by omega)
    have p2 := hW.inc1 (j - 1) hj1
    rw [← same] at p2
    have n1 := hW.ne i (by omega)
    have n2 := hW.ne (j - 1) hj1
    rw [show j - 1 + 1 = j by omega, ← e] at n2
    have := two_ends p1 p2 i1
    exact ih (j - 1) (by omega) (by omega) (by omega) (by omega)
theorem WayK.inj (hB : Bip2 g s) (h : Colo g D k col at_) (hk : k ≤ g.as.length) {y c d : Nat} (hcd : c ≠ d) {v a : Nat → Nat} {m : Nat} (hW : WayK g s k col y c d v a m) (hd : en at_ y d = 0) : ∀ i j, i < j → j < m → a i ≠ a j := by
  intro i j hij hj e
  have c1 := hW.col i (by omega)
  have c2 := hW.col j hj
  rw [e, c2] at c1
  have hp : i % 2 = j % 2 := by
    unfold alt at c1
    by_cases q : i % 2 = 0 <;> by_cases q2 : j % 2 = 0
    · omega
    · rw [if_pos q, if_neg q2] at c1; omega
    · rw [if_neg q, if_pos q2] at c1; omega
    · omega
  have p1 := hW.inc1 i (by omega)
  have p2 := hW.inc2 i (by omega)
  have p3 := hW.inc1 j hj
  rw [← e] at p3
  have := two_ends p1 p2 p3
  have n1 := hW.ne i (by omega)
  have n2 := hW.apart hB h hd i j hij (by omega) hp
  have s1 := hW.side (i + 1) (by omega)
  have s2 := hW.side j (by omega)
  have : v (i + 1) = v j := by omega
  rw [this, s2] at s1
  by_cases q : j % 2 = 0
  · rw [if_pos q, if_neg (by omega)] at s1
    cases w : s y <;> rw [w] at s1 <;> cases s1
  · rw [if_neg q, if_pos (by omega)] at s1
    cases w : s y <;> rw [w] at s1 <;> cases s1
/-- the other colour at a node of the way is on the way, too -/
theorem WayK.closed (h : Colo g D k col at_) {y c d : Nat} {v a : Nat → Nat} {m : Nat} (hW : WayK g s k col y c d v a m) (hd : en at_ y d = 0) (hend : ¬ 0 < en at_ (v m) (alt c d m)) {i j u : Nat} (hi : i < m) (hu : inc g (a i) u) (hj : j < k) (hju : inc g j u) (hc : col.getD j 0 = (c : Int) + d - alt c d i) : ∃ i', i' < m ∧ a i' = j := by
  have e1 := two_ends hu (hW.inc1 i hi) (hW.inc2 i hi)
  have n1 := hW.ne i hi
  rcases (by omega : u = v i ∨ u = v (i + 1)) with rfl | rfl
  · match i, hi, hju, hc with
    | 0, hi, hju, hc =>
      have : alt c d 0 = c := rfl
      rw [this] at hc
      have := h.at (c := d) hj (by omega) hju
      rw [hW.v0] at this
      omega
    | i + 1, hi, hju, hc =>
      refine ⟨i, by omega, h.uniq (c := alt c d i) (u := v (i + 1)) (hW.lt i (by omega)) hj (hW.col i (by omega)) ?_ (hW.inc2 i (by omega)) hju⟩
      have := alt_succ c d i
      omega
  · have e2 := alt_succ c d i
    by_cases q : i + 1 < m
    · exact ⟨i + 1, q, h.uniq (c := alt c d (i + 1)) (u := v (i + 1)) (hW.lt (i + 1) q) hj (hW.col (i + 1) q) (by omega) (hW.inc1 (i + 1) q) hju⟩
    · have : i + 1 = m := by omega
      subst this
      have := h.at (c := alt c d (i + 1)) hj (by omega) hju
      omega
theorem nodup_lt : ∀ (m : Nat) {a : Nat → Nat} {k : Nat}, (∀ i, i < m → a i < k) → (∀ i j, i < j → j < m → a i ≠ a j) → m ≤ k := fun m a k h1 h2 => by
  have e := num_inj (n := m) (m := k) (A := fun _ => True) (B := fun _ => True) (f := a) (fun x hx _ => ⟨h1 x hx, trivial⟩) fun x y hx hy _ _ e => by
    rcases (by omega : x < y ∨ x = y ∨ y < x) with c | c | c
    · exact absurd e (h2 x y c hy)
    · exact c
    · exact absurd e.symm (h2 y x c hx)
  have full : ∀ n : Nat, num (fun _ => True) n = n := fun n => by
    induction n with
    | zero => rfl
    | succ n ih => rw [num_t trivial, ih]; omega
  rw [full, full] at e
  omega
theorem WayK.ext {y c d : Nat} {v a : Nat → Nat} {m : Nat} (hW : WayK g s k col y c d v a m) {j w : Nat} (hj : j < k) (hcol : col.getD j 0 = (alt c d m : Int)) (hinc : inc g j (v m)) (w1 : inc g j w) (w2 : w ≠ v m) (w4 : s w = !s (v m)) :
    WayK g s k col y c d (fun i => if i = m + 1 then w else v i) (fun i => if i = m then j else a i) (m + 1) := by
  refine ⟨?_, fun i hi => ?_, fun i hi => ?_, fun i hi => ?_, fun i hi => ?_, fun i hi => ?_, fun i hi => ?_⟩
  · rw [if_neg (by omega)]; exact hW.v0
  · split
    · exact hj
    · exact hW.lt i (by omega)
  · by_cases q : i = m
    · rw [if_pos q, q]; exact hcol
    · rw [if_neg q]; exact hW.col i (by omega)
  · rw [if_neg (show ¬ i = m + 1 by omega)]
    by_cases q : i = m
    · rw [if_pos q, q]; exact hinc
    · rw [if_neg q]; exact hW.inc1 i (by omega)
  · by_cases q : i = m
    · rw [if_pos q, if_pos (by omega)]; exact w1
    · rw [if_neg q, if_neg (by omega)]; exact hW.inc2 i (by omega)
  · rw [if_neg (show ¬ i = m + 1 by omega)]
    by_cases q : i = m
    · rw [if_pos (by omega), q]; exact fun z => w2 z.symm
    · rw [if_neg (by omega)]; exact hW.ne i (by omega)
  · by_cases q : i = m + 1
    · rw [if_pos q, w4, hW.side m (Nat.le_refl _), q]
      by_cases q2 : m % 2 = 0
      · rw [if_pos q2, if_neg (by omega)]
      · rw [if_neg q2, if_pos (by omega)]; simp
    · rw [if_neg q]; exact hW.side i (by omega)
/-- the walk along the way -/
theorem way_ok (hB : Bip2 g s) (hk : k ≤ g.as.length) (h : Colo g D k col at_) {y c d : Nat} (hy : y < g.n.toNat) (hc : c < D) (hdD : d < D) (hcd : c ≠ d) (hd : en at_ y d = 0) (hDb : D ≤ 1000) :
    ∃ v a m x, loopC (colour_swap_B1 g at_ col (c : Int) (d : Int)) 1000000 ((y : Int), [], en at_ y c - 1) = some (.go (x, (List.range m).map (fun i => (a i : Int)), -1)) ∧ WayK g s k col y c d v a m ∧ ¬ 0 < en at_ (v m) (alt c d m) ∧ m ≤ k := by
  have hlen := hB.ok.len
  obtain ⟨q, e, v, a, m, x, hq, hW, hend, hm⟩ := loopC_or (f := colour_swap_B1 g at_ col (c : Int) (d : Int)) (fun (σ : Int × List Int × Int) => ∃ v a m, WayK g s k col y c d v a m ∧ σ.1 = (v m : Int) ∧ v m < g.n.toNat ∧ σ.2.1 = (List.range m).map (fun i => (a i : Int)) ∧ σ.2.2 = en at_ (v m) (alt c d m) - 1)
      (fun q => ∃ v a m x, q = .go (x, (List.range m).map (fun i => (a i : Int)), -1) ∧ WayK g s k col y c d v a m ∧ ¬ 0 < en at_ (v m) (alt c d m) ∧ m ≤ k) (fun σ => 100 - σ.2.1.length) (fun σ ⟨v, a, m, hW, e1, e2, e3, e4⟩ => by
    obtain ⟨x, l, z⟩ := σ
    dsimp only at e1 e3 e4 ⊢
    subst e1 e3 e4
    have hm : m ≤ k := nodup_lt m hW.lt (hW.inj hB h hk hcd hd)
    have haD : alt c d m < D := by unfold alt; split <;> assumption
    have hll : ((List.range m).map (fun i => (a i : Int))).length = m := by simp
    unfold colour_swap_B1
    dsimp only
    rcases h.e2 (v m) (alt c d m) e2 haD with z0 | ⟨j, hj, ej, hinc, hcol⟩
    · rw [z0, if_neg (by decide)]
      exact .inr (.inl ⟨_, rfl, v, a, m, _, rfl, hW, by omega, hm⟩)
    · have hjm : j < g.as.length := by omega
      obtain ⟨⟨r1, r2⟩, rf, rt⟩ := hB.rng hjm
      have n12 := hB.ok.n1
      -- the other end
      obtain ⟨w, hw⟩ : ∃ w, w = fA g j + tA g j - v m := ⟨_, rfl⟩
      have hwi : inc g j w ∧ w ≠ v m ∧ w < g.n.toNat ∧ s w = !s (v m) := by
        have ha := hB.arc j hjm
        rcases hinc with q | q
        · have : w = tA g j := by omega
          rw [this, ← q]
          refine ⟨.inr rfl, fun z => ha (by rw [z]), r2, ?_⟩
          cases q1 : s (fA g j) <;> cases q2 : s (tA g j) <;> rw [q1, q2] at ha <;> first | rfl | exact absurd rfl ha
        · have : w = fA g j := by omega
          rw [this, ← q]
          refine ⟨.inl rfl, fun z => ha (by rw [z]), r1, ?_⟩
          cases q1 : s (fA g j) <;> cases q2 : s (tA g j) <;> rw [q1, q2] at ha <;> first | rfl | exact absurd rfl ha
      obtain ⟨w1, w2, w3, w4⟩ := hwi
      have ew : ((g.as.getD j El.d).f + (g.as.getD j El.d).t) - ((v m : Nat) : Int) = (w : Int) := by
        rw [rf, rt, hw]
        rcases hinc with q | q <;> omega
      have hW2 := hW.ext hj hcol hinc w1 w2 w4
      have ealt : (c : Int) + d - alt c d m = (alt c d (m + 1) : Int) := (alt_succ c d m).symm
      have haD2 : alt c d (m + 1) < D := by unfold alt; split <;> assumption
      have hcl := h.cl
      have hDr := h.rc.l1 w w3
      have hcD : (c : Int) + d ≤ 2 * (D : Int) := by omega
      have hDl := h.rc.l0
      have eO : ((c : Int) + d) - col.getD j 0 = (alt c d (m + 1) : Int) := by rw [hcol]; exact ealt
      have bE : en at_ w (alt c d (m + 1)) = 0 ∨ ∃ j, j < k ∧ en at_ w (alt c d (m + 1)) = (j : Int) + 1 := (h.e2 w _ w3 haD2).imp id fun ⟨j, h1, h2, _⟩ => ⟨j, h1, h2⟩
      have bE2 : 0 ≤ en at_ w (alt c d (m + 1)) ∧ en at_ w (alt c d (m + 1)) ≤ 1000 := by
        rcases bE with z | ⟨i, hi, z⟩ <;> omega
      rw [ej, show ((j : Int) + 1 - 1) = (j : Int) by omega, if_pos (show (0 : Int) ≤ (j : Int) by omega), Int.toNat_natCast, ck_some (by rw [hll]; omega), ck_some ⟨by omega, by omega⟩, ck_some (by rw [rf, rt]; unfold InI; omega), ew, ck_some (by unfold InI; omega),
        ck_some (by unfold InI; omega), ck_some ⟨by omega, by omega⟩, eO, ck_some (by unfold InI; omega), ck_some ⟨by omega, by omega⟩, Int.toNat_natCast, Int.toNat_natCast, ck_some ⟨by omega, by omega⟩, show (at_.getD w []).getD (alt c d (m + 1)) (0 : Int) = en at_ w (alt c d (m + 1)) from rfl, ck_some (by unfold InI; omega)]
      refine .inl ⟨_, rfl, ⟨_, _, m + 1, hW2, ?_, ?_, ?_, ?_⟩, ?_⟩
      · dsimp only; rw [if_pos rfl]
      · rw [if_pos rfl]; exact w3
      · dsimp only
        rw [List.range_succ, List.map_append]
        refine congr (congrArg _ (List.map_congr_left fun i hi => ?_)) ?_
        · rw [if_neg (by have := List.mem_range.1 hi; omega)]
        · simp
      · dsimp only; rw [if_pos rfl]
      · dsimp only
        rw [List.length_append, hll]
        have : ([(j : Int)] : List Int).length = 1 := rfl
        omega) (n := 1000000) (s := ((y : Int), [], en at_ y c - 1)) ⟨fun _ => y, fun _ => 0, 0, ⟨rfl, fun i hi => absurd hi (by omega), fun i hi => absurd hi (by omega), fun i hi => absurd hi (by omega), fun i hi => absurd hi (by omega), fun i hi => absurd hi (by omega), fun i hi => by rw [show i = 0 by omega]; rfl⟩, rfl, hy, rfl, rfl⟩ (by dsimp only; simp)
  subst hq
  exact ⟨v, a, m, x, e, hW, hend, hm⟩
end
end Go.Proofs.Ytdpkdicciclobaa
