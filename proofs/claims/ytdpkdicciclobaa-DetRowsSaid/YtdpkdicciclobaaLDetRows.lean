/- DetRows: the law's function answers true. -/
import Derived.Test.YtdpkdicciclobaaPtdet
import Derived.Test.YtdpkdicciclobaaPref
import Derived.Test.YtdpkdicciclobaaKDetRows
namespace Go.Proofs.Ytdpkdicciclobaa
open Go Go.Proofs.Ytdpkdicciclobaa.Sx
set_option linter.unusedVariables false
set_option linter.unusedSimpArgs false
theorem six_eq : tree_Det_F ([([2, 1] : List Int), ([0, 3] : List Int)] : List (List Int)) = some (6, 0) := by kernel_rfl
theorem cloneRows_eq {l : List (List Int)} (h : l.length ≤ 1000) : slices_Clone_intL_F l = some l := by
  unfold slices_Clone_intL_F
  rw [ck_some (by omega), List.nil_append]
theorem turned_row {m : List (List Int)} (h : DetOk m) {k : Nat} (hk : k < m.length) {g : List (List Int)} (hg : g.length = m.length) (h0 : g.getD k [] = []) :
    ∃ g', forN (weirkeep_DetRows_B2 m k) m.length 0 g = some g' ∧ g'.length = m.length ∧ (∀ r, r ≠ k → g'.getD r [] = g.getD r []) ∧ (g'.getD k []).length = m.length ∧ ∀ y, y < m.length → gm g' k y = gm m y k := by
  obtain ⟨g', e, h1, h2, h3, h4⟩ := forN_inv (f := weirkeep_DetRows_B2 m k) (fun j g' => g'.length = m.length ∧ (∀ r, r ≠ k → g'.getD r [] = g.getD r []) ∧ (g'.getD k []).length = j ∧ ∀ y, y < j → gm g' k y = gm m y k) (n := m.length) (k := 0) (s := g)
    ⟨hg, fun r _ => rfl, by rw [h0]; rfl, fun y hy => absurd hy (by omega)⟩ fun j g' _ hj ⟨i1, i2, i3, i4⟩ => by
      have hl := h.len
      unfold weirkeep_DetRows_B2
      rw [ck_some (by omega), ck_some (by rw [h.sq.row j (by omega)]; exact hk), ck_some (by omega)]
      refine ⟨_, rfl, by rw [List.length_set, i1], fun r hr => ?_, ?_, fun y hy => ?_⟩
      · rw [getD_set', if_neg fun q => hr q.1]; exact i2 r hr
      · rw [getD_set', if_pos ⟨rfl, by omega⟩, List.length_append, i3]; rfl
      · unfold gm
        rw [getD_set', if_pos ⟨rfl, by omega⟩]
        by_cases w : y = j
        · subst w
          rw [List.getD_eq_getElem?_getD, List.getElem?_append_right (by omega), i3, Nat.sub_self]; rfl
        · rw [List.getD_eq_getElem?_getD, List.getElem?_append_left (by omega), ← List.getD_eq_getElem?_getD]
          exact i4 y (by omega)
  rw [Nat.zero_add] at h3 h4
  exact ⟨g', e, h1, h2, h3, h4⟩
theorem DetRows_true (m : List (List Int)) (i k : Int) : weirkeep_DetRows_F m i k = some true := by
  unfold weirkeep_DetRows_F
  rw [six_eq, bind_some']
  dsimp only
  rw [if_neg (by decide), if_neg (by decide)]
  by_cases h : DetOk m
  case neg =>
    obtain ⟨e, he, eq⟩ := (Det_eq m).2 h
    rw [eq, bind_some']
    dsimp only
    rw [if_pos he, if_neg he, if_pos he]
    rfl
  have hD := (Det_eq m).1 h
  have hsm := dt_small h
  have hl := h.len
  rw [hD, bind_some']
  dsimp only
  rw [if_neg (by decide)]
  by_cases c0 : ((m.length : Nat) : Int) = 0
  · have e1 : dt m.length (gm m) = 1 := by rw [show m.length = 0 by omega]; rfl
    rw [if_pos c0, if_pos rfl, if_pos e1]
  rw [if_neg c0]
  obtain ⟨x, ex, x0, x1⟩ := rest_ok (n := i) (m := (m.length : Int)) (by omega) (by omega)
  obtain ⟨y, ey, y0, y1⟩ := rest_ok (n := k) (m := (m.length : Int)) (by omega) (by omega)
  rw [ex, bind_some', ey, bind_some', cloneRows_eq (by omega), bind_some', ck_some ⟨y0, y1⟩, ck_some ⟨x0, x1⟩, ck_some (by omega), bind_some', ck_some ⟨x0, x1⟩]
  obtain ⟨a, rfl⟩ := Int.eq_ofNat_of_zero_le x0
  obtain ⟨b, rfl⟩ := Int.eq_ofNat_of_zero_le y0
  simp only [Int.ofNat_eq_natCast, Int.toNat_natCast] at *
  have ha : a < m.length := by omega
  have hb : b < m.length := by omega
  have ra := h.sq.row a ha
  have rb := h.sq.row b hb
  rw [clone_ints (by omega), bind_some', ck_some ⟨x0, x1⟩]
  -- the loop
  obtain ⟨s, es, s1, s2, s3, s4⟩ := forN_inv (f := weirkeep_DetRows_B1 m a b) (fun j s => s.1.length = m.length ∧ (∀ r, r < m.length → (r < j → (s.1.getD r []).length = m.length ∧ ∀ y, y < m.length → gm s.1 r y = gm m y r) ∧ (j ≤ r → s.1.getD r [] = [])) ∧ s.2.length = m.length ∧
      ∀ y, y < m.length → s.2.getD y 0 = if a ≠ b ∧ y < j then gm m a y + gm m b y else gm m a y) (n := m.length) (k := 0) (s := (List.replicate m.length ([] : List Int), m.getD a []))
    ⟨by simp, fun r hr => ⟨fun q => absurd q (by omega), fun _ => by dsimp only; rw [getD_replicate', if_pos hr]⟩, ra, fun y hy => by rw [if_neg (by omega)]; rfl⟩ fun j s _ hj ⟨i1, i2, i3, i4⟩ => by
      obtain ⟨g, l⟩ := s
      dsimp only at i1 i2 i3 i4
      have hj' : j < m.length := by omega
      unfold weirkeep_DetRows_B1
      dsimp only
      obtain ⟨g', e1, g1, g2, g3, g4⟩ := turned_row h hj' i1 ((i2 j hj').2 (Nat.le_refl _))
      rw [e1, bind_some']
      have hrows : ∀ r, r < m.length → (r < j + 1 → (g'.getD r []).length = m.length ∧ ∀ y, y < m.length → gm g' r y = gm m y r) ∧ (j + 1 ≤ r → g'.getD r [] = []) := fun r hr => by
        refine ⟨fun hrj => ?_, fun hrj => ?_⟩
        · by_cases w : r = j
          · subst w; exact ⟨g3, g4⟩
          · have := (i2 r hr).1 (by omega)
            unfold gm at this ⊢
            rw [g2 r w]
            exact this
        · rw [g2 r (by omega)]; exact (i2 r hr).2 (by omega)
      by_cases c : (a : Int) ≠ (b : Int)
      · have ej : l.getD j 0 = gm m a j := by rw [i4 j hj', if_neg (by omega)]
        have eb : (m.getD b []).getD j (0 : Int) = gm m b j := rfl
        have b1 := h.b a j ha hj'
        have b2 := h.b b j hb hj'
        rw [if_pos c, ck_some (by omega), ck_some ⟨y0, y1⟩, ck_some (by rw [Int.toNat_natCast, rb]; exact hj'), Int.toNat_natCast, ej, eb, ck_some (inI_small (by omega) (by omega))]
        refine ⟨_, rfl, g1, hrows, by dsimp only; rw [List.length_set, i3], fun y hy => ?_⟩
        dsimp only
        rw [getD_set']
        by_cases w : y = j
        · rw [if_pos ⟨w, by omega⟩, if_pos (by omega), w]
        · rw [if_neg fun q => w q.1, i4 y hy]
          by_cases z : a ≠ b ∧ y < j
          · rw [if_pos z, if_pos (by omega)]
          · rw [if_neg z, if_neg (by omega)]
      · rw [if_neg c]
        refine ⟨_, rfl, g1, hrows, i3, fun y hy => ?_⟩
        dsimp only
        rw [i4 y hy, if_neg (by omega), if_neg (by omega)]
  obtain ⟨g, l⟩ := s
  dsimp only at s1 s2 s3 s4
  rw [Nat.zero_add] at s2 s4
  rw [es, bind_some']
  dsimp only
  -- turned
  have ht : DetOk g := by
    refine ⟨by omega, ⟨rfl, fun r hr => ?_⟩, fun r c hr hc => ?_⟩
    · rw [s1] at hr ⊢; exact ((s2 r hr).1 hr).1
    · rw [s1] at hr hc
      rw [((s2 r hr).1 hr).2 c hc]; exact h.b c r hc hr
  have et : dt g.length (gm g) = dt m.length (gm m) := by
    rw [s1, ← dt_turn m.length (gm m)]
    exact dt_congr fun r c hr hc => ((s2 r hr).1 hr).2 c hc
  -- exchanged
  have hsw : gm ((m.set a (m.getD b [])).set b (m.getD a [])) = if a = b then gm m else rswap (gm m) a b := by
    funext r c
    by_cases w : a = b
    · subst w
      rw [if_pos rfl]
      unfold gm
      rw [getD_set', getD_set', List.length_set]
      by_cases z : r = a
      · rw [if_pos ⟨z, ha⟩, z]
      · rw [if_neg fun q => z q.1, if_neg fun q => z q.1]
    · rw [if_neg w]
      unfold gm rswap
      rw [getD_set', getD_set', List.length_set]
      by_cases z : r = b
      · rw [if_pos ⟨z, hb⟩, if_neg (by omega), if_pos z]
      · rw [if_neg fun q => z q.1]
        by_cases u : r = a
        · rw [if_pos ⟨u, ha⟩, if_pos u]
        · rw [if_neg fun q => u q.1, if_neg u, if_neg z]
  have lsw : ((m.set a (m.getD b [])).set b (m.getD a [])).length = m.length := by rw [List.length_set, List.length_set]
  have hs : DetOk ((m.set a (m.getD b [])).set b (m.getD a [])) := by
    refine ⟨by omega, by rw [lsw]; exact (h.sq.set rb).set ra, fun r c hr hc => ?_⟩
    rw [lsw] at hr hc
    rw [hsw]
    by_cases w : a = b
    · rw [if_pos w]; exact h.b r c hr hc
    · rw [if_neg w]
      unfold rswap
      refine h.b _ c ?_ hc
      split
      · exact hb
      · split <;> omega
  have es1 : dt ((m.set a (m.getD b [])).set b (m.getD a [])).length (gm ((m.set a (m.getD b [])).set b (m.getD a []))) = if a = b then dt m.length (gm m) else -dt m.length (gm m) := by
    rw [lsw, hsw]
    by_cases w : a = b
    · rw [if_pos w, if_pos w]
    · rw [if_neg w, if_neg w, dt_rswap ha hb w]
  -- added
  have hadd : ∃ c f, tree_Det_F (m.set a l) = some (c, f) ∧ (f ≠ 0 ∨ f = 0 ∧ c = dt m.length (gm m)) := by
    by_cases hA : DetOk (m.set a l)
    · refine ⟨_, _, (Det_eq _).1 hA, .inr ⟨rfl, ?_⟩⟩
      rw [List.length_set]
      by_cases w : a = b
      · refine dt_congr fun r c hr hc => ?_
        unfold gm
        rw [getD_set']
        by_cases z : r = a
        · rw [if_pos ⟨z, ha⟩, s4 c hc, if_neg (by omega), z]; rfl
        · rw [if_neg fun q => z q.1]
      · rw [← dt_radd ha hb w (gm m) 1]
        refine dt_congr fun r c hr hc => ?_
        by_cases z : r = a
        · rw [z, rset_at]
          unfold gm
          rw [getD_set', if_pos ⟨rfl, ha⟩, s4 c hc, if_pos ⟨w, hc⟩, Int.one_mul]; rfl
        · rw [rset_ne z]
          unfold gm
          rw [getD_set', if_neg fun q => z q.1]
    · obtain ⟨e, he, eq⟩ := (Det_eq _).2 hA
      exact ⟨_, _, eq, .inl he⟩
  obtain ⟨c, f, ec, hc⟩ := hadd
  rw [(Det_eq _).1 hs, bind_some', (Det_eq _).1 ht, bind_some', ec, bind_some', es1, et]
  dsimp only
  rw [if_pos rfl, if_pos rfl]
  have last : (if f ≠ 0 then some true else some (decide (c = dt m.length (gm m)))) = some true := by
    rcases hc with w | ⟨w, z⟩
    · rw [if_pos w]
    · rw [if_neg (by omega), decide_eq_true z]
  by_cases w : a = b
  · rw [if_pos (by omega), if_pos w, if_pos rfl, if_pos rfl]
    exact last
  · have := abs_le hsm
    rw [if_neg (by omega), if_pos (by omega), if_neg w, ck_some (by unfold InI; omega), if_pos rfl, if_pos rfl]
    exact last
end Go.Proofs.Ytdpkdicciclobaa
