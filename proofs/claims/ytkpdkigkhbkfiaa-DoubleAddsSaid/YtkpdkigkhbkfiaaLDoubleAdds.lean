/- DoubleAdds: the law's function answers true. -/
import Derived.Test.YtkpdkigkhbkfiaaPdoub
import Derived.Test.YtkpdkigkhbkfiaaPnum
import Derived.Test.YtkpdkigkhbkfiaaPref
import Derived.Test.YtkpdkigkhbkfiaaKDoubleAdds
namespace Go.Proofs.Ytkpdkigkhbkfiaa
open Go Go.Proofs.Ytkpdkigkhbkfiaa.Sx
set_option linter.unusedVariables false
set_option linter.unusedSimpArgs false
theorem doublesA_eq : weirkeep_doubles_F = some true := by kernel_rfl
theorem tot_bA {f : Nat → Int} {B : Int} : ∀ {m : Nat}, (∀ i, i < m → 0 ≤ f i ∧ f i ≤ B) → 0 ≤ tot f m ∧ tot f m ≤ B * (m : Int)
  | 0, _ => by simp [tot]
  | m + 1, h => by
    have := tot_bA (f := f) (B := B) (m := m) fun i hi => h i (by omega)
    have := h m (by omega)
    have e : tot f (m + 1) = tot f m + f m := rfl
    rw [e, Int.natCast_succ, Int.mul_add]
    omega
/-- Check of a table whose lines are all as much: that, or an entry is too great. -/
theorem check_more {t : List (List Int)} {n : Nat} {s : Int} (hl : t.length = n) (h0 : 0 < n) (h6 : n ≤ 6) (hr : ∀ i, i < n → (t.getD i []).length = n) (hp : ∀ i k, i < n → k < n → 0 ≤ Mt t i k) (hs : ∀ i, i < n → tot (Mt t i) n = s) (hc : ∀ k, k < n → tot (fun i => Mt t i k) n = s) :
    double_Check_F t = some (s, 0) ∨ double_Check_F t = some (0, 1) := by
  unfold double_Check_F
  rw [if_neg (by omega), hl]
  obtain ⟨q, e, hq⟩ := forC_or (f := double_Check_B1 t) (fun j x => (∀ i, i < j → ∀ k, k < n → Mt t i k ≤ 1000) ∧ x = if j = 0 then 0 else s) (fun q => match q with | .go x => (∀ i, i < n → ∀ k, k < n → Mt t i k ≤ 1000) ∧ x = s | .ret r => r = (0, 1)) (n := n) (k := 0) (s := (0 : Int)) ⟨fun i hi => absurd hi (by omega), rfl⟩ (fun j x _ hj ⟨i1, i2⟩ => by
    have hj' : j < n := by omega
    have rl := hr j hj'
    unfold double_Check_B1
    rw [if_neg (by omega)]
    obtain ⟨q2, e2, hq2⟩ := forC_or (f := double_Check_B2 t j) (fun l y => (∀ k, k < l → Mt t j k ≤ 1000) ∧ y = if j = 0 then tot (Mt t 0) l else x) (fun q => match q with | .go y => (∀ k, k < n → Mt t j k ≤ 1000) ∧ y = (if j = 0 then tot (Mt t 0) n else x) | .ret r => r = .ret (0, 1)) (n := (t.getD j []).length) (k := 0) (s := x) ⟨fun k hk => absurd hk (by omega), by
        rw [i2]
        by_cases z : j = 0
        · rw [if_pos z, if_pos z]; rfl
        · rw [if_neg z, if_neg z]⟩ (fun l y _ hl2 ⟨j1, j2⟩ => by
      have hl' : l < n := by omega
      have ep := hp j l hj' hl'
      have hd : (t.getD j []).getD l 0 = Mt t j l := rfl
      unfold double_Check_B2
      rw [hd, if_neg (by omega)]
      by_cases d2 : 1000 < Mt t j l
      · rw [if_pos d2]; exact .inr (.inr ⟨_, rfl, rfl⟩)
      rw [if_neg d2]
      have hnew : ∀ k, k < l + 1 → Mt t j k ≤ 1000 := fun k hk => by
        by_cases z : k = l
        · subst z; omega
        · exact j1 k (by omega)
      by_cases d3 : ((j : Nat) : Int) = 0
      · have d3' : j = 0 := by omega
        subst d3'
        rw [if_pos rfl] at j2
        have hb := tot_bA (f := Mt t 0) (B := 1000) (m := l) fun k hk => ⟨hp 0 k h0 (by omega), j1 k hk⟩
        rw [if_pos d3, ck_some (inI_small (by omega) (by omega))]
        refine .inl ⟨_, rfl, hnew, ?_⟩
        rw [if_pos rfl, j2]; rfl
      · rw [if_neg d3]
        refine .inl ⟨_, rfl, hnew, ?_⟩
        rw [if_neg (by omega)] at j2 ⊢
        exact j2) (fun y ⟨j1, j2⟩ => by rw [Nat.zero_add, rl] at j1 j2; exact ⟨j1, j2⟩)
    rw [e2, bind_some']
    match q2, hq2 with
    | .ret r, h => subst h; exact .inr (.inr ⟨_, rfl, rfl⟩)
    | .go y, ⟨j1, j2⟩ =>
      refine .inl ⟨_, rfl, fun i hi => ?_, ?_⟩
      · by_cases z : i = j
        · rw [z]; exact j1
        · exact i1 i (by omega)
      · rw [if_neg (by omega), j2]
        by_cases z : j = 0
        · rw [if_pos z]; exact hs 0 h0
        · rw [if_neg z, i2, if_neg z]) (fun x ⟨i1, i2⟩ => by
      rw [Nat.zero_add] at i1 i2
      exact ⟨i1, by rw [i2, if_neg (by omega)]⟩)
  rw [e, bind_some']
  match q, hq with
  | .ret r, h => exact .inr (by dsimp only; rw [h])
  | .go x, ⟨h1, h2⟩ =>
    subst h2
    dsimp only
    left
    obtain ⟨u, e3, _⟩ := forC_inv (f := double_Check_B3 t x) (ρ := Int × Int) (fun _ _ => True) (n := n) (k := 0) (s := ()) trivial fun j _ _ hj _ => by
      have hj' : j < n := by omega
      unfold double_Check_B3
      rw [hl]
      obtain ⟨σ, e4, g1⟩ := forN_inv (f := double_Check_B4 t j) (fun l σ => σ = (tot (Mt t j) l, tot (fun k => Mt t k j) l)) (n := n) (k := 0) (s := ((0 : Int), (0 : Int))) rfl fun l σ _ hl3 hσ => by
        subst hσ
        have hl' : l < n := by omega
        have r1 := hr j hj'
        have r2 := hr l hl'
        have b1 := tot_bA (f := Mt t j) (B := 1000) (m := l) fun k hk => ⟨hp j k hj' (by omega), h1 j hj' k (by omega)⟩
        have b2 := tot_bA (f := fun k => Mt t k j) (B := 1000) (m := l) fun k hk => ⟨hp k j (by omega) hj', h1 k (by omega) j hj'⟩
        have b3 := h1 j hj' l hl'
        have b3' := hp j l hj' hl'
        have b4 := h1 l hl' j hj'
        have b4' := hp l j hl' hj'
        have d1 : (t.getD j []).getD l 0 = Mt t j l := rfl
        have d2 : (t.getD l []).getD j 0 = Mt t l j := rfl
        unfold double_Check_B4
        dsimp only
        rw [d1, d2, ck_some (by omega), ck_some (inI_small (by omega) (by omega)), ck_some (by omega), ck_some (inI_small (by omega) (by omega))]
        exact ⟨_, rfl, rfl⟩
      rw [e4, bind_some', g1, Nat.zero_add]
      dsimp only
      rw [if_neg (fun w => w (hs j hj')), if_neg (fun w => w (hc j hj'))]
      exact ⟨_, rfl, trivial⟩
    rw [e3, bind_some']
theorem set_rows {t : List (List Int)} {i : Nat} {v : List Int} (hi : i < t.length) (r : Nat) : (t.set i v).getD r [] = if r = i then v else t.getD r [] := by
  rw [getD_set']
  by_cases w : r = i
  · rw [if_pos ⟨w, hi⟩, if_pos w]
  · rw [if_neg fun q => w q.1, if_neg w]
theorem both_loop {t u : List (List Int)} {n : Nat} {r8 : Int} {k : Nat} (hk : k < n) (hn : n ≤ 6) (lt : t.length = n) (rt : (t.getD k []).length = n) (bt : ∀ j, j < n → 0 ≤ Mt t k j ∧ Mt t k j ≤ 1000) {g : List (List Int)} (lg : g.length = n)
    (hc : r8 = 0 → u.length = n → (u.getD k []).length = n ∧ ∀ j, j < n → 0 ≤ Mt u k j ∧ Mt u k j ≤ 1000) (hg : r8 = 0 → u.length = n → g.getD k [] = []) :
    ∃ g', forN (weirkeep_DoubleAdds_B2 t u r8 k) n 0 g = some g' ∧ g'.length = n ∧ (∀ r, r ≠ k → g'.getD r [] = g.getD r []) ∧ (r8 = 0 → u.length = n → (g'.getD k []).length = n ∧ ∀ j, j < n → Mt g' k j = Mt t k j + Mt u k j) := by
  obtain ⟨g', e, h1, h2, h3⟩ := forN_inv (f := weirkeep_DoubleAdds_B2 t u r8 k) (fun l g' => g'.length = n ∧ (∀ r, r ≠ k → g'.getD r [] = g.getD r []) ∧ (r8 = 0 → u.length = n → (g'.getD k []).length = l ∧ ∀ j, j < l → Mt g' k j = Mt t k j + Mt u k j)) (n := n) (k := 0) (s := g)
    ⟨lg, fun _ _ => rfl, fun a b => ⟨by rw [hg a b]; rfl, fun j hj => absurd hj (by omega)⟩⟩ fun l g' _ hl ⟨i1, i2, i3⟩ => by
      have hl' : l < n := by omega
      unfold weirkeep_DoubleAdds_B2
      by_cases c1 : r8 = 0
      · by_cases c2 : ((u.length : Nat) : Int) = ((t.length : Nat) : Int)
        · have hu : u.length = n := by omega
          obtain ⟨a1, a2⟩ := hc c1 hu
          obtain ⟨b1, b2⟩ := i3 c1 hu
          have e1 : (t.getD k []).getD l (0 : Int) = Mt t k l := rfl
          have e2 : (u.getD k []).getD l (0 : Int) = Mt u k l := rfl
          have := bt l hl'
          have := a2 l hl'
          rw [if_pos c1, if_pos c2, ck_some (by omega), ck_some (by omega), ck_some (by omega), ck_some (by omega), e1, e2, ck_some (inI_small (by omega) (by omega)), ck_some (by omega)]
          refine ⟨_, rfl, by rw [List.length_set, i1], fun r hr => ?_, fun _ _ => ⟨?_, fun j hj => ?_⟩⟩
          · rw [set_rows (by omega), if_neg hr]; exact i2 r hr
          · rw [set_rows (by omega), if_pos rfl, List.length_append, b1]; rfl
          · unfold Mt
            rw [set_rows (by omega), if_pos rfl]
            by_cases z : j = l
            · subst z
              rw [List.getD_eq_getElem?_getD, List.getElem?_append_right (by omega), b1, Nat.sub_self]; rfl
            · rw [List.getD_eq_getElem?_getD, List.getElem?_append_left (by omega), ← List.getD_eq_getElem?_getD]
              exact b2 j (by omega)
        · rw [if_pos c1, if_neg c2]
          exact ⟨_, rfl, i1, i2, fun _ b => absurd b (by omega)⟩
      · rw [if_neg c1]
        exact ⟨_, rfl, i1, i2, fun a => absurd a c1⟩
  rw [Nat.zero_add] at h3
  exact ⟨g', e, h1, h2, h3⟩
theorem DoubleAdds_true (t u : List (List Int)) (way : List Int) (by_ : Int) (hw : way.length ≤ 17592186044416) : weirkeep_DoubleAdds_F t u way by_ = some true := by
  unfold weirkeep_DoubleAdds_F
  rw [doublesA_eq, bind_some', if_neg (by decide)]
  have hu : ∃ b f, double_Check_F u = some (b, f) ∧ (f = 0 → Dbl u.length u b ∧ 0 ≤ b ∧ b ≤ 6000 ∧ ∀ i k, i < u.length → k < u.length → Mt u i k ≤ 1000) := by
    rcases check_dbl u with ⟨s, _, h2, h3, h4, _, h6, h7⟩ | ⟨e, he, h⟩
    · exact ⟨s, 0, h7, fun _ => ⟨h2, h3, h4, h6⟩⟩
    · exact ⟨0, e, h, fun z => absurd z he⟩
  obtain ⟨b, f, eu, hu⟩ := hu
  rcases check_dbl t with ⟨a, h6, hT, a0, a1, az, ht, et⟩ | ⟨e, he, h⟩
  case inr =>
    rw [h, bind_some']
    dsimp only
    rw [eu, bind_some']
    dsimp only
    rw [if_pos he]; rfl
  rw [et, bind_some']
  dsimp only
  rw [eu, bind_some']
  dsimp only
  rw [if_neg (by decide)]
  by_cases c0 : ((t.length : Nat) : Int) = 0
  · rw [if_pos c0, decide_eq_true (az (by omega))]
  obtain ⟨y, ey, y0, y1⟩ := rest_ok (n := by_) (m := 20) (by decide) (by decide)
  rw [if_neg c0, ey, bind_some', ck_some (by omega)]
  obtain ⟨n, hn⟩ : ∃ n, t.length = n := ⟨_, rfl⟩
  rw [hn] at hT ht h6 c0 ⊢
  have n0 : 0 < n := by omega
  obtain ⟨w, ew, hnum⟩ := numbers_cases hw ((n : Nat) : Int)
  have bt : ∀ i k, i < n → k < n → 0 ≤ Mt t i k ∧ Mt t i k ≤ 1000 := fun i k hi hk => ⟨hT.b i k hi hk, ht i k hi hk⟩
  -- what is added at the ways' places
  obtain ⟨σ, eσ, g1, g2, g3, g4, g5⟩ := forN_inv (f := weirkeep_DoubleAdds_B1 t u way f y) (fun j σ => σ.1.length = n ∧ σ.2.length = n ∧ (∀ i, i < j → (σ.2.getD i []).length = n ∧ ∀ k, k < n → Mt σ.2 i k = Mt t i k + if w = true ∧ k = (way.getD i 0).toNat then y else 0) ∧
      (f = 0 → u.length = n → ∀ i, i < j → (σ.1.getD i []).length = n ∧ ∀ k, k < n → Mt σ.1 i k = Mt t i k + Mt u i k) ∧ ∀ i, j ≤ i → i < n → σ.1.getD i [] = []) (n := n) (k := 0) (s := (List.replicate ((n : Nat) : Int).toNat ([] : List Int), List.replicate ((n : Nat) : Int).toNat ([] : List Int)))
    ⟨by simp, by simp, fun i hi => absurd hi (by omega), fun _ _ i hi => absurd hi (by omega), fun i _ hi => by dsimp only; rw [getD_replicate', if_pos (by omega)]⟩ fun j σ _ hj ⟨i1, i2, i3, i4, i5⟩ => by
      obtain ⟨g, m⟩ := σ
      dsimp only at i1 i2 i3 i4 i5
      have hj' : j < n := by omega
      have rt := hT.row j hj'
      have ec : slices_Clone_int_F (t.getD j []) = some (t.getD j []) := by
        unfold slices_Clone_int_F
        rw [ck_some (by omega), List.nil_append]
      unfold weirkeep_DoubleAdds_B1
      dsimp only
      rw [hn, ec, bind_some', ck_some (by omega), ew, bind_some']
      -- the row with more
      obtain ⟨m', em, m1, m2, m3, m4⟩ : ∃ m', ((if w = true then ck (j < way.length) <| ck (0 ≤ (way.getD j (0 : Int)) ∧ (way.getD j (0 : Int)) < ((((m.set j (t.getD j [])).getD j []).length : Nat) : Int)) <| ck (InI ((((m.set j (t.getD j [])).getD j []).getD ((way.getD j (0 : Int)).toNat) (0 : Int)) + y)) <|
          some ((m.set j (t.getD j [])).set j (((m.set j (t.getD j [])).getD j []).set ((way.getD j (0 : Int)).toNat) ((((m.set j (t.getD j [])).getD j []).getD ((way.getD j (0 : Int)).toNat) (0 : Int)) + y))) else some (m.set j (t.getD j []))) : Option (List (List Int))) = some m' ∧ m'.length = n ∧ (∀ i, i ≠ j → m'.getD i [] = m.getD i []) ∧ (m'.getD j []).length = n ∧ ∀ k, k < n → Mt m' j k = Mt t j k + if w = true ∧ k = (way.getD j 0).toNat then y else 0 := by
        have er : (m.set j (t.getD j [])).getD j [] = t.getD j [] := by rw [set_rows (by omega), if_pos rfl]
        rw [er]
        by_cases c : w = true
        · obtain ⟨p1, p2, p3⟩ := hnum c
          have r := p3 j (by omega)
          have e1 : (t.getD j []).getD ((way.getD j (0 : Int)).toNat) (0 : Int) = Mt t j (way.getD j 0).toNat := rfl
          have := bt j (way.getD j 0).toNat hj' (by omega)
          rw [if_pos c, ck_some (by omega), ck_some (by omega), e1, ck_some (inI_small (by omega) (by omega))]
          refine ⟨_, rfl, by rw [List.length_set, List.length_set, i2], fun i hi => ?_, ?_, fun k hk => ?_⟩
          · rw [set_rows (by rw [List.length_set]; omega), if_neg hi, set_rows (by omega), if_neg hi]
          · rw [set_rows (by rw [List.length_set]; omega), if_pos rfl, List.length_set]; exact rt
          · unfold Mt
            rw [set_rows (by rw [List.length_set]; omega), if_pos rfl, getD_set']
            by_cases z : k = (way.getD j 0).toNat
            · rw [if_pos ⟨z, by omega⟩, if_pos ⟨c, z⟩, z]
            · rw [if_neg fun q => z q.1, if_neg fun q => z q.2]; omega
        · rw [if_neg c]
          refine ⟨_, rfl, by rw [List.length_set, i2], fun i hi => ?_, ?_, fun k hk => ?_⟩
          · rw [set_rows (by omega), if_neg hi]
          · rw [er]; exact rt
          · unfold Mt
            rw [er, if_neg fun q => c q.1]; omega
      rw [em, bind_some']
      obtain ⟨g', eg, k1, k2, k3⟩ := both_loop (t := t) (u := u) (r8 := f) hj' h6 hn rt (fun l hl => bt j l hj' hl) i1 (fun a b => by
        obtain ⟨d1, _, _, d4⟩ := hu a
        rw [b] at d1 d4
        exact ⟨d1.row j hj', fun l hl => ⟨d1.b j l hj' hl, d4 j l hj' hl⟩⟩) (fun _ _ => i5 j (Nat.le_refl _) hj')
      rw [eg, bind_some']
      refine ⟨_, rfl, k1, m1, fun i hi => ?_, fun a b i hi => ?_, fun i hi hin => ?_⟩
      · by_cases z : i = j
        · rw [z]; exact ⟨m3, m4⟩
        · have := i3 i (by omega)
          unfold Mt at this ⊢
          dsimp only
          rw [m2 i z]; exact this
      · by_cases z : i = j
        · rw [z]; exact k3 a b
        · have := i4 a b i (by omega)
          unfold Mt at this ⊢
          dsimp only
          rw [k2 i z]; exact this
      · dsimp only
        rw [k2 i (by omega)]; exact i5 i (by omega) hin
  obtain ⟨g, m⟩ := σ
  dsimp only at g1 g2 g3 g4 g5
  rw [Nat.zero_add] at g3 g4
  rw [eσ, bind_some']
  dsimp only
  have mid : ((weirref_Numbers_F way ((n : Nat) : Int)).bind fun r70 => if r70 = true then (double_Check_F m).bind fun (r73, r74) => if r74 = 0 then ck (InI (a + y)) <| if r73 ≠ (a + y) then some (.ret false) else if r74 ≠ 0 then if r74 ≠ 1 then some (.ret false) else some (.go ()) else some (.go ()) else if r74 ≠ 0 then if r74 ≠ 1 then some (.ret false) else some (.go ()) else some (.go ()) else some (.go ()) : Option (Ex Unit Bool)) = some (.go ()) := by
    rw [ew, bind_some']
    by_cases c : w = true
    · obtain ⟨p1, p2, p3⟩ := hnum c
      have hl : way.length = n := by omega
      rw [hl] at p2 p3
      rw [if_pos c]
      have on := p2
      have honto : ∀ k, k < n → ∃ i, i < n ∧ (way.getD i 0).toNat = k := fun k hk => by
        -- as many places as numbers
        refine Classical.byContradiction fun hno => ?_
        have h1 : ∀ i, i < n → (way.getD i 0).toNat ≠ k := fun i hi e => hno ⟨i, hi, e⟩
        have h2 : tot (fun i => tot (fun j => if (way.getD i 0).toNat = j then 1 else 0) n) n = (n : Int) := by
          have : tot (fun i => tot (fun j => if (way.getD i 0).toNat = j then (1 : Int) else 0) n) n = tot (fun _ => 1) n := tot_congr fun i hi => by
            rw [tot_single (k := (way.getD i 0).toNat) (p2.lt i hi) (fun j _ hne => if_neg fun w => hne w.symm), if_pos rfl]
          rw [this, tot_const]; omega
        rw [tot_swap] at h2
        have h3 : tot (fun j => tot (fun i => if (way.getD i 0).toNat = j then (1 : Int) else 0) n) n ≤ tot (fun j => if j = k then 0 else 1) n := tot_le fun j hj => by
          by_cases z : j = k
          · rw [if_pos z, tot_zero fun i hi => if_neg (by rw [z]; exact h1 i hi)]; exact Int.le_refl _
          · rw [if_neg z]
            by_cases y : ∃ i, i < n ∧ (way.getD i 0).toNat = j
            · obtain ⟨i, hi, ei⟩ := y
              rw [tot_single (k := i) hi (fun i' hi' hne => if_neg fun w => hne (p2.inj i' i hi' hi (by rw [w, ei]))), if_pos ei]; exact Int.le_refl _
            · rw [tot_zero fun i hi => if_neg fun w => y ⟨i, hi, w⟩]; decide
        have h4 : tot (fun j => if j = k then (0 : Int) else 1) n = (n : Int) - 1 := by
          have : tot (fun j => if j = k then (0 : Int) else 1) n = tot (fun _ => 1) n - tot (fun j => if j = k then 1 else 0) n := by
            rw [← tot_sub]
            exact tot_congr fun j _ => by split <;> rfl
          rw [this, tot_const, tot_single (k := k) hk (fun j _ hne => if_neg hne), if_pos rfl]; omega
        omega
      have chk := check_more (t := m) (n := n) (s := a + y) g2 n0 h6 (fun i hi => (g3 i hi).1) (fun i k hi hk => by
        rw [(g3 i hi).2 k hk]
        have := bt i k hi hk
        split <;> omega) (fun i hi => by
        rw [tot_congr (g := fun k => Mt t i k + if k = (way.getD i 0).toNat then y else 0) fun k hk => by
          rw [(g3 i hi).2 k hk]
          by_cases z : k = (way.getD i 0).toNat
          · rw [if_pos ⟨c, z⟩, if_pos z]
          · rw [if_neg fun q => z q.2, if_neg z], tot_add, tot_single (k := (way.getD i 0).toNat) (p2.lt i hi) (fun k _ hne => if_neg hne), if_pos rfl]
        have : tot (fun k => Mt t i k) n = a := hT.rs i hi
        rw [this]) (fun k hk => by
        obtain ⟨i0, hi0, ei0⟩ := honto k hk
        rw [tot_congr (g := fun i => Mt t i k + if i = i0 then y else 0) fun i hi => by
          rw [(g3 i hi).2 k hk]
          by_cases z : i = i0
          · rw [if_pos ⟨c, by rw [z, ei0]⟩, if_pos z]
          · rw [if_neg fun q => z (p2.inj i i0 hi hi0 (by rw [← q.2, ei0])), if_neg z], tot_add, tot_single (k := i0) hi0 (fun i _ hne => if_neg hne), if_pos rfl, hT.cs k hk])
      rcases chk with e | e
      · rw [e, bind_some']
        dsimp only
        rw [if_pos rfl, ck_some (inI_small (by omega) (by omega)), if_neg (fun z => z rfl), if_neg (by decide)]
      · rw [e, bind_some']
        dsimp only
        rw [if_neg (by decide), if_pos (by decide), if_neg (by decide)]
    · rw [if_neg c]
  have mid' := mid
  rw [mid', bind_some']
  dsimp only
  by_cases c1 : f ≠ 0
  · rw [if_pos c1]
  rw [if_neg c1]
  have f0 : f = 0 := Classical.byContradiction c1
  by_cases c2 : ((u.length : Nat) : Int) ≠ ((n : Nat) : Int)
  · rw [if_pos c2]
  rw [if_neg c2]
  have un : u.length = n := by omega
  obtain ⟨d1, d2, d3, d4⟩ := hu f0
  rw [un] at d1 d4
  have chk := check_more (t := g) (n := n) (s := a + b) g1 n0 h6 (fun i hi => (g4 f0 un i hi).1) (fun i k hi hk => by
    rw [(g4 f0 un i hi).2 k hk]
    have := bt i k hi hk
    have := d1.b i k hi hk
    omega) (fun i hi => by
    rw [tot_congr (g := fun k => Mt t i k + Mt u i k) fun k hk => (g4 f0 un i hi).2 k hk, tot_add]
    have e1 : tot (fun k => Mt t i k) n = a := hT.rs i hi
    have e2 : tot (fun k => Mt u i k) n = b := d1.rs i hi
    rw [e1, e2]) (fun k hk => by
    rw [tot_congr (g := fun i => Mt t i k + Mt u i k) fun i hi => (g4 f0 un i hi).2 k hk, tot_add, hT.cs k hk, d1.cs k hk])
  rcases chk with e | e
  · rw [e, bind_some']
    dsimp only
    rw [if_neg (by decide), if_pos rfl, ck_some (inI_small (by omega) (by omega)), decide_eq_true rfl]
  · rw [e, bind_some']
    dsimp only
    rw [if_pos rfl]
end Go.Proofs.Ytkpdkigkhbkfiaa
