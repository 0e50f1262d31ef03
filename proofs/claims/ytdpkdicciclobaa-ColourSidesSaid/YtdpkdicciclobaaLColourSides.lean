/- ColourSides: the law's function answers true. -/
import Derived.Test.YtdpkdicciclobaaPkoenig2
import Derived.Test.YtdpkdicciclobaaKColourSides
namespace Go.Proofs.Ytdpkdicciclobaa
open Go Go.Proofs.Ytdpkdicciclobaa.Sx
set_option linter.unusedVariables false
set_option linter.unusedSimpArgs false
/-- the greatest number of arcs at one of the first nodes -/
def mxD (g : Graph) : Nat → Int
  | 0 => 0
  | k + 1 => max (mxD g k) (outs g.as k + inns g.as k)
theorem mxD_le (g : Graph) : ∀ {n u : Nat}, u < n → outs g.as u + inns g.as u ≤ mxD g n
  | n + 1, u, h => by
    rw [mxD]
    by_cases c : u = n
    · subst c; omega
    · have := mxD_le g (n := n) (u := u) (by omega); omega
theorem mxD_b (g : Graph) : ∀ n, 0 ≤ mxD g n ∧ mxD g n ≤ 2 * g.as.length
  | 0 => ⟨Int.le_refl _, by show (0 : Int) ≤ _; omega⟩
  | n + 1 => by
    have := mxD_b g n
    have := outs_le g.as n
    have := inns_le g.as n
    rw [mxD]; omega
theorem Colo.add {g : Graph} {s : Nat → Bool} {D k : Nat} {col : List Int} {at_ : List (List Int)} (hB : Bip2 g s) (hk : k < g.as.length) (h : Colo g D k col at_) {x y c : Nat} (hxy : (x = fA g k ∧ y = tA g k) ∨ (x = tA g k ∧ y = fA g k)) (hc : c < D) (hx0 : en at_ x c = 0) (hy0 : en at_ y c = 0) :
    Colo g D (k + 1) (col.set k (c : Int)) (stE (stE at_ x c (((k + 1 : Nat) : Int))) y c ((k + 1 : Nat) : Int)) := by
  obtain ⟨⟨r1, r2⟩, _, _⟩ := hB.rng hk
  have hx : x < g.n.toNat := by rcases hxy with ⟨a, b⟩ | ⟨a, b⟩ <;> omega
  have hy : y < g.n.toNat := by rcases hxy with ⟨a, b⟩ | ⟨a, b⟩ <;> omega
  have s1 := h.rc.st x c ((k + 1 : Nat) : Int)
  have ev : ∀ u γ, en (stE (stE at_ x c ((k + 1 : Nat) : Int)) y c ((k + 1 : Nat) : Int)) u γ = if (u = x ∨ u = y) ∧ γ = c then (k : Int) + 1 else en at_ u γ := fun u γ => by
    rw [en_st s1 hy hc, en_st h.rc hx hc]
    by_cases q1 : u = y ∧ γ = c
    · rw [if_pos q1, if_pos ⟨.inr q1.1, q1.2⟩]; omega
    · rw [if_neg q1]
      by_cases q2 : u = x ∧ γ = c
      · rw [if_pos q2, if_pos ⟨.inl q2.1, q2.2⟩]; omega
      · rw [if_neg q2, if_neg (fun z => z.1.elim (fun w => q2 ⟨w, z.2⟩) fun w => q1 ⟨w, z.2⟩)]
  have hcl := h.cl
  refine ⟨by simpa using hcl, s1.st _ _ _, fun j hj => ?_, fun u γ hu hγ => ?_⟩
  · by_cases q : j = k
    · subst q
      refine ⟨c, hc, by rw [getD_set', if_pos ⟨rfl, by omega⟩], ?_, ?_⟩
      · rw [ev, if_pos ⟨by rcases hxy with ⟨a, b⟩ | ⟨a, b⟩ <;> omega, rfl⟩]
      · rw [ev, if_pos ⟨by rcases hxy with ⟨a, b⟩ | ⟨a, b⟩ <;> omega, rfl⟩]
    · obtain ⟨γ, g1, g2, g3, g4⟩ := h.e1 j (by omega)
      have free : ∀ u, (u = x ∨ u = y) ∧ γ = c → en at_ u γ = (j : Int) + 1 → False := fun u ⟨z1, z2⟩ e => by
        subst z2
        rcases z1 with rfl | rfl <;> omega
      refine ⟨γ, g1, by rw [getD_set', if_neg (fun z => q z.1)]; exact g2, ?_, ?_⟩
      · rw [ev, if_neg (fun z => free _ z g3)]; exact g3
      · rw [ev, if_neg (fun z => free _ z g4)]; exact g4
  · rw [ev]
    by_cases q : (u = x ∨ u = y) ∧ γ = c
    · rw [if_pos q]
      refine .inr ⟨k, by omega, rfl, ?_, by rw [getD_set', if_pos ⟨rfl, by omega⟩, q.2]⟩
      unfold inc
      rcases hxy with ⟨a, b⟩ | ⟨a, b⟩ <;> rcases q.1 with w | w <;> omega
    · rw [if_neg q]
      refine (h.e2 u γ hu hγ).imp id fun ⟨j, hj, h1, h2, h3⟩ => ⟨j, by omega, h1, h2, ?_⟩
      rw [getD_set', if_neg (fun z => by omega)]; exact h3
theorem row_index {n D : Nat} {at_ : List (List Int)} (hr : Rc n D at_) {u c : Nat} (hu : u < n) (hc : c < D) (h0 : en at_ u c = 0) : ∃ r : Nat, slices_Index_int_F (at_.getD u []) 0 = some (r : Int) ∧ r < D ∧ en at_ u r = 0 := by
  obtain ⟨r, e, h⟩ := indexK_eq (at_.getD u []) 0
  have hl := hr.l1 u hu
  rcases h with ⟨_, h⟩ | ⟨h1, h2, h3⟩
  · exact absurd (by rw [← h0]; exact mem_getD (by omega)) h
  · exact ⟨r.toNat, by rw [e]; congr 1; omega, by omega, h3⟩
theorem colour_arc {g : Graph} {r2 : List Int} (hS : Sided g r2) (hB : Bip2 g (fun u => decide (r2.getD u 0 = 1))) {D k : Nat} (hDb : D ≤ 1000) (hD : ∀ u, u < g.n.toNat → outs g.as u + inns g.as u ≤ D) (hk : k < g.as.length) {col : List Int} {at_ : List (List Int)} (h : Colo g D k col at_) :
    ∃ σ, colour_Sides_B3 g r2 k (col, at_) = some σ ∧ Colo g D (k + 1) σ.1 σ.2 := by
  obtain ⟨⟨r1, r2'⟩, rf, rt⟩ := hB.rng hk
  have harc := hS.arc _ (mem_getD (d := (El.d : Arc)) hk)
  unfold atI at harc
  have hl := hS.len
  have hl0 := h.rc.l0
  have hcl := h.cl
  unfold colour_Sides_B3
  dsimp only
  rw [ck_some ⟨by omega, by omega⟩]
  -- which end is on which side
  have pick : ∃ x y : Nat, (if r2.getD (g.as.getD k El.d).f.toNat (0 : Int) = 1 then some ((g.as.getD k El.d).t, (g.as.getD k El.d).f) else some ((g.as.getD k El.d).f, (g.as.getD k El.d).t)) = some ((x : Int), (y : Int)) ∧ ((x = fA g k ∧ y = tA g k) ∨ (x = tA g k ∧ y = fA g k)) ∧ decide (r2.getD x 0 = 1) ≠ decide (r2.getD y 0 = 1) := by
    have hne := hB.arc k hk
    by_cases c : r2.getD (g.as.getD k El.d).f.toNat (0 : Int) = 1
    · exact ⟨tA g k, fA g k, by rw [if_pos c, rf, rt], .inr ⟨rfl, rfl⟩, fun z => hne z.symm⟩
    · exact ⟨fA g k, tA g k, by rw [if_neg c, rf, rt], .inl ⟨rfl, rfl⟩, hne⟩
  obtain ⟨x, y, e0, hxy, hne⟩ := pick
  have hx : x < g.n.toNat := by rcases hxy with ⟨a, b⟩ | ⟨a, b⟩ <;> omega
  have hy : y < g.n.toNat := by rcases hxy with ⟨a, b⟩ | ⟨a, b⟩ <;> omega
  have ix : inc g k x := by unfold inc; rcases hxy with ⟨a, b⟩ | ⟨a, b⟩ <;> omega
  have iy : inc g k y := by unfold inc; rcases hxy with ⟨a, b⟩ | ⟨a, b⟩ <;> omega
  rw [e0, bind_some']
  dsimp only
  rw [ck_some ⟨by omega, by omega⟩, ck_some ⟨by omega, by omega⟩, Int.toNat_natCast, Int.toNat_natCast]
  obtain ⟨c0, c1, c2⟩ := free_colour hB h hk hx ix (hD x hx)
  obtain ⟨d0, d1, d2⟩ := free_colour hB h hk hy iy (hD y hy)
  obtain ⟨c, ec, hc, cx⟩ := row_index h.rc hx c1 c2
  obtain ⟨d, ed, hd, dy⟩ := row_index h.rc hy d1 d2
  rw [ec, bind_some', ed, bind_some', Int.toNat_natCast, show (at_.getD y []).getD c (0 : Int) = en at_ y c from rfl, ck_some ⟨by omega, by rw [h.rc.l1 y hy]; omega⟩]
  have fin : ∃ col' G, (if 0 < en at_ y c then (colour_swap_F g at_ col (y : Int) (c : Int) (d : Int)).bind fun (l73, l74) => ck (l73.length = col.length) (ck (l74.length = at_.length) (some (l73, l74))) else some (col, at_)) = some (col', G) ∧ Colo g D k col' G ∧ en G x c = 0 ∧ en G y c = 0 := by
    by_cases q : 0 < en at_ y c
    · rw [if_pos q]
      obtain ⟨G, col', e, hC, g1, g2⟩ := swap_ok hB (by omega) h hx hy hne hc hd hDb cx dy q
      rw [e, bind_some']
      dsimp only
      rw [ck_some (by rw [hC.cl, hcl]), ck_some (by rw [hC.rc.l0, hl0])]
      exact ⟨_, _, rfl, hC, g1, g2⟩
    · rw [if_neg q]
      refine ⟨_, _, rfl, h, cx, ?_⟩
      rcases h.e2 y c hy hc with z | ⟨j, _, z, _⟩ <;> omega
  obtain ⟨col', G, e1, hC, g1, g2⟩ := fin
  rw [e1, bind_some']
  dsimp only
  have k1 := hC.cl
  have k2 := hC.rc.l0
  rw [ck_some (by omega), ck_some ⟨by omega, by omega⟩, ck_some ⟨by omega, by omega⟩, ck_some ⟨by omega, by rw [hC.rc.l1 x hx]; omega⟩, ck_some ⟨by omega, by rw [hC.rc.l1 y hy]; omega⟩]
  exact ⟨_, rfl, hC.add hB hk hxy hc g1 g2⟩
theorem colours_ok {g : Graph} (hg : Ok g) : (∃ l G, colour_Sides_F g = some (l, mxD g g.n.toNat, 0) ∧ ∃ s, Bip2 g s ∧ Colo g (mxD g g.n.toNat).toNat g.as.length l G) ∨ colour_Sides_F g = some ([], 0, 6) := by
  unfold colour_Sides_F
  rcases sides_ok hg with ⟨r2, e, hS⟩ | e
  · left
    have n0 := hg.n0; have n12 := hg.n1; have hlen := hg.len
    have hB : Bip2 g (fun u => decide (r2.getD u 0 = 1)) := ⟨hg, fun j hj => by
      have := hS.arc _ (mem_getD (d := (El.d : Arc)) hj)
      unfold atI at this
      rcases this with ⟨a, b⟩ | ⟨a, b⟩
      · show decide (r2.getD (fA g j) 0 = 1) ≠ decide (r2.getD (tA g j) 0 = 1)
        rw [show r2.getD (fA g j) 0 = 0 from a, show r2.getD (tA g j) 0 = 1 from b]; decide
      · show decide (r2.getD (fA g j) 0 = 1) ≠ decide (r2.getD (tA g j) 0 = 1)
        rw [show r2.getD (fA g j) 0 = 1 from a, show r2.getD (tA g j) 0 = 0 from b]; decide⟩
    rw [e, bind_some']
    dsimp only
    rw [if_neg (by decide), degrees_ok hg, bind_some']
    dsimp only
    rw [ck_some (by unfold InI; omega)]
    obtain ⟨x, ex, hx⟩ := forN_inv (f := colour_Sides_B1 (nodes (outs g.as) g.n) (nodes (inns g.as) g.n)) (fun k x => x = mxD g k) (n := g.n.toNat) (k := 0) (s := 0) rfl fun k x _ hk hx => by
      have hk' : k < g.n.toNat := by omega
      have := outs_le g.as k
      have := inns_le g.as k
      unfold colour_Sides_B1
      rw [ck_some (by rw [nodes_len]; exact hk'), ck_some (by rw [nodes_len]; exact hk'), nodes_getD _ hk', nodes_getD _ hk', ck_some (by unfold InI; omega)]
      exact ⟨_, rfl, by rw [mxD, hx]⟩
    rw [Nat.zero_add] at hx
    have hb := mxD_b g g.n.toNat
    rw [ex, bind_some', ck_some ⟨by omega, by omega⟩, ck_some ⟨by omega, by omega⟩, hx]
    obtain ⟨G, eG, h1, h2⟩ := forN_inv (f := colour_Sides_B2 (mxD g g.n.toNat)) (fun k G => G.length = g.n.toNat ∧ ∀ u, u < k → G.getD u [] = List.replicate (mxD g g.n.toNat).toNat 0) (n := g.n.toNat) (k := 0) (s := List.replicate g.n.toNat []) ⟨by simp, fun u hu => absurd hu (by omega)⟩ fun k G _ hk ⟨i1, i2⟩ => by
      unfold colour_Sides_B2
      rw [ck_some ⟨by omega, by omega⟩, ck_some (by omega)]
      refine ⟨_, rfl, by simpa using i1, fun u hu => ?_⟩
      rw [getD_set']
      by_cases c : u = k
      · rw [if_pos ⟨c, by omega⟩]
      · rw [if_neg (fun z => c z.1)]; exact i2 u (by omega)
    rw [Nat.zero_add] at h2
    rw [eG, bind_some', Int.toNat_natCast]
    have C0 : Colo g (mxD g g.n.toNat).toNat 0 (List.replicate g.as.length 0) G := ⟨by simp, ⟨h1, fun u hu => by rw [h2 u hu]; simp⟩, fun j hj => absurd hj (by omega), fun u c hu hc => by
      left
      unfold en
      rw [h2 u hu, getD_replicate', if_pos hc]⟩
    obtain ⟨⟨l, G'⟩, e2, hC⟩ := forN_inv (f := colour_Sides_B3 g r2) (fun k σ => Colo g (mxD g g.n.toNat).toNat k σ.1 σ.2) (n := g.as.length) (k := 0) (s := (List.replicate g.as.length 0, G)) C0 fun k σ _ hk hC => by
      obtain ⟨c, G⟩ := σ
      exact colour_arc hS hB (by omega) (fun u hu => by have := mxD_le g hu; omega) (by omega) hC
    rw [e2, bind_some']
    rw [Nat.zero_add] at hC
    exact ⟨l, G', rfl, _, hB, hC⟩
  · right
    rw [e, bind_some']
    dsimp only
    rw [if_pos (by decide)]
def ColourSides_testB : Bool := match weirkeep_line_F with
  | none => false
  | some w => match colour_Sides_F w with
    | none => false
    | some (l, c, e) => decide (e = 0) && decide (c = 2) && decide (l.length = 2) && decide (l.getD 0 0 ≠ l.getD 1 0)
theorem ColourSides_test : ∃ w l c e, weirkeep_line_F = some w ∧ colour_Sides_F w = some (l, c, e) ∧ e = 0 ∧ c = 2 ∧ l.length = 2 ∧ l.getD 0 0 ≠ l.getD 1 0 := by
  have h : ColourSides_testB = true := by kernel_rfl
  unfold ColourSides_testB at h
  split at h
  · cases h
  · rename_i w hw
    split at h
    · cases h
    · rename_i l c e he
      simp only [Bool.and_eq_true, decide_eq_true_eq, and_assoc] at h
      exact ⟨w, l, c, e, hw, he, h⟩
theorem ColourSides_true (g : Graph) : weirkeep_ColourSides_F g = some true := by
  obtain ⟨w, l, c, e, h1, h2, rfl, rfl, h3, h4⟩ := ColourSides_test
  unfold weirkeep_ColourSides_F
  rw [h1, bind_some', h2, bind_some']
  dsimp only
  rw [if_neg (by decide), if_neg (by decide), if_neg (by omega), ck_some (by omega), ck_some (by omega), if_neg h4]
  by_cases hg : Ok g
  · rcases colours_ok hg with ⟨l, G, e, s, hB, hC⟩ | e
    · have n0 := hg.n0; have n12 := hg.n1; have hlen := hg.len
      have hb := mxD_b g g.n.toNat
      have hcl := hC.cl
      rw [e, bind_some']
      dsimp only
      rw [if_neg (by decide), if_neg (by omega), ck_some (by unfold InI; omega)]
      obtain ⟨x, ex, hx⟩ := forC_inv (f := weirkeep_ColourSides_B1 g l) (fun u x => x = mxD g u) (n := g.n.toNat) (k := 0) (s := 0) rfl fun u x _ hu hx => by
        unfold weirkeep_ColourSides_B1
        obtain ⟨c, ec, hc⟩ := forC_inv (f := weirkeep_ColourSides_B2 g l u) (fun j (c : Nat) => (c : Int) = num (fun i => inc g i u) j ∧ c ≤ j) (n := g.as.length) (k := 0) (s := 0) ⟨rfl, Nat.le_refl _⟩ fun j c _ hj ⟨hc, hc2⟩ => by
          have hj' : j < g.as.length := by omega
          obtain ⟨⟨r1, r2⟩, rf, rt⟩ := hB.rng hj'
          unfold weirkeep_ColourSides_B2
          have hsl : (subl g.as 0 j).length = j := by simp [subl_length]; omega
          have at_u : inc g j u → forC (weirkeep_ColourSides_B3 g l u j) ((subl g.as 0 j).length) 0 () = some (.go ()) := fun hju => by
            rw [hsl]
            refine forC_all (n := j) (k := 0) fun i _ hi => ?_
            · have hi' : i < j := by omega
              obtain ⟨⟨p1, p2⟩, pf, pt⟩ := hB.rng (j := i) (by omega)
              unfold weirkeep_ColourSides_B3
              rw [ck_some (by omega), ck_some (by omega)]
              by_cases q : l.getD i 0 = l.getD j 0
              · rw [if_pos q, subl_getD (by omega), Nat.add_zero, pf, pt]
                obtain ⟨γ, _, gc, _⟩ := hC.e1 j hj'
                have apart : ¬ inc g i u := fun z => by
                  have := hC.uniq (by omega) hj' (q.trans gc) gc z hju
                  omega
                rw [if_neg (fun z => apart (.inl (by omega))), if_neg (fun z => apart (.inr (by omega)))]
              · rw [if_neg q]
          by_cases c1 : fA g j = u
          · rw [if_neg (by rw [rf]; omega), bind_some']
            dsimp only
            rw [ck_some (by unfold InI; omega), ck_some (by omega), at_u (.inl c1), bind_some']
            exact ⟨_, rfl, by rw [num_t (.inl c1)]; omega, by omega⟩
          · rw [if_pos (by rw [rf]; omega)]
            by_cases c2 : tA g j = u
            · rw [if_neg (by rw [rt]; omega), bind_some']
              dsimp only
              rw [ck_some (by unfold InI; omega), ck_some (by omega), at_u (.inr c2), bind_some']
              exact ⟨_, rfl, by rw [num_t (.inr c2)]; omega, by omega⟩
            · rw [if_pos (by rw [rt]; omega), bind_some']
              exact ⟨_, rfl, by rw [num_f (fun z => z.elim c1 c2)]; exact hc, by omega⟩
        rw [ec, bind_some']
        refine ⟨_, rfl, ?_⟩
        rw [Nat.zero_add] at hc
        have := inc_count hB u g.as.length (Nat.le_refl _)
        rw [List.take_of_length_le (Nat.le_refl _)] at this
        rw [mxD, hx, hc.1, this]
      rw [ex, bind_some']
      dsimp only
      rw [Nat.zero_add] at hx
      rw [if_pos hx.symm]
      have hall : slices_ContainsFunc_int_weirkeep_ColourSides_c1_F l (mxD g g.n.toNat) = some false := by
        unfold slices_ContainsFunc_int_weirkeep_ColourSides_c1_F slices_IndexFunc_int_weirkeep_ColourSides_c1_F
        rw [forC_all (k := 0) fun i _ hi => ?_]
        · rfl
        · obtain ⟨γ, g1, gc, _⟩ := hC.e1 i (by omega)
          unfold slices_IndexFunc_int_weirkeep_ColourSides_c1_B1 weirkeep_ColourSides_c1_F
          rw [gc, if_neg (by omega), bind_some', if_neg (by simp; omega)]
      rw [hall]
      rfl
    · rw [e, bind_some']
      dsimp only
      rw [if_pos (by decide), if_pos (show (([] : List Int).length : Int) = 0 from rfl)]
      rfl
  · have hc : checkF g (-10000) ≠ 0 := fun z => hg ((checkF_ok g _).1 z)
    have e : colour_Sides_F g = some ([], 0, checkF g (-10000)) := by
      unfold colour_Sides_F
      rw [sides_bad hc, bind_some']
      dsimp only
      rw [if_pos hc]
    rw [e, bind_some']
    dsimp only
    rw [if_pos hc, if_pos (show (([] : List Int).length : Int) = 0 from rfl)]
    rfl
end Go.Proofs.Ytdpkdicciclobaa
