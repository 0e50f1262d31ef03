/- SpanJoins: the law's function answers true. -/
import Derived.Test.YtkpdkigkhbkfiaaPspan
import Derived.Test.YtkpdkigkhbkfiaaPparts
import Derived.Test.YtkpdkigkhbkfiaaPcompact
import Derived.Test.YtkpdkigkhbkfiaaKSpanJoins
namespace Go.Proofs.Ytkpdkigkhbkfiaa
open Go Go.Proofs.Ytkpdkigkhbkfiaa.Sx
set_option linter.unusedVariables false
set_option linter.unusedSimpArgs false
theorem spansJ_eq : weirkeep_spans_F = some true := by kernel_rfl
theorem cloneJ_eq {l : List Int} (h : l.length ≤ 1000) : slices_Clone_int_F l = some l := by
  unfold slices_Clone_int_F
  rw [ck_some (by omega), List.nil_append]
theorem SpanJoins_true (g : Graph) : weirkeep_SpanJoins_F g = some true := by
  unfold weirkeep_SpanJoins_F
  rw [spansJ_eq, bind_some', if_neg (by decide)]
  by_cases hc : checkF g (-10000) = 0
  case neg =>
    rw [least_bad hc, bind_some']
    dsimp only
    rw [parts_bad hc, bind_some']
    dsimp only
    rw [if_pos hc, decide_eq_true rfl]
  have hg := (checkF_ok g _).1 hc
  have hl := hg.len
  have n0 := hg.n0
  have n1 := hg.n1
  obtain ⟨l, s, e, hC⟩ := least_ok hg
  have ll : l.length ≤ 12 := by
    obtain ⟨P, _, _, h⟩ := hC.many
    omega
  obtain ⟨p, ep, hp⟩ := parts_ok hg
  have pl : p.length = g.n.toNat := hp.pi.len
  rw [e, bind_some']
  dsimp only
  rw [ep, bind_some']
  dsimp only
  rw [if_neg (by decide), if_neg (by decide)]
  obtain ⟨m, e2, m1, m2, m3⟩ := forC_inv (f := weirkeep_SpanJoins_B1 g l) (ρ := Bool) (fun j m => (∀ a, a ∈ m → a ∈ g.as) ∧ (∀ i : Nat, i < j → g.as.getD (l.getD i 0).toNat El.d ∈ m) ∧ m.length ≤ j) (n := l.length) (k := 0) (s := ([] : List Arc))
    ⟨fun a ha => (by cases ha), fun i hi => absurd hi (by omega), Nat.le_refl _⟩ fun j m _ hj ⟨i1, i2, i3⟩ => by
      have hj' : j < l.length := by omega
      have hi := hC.inA _ (mem_getD (d := 0) hj')
      have x0 := hi.1
      have x1 := hi.2
      unfold weirkeep_SpanJoins_B1
      rw [if_neg (by omega), if_neg (by omega), ck_some ⟨x0, x1⟩, ck_some (by omega)]
      refine ⟨_, rfl, fun a ha => ?_, fun i hi => ?_, by rw [List.length_append, List.length_singleton]; omega⟩
      · rcases List.mem_append.1 ha with h | h
        · exact i1 a h
        · rw [List.mem_singleton.1 h]; exact mem_getD (by omega)
      · by_cases z : i = j
        · rw [z]; exact List.mem_append.2 (.inr (List.mem_singleton.2 rfl))
        · exact List.mem_append.2 (.inl (i2 i (by omega)))
  rw [Nat.zero_add] at m2 m3
  rw [e2, bind_some']
  dsimp only
  have hh : Ok ⟨g.n, m⟩ := ⟨n0, n1, by show m.length ≤ 60; omega, fun a ha => hg.arc a (m1 a ha)⟩
  obtain ⟨q, eq, hq⟩ := parts_ok hh
  have ql : q.length = g.n.toNat := hq.pi.len
  obtain ⟨M, eM, sM, aM⟩ := sortI_all lessI (l := p) (by omega) (fun _ _ => trivial)
  have lM := sM.len
  -- what all arcs join the chosen ones do
  have all : ∀ μ : Int → Int, (∀ k, k ∈ l → Even g μ k) → ∀ a, a ∈ g.as → μ a.f = μ a.t := fun μ hμ a ha => by
    obtain ⟨k, hk, ek⟩ := getD_of_mem (d := El.d) ha
    have hk' : InA g (k : Int) := ⟨by omega, by omega⟩
    have ev : Even g μ (k : Int) := by
      by_cases z : (k : Int) ∈ l
      · exact hμ _ z
      · exact hC.left _ hk' z μ fun i hi _ => hμ i hi
    have : μ (g.as.getD ((k : Nat) : Int).toNat El.d).f = μ (g.as.getD ((k : Nat) : Int).toNat El.d).t := ev
    rw [Int.toNat_natCast, ek] at this
    exact this
  have chosen : ∀ k, k ∈ l → g.as.getD k.toNat El.d ∈ m := fun k hk => by
    obtain ⟨j, hj, ej⟩ := getD_of_mem (d := 0) hk
    rw [← ej]; exact m2 j hj
  have epq : p = q := eq_of_getD (d := 0) (by omega) fun i hi => by
    have a1 := hp.le hq rfl (all (atI q) fun k hk => hq.arc _ (chosen k hk)) (x := (i : Int)) (by omega) (by omega)
    have a2 := hq.le hp rfl (fun a ha => hp.arc a (m1 a ha)) (x := (i : Int)) (by omega) (show (i : Int) < g.n by omega)
    unfold atI at a1 a2
    rw [Int.toNat_natCast] at a1 a2
    omega
  rw [eq, bind_some', cloneJ_eq (by omega), bind_some', eM, bind_some', ck_some lM]
  dsimp only
  rw [if_pos rfl, equalInts_eq, bind_some', if_pos (decide_eq_true epq)]
  obtain ⟨t, et, ht⟩ := compact_len (s := M) (by omega)
  rw [et, bind_some']
  have inp : ∀ x, x ∈ p → 0 ≤ x ∧ x < (g.n.toNat : Int) := fun x hx => by
    obtain ⟨i, hi, ei⟩ := getD_of_mem (d := 0) hx
    have := hp.pi.lo (i : Int) (by omega) (by omega)
    unfold atI at this
    rw [Int.toNat_natCast, ei] at this
    omega
  have aM' : AscK id 0 M.length M := by rw [lM]; exact aM
  have c1 := new_values (n := g.n.toNat) aM' fun x hx => inp x (sM.mem (Nat.le_refl _) hx)
  -- the labels are the first ones of their parts
  have idem : ∀ x, 0 ≤ x → x < g.n → atI p (atI p x) = atI p x := fun x h0 h1 => by
    have := hp.pi.joined (atI p) hp.arc x h0 h1
    exact this
  have c2 : cnt (hasS M) g.n.toNat = cls g.n.toNat (fun x => p.getD x 0) := by
    refine cnt_congr fun v hv => ?_
    have lo := hp.pi.lo (v : Int) (by omega) (by omega)
    have ev : atI p (v : Int) = p.getD v 0 := by unfold atI; rw [Int.toNat_natCast]
    have h1 : hasS M v = true ↔ p.getD v 0 = v := by
      unfold hasS
      rw [decide_eq_true_iff]
      constructor
      · intro h
        obtain ⟨i, hi, ei⟩ := getD_of_mem (d := 0) (sM.mem (Nat.le_refl _) h)
        have := idem (i : Int) (by omega) (by omega)
        have e3 : atI p (i : Int) = (v : Int) := by unfold atI; rw [Int.toNat_natCast, ei]
        rw [e3, ev] at this
        exact this
      · intro h
        rw [← h]
        exact sM.mem' (Nat.le_refl _) (mem_getD (by omega))
    have h2 : firstS (fun x => p.getD x 0) v = true ↔ p.getD v 0 = v := by
      rw [firstS_iff]
      constructor
      · intro h
        refine Classical.byContradiction fun w => ?_
        have := h (p.getD v 0).toNat (by omega)
        have i2 := idem (v : Int) (by omega) (by omega)
        rw [ev] at i2
        unfold atI at i2
        exact this i2
      · intro h y hy hyv
        have := hp.pi.lo (y : Int) (by omega) (by omega)
        have ey : atI p (y : Int) = p.getD y 0 := by unfold atI; rw [Int.toNat_natCast]
        omega
    cases e3 : hasS M v <;> cases e4 : firstS (fun x => p.getD x 0) v <;> simp_all
  obtain ⟨P, k1, k2, k3⟩ := hC.many
  have c3 : cls g.n.toNat (fun x => P (x : Int)) = cls g.n.toNat (fun x => p.getD x 0) := cls_congr fun x y hx hy => by
    have ex : atI p (x : Int) = p.getD x 0 := by unfold atI; rw [Int.toNat_natCast]
    have ey : atI p (y : Int) = p.getD y 0 := by unfold atI; rw [Int.toNat_natCast]
    constructor
    · intro h
      have := k2 (atI p) (fun k hk => hp.arc _ (m1 _ (chosen k hk))) (x : Int) (y : Int) (by omega) (by omega) (by omega) (by omega) h
      rw [ex, ey] at this
      exact this
    · intro h
      have ha : ∀ a, a ∈ g.as → P a.f = P a.t := all P fun k hk => k1 k (hC.inA k hk)
      have j1 := hp.pi.joined P ha (x : Int) (by omega) (by omega)
      have j2 := hp.pi.joined P ha (y : Int) (by omega) (by omega)
      rw [← j1, ← j2, ex, ey, h]
  rw [ck_some (inI_small (by omega) (by omega)), decide_eq_true]
  rw [ht, lM] at *
  omega
end Go.Proofs.Ytkpdkigkhbkfiaa
