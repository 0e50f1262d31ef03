/- Package span: Wide, what it answers. -/
import Derived.Test.YtkpdkigkhbkfiaaPspan
import Derived.Test.YtkpdkigkhbkfiaaPparts
namespace Go.Proofs.Ytkpdkigkhbkfiaa
open Go Go.Proofs.Ytkpdkigkhbkfiaa.Sx
set_option linter.unusedVariables false
set_option linter.unusedSimpArgs false
/-- joined by arcs that cost no more -/
def Con (g : Graph) (c s t : Int) : Prop := ∀ m : Int → Int, (∀ a, a ∈ g.as → a.c ≤ c → m a.f = m a.t) → m s = m t
theorem max_cap : ∀ (l : List Arc) (c : Int), (∃ a, a ∈ l ∧ a.c ≤ c) → ∃ a, a ∈ l ∧ a.c ≤ c ∧ ∀ b, b ∈ l → b.c ≤ c → b.c ≤ a.c
  | [], c, h => by obtain ⟨a, ha, _⟩ := h; cases ha
  | x :: l, c, h => by
    by_cases d : ∃ a, a ∈ l ∧ a.c ≤ c
    · obtain ⟨a, a1, a2, a3⟩ := max_cap l c d
      by_cases e : x.c ≤ c ∧ a.c ≤ x.c
      · refine ⟨x, by simp, e.1, fun b hb hc => ?_⟩
        rcases List.mem_cons.1 hb with rfl | hb
        · exact Int.le_refl _
        · exact Int.le_trans (a3 b hb hc) e.2
      · refine ⟨a, by simp [a1], a2, fun b hb hc => ?_⟩
        rcases List.mem_cons.1 hb with rfl | hb
        · omega
        · exact a3 b hb hc
    · obtain ⟨a, ha, hc⟩ := h
      rcases List.mem_cons.1 ha with rfl | ha
      · refine ⟨a, by simp, hc, fun b hb hb2 => ?_⟩
        rcases List.mem_cons.1 hb with rfl | hb
        · exact Int.le_refl _
        · exact absurd ⟨b, hb, hb2⟩ d
      · exact absurd ⟨a, ha, hc⟩ d
theorem Con.tight {g : Graph} {c s t : Int} (h : Con g c s t) (hne : s ≠ t) : ∃ a, a ∈ g.as ∧ a.c ≤ c ∧ Con g a.c s t := by
  by_cases d : ∃ a, a ∈ g.as ∧ a.c ≤ c
  · obtain ⟨a, a1, a2, a3⟩ := max_cap g.as c d
    exact ⟨a, a1, a2, fun m hm => h m fun b hb hc => hm b hb (a3 b hb hc)⟩
  · exact absurd (h (fun x => x) fun a ha hc => absurd ⟨a, ha, hc⟩ d) hne
theorem caps_loop {g : Graph} (hg : Ok g) : ∃ L, forN (span_Wide_B1 g) g.as.length 0 ([] : List Int) = some L ∧ L.length = g.as.length ∧ ∀ i, i < g.as.length → L.getD i 0 = (g.as.getD i El.d).c := by
  have hl := hg.len
  obtain ⟨L, e, h1, h2⟩ := forN_inv (f := span_Wide_B1 g) (fun j L => L.length = j ∧ ∀ i, i < j → L.getD i 0 = (g.as.getD i El.d).c) (n := g.as.length) (k := 0) (s := ([] : List Int)) ⟨rfl, fun i hi => absurd hi (by omega)⟩ fun j L _ hj ⟨i1, i2⟩ => by
    unfold span_Wide_B1
    rw [ck_some (by omega)]
    refine ⟨_, rfl, by rw [List.length_append, List.length_singleton, i1], fun i hi => ?_⟩
    rw [List.getD_eq_getElem?_getD]
    by_cases z : i = j
    · rw [List.getElem?_append_right (by omega), z, i1, Nat.sub_self]; rfl
    · rw [List.getElem?_append_left (by omega), ← List.getD_eq_getElem?_getD]
      exact i2 i (by omega)
  rw [Nat.zero_add] at h1 h2
  exact ⟨L, e, h1, h2⟩
theorem some_loop {g : Graph} (hg : Ok g) (L : List Int) (k : Nat) : ∃ m, forN (span_Wide_B3 g L k) g.as.length 0 [] = some m ∧ m.length ≤ g.as.length ∧ ∀ a, a ∈ m ↔ a ∈ g.as ∧ a.c ≤ L.getD k 0 := by
  have hl := hg.len
  obtain ⟨m, e, h1, h2⟩ := forN_inv (f := span_Wide_B3 g L k) (fun j m => m.length ≤ j ∧ ∀ a, a ∈ m ↔ a ∈ g.as.take j ∧ a.c ≤ L.getD k 0) (n := g.as.length) (k := 0) (s := ([] : List Arc)) ⟨Nat.le_refl _, fun a => by simp⟩ fun j m _ hj ⟨i1, i2⟩ => by
    have hj' : j < g.as.length := by omega
    have et := take_succ_getD (l := g.as) hj'
    unfold span_Wide_B3
    by_cases c : (g.as.getD j El.d).c ≤ L.getD k 0
    · rw [if_pos c, ck_some (by omega)]
      refine ⟨_, rfl, by rw [List.length_append, List.length_singleton]; omega, fun a => ?_⟩
      rw [et, List.mem_append, List.mem_append, List.mem_singleton, i2]
      constructor
      · rintro (h | h)
        · exact ⟨.inl h.1, h.2⟩
        · rw [h]; exact ⟨.inr rfl, c⟩
      · rintro ⟨h1 | h1, h2⟩
        · exact .inl ⟨h1, h2⟩
        · exact .inr h1
    · rw [if_neg c]
      refine ⟨_, rfl, by omega, fun a => ?_⟩
      rw [et, List.mem_append, List.mem_singleton, i2]
      constructor
      · rintro ⟨h1, h2⟩; exact ⟨.inl h1, h2⟩
      · rintro ⟨h1 | h1, h2⟩
        · exact ⟨h1, h2⟩
        · rw [h1] at h2; exact absurd h2 c
  rw [Nat.zero_add, List.take_length] at h2
  exact ⟨m, e, by omega, h2⟩
theorem wide_err {g : Graph} (hg : Ok g) {s t : Int} (h : s < 0 ∨ g.n ≤ s ∨ t < 0 ∨ g.n ≤ t) : span_Wide_F g s t = some (0, 4) := by
  unfold span_Wide_F
  rw [checkLong_ok hg, bind_some', if_neg (by decide)]
  by_cases c1 : s < 0
  · rw [if_pos c1]
  by_cases c2 : g.n ≤ s
  · rw [if_neg c1, if_pos c2]
  by_cases c3 : t < 0
  · rw [if_neg c1, if_neg c2, if_pos c3]
  · rw [if_neg c1, if_neg c2, if_neg c3, if_pos (by omega)]
theorem wide_same {g : Graph} (hg : Ok g) {s : Int} (h0 : 0 ≤ s) (h1 : s < g.n) : span_Wide_F g s s = some (0, 3) := by
  unfold span_Wide_F
  rw [checkLong_ok hg, bind_some', if_neg (by decide), if_neg (by omega), if_neg (by omega), if_neg (by omega), if_neg (by omega), if_pos rfl]
theorem wide_bad {g : Graph} (h : checkF g (-10000) ≠ 0) (s t : Int) : span_Wide_F g s t = some (0, checkF g (-10000)) := by
  unfold span_Wide_F
  rw [checkLong_eq, bind_some', if_pos h]
theorem wide_ok {g : Graph} (hg : Ok g) {s t : Int} (s0 : 0 ≤ s) (s1 : s < g.n) (t0 : 0 ≤ t) (t1 : t < g.n) (hne : s ≠ t) :
    (∃ c, span_Wide_F g s t = some (c, 0) ∧ (∃ a, a ∈ g.as ∧ a.c = c) ∧ Con g c s t ∧ ∀ a, a ∈ g.as → a.c < c → ¬ Con g a.c s t) ∨ (span_Wide_F g s t = some (0, 5) ∧ ∀ a, a ∈ g.as → ¬ Con g a.c s t) := by
  have hl := hg.len
  have n0 := hg.n0
  have n1 := hg.n1
  obtain ⟨L, eL, l1, l2⟩ := caps_loop hg
  obtain ⟨M, eM, sM, aM⟩ := sortI_all lessI (l := L) (by omega) (fun _ _ => trivial)
  have lM := sM.len
  have inM : ∀ a, a ∈ g.as → ∃ i, i < g.as.length ∧ M.getD i 0 = a.c := fun a ha => by
    obtain ⟨k, hk, ek⟩ := getD_of_mem (d := El.d) ha
    have : a.c ∈ L := by
      rw [← ek, ← l2 k hk]; exact mem_getD (by omega)
    obtain ⟨i, hi, e⟩ := getD_of_mem (d := 0) (sM.mem' (Nat.le_refl _) this)
    exact ⟨i, by omega, e⟩
  have ofM : ∀ i, i < g.as.length → ∃ a, a ∈ g.as ∧ a.c = M.getD i 0 := fun i hi => by
    obtain ⟨k, hk, ek⟩ := getD_of_mem (d := 0) (sM.mem (Nat.le_refl _) (mem_getD (d := 0) (show i < M.length by omega)))
    exact ⟨_, mem_getD (d := El.d) (show k < g.as.length by omega), by rw [← l2 k (by omega), ek]⟩
  obtain ⟨q, e, hq⟩ := forC_or (f := span_Wide_B2 g s t M) (fun j _ => ∀ i, i < j → ¬ Con g (M.getD i 0) s t) (fun q => match q with | .go _ => ∀ i, i < g.as.length → ¬ Con g (M.getD i 0) s t | .ret r => ∃ j, j < g.as.length ∧ r = (M.getD j 0, 0) ∧ Con g (M.getD j 0) s t ∧ ∀ i, i < j → ¬ Con g (M.getD i 0) s t)
    (n := g.as.length) (k := 0) (s := ()) (fun i hi => absurd hi (by omega)) (fun j _ _ hj hI => by
      unfold span_Wide_B2
      obtain ⟨m, em, m1, m2⟩ := some_loop hg M j
      have hh : Ok ⟨g.n, m⟩ := ⟨n0, n1, by show m.length ≤ 60; omega, fun a ha => hg.arc a ((m2 a).1 ha).1⟩
      obtain ⟨p, ep, hp⟩ := parts_ok hh
      have pl : p.length = g.n.toNat := hp.pi.len
      rw [em, bind_some', ep, bind_some']
      dsimp only
      rw [ck_some (by omega), ck_some (by omega)]
      by_cases c : p.getD s.toNat 0 = p.getD t.toNat 0
      · rw [if_pos c]
        refine .inr (.inr ⟨_, rfl, j, by omega, rfl, fun μ hμ => ?_, hI⟩)
        have j1 := hp.pi.joined μ (fun a ha => hμ a ((m2 a).1 ha).1 ((m2 a).1 ha).2) s s0 s1
        have j2 := hp.pi.joined μ (fun a ha => hμ a ((m2 a).1 ha).1 ((m2 a).1 ha).2) t t0 t1
        have c' : atI p s = atI p t := c
        rw [← j1, ← j2, c']
      · rw [if_neg c]
        refine .inl ⟨_, rfl, fun i hi => ?_⟩
        by_cases z : i = j
        · subst z
          exact fun w => c (w (atI p) fun a ha hc => hp.arc a ((m2 a).2 ⟨ha, hc⟩))
        · exact hI i (by omega)) (fun _ h => by rw [Nat.zero_add] at h; exact h)
  have hF : ∀ r, (match q with | .go _ => some (0, 5) | .ret x => some x) = some r → span_Wide_F g s t = some r := fun r hr => by
    unfold span_Wide_F
    rw [checkLong_ok hg, bind_some', if_neg (by decide), if_neg (by omega), if_neg (by omega), if_neg (by omega), if_neg (by omega), if_neg hne, eL, bind_some', eM, bind_some', ck_some lM, l1, e, bind_some']
    exact hr
  match q, hq, hF with
  | .go _, h, hF =>
    refine .inr ⟨hF _ rfl, fun a ha => ?_⟩
    obtain ⟨i, hi, ei⟩ := inM a ha
    rw [← ei]; exact h i hi
  | .ret r, ⟨j, hj, hr, h1, h2⟩, hF =>
    subst hr
    refine .inl ⟨_, hF _ rfl, ofM j hj, h1, fun a ha hlt => ?_⟩
    obtain ⟨i, hi, ei⟩ := inM a ha
    rw [← ei]
    refine h2 i (Classical.byContradiction fun w => ?_)
    by_cases z : i = j
    · subst z; omega
    · have : M.getD j 0 ≤ M.getD i 0 := aM j i (Nat.zero_le _) (by omega) (by omega)
      omega
end Go.Proofs.Ytkpdkigkhbkfiaa
