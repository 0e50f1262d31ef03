/- What the functions of wlaw compute, by walks through their text. -/
import Derived.Test.YtmgldjkgneiejaaTys
import Derived.Test.YtmgldjkgneiejaaDat
import Derived.Test.YtmgldjkgneiejaaSearch
namespace Go.Proofs.Ytmgldjkgneiejaa
open Go Go.Proofs.Ytmgldjkgneiejaa.Sx
set_option linter.unusedVariables false
set_option linter.unusedSimpArgs false

abbrev at0 (l : List Int) (y : Int) : Int := l.getD y.toNat 0
/-- In the midst of the round of x, k arcs being looked at. -/
structure PI (g : Graph) (s x : Int) (k m : Nat) (st : SS) : Prop where
  si : SI g.n.toNat m st
  x0 : 0 ≤ x
  x1 : x < g.n
  xf : 0 ≤ at0 st.1 x
  s0 : at0 st.1 s = 0
  lo : ∀ y, 0 ≤ y → y < g.n → -1 ≤ at0 st.1 y
  pre : ∀ y, 0 ≤ y → y < g.n → 0 < at0 st.1 y → ∃ j, j < g.as.length ∧ at0 st.2.1 y = (j : Int) ∧ (g.as.getD j ⟨0, 0, 0⟩).t = y ∧ 0 ≤ at0 st.1 (g.as.getD j ⟨0, 0, 0⟩).f ∧ at0 st.1 y = at0 st.1 (g.as.getD j ⟨0, 0, 0⟩).f + 1
  zero : ∀ y, 0 ≤ y → y < g.n → at0 st.1 y = 0 → y = s
  srt : st.2.2.Pairwise (fun a b => at0 st.1 a ≤ at0 st.1 b)
  win : ∀ y, y ∈ st.2.2 → at0 st.1 x ≤ at0 st.1 y ∧ at0 st.1 y ≤ at0 st.1 x + 1
  fin : ∀ y, 0 ≤ y → y < g.n → 0 ≤ at0 st.1 y → y ∈ st.2.2 ∨ y = x ∨ (at0 st.1 y ≤ at0 st.1 x ∧ ∀ a, a ∈ g.as → a.f = y → 0 ≤ at0 st.1 a.t ∧ at0 st.1 a.t ≤ at0 st.1 y + 1)
  arcs : ∀ j, j < k → (g.as.getD j ⟨0, 0, 0⟩).f = x → 0 ≤ at0 st.1 (g.as.getD j ⟨0, 0, 0⟩).t ∧ at0 st.1 (g.as.getD j ⟨0, 0, 0⟩).t ≤ at0 st.1 x + 1
theorem PI.see {g : Graph} {s x : Int} {k m : Nat} {st : SS} (hg : Ok g) (h : PI g s x k m st) (hk : k < g.as.length) : PI g s x (k + 1) m (seeArc x k st (g.as.getD k ⟨0, 0, 0⟩)) := by
  have ha := hg.arc _ (mem_getD hk)
  have hn0 := hg.n0
  have hsi := h.si.see (k := k) (a := g.as.getD k ⟨0, 0, 0⟩) h.xf ha.t0 (by have := ha.t1; omega)
  by_cases hc : (g.as.getD k ⟨0, 0, 0⟩).f = x ∧ st.1.getD (g.as.getD k ⟨0, 0, 0⟩).t.toNat 0 < 0
  · have e : seeArc x k st (g.as.getD k ⟨0, 0, 0⟩) = (st.1.set (g.as.getD k ⟨0, 0, 0⟩).t.toNat (st.1.getD x.toNat 0 + 1), st.2.1.set (g.as.getD k ⟨0, 0, 0⟩).t.toNat k, st.2.2 ++ [(g.as.getD k ⟨0, 0, 0⟩).t]) := by rw [seeArc, if_pos hc]
    rw [e] at hsi ⊢
    have t0 := ha.t0
    have t1 := ha.t1
    have l1 := h.si.l1
    have l2 := h.si.l2
    generalize ht : (g.as.getD k ⟨0, 0, 0⟩).t = t at *
    have hlt : t.toNat < st.1.length := by omega
    have hlt2 : t.toNat < st.2.1.length := by omega
    have new : at0 (st.1.set t.toNat (st.1.getD x.toNat 0 + 1)) t = at0 st.1 x + 1 := by
      show List.getD _ _ _ = _; rw [getD_set, if_pos ⟨rfl, hlt⟩]
    have old : ∀ y, 0 ≤ y → y ≠ t → at0 (st.1.set t.toNat (st.1.getD x.toNat 0 + 1)) y = at0 st.1 y := fun y h0 hy => by
      show List.getD _ _ _ = _; rw [getD_set, if_neg (by rintro ⟨e, _⟩; exact hy (by omega))]
    have oldV : ∀ y, 0 ≤ y → 0 ≤ at0 st.1 y → at0 (st.1.set t.toNat (st.1.getD x.toNat 0 + 1)) y = at0 st.1 y := fun y h0 hy => old y h0 (by rintro rfl; have h1 := hc.2; simp only [at0] at hy; omega)
    have hxf := h.xf
    have hx := oldV x h.x0 h.xf
    have hs : 0 ≤ s ∨ s < 0 := by omega
    have hss : at0 (st.1.set t.toNat (st.1.getD x.toNat 0 + 1)) s = 0 := by
      have := h.s0
      show List.getD _ _ _ = _
      rw [getD_set]
      split
      · rename_i e1
        have h2 := hc.2
        rw [e1.1] at h2
        simp only [at0] at this
        omega
      · exact this
    refine ⟨hsi.1, h.x0, h.x1, by rw [hx]; exact hxf, hss, fun y y0 y1 => ?_, fun y y0 y1 hy => ?_, fun y y0 y1 hy => ?_, ?_, fun y hy => ?_, fun y y0 y1 hy => ?_, fun j hj hf => ?_⟩
    · by_cases e1 : y = t
      · subst e1; rw [new]; have h9 := h.xf; simp only [at0] at h9 ⊢; omega
      · simp only [old y y0 e1]; exact h.lo y y0 y1
    · by_cases e1 : y = t
      · subst e1
        refine ⟨k, hk, ?_, ht, ?_, ?_⟩
        · show List.getD _ _ _ = _; rw [getD_set, if_pos ⟨rfl, hlt2⟩]
        · rw [hc.1]; simp only [hx]; exact hxf
        · rw [hc.1]; simp only [new, hx]
      · simp only [old y y0 e1] at hy ⊢
        obtain ⟨j, j1, j2, j3, j4, j5⟩ := h.pre y y0 y1 hy
        have jf := hg.arc _ (mem_getD j1)
        refine ⟨j, j1, ?_, j3, ?_, ?_⟩
        · show List.getD _ _ _ = _
          rw [getD_set, if_neg (by rintro ⟨e2, _⟩; exact e1 (by omega))]
          exact j2
        · simp only [oldV _ jf.f0 j4]; exact j4
        · simp only [oldV _ jf.f0 j4]; exact j5
    · by_cases e1 : y = t
      · subst e1; simp only [new] at hy; omega
      · simp only [old y y0 e1] at hy; exact h.zero y y0 y1 hy
    · refine List.pairwise_append.2 ⟨?_, List.pairwise_singleton _ _, fun a ha' b hb => ?_⟩
      · refine List.Pairwise.imp_of_mem (fun {a b} ma mb hab => ?_) h.srt
        have qa := h.si.q a ma
        have qb := h.si.q b mb
        simp only [oldV a qa.1 qa.2.2, oldV b qb.1 qb.2.2]; exact hab
      · have e1 : b = t := by simpa using hb
        subst e1
        have qa := h.si.q a ha'
        simp only [oldV a qa.1 qa.2.2, new]
        exact (h.win a ha').2
    · rcases List.mem_append.1 hy with hy | hy
      · have qa := h.si.q y hy
        simp only [oldV y qa.1 qa.2.2, hx]; exact h.win y hy
      · have e1 : y = t := by simpa using hy
        subst e1
        simp only [new, hx]; omega
    · by_cases e1 : y = t
      · subst e1; exact .inl (by simp)
      · simp only [old y y0 e1] at hy
        rcases h.fin y y0 y1 hy with h1 | h1 | ⟨h1, h2⟩
        · exact .inl (List.mem_append_left _ h1)
        · exact .inr (.inl h1)
        · refine .inr (.inr ⟨by simp only [old y y0 e1, hx]; exact h1, fun a ha' ef => ?_⟩)
          have h3 := h2 a ha' ef
          have ga := hg.arc a ha'
          simp only [oldV a.t ga.t0 h3.1, old y y0 e1]; exact h3
    · by_cases e1 : j = k
      · subst e1
        rw [ht]; simp only [new, hx]; omega
      · have h1 := h.arcs j (by omega) hf
        have ja := hg.arc _ (mem_getD (show j < g.as.length by omega))
        simp only [oldV _ ja.t0 h1.1, hx]; exact h1
  · have e : seeArc x k st (g.as.getD k ⟨0, 0, 0⟩) = st := by rw [seeArc, if_neg hc]
    rw [e]
    refine { h with arcs := fun j hj hf => ?_ }
    by_cases e1 : j = k
    · subst e1
      have h1 : 0 ≤ at0 st.1 (g.as.getD j ⟨0, 0, 0⟩).t := Int.not_lt.1 fun h2 => hc ⟨hf, h2⟩
      refine ⟨h1, ?_⟩
      rcases h.fin _ ha.t0 ha.t1 h1 with h2 | h2 | h2
      · exact (h.win _ h2).2
      · rw [h2]; omega
      · omega
    · exact h.arcs j (by omega) hf
theorem PI.all {g : Graph} {s x : Int} (hg : Ok g) : ∀ (d k : Nat) {m : Nat} {st : SS}, k + d = g.as.length → PI g s x k m st → PI g s x g.as.length m (seeAll x (g.as.drop k) k st) := by
  intro d
  induction d with
  | zero =>
    intro k m st hk h
    rw [List.drop_eq_nil_of_le (by omega)]
    have e : k = g.as.length := by omega
    subst e; exact h
  | succ d ih =>
    intro k m st hk h
    rw [seeAll_drop (by omega)]
    exact ih (k + 1) (by omega) (h.see hg (by omega))
theorem PI.next {g : Graph} {s x y : Int} {m : Nat} {far by_ q : List Int} (h : PI g s x g.as.length (m + 1) (far, by_, y :: q)) : PI g s y 0 m (far, by_, q) := by
  have hp := h.si.pop
  have hw := h.win y (List.mem_cons_self ..)
  have hs := List.pairwise_cons.1 h.srt
  simp only at hw
  refine ⟨hp.1, hp.2.1, by have := hp.2.2.1; have := h.x1; omega, hp.2.2.2, h.s0, h.lo, h.pre, h.zero, hs.2, fun z hz => ?_, fun z z0 z1 hz => ?_, fun j hj => absurd hj (by omega)⟩
  · have h1 := hs.1 z hz
    have h2 := h.win z (List.mem_cons_of_mem _ hz)
    simp only at h2 ⊢
    exact ⟨h1, by omega⟩
  · rcases h.fin z z0 z1 hz with h1 | h1 | ⟨h1, h2⟩
    · rcases List.mem_cons.1 h1 with h1 | h1
      · exact .inr (.inl h1)
      · exact .inl h1
    · subst h1
      refine .inr (.inr ⟨hw.1, fun a ha ef => ?_⟩)
      obtain ⟨j, hj, ej⟩ := List.getElem_of_mem ha
      have e2 : g.as.getD j ⟨0, 0, 0⟩ = a := by rw [List.getD_eq_getElem?_getD, List.getElem?_eq_getElem hj]; exact ej
      have := h.arcs j hj (by rw [e2]; exact ef)
      rw [e2] at this
      exact this
    · simp only at h1 ⊢
      exact .inr (.inr ⟨by omega, h2⟩)
/-- What a search's answer is worth. -/
structure FarOk (g : Graph) (s : Int) (far by_ : List Int) : Prop where
  l1 : far.length = g.n.toNat
  l2 : by_.length = g.n.toNat
  s0 : at0 far s = 0
  lo : ∀ y, 0 ≤ y → y < g.n → -1 ≤ at0 far y
  hi : ∀ y, at0 far y < g.n
  pre : ∀ y, 0 ≤ y → y < g.n → 0 < at0 far y → ∃ j, j < g.as.length ∧ at0 by_ y = (j : Int) ∧ (g.as.getD j ⟨0, 0, 0⟩).t = y ∧ 0 ≤ at0 far (g.as.getD j ⟨0, 0, 0⟩).f ∧ at0 far y = at0 far (g.as.getD j ⟨0, 0, 0⟩).f + 1
  zero : ∀ y, 0 ≤ y → y < g.n → at0 far y = 0 → y = s
  arc : ∀ a, a ∈ g.as → 0 ≤ at0 far a.f → 0 ≤ at0 far a.t ∧ at0 far a.t ≤ at0 far a.f + 1
theorem PI.done {g : Graph} {s x : Int} {m : Nat} {far by_ : List Int} (hg : Ok g) (h : PI g s x g.as.length m (far, by_, [])) : FarOk g s far by_ := by
  refine ⟨h.si.l1, h.si.l2, h.s0, h.lo, fun y => ?_, h.pre, h.zero, fun a ha hf => ?_⟩
  · have h1 := h.si.bd y.toNat
    have := hg.n0
    simp only [at0] at h1 ⊢
    omega
  · have ga := hg.arc a ha
    rcases h.fin a.f ga.f0 ga.f1 hf with h1 | h1 | ⟨_, h2⟩
    · cases h1
    · obtain ⟨j, hj, ej⟩ := List.getElem_of_mem ha
      have e2 : g.as.getD j ⟨0, 0, 0⟩ = a := by rw [List.getD_eq_getElem?_getD, List.getElem?_eq_getElem hj]; exact ej
      have := h.arcs j hj (by rw [e2]; exact h1)
      rw [e2] at this
      rw [h1]
      exact this
    · exact h2 a ha rfl
theorem bfs_ok {g : Graph} {s : Int} (hg : Ok g) : ∀ (n : Nat) {x : Int} {far by_ q : List Int}, PI g s x 0 n (far, by_, q) → FarOk g s (bfs g.as (n + 1) (far, by_, x :: q)).1 (bfs g.as (n + 1) (far, by_, x :: q)).2 := by
  intro n
  induction n with
  | zero =>
    intro x far by_ q h
    have h1 := PI.all hg g.as.length 0 (by omega) h
    rw [List.drop_zero] at h1
    show FarOk g s (bfs g.as 0 (seeAll x g.as 0 (far, by_, q))).1 (bfs g.as 0 (seeAll x g.as 0 (far, by_, q))).2
    have h2 := h1.si.m
    generalize seeAll x g.as 0 (far, by_, q) = R at h1 h2 ⊢
    obtain ⟨f, b, r⟩ := R
    have e : r = [] := List.eq_nil_of_length_eq_zero (by simp only at h2; omega)
    subst e
    exact h1.done hg
  | succ n ih =>
    intro x far by_ q h
    have h1 := PI.all hg g.as.length 0 (by omega) h
    rw [List.drop_zero] at h1
    show FarOk g s (bfs g.as (n + 1) (seeAll x g.as 0 (far, by_, q))).1 (bfs g.as (n + 1) (seeAll x g.as 0 (far, by_, q))).2
    generalize seeAll x g.as 0 (far, by_, q) = R at h1 ⊢
    obtain ⟨f, b, r⟩ := R
    cases r with
    | nil => exact h1.done hg
    | cons y r => exact ih h1.next
theorem search_ok {g : Graph} {s : Int} (h : (searchF g s).1 = 0) : Ok g ∧ 0 ≤ s ∧ s < g.n ∧ FarOk g s (searchF g s).2.1 (searchF g s).2.2 := by
  by_cases h1 : checkF g (-10000) = 0
  · have hg := (checkF_ok g).1 h1
    have h1' : ¬ checkF g (-10000) ≠ 0 := fun e => e h1
    by_cases h0 : s < 0 ∨ g.n ≤ s
    · rw [searchF, if_neg h1', if_pos h0] at h; cases h
    · have e : (searchF g s).2 = bfs g.as (g.n.toNat + 1) ((none1 g).set s.toNat 0, none1 g, [s]) := by rw [searchF, if_neg h1', if_neg h0]
      refine ⟨hg, by omega, by omega, ?_⟩
      rw [e]
      have hs := SI.init (g := g) (s := s) (by omega) (by omega)
      obtain ⟨n, hn⟩ : ∃ n, g.n.toNat = n + 1 := ⟨g.n.toNat - 1, by have := hg.n0; omega⟩
      have hl : s.toNat < (none1 g).length := by simp [none1]; omega
      have hss : ((none1 g).set s.toNat 0).getD s.toNat 0 = 0 := by rw [getD_set, if_pos ⟨rfl, hl⟩]
      have hno : ∀ y, 0 ≤ y → y < g.n → y ≠ s → ((none1 g).set s.toNat 0).getD y.toNat 0 = -1 := fun y y0 y1 hy => by
        rw [getD_set, if_neg (by rintro ⟨e1, _⟩; exact hy (by omega)), none1, List.getD_eq_getElem?_getD, List.getElem?_replicate, if_pos (by omega)]; rfl
      have hsi : SI g.n.toNat n ((none1 g).set s.toNat 0, none1 g, []) := ⟨hs.l1, hs.l2, (by intro x hx; cases hx), by have := hs.m; simp only [List.length_singleton, List.length_nil] at this ⊢; omega, hs.bd⟩
      have hb : bfs g.as (g.n.toNat + 1) ((none1 g).set s.toNat 0, none1 g, [s]) = bfs g.as (g.n.toNat + 1) ((none1 g).set s.toNat 0, none1 g, s :: []) := rfl
      have hsi2 : SI g.n.toNat g.n.toNat ((none1 g).set s.toNat 0, none1 g, []) := ⟨hsi.l1, hsi.l2, hsi.q, by have := hsi.m; omega, hsi.bd⟩
      refine bfs_ok hg g.n.toNat ⟨hsi2, by omega, by omega, by simp only [at0, hss]; omega, hss, fun y y0 y1 => ?_, fun y y0 y1 hy => ?_, fun y y0 y1 hy => ?_, List.Pairwise.nil, (by intro y hy; cases hy), fun y y0 y1 hy => ?_, fun j hj => absurd hj (by omega)⟩
      · by_cases hy : y = s
        · subst hy; simp only [at0, hss]; omega
        · simp only [at0, hno y y0 y1 hy]; omega
      · by_cases e1 : y = s
        · subst e1; simp only [at0, hss] at hy; omega
        · simp only [at0, hno y y0 y1 e1] at hy; omega
      · by_cases e1 : y = s
        · exact e1
        · simp only [at0, hno y y0 y1 e1] at hy; omega
      · by_cases e1 : y = s
        · exact .inr (.inl e1)
        · simp only [at0, hno y y0 y1 e1] at hy; omega
  · rw [searchF, if_pos h1] at h
    exact absurd h h1
theorem search_err {g : Graph} {s : Int} (h : (searchF g s).1 ≠ 0) : (searchF g s).2 = ([], []) := by
  by_cases h1 : checkF g (-10000) = 0
  · have h1' : ¬ checkF g (-10000) ≠ 0 := fun e => e h1
    by_cases h0 : s < 0 ∨ g.n ≤ s
    · rw [searchF, if_neg h1', if_pos h0]
    · rw [searchF, if_neg h1', if_neg h0] at h; exact absurd rfl h
  · rw [searchF, if_pos h1]

end Go.Proofs.Ytmgldjkgneiejaa
