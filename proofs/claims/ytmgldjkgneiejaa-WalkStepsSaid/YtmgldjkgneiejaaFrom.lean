/- What the functions of from compute, by walks through their text. -/
import Derived.Test.YtmgldjkgneiejaaTys
import Derived.Test.YtmgldjkgneiejaaDat
import Derived.Test.YtmgldjkgneiejaaWay
namespace Go.Proofs.Ytmgldjkgneiejaa
open Go Go.Proofs.Ytmgldjkgneiejaa.Sx
set_option linter.unusedVariables false
set_option linter.unusedSimpArgs false

theorem getD_set {α : Type} {l : List α} {i j : Nat} {v z : α} : (l.set i v).getD j z = if i = j ∧ i < l.length then v else l.getD j z := by
  simp only [List.getD_eq_getElem?_getD, List.getElem?_set]
  by_cases h : i = j
  · subst h
    by_cases h2 : i < l.length
    · simp [h2]
    · simp [h2, List.getElem?_eq_none (Nat.le_of_not_lt h2)]
  · simp [h]
theorem lt_of_known {l : List Bool} {i : Nat} (h : l.getD i false = true) : i < l.length := by
  rcases Nat.lt_or_ge i l.length with h1 | h1
  · exact h1
  · rw [List.getD_eq_getElem?_getD, List.getElem?_eq_none h1] at h; cases h
theorem relaxStep_false {l : List Arc} : ∀ {s : RS}, s.2.2 = false → (l.foldl relaxStep s).2.2 = false := by
  induction l with
  | nil => intro s h; exact h
  | cons a l ih =>
    intro s h
    rw [List.foldl_cons]
    apply ih
    unfold relaxStep
    split
    · rfl
    · exact h
theorem pass_still {l : List Arc} : ∀ {far : List Int} {known : List Bool}, (relaxPass l (far, known, true)).2.2 = true →
    relaxPass l (far, known, true) = (far, known, true) ∧ ∀ a, a ∈ l → known.getD a.f.toNat false = true → known.getD a.t.toNat false = true ∧ far.getD a.t.toNat 0 ≤ far.getD a.f.toNat 0 + a.c := by
  induction l with
  | nil => intro far known _; exact ⟨rfl, fun a h => by cases h⟩
  | cons a l ih =>
    intro far known h
    unfold relaxPass at h ih ⊢
    rw [List.foldl_cons] at h ⊢
    by_cases hc : known.getD a.f.toNat false = true ∧ (known.getD a.t.toNat false = false ∨ far.getD a.f.toNat 0 + a.c < far.getD a.t.toNat 0)
    · rw [relaxStep, if_pos hc, relaxStep_false rfl] at h
      cases h
    · rw [relaxStep, if_neg hc] at h ⊢
      obtain ⟨h1, h2⟩ := ih h
      refine ⟨h1, fun b hb hk => ?_⟩
      rcases List.mem_cons.1 hb with rfl | hb
      · refine ⟨?_, ?_⟩
        · cases hkt : known.getD b.t.toNat false with
          | true => rfl
          | false => exact absurd ⟨hk, .inl hkt⟩ hc
        · exact Int.not_lt.1 fun hlt => hc ⟨hk, .inr hlt⟩
      · exact h2 b hb hk
/-- Where it comes to an end, no arc makes anything shorter. -/
theorem relaxN_done {l : List Arc} : ∀ (n : Nat) {far : List Int} {known : List Bool}, (relaxN l n far known).1 = true →
    ∀ a, a ∈ l → (relaxN l n far known).2.2.getD a.f.toNat false = true → (relaxN l n far known).2.2.getD a.t.toNat false = true ∧ (relaxN l n far known).2.1.getD a.t.toNat 0 ≤ (relaxN l n far known).2.1.getD a.f.toNat 0 + a.c := by
  intro n
  induction n with
  | zero => intro far known h; cases h
  | succ n ih =>
    intro far known h
    rw [relaxN] at h ⊢
    by_cases hs : (relaxPass l (far, known, true)).2.2 = true
    · rw [if_pos hs]
      obtain ⟨h1, h2⟩ := pass_still hs
      simp only [h1]
      exact h2
    · rw [if_neg hs] at h ⊢
      exact ih h
theorem step_known {s : RS} {a : Arc} {i : Nat} (h : s.2.1.getD i false = true) : (relaxStep s a).2.1.getD i false = true := by
  unfold relaxStep
  split
  · rw [getD_set]; split
    · rfl
    · exact h
  · exact h
theorem pass_known {l : List Arc} {i : Nat} : ∀ {s : RS}, s.2.1.getD i false = true → (relaxPass l s).2.1.getD i false = true := by
  induction l with
  | nil => intro s h; exact h
  | cons a l ih => intro s h; exact ih (s := relaxStep s a) (step_known h)
theorem relaxN_known {l : List Arc} {i : Nat} : ∀ (n : Nat) {far : List Int} {known : List Bool}, known.getD i false = true → (relaxN l n far known).2.2.getD i false = true := by
  intro n
  induction n with
  | zero => intro far known h; exact h
  | succ n ih =>
    intro far known h
    rw [relaxN]
    have h1 : (relaxPass l (far, known, true)).2.1.getD i false = true := pass_known h
    split
    · exact h1
    · exact ih h1
/-- What every step keeps, holds at the end. -/
theorem pass_inv {l : List Arc} {Q : List Int → List Bool → Prop} : ∀ {m : List Arc} {s : RS}, (∀ a, a ∈ m → a ∈ l) → (∀ s a, a ∈ l → Q s.1 s.2.1 → Q (relaxStep s a).1 (relaxStep s a).2.1) → Q s.1 s.2.1 → Q (relaxPass m s).1 (relaxPass m s).2.1 := by
  intro m
  induction m with
  | nil => intro s _ _ h; exact h
  | cons a m ih => intro s hm hs h; exact ih (s := relaxStep s a) (fun b hb => hm b (List.mem_cons_of_mem _ hb)) hs (hs s a (hm a (List.mem_cons_self ..)) h)
theorem relaxN_inv {l : List Arc} {Q : List Int → List Bool → Prop} (hs : ∀ s a, a ∈ l → Q s.1 s.2.1 → Q (relaxStep s a).1 (relaxStep s a).2.1) : ∀ (n : Nat) {far : List Int} {known : List Bool}, Q far known → Q (relaxN l n far known).2.1 (relaxN l n far known).2.2 := by
  intro n
  induction n with
  | zero => intro far known h; exact h
  | succ n ih =>
    intro far known h
    rw [relaxN]
    have h1 := pass_inv (s := (far, known, true)) (fun a ha => ha) hs h
    split
    · exact h1
    · exact ih h1
/-- P sinks along no arc by more than its length, from nodes of K on. -/
def Low (P : List Int) (s : Nat) (far : List Int) (known : List Bool) : Prop := ∀ i, known.getD i false = true → P.getD i 0 - P.getD s 0 ≤ far.getD i 0
theorem pass_low {l : List Arc} {P : List Int} {K : List Bool} {z : Nat} (hP : ∀ a, a ∈ l → K.getD a.f.toNat false = true → P.getD a.t.toNat 0 ≤ P.getD a.f.toNat 0 + a.c) :
    ∀ {m : List Arc} {s : RS}, (∀ a, a ∈ m → a ∈ l) → (∀ i, (relaxPass m s).2.1.getD i false = true → K.getD i false = true) → s.1.length = s.2.1.length → Low P z s.1 s.2.1 → Low P z (relaxPass m s).1 (relaxPass m s).2.1 := by
  intro m
  induction m with
  | nil => intro s _ _ _ h; exact h
  | cons a m ih =>
    intro s hm hK hl h
    refine ih (s := relaxStep s a) (fun b hb => hm b (List.mem_cons_of_mem _ hb)) hK ?_ ?_
    · unfold relaxStep; split
      · simpa using hl
      · exact hl
    · intro i hi
      unfold relaxStep at hi ⊢
      by_cases hc : s.2.1.getD a.f.toNat false = true ∧ (s.2.1.getD a.t.toNat false = false ∨ s.1.getD a.f.toNat 0 + a.c < s.1.getD a.t.toNat 0)
      · rw [if_pos hc] at hi ⊢
        simp only [getD_set] at hi ⊢
        have h1 := h _ hc.1
        have h2 := hP a (hm a (List.mem_cons_self ..)) (hK _ (pass_known (l := a :: m) hc.1))
        by_cases hti : a.t.toNat = i ∧ a.t.toNat < s.1.length
        · rw [if_pos hti, ← hti.1]; omega
        · rw [if_neg hti]
          rw [if_neg (by rw [← hl]; exact hti)] at hi
          exact h i hi
      · rw [if_neg hc] at hi ⊢
        exact h i hi
theorem relaxN_low {l : List Arc} {P : List Int} {K : List Bool} {z : Nat} (hP : ∀ a, a ∈ l → K.getD a.f.toNat false = true → P.getD a.t.toNat 0 ≤ P.getD a.f.toNat 0 + a.c) :
    ∀ (n : Nat) {far : List Int} {known : List Bool}, (∀ i, (relaxN l n far known).2.2.getD i false = true → K.getD i false = true) → far.length = known.length → Low P z far known → Low P z (relaxN l n far known).2.1 (relaxN l n far known).2.2 := by
  intro n
  induction n with
  | zero => intro far known _ _ h; exact h
  | succ n ih =>
    intro far known hK hl h
    rw [relaxN] at hK ⊢
    have hlp := relaxN_len (l := l) 1 (far := far) (known := known)
    by_cases hs : (relaxPass l (far, known, true)).2.2 = true
    · rw [if_pos hs] at hK ⊢
      exact pass_low hP (s := (far, known, true)) (fun a ha => ha) hK hl h
    · rw [if_neg hs] at hK ⊢
      refine ih hK ?_ (pass_low hP (s := (far, known, true)) (fun a ha => ha) (fun i hi => hK i (relaxN_known n hi)) hl h)
      rw [relaxN, if_neg hs] at hlp
      simp only [relaxN] at hlp
      rw [hlp.1, hlp.2, hl]
theorem step_bd {s : RS} {a : Arc} {k : Nat} (h0 : -10000 ≤ a.c) (h1 : a.c ≤ 10000) (h : Bd s.1 k) : Bd (relaxStep s a).1 (k + 1) := by
  unfold relaxStep
  split
  · intro i
    have h2 := h i
    have h3 := h a.f.toNat
    simp only [getD_set]
    split <;> omega
  · exact h.mono (by omega)
theorem pass_bd {l : List Arc} (hl : ∀ a, a ∈ l → -10000 ≤ a.c ∧ a.c ≤ 10000) : ∀ {s : RS} {k : Nat}, Bd s.1 k → Bd (relaxPass l s).1 (k + l.length) := by
  induction l with
  | nil => intro s k h; exact h
  | cons a l ih =>
    intro s k h
    have h1 := hl a (List.mem_cons_self ..)
    have := ih (fun b hb => hl b (List.mem_cons_of_mem _ hb)) (s := relaxStep s a) (step_bd h1.1 h1.2 h)
    rw [List.length_cons, show k + (l.length + 1) = k + 1 + l.length by omega]
    exact this
theorem relaxN_bd {l : List Arc} (hl : ∀ a, a ∈ l → -10000 ≤ a.c ∧ a.c ≤ 10000) : ∀ (n : Nat) {far : List Int} {known : List Bool} {k : Nat}, Bd far k → Bd (relaxN l n far known).2.1 (k + n * l.length) := by
  intro n
  induction n with
  | zero => intro far known k h; exact h.mono (by omega)
  | succ n ih =>
    intro far known k h
    rw [relaxN]
    have h1 := pass_bd hl (s := (far, known, true)) h
    have e : k + (n + 1) * l.length = k + l.length + n * l.length := by rw [Nat.add_mul]; omega
    split
    · exact h1.mono (by rw [e]; omega)
    · rw [e]; exact ih h1
theorem bd_of {g : Graph} (hg : Ok g) (known : List Bool) : Bd (relaxN g.as (g.n.toNat + 1) (all0 g) known).2.1 1000 := by
  have h := relaxN_bd (l := g.as) (fun a ha => ⟨(hg.arc a ha).c0, (hg.arc a ha).c1⟩) (g.n.toNat + 1) (known := known) (bd_zero g.n.toNat)
  refine h.mono ?_
  have h1 := hg.n1
  have h2 := hg.len
  have : (g.n.toNat + 1) * g.as.length ≤ 13 * 60 := Nat.mul_le_mul (by omega) h2
  omega
/-- To each node that is known an arc leads that is as long as it must be, but to the first. -/
structure Tight (l : List Arc) (N s : Nat) (far : List Int) (known : List Bool) : Prop where
  l1 : far.length = N
  l2 : known.length = N
  s0 : known.getD s false = true
  s1 : far.getD s 0 ≤ 0
  by_ : ∀ i, known.getD i false = true → i = s ∨ ∃ a, a ∈ l ∧ a.t.toNat = i ∧ known.getD a.f.toNat false = true ∧ far.getD a.f.toNat 0 + a.c ≤ far.getD i 0
theorem Tight.step {l : List Arc} {N s : Nat} (S : RS) (a : Arc) (ha : a ∈ l) (h : Tight l N s S.1 S.2.1) : Tight l N s (relaxStep S a).1 (relaxStep S a).2.1 := by
  unfold relaxStep
  by_cases hc : S.2.1.getD a.f.toNat false = true ∧ (S.2.1.getD a.t.toNat false = false ∨ S.1.getD a.f.toNat 0 + a.c < S.1.getD a.t.toNat 0)
  · rw [if_pos hc]
    have hl : S.1.length = S.2.1.length := h.l1.trans h.l2.symm
    have down : ∀ i, S.2.1.getD i false = true → (S.1.set a.t.toNat (S.1.getD a.f.toNat 0 + a.c)).getD i 0 ≤ S.1.getD i 0 := fun i hi => by
      rw [getD_set]
      split
      · rename_i e
        rcases hc.2 with h1 | h1
        · rw [e.1, hi] at h1; cases h1
        · rw [e.1] at h1; omega
      · exact Int.le_refl _
    have up : ∀ i, S.2.1.getD i false = true → (S.2.1.set a.t.toNat true).getD i false = true := fun i hi => by
      rw [getD_set]; split
      · rfl
      · exact hi
    refine ⟨by simpa using h.l1, by simpa using h.l2, up _ h.s0, Int.le_trans (down _ h.s0) h.s1, fun i hi => ?_⟩
    by_cases hti : a.t.toNat = i ∧ a.t.toNat < S.1.length
    · refine .inr ⟨a, ha, hti.1, up _ hc.1, ?_⟩
      have h1 := down _ hc.1
      have h2 : (S.1.set a.t.toNat (S.1.getD a.f.toNat 0 + a.c)).getD i 0 = S.1.getD a.f.toNat 0 + a.c := by rw [getD_set, if_pos hti]
      simp only [h2]
      omega
    · rw [getD_set, if_neg (by rw [← hl]; exact hti)] at hi
      rcases h.by_ i hi with h1 | ⟨b, hb, e, hk, hle⟩
      · exact .inl h1
      · refine .inr ⟨b, hb, e, up _ hk, ?_⟩
        have h1 := down _ hk
        have h2 : (S.1.set a.t.toNat (S.1.getD a.f.toNat 0 + a.c)).getD i 0 = S.1.getD i 0 := by rw [getD_set, if_neg hti]
        simp only [h2]
        omega
  · rw [if_neg hc]
    exact h
/-- What From's answer is worth. -/
structure FromOk (g : Graph) (s : Int) : Prop where
  ok : Ok g
  s0 : 0 ≤ s
  s1 : s < g.n
  l1 : (fromF g s).2.1.length = g.n.toNat
  l2 : (fromF g s).2.2.length = g.n.toNat
  ks : (fromF g s).2.2.getD s.toNat false = true
  fs : (fromF g s).2.1.getD s.toNat 0 = 0
  arc : ∀ a, a ∈ g.as → (fromF g s).2.2.getD a.f.toNat false = true → (fromF g s).2.2.getD a.t.toNat false = true ∧ (fromF g s).2.1.getD a.t.toNat 0 ≤ (fromF g s).2.1.getD a.f.toNat 0 + a.c
  bd : Bd (fromF g s).2.1 1000
  by_ : ∀ i, (fromF g s).2.2.getD i false = true → i = s.toNat ∨ ∃ a, a ∈ g.as ∧ a.t.toNat = i ∧ (fromF g s).2.2.getD a.f.toNat false = true ∧ (fromF g s).2.1.getD i 0 = (fromF g s).2.1.getD a.f.toNat 0 + a.c
theorem from_ok {g : Graph} {s : Int} (h : (fromF g s).1 = 0) : FromOk g s := by
  by_cases h1 : checkF g (-10000) = 0
  · have hg := (checkF_ok g).1 h1
    have h1' : ¬ checkF g (-10000) ≠ 0 := fun e => e h1
    by_cases h0 : s < 0 ∨ g.n ≤ s
    · rw [fromF, if_neg h1', if_pos h0] at h; cases h
    · cases h2 : (relaxN g.as (g.n.toNat + 1) (all0 g) (only g s)).1 with
      | false => rw [fromF_no h1' h0 h2] at h; cases h
      | true =>
        have hn := hg.n0
        have hs : s.toNat < g.n.toNat := by omega
        have e := fromF_yes h1' h0 h2
        have e1 : (fromF g s).2.1 = (relaxN g.as (g.n.toNat + 1) (all0 g) (only g s)).2.1 := by rw [e]
        have e2 : (fromF g s).2.2 = (relaxN g.as (g.n.toNat + 1) (all0 g) (only g s)).2.2 := by rw [e]
        have ho : (only g s).getD s.toNat false = true := by rw [only, getD_set, if_pos ⟨rfl, by simpa using hs⟩]
        have hT : Tight g.as g.n.toNat s.toNat (fromF g s).2.1 (fromF g s).2.2 := by
          rw [e1, e2]
          refine relaxN_inv (Q := Tight g.as g.n.toNat s.toNat) (fun S a ha hq => hq.step S a ha) _ ⟨by simp, by simp, ho, ?_, fun i hi => ?_⟩
          · rw [List.getD_eq_getElem?_getD, List.getElem?_replicate]; split <;> simp
          · refine .inl ?_
            rw [only, getD_set] at hi
            split at hi
            · rename_i e; exact e.1.symm
            · rw [List.getD_eq_getElem?_getD, List.getElem?_replicate] at hi
              split at hi <;> cases hi
        have harc : ∀ a, a ∈ g.as → (fromF g s).2.2.getD a.f.toNat false = true → (fromF g s).2.2.getD a.t.toNat false = true ∧ (fromF g s).2.1.getD a.t.toNat 0 ≤ (fromF g s).2.1.getD a.f.toNat 0 + a.c := by
          rw [e1, e2]; exact relaxN_done _ h2
        have hlow : Low (fromF g s).2.1 s.toNat (fromF g s).2.1 (fromF g s).2.2 := by
          have := relaxN_low (P := (fromF g s).2.1) (K := (fromF g s).2.2) (z := s.toNat) (fun a ha hk => (harc a ha hk).2) (g.n.toNat + 1) (far := all0 g) (known := only g s) (fun i hi => by rw [e2]; exact hi) (by simp) (fun i hi => by
            rw [only, getD_set] at hi
            split at hi
            · rename_i e3
              have e4 : (all0 g).getD s.toNat 0 = 0 := by
                rw [List.getD_eq_getElem?_getD, List.getElem?_replicate]; split <;> rfl
              rw [← e3.1, e4]; omega
            · rw [List.getD_eq_getElem?_getD, List.getElem?_replicate] at hi
              split at hi <;> cases hi)
          rw [← e1, ← e2] at this
          exact this
        have hl0 := hlow _ hT.s0
        have hs1 := hT.s1
        refine ⟨hg, by omega, by omega, hT.l1, hT.l2, hT.s0, by omega, harc, by rw [e1]; exact bd_of hg _, fun i hi => ?_⟩
        rcases hT.by_ i hi with h3 | ⟨a, ha, et, hk, hle⟩
        · exact .inl h3
        · refine .inr ⟨a, ha, et, hk, ?_⟩
          have := (harc a ha hk).2
          rw [et] at this
          omega
  · rw [fromF, if_pos h1] at h
    exact absurd h h1
theorem from_err {g : Graph} {s : Int} (h : (fromF g s).1 ≠ 0) : (fromF g s).2 = ([], []) := by
  by_cases h1 : checkF g (-10000) = 0
  · have h1' : ¬ checkF g (-10000) ≠ 0 := fun e => e h1
    by_cases h0 : s < 0 ∨ g.n ≤ s
    · rw [fromF, if_neg h1', if_pos h0]
    · cases h2 : (relaxN g.as (g.n.toNat + 1) (all0 g) (only g s)).1 with
      | false => rw [fromF_no h1' h0 h2]
      | true => rw [fromF_yes h1' h0 h2] at h; exact absurd rfl h
  · rw [fromF, if_pos h1]
theorem heights_ok {g : Graph} (h : (heightsF g).1 = 0) : Ok g ∧ (heightsF g).2.length = g.n.toNat ∧ ∀ a, a ∈ g.as → (heightsF g).2.getD a.t.toNat 0 ≤ (heightsF g).2.getD a.f.toNat 0 + a.c := by
  by_cases h1 : checkF g (-10000) = 0
  · have hg := (checkF_ok g).1 h1
    have h1' : ¬ checkF g (-10000) ≠ 0 := fun e => e h1
    cases h2 : (relaxN g.as (g.n.toNat + 1) (all0 g) (allT g)).1 with
    | false => rw [heightsF_no h1' h2] at h; cases h
    | true =>
      refine ⟨hg, heightsF_len h1' h2, fun a ha => ?_⟩
      rw [heightsF_yes h1' h2]
      refine (relaxN_done _ h2 a ha (relaxN_known _ ?_)).2
      have h3 := hg.arc a ha
      have := h3.f0; have := h3.f1
      rw [allT, List.getD_eq_getElem?_getD, List.getElem?_replicate, if_pos (by omega)]
      rfl
  · rw [heightsF, if_pos h1] at h
    exact absurd h h1
theorem heights_err {g : Graph} (h : (heightsF g).1 ≠ 0) : (heightsF g).2 = [] := by
  by_cases h1 : checkF g (-10000) = 0
  · have h1' : ¬ checkF g (-10000) ≠ 0 := fun e => e h1
    cases h2 : (relaxN g.as (g.n.toNat + 1) (all0 g) (allT g)).1 with
    | false => rw [heightsF_no h1' h2]
    | true => rw [heightsF_yes h1' h2] at h; exact absurd rfl h
  · rw [heightsF, if_pos h1]

end Go.Proofs.Ytmgldjkgneiejaa
