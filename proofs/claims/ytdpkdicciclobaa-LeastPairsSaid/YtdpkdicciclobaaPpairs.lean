/- Package pairs: Part answers what parts two nodes. -/
import Derived.Test.YtdpkdicciclobaaPspread
import Derived.Test.YtdpkdicciclobaaPlsA
import Derived.Test.YtdpkdicciclobaaGpairs
namespace Go.Proofs.Ytdpkdicciclobaa
open Go Go.Proofs.Ytdpkdicciclobaa.Sx
set_option linter.unusedVariables false
set_option linter.unusedSimpArgs false
def bothP (l : List Arc) : List Arc := l.flatMap fun a => [a, turnA a]
theorem bothP_len (l : List Arc) : (bothP l).length = 2 * l.length := by
  induction l with
  | nil => rfl
  | cons a l ih =>
    have : bothP (a :: l) = a :: turnA a :: bothP l := rfl
    rw [this, List.length_cons, List.length_cons, ih, List.length_cons]; omega
theorem bothP_mem {l : List Arc} {b : Arc} (h : b ∈ bothP l) : ∃ a, a ∈ l ∧ (b = a ∨ b = turnA a) := by
  obtain ⟨a, ha, hb⟩ := List.mem_flatMap.1 h
  rcases List.mem_cons.1 hb with e | e
  · exact ⟨a, ha, .inl e⟩
  · exact ⟨a, ha, .inr (List.mem_singleton.1 e)⟩
def bothN (g : Graph) (s t : Int) : Net := ⟨g.n, s, t, bothP g.as⟩
theorem bothN_eq {g : Graph} (hl : g.as.length ≤ 1000) (s t : Int) : pairs_both_F g s t = some (bothN g s t) := by
  unfold pairs_both_F
  obtain ⟨l, e, h1, h2⟩ := forN_inv (f := pairs_both_B1 g t) (fun j l => l = bothP (g.as.take j) ∧ l.length = 2 * j) (n := g.as.length) (k := 0) (s := []) ⟨rfl, rfl⟩ fun j l _ hj ⟨i1, i2⟩ => by
    have hj' : j < g.as.length := by omega
    unfold pairs_both_B1
    rw [ck_some (by omega)]
    refine ⟨_, rfl, ?_, by simp [i2]; omega⟩
    rw [take_succ_getD hj', i1]
    unfold bothP
    rw [List.flatMap_append]
    rfl
  rw [e, bind_some', h1, Nat.zero_add, List.take_of_length_le (Nat.le_refl _)]
  rfl
/-- what Check asks -/
structure OkP (g : Graph) : Prop where
  ok : OkL g 0
  len : g.as.length ≤ 30
theorem pairsCheck_cases (g : Graph) : (OkP g ∧ pairs_Check_F g = some 0) ∨ (¬ OkP g ∧ ∃ e, e ≠ 0 ∧ pairs_Check_F g = some e) := by
  unfold pairs_Check_F
  rw [check0_eq, bind_some']
  by_cases h : checkF g 0 = 0
  · rw [if_neg (by simpa using h)]
    by_cases h2 : 30 < ((g.as.length : Nat) : Int)
    · rw [if_pos h2]; exact .inr ⟨fun z => by have := z.len; omega, 2, by decide, rfl⟩
    · rw [if_neg h2]; exact .inl ⟨⟨(checkF_ok g _).1 h, by omega⟩, rfl⟩
  · rw [if_pos h]; exact .inr ⟨fun z => h ((checkF_ok g _).2 z.ok), _, h, rfl⟩
theorem bothN_ok {g : Graph} (h : OkP g) {s t : Int} (s0 : 0 ≤ s) (s1 : s < g.n) (t0 : 0 ≤ t) (t1 : t < g.n) (hne : s ≠ t) : OkNet (bothN g s t) :=
  ⟨⟨h.ok.n0, h.ok.n1, by show (bothP g.as).length ≤ 60; rw [bothP_len]; have := h.len; omega, fun b hb => by
    obtain ⟨a, ha, rfl | rfl⟩ := bothP_mem hb
    · exact h.ok.arc _ ha
    · exact (h.ok.arc a ha).turn⟩, s0, s1, t0, t1, hne⟩
/-- what leads from the one to the others, in either direction -/
def across (S : Int → Int) (a : Arc) : Int := if S a.f = S a.t then 0 else a.c
theorem cap_both (l : List Arc) {S : Int → Int} (hb : ∀ x, S x = 0 ∨ S x = 1) : capS (bothP l) S = lsA (across S) l := by
  rw [capS_lsA]
  induction l with
  | nil => rfl
  | cons a l ih =>
    have : bothP (a :: l) = a :: turnA a :: bothP l := rfl
    rw [this, lsA, lsA, lsA, ih]
    have e : crossA S a + crossA S (turnA a) = across S a := by
      unfold crossA across turnA
      dsimp only
      generalize a.c = c
      rcases hb a.f with p | p <;> rcases hb a.t with q | q <;> simp [p, q]
    omega
theorem across_turn (S : Int → Int) : across (fun x => 1 - S x) = across S := by
  funext a
  unfold across
  by_cases h : S a.f = S a.t
  · rw [if_pos h, if_pos (by dsimp only; rw [h])]
  · rw [if_neg h, if_neg (by dsimp only; omega)]
/-- what parts two nodes: the least of what leads from a side of the one -/
structure Parts2 (g : Graph) (s t v : Int) : Prop where
  max : MaxV (bothN g s t) v
theorem part_ok {g : Graph} (h : OkP g) {s t : Int} (hn : OkNet (bothN g s t)) : ∃ v, pairs_Part_F g s t = some (v, 0) ∧ MaxV (bothN g s t) v := by
  have hc : pairs_Check_F g = some 0 := by
    rcases pairsCheck_cases g with ⟨_, e⟩ | ⟨z, _⟩
    · exact e
    · exact absurd h z
  obtain ⟨low, v, e, _, hM⟩ := least_ok hn
  unfold pairs_Part_F
  rw [hc, bind_some', if_neg (by decide), bothN_eq (by have := h.len; omega), bind_some', e, bind_some']
  exact ⟨v, rfl, hM⟩
theorem part_none {g : Graph} (h : OkP g) {s t : Int} (hn : ¬ OkNet (bothN g s t)) : ∃ e, e ≠ 0 ∧ graph_CheckNet_F (bothN g s t) = some e ∧ pairs_Part_F g s t = some (0, e) := by
  have hc : pairs_Check_F g = some 0 := by
    rcases pairsCheck_cases g with ⟨_, e⟩ | ⟨z, _⟩
    · exact e
    · exact absurd h z
  obtain ⟨e, he, hcn, h1⟩ := least_bad hn
  unfold pairs_Part_F
  rw [hc, bind_some', if_neg (by decide), bothN_eq (by have := h.len; omega), bind_some', h1, bind_some']
  exact ⟨e, he, hcn, rfl⟩
theorem part_bad {g : Graph} (h : ¬ OkP g) : ∃ e, e ≠ 0 ∧ ∀ s t, pairs_Part_F g s t = some (0, e) := by
  rcases pairsCheck_cases g with ⟨z, _⟩ | ⟨_, e, he, e1⟩
  · exact absurd z h
  · refine ⟨e, he, fun s t => ?_⟩
    unfold pairs_Part_F
    rw [e1, bind_some', if_pos he]
theorem okN_swap {g : Graph} {s t : Int} (h : OkNet (bothN g s t)) : OkNet (bothN g t s) := ⟨h.g, h.t0, h.t1, h.s0, h.s1, fun e => h.ne e.symm⟩
theorem max_swap {g : Graph} {s t v w : Int} (h : OkNet (bothN g s t)) (hv : MaxV (bothN g s t) v) (hw : MaxV (bothN g t s) w) : w ≤ v := by
  obtain ⟨S, hS, e⟩ := hv.cut
  have hb : ∀ x, 1 - S x = 0 ∨ 1 - S x = 1 := fun x => by rcases hS.b x with q | q <;> omega
  have hs := hS.s; have ht := hS.t
  have hc : Cut (bothN g t s) fun x => 1 - S x := ⟨by show 1 - S t = 1; have : S t = 0 := ht; omega, by show 1 - S s = 0; have : S s = 1 := hs; omega, hb⟩
  have := hw.ge hc
  have e1 : capS (bothN g s t).as S = lsA (across S) g.as := cap_both g.as hS.b
  have e2 : capS (bothN g t s).as (fun x => 1 - S x) = lsA (across fun x => 1 - S x) g.as := cap_both g.as hb
  rw [across_turn] at e2
  omega
theorem checkNet_swap (g : Graph) (s t : Int) : graph_CheckNet_F (bothN g s t) = graph_CheckNet_F (bothN g t s) := by
  unfold graph_CheckNet_F bothN
  dsimp only
  rw [check0_eq, bind_some', bind_some']
  by_cases h : checkF ⟨g.n, bothP g.as⟩ 0 ≠ 0
  · rw [if_pos h, if_pos h]
  · rw [if_neg h, if_neg h]
    by_cases h1 : s < 0 <;> by_cases h2 : g.n ≤ s <;> by_cases h3 : t < 0 <;> by_cases h4 : g.n ≤ t <;> simp only [h1, h2, h3, h4, if_true, if_false] <;> (by_cases h5 : s = t <;> simp [h5, eq_comm])
end Go.Proofs.Ytdpkdicciclobaa
