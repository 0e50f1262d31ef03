/- Plain laws: where no way to assign is better, prices come to rest. -/
import Derived.Test.YtlpelkfcmeapiaaPlB
namespace Go.Proofs.Ytlpelkfcmeapiaa
open Go Go.Proofs.Ytlpelkfcmeapiaa.Sx
set_option linter.unusedVariables false
set_option linter.unusedSimpArgs false
/-- each row has one, and no two the same -/
structure InjN (n : Nat) (σ : Nat → Nat) : Prop where
  lt : ∀ i, i < n → σ i < n
  inj : ∀ i j, i < n → j < n → σ i = σ j → i = j
/-- a way that comes to no node twice: its nodes (the last one ahead), its end, its length -/
inductive Pth (n : Nat) (w : Nat → Nat → Int) (a : Nat) : List Nat → Nat → Int → Prop where
  | one : a < n → Pth n w a [a] a 0
  | snoc {L : List Nat} {k l : Nat} {v : Int} : Pth n w a L k v → l < n → l ∉ L → Pth n w a (l :: L) l (v + w k l)
theorem Pth.mem {n : Nat} {w : Nat → Nat → Int} {a : Nat} {L : List Nat} {k : Nat} {v : Int} (h : Pth n w a L k v) : k ∈ L ∧ k < n := by
  cases h with
  | one h => exact ⟨by simp, h⟩
  | snoc _ h _ => exact ⟨by simp, h⟩
theorem Pth.start {n : Nat} {w : Nat → Nat → Int} {a : Nat} {L : List Nat} {k : Nat} {v : Int} (h : Pth n w a L k v) : a < n := by
  induction h with
  | one h => exact h
  | snoc _ _ _ ih => exact ih
theorem Pth.len {n : Nat} {w : Nat → Nat → Int} {a : Nat} {L : List Nat} {k : Nat} {v : Int} (h : Pth n w a L k v) : L.length ≤ cnt (fun x => decide (x ∈ L)) n := by
  induction h with
  | one h => exact cnt_pos h (by simp)
  | @snoc L k l v h hl hni ih =>
    have := cnt_lt (S := fun x => decide (x ∈ L)) (T := fun x => decide (x ∈ l :: L)) (n := n) (y := l) (fun x _ hx => by
      simp only [decide_eq_true_eq] at hx ⊢
      exact List.mem_cons_of_mem _ hx) hl (by simp) (by simpa using hni)
    simp only [List.length_cons]
    omega
theorem Pth.le_n {n : Nat} {w : Nat → Nat → Int} {a : Nat} {L : List Nat} {k : Nat} {v : Int} (h : Pth n w a L k v) : L.length ≤ n := Nat.le_trans h.len (cnt_le _ _)
theorem Pth.small {n : Nat} {w : Nat → Nat → Int} {B : Int} (hB : ∀ i j, w i j ≤ B) (hB0 : 0 ≤ B) {a : Nat} {L : List Nat} {k : Nat} {v : Int} (h : Pth n w a L k v) : v ≤ L.length * B := by
  induction h with
  | one h => simp; omega
  | @snoc L k l v h hl hni ih =>
    have := hB k l
    simp only [List.length_cons]
    rw [show ((L.length + 1 : Nat) : Int) * B = L.length * B + B by push_cast; rw [Int.add_mul]; omega]
    omega
theorem Pth.split {n : Nat} {w : Nat → Nat → Int} {a : Nat} {L : List Nat} {k : Nat} {v : Int} (h : Pth n w a L k v) : ∀ x, x ∈ L → ∃ L1 v1 L2 v2, Pth n w a L1 x v1 ∧ Pth n w x L2 k v2 ∧ v = v1 + v2 ∧ ∀ y, y ∈ L2 → y ∈ L := by
  induction h with
  | one h =>
    intro x hx
    obtain rfl : x = a := by simpa using hx
    exact ⟨_, _, _, _, .one h, .one h, by omega, fun y hy => hy⟩
  | @snoc L k l v h hl hni ih =>
    intro x hx
    by_cases e : x = l
    · subst e
      exact ⟨_, _, _, _, .snoc h hl hni, .one hl, by omega, fun y hy => by
        obtain rfl : y = x := by simpa using hy
        simp⟩
    · have hx' : x ∈ L := by
        rcases List.mem_cons.1 hx with h | h
        · exact absurd h e
        · exact h
      obtain ⟨L1, v1, L2, v2, h1, h2, h3, h4⟩ := ih x hx'
      exact ⟨L1, v1, l :: L2, v2 + w k l, h1, .snoc h2 hl fun z => hni (h4 _ z), by omega, fun y hy => by
        rcases List.mem_cons.1 hy with h | h
        · simp [h]
        · exact List.mem_cons_of_mem _ (h4 y h)⟩
theorem sw_inj {k l i j : Nat} (h : (if i = k then l else if i = l then k else i) = (if j = k then l else if j = l then k else j)) : i = j := by
  repeat' (split at h)
  all_goals omega
section
variable {n : Nat} {U : Nat → Nat → Int}
theorem Pth.perm {a : Nat} {L : List Nat} {k : Nat} {v : Int} (h : Pth n (fun i j => U i j - U i i) a L k v) :
    ∃ σ, InjN n σ ∧ σ k = a ∧ (∀ c, c ∉ L → σ c = c) ∧ tot (fun i => U i (σ i)) n = tot (fun i => U i i) n + v + U k a - U k k := by
  induction h with
  | one h => exact ⟨id, ⟨fun i hi => hi, fun i j _ _ e => e⟩, rfl, fun c _ => rfl, by simp only [id]; omega⟩
  | @snoc L k l v h hl hni ih =>
    obtain ⟨σ, hI, h1, h2, h3⟩ := ih
    have hk := h.mem
    have ha := h.start
    have hne : k ≠ l := fun e => hni (e ▸ hk.1)
    have h2l := h2 l hni
    refine ⟨fun i => if i = k then l else if i = l then a else σ i, ⟨fun i hi => ?_, fun i j hi hj e => ?_⟩, ?_, fun c hc => ?_, ?_⟩
    · try dsimp only
      split
      · exact hl
      · split
        · exact ha
        · exact hI.lt i hi
    · have hσ : ∀ i, (if i = k then l else if i = l then a else σ i) = σ (if i = k then l else if i = l then k else i) := fun i => by
        by_cases c1 : i = k
        · rw [if_pos c1, if_pos c1, h2l]
        · rw [if_neg c1, if_neg c1]
          by_cases c2 : i = l
          · rw [if_pos c2, if_pos c2, h1]
          · rw [if_neg c2, if_neg c2]
      have e' : σ (if i = k then l else if i = l then k else i) = σ (if j = k then l else if j = l then k else j) := by rw [← hσ, ← hσ]; exact e
      have lt : ∀ i, i < n → (if i = k then l else if i = l then k else i) < n := fun i hi => by
        have := hk.2
        split
        · exact hl
        · split <;> omega
      exact sw_inj (hI.inj _ _ (lt i hi) (lt j hj) e')
    · dsimp only
      rw [if_neg (fun z => hne z.symm), if_pos rfl]
    · have e1 : c ≠ k := fun z => hc (by rw [z]; exact List.mem_cons_of_mem _ hk.1)
      have e2 : c ≠ l := fun z => hc (by rw [z]; simp)
      dsimp only
      rw [if_neg e1, if_neg e2]
      exact h2 c fun z => hc (List.mem_cons_of_mem _ z)
    · have e1 : tot (fun i => U i (if i = k then l else if i = l then a else σ i)) n = tot (fun i => (U i (σ i) + if i = k then U k l - U k a else 0) + if i = l then U l a - U l l else 0) n := tot_congr fun i hi => by
        by_cases c1 : i = k
        · subst c1
          rw [if_pos rfl, if_pos rfl, if_neg hne, h1]; omega
        · rw [if_neg c1, if_neg c1]
          by_cases c2 : i = l
          · subst c2
            rw [if_pos rfl, if_pos rfl, h2l]; omega
          · rw [if_neg c2, if_neg c2]; omega
      have s1 : tot (fun i => if i = k then U k l - U k a else 0) n = U k l - U k a := by
        rw [tot_single hk.2 fun i _ hne => if_neg hne, if_pos rfl]
      have s2 : tot (fun i => if i = l then U l a - U l l else 0) n = U l a - U l l := by
        rw [tot_single hl fun i _ hne => if_neg hne, if_pos rfl]
      rw [e1, tot_add (fun i => U i (σ i) + if i = k then U k l - U k a else 0) (fun i => if i = l then U l a - U l l else 0), tot_add (fun i => U i (σ i)) (fun i => if i = k then U k l - U k a else 0), s1, s2, h3]
      omega
/-- no way to assign is better than this one -/
def BestU (n : Nat) (U : Nat → Nat → Int) : Prop := ∀ σ, InjN n σ → tot (fun i => U i (σ i)) n ≤ tot (fun i => U i i) n
theorem Pth.cycle (hb : BestU n U) {a : Nat} {L : List Nat} {k : Nat} {v : Int} (h : Pth n (fun i j => U i j - U i i) a L k v) : v + (U k a - U k k) ≤ 0 := by
  obtain ⟨σ, hI, _, _, h3⟩ := h.perm
  have := hb σ hI
  omega
theorem Pth.ext (hb : BestU n U) {a : Nat} {L : List Nat} {k : Nat} {v : Int} (h : Pth n (fun i j => U i j - U i i) a L k v) {l : Nat} (hl : l < n) : ∃ L' v', Pth n (fun i j => U i j - U i i) a L' l v' ∧ v + (U k l - U k k) ≤ v' := by
  by_cases c : l ∈ L
  · obtain ⟨L1, v1, L2, v2, h1, h2, h3, _⟩ := h.split l c
    have := h2.cycle hb
    exact ⟨L1, v1, h1, by omega⟩
  · exact ⟨_, _, .snoc h hl c, Int.le_refl _⟩
/-- prices after some rounds: no higher than ways make them, and as high as all ways of so many nodes make them -/
structure PrI (n : Nat) (U : Nat → Nat → Int) (r : Nat) (P : Nat → Int) : Prop where
  h0 : ∀ k, k < n → 0 ≤ P k
  up : ∀ k, k < n → ∃ a L v, Pth n (fun i j => U i j - U i i) a L k v ∧ P k ≤ v
  low : ∀ a L k v, Pth n (fun i j => U i j - U i i) a L k v → L.length ≤ r + 1 → v ≤ P k
theorem PrI.zero : PrI n U 0 (fun _ => 0) :=
  ⟨fun _ _ => Int.le_refl _, fun k hk => ⟨k, _, _, .one hk, Int.le_refl _⟩, fun a L k v h hlen => by
    cases h with
    | one => exact Int.le_refl _
    | snoc h _ _ =>
      exfalso
      cases h with
      | one => simp at hlen
      | snoc => simp at hlen⟩
theorem PrI.rest (hb : BestU n U) {r : Nat} (hr : n ≤ r + 1) {P : Nat → Int} (h : PrI n U r P) {k l : Nat} (hk : k < n) (hl : l < n) : P k + (U k l - U k k) ≤ P l := by
  obtain ⟨a, L, v, h1, h2⟩ := h.up k hk
  obtain ⟨L', v', h3, h4⟩ := h1.ext hb hl
  have := h.low a L' l v' h3 (by have := h3.le_n; omega)
  omega
/-- within a round -/
structure PrW (n : Nat) (U : Nat → Nat → Int) (P0 P : Nat → Int) : Prop where
  up : ∀ k, k < n → ∃ a L v, Pth n (fun i j => U i j - U i i) a L k v ∧ P k ≤ v
  mono : ∀ k, k < n → P0 k ≤ P k
theorem PrW.step (hb : BestU n U) {P0 P : Nat → Int} (h : PrW n U P0 P) {k l : Nat} (hk : k < n) (hl : l < n) : PrW n U P0 (fun j => if j = l then max (P l) (P k + (U k l - U k k)) else P j) :=
  ⟨fun j hj => by
    try dsimp only
    by_cases e : j = l
    · subst e
      rw [if_pos rfl]
      rcases Int.le_total (P j) (P k + (U k j - U k k)) with c | c
      · rw [Int.max_eq_right c]
        obtain ⟨a, L, v, h1, h2⟩ := h.up k hk
        obtain ⟨L', v', h3, h4⟩ := h1.ext hb hj
        exact ⟨a, L', v', h3, by omega⟩
      · rw [Int.max_eq_left c]
        exact h.up j hj
    · rw [if_neg e]
      exact h.up j hj, fun j hj => by
    try dsimp only
    have := h.mono j hj
    by_cases e : j = l
    · subst e
      rw [if_pos rfl]; omega
    · rw [if_neg e]; exact this⟩
theorem PrI.next {r : Nat} {P0 P : Nat → Int} (h0 : PrI n U r P0) (h : PrW n U P0 P) (hall : ∀ k l, k < n → l < n → P0 k + (U k l - U k k) ≤ P l) : PrI n U (r + 1) P :=
  ⟨fun k hk => by have := h0.h0 k hk; have := h.mono k hk; omega, h.up, fun a L k v hp hlen => by
    cases hp with
    | one ha =>
      have := h0.h0 _ ha; have := h.mono _ ha; omega
    | snoc hp hl hni =>
      have := h0.low _ _ _ _ hp (by simp at hlen; omega)
      have := hall _ _ hp.mem.2 hl
      omega⟩
end
end Go.Proofs.Ytlpelkfcmeapiaa
