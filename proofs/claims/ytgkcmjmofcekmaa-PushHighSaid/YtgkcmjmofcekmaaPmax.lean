/- Flows and cuts: no flow is above a cut; where both are as much, both are best. -/
import Derived.Test.YtgkcmjmofcekmaaPflow
namespace Go.Proofs.Ytgkcmjmofcekmaa
open Go Go.Proofs.Ytgkcmjmofcekmaa.Sx
set_option linter.unusedVariables false
set_option linter.unusedSimpArgs false
/-- a side of the source, told by 0 and 1 -/
structure Cut (n : Net) (S : Int → Int) : Prop where
  s : S n.s = 1
  t : S n.t = 0
  b : ∀ x, S x = 0 ∨ S x = 1
def cross (L : List Arc) (S : Int → Int) (k : Nat) : Int := if S (L.getD k El.d).f = 1 ∧ S (L.getD k El.d).t = 0 then (L.getD k El.d).c else 0
def capS (L : List Arc) (S : Int → Int) : Int := tot (cross L S) L.length
theorem cut_term {f c a b : Int} (h0 : 0 ≤ f) (h1 : f ≤ c) (ha : a = 0 ∨ a = 1) (hb : b = 0 ∨ b = 1) : f * (a - b) ≤ if a = 1 ∧ b = 0 then c else 0 := by
  rcases ha with rfl | rfl <;> rcases hb with rfl | rfl <;> simp <;> omega
theorem cut_term_eq {f c a b : Int} (ha : a = 0 ∨ a = 1) (hb : b = 0 ∨ b = 1) (h1 : a = 1 → b = 0 → f = c) (h2 : a = 0 → b = 1 → f = 0) : f * (a - b) = if a = 1 ∧ b = 0 then c else 0 := by
  rcases ha with rfl | rfl <;> rcases hb with rfl | rfl <;> simp at * <;> omega
theorem cut_term_out {f c a b : Int} (h : f * (a - b) = if a = 1 ∧ b = 0 then c else 0) (ha : a = 1) (hb : b = 0) : f = c := by
  subst ha hb; simpa using h
theorem cut_term_in {f c a b : Int} (h : f * (a - b) = if a = 1 ∧ b = 0 then c else 0) (ha : a = 0) (hb : b = 1) : f = 0 := by
  subst ha hb; simp at h; omega
theorem Flow.value_cut {n : Net} {f : List Int} (h : Flow n f) {S : Int → Int} (hS : Cut n S) : netAt n.as f n.s = tot (fun k => f.getD k 0 * (S (n.as.getD k El.d).f - S (n.as.getD k El.d).t)) n.as.length := by
  rw [h.sides S, hS.s, hS.t]; omega
theorem Flow.le_cut {n : Net} {f : List Int} (h : Flow n f) {S : Int → Int} (hS : Cut n S) : netAt n.as f n.s ≤ capS n.as S := by
  rw [h.value_cut hS]
  refine tot_le fun k hk => ?_
  have hr := h.r k (by rw [h.len]; exact hk)
  exact cut_term hr.1 hr.2 (hS.b _) (hS.b _)
/-- each arc that leads out is full, each that leads in is empty -/
structure Tight (n : Net) (f : List Int) (S : Int → Int) : Prop where
  out : ∀ k, k < n.as.length → S (n.as.getD k El.d).f = 1 → S (n.as.getD k El.d).t = 0 → f.getD k 0 = (n.as.getD k El.d).c
  inn : ∀ k, k < n.as.length → S (n.as.getD k El.d).f = 0 → S (n.as.getD k El.d).t = 1 → f.getD k 0 = 0
theorem Flow.eq_cut {n : Net} {f : List Int} (h : Flow n f) {S : Int → Int} (hS : Cut n S) (ht : Tight n f S) : netAt n.as f n.s = capS n.as S := by
  rw [h.value_cut hS]
  refine tot_congr fun k hk => ?_
  exact cut_term_eq (hS.b _) (hS.b _) (ht.out k hk) (ht.inn k hk)
theorem Flow.tight {n : Net} {f : List Int} (h : Flow n f) {S : Int → Int} (hS : Cut n S) (he : netAt n.as f n.s = capS n.as S) : Tight n f S := by
  rw [h.value_cut hS] at he
  have key : ∀ k, k < n.as.length → f.getD k 0 * (S (n.as.getD k El.d).f - S (n.as.getD k El.d).t) = cross n.as S k := fun k hk => by
    refine tot_eq_each (f := fun k => f.getD k 0 * (S (n.as.getD k El.d).f - S (n.as.getD k El.d).t)) (g := cross n.as S) (fun i hi => ?_) he k hk
    have hr := h.r i (by rw [h.len]; exact hi)
    exact cut_term hr.1 hr.2 (hS.b _) (hS.b _)
  exact ⟨fun k hk e1 e2 => cut_term_out (key k hk) e1 e2, fun k hk e1 e2 => cut_term_in (key k hk) e1 e2⟩
/-- so much goes at most -/
structure MaxV (n : Net) (v : Int) : Prop where
  flow : ∃ f, Flow n f ∧ netAt n.as f n.s = v
  cut : ∃ S, Cut n S ∧ capS n.as S = v
theorem MaxV.le {n : Net} {v : Int} (h : MaxV n v) {f : List Int} (hf : Flow n f) : netAt n.as f n.s ≤ v := by
  obtain ⟨S, h1, h2⟩ := h.cut
  rw [← h2]; exact hf.le_cut h1
theorem MaxV.ge {n : Net} {v : Int} (h : MaxV n v) {S : Int → Int} (hS : Cut n S) : v ≤ capS n.as S := by
  obtain ⟨f, h1, h2⟩ := h.flow
  rw [← h2]; exact h1.le_cut hS
theorem MaxV.uniq {n : Net} {v w : Int} (h : MaxV n v) (h' : MaxV n w) : v = w := by
  obtain ⟨f, h1, h2⟩ := h.flow
  obtain ⟨g, h3, h4⟩ := h'.flow
  have := h.le h3; have := h'.le h1
  omega
theorem MaxV.nonneg {n : Net} {v : Int} (h : MaxV n v) (hn : OkNet n) : 0 ≤ v := by
  obtain ⟨S, h1, h2⟩ := h.cut
  rw [← h2]
  refine tot_nonneg fun k hk => ?_
  have := (hn.arc hk).c0
  unfold cross
  split <;> omega
theorem MaxV.le_total {n : Net} {v : Int} (h : MaxV n v) (hn : OkNet n) : v ≤ 10000 * n.as.length := by
  obtain ⟨S, h1, h2⟩ := h.cut
  rw [← h2]
  exact (tot_abs (M := 10000) fun k hk => by
    have := (hn.arc hk).c0; have := (hn.arc hk).c1
    unfold cross
    split <;> omega).2
end Go.Proofs.Ytgkcmjmofcekmaa
