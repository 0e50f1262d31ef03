/- Plain laws: rounds that come to rest; ways along arcs. -/
import Derived.Test.YtmgldjkgneiejaaPlA
namespace Go.Proofs.Ytmgldjkgneiejaa
open Go Go.Proofs.Ytmgldjkgneiejaa.Sx
set_option linter.unusedVariables false
set_option linter.unusedSimpArgs false

/-! ### sets that only grow come to rest -/
def cnt (S : Nat → Bool) : Nat → Nat
  | 0 => 0
  | n + 1 => cnt S n + cond (S n) 1 0
theorem cnt_le (S : Nat → Bool) : ∀ n, cnt S n ≤ n
  | 0 => Nat.le_refl _
  | n + 1 => by have := cnt_le S n; simp only [cnt]; cases S n <;> simp <;> omega
theorem cnt_mono {S T : Nat → Bool} : ∀ {n : Nat}, (∀ x, x < n → S x = true → T x = true) → cnt S n ≤ cnt T n
  | 0, _ => Nat.le_refl _
  | n + 1, h => by
    have := cnt_mono (n := n) fun x hx => h x (by omega)
    have h2 := h n (by omega)
    simp only [cnt]
    cases hS : S n
    · simp; omega
    · simp [h2 hS, this]
theorem cnt_lt {S T : Nat → Bool} : ∀ {n : Nat} {y : Nat}, (∀ x, x < n → S x = true → T x = true) → y < n → T y = true → S y = false → cnt S n < cnt T n
  | 0, _, _, h, _, _ => absurd h (by omega)
  | n + 1, y, h, hy, hT, hS => by
    simp only [cnt]
    by_cases e : y = n
    · subst e
      have := cnt_mono (S := S) (T := T) (n := y) fun x hx => h x (by omega)
      simp [hT, hS]; omega
    · have := cnt_lt (n := n) (y := y) (fun x hx => h x (by omega)) (by omega) hT hS
      have h2 := h n (by omega)
      cases hS : S n
      · simp; omega
      · simp [h2 hS, this]
theorem cnt_pos {S : Nat → Bool} {n y : Nat} (hy : y < n) (h : S y = true) : 1 ≤ cnt S n := by
  have := cnt_lt (S := fun _ => false) (T := S) (n := n) (y := y) (fun _ _ h => by cases h) hy h rfl
  omega
/-- Rounds of which each is told by the one before, and that only add: of n nodes, the n-th round adds nothing (from the first one on there is one at least). -/
theorem rounds_rest {n : Nat} (S : Nat → Nat → Bool) (hmono : ∀ r x, x < n → S r x = true → S (r + 1) x = true) (hdet : ∀ r r', (∀ x, x < n → S r x = S r' x) → ∀ x, x < n → S (r + 1) x = S (r' + 1) x) (h0 : ∃ x, x < n ∧ S 0 x = true) :
    ∀ x, x < n → S (n + 1) x = S n x := by
  have key : ∀ r, (∃ j, j ≤ r ∧ ∀ x, x < n → S (j + 1) x = S j x) ∨ r + 1 ≤ cnt (S r) n := by
    intro r
    induction r with
    | zero =>
      obtain ⟨x, hx, hs⟩ := h0
      exact .inr (cnt_pos hx hs)
    | succ r ih =>
      rcases ih with ⟨j, hj, h⟩ | h
      · exact .inl ⟨j, by omega, h⟩
      · by_cases he : ∀ x, x < n → S (r + 1) x = S r x
        · exact .inl ⟨r, by omega, he⟩
        · right
          have : ∃ y, y < n ∧ S (r + 1) y = true ∧ S r y = false := by
            refine Classical.byContradiction fun hn => he fun x hx => ?_
            cases h1 : S r x with
            | true => exact hmono r x hx h1
            | false =>
              cases h2 : S (r + 1) x with
              | false => rfl
              | true => exact absurd ⟨x, hx, h2, h1⟩ hn
          obtain ⟨y, hy, h1, h2⟩ := this
          have := cnt_lt (n := n) (fun x hx => hmono r x hx) hy h1 h2
          omega
  have stay : ∀ j, (∀ x, x < n → S (j + 1) x = S j x) → ∀ i, ∀ x, x < n → S (j + i + 1) x = S (j + i) x := by
    intro j h i
    induction i with
    | zero => exact h
    | succ i ih => exact hdet (j + i + 1) (j + i) ih
  rcases key n with ⟨j, hj, h⟩ | h
  · have := stay j h (n - j)
    rwa [show j + (n - j) = n by omega] at this
  · have := cnt_le (S n) n
    omega

/-! ### nodes as numbers -/
/-- what a list says of node x -/
def atI (l : List Int) (x : Int) : Int := l.getD x.toNat 0
theorem atI_set {l : List Int} {t x v : Int} (ht : 0 ≤ t) (htl : t < l.length) (hx : 0 ≤ x) : atI (l.set t.toNat v) x = if x = t then v else atI l x := by
  unfold atI
  rw [getD_set']
  by_cases h : x = t
  · subst h; rw [if_pos ⟨rfl, by omega⟩, if_pos rfl]
  · rw [if_neg (fun e => h (by omega)), if_neg h]
/-- a way of k arcs from s to x -/
inductive Way (l : List Arc) (s : Int) : Nat → Int → Prop
  | nil : Way l s 0 s
  | snoc {k : Nat} {a : Arc} (h : Way l s k a.f) (ha : a ∈ l) : Way l s (k + 1) a.t
theorem Way.cons {l : List Arc} {a : Arc} (ha : a ∈ l) : ∀ {k : Nat} {x : Int}, Way l a.t k x → Way l a.f (k + 1) x
  | _, _, .nil => .snoc .nil ha
  | _, _, .snoc h hb => .snoc (Way.cons ha h) hb
theorem Way.turn {l l' : List Arc} (hl : ∀ a, a ∈ l → ∃ b, b ∈ l' ∧ b.f = a.t ∧ b.t = a.f) {s : Int} : ∀ {k : Nat} {x : Int}, Way l s k x → Way l' x k s
  | _, _, .nil => .nil
  | _, _, .snoc (a := a) h ha => by
    obtain ⟨b, hb, e1, e2⟩ := hl a ha
    have := Way.turn hl h
    rw [← e2] at this
    rw [← e1]
    exact Way.cons hb this
end Go.Proofs.Ytmgldjkgneiejaa
