/- Pairs of any who go together: what stays alone, and bars (Tutte, Berge). No program. -/
import Derived.Test.YtdpkdicciclobaaPlA
namespace Go.Proofs.Ytdpkdicciclobaa
open Go Go.Proofs.Ytdpkdicciclobaa.Sx
set_option linter.unusedVariables false
set_option linter.unusedSimpArgs false
/-! ### how many -/
open Classical in
/-- how many below n -/
noncomputable def num (A : Nat → Prop) (n : Nat) : Int := tot (fun x => if A x then 1 else 0) n
theorem num_zero (A : Nat → Prop) : num A 0 = 0 := rfl
theorem num_t {A : Nat → Prop} {n : Nat} (h : A n) : num A (n + 1) = num A n + 1 := by unfold num; rw [tot, if_pos h]
theorem num_f {A : Nat → Prop} {n : Nat} (h : ¬ A n) : num A (n + 1) = num A n := by unfold num; rw [tot, if_neg h]; omega
theorem num_congr {A B : Nat → Prop} : ∀ {n : Nat}, (∀ x, x < n → (A x ↔ B x)) → num A n = num B n
  | 0, _ => rfl
  | n + 1, h => by
    have ih := num_congr (n := n) fun x hx => h x (by omega)
    by_cases c : A n
    · rw [num_t c, num_t ((h n (by omega)).1 c), ih]
    · rw [num_f c, num_f fun w => c ((h n (by omega)).2 w), ih]
theorem num_le {A B : Nat → Prop} : ∀ {n : Nat}, (∀ x, x < n → A x → B x) → num A n ≤ num B n
  | 0, _ => Int.le_refl _
  | n + 1, h => by
    have ih := num_le (n := n) fun x hx => h x (by omega)
    by_cases c : A n
    · rw [num_t c, num_t (h n (by omega) c)]; omega
    · rw [num_f c]
      by_cases d : B n
      · rw [num_t d]; omega
      · rw [num_f d]; exact ih
theorem num_none {A : Nat → Prop} : ∀ {n : Nat}, (∀ x, x < n → ¬ A x) → num A n = 0
  | 0, _ => rfl
  | n + 1, h => by rw [num_f (h n (by omega)), num_none fun x hx => h x (by omega)]
theorem num_nonneg (A : Nat → Prop) : ∀ n, 0 ≤ num A n
  | 0 => Int.le_refl _
  | n + 1 => by
    have := num_nonneg A n
    by_cases c : A n
    · rw [num_t c]; omega
    · rw [num_f c]; exact this
theorem num_le_n (A : Nat → Prop) : ∀ n : Nat, num A n ≤ n
  | 0 => Int.le_refl _
  | n + 1 => by
    have := num_le_n A n
    by_cases c : A n
    · rw [num_t c]; omega
    · rw [num_f c]; omega
theorem num_split (A C : Nat → Prop) : ∀ n, num A n = num (fun x => A x ∧ C x) n + num (fun x => A x ∧ ¬ C x) n
  | 0 => rfl
  | n + 1 => by
    have ih := num_split A C n
    by_cases c : A n
    · by_cases d : C n
      · rw [num_t c, num_t (A := fun x => A x ∧ C x) ⟨c, d⟩, num_f (A := fun x => A x ∧ ¬ C x) fun w => w.2 d]; omega
      · rw [num_t c, num_f (A := fun x => A x ∧ C x) fun w => d w.2, num_t (A := fun x => A x ∧ ¬ C x) ⟨c, d⟩]; omega
    · rw [num_f c, num_f (A := fun x => A x ∧ C x) fun w => c w.1, num_f (A := fun x => A x ∧ ¬ C x) fun w => c w.1]; omega
theorem num_or {A B C : Nat → Prop} : ∀ {n : Nat}, (∀ x, x < n → A x → B x ∨ C x) → num A n ≤ num B n + num C n
  | 0, _ => Int.le_refl _
  | n + 1, h => by
    have ih := num_or (n := n) fun x hx => h x (by omega)
    have hB : num B n ≤ num B (n + 1) := by
      by_cases c : B n
      · rw [num_t c]; omega
      · rw [num_f c]; exact Int.le_refl _
    have hC : num C n ≤ num C (n + 1) := by
      by_cases c : C n
      · rw [num_t c]; omega
      · rw [num_f c]; exact Int.le_refl _
    by_cases c : A n
    · rw [num_t c]
      rcases h n (by omega) c with d | d
      · rw [num_t d]; omega
      · rw [num_t d]; omega
    · rw [num_f c]; omega
/-- one more -/
theorem num_add {A B : Nat → Prop} {k : Nat} : ∀ {n : Nat}, k < n → B k → ¬ A k → (∀ x, x < n → x ≠ k → (B x ↔ A x)) → num B n = num A n + 1
  | 0, h, _, _, _ => absurd h (by omega)
  | n + 1, h, hB, hA, he => by
    by_cases z : k = n
    · subst z
      rw [num_t hB, num_f hA, num_congr fun x hx => he x (by omega) (by omega)]
    · have ih := num_add (n := n) (by omega) hB hA fun x hx hne => he x (by omega) hne
      by_cases c : A n
      · rw [num_t c, num_t ((he n (by omega) fun w => z w.symm).2 c), ih]
      · rw [num_f c, num_f fun w => c ((he n (by omega) fun w => z w.symm).1 w), ih]
theorem num_less {A : Nat → Prop} {k n : Nat} (h : k < n) (hA : A k) : num A n = num (fun x => A x ∧ x ≠ k) n + 1 :=
  num_add h hA (fun w => w.2 rfl) fun x _ hne => ⟨fun w => ⟨w, hne⟩, fun w => w.1⟩
theorem num_pos {A : Nat → Prop} {k n : Nat} (h : k < n) (hA : A k) : 1 ≤ num A n := by
  have := num_less h hA
  have := num_nonneg (fun x => A x ∧ x ≠ k) n
  omega
theorem num_inj {m : Nat} {f : Nat → Nat} : ∀ {n : Nat} {A B : Nat → Prop}, (∀ x, x < n → A x → f x < m ∧ B (f x)) → (∀ x y, x < n → y < n → A x → A y → f x = f y → x = y) → num A n ≤ num B m
  | 0, A, B, _, _ => num_nonneg B m
  | n + 1, A, B, h, hi => by
    by_cases c : A n
    · obtain ⟨h1, h2⟩ := h n (by omega) c
      have ih := num_inj (n := n) (A := A) (B := fun x => B x ∧ x ≠ f n) (fun x hx ha => ⟨(h x (by omega) ha).1, (h x (by omega) ha).2, fun w => by
        have := hi x n (by omega) (by omega) ha c w; omega⟩) fun x y hx hy => hi x y (by omega) (by omega)
      rw [num_t c, num_less h1 h2]; omega
    · rw [num_f c]
      exact num_inj (fun x hx => h x (by omega)) fun x y hx hy => hi x y (by omega) (by omega)
/-- all in twos -/
theorem num_even {A : Nat → Prop} {μ : Nat → Nat} {n : Nat} (h : ∀ x, x < n → A x → μ x < n ∧ A (μ x) ∧ μ (μ x) = x ∧ μ x ≠ x) : num A n % 2 = 0 := by
  have h1 := num_split A (fun x => x < μ x) n
  have h2 : num (fun x => A x ∧ x < μ x) n ≤ num (fun x => A x ∧ ¬ x < μ x) n := num_inj (f := μ) (fun x hx ⟨a, b⟩ => by
    obtain ⟨c1, c2, c3, _⟩ := h x hx a
    exact ⟨c1, c2, by rw [c3]; omega⟩) fun x y hx hy a b e => by
    have a1 := (h x hx a.1).2.2.1
    have b1 := (h y hy b.1).2.2.1
    rw [← a1, ← b1, e]
  have h3 : num (fun x => A x ∧ ¬ x < μ x) n ≤ num (fun x => A x ∧ x < μ x) n := num_inj (f := μ) (fun x hx ⟨a, b⟩ => by
    obtain ⟨c1, c2, c3, c4⟩ := h x hx a
    exact ⟨c1, c2, by rw [c3]; omega⟩) fun x y hx hy a b e => by
    have a1 := (h x hx a.1).2.2.1
    have b1 := (h y hy b.1).2.2.1
    rw [← a1, ← b1, e]
  omega
theorem least_nat {Q : Nat → Prop} {n : Nat} (h : Q n) : ∃ x, Q x ∧ ∀ y, y < x → ¬ Q y := by
  induction n using Nat.strongRecOn with
  | ind n ih =>
    by_cases c : ∃ y, y < n ∧ Q y
    · obtain ⟨y, hy, q⟩ := c
      exact ih y hy q
    · exact ⟨n, h, fun y hy q => c ⟨y, hy, q⟩⟩
/-- a greatest one -/
theorem max_of {α : Type} {P : α → Prop} {f : α → Int} {B : Int} (hB : ∀ a, P a → f a ≤ B) : ∀ (d : Nat) {a : α}, P a → (B - f a).toNat ≤ d → ∃ a, P a ∧ ∀ b, P b → f b ≤ f a
  | 0, a, ha, hd => ⟨a, ha, fun b hb => by have := hB b hb; omega⟩
  | d + 1, a, ha, hd => by
    by_cases c : ∃ b, P b ∧ f a < f b
    · obtain ⟨b, hb, hlt⟩ := c
      have := hB b hb
      exact max_of hB d hb (by omega)
    · exact ⟨a, ha, fun b hb => Classical.byContradiction fun w => c ⟨b, hb, by omega⟩⟩
section
variable {n : Nat} {E : Nat → Nat → Prop}
/-! ### pairs -/
structure Mt (n : Nat) (E : Nat → Nat → Prop) (T : Nat → Prop) (μ : Nat → Nat) : Prop where
  in' : ∀ x, T x → T (μ x)
  inv : ∀ x, T x → μ (μ x) = x
  edge : ∀ x, T x → μ x ≠ x → E x (μ x)
/-- how many are in no pair -/
noncomputable def ms (n : Nat) (T : Nat → Prop) (μ : Nat → Nat) : Int := num (fun x => T x ∧ μ x = x) n
theorem Mt.par {T : Nat → Prop} {μ : Nat → Nat} (hT : ∀ x, T x → x < n) (h : Mt n E T μ) : (num T n - ms n T μ) % 2 = 0 := by
  have h1 := num_split T (fun x => μ x = x) n
  have h2 : num (fun x => T x ∧ ¬ μ x = x) n % 2 = 0 := num_even (μ := μ) fun x hx ⟨a, b⟩ => ⟨hT _ (h.in' x a), ⟨h.in' x a, fun w => b (by have := h.inv x a; rw [w] at this; exact this)⟩, h.inv x a, b⟩
  unfold ms
  omega
/-- two more in a pair -/
theorem Mt.join2 {T : Nat → Prop} {μ : Nat → Nat} (hE : ∀ u v, E u v → E v u) (hT : ∀ x, T x → x < n) (h : Mt n E T μ) {u v : Nat} (hu : T u) (hv : T v) (hne : u ≠ v) (h1 : μ u = u) (h2 : μ v = v) (he : E u v) :
    ∃ μ', Mt n E T μ' ∧ ms n T μ' = ms n T μ - 2 ∧ ∀ x, x ≠ u → x ≠ v → μ' x = μ x := by
  refine ⟨fun x => if x = u then v else if x = v then u else μ x, ⟨fun x hx => ?_, fun x hx => ?_, fun x hx hn => ?_⟩, ?_, fun x h1 h2 => by show (if x = u then v else if x = v then u else μ x) = μ x; rw [if_neg h1, if_neg h2]⟩
  · (try dsimp only)
    by_cases c : x = u
    · rw [if_pos c]; exact hv
    · by_cases d : x = v
      · rw [if_neg c, if_pos d]; exact hu
      · rw [if_neg c, if_neg d]; exact h.in' x hx
  · (try dsimp only)
    by_cases c : x = u
    · rw [if_pos c, if_neg (fun w => hne w.symm), if_pos rfl, c]
    · by_cases d : x = v
      · rw [if_neg c, if_pos d, if_pos rfl, d]
      · rw [if_neg c, if_neg d, if_neg, if_neg]
        · exact h.inv x hx
        · exact fun w => d (by rw [← h.inv x hx, w, h2])
        · exact fun w => c (by rw [← h.inv x hx, w, h1])
  · (try dsimp only at hn ⊢)
    by_cases c : x = u
    · rw [if_pos c, c]; exact he
    · by_cases d : x = v
      · rw [if_neg c, if_pos d, d]; exact hE _ _ he
      · rw [if_neg c, if_neg d] at hn ⊢; exact h.edge x hx hn
  · unfold ms
    have a1 := num_less (A := fun x => T x ∧ μ x = x) (hT u hu) ⟨hu, h1⟩
    have a2 := num_less (A := fun x => (T x ∧ μ x = x) ∧ x ≠ u) (k := v) (hT v hv) ⟨⟨hv, h2⟩, fun w => hne w.symm⟩
    have a3 : num (fun x => T x ∧ (if x = u then v else if x = v then u else μ x) = x) n = num (fun x => ((T x ∧ μ x = x) ∧ x ≠ u) ∧ x ≠ v) n := num_congr fun x _ => by
      by_cases c : x = u
      · rw [if_pos c]
        exact ⟨fun w => absurd (w.2.trans c) (fun z => hne z.symm), fun w => absurd c w.1.2⟩
      · by_cases d : x = v
        · rw [if_neg c, if_pos d]
          exact ⟨fun w => absurd w.2.symm c, fun w => absurd d w.2⟩
        · rw [if_neg c, if_neg d]
          exact ⟨fun w => ⟨⟨w, c⟩, d⟩, fun w => w.1.1⟩
    rw [a3]; omega
theorem Mt.join {T : Nat → Prop} {μ : Nat → Nat} (hE : ∀ u v, E u v → E v u) (hT : ∀ x, T x → x < n) (h : Mt n E T μ) {u v : Nat} (hu : T u) (hv : T v) (hne : u ≠ v) (h1 : μ u = u) (h2 : μ v = v) (he : E u v) :
    ∃ μ', Mt n E T μ' ∧ ms n T μ' = ms n T μ - 2 := by
  obtain ⟨μ', a, b, _⟩ := h.join2 hE hT hu hv hne h1 h2 he
  exact ⟨μ', a, b⟩
/-! ### parts -/
def Cn (E : Nat → Nat → Prop) (T : Nat → Prop) (x y : Nat) : Prop := ∀ m : Nat → Int, (∀ u v, T u → T v → E u v → m u = m v) → m x = m y
theorem Cn.symm {T : Nat → Prop} {x y : Nat} (h : Cn E T x y) : Cn E T y x := fun m hm => (h m hm).symm
theorem Cn.trans {T : Nat → Prop} {x y z : Nat} (h : Cn E T x y) (h' : Cn E T y z) : Cn E T x z := fun m hm => (h m hm).trans (h' m hm)
theorem Cn.edge {T : Nat → Prop} {x y : Nat} (hx : T x) (hy : T y) (h : E x y) : Cn E T x y := fun m hm => hm x y hx hy h
theorem Cn.refl (T : Nat → Prop) (x : Nat) : Cn E T x x := fun _ _ => rfl
/-- the first one of its part -/
def Fst (E : Nat → Nat → Prop) (T : Nat → Prop) (x : Nat) : Prop := T x ∧ ∀ y, y < x → T y → ¬ Cn E T y x
noncomputable def cl (n : Nat) (E : Nat → Nat → Prop) (T : Nat → Prop) (x : Nat) : Int := num (fun y => T y ∧ Cn E T x y) n
/-- how many parts have an odd number of nodes -/
noncomputable def oddP (n : Nat) (E : Nat → Nat → Prop) (T : Nat → Prop) : Int := num (fun x => Fst E T x ∧ cl n E T x % 2 = 1) n
theorem Fst.eq {T : Nat → Prop} {x y : Nat} (hx : Fst E T x) (hy : Fst E T y) (h : Cn E T x y) : x = y := by
  refine Classical.byContradiction fun w => ?_
  by_cases c : x < y
  · exact hy.2 x c hx.1 h
  · exact hx.2 y (by omega) hy.1 h.symm
/-- Taken off a set, no more parts are odd than are alone, and were taken off. -/
theorem berge_le {T U : Nat → Prop} {μ : Nat → Nat} (hT : ∀ x, T x → x < n) (h : Mt n E T μ) (hU : ∀ x, U x → x < n) : oddP n E (fun x => T x ∧ ¬ U x) ≤ ms n T μ + num U n := by
  have pick : ∀ x, ∃ y, (Fst E (fun x => T x ∧ ¬ U x) x ∧ cl n E (fun x => T x ∧ ¬ U x) x % 2 = 1) → (T y ∧ ¬ U y) ∧ Cn E (fun x => T x ∧ ¬ U x) x y ∧ (μ y = y ∨ U (μ y)) := fun x => by
    by_cases c : Fst E (fun x => T x ∧ ¬ U x) x ∧ cl n E (fun x => T x ∧ ¬ U x) x % 2 = 1
    · refine Classical.byContradiction fun hno => ?_
      have key : ∀ y, (T y ∧ ¬ U y) → Cn E (fun x => T x ∧ ¬ U x) x y → μ y ≠ y ∧ ¬ U (μ y) := fun y hy hc => ⟨fun w => hno ⟨y, fun _ => ⟨hy, hc, .inl w⟩⟩, fun w => hno ⟨y, fun _ => ⟨hy, hc, .inr w⟩⟩⟩
      have : cl n E (fun x => T x ∧ ¬ U x) x % 2 = 0 := num_even (μ := μ) fun y _ ⟨hy, hc⟩ => by
        obtain ⟨k1, k2⟩ := key y hy hc
        have ty := h.in' y hy.1
        exact ⟨hT _ ty, ⟨⟨ty, k2⟩, hc.trans (Cn.edge hy ⟨ty, k2⟩ (h.edge y hy.1 k1))⟩, h.inv y hy.1, k1⟩
      omega
    · exact ⟨0, fun w => absurd w c⟩
  obtain ⟨f, hf⟩ := Classical.axiomOfChoice pick
  have h1 : oddP n E (fun x => T x ∧ ¬ U x) ≤ num (fun z => (T z ∧ μ z = z) ∨ U z) n := num_inj (f := fun x => μ (f x)) (fun x _ hx => by
    obtain ⟨a, b, c⟩ := hf x hx
    have ty := h.in' _ a.1
    rcases c with c | c
    · exact ⟨hT _ ty, .inl ⟨ty, by rw [h.inv _ a.1, c]⟩⟩
    · exact ⟨hT _ ty, .inr c⟩) fun x y _ _ hx hy e => by
    obtain ⟨a, b, c⟩ := hf x hx
    obtain ⟨a', b', c'⟩ := hf y hy
    have : f x = f y := by rw [← h.inv _ a.1, ← h.inv _ a'.1]; exact congrArg μ e
    rw [this] at b
    exact hx.1.eq hy.1 (b.trans b'.symm)
  have h2 : num (fun z => (T z ∧ μ z = z) ∨ U z) n ≤ ms n T μ + num U n := num_or fun x _ w => w
  omega
/-- There is a set by which it is just as much. -/
theorem berge (hE : ∀ u v, E u v → E v u) : ∀ (k : Nat) {T : Nat → Prop}, (∀ x, T x → x < n) → num T n ≤ k → ∃ (μ : Nat → Nat) (U : Nat → Prop), Mt n E T μ ∧ (∀ x, U x → T x) ∧ ms n T μ + num U n = oddP n E (fun x => T x ∧ ¬ U x) := by
  intro k
  induction k with
  | zero =>
    intro T hT hk
    have hno : ∀ x, ¬ T x := fun x hx => by have := num_pos (hT x hx) hx; omega
    refine ⟨id, fun _ => False, ⟨fun x hx => absurd hx (hno x), fun x hx => absurd hx (hno x), fun x hx => absurd hx (hno x)⟩, fun x hx => absurd hx id, ?_⟩
    unfold ms oddP
    rw [num_none fun x _ w => hno x w.1, num_none fun x _ w => w, num_none fun x _ w => hno x w.1.1.1]; rfl
  | succ k ih =>
    intro T hT hk
    obtain ⟨μ0, hμ0, hopt⟩ := max_of (P := Mt n E T) (f := fun μ => -ms n T μ) (B := 0) (fun μ _ => by have := num_nonneg (fun x => T x ∧ μ x = x) n; unfold ms; omega) _ (a := id) ⟨fun x hx => hx, fun x _ => rfl, fun x _ w => absurd rfl w⟩ (Nat.le_refl _)
    have opt : ∀ μ, Mt n E T μ → ms n T μ0 ≤ ms n T μ := fun μ hμ => by have := hopt μ hμ; omega
    have p0 := hμ0.par hT
    by_cases hA : ∃ v, T v ∧ ∀ μ, Mt n E T μ → ms n T μ = ms n T μ0 → μ v ≠ v
    · -- a node that stands in a pair of each greatest lot
      obtain ⟨v, hv, hall⟩ := hA
      have hvn := hT v hv
      have hT' : ∀ x, (T x ∧ x ≠ v) → x < n := fun x hx => hT x hx.1
      have hnT := num_less hvn hv
      obtain ⟨μ', U', h1, h2, h3⟩ := ih (T := fun x => T x ∧ x ≠ v) hT' (by omega)
      have hv0 := hall μ0 hμ0 rfl
      have hw := hμ0.in' v hv
      have hU'n : ∀ x, U' x → x < n := fun x hx => hT' x (h2 x hx)
      -- one pair less
      have m1 : Mt n E (fun x => T x ∧ x ≠ v) (fun x => if x = μ0 v then μ0 v else μ0 x) := by
        refine ⟨fun x ⟨a, b⟩ => ?_, fun x ⟨a, b⟩ => ?_, fun x ⟨a, b⟩ hn => ?_⟩
        · (try dsimp only)
          by_cases c : x = μ0 v
          · rw [if_pos c]; exact ⟨hw, hv0⟩
          · rw [if_neg c]
            exact ⟨hμ0.in' x a, fun w => c (by rw [← w, hμ0.inv x a])⟩
        · (try dsimp only)
          by_cases c : x = μ0 v
          · rw [if_pos c, if_pos rfl, c]
          · rw [if_neg c, if_neg, hμ0.inv x a]
            exact fun w => b (by rw [← hμ0.inv x a, w, hμ0.inv v hv])
        · (try dsimp only at hn ⊢)
          by_cases c : x = μ0 v
          · rw [if_pos c] at hn; exact absurd c.symm hn
          · rw [if_neg c] at hn ⊢; exact hμ0.edge x a hn
      have e1 : ms n (fun x => T x ∧ x ≠ v) (fun x => if x = μ0 v then μ0 v else μ0 x) = ms n T μ0 + 1 := num_add (k := μ0 v) (hT _ hw) ⟨⟨hw, hv0⟩, if_pos rfl⟩ (fun w => hv0 (by have := w.2; rw [hμ0.inv v hv] at this; exact this.symm)) fun x _ hne => by
        (try dsimp only)
        rw [if_neg hne]
        exact ⟨fun w => ⟨w.1.1, w.2⟩, fun w => ⟨⟨w.1, fun z => hv0 (by rw [← z]; exact w.2)⟩, w.2⟩⟩
      have le1 := berge_le hT' m1 hU'n
      -- the node alone
      have m2 : Mt n E T (fun x => if x = v then v else μ' x) := by
        refine ⟨fun x a => ?_, fun x a => ?_, fun x a hn => ?_⟩
        · (try dsimp only)
          by_cases c : x = v
          · rw [if_pos c]; exact hv
          · rw [if_neg c]; exact (h1.in' x ⟨a, c⟩).1
        · (try dsimp only)
          by_cases c : x = v
          · rw [if_pos c, if_pos rfl, c]
          · rw [if_neg c, if_neg (h1.in' x ⟨a, c⟩).2]; exact h1.inv x ⟨a, c⟩
        · (try dsimp only at hn ⊢)
          by_cases c : x = v
          · rw [if_pos c] at hn; exact absurd c.symm hn
          · rw [if_neg c] at hn ⊢; exact h1.edge x ⟨a, c⟩ hn
      have e2 : ms n T (fun x => if x = v then v else μ' x) = ms n (fun x => T x ∧ x ≠ v) μ' + 1 := num_add (k := v) hvn ⟨hv, if_pos rfl⟩ (fun w => w.1.2 rfl) fun x _ hne => by
        (try dsimp only)
        rw [if_neg hne]
        exact ⟨fun w => ⟨⟨w.1, hne⟩, w.2⟩, fun w => ⟨w.1.1, w.2⟩⟩
      have p2 := m2.par hT
      have o2 := opt _ m2
      have n2 : ms n T (fun x => if x = v then v else μ' x) ≠ ms n T μ0 := fun w => hall _ m2 w (if_pos rfl)
      refine ⟨μ0, fun x => U' x ∨ x = v, hμ0, fun x hx => hx.elim (fun w => (h2 x w).1) (fun w => by rw [w]; exact hv), ?_⟩
      have e3 : num (fun x => U' x ∨ x = v) n = num U' n + 1 := num_add (k := v) hvn (.inr rfl) (fun w => (h2 v w).2 rfl) fun x _ hne => ⟨fun w => w.elim id fun z => absurd z hne, .inl⟩
      have e4 : (fun x => (T x ∧ x ≠ v) ∧ ¬ U' x) = fun x => T x ∧ ¬ (U' x ∨ x = v) := by
        funext x
        exact propext ⟨fun w => ⟨w.1.1, fun z => z.elim w.2 w.1.2⟩, fun w => ⟨⟨w.1, fun z => w.2 (.inr z)⟩, fun z => w.2 (.inl z)⟩⟩
      rw [e4] at h3 le1
      show ms n T μ0 + num (fun x => U' x ∨ x = v) n = oddP n E (fun x => T x ∧ ¬ (U' x ∨ x = v))
      rw [e3]
      omega
    · -- each node is left alone by some greatest lot
      have hB : ∀ v, T v → ∃ μ, Mt n E T μ ∧ ms n T μ = ms n T μ0 ∧ μ v = v := fun v hv => Classical.byContradiction fun w => hA ⟨v, hv, fun μ a b c => w ⟨μ, a, b, c⟩⟩
      let rel : Nat → Nat → Prop := fun u v => u = v ∨ ∀ μ, Mt n E T μ → ms n T μ = ms n T μ0 → ¬ (μ u = u ∧ μ v = v)
      have rsymm : ∀ u v, rel u v → rel v u := fun u v h => h.elim (fun w => .inl w.symm) fun w => .inr fun μ a b c => w μ a b ⟨c.2, c.1⟩
      have rtrans : ∀ u t v, T u → T t → T v → rel u t → rel t v → rel u v := fun u t v hu ht hv r1 r2 => by
        by_cases huv : u = v
        · exact .inl huv
        rcases r1 with r1 | r1
        · rw [r1]; exact r2
        rcases r2 with r2 | r2
        · rw [← r2]; exact .inr r1
        refine .inr fun M hM hMo ⟨mu, mv⟩ => ?_
        have hut : u ≠ t := fun w => by
          obtain ⟨μ, a, b, c⟩ := hB u hu
          exact r1 μ a b ⟨c, by rw [← w]; exact c⟩
        have hvt : v ≠ t := fun w => by
          obtain ⟨μ, a, b, c⟩ := hB v hv
          exact r2 μ a b ⟨by rw [← w]; exact c, c⟩
        have mt : M t ≠ t := fun w => r1 M hM hMo ⟨mu, w⟩
        obtain ⟨N0, a0, b0, c0⟩ := hB t ht
        obtain ⟨N, ⟨hN, hNo, nt⟩, hmax⟩ := max_of (P := fun N => Mt n E T N ∧ ms n T N = ms n T μ0 ∧ N t = t) (f := fun N => num (fun x => T x ∧ N x = M x ∧ N x ≠ x) n) (B := n) (fun N _ => num_le_n _ n) _ (a := N0) ⟨a0, b0, c0⟩ (Nat.le_refl _)
        have nu : N u ≠ u := fun w => r1 N hN hNo ⟨w, nt⟩
        have nv : N v ≠ v := fun w => r2 N hN hNo ⟨nt, w⟩
        -- another one that N leaves alone and M does not
        obtain ⟨x, hx, nx, hxt, mx⟩ : ∃ x, T x ∧ N x = x ∧ x ≠ t ∧ M x ≠ x := Classical.byContradiction fun hno => by
          have k1 := num_less (A := fun x => T x ∧ M x = x) (hT u hu) ⟨hu, mu⟩
          have k2 := num_less (A := fun x => (T x ∧ M x = x) ∧ x ≠ u) (k := v) (hT v hv) ⟨⟨hv, mv⟩, fun w => huv w.symm⟩
          have k3 : num (fun x => T x ∧ N x = x) n ≤ num (fun x => ((T x ∧ M x = x) ∧ x ≠ u) ∧ x ≠ v) n + num (fun x => x = t) n := num_or fun x _ w => by
            by_cases c : x = t
            · exact .inr c
            · refine .inl ⟨⟨⟨w.1, Classical.byContradiction fun z => hno ⟨x, w.1, w.2, c, z⟩⟩, fun z => nu ?_⟩, fun z => nv ?_⟩
              · rw [z] at w; exact w.2
              · rw [z] at w; exact w.2
          have k4 : num (fun x => x = t) n = 1 := by
            have := num_add (A := fun _ => False) (B := fun x => x = t) (k := t) (n := n) (hT t ht) rfl (fun w => w) fun x _ hne => ⟨fun w => hne w, fun w => absurd w id⟩
            rw [this, num_none fun _ _ w => w]; rfl
          unfold ms at hMo hNo
          omega
        have hy := hM.in' x hx
        have exy := hM.edge x hx mx
        have myx := hM.inv x hx
        have ny : N (M x) ≠ M x := fun w => by
          obtain ⟨N', a, b⟩ := hN.join hE hT hx hy (fun z => mx z.symm) nx w exy
          have := opt N' a
          omega
        have hz := hN.in' _ hy
        have nzy := hN.inv _ hy
        have hxz : N (M x) ≠ x := fun w => by
          rw [w, nx] at nzy; exact mx nzy.symm
        have hyz : M x ≠ N (M x) := fun w => ny w.symm
        -- y from its mate to x
        have m3 : Mt n E T (fun w => if w = x then M x else if w = M x then x else if w = N (M x) then N (M x) else N w) := by
          refine ⟨fun w a => ?_, fun w a => ?_, fun w a hn => ?_⟩
          · (try dsimp only)
            by_cases c1 : w = x
            · rw [if_pos c1]; exact hy
            · by_cases c2 : w = M x
              · rw [if_neg c1, if_pos c2]; exact hx
              · by_cases c3 : w = N (M x)
                · rw [if_neg c1, if_neg c2, if_pos c3]; exact hz
                · rw [if_neg c1, if_neg c2, if_neg c3]; exact hN.in' w a
          · (try dsimp only)
            by_cases c1 : w = x
            · rw [if_pos c1, if_neg mx, if_pos rfl, c1]
            · by_cases c2 : w = M x
              · rw [if_neg c1, if_pos c2, if_pos rfl, c2]
              · by_cases c3 : w = N (M x)
                · rw [if_neg c1, if_neg c2, if_pos c3, if_neg hxz, if_neg (fun q => hyz q.symm), if_pos rfl, c3]
                · rw [if_neg c1, if_neg c2, if_neg c3, if_neg, if_neg, if_neg]
                  · exact hN.inv w a
                  · exact fun q => c2 (by rw [← hN.inv w a, q, nzy])
                  · exact fun q => c3 (by rw [← q, hN.inv w a])
                  · exact fun q => c1 (by rw [← hN.inv w a, q, nx])
          · (try dsimp only at hn ⊢)
            by_cases c1 : w = x
            · rw [if_pos c1, c1]; exact exy
            · by_cases c2 : w = M x
              · rw [if_neg c1, if_pos c2, c2]; exact hE _ _ exy
              · by_cases c3 : w = N (M x)
                · rw [if_neg c1, if_neg c2, if_pos c3] at hn; exact absurd c3.symm hn
                · rw [if_neg c1, if_neg c2, if_neg c3] at hn ⊢; exact hN.edge w a hn
        have e3 : ms n T (fun w => if w = x then M x else if w = M x then x else if w = N (M x) then N (M x) else N w) = ms n T N := by
          have a1 := num_less (A := fun w => T w ∧ N w = w) (hT x hx) ⟨hx, nx⟩
          have a2 : ms n T (fun w => if w = x then M x else if w = M x then x else if w = N (M x) then N (M x) else N w) = num (fun w => (T w ∧ N w = w) ∧ w ≠ x) n + 1 := num_add (k := N (M x)) (hT _ hz) ⟨hz, by (try dsimp only); rw [if_neg hxz, if_neg (fun q => hyz q.symm), if_pos rfl]⟩ (fun w => hyz (by have := w.1.2; rw [nzy] at this; exact this)) fun w _ hne => by
            (try dsimp only)
            by_cases c1 : w = x
            · rw [if_pos c1]
              exact ⟨fun q => absurd (q.2.trans c1) mx, fun q => absurd c1 q.2⟩
            · by_cases c2 : w = M x
              · rw [if_neg c1, if_pos c2]
                exact ⟨fun q => absurd q.2.symm c1, fun q => absurd (by have := q.1.2; rw [c2] at this; exact this) ny⟩
              · rw [if_neg c1, if_neg c2, if_neg hne]
                exact ⟨fun q => ⟨q, c1⟩, fun q => q.1⟩
          unfold ms at a2 ⊢
          rw [a2, a1]
        have nt' : (if t = x then M x else if t = M x then x else if t = N (M x) then N (M x) else N t) = t := by
          rw [if_neg fun q => hxt q.symm, if_neg fun q => ny (by rw [← q]; exact nt), if_neg fun q => hyz (by rw [← q, ← nzy, ← q, nt]), nt]
        have hle := hmax _ ⟨m3, e3.trans hNo, nt'⟩
        have hlt : num (fun w => (T w ∧ N w = M w ∧ N w ≠ w) ∨ w = x) n ≤ num (fun w => T w ∧ (if w = x then M x else if w = M x then x else if w = N (M x) then N (M x) else N w) = M w ∧ (if w = x then M x else if w = M x then x else if w = N (M x) then N (M x) else N w) ≠ w) n := num_le fun w _ q => by
          by_cases c1 : w = x
          · rw [if_pos c1, c1]; exact ⟨hx, rfl, mx⟩
          · rcases q with ⟨q1, q2, q3⟩ | q
            · have c2 : w ≠ M x := fun z => hxz (by rw [← z, q2, z, myx])
              have c3 : w ≠ N (M x) := fun z => by
                have : N w = M x := by rw [z, nzy]
                rw [this] at q2
                have : x = w := by rw [← hM.inv w q1, ← q2, myx]
                exact c1 this.symm
              rw [if_neg c1, if_neg c2, if_neg c3]
              exact ⟨q1, q2, q3⟩
            · exact absurd q c1
        have e5 : num (fun w => (T w ∧ N w = M w ∧ N w ≠ w) ∨ w = x) n = num (fun w => T w ∧ N w = M w ∧ N w ≠ w) n + 1 := num_add (k := x) (hT x hx) (.inr rfl) (fun w => w.2.2 nx) fun w _ hne => ⟨fun q => q.elim id fun z => absurd z hne, .inl⟩
        have hle' : num (fun w => T w ∧ (if w = x then M x else if w = M x then x else if w = N (M x) then N (M x) else N w) = M w ∧ (if w = x then M x else if w = M x then x else if w = N (M x) then N (M x) else N w) ≠ w) n ≤ num (fun w => T w ∧ N w = M w ∧ N w ≠ w) n := hle
        omega
      have redge : ∀ u v, T u → T v → E u v → rel u v := fun u v hu hv he => by
        by_cases c : u = v
        · exact .inl c
        · refine .inr fun μ a b ⟨c1, c2⟩ => ?_
          obtain ⟨μ', a', b'⟩ := a.join hE hT hu hv c c1 c2 he
          have := opt μ' a'
          omega
      -- joined ones are alike
      have rcn : ∀ u v, T u → T v → Cn E T u v → rel u v := fun u v hu hv h => by
        have least : ∀ x, ∃ y, T x → (T y ∧ rel y x) ∧ ∀ z, z < y → ¬ (T z ∧ rel z x) := fun x => by
          by_cases c : T x
          · obtain ⟨y, h1, h2⟩ := least_nat (Q := fun y => T y ∧ rel y x) (n := x) ⟨c, .inl rfl⟩
            exact ⟨y, fun _ => ⟨h1, h2⟩⟩
          · exact ⟨0, fun w => absurd w c⟩
        obtain ⟨f, hf⟩ := Classical.axiomOfChoice least
        have heq : (f u : Int) = f v := h (fun x => (f x : Int)) fun a b ha hb hab => by
          have r := redge a b ha hb hab
          obtain ⟨⟨a1, a2⟩, a3⟩ := hf a ha
          obtain ⟨⟨b1, b2⟩, b3⟩ := hf b hb
          have l1 : ¬ f a < f b := fun w => b3 _ w ⟨a1, rtrans _ _ _ a1 ha hb a2 r⟩
          have l2 : ¬ f b < f a := fun w => a3 _ w ⟨b1, rtrans _ _ _ b1 hb ha b2 (rsymm _ _ r)⟩
          omega
        obtain ⟨⟨a1, a2⟩, _⟩ := hf u hu
        obtain ⟨⟨b1, b2⟩, _⟩ := hf v hv
        have e : f u = f v := by omega
        rw [e] at a2
        exact rtrans _ _ _ hu b1 hv (rsymm _ _ a2) b2
      have hodd : ∀ x, T x → cl n E T x % 2 = 1 := fun x hx => by
        obtain ⟨μ, a, b, c⟩ := hB x hx
        have h1 := num_less (A := fun y => T y ∧ Cn E T x y) (hT x hx) ⟨hx, Cn.refl T x⟩
        have h2 : num (fun y => (T y ∧ Cn E T x y) ∧ y ≠ x) n % 2 = 0 := num_even (μ := μ) fun y _ ⟨⟨ty, hc⟩, hne⟩ => by
          have my : μ y ≠ y := fun w => by
            rcases rcn x y hx ty hc with r | r
            · exact hne r.symm
            · exact r μ a b ⟨c, w⟩
          exact ⟨hT _ (a.in' y ty), ⟨⟨a.in' y ty, hc.trans (Cn.edge ty (a.in' y ty) (a.edge y ty my))⟩, fun w => hne (by rw [← a.inv y ty, w, c])⟩, a.inv y ty, my⟩
        unfold cl
        omega
      refine ⟨μ0, fun _ => False, hμ0, fun x hx => absurd hx id, ?_⟩
      have e0 : (fun x => T x ∧ ¬ False) = T := by
        funext x
        exact propext ⟨fun w => w.1, fun w => ⟨w, id⟩⟩
      have le1 := berge_le (U := fun _ => False) hT hμ0 fun x hx => absurd hx id
      have e1 : num (fun _ => False) n = 0 := num_none fun _ _ w => w
      rw [e0] at le1 ⊢
      have le2 : ms n T μ0 ≤ oddP n E T := by
        have firsts : ∀ x, ∃ y, T x → Fst E T y ∧ Cn E T y x := fun x => by
          by_cases c : T x
          · obtain ⟨y, ⟨h1, h2⟩, h3⟩ := least_nat (Q := fun y => T y ∧ Cn E T y x) (n := x) ⟨c, Cn.refl T x⟩
            exact ⟨y, fun _ => ⟨⟨h1, fun z hz hTz hc => h3 z hz ⟨hTz, hc.trans h2⟩⟩, h2⟩⟩
          · exact ⟨0, fun w => absurd w c⟩
        obtain ⟨f, hf⟩ := Classical.axiomOfChoice firsts
        refine num_inj (f := f) (fun x _ hx => ?_) fun x y _ _ hx hy e => ?_
        · obtain ⟨h1, h2⟩ := hf x hx.1
          exact ⟨hT _ h1.1, h1, hodd _ h1.1⟩
        · obtain ⟨_, h2⟩ := hf x hx.1
          obtain ⟨_, h4⟩ := hf y hy.1
          rw [e] at h2
          rcases rcn x y hx.1 hy.1 (h2.symm.trans h4) with r | r
          · exact r
          · exact absurd ⟨hx.2, hy.2⟩ (r μ0 hμ0 rfl)
      omega
end
end Go.Proofs.Ytdpkdicciclobaa
