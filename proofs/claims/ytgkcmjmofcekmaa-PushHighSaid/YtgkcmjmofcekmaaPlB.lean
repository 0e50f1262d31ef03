/- Plain laws: rounds that come to rest; ways along arcs. -/
import Derived.Test.YtgkcmjmofcekmaaPlA
namespace Go.Proofs.Ytgkcmjmofcekmaa
open Go Go.Proofs.Ytgkcmjmofcekmaa.Sx
set_option linter.unusedVariables false
set_option linter.unusedSimpArgs false

/-! ### sets that only grow come to rest -/
def cnt (S : Nat → Bool) : Nat → Nat
  | 0 => 0
  | n + 1 => cnt S n + cond (S n) 1 0
theorem cnt_le (S : Nat → Bool) : ∀ n, cnt S n ≤ n
  | 0 => Nat.le_refl _
  | n + 1 => by have := cnt_le S n; simp only [cnt]; cases S n <;> simp <;> omega
theorem cnt_mono {S T : Nat → Bool} : ∀ {n : Nat}, (∀ x, x < n → S x = true → T x = true) → cnt S n ≤ cnt T n
  | 0, _ => Nat.le_refl _
  | n + 1, h => by
    have := cnt_mono (n := n) fun x hx => h x (by omega)
    have h2 := h n (by omega)
    simp only [cnt]
    cases hS : S n
    · simp; omega
    · simp [h2 hS, this]
theorem cnt_lt {S T : Nat → Bool} : ∀ {n : Nat} {y : Nat}, (∀ x, x < n → S x = true → T x = true) → y < n → T y = true → S y = false → cnt S n < cnt T n
  | 0, _, _, h, _, _ => absurd h (by omega)
  | n + 1, y, h, hy, hT, hS => by
    simp only [cnt]
    by_cases e : y = n
    · subst e
      have := cnt_mono (S := S) (T := T) (n := y) fun x hx => h x (by omega)
      simp [hT, hS]; omega
    · have := cnt_lt (n := n) (y := y) (fun x hx => h x (by omega)) (by omega) hT hS
      have h2 := h n (by omega)
      cases hS : S n
      · simp; omega
      · simp [h2 hS, this]
theorem cnt_pos {S : Nat → Bool} {n y : Nat} (hy : y < n) (h : S y = true) : 1 ≤ cnt S n := by
  have := cnt_lt (S := fun _ => false) (T := S) (n := n) (y := y) (fun _ _ h => by cases h) hy h rfl
  omega
/-- Rounds of which each is told by the one before, and that only add: of n nodes, the n-th round adds nothing (from the first one on there is one at least). -/
theorem rounds_rest {n : Nat} (S : Nat → Nat → Bool) (hmono : ∀ r x, x < n → S r x = true → S (r + 1) x = true) (hdet : ∀ r r', (∀ x, x < n → S r x = S r' x) → ∀ x, x < n → S (r + 1) x = S (r' + 1) x) (h0 : ∃ x, x < n ∧ S 0 x = true) :
    ∀ x, x < n → S (n + 1) x = S n x := by
  have key : ∀ r, (∃ j, j ≤ r ∧ ∀ x, x < n → S (j + 1) x = S j x) ∨ r + 1 ≤ cnt (S r) n := by
    intro r
    induction r with
    | zero =>
      obtain ⟨x, hx, hs⟩ := h0
      exact .inr (cnt_pos hx hs)
    | succ r ih =>
      rcases ih with ⟨j, hj, h⟩ | h
      · exact .inl ⟨j, by omega, h⟩
      · by_cases he : ∀ x, x < n → S (r + 1) x = S r x
        · exact .inl ⟨r, by omega, he⟩
        · right
          have : ∃ y, y < n ∧ S (r + 1) y = true ∧ S r y = false := by
            refine Classical.byContradiction fun hn => he fun x hx => ?_
            cases h1 : S r x with
            | true => exact hmono r x hx h1
            | false =>
              cases h2 : S (r + 1) x with
              | false => rfl
              | true => exact absurd ⟨x, hx, h2, h1⟩ hn
          obtain ⟨y, hy, h1, h2⟩ := this
          have := cnt_lt (n := n) (fun x hx => hmono r x hx) hy h1 h2
          omega
  have stay : ∀ j, (∀ x, x < n → S (j + 1) x = S j x) → ∀ i, ∀ x, x < n → S (j + i + 1) x = S (j + i) x := by
    intro j h i
    induction i with
    | zero => exact h
    | succ i ih => exact hdet (j + i + 1) (j + i) ih
  rcases key n with ⟨j, hj, h⟩ | h
  · have := stay j h (n - j)
    rwa [show j + (n - j) = n by omega] at this
  · have := cnt_le (S n) n
    omega

/-- so many rounds -/
def iter {σ : Type} (f : σ → σ) : Nat → σ → σ
  | 0, s => s
  | r + 1, s => f (iter f r s)
theorem forN_iter {σ : Type} {f : Nat → σ → Option σ} {g : σ → σ} (V : σ → Prop) (hV : ∀ s, V s → V (g s)) (h : ∀ k s, V s → f k s = some (g s)) : ∀ {n k : Nat} {s : σ}, V s → forN f n k s = some (iter g n s) ∧ V (iter g n s)
  | 0, _, s, hs => ⟨rfl, hs⟩
  | n + 1, k, s, hs => by
    have e : ∀ (m : Nat) (s : σ), iter g m (g s) = g (iter g m s) := fun m s => by
      induction m with
      | zero => rfl
      | succ m ih => simp only [iter, ih]
    have := forN_iter V hV h (n := n) (k := k + 1) (hV s hs)
    rw [forN, h k s hs, bind_some', this.1]
    rw [e n s] at this ⊢
    exact ⟨rfl, this.2⟩
/-- Steps that only add to a set of nodes, again and again: after n rounds no step adds any more. -/
theorem rest_fold {σ α : Type} {n : Int} (L : List α) (step : σ → α → σ) (S : σ → Int → Prop) (V : σ → Prop) (hV : ∀ s a, a ∈ L → V s → V (step s a))
    (mono : ∀ s a, a ∈ L → V s → ∀ x, 0 ≤ x → x < n → S s x → S (step s a) x)
    (det : ∀ s s' a, a ∈ L → V s → V s' → (∀ x, 0 ≤ x → x < n → (S s x ↔ S s' x)) → ∀ x, 0 ≤ x → x < n → (S (step s a) x ↔ S (step s' a) x))
    {s0 : σ} (h0 : V s0) (hx : ∃ x, 0 ≤ x ∧ x < n ∧ S s0 x) :
    ∀ a, a ∈ L → ∃ s, V s ∧ (∀ x, 0 ≤ x → x < n → (S s x ↔ S (iter (fun s => L.foldl step s) n.toNat s0) x)) ∧ ∀ x, 0 ≤ x → x < n → S (step s a) x → S (iter (fun s => L.foldl step s) n.toNat s0) x := by
  have fV : ∀ (M : List α), (∀ a, a ∈ M → a ∈ L) → ∀ s, V s → V (M.foldl step s) := by
    intro M
    induction M with
    | nil => intro _ s h; exact h
    | cons a M ih => intro hM s h; exact ih (fun b hb => hM b (by simp [hb])) _ (hV s a (hM a (by simp)) h)
  have fmono : ∀ (M : List α), (∀ a, a ∈ M → a ∈ L) → ∀ s, V s → ∀ x, 0 ≤ x → x < n → S s x → S (M.foldl step s) x := by
    intro M
    induction M with
    | nil => intro _ s _ x _ _ h; exact h
    | cons a M ih => intro hM s h x h1 h2 h3; exact ih (fun b hb => hM b (by simp [hb])) _ (hV s a (hM a (by simp)) h) x h1 h2 (mono s a (hM a (by simp)) h x h1 h2 h3)
  have fdet : ∀ (M : List α), (∀ a, a ∈ M → a ∈ L) → ∀ s s', V s → V s' → (∀ x, 0 ≤ x → x < n → (S s x ↔ S s' x)) → ∀ x, 0 ≤ x → x < n → (S (M.foldl step s) x ↔ S (M.foldl step s') x) := by
    intro M
    induction M with
    | nil => intro _ s s' _ _ h; exact h
    | cons a M ih => intro hM s s' h h' hh; exact ih (fun b hb => hM b (by simp [hb])) _ _ (hV s a (hM a (by simp)) h) (hV s' a (hM a (by simp)) h') (det s s' a (hM a (by simp)) h h' hh)
  have iV : ∀ r, V (iter (fun s => L.foldl step s) r s0) := by
    intro r
    induction r with
    | zero => exact h0
    | succ r ih => exact fV L (fun _ h => h) _ ih
  intro a ha
  by_cases hn : n ≤ 0
  · exact ⟨s0, h0, fun x h1 h2 => by omega, fun x h1 h2 => by omega⟩
  have rest := rounds_rest (n := n.toNat) (fun r x => open Classical in decide (S (iter (fun s => L.foldl step s) r s0) (x : Int))) (fun r x hx h => by
      simp only [decide_eq_true_eq] at h ⊢
      exact fmono L (fun _ h => h) _ (iV r) x (by omega) (by omega) h) (fun r r' h x hx => by
      have := fdet L (fun _ h => h) _ _ (iV r) (iV r') (fun y h1 h2 => by
        have := h y.toNat (by omega)
        simp only [decide_eq_decide] at this
        rwa [show ((y.toNat : Nat) : Int) = y by omega] at this) x (by omega) (by omega)
      simp only [decide_eq_decide]
      exact this) (by
      obtain ⟨x, h1, h2, h3⟩ := hx
      refine ⟨x.toNat, by omega, ?_⟩
      simp only [decide_eq_true_eq]
      rw [show ((x.toNat : Nat) : Int) = x by omega]
      exact h3)
  obtain ⟨M1, M2, hL⟩ := List.append_of_mem ha
  have hM1 : ∀ b, b ∈ M1 → b ∈ L := fun b hb => by rw [hL]; simp [hb]
  have hM2 : ∀ b, b ∈ M2 → b ∈ L := fun b hb => by rw [hL]; simp [hb]
  have hV1 := fV M1 hM1 _ (iV n.toNat)
  have hV2 := hV _ a ha hV1
  have efin : iter (fun s => L.foldl step s) (n.toNat + 1) s0 = M2.foldl step (step (M1.foldl step (iter (fun s => L.foldl step s) n.toNat s0)) a) := by
    have : ∀ t, L.foldl step t = M2.foldl step (step (M1.foldl step t) a) := fun t => by rw [hL, List.foldl_append, List.foldl_cons]
    exact this _
  have back : ∀ x, 0 ≤ x → x < n → S (step (M1.foldl step (iter (fun s => L.foldl step s) n.toNat s0)) a) x → S (iter (fun s => L.foldl step s) n.toNat s0) x := fun x h1 h2 h3 => by
    have := rest x.toNat (by omega)
    simp only [decide_eq_decide] at this
    rw [show ((x.toNat : Nat) : Int) = x by omega] at this
    refine this.1 ?_
    rw [efin]
    exact fmono M2 hM2 _ hV2 x h1 h2 h3
  exact ⟨_, hV1, fun x h1 h2 => ⟨fun h => back x h1 h2 (mono _ a ha hV1 x h1 h2 h), fun h => fmono M1 hM1 _ (iV n.toNat) x h1 h2 h⟩, back⟩

/-! ### nodes as numbers -/
/-- what a list says of node x -/
def atI (l : List Int) (x : Int) : Int := l.getD x.toNat 0
theorem atI_set {l : List Int} {t x v : Int} (ht : 0 ≤ t) (htl : t < l.length) (hx : 0 ≤ x) : atI (l.set t.toNat v) x = if x = t then v else atI l x := by
  unfold atI
  rw [getD_set']
  by_cases h : x = t
  · subst h; rw [if_pos ⟨rfl, by omega⟩, if_pos rfl]
  · rw [if_neg (fun e => h (by omega)), if_neg h]
/-- a way of k arcs from s to x -/
inductive Way (l : List Arc) (s : Int) : Nat → Int → Prop
  | nil : Way l s 0 s
  | snoc {k : Nat} {a : Arc} (h : Way l s k a.f) (ha : a ∈ l) : Way l s (k + 1) a.t
theorem Way.cons {l : List Arc} {a : Arc} (ha : a ∈ l) : ∀ {k : Nat} {x : Int}, Way l a.t k x → Way l a.f (k + 1) x
  | _, _, .nil => .snoc .nil ha
  | _, _, .snoc h hb => .snoc (Way.cons ha h) hb
theorem Way.turn {l l' : List Arc} (hl : ∀ a, a ∈ l → ∃ b, b ∈ l' ∧ b.f = a.t ∧ b.t = a.f) {s : Int} : ∀ {k : Nat} {x : Int}, Way l s k x → Way l' x k s
  | _, _, .nil => .nil
  | _, _, .snoc (a := a) h ha => by
    obtain ⟨b, hb, e1, e2⟩ := hl a ha
    have := Way.turn hl h
    rw [← e2] at this
    rw [← e1]
    exact Way.cons hb this
end Go.Proofs.Ytgkcmjmofcekmaa
