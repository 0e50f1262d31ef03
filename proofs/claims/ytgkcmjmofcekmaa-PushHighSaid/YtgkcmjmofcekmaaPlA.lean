/- Plain laws of loops and lists. -/
import Derived.Test.YtgkcmjmofcekmaaDat
namespace Go.Proofs.Ytgkcmjmofcekmaa
open Go Go.Proofs.Ytgkcmjmofcekmaa.Sx
set_option linter.unusedVariables false
set_option linter.unusedSimpArgs false

@[simp] theorem eld_int : (El.d : Int) = 0 := rfl
@[simp] theorem eld_bool : (El.d : Bool) = false := rfl
@[simp] theorem eld_arc : (El.d : Arc) = ⟨0, 0, 0⟩ := rfl
@[simp] theorem eld_list {α : Type} [El α] : (El.d : List α) = [] := rfl
theorem ck_some {α : Type} {p : Prop} [Decidable p] {k : Option α} (h : p) : ck p k = k := if_pos h
@[simp] theorem bind_some' {α β : Type} (a : α) (f : α → Option β) : (some a).bind f = f a := rfl

section
variable {σ ρ : Type}
theorem forN_inv {f : Nat → σ → Option σ} (Inv : Nat → σ → Prop) : ∀ {n k : Nat} {s : σ}, Inv k s → (∀ j s, k ≤ j → j < k + n → Inv j s → ∃ s', f j s = some s' ∧ Inv (j + 1) s') → ∃ s', forN f n k s = some s' ∧ Inv (k + n) s'
  | 0, k, s, h0, _ => ⟨s, rfl, h0⟩
  | n + 1, k, s, h0, hs => by
    obtain ⟨s1, h1, h2⟩ := hs k s (Nat.le_refl _) (by omega) h0
    obtain ⟨s2, h3, h4⟩ := forN_inv (f := f) Inv (n := n) (k := k + 1) h2 fun j s hj hk => hs j s (by omega) (by omega)
    exact ⟨s2, by rw [forN, h1]; exact h3, by rw [show k + (n + 1) = k + 1 + n by omega]; exact h4⟩
theorem forC_inv {f : Nat → σ → Option (Ct σ ρ)} (Inv : Nat → σ → Prop) : ∀ {n k : Nat} {s : σ}, Inv k s → (∀ j s, k ≤ j → j < k + n → Inv j s → ∃ s', f j s = some (.go s') ∧ Inv (j + 1) s') → ∃ s', forC f n k s = some (.go s') ∧ Inv (k + n) s'
  | 0, k, s, h0, _ => ⟨s, rfl, h0⟩
  | n + 1, k, s, h0, hs => by
    obtain ⟨s1, h1, h2⟩ := hs k s (Nat.le_refl _) (by omega) h0
    obtain ⟨s2, h3, h4⟩ := forC_inv (f := f) Inv (n := n) (k := k + 1) h2 fun j s hj hk => hs j s (by omega) (by omega)
    exact ⟨s2, by rw [forC, h1]; exact h3, by rw [show k + (n + 1) = k + 1 + n by omega]; exact h4⟩
/-- a loop that may be left: either it goes on to its end, or it is left at one round -/
theorem forC_or {f : Nat → σ → Option (Ct σ ρ)} (Inv : Nat → σ → Prop) (Q : Ex σ ρ → Prop) : ∀ {n k : Nat} {s : σ}, Inv k s →
    (∀ j s, k ≤ j → j < k + n → Inv j s → (∃ s', f j s = some (.go s') ∧ Inv (j + 1) s') ∨ (∃ s', f j s = some (.brk s') ∧ Q (.go s')) ∨ ∃ r, f j s = some (.ret r) ∧ Q (.ret r)) →
    (∀ s, Inv (k + n) s → Q (.go s)) → ∃ q, forC f n k s = some q ∧ Q q
  | 0, k, s, h0, _, hq => ⟨.go s, rfl, hq s h0⟩
  | n + 1, k, s, h0, hs, hq => by
    rcases hs k s (Nat.le_refl _) (by omega) h0 with ⟨s1, h1, h2⟩ | ⟨s1, h1, h2⟩ | ⟨r, h1, h2⟩
    · obtain ⟨q, h3, h4⟩ := forC_or (f := f) Inv Q (n := n) (k := k + 1) h2 (fun j s hj hk => hs j s (by omega) (by omega)) (fun s h => hq s (by rw [show k + (n + 1) = k + 1 + n by omega]; exact h))
      exact ⟨q, by rw [forC, h1]; exact h3, h4⟩
    · exact ⟨.go s1, by rw [forC, h1]; rfl, h2⟩
    · exact ⟨.ret r, by rw [forC, h1]; rfl, h2⟩
theorem loopC_or {f : σ → Option (Ct σ ρ)} (Inv : σ → Prop) (Q : Ex σ ρ → Prop) (μ : σ → Nat)
    (hs : ∀ s, Inv s → (∃ s', f s = some (.go s') ∧ Inv s' ∧ μ s' < μ s) ∨ (∃ s', f s = some (.brk s') ∧ Q (.go s')) ∨ ∃ r, f s = some (.ret r) ∧ Q (.ret r)) : ∀ {n : Nat} {s : σ}, Inv s → μ s < n → ∃ q, loopC f n s = some q ∧ Q q
  | 0, s, _, h => absurd h (by omega)
  | n + 1, s, h0, hn => by
    rcases hs s h0 with ⟨s1, h1, h2, h3⟩ | ⟨s1, h1, h2⟩ | ⟨r, h1, h2⟩
    · obtain ⟨q, h4, h5⟩ := loopC_or Inv Q μ hs (n := n) h2 (by omega)
      exact ⟨q, by rw [loopC, h1]; exact h4, h5⟩
    · exact ⟨.go s1, by rw [loopC, h1]; rfl, h2⟩
    · exact ⟨.ret r, by rw [loopC, h1]; rfl, h2⟩
theorem drop_getD {α : Type} {l : List α} {k : Nat} (d : α) (h : k < l.length) : l.drop k = l.getD k d :: l.drop (k + 1) := by
  rw [List.drop_eq_getElem_cons h]; simp [h]
theorem forN_listG {α : Type} {f : Nat → σ → Option σ} (xs : List α) (d : α) (g : σ → α → σ) (Inv : Nat → σ → Prop) : ∀ {n k : Nat} {s : σ}, k + n = xs.length → Inv k s →
    (∀ j s, j < xs.length → Inv j s → f j s = some (g s (xs.getD j d)) ∧ Inv (j + 1) (g s (xs.getD j d))) → forN f n k s = some ((xs.drop k).foldl g s) ∧ Inv xs.length ((xs.drop k).foldl g s)
  | 0, k, s, hk, h0, _ => by rw [List.drop_eq_nil_of_le (by omega)]; exact ⟨rfl, by rw [← hk]; exact h0⟩
  | n + 1, k, s, hk, h0, hs => by
    obtain ⟨h1, h2⟩ := hs k s (by omega) h0
    rw [drop_getD d (by omega), List.foldl_cons, forN, h1]
    exact forN_listG xs d g Inv (n := n) (k := k + 1) (by omega) h2 hs
theorem forN_list {α : Type} {f : Nat → σ → Option σ} (xs : List α) (d : α) (g : σ → α → σ) (Inv : Nat → σ → Prop) {s : σ} (h0 : Inv 0 s)
    (hs : ∀ j s, j < xs.length → Inv j s → f j s = some (g s (xs.getD j d)) ∧ Inv (j + 1) (g s (xs.getD j d))) : forN f xs.length 0 s = some (xs.foldl g s) ∧ Inv xs.length (xs.foldl g s) :=
  forN_listG xs d g Inv (n := xs.length) (k := 0) (by omega) h0 hs
end
theorem mem_getD {α : Type} {l : List α} {k : Nat} {d : α} (h : k < l.length) : l.getD k d ∈ l := by
  rw [List.getD_eq_getElem?_getD, List.getElem?_eq_getElem h]; exact List.getElem_mem h
theorem getD_of_mem {α : Type} {l : List α} {a d : α} (h : a ∈ l) : ∃ k, k < l.length ∧ l.getD k d = a := by
  obtain ⟨k, hk, e⟩ := List.mem_iff_getElem.1 h
  exact ⟨k, hk, by simp [List.getD_eq_getElem?_getD, hk, e]⟩
theorem eq_of_getD {α : Type} {d : α} {l l' : List α} (hl : l.length = l'.length) (h : ∀ i, i < l.length → l.getD i d = l'.getD i d) : l = l' := by
  refine List.ext_getElem hl fun i h1 h2 => ?_
  have := h i h1
  simpa [List.getD_eq_getElem?_getD, h1, h2] using this
theorem getD_set' {α : Type} (xs : List α) (e e' : Nat) (v z : α) : (xs.set e v).getD e' z = if e' = e ∧ e < xs.length then v else xs.getD e' z := by
  simp only [List.getD_eq_getElem?_getD, List.getElem?_set]
  by_cases he : e = e'
  · subst he
    by_cases h : e < xs.length
    · simp [h]
    · simp [h, List.getElem?_eq_none (by omega : xs.length ≤ e)]
  · simp [he, Ne.symm he]
@[simp] theorem getD_replicate' {α : Type} (n i : Nat) (v z : α) : (List.replicate n v).getD i z = if i < n then v else z := by
  simp only [List.getD_eq_getElem?_getD, List.getElem?_replicate]
  split <;> simp
theorem getD_big {α : Type} {l : List α} {i : Nat} {d : α} (h : l.length ≤ i) : l.getD i d = d := by simp [List.getD_eq_getElem?_getD, List.getElem?_eq_none h]
theorem toNat_lt {i : Int} {n : Nat} (h0 : 0 ≤ i) (h : i < n) : i.toNat < n := by omega
/-- all rounds go on -/
theorem forC_all {ρ : Type} {f : Nat → Unit → Option (Ct Unit ρ)} {n k : Nat} (h : ∀ j, k ≤ j → j < k + n → f j () = some (.go ())) : forC f n k () = some (.go ()) := by
  obtain ⟨s, h1, _⟩ := forC_inv (f := f) (fun _ _ => True) (n := n) (k := k) (s := ()) trivial fun j s h1 h2 _ => ⟨(), h j h1 h2, trivial⟩
  exact h1
theorem inI_small {x : Int} (h1 : -1000000000 ≤ x) (h2 : x ≤ 1000000000) : InI x := by unfold InI; omega

/-! ### finite sums -/
def tot (f : Nat → Int) : Nat → Int
  | 0 => 0
  | n + 1 => tot f n + f n
theorem tot_congr {f g : Nat → Int} : ∀ {n : Nat}, (∀ i, i < n → f i = g i) → tot f n = tot g n
  | 0, _ => rfl
  | n + 1, h => by rw [tot, tot, tot_congr fun i hi => h i (by omega), h n (by omega)]
theorem tot_add (f g : Nat → Int) : ∀ n : Nat, tot (fun i => f i + g i) n = tot f n + tot g n
  | 0 => rfl
  | n + 1 => by simp only [tot, tot_add f g n]; omega
theorem tot_sub (f g : Nat → Int) : ∀ n : Nat, tot (fun i => f i - g i) n = tot f n - tot g n
  | 0 => rfl
  | n + 1 => by simp only [tot, tot_sub f g n]; omega
theorem tot_mul (c : Int) (f : Nat → Int) : ∀ n : Nat, tot (fun i => c * f i) n = c * tot f n
  | 0 => by simp [tot]
  | n + 1 => by simp only [tot, tot_mul c f n, Int.mul_add]
theorem tot_zero {f : Nat → Int} : ∀ {n : Nat}, (∀ i, i < n → f i = 0) → tot f n = 0
  | 0, _ => rfl
  | n + 1, h => by rw [tot, tot_zero fun i hi => h i (by omega), h n (by omega)]; rfl
theorem tot_single {f : Nat → Int} {k : Nat} : ∀ {n : Nat}, k < n → (∀ i, i < n → i ≠ k → f i = 0) → tot f n = f k
  | 0, h, _ => absurd h (by omega)
  | n + 1, h, hf => by
    by_cases hk : k = n
    · subst hk; rw [tot, tot_zero fun i hi => hf i (by omega) (by omega)]; omega
    · rw [tot, tot_single (n := n) (by omega) (fun i hi hne => hf i (by omega) hne), hf n (by omega) (by omega)]; omega
theorem tot_le {f g : Nat → Int} : ∀ {n : Nat}, (∀ i, i < n → f i ≤ g i) → tot f n ≤ tot g n
  | 0, _ => Int.le_refl _
  | n + 1, h => by
    have := tot_le (n := n) fun i hi => h i (by omega)
    have := h n (by omega)
    simp only [tot]; omega
theorem tot_nonneg {f : Nat → Int} {n : Nat} (h : ∀ i, i < n → 0 ≤ f i) : 0 ≤ tot f n := by
  have := tot_le (f := fun _ => 0) (g := f) (n := n) h
  rwa [tot_zero (f := fun _ => 0) (fun _ _ => rfl)] at this
theorem tot_const (c : Int) : ∀ n : Nat, tot (fun _ => c) n = n * c
  | 0 => by simp [tot]
  | n + 1 => by rw [tot, tot_const c n, Int.natCast_succ, Int.add_mul]; omega
theorem tot_swap (f : Nat → Nat → Int) (m : Nat) : ∀ n : Nat, tot (fun i => tot (fun j => f i j) m) n = tot (fun j => tot (fun i => f i j) n) m
  | 0 => (tot_zero fun _ _ => rfl).symm
  | n + 1 => by
    rw [tot, tot_swap f m n, ← tot_add]
    exact tot_congr fun j _ => rfl
theorem tot_split (f : Nat → Int) (m : Nat) : ∀ n : Nat, tot f (m + n) = tot f m + tot (fun i => f (m + i)) n
  | 0 => by simp [tot]
  | n + 1 => by rw [← Nat.add_assoc, tot, tot_split f m n, tot]; omega
theorem tot_eq_each {f g : Nat → Int} : ∀ {n : Nat}, (∀ i, i < n → f i ≤ g i) → tot f n = tot g n → ∀ i, i < n → f i = g i
  | 0, _, _, i, hi => absurd hi (by omega)
  | n + 1, h, he, i, hi => by
    have h1 := tot_le (n := n) fun i hi => h i (by omega)
    have h2 := h n (by omega)
    simp only [tot] at he
    by_cases e : i = n
    · subst e; omega
    · exact tot_eq_each (n := n) (fun i hi => h i (by omega)) (by omega) i (by omega)
/-- the sum of a list -/
def lsum (l : List Int) : Int := tot (fun i => l.getD i 0) l.length
theorem sum_loop {f : Nat → Int → Option Int} (l : List Int) (hf : ∀ k x, f k x = ck (InI (x + l.getD k 0)) (some (x + l.getD k 0))) (h : ∀ j, j ≤ l.length → InI (tot (fun i => l.getD i 0) j)) : forN f l.length 0 0 = some (lsum l) := by
  obtain ⟨s, h1, h2⟩ := forN_inv (f := f) (fun j x => x = tot (fun i => l.getD i 0) j) (n := l.length) (k := 0) (s := 0) rfl fun j x _ hj hx => by
    subst hx
    refine ⟨_, ?_, rfl⟩
    rw [hf, ck_some]
    · rfl
    · exact h (j + 1) (by omega)
  rw [h1, h2, Nat.zero_add]; rfl
end Go.Proofs.Ytgkcmjmofcekmaa
