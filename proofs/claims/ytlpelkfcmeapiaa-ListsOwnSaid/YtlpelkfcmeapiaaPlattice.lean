/- Two stable ways to pair: the better of both for each, and the worse, are stable too. -/
import Derived.Test.YtlpelkfcmeapiaaPlB
namespace Go.Proofs.Ytlpelkfcmeapiaa
open Go Go.Proofs.Ytlpelkfcmeapiaa.Sx
set_option linter.unusedVariables false
set_option linter.unusedSimpArgs false
theorem inj_surj : ∀ (n : Nat) (f : Nat → Nat), (∀ i, i < n → f i < n) → (∀ i j, i < n → j < n → f i = f j → i = j) → ∀ y, y < n → ∃ i, i < n ∧ f i = y
  | 0, _, _, _, y, hy => absurd hy (by omega)
  | n + 1, f, hr, hi, y, hy => by
    have hc := hr n (by omega)
    have ih := inj_surj n (fun i => if f i = n then f n else f i) (fun i h => by
        have h1 := hr i (by omega)
        by_cases q : f i = n
        · try dsimp only
          rw [if_pos q]
          have : f n ≠ n := fun z => by have := hi i n (by omega) (by omega) (q.trans z.symm); omega
          omega
        · try dsimp only
          rw [if_neg q]; omega) (fun i j h1 h2 e => by
        try dsimp only at e
        by_cases q1 : f i = n
        · by_cases q2 : f j = n
          · exact hi i j (by omega) (by omega) (q1.trans q2.symm)
          · rw [if_pos q1, if_neg q2] at e
            have := hi n j (by omega) (by omega) e
            omega
        · by_cases q2 : f j = n
          · rw [if_neg q1, if_pos q2] at e
            have := hi i n (by omega) (by omega) e
            omega
          · rw [if_neg q1, if_neg q2] at e
            exact hi i j (by omega) (by omega) e)
    by_cases q : y = f n
    · exact ⟨n, by omega, q.symm⟩
    by_cases q2 : y = n
    · obtain ⟨i, h1, h2⟩ := ih (f n) (by omega)
      try dsimp only at h2
      by_cases q3 : f i = n
      · exact ⟨i, by omega, by omega⟩
      · rw [if_neg q3] at h2
        have := hi i n (by omega) (by omega) h2
        omega
    · obtain ⟨i, h1, h2⟩ := ih y (by omega)
      try dsimp only at h2
      by_cases q3 : f i = n
      · rw [if_pos q3] at h2; exact absurd h2.symm q
      · rw [if_neg q3] at h2; exact ⟨i, by omega, h2⟩
theorem inj_surjI {n : Nat} {f : Nat → Int} (hr : ∀ i, i < n → 0 ≤ f i ∧ f i < n) (hi : ∀ i j, i < n → j < n → f i = f j → i = j) : ∀ v : Int, 0 ≤ v → v < n → ∃ i, i < n ∧ f i = v := fun v h0 h1 => by
  obtain ⟨i, e1, e2⟩ := inj_surj n (fun i => (f i).toNat) (fun i h => by have := hr i h; (try dsimp only); omega) (fun i j h1 h2 e => by have := hr i h1; have := hr j h2; (try dsimp only at e); exact hi i j h1 h2 (by omega)) v.toNat (by omega)
  have := hr i e1
  try dsimp only at e2
  exact ⟨i, e1, by omega⟩
/-- how each ranks the others -/
structure Ranks (n : Nat) (ρ : Nat → Int → Int) (σ : Int → Nat → Int) : Prop where
  r : ∀ i v w, i < n → 0 ≤ v → v < (n : Int) → 0 ≤ w → w < (n : Int) → ρ i v = ρ i w → v = w
  s : ∀ v i j, 0 ≤ v → v < (n : Int) → i < n → j < n → σ v i = σ v j → i = j
structure StabM (n : Nat) (ρ : Nat → Int → Int) (σ : Int → Nat → Int) (p : Nat → Int) : Prop where
  rg : ∀ i, i < n → 0 ≤ p i ∧ p i < (n : Int)
  inj : ∀ i j, i < n → j < n → p i = p j → i = j
  st : ∀ i j, i < n → j < n → ρ i (p j) < ρ i (p i) → σ (p j) i < σ (p j) j → False
/-- the better and the worse of two -/
def Two2 (ρ : Nat → Int → Int) (p q b w : Nat → Int) (i : Nat) : Prop := (b i = p i ∧ w i = q i ∧ ρ i (p i) ≤ ρ i (q i)) ∨ (b i = q i ∧ w i = p i ∧ ρ i (q i) ≤ ρ i (p i))
theorem Two2.swap {ρ : Nat → Int → Int} {p q b w : Nat → Int} {i : Nat} (h : Two2 ρ p q b w i) : Two2 ρ q p b w i := h.symm
variable {n : Nat} {ρ : Nat → Int → Int} {σ : Int → Nat → Int} {p q b w : Nat → Int}
theorem better_one (R : Ranks n ρ σ) (hp : StabM n ρ σ p) (hq : StabM n ρ σ q) {i j : Nat} (hi : i < n) (hj : j < n) (e : p i = q j) (h1 : ρ i (p i) ≤ ρ i (q i)) (h2 : ρ j (q j) ≤ ρ j (p j)) : i = j := by
  have ri := hp.rg i hi; have rj := hp.rg j hj; have si := hq.rg i hi; have sj := hq.rg j hj
  by_cases q1 : ρ i (p i) = ρ i (q i)
  · have := R.r i _ _ hi ri.1 ri.2 si.1 si.2 q1
    exact hq.inj i j hi hj (this ▸ e)
  by_cases q2 : ρ j (q j) = ρ j (p j)
  · have := R.r j _ _ hj sj.1 sj.2 rj.1 rj.2 q2
    exact hp.inj i j hi hj (e.trans this)
  have s1 := hq.st i j hi hj (by rw [← e]; omega)
  have s2 := hp.st j i hj hi (by rw [e]; omega)
  rw [e] at s2
  have : ¬ σ (q j) i < σ (q j) j := s1
  have : ¬ σ (q j) j < σ (q j) i := s2
  exact R.s (q j) i j sj.1 sj.2 hi hj (by omega)
theorem better_inj (R : Ranks n ρ σ) (hp : StabM n ρ σ p) (hq : StabM n ρ σ q) (h : ∀ i, i < n → Two2 ρ p q b w i) : ∀ i j, i < n → j < n → b i = b j → i = j := fun i j hi hj e => by
  rcases h i hi with ⟨a1, _, a3⟩ | ⟨a1, _, a3⟩ <;> rcases h j hj with ⟨b1, _, b3⟩ | ⟨b1, _, b3⟩
  · exact hp.inj i j hi hj (by rw [← a1, ← b1, e])
  · exact better_one R hp hq hi hj (by rw [← a1, ← b1, e]) a3 b3
  · exact (better_one R hp hq hj hi (by rw [← a1, ← b1, e]) b3 a3).symm
  · exact hq.inj i j hi hj (by rw [← a1, ← b1, e])
theorem better_stab (R : Ranks n ρ σ) (hp : StabM n ρ σ p) (hq : StabM n ρ σ q) (h : ∀ i, i < n → Two2 ρ p q b w i) : StabM n ρ σ b := by
  refine ⟨fun i hi => ?_, better_inj R hp hq h, fun i j hi hj h1 h2 => ?_⟩
  · rcases h i hi with ⟨a1, _⟩ | ⟨a1, _⟩ <;> rw [a1]
    · exact hp.rg i hi
    · exact hq.rg i hi
  · have l1 : ρ i (b i) ≤ ρ i (p i) := by rcases h i hi with ⟨a1, _, a3⟩ | ⟨a1, _, a3⟩ <;> rw [a1] <;> omega
    have l2 : ρ i (b i) ≤ ρ i (q i) := by rcases h i hi with ⟨a1, _, a3⟩ | ⟨a1, _, a3⟩ <;> rw [a1] <;> omega
    rcases h j hj with ⟨b1, _⟩ | ⟨b1, _⟩ <;> rw [b1] at h1 h2
    · exact hp.st i j hi hj (by omega) h2
    · exact hq.st i j hi hj (by omega) h2
theorem worse_inj (R : Ranks n ρ σ) (hp : StabM n ρ σ p) (hq : StabM n ρ σ q) (h : ∀ i, i < n → Two2 ρ p q b w i) : ∀ i j, i < n → j < n → w i = w j → i = j := by
  have hb := better_stab R hp hq h
  have one : ∀ i j, i < n → j < n → p i = q j → b i = q i → b j = p j → i = j := fun i j hi hj e b1 b2 => by
    obtain ⟨m, hm, em⟩ := inj_surjI hb.rg hb.inj (p i) (hp.rg i hi).1 (hp.rg i hi).2
    rcases h m hm with ⟨c1, _⟩ | ⟨c1, _⟩
    · have : m = i := hp.inj m i hm hi (by rw [← c1, em])
      subst this
      exact hq.inj m j hm hj (by rw [← b1, em, e])
    · have : m = j := hq.inj m j hm hj (by rw [← c1, em, e])
      subst this
      exact hp.inj i m hi hm (by rw [← em, b2])
  intro i j hi hj e
  rcases h i hi with ⟨a1, a2, a3⟩ | ⟨a1, a2, a3⟩ <;> rcases h j hj with ⟨b1, b2, b3⟩ | ⟨b1, b2, b3⟩
  · exact hq.inj i j hi hj (by rw [← a2, ← b2, e])
  · exact (one j i hj hi (by rw [← a2, ← b2, e]) b1 a1).symm
  · exact one i j hi hj (by rw [← a2, ← b2, e]) a1 b1
  · exact hp.inj i j hi hj (by rw [← a2, ← b2, e])
theorem worse_one (R : Ranks n ρ σ) (hp : StabM n ρ σ p) (hq : StabM n ρ σ q) (h : ∀ i, i < n → Two2 ρ p q b w i) {i j : Nat} (hi : i < n) (hj : j < n) (hw : w j = p j) (h1 : ρ i (w j) < ρ i (w i)) (h2 : σ (w j) i < σ (w j) j) : False := by
  have hwi := worse_inj R hp hq h
  have rj := hp.rg j hj
  rcases h i hi with ⟨a1, a2, a3⟩ | ⟨a1, a2, a3⟩
  · obtain ⟨m, hm, em⟩ := inj_surjI hq.rg hq.inj (p j) rj.1 rj.2
    rw [hw] at h1 h2
    rw [a2] at h1
    have s1 : ¬ σ (q m) i < σ (q m) m := fun z => hq.st i m hi hm (by rw [em]; exact h1) z
    rw [em] at s1
    by_cases e : m = j
    · rw [e] at s1; exact s1 h2
    rcases h m hm with ⟨c1, c2, c3⟩ | ⟨c1, c2, c3⟩
    · exact e (hwi m j hm hj (by rw [c2, hw, em]))
    · have rm := hp.rg m hm
      by_cases q1 : ρ m (q m) = ρ m (p m)
      · have := R.r m _ _ hm (by rw [em]; exact rj.1) (by rw [em]; exact rj.2) rm.1 rm.2 q1
        exact e (hp.inj m j hm hj (by rw [← this, em]))
      · have s2 : ¬ σ (p j) m < σ (p j) j := fun z => hp.st m j hm hj (by rw [← em]; omega) z
        omega
  · rw [hw] at h1 h2
    rw [a2] at h1
    exact hp.st i j hi hj h1 h2
theorem worse_stab (R : Ranks n ρ σ) (hp : StabM n ρ σ p) (hq : StabM n ρ σ q) (h : ∀ i, i < n → Two2 ρ p q b w i) : StabM n ρ σ w := by
  refine ⟨fun i hi => ?_, worse_inj R hp hq h, fun i j hi hj h1 h2 => ?_⟩
  · rcases h i hi with ⟨_, a1, _⟩ | ⟨_, a1, _⟩ <;> rw [a1]
    · exact hq.rg i hi
    · exact hp.rg i hi
  · rcases h j hj with ⟨_, b1, _⟩ | ⟨_, b1, _⟩
    · exact worse_one R hq hp (fun i hi => (h i hi).swap) hi hj b1 h1 h2
    · exact worse_one R hp hq h hi hj b1 h1 h2
end Go.Proofs.Ytlpelkfcmeapiaa
