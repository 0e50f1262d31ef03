/- Pairs of two sides are pairs of a graph whose nodes are of two sides. -/
import Derived.Test.YthgjamhcnaamdaaPblossom3
import Derived.Test.YthgjamhcnaamdaaPkuhn
namespace Go.Proofs.Ythgjamhcnaamdaa
open Go Go.Proofs.Ythgjamhcnaamdaa.Sx
set_option linter.unusedVariables false
set_option linter.unusedSimpArgs false
structure Bip (E : Nat → Nat → Prop) (N : Nat) (m n : Int) (l : List Arc) (φ ψ : Nat → Nat) (col : Nat → Bool) : Prop where
  p : OkP m n l
  n9 : N ≤ 9
  fi : ∀ x y, φ x = φ y → x = y
  si : ∀ x y, ψ x = ψ y → x = y
  fr : ∀ x, x < m.toNat → φ x < N
  sr : ∀ y, y < n.toNat → ψ y < N
  a : ∀ a, a ∈ l → col (φ a.f.toNat) = false ∧ col (ψ a.t.toNat) = true ∧ E (φ a.f.toNat) (ψ a.t.toNat)
  e : ∀ u v, E u v → ∃ a, a ∈ l ∧ ((u = φ a.f.toNat ∧ v = ψ a.t.toNat) ∨ (v = φ a.f.toNat ∧ u = ψ a.t.toNat))
section
variable {E : Nat → Nat → Prop} {N : Nat} {m n : Int} {l : List Arc} {φ ψ : Nat → Nat} {col : Nat → Bool} {mate : List Int}
theorem Bip.at (h : Bip E N m n l φ ψ col) (hM : MV n.toNat l mate) {y : Nat} (hy : y < n.toNat) (c : 0 ≤ mate.getD y 0) :
    φ (par l mate y).toNat < N ∧ ψ y < N ∧ col (φ (par l mate y).toNat) = false ∧ col (ψ y) = true ∧ E (φ (par l mate y).toNat) (ψ y) := by
  have hr := par_rng h.p hM hy c
  rcases hM.v y hy with q | ⟨_, q1, q2⟩
  · omega
  have ha := h.a _ (mem_getD (d := El.d) (show (mate.getD y 0).toNat < l.length by omega))
  rw [q2, Int.toNat_natCast] at ha
  exact ⟨h.fr _ (by omega), h.sr y hy, ha.1, ha.2.1, ha.2.2⟩
theorem two_cnt {x y k : Nat} (hy : y < n.toNat) (hk : k < n.toNat) (hne : y ≠ k) (c1 : 0 ≤ mate.getD y 0) (c2 : 0 ≤ mate.getD k 0) (p1 : par l mate y = (x : Int)) (p2 : par l mate k = (x : Int)) : 2 ≤ cntM l mate n.toNat x := by
  have h := tot_le (f := fun i => (if i = y then 1 else 0) + (if i = k then 1 else 0)) (g := fun i => if 0 ≤ mate.getD i 0 ∧ par l mate i = (x : Int) then (1 : Int) else 0) (n := n.toNat) fun i _ => by
    skip
    by_cases d1 : i = y
    · subst d1
      rw [if_pos rfl, if_neg hne, if_pos ⟨c1, p1⟩]; decide
    · rw [if_neg d1]
      by_cases d2 : i = k
      · subst d2
        rw [if_pos rfl, if_pos ⟨c2, p2⟩]; decide
      · rw [if_neg d2]; split <;> omega
  rw [tot_add (fun i => if i = y then 1 else 0) (fun i => if i = k then 1 else 0), tot_single (f := fun i => if i = y then (1 : Int) else 0) hy (fun i _ z => if_neg z), tot_single (f := fun i => if i = k then (1 : Int) else 0) hk (fun i _ z => if_neg z), if_pos rfl, if_pos rfl] at h
  unfold cntM
  omega
theorem Bip.mat (h : Bip E N m n l φ ψ col) (hM : MV n.toNat l mate) (h1 : ∀ x : Nat, x < m.toNat → cntM l mate n.toNat x ≤ 1) :
    ∀ k, k ≤ n.toNat → ∀ S, S < 512 → (∀ y, y < k → 0 ≤ mate.getD y 0 → inS S (ψ y) = true ∧ inS S (φ (par l mate y).toNat) = true) → MatS E S (sizeM mate k).toNat
  | 0, _, S, _, _ => .nil S
  | k + 1, hk, S, hS, hin => by
    have hrec : sizeM mate (k + 1) = sizeM mate k + (if 0 ≤ mate.getD k 0 then 1 else 0) := rfl
    have hn9 := h.n9
    by_cases c : 0 ≤ mate.getD k 0
    · rw [if_pos c] at hrec
      have hb := sizeM_b mate k
      rw [hrec, show (sizeM mate k + 1).toNat = (sizeM mate k).toNat + 1 by omega]
      obtain ⟨i1, i2⟩ := hin k (by omega) c
      obtain ⟨a1, a2, a3, a4, a5⟩ := h.at hM (show k < n.toNat by omega) c
      have hr := par_rng h.p hM (show k < n.toNat by omega) c
      refine .step (u := φ (par l mate k).toNat) (v := ψ k) (by omega) (by omega) i2 i1 (fun e => by rw [e, a4] at a3; cases a3) a5 (h.mat hM h1 k (by omega) _ (drop_lt (drop_lt hS)) fun y hy c' => ?_)
      obtain ⟨b1, b2, b3, b4, b5⟩ := h.at hM (show y < n.toNat by omega) c'
      have hr' := par_rng h.p hM (show y < n.toNat by omega) c'
      obtain ⟨j1, j2⟩ := hin y (by omega) c'
      have n1 : ψ y ≠ ψ k := fun e => by have := h.si _ _ e; omega
      have n2 : ψ y ≠ φ (par l mate k).toNat := fun e => by rw [e, a3] at b4; cases b4
      have n3 : φ (par l mate y).toNat ≠ ψ k := fun e => by rw [e, a4] at b3; cases b3
      have n4 : φ (par l mate y).toNat ≠ φ (par l mate k).toNat := fun e => by
        have e' := h.fi _ _ e
        have := two_cnt (l := l) (n := n) (x := (par l mate k).toNat) (show y < n.toNat by omega) (show k < n.toNat by omega) (by omega) c' c (by omega) (by omega)
        have := h1 (par l mate k).toNat (by omega)
        omega
      rw [inDrop (drop_lt hS) (by omega) (by omega), inDrop hS (by omega) (by omega), inDrop (drop_lt hS) (by omega) (by omega), inDrop hS (by omega) (by omega)]
      simp [j1, j2, n1, n2, n3, n4]
    · rw [if_neg c, Int.add_zero] at hrec
      rw [hrec]
      exact h.mat hM h1 k (by omega) S hS fun y hy c' => hin y (by omega) c'
theorem tot_lt1 {f g : Nat → Int} {k : Nat} : ∀ {n : Nat}, (∀ i, i < n → f i ≤ g i) → k < n → f k + 1 ≤ g k → tot f n + 1 ≤ tot g n
  | 0, _, h, _ => absurd h (by omega)
  | n + 1, h, hk, hl => by
    have e1 : tot f (n + 1) = tot f n + f n := rfl
    have e2 : tot g (n + 1) = tot g n + g n := rfl
    by_cases c : k = n
    · subst c
      have := tot_le (f := f) (g := g) (n := k) fun i hi => h i (by omega)
      omega
    · have := tot_lt1 (n := n) (fun i hi => h i (by omega)) (by omega) hl
      have := h n (by omega)
      omega
def wgt (φ ψ : Nat → Nat) (A B : Nat → Int) (m n S : Nat) : Int := tot (fun x => if inS S (φ x) = true then A x else 0) m + tot (fun y => if inS S (ψ y) = true then B y else 0) n
theorem Bip.le (h : Bip E N m n l φ ψ col) {A B : Nat → Int} (hc : Cov l A B) {S k : Nat} (hm : MatS E S k) : S < 512 → (k : Int) ≤ wgt φ ψ A B m.toNat n.toNat S := by
  have hn9 := h.n9
  induction hm with
  | nil S =>
    intro _
    have h1 := tot_nonneg (f := fun x => if inS S (φ x) = true then A x else 0) (n := m.toNat) fun i _ => by have := hc.a i; split <;> omega
    have h2 := tot_nonneg (f := fun x => if inS S (ψ x) = true then B x else 0) (n := n.toNat) fun i _ => by have := hc.b i; split <;> omega
    unfold wgt
    omega
  | @step S u v k hu hv i1 i2 hne he hm ih =>
    intro hS
    have ih := ih (drop_lt (drop_lt hS))
    have sub : ∀ j, j < 9 → inS (dropS (dropS S u) v) j = true → inS S j = true ∧ j ≠ u ∧ j ≠ v := fun j hj hin => by
      rw [inDrop (drop_lt hS) hv hj, inDrop hS hu hj] at hin
      simp only [Bool.and_eq_true, decide_eq_true_eq] at hin
      exact ⟨hin.1.1, hin.1.2, hin.2⟩
    have lef : ∀ i, i < m.toNat → (if inS (dropS (dropS S u) v) (φ i) = true then A i else 0) ≤ (if inS S (φ i) = true then A i else 0) := fun i hi => by
      have := h.fr i hi
      have ha := hc.a i
      by_cases c : inS (dropS (dropS S u) v) (φ i) = true
      · rw [if_pos c, if_pos (sub _ (by omega) c).1]; exact Int.le_refl _
      · rw [if_neg c]; split <;> omega
    have les : ∀ i, i < n.toNat → (if inS (dropS (dropS S u) v) (ψ i) = true then B i else 0) ≤ (if inS S (ψ i) = true then B i else 0) := fun i hi => by
      have := h.sr i hi
      have ha := hc.b i
      by_cases c : inS (dropS (dropS S u) v) (ψ i) = true
      · rw [if_pos c, if_pos (sub _ (by omega) c).1]; exact Int.le_refl _
      · rw [if_neg c]; split <;> omega
    obtain ⟨a, ha, hor⟩ := h.e u v he
    have har := h.p.arc a ha
    have hf := h.fr a.f.toNat (by omega)
    have hs := h.sr a.t.toNat (by omega)
    have inf : inS S (φ a.f.toNat) = true ∧ ¬ inS (dropS (dropS S u) v) (φ a.f.toNat) = true := by
      rcases hor with ⟨e1, e2⟩ | ⟨e1, e2⟩
      · exact ⟨by rw [← e1]; exact i1, fun z => (sub _ (by omega) z).2.1 e1.symm⟩
      · exact ⟨by rw [← e1]; exact i2, fun z => (sub _ (by omega) z).2.2 e1.symm⟩
    have ins : inS S (ψ a.t.toNat) = true ∧ ¬ inS (dropS (dropS S u) v) (ψ a.t.toNat) = true := by
      rcases hor with ⟨e1, e2⟩ | ⟨e1, e2⟩
      · exact ⟨by rw [← e2]; exact i2, fun z => (sub _ (by omega) z).2.2 e2.symm⟩
      · exact ⟨by rw [← e2]; exact i1, fun z => (sub _ (by omega) z).2.1 e2.symm⟩
    unfold wgt at ih ⊢
    have g1 := tot_le lef
    have g2 := tot_le les
    rcases hc.c a ha with q | q
    · have := tot_lt1 lef (k := a.f.toNat) (by omega) (by rw [if_neg inf.2, if_pos inf.1, q]; decide)
      omega
    · have := tot_lt1 les (k := a.t.toNat) (by omega) (by rw [if_neg ins.2, if_pos ins.1, q]; decide)
      omega
end
theorem Bip.eq {g : Graph} {N : Nat} {m n : Int} {l : List Arc} {φ ψ : Nat → Nat} {col : Nat → Bool} (h : Bip (EB g) N m n l φ ψ col) {v w : Int} (hb : BestM m n l v) (hm : MostS g (2 ^ N - 1) w) : v = w := by
  have hn9 := h.n9
  have hS : 2 ^ N - 1 < 512 := by
    have := (two_table ⟨N, by omega⟩).2.1
    dsimp only at this
    omega
  have hw := hm.h0
  obtain ⟨mate, h1, h2, e⟩ := hb.mat
  have hge := hm.most _ (h.mat h1 h2 n.toNat (Nat.le_refl _) _ hS fun y hy c => by
    obtain ⟨a1, a2, _⟩ := h.at h1 hy c
    rw [full_in (by omega) (by omega), full_in (by omega) (by omega)]
    exact ⟨decide_eq_true a2, decide_eq_true a1⟩)
  have hsb := sizeM_b mate n.toNat
  obtain ⟨A, B, hc, e2⟩ := hb.cov
  have hle := h.le hc hm.has hS
  have g1 := tot_le (f := fun x => if inS (2 ^ N - 1) (φ x) = true then A x else 0) (g := A) (n := m.toNat) fun i _ => by have := hc.a i; split <;> omega
  have g2 := tot_le (f := fun x => if inS (2 ^ N - 1) (ψ x) = true then B x else 0) (g := B) (n := n.toNat) fun i _ => by have := hc.b i; split <;> omega
  unfold wgt at hle
  omega
end Go.Proofs.Ythgjamhcnaamdaa
