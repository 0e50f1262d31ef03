/- Package degree: Can tells whether there is a graph. -/
import Derived.Test.YtlpelkfcmeapiaaPreal
import Derived.Test.YtlpelkfcmeapiaaPsortI
import Derived.Test.YtlpelkfcmeapiaaGdegree
namespace Go.Proofs.Ytlpelkfcmeapiaa
open Go Go.Proofs.Ytlpelkfcmeapiaa.Sx
set_option linter.unusedVariables false
set_option linter.unusedSimpArgs false
theorem swapD_lt {i j p n : Nat} (hi : i < n) (hj : j < n) (hp : p < n) : swapJ i j p < n := by
  unfold swapJ
  repeat' split
  all_goals omega
theorem swapD_twice (i j p : Nat) : swapJ i j (swapJ i j p) = p := by
  unfold swapJ
  repeat' split
  all_goals omega
theorem tot_swapD (f : Nat → Int) {i j n : Nat} (hi : i < n) (hj : j < n) : tot (fun p => f (swapJ i j p)) n = tot f n := by
  by_cases z : i = j
  · subst z
    exact tot_congr fun p _ => by
      congr 1
      unfold swapJ
      by_cases c : p = i
      · rw [if_pos c, c]
      · rw [if_neg c, if_neg c]
  · refine tot_two' hi hj z (fun p _ h1 h2 => ?_) ?_
    · unfold swapJ; rw [if_neg h2, if_neg h1]
    · unfold swapJ
      rw [if_neg z, if_pos rfl, if_pos rfl]; omega
theorem Graphic.congr {n : Nat} {d d' : Nat → Int} (h : Graphic n d) (e : ∀ i, i < n → d' i = d i) : Graphic n d' :=
  let ⟨g, h1, h2⟩ := h; ⟨g, h1, fun i hi => by rw [h2 i hi, e i hi]⟩
theorem Graphic.swap {n i j : Nat} {d : Nat → Int} (h : Graphic n d) (hi : i < n) (hj : j < n) : Graphic n (fun p => d (swapJ i j p)) := by
  obtain ⟨g, h1, h2⟩ := h
  refine ⟨fun x y => g (swapJ i j x) (swapJ i j y), ⟨fun x y => h1.sy _ _, fun x => h1.ir _⟩, fun x hx => ?_⟩
  show _ = d (swapJ i j x)
  rw [← h2 _ (swapD_lt hi hj hx)]
  exact tot_swapD (e01 g (swapJ i j x)) hi hj
def GrL (l : List Int) : Prop := Graphic l.length (fun i => l.getD i 0)
theorem grL_sw {l c : List Int} (h : Sw 0 l.length l c) : GrL l ↔ GrL c := by
  have := h.inv (P := fun x => x.length = l.length ∧ (GrL l ↔ GrL x)) (fun x i j _ h1 _ h2 ⟨x1, x2⟩ => ⟨by rw [swapL_len]; exact x1, x2.trans ⟨fun g => by
    unfold GrL at g ⊢
    rw [swapL_len]
    exact (g.swap (i := i) (j := j) (by omega) (by omega)).congr fun p _ => swapL_getD (by omega) (by omega) p, fun g => by
    unfold GrL at g ⊢
    rw [swapL_len] at g
    refine (g.swap (i := i) (j := j) (by omega) (by omega)).congr fun p hp => ?_
    rw [swapL_getD (by omega) (by omega), swapD_twice]⟩⟩) ⟨rfl, Iff.rfl⟩
  exact this.2
/-- the greatest r + 1 ask for no more than there is -/
def EG (n : Nat) (d : Nat → Int) (r : Nat) : Prop := tot d (r + 1) ≤ ((r + 1 : Nat) : Int) * (r : Int) + tot (fun m => min (d (r + 1 + m)) ((r + 1 : Nat) : Int)) (n - (r + 1))
theorem tot_pre (r n : Nat) (hr : r < n) (F : Nat → Int) : tot (fun i => (if i < r + 1 then 1 else 0) * F i) n = tot F (r + 1) := by
  have := tot_split (fun i => (if i < r + 1 then (1 : Int) else 0) * F i) (r + 1) (n - (r + 1))
  rw [show r + 1 + (n - (r + 1)) = n by omega] at this
  rw [this, tot_zero (f := fun i => (if r + 1 + i < r + 1 then (1 : Int) else 0) * F (r + 1 + i)) fun i _ => by rw [if_neg (by omega)]; omega, tot_congr (g := F) fun i hi => by rw [if_pos hi]; omega]
  omega
theorem Graphic.eg {n : Nat} {d : Nat → Int} (h : Graphic n d) {r : Nat} (hr : r < n) : EG n d r := by
  obtain ⟨g, h1, h2⟩ := h
  have a := graph_asks (n := n) h1 (fun i => if i < r + 1 then 1 else 0) (fun i => by
    split
    · exact .inr rfl
    · exact .inl rfl)
  have s : tot (fun i => if i < r + 1 then (1 : Int) else 0) n = ((r + 1 : Nat) : Int) := by
    have := tot_pre r n hr (fun _ => 1)
    rw [tot_const] at this
    rw [← Int.mul_one ((r + 1 : Nat) : Int), ← this]
    exact tot_congr fun i _ => by rw [Int.mul_one]
  rw [s, tot_pre r n hr (fun i => dg g n i), tot_congr (g := d) fun i hi => h2 i (by omega)] at a
  have e := tot_split (fun j => (1 - if j < r + 1 then (1 : Int) else 0) * min (dg g n j) ((r + 1 : Nat) : Int)) (r + 1) (n - (r + 1))
  rw [show r + 1 + (n - (r + 1)) = n by omega, tot_zero (n := r + 1) (f := fun j => (1 - if j < r + 1 then (1 : Int) else 0) * min (dg g n j) ((r + 1 : Nat) : Int)) fun j hj => by rw [if_pos hj]; omega] at e
  rw [e, tot_congr (f := fun i => (1 - if r + 1 + i < r + 1 then (1 : Int) else 0) * min (dg g n (r + 1 + i)) ((r + 1 : Nat) : Int)) (g := fun m => min (d (r + 1 + m)) ((r + 1 : Nat) : Int)) fun i hi => by rw [if_neg (by omega), h2 (r + 1 + i) (by omega)]; omega] at a
  unfold EG
  have : ((r + 1 : Nat) : Int) - 1 = (r : Int) := by omega
  rw [this] at a
  omega
structure OkD (l : List Int) : Prop where
  len : l.length ≤ 12
  r : ∀ i, i < l.length → 0 ≤ l.getD i 0 ∧ l.getD i 0 < l.length
theorem check_deg (l : List Int) : (OkD l ∧ degree_Check_F l = some 0) ∨ (¬ OkD l ∧ ∃ e, e ≠ 0 ∧ degree_Check_F l = some e) := by
  unfold degree_Check_F
  by_cases c1 : (12 : Int) < ((l.length : Nat) : Int)
  · exact .inr ⟨fun h => by have := h.len; omega, 2, by decide, by rw [if_pos c1]⟩
  rw [if_neg c1]
  obtain ⟨q, e, hq⟩ := forC_or (f := degree_Check_B1 l) (fun j _ => ∀ i, i < j → 0 ≤ l.getD i 0 ∧ l.getD i 0 < l.length) (fun q => (q = .ret 1 ∧ ∃ i, i < l.length ∧ ¬ (0 ≤ l.getD i 0 ∧ l.getD i 0 < l.length)) ∨ q = .go () ∧ ∀ i, i < l.length → 0 ≤ l.getD i 0 ∧ l.getD i 0 < l.length) (n := l.length) (k := 0) (s := ()) (fun i hi => absurd hi (by omega)) (fun j s _ hj hI => by
    unfold degree_Check_B1
    by_cases d1 : l.getD j 0 < 0
    · rw [if_pos d1]; exact .inr (.inr ⟨_, rfl, .inl ⟨rfl, j, by omega, by omega⟩⟩)
    · rw [if_neg d1]
      by_cases d2 : ((l.length : Nat) : Int) ≤ l.getD j 0
      · rw [if_pos d2]; exact .inr (.inr ⟨_, rfl, .inl ⟨rfl, j, by omega, by omega⟩⟩)
      · rw [if_neg d2]
        refine .inl ⟨(), rfl, fun i hi => ?_⟩
        by_cases z : i = j
        · subst z; omega
        · exact hI i (by omega)) (fun s hI => .inr ⟨rfl, by rw [Nat.zero_add] at hI; exact hI⟩)
  rw [e, bind_some']
  rcases hq with ⟨rfl, i, hi, hb⟩ | ⟨rfl, hr⟩
  · exact .inr ⟨fun h => hb (h.r i hi), 1, by decide, rfl⟩
  · exact .inl ⟨⟨by omega, hr⟩, rfl⟩
theorem descD_ok {l : List Int} (hl : l.length ≤ 12) : ∃ a c, slices_Sort_int_F l = some a ∧ a.length = l.length ∧ slices_Reverse_int_F a = some c ∧ c.length = l.length ∧ Sw 0 l.length l c ∧ ∀ p q, p < q → q < l.length → c.getD q 0 ≤ c.getD p 0 := by
  obtain ⟨a, e1, s1, o1⟩ := sortI_12 lessI hl (fun _ _ => trivial)
  have l1 := s1.len
  obtain ⟨c, e2, s2, o2⟩ := revO_ok (l := a) (by omega)
  have l2 := s2.len
  refine ⟨a, c, e1, l1, e2, by omega, s1.trans (s2.mono (Nat.le_refl _) (by omega)), fun p q hpq hq => ?_⟩
  rw [o2 p (by omega), o2 q (by omega)]
  exact o1 _ _ (by omega) (by omega) (by omega)
theorem can_most {c : List Int} {n k : Nat} (hc : c.length = n) (hn : n ≤ 12) (hr : ∀ p, p < n → 0 ≤ c.getD p 0 ∧ c.getD p 0 ≤ 12) (hk : k < n) : forN (degree_Can_B2 c k) (n - (k + 1)) 0 (((k : Nat) : Int) * ((k + 1 : Nat) : Int)) = some (((k + 1 : Nat) : Int) * (k : Int) + tot (fun m => min (c.getD (k + 1 + m) 0) ((k + 1 : Nat) : Int)) (n - (k + 1))) := by
  have hkk : ((k : Nat) : Int) * ((k + 1 : Nat) : Int) ≤ 12 * 12 := Int.mul_le_mul (by omega) (by omega) (by omega) (by omega)
  have hkk0 : 0 ≤ ((k : Nat) : Int) * ((k + 1 : Nat) : Int) := Int.mul_nonneg (by omega) (by omega)
  have hb : ∀ j, j ≤ n - (k + 1) → 0 ≤ tot (fun m => min (c.getD (k + 1 + m) 0) ((k + 1 : Nat) : Int)) j ∧ tot (fun m => min (c.getD (k + 1 + m) 0) ((k + 1 : Nat) : Int)) j ≤ 12 * j := fun j => by
    induction j with
    | zero => intro _; exact ⟨Int.le_refl _, by simp [tot]⟩
    | succ j ih =>
      intro hj
      have := ih (by omega)
      have := hr (k + 1 + j) (by omega)
      rw [tot]; omega
  obtain ⟨x, e, h⟩ := forN_inv (f := degree_Can_B2 c k) (fun j x => x = ((k + 1 : Nat) : Int) * (k : Int) + tot (fun m => min (c.getD (k + 1 + m) 0) ((k + 1 : Nat) : Int)) j) (n := n - (k + 1)) (k := 0) (s := ((k : Nat) : Int) * ((k + 1 : Nat) : Int)) (by rw [tot, Int.add_zero, Int.mul_comm]) fun j x _ hj hI => by
    subst hI
    have h1 := hb j (by omega)
    have h2 := hr (k + 1 + j) (by omega)
    unfold degree_Can_B2
    rw [show j + ((k + 1) + 0) = k + 1 + j by omega, Int.mul_comm, ck_some (inI_small (by omega) (by omega))]
    try rw [ck_some (show k + 1 + j < c.length by omega)]
    exact ⟨_, rfl, by rw [tot, Int.mul_comm]; omega⟩
  rw [e, h, Nat.zero_add]
theorem can_cases (l : List Int) : (OkD l ∧ ∃ b, degree_Can_F l = some (b, 0) ∧ (b = true ↔ GrL l)) ∨ (¬ OkD l ∧ ∃ e, e ≠ 0 ∧ degree_Can_F l = some (false, e)) := by
  unfold degree_Can_F
  rcases check_deg l with ⟨hg, e⟩ | ⟨hb, e1, he, e⟩
  · left
    refine ⟨hg, ?_⟩
    have hl := hg.len
    have ecl : slices_Clone_int_F l = some l := by
      unfold slices_Clone_int_F
      rw [ck_some (by omega)]; rfl
    obtain ⟨a, c, e1, l1, e2, l2, sw, hdesc⟩ := descD_ok hl
    rw [e, bind_some', if_neg (by decide), ecl, bind_some', e1, bind_some', ck_some (by omega), e2, bind_some', ck_some (by omega)]
    have hr : ∀ p, p < l.length → 0 ≤ c.getD p 0 ∧ c.getD p 0 ≤ 12 := fun p hp => by
      obtain ⟨k, hk, q⟩ := getD_of_mem (d := 0) (sw.mem (Nat.le_refl _) (mem_getD (d := 0) (show p < c.length by omega)))
      have := hg.r k hk
      rw [← q]; omega
    have hs : ∀ j, j ≤ l.length → 0 ≤ tot (fun p => c.getD p 0) j ∧ tot (fun p => c.getD p 0) j ≤ 12 * j := fun j => by
      induction j with
      | zero => intro _; exact ⟨Int.le_refl _, by simp [tot]⟩
      | succ j ih =>
        intro hj
        have := ih (by omega)
        have := hr j (by omega)
        rw [tot]; omega
    obtain ⟨q, e3, hq⟩ := forC_or (f := degree_Can_B1 l c) (fun j x => x = tot (fun p => c.getD p 0) j ∧ ∀ r, r < j → EG l.length (fun p => c.getD p 0) r) (fun q => (q = .ret (false, 0) ∧ ∃ r, r < l.length ∧ ¬ EG l.length (fun p => c.getD p 0) r) ∨ q = .go (tot (fun p => c.getD p 0) l.length) ∧ ∀ r, r < l.length → EG l.length (fun p => c.getD p 0) r) (n := l.length) (k := 0) (s := 0) ⟨rfl, fun r hr => absurd hr (by omega)⟩ (fun j x _ hj ⟨i1, i2⟩ => by
      subst i1
      have hsj := hs j (by omega)
      have hrj := hr j (by omega)
      have hkk : ((j : Nat) : Int) * ((j + 1 : Nat) : Int) ≤ 12 * 12 := Int.mul_le_mul (by omega) (by omega) (by omega) (by omega)
      have hkk0 : 0 ≤ ((j : Nat) : Int) * ((j + 1 : Nat) : Int) := Int.mul_nonneg (by omega) (by omega)
      have es : tot (fun p => c.getD p 0) j + c.getD j 0 = tot (fun p => c.getD p 0) (j + 1) := rfl
      unfold degree_Can_B1
      rw [ck_some (inI_small (by omega) (by omega)), ck_some (inI_small (by omega) (by omega)), ck_some (by omega), can_most (by omega) hl hr (by omega), bind_some', es]
      by_cases c2 : ((j + 1 : Nat) : Int) * (j : Int) + tot (fun m => min (c.getD (j + 1 + m) 0) ((j + 1 : Nat) : Int)) (l.length - (j + 1)) < tot (fun p => c.getD p 0) (j + 1)
      · rw [if_pos c2]
        exact .inr (.inr ⟨_, rfl, .inl ⟨rfl, j, by omega, fun z => by simp only [EG] at z; omega⟩⟩)
      · rw [if_neg c2]
        refine .inl ⟨_, rfl, rfl, fun r hr' => ?_⟩
        by_cases z : r = j
        · subst z; simp only [EG]; omega
        · exact i2 r (by omega)) (fun x ⟨i1, i2⟩ => .inr ⟨by rw [i1, Nat.zero_add], by rw [Nat.zero_add] at i2; exact i2⟩)
    rw [e3, bind_some']
    have hiff := grL_sw sw
    rcases hq with ⟨rfl, r, hr1, hr2⟩ | ⟨rfl, hall⟩
    · refine ⟨false, rfl, ⟨fun z => (by cases z), fun z => ?_⟩⟩
      have z2 := hiff.1 z
      unfold GrL at z2
      rw [l2] at z2
      exact absurd (z2.eg hr1) hr2
    · refine ⟨_, rfl, ?_⟩
      rw [decide_eq_true_eq, hiff, Int.tmod_eq_emod_of_nonneg (hs l.length (Nat.le_refl _)).1]
      unfold GrL
      rw [l2]
      constructor
      · intro hp
        exact real_all (fun i hi => (hr i hi).1) (fun i j hij hj => hdesc i j hij hj) (fun r hr' => hall r hr') hp
      · rintro ⟨g, h1, h2⟩
        have := hand_shake h1 l.length
        rwa [tot_congr (g := fun p => c.getD p 0) fun i hi => h2 i hi] at this
  · exact .inr ⟨hb, e1, he, by rw [e, bind_some', if_pos he]⟩
end Go.Proofs.Ytlpelkfcmeapiaa
