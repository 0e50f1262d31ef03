/- Graphs by how many stand at each node: where the sum is even and no so many of the greatest ask for more than there are, there is one. No program in sight. -/
import Derived.Test.YtlpelkfcmeapiaaPtable
namespace Go.Proofs.Ytlpelkfcmeapiaa
open Go Go.Proofs.Ytlpelkfcmeapiaa.Sx
set_option linter.unusedVariables false
set_option linter.unusedSimpArgs false
def e01 (g : Nat → Nat → Bool) (i j : Nat) : Int := if g i j = true then 1 else 0
def dg (g : Nat → Nat → Bool) (n i : Nat) : Int := tot (e01 g i) n
structure Gr (g : Nat → Nat → Bool) : Prop where
  sy : ∀ i j, g i j = g j i
  ir : ∀ i, g i i = false
def tog (g : Nat → Nat → Bool) (a b : Nat) (v : Bool) : Nat → Nat → Bool := fun i j => if (i = a ∧ j = b) ∨ (i = b ∧ j = a) then v else g i j
theorem tog_ne {g : Nat → Nat → Bool} {a b i j : Nat} {v : Bool} (h : ¬ ((i = a ∧ j = b) ∨ (i = b ∧ j = a))) : tog g a b v i j = g i j := if_neg h
theorem tog_eq {g : Nat → Nat → Bool} {a b : Nat} {v : Bool} : tog g a b v a b = v := if_pos (.inl ⟨rfl, rfl⟩)
theorem gr_tog {g : Nat → Nat → Bool} (h : Gr g) {a b : Nat} (hab : a ≠ b) (v : Bool) : Gr (tog g a b v) := by
  refine ⟨fun i j => ?_, fun i => ?_⟩
  · unfold tog
    by_cases c : (i = a ∧ j = b) ∨ (i = b ∧ j = a)
    · rw [if_pos c, if_pos (by omega)]
    · rw [if_neg c, if_neg (by omega)]; exact h.sy i j
  · unfold tog
    rw [if_neg (by omega)]; exact h.ir i
theorem e01_b (g : Nat → Nat → Bool) (i j : Nat) : 0 ≤ e01 g i j ∧ e01 g i j ≤ 1 := by unfold e01; split <;> omega
theorem e01_t {g : Nat → Nat → Bool} {i j : Nat} (h : g i j = true) : e01 g i j = 1 := if_pos h
theorem e01_f {g : Nat → Nat → Bool} {i j : Nat} (h : g i j = false) : e01 g i j = 0 := if_neg (by rw [h]; decide)
theorem e01_sy {g : Nat → Nat → Bool} (h : Gr g) (i j : Nat) : e01 g i j = e01 g j i := by unfold e01; rw [h.sy i j]
theorem tot_upd {f g : Nat → Int} {b n : Nat} (hb : b < n) (h : ∀ i, i < n → i ≠ b → f i = g i) : tot f n = tot g n + (f b - g b) := by
  have e := tot_sub f g n
  have e2 : tot (fun i => f i - g i) n = f b - g b := tot_single (f := fun i => f i - g i) hb fun i hi hne => by rw [h i hi hne]; omega
  omega
theorem dg_tog {g : Nat → Nat → Bool} {n a b : Nat} (hab : a ≠ b) (ha : a < n) (hb : b < n) (v : Bool) (x : Nat) :
    (x ≠ a ∧ x ≠ b ∧ dg (tog g a b v) n x = dg g n x) ∨ (x = a ∧ dg (tog g a b v) n x = dg g n x + (e01 (tog g a b v) a b - e01 g a b)) ∨ (x = b ∧ dg (tog g a b v) n x = dg g n x + (e01 (tog g a b v) b a - e01 g b a)) := by
  by_cases c1 : x = a
  · subst c1
    refine .inr (.inl ⟨rfl, tot_upd hb fun i _ hne => ?_⟩)
    unfold e01; rw [tog_ne (by omega)]
  · by_cases c2 : x = b
    · subst c2
      refine .inr (.inr ⟨rfl, tot_upd ha fun i _ hne => ?_⟩)
      unfold e01; rw [tog_ne (by omega)]
    · refine .inl ⟨c1, c2, tot_congr fun i _ => ?_⟩
      unfold e01; rw [tog_ne (by omega)]
theorem dg_add {g : Nat → Nat → Bool} {n : Nat} (h : Gr g) {a b : Nat} (hab : a ≠ b) (ha : a < n) (hb : b < n) (hg : g a b = false) (x : Nat) :
    (x ≠ a ∧ x ≠ b ∧ dg (tog g a b true) n x = dg g n x) ∨ ((x = a ∨ x = b) ∧ dg (tog g a b true) n x = dg g n x + 1) := by
  have h' := gr_tog h hab true
  have e1 : e01 (tog g a b true) a b = 1 := e01_t tog_eq
  have e2 : e01 (tog g a b true) b a = 1 := by rw [e01_sy h']; exact e1
  have e3 := e01_f hg
  have e4 : e01 g b a = 0 := by rw [e01_sy h]; exact e3
  rcases dg_tog (g := g) hab ha hb true x with q | q | q
  · exact .inl q
  · exact .inr ⟨.inl q.1, by omega⟩
  · exact .inr ⟨.inr q.1, by omega⟩
theorem dg_del {g : Nat → Nat → Bool} {n : Nat} (h : Gr g) {a b : Nat} (hab : a ≠ b) (ha : a < n) (hb : b < n) (hg : g a b = true) (x : Nat) :
    (x ≠ a ∧ x ≠ b ∧ dg (tog g a b false) n x = dg g n x) ∨ ((x = a ∨ x = b) ∧ dg (tog g a b false) n x = dg g n x - 1) := by
  have h' := gr_tog h hab false
  have e1 : e01 (tog g a b false) a b = 0 := e01_f tog_eq
  have e2 : e01 (tog g a b false) b a = 0 := by rw [e01_sy h']; exact e1
  have e3 := e01_t hg
  have e4 : e01 g b a = 1 := by rw [e01_sy h]; exact e3
  rcases dg_tog (g := g) hab ha hb false x with q | q | q
  · exact .inl q
  · exact .inr ⟨.inl q.1, by omega⟩
  · exact .inr ⟨.inr q.1, by omega⟩
/-- who has more, or as many and lacks one of the other's, has one that the other lacks -/
theorem pick_nb {g : Nat → Nat → Bool} {n i r : Nat} (h : Gr g) (hi : i < n) (hr : r < n) (hir : i ≠ r) (hlt : dg g n r < dg g n i ∨ (dg g n r ≤ dg g n i ∧ ∃ w, w < n ∧ w ≠ i ∧ w ≠ r ∧ g r w = true ∧ g i w = false)) :
    ∃ u, u < n ∧ u ≠ r ∧ g i u = true ∧ g r u = false := Classical.byContradiction fun hno => by
  have hno' : ∀ u, u < n → u ≠ r → g i u = true → g r u = true := fun u h1 h2 h3 => by
    cases hc : g r u with
    | true => rfl
    | false => exact absurd ⟨u, h1, h2, h3, hc⟩ hno
  have e : tot (e01 g i) n = tot (fun u => if u = i then e01 g i r else if u = r then 0 else e01 g i u) n := by
    refine tot_two' hi hr hir (fun u _ n1 n2 => ?_) ?_
    · rw [if_neg n1, if_neg n2]
    · rw [if_pos rfl, if_neg (fun z => hir z.symm), if_pos rfl, e01_f (h.ir i)]; omega
  have hp : ∀ u, u < n → (if u = i then e01 g i r else if u = r then 0 else e01 g i u) ≤ e01 g r u := fun u hu => by
    by_cases c1 : u = i
    · rw [if_pos c1, c1, e01_sy h]; exact Int.le_refl _
    · rw [if_neg c1]
      by_cases c2 : u = r
      · rw [if_pos c2]; exact (e01_b g r u).1
      · rw [if_neg c2]
        cases hc : g i u with
        | true => rw [e01_t hc, e01_t (hno' u hu c2 hc)]; exact Int.le_refl _
        | false => rw [e01_f hc]; exact (e01_b g r u).1
  have hle := tot_le hp
  unfold dg at hlt
  rcases hlt with hlt | ⟨hlt, w, w1, w2, w3, w4, w5⟩
  · omega
  · have := tot_lt' hp w1 (by rw [if_neg w2, if_neg w3, e01_t w4, e01_f w5]; omega)
    omega
theorem hand_shake {g : Nat → Nat → Bool} (h : Gr g) : ∀ n : Nat, tot (fun i => dg g n i) n % 2 = 0
  | 0 => rfl
  | n + 1 => by
    have ih := hand_shake h n
    have e : tot (fun i => dg g (n + 1) i) n = tot (fun i => dg g n i) n + tot (fun i => e01 g i n) n := by rw [← tot_add]; rfl
    have e2 : dg g (n + 1) n = tot (fun i => e01 g i n) n + 0 := by
      show tot (e01 g n) n + e01 g n n = _
      rw [e01_f (h.ir n), tot_congr fun i _ => e01_sy h n i]
    rw [tot, e, e2]
    omega
structure SubR (n : Nat) (d : Nat → Int) (r : Nat) (g : Nat → Nat → Bool) : Prop where
  gr : Gr g
  le : ∀ i, i < n → dg g n i ≤ d i
  eq : ∀ i, i < r → i < n → dg g n i = d i
  ind : ∀ i j, r < i → r < j → g i j = false
theorem dg_split {g : Nat → Nat → Bool} {n r : Nat} (hr : r < n) (i : Nat) : dg g n i = tot (e01 g i) (r + 1) + tot (fun m => e01 g i (r + 1 + m)) (n - (r + 1)) := by
  unfold dg
  have := tot_split (e01 g i) (r + 1) (n - (r + 1))
  rw [show r + 1 + (n - (r + 1)) = n by omega] at this
  exact this
theorem bool_cases {b : Bool} (h : ¬ b = true) : b = false := by cases b <;> simp_all
theorem real_step {n r : Nat} {d : Nat → Int} {g : Nat → Nat → Bool} (hr : r < n) (hdesc : ∀ i, i < r → d r ≤ d i)
    (heg : tot d (r + 1) ≤ ((r + 1 : Nat) : Int) * (r : Int) + tot (fun m => min (d (r + 1 + m)) ((r + 1 : Nat) : Int)) (n - (r + 1))) (hpar : tot d n % 2 = 0) (h : SubR n d r g) (hlt : dg g n r < d r) :
    ∃ g', SubR n d r g' ∧ dg g n r < dg g' n r := by
  by_cases hA : ∃ i, i < n ∧ i ≠ r ∧ g r i = false ∧ dg g n i < d i
  · obtain ⟨i, a1, a2, a3, a4⟩ := hA
    have t := dg_add h.gr (Ne.symm a2) hr a1 a3
    refine ⟨tog g r i true, ⟨gr_tog h.gr (Ne.symm a2) true, fun x hx => ?_, fun x hx hx2 => ?_, fun x y hx hy => ?_⟩, ?_⟩
    · have t := t x
      have := h.le x hx
      have : x = r → dg g n x < d x := fun z => by subst z; exact hlt
      have : x = i → dg g n x < d x := fun z => by subst z; exact a4
      omega
    · have t := t x
      have := h.eq x hx hx2
      have : x = i → dg g n x < d x := fun z => by subst z; exact a4
      omega
    · rw [tog_ne (by omega)]; exact h.ind x y hx hy
    · have := t r
      omega
  have hA' : ∀ i, i < n → i ≠ r → dg g n i < d i → g r i = true := fun i h1 h2 h3 => by
    cases hc : g r i with
    | true => rfl
    | false => exact absurd ⟨i, h1, h2, hc, h3⟩ hA
  have hgt : ∀ i, i < r → dg g n r < dg g n i := fun i hi => by
    have := hdesc i hi
    rw [h.eq i hi (by omega)]; omega
  by_cases hB : ∃ i, i < r ∧ g r i = false
  · obtain ⟨i, b1, b2⟩ := hB
    obtain ⟨u, u1, u2, u3, u4⟩ := pick_nb h.gr (show i < n by omega) hr (by omega) (.inl (hgt i b1))
    have hiu : i ≠ u := fun z => by subst z; rw [h.gr.ir] at u3; cases u3
    have g1 := gr_tog h.gr hiu false
    have g2 := gr_tog g1 u2 true
    have g3 := gr_tog g2 (show i ≠ r by omega) true
    have q2 : tog g i u false u r = false := by rw [tog_ne (by omega), h.gr.sy]; exact u4
    have q3 : tog (tog g i u false) u r true i r = false := by rw [tog_ne (by omega), tog_ne (by omega), h.gr.sy]; exact b2
    by_cases hB2 : 2 ≤ d r - dg g n r
    · refine ⟨_, ⟨g3, fun x hx => ?_, fun x hx hx2 => ?_, fun x y hx hy => ?_⟩, ?_⟩
      · have t1 := dg_del h.gr hiu (by omega) u1 u3 x
        have t2 := dg_add g1 u2 u1 hr q2 x
        have t3 := dg_add g2 (show i ≠ r by omega) (by omega) hr q3 x
        have := h.le x hx
        have : x = r → dg g n x + 2 ≤ d x := fun z => by subst z; omega
        omega
      · have t1 := dg_del h.gr hiu (by omega) u1 u3 x
        have t2 := dg_add g1 u2 u1 hr q2 x
        have t3 := dg_add g2 (show i ≠ r by omega) (by omega) hr q3 x
        have := h.eq x hx hx2
        omega
      · rw [tog_ne (by omega), tog_ne (by omega), tog_ne (by omega)]; exact h.ind x y hx hy
      · have t1 := dg_del h.gr hiu (by omega) u1 u3 r
        have t2 := dg_add g1 u2 u1 hr q2 r
        have t3 := dg_add g2 (show i ≠ r by omega) (by omega) hr q3 r
        omega
    · have hk : ∃ k, k < n ∧ k ≠ r ∧ dg g n k < d k := Classical.byContradiction fun hno => by
        have e1 := hand_shake h.gr n
        have e2 := tot_upd (f := d) (g := fun i => dg g n i) hr fun i hi hne => by
          have := h.le i hi
          by_cases z : dg g n i < d i
          · exact absurd ⟨i, hi, hne, z⟩ hno
          · omega
        omega
      obtain ⟨k, k1, k2, k3⟩ := hk
      have k4 := hA' k k1 k2 k3
      have hku : k ≠ u := fun z => by subst z; rw [k4] at u4; cases u4
      have hki : k ≠ i := fun z => by subst z; rw [k4] at b2; cases b2
      have hkr : ¬ k < r := fun z => by have := h.eq k z k1; omega
      have G1 := gr_tog h.gr (Ne.symm k2) false
      have G2 := gr_tog G1 hiu false
      have G3 := gr_tog G2 u2 true
      have G4 := gr_tog G3 (show i ≠ r by omega) true
      have p2 : tog g r k false i u = true := by rw [tog_ne (by omega)]; exact u3
      have p3 : tog (tog g r k false) i u false u r = false := by rw [tog_ne (by omega), tog_ne (by omega), h.gr.sy]; exact u4
      have p4 : tog (tog (tog g r k false) i u false) u r true i r = false := by rw [tog_ne (by omega), tog_ne (by omega), tog_ne (by omega), h.gr.sy]; exact b2
      refine ⟨_, ⟨G4, fun x hx => ?_, fun x hx hx2 => ?_, fun x y hx hy => ?_⟩, ?_⟩
      · have t1 := dg_del h.gr (Ne.symm k2) hr k1 k4 x
        have t2 := dg_del G1 hiu (by omega) u1 p2 x
        have t3 := dg_add G2 u2 u1 hr p3 x
        have t4 := dg_add G3 (show i ≠ r by omega) (by omega) hr p4 x
        have := h.le x hx
        have : x = r → dg g n x + 1 ≤ d x := fun z => by subst z; omega
        omega
      · have t1 := dg_del h.gr (Ne.symm k2) hr k1 k4 x
        have t2 := dg_del G1 hiu (by omega) u1 p2 x
        have t3 := dg_add G2 u2 u1 hr p3 x
        have t4 := dg_add G3 (show i ≠ r by omega) (by omega) hr p4 x
        have := h.eq x hx hx2
        omega
      · rw [tog_ne (by omega), tog_ne (by omega), tog_ne (by omega), tog_ne (by omega)]; exact h.ind x y hx hy
      · have t1 := dg_del h.gr (Ne.symm k2) hr k1 k4 r
        have t2 := dg_del G1 hiu (by omega) u1 p2 r
        have t3 := dg_add G2 u2 u1 hr p3 r
        have t4 := dg_add G3 (show i ≠ r by omega) (by omega) hr p4 r
        omega
  have hB' : ∀ i, i < r → g r i = true := fun i hi => by
    cases hc : g r i with
    | true => rfl
    | false => exact absurd ⟨i, hi, hc⟩ hB
  have hcut : ∀ k, r < k → dg g n k = tot (e01 g k) (r + 1) := fun k hk => by
    rw [dg_split hr k, tot_zero (f := fun m => e01 g k (r + 1 + m)) fun m _ => e01_f (h.ind k (r + 1 + m) hk (by omega))]
    omega
  have hcap : ∀ k, tot (e01 g k) (r + 1) ≤ ((r + 1 : Nat) : Int) := fun k => by
    have := tot_le (f := e01 g k) (g := fun _ => 1) (n := r + 1) fun j _ => (e01_b g k j).2
    rw [tot_const] at this; omega
  by_cases hC : ∃ k, r < k ∧ k < n ∧ dg g n k ≠ min (d k) ((r + 1 : Nat) : Int)
  · obtain ⟨k, c1, c2, c3⟩ := hC
    have l1 := h.le k c2
    have l2 := hcut k c1
    have l3 := hcap k
    have k3 : dg g n k < d k := by omega
    have k4 := hA' k c2 (by omega) k3
    have hi : ∃ i, i < r + 1 ∧ g k i = false := Classical.byContradiction fun hno => by
      have : tot (e01 g k) (r + 1) = tot (fun _ => 1) (r + 1) := tot_congr fun j hj => by
        cases hc : g k j with
        | true => exact e01_t hc
        | false => exact absurd ⟨j, hj, hc⟩ hno
      rw [tot_const] at this
      omega
    obtain ⟨i, i1, i2⟩ := hi
    have hir : i ≠ r := fun z => by subst z; rw [h.gr.sy, k4] at i2; cases i2
    obtain ⟨u, u1, u2, u3, u4⟩ := pick_nb h.gr (show i < n by omega) hr hir (.inl (hgt i (by omega)))
    have hiu : i ≠ u := fun z => by subst z; rw [h.gr.ir] at u3; cases u3
    have hku : k ≠ u := fun z => by subst z; rw [h.gr.sy, i2] at u3; cases u3
    have g1 := gr_tog h.gr hiu false
    have g2 := gr_tog g1 u2 true
    have hik : i ≠ k := by omega
    have g3 := gr_tog g2 hik true
    have q2 : tog g i u false u r = false := by rw [tog_ne (by omega), h.gr.sy]; exact u4
    have q3 : tog (tog g i u false) u r true i k = false := by rw [tog_ne (by omega), tog_ne (by omega), h.gr.sy]; exact i2
    refine ⟨_, ⟨g3, fun x hx => ?_, fun x hx hx2 => ?_, fun x y hx hy => ?_⟩, ?_⟩
    · have t1 := dg_del h.gr hiu (by omega) u1 u3 x
      have t2 := dg_add g1 u2 u1 hr q2 x
      have t3 := dg_add g2 hik (by omega) c2 q3 x
      have := h.le x hx
      have : x = r → dg g n x + 1 ≤ d x := fun z => by subst z; omega
      have : x = k → dg g n x + 1 ≤ d x := fun z => by subst z; omega
      omega
    · have t1 := dg_del h.gr hiu (by omega) u1 u3 x
      have t2 := dg_add g1 u2 u1 hr q2 x
      have t3 := dg_add g2 hik (by omega) c2 q3 x
      have := h.eq x hx hx2
      omega
    · rw [tog_ne (by omega), tog_ne (by omega), tog_ne (by omega)]; exact h.ind x y hx hy
    · have t1 := dg_del h.gr hiu (by omega) u1 u3 r
      have t2 := dg_add g1 u2 u1 hr q2 r
      have t3 := dg_add g2 hik (by omega) c2 q3 r
      omega
  by_cases hD : ∃ i j, i < r ∧ j < r ∧ i ≠ j ∧ g i j = false
  · obtain ⟨i, j, i1, j1, hij, d1⟩ := hD
    obtain ⟨u, u1, u2, u3, u4⟩ := pick_nb h.gr (show i < n by omega) hr (by omega) (.inl (hgt i i1))
    obtain ⟨w, w1, w2, w3, w4⟩ := pick_nb h.gr (show j < n by omega) hr (by omega) (.inl (hgt j j1))
    have hur : r < u := by
      by_cases z : u < r
      · rw [hB' u z] at u4; cases u4
      · omega
    have hwr : r < w := by
      by_cases z : w < r
      · rw [hB' w z] at w4; cases w4
      · omega
    have hiu : i ≠ u := by omega
    have hjw : j ≠ w := by omega
    have g1 := gr_tog h.gr hiu false
    have g2 := gr_tog g1 hjw false
    have g3 := gr_tog g2 hij true
    have g4 := gr_tog g3 u2 true
    have q2 : tog g i u false j w = true := by rw [tog_ne (by omega)]; exact w3
    have q3 : tog (tog g i u false) j w false i j = false := by rw [tog_ne (by omega), tog_ne (by omega)]; exact d1
    have q4 : tog (tog (tog g i u false) j w false) i j true u r = false := by rw [tog_ne (by omega), tog_ne (by omega), tog_ne (by omega), h.gr.sy]; exact u4
    refine ⟨_, ⟨g4, fun x hx => ?_, fun x hx hx2 => ?_, fun x y hx hy => ?_⟩, ?_⟩
    · have t1 := dg_del h.gr hiu (by omega) u1 u3 x
      have t2 := dg_del g1 hjw (by omega) w1 q2 x
      have t3 := dg_add (n := n) g2 hij (by omega) (by omega) q3 x
      have t4 := dg_add g3 u2 u1 hr q4 x
      have := h.le x hx
      have : x = r → dg g n x + 1 ≤ d x := fun z => by subst z; omega
      rcases t1 with t1 | t1 <;> rcases t2 with t2 | t2 <;> rcases t3 with t3 | t3 <;> rcases t4 with t4 | t4 <;> omega
    · have t1 := dg_del h.gr hiu (by omega) u1 u3 x
      have t2 := dg_del g1 hjw (by omega) w1 q2 x
      have t3 := dg_add (n := n) g2 hij (by omega) (by omega) q3 x
      have t4 := dg_add g3 u2 u1 hr q4 x
      have := h.eq x hx hx2
      rcases t1 with t1 | t1 <;> rcases t2 with t2 | t2 <;> rcases t3 with t3 | t3 <;> rcases t4 with t4 | t4 <;> omega
    · rw [tog_ne (by omega), tog_ne (by omega), tog_ne (by omega), tog_ne (by omega)]; exact h.ind x y hx hy
    · have t1 := dg_del h.gr hiu (by omega) u1 u3 r
      have t2 := dg_del g1 hjw (by omega) w1 q2 r
      have t3 := dg_add (n := n) g2 hij (by omega) (by omega) q3 r
      have t4 := dg_add g3 u2 u1 hr q4 r
      rcases t1 with t1 | t1 <;> rcases t2 with t2 | t2 <;> rcases t3 with t3 | t3 <;> rcases t4 with t4 | t4 <;> omega
  -- nothing is left: the first r + 1 ask for more than there is
  exfalso
  have hfull : ∀ i, i < r + 1 → tot (e01 g i) (r + 1) = (r : Int) := fun i hi => by
    have e := tot_upd (f := e01 g i) (g := fun _ => 1) (n := r + 1) hi fun j hj hne => by
      refine e01_t ?_
      by_cases z1 : i = r
      · subst z1; exact hB' j (by omega)
      · by_cases z2 : j = r
        · subst z2; rw [h.gr.sy]; exact hB' i (by omega)
        · cases hc : g i j with
          | true => rfl
          | false => exact absurd ⟨i, j, by omega, by omega, Ne.symm hne, hc⟩ hD
    rw [tot_const, e01_f (h.gr.ir i)] at e
    rw [e]; omega
  have s1 : tot (fun i => dg g n i) (r + 1) = ((r + 1 : Nat) : Int) * (r : Int) + tot (fun m => min (d (r + 1 + m)) ((r + 1 : Nat) : Int)) (n - (r + 1)) := by
    rw [tot_congr (g := fun i => (r : Int) + tot (fun m => e01 g i (r + 1 + m)) (n - (r + 1))) fun i hi => by rw [dg_split hr i, hfull i hi], tot_add (fun _ => (r : Int)), tot_const, tot_swap]
    congr 1
    refine tot_congr fun m hm => ?_
    have := hcut (r + 1 + m) (by omega)
    rw [tot_congr (g := e01 g (r + 1 + m)) fun i _ => e01_sy h.gr i (r + 1 + m), ← this]
    exact Classical.byContradiction fun z => hC ⟨r + 1 + m, by omega, by omega, z⟩
  have s2 : tot (fun i => dg g n i) (r + 1) < tot d (r + 1) := tot_lt' (fun i hi => h.le i (by omega)) (k := r) (by omega) hlt
  omega
theorem real_fill {n r : Nat} {d : Nat → Int} (hr : r < n) (hdesc : ∀ i, i < r → d r ≤ d i)
    (heg : tot d (r + 1) ≤ ((r + 1 : Nat) : Int) * (r : Int) + tot (fun m => min (d (r + 1 + m)) ((r + 1 : Nat) : Int)) (n - (r + 1))) (hpar : tot d n % 2 = 0) :
    ∀ (m : Nat) (g : Nat → Nat → Bool), SubR n d r g → (d r - dg g n r).toNat ≤ m → ∃ g', SubR n d (r + 1) g'
  | 0, g, h, hm => ⟨g, h.gr, h.le, fun i h1 h2 => by
      by_cases z : i = r
      · subst z; have := h.le i h2; omega
      · exact h.eq i (by omega) h2, fun i j h1 h2 => h.ind i j (by omega) (by omega)⟩
  | m + 1, g, h, hm => by
    by_cases c : dg g n r < d r
    · obtain ⟨g', h', hl⟩ := real_step hr hdesc heg hpar h c
      have := h'.le r hr
      exact real_fill hr hdesc heg hpar m g' h' (by omega)
    · exact real_fill hr hdesc heg hpar m g h (by omega)
/-- the numbers of a graph -/
def Graphic (n : Nat) (d : Nat → Int) : Prop := ∃ g, Gr g ∧ ∀ i, i < n → dg g n i = d i
theorem real_all {n : Nat} {d : Nat → Int} (h0 : ∀ i, i < n → 0 ≤ d i) (hdesc : ∀ i j, i < j → j < n → d j ≤ d i)
    (heg : ∀ r, r < n → tot d (r + 1) ≤ ((r + 1 : Nat) : Int) * (r : Int) + tot (fun m => min (d (r + 1 + m)) ((r + 1 : Nat) : Int)) (n - (r + 1))) (hpar : tot d n % 2 = 0) : Graphic n d := by
  have all : ∀ r, r ≤ n → ∃ g, SubR n d r g := fun r => by
    induction r with
    | zero =>
      intro _
      refine ⟨fun _ _ => false, ⟨⟨fun _ _ => rfl, fun _ => rfl⟩, fun i hi => ?_, fun i hi _ => absurd hi (by omega), fun _ _ _ _ => rfl⟩⟩
      have : dg (fun _ _ => false) n i = 0 := tot_zero fun j _ => e01_f rfl
      have := h0 i hi
      omega
    | succ r ih =>
      intro hr
      obtain ⟨g, h⟩ := ih (by omega)
      exact real_fill (by omega) (fun i hi => hdesc i r hi (by omega)) (heg r (by omega)) hpar _ g h (Nat.le_refl _)
  obtain ⟨g, h⟩ := all n (Nat.le_refl _)
  exact ⟨g, h.gr, fun i hi => h.eq i hi hi⟩
/-- no set asks for more than there is -/
theorem graph_asks {n : Nat} {g : Nat → Nat → Bool} (h : Gr g) (S : Nat → Int) (hS : ∀ i, S i = 0 ∨ S i = 1) :
    tot (fun i => S i * dg g n i) n ≤ tot S n * (tot S n - 1) + tot (fun j => (1 - S j) * min (dg g n j) (tot S n)) n := by
  have e1 : tot (fun i => S i * dg g n i) n = tot (fun j => tot (fun i => S i * e01 g i j) n) n := by
    rw [← tot_swap (fun i j => S i * e01 g i j)]
    exact tot_congr fun i _ => (tot_mul (S i) (e01 g i) n).symm
  have e2 : tot S n * (tot S n - 1) = tot (fun j => S j * (tot S n - 1)) n := by
    rw [tot_congr (g := fun j => (tot S n - 1) * S j) fun j _ => Int.mul_comm _ _, tot_mul, Int.mul_comm]
  rw [e1, e2, ← tot_add]
  refine tot_le fun j hj => ?_
  have b1 : tot (fun i => S i * e01 g i j) n ≤ tot S n := tot_le fun i _ => by
    have := e01_b g i j
    rcases hS i with z | z <;> rw [z] <;> omega
  have b2 : tot (fun i => S i * e01 g i j) n ≤ dg g n j := by
    unfold dg
    refine tot_le fun i _ => ?_
    rw [e01_sy h i j]
    have := e01_b g j i
    rcases hS i with z | z <;> rw [z] <;> omega
  rcases hS j with z | z
  · rw [z]; omega
  · have e3 : tot (fun i => S i * e01 g i j) n ≤ tot (fun i => S i - (if i = j then 1 else 0)) n := tot_le fun i _ => by
      by_cases y : i = j
      · subst y; rw [e01_f (h.ir i), z, if_pos rfl]; omega
      · rw [if_neg y]
        have := e01_b g i j
        rcases hS i with z | z <;> rw [z] <;> omega
    rw [tot_sub, tot_single (f := fun i => if i = j then (1 : Int) else 0) hj fun i _ hne => if_neg hne, if_pos rfl] at e3
    rw [z]; omega
/-! ### one node laid off -/
theorem lay_off {n a : Nat} {A : Nat → Bool} (ha : a < n) (hAa : A a = false) {d : Nat → Int} (htop : ∀ k k', a < k → a < k' → k < n → k' < n → A k = true → A k' = false → d k' ≤ d k) (hAlo : ∀ k, k < a → A k = false)
    (hAs : tot (fun k => if A k = true then 1 else 0) n = d a) : ∀ (m : Nat) (g : Nat → Nat → Bool), Gr g → (∀ i j, i < a → g i j = false) → (∀ i, a ≤ i → i < n → dg g n i = d i) → tot (fun k => if g a k = A k then 0 else 1) n ≤ m →
      ∃ g', Gr g' ∧ (∀ i j, i < a → g' i j = false) ∧ (∀ i, a ≤ i → i < n → dg g' n i = d i) ∧ ∀ k, k < n → g' a k = A k
  | 0, g, hg, hlo, hd, hm => ⟨g, hg, hlo, hd, fun k hk => Classical.byContradiction fun z => by
      have := tot_lt' (f := fun _ => 0) (g := fun k => if g a k = A k then 0 else 1) (n := n) (fun i _ => by split <;> omega) hk (by rw [if_neg z]; omega)
      rw [tot_zero fun _ _ => rfl] at this
      omega⟩
  | m + 1, g, hg, hlo, hd, hm => by
    by_cases hall : ∀ k, k < n → g a k = A k
    · exact ⟨g, hg, hlo, hd, hall⟩
    have hdeg := hd a (Nat.le_refl _) ha
    unfold dg at hdeg
    have e : tot (e01 g a) n = tot (fun k => if A k = true then 1 else 0) n := by omega
    have hk : ∃ k, k < n ∧ A k = true ∧ g a k = false := Classical.byContradiction fun hno => by
      have hle : ∀ k, k < n → (if A k = true then (1 : Int) else 0) ≤ e01 g a k := fun k hk => by
        cases c : A k with
        | false => rw [if_neg (by decide)]; exact (e01_b g a k).1
        | true =>
          cases c2 : g a k with
          | true => rw [e01_t c2, if_pos rfl]; exact Int.le_refl _
          | false => exact absurd ⟨k, hk, c, c2⟩ hno
      refine hall fun k hk => ?_
      have := tot_eq_each hle e.symm k hk
      unfold e01 at this
      cases c : A k <;> cases c2 : g a k <;> simp_all
    have hk' : ∃ k, k < n ∧ A k = false ∧ g a k = true := Classical.byContradiction fun hno => by
      have hle : ∀ k, k < n → e01 g a k ≤ (if A k = true then (1 : Int) else 0) := fun k hk => by
        cases c2 : g a k with
        | false => rw [e01_f c2]; split <;> omega
        | true =>
          cases c : A k with
          | true => rw [e01_t c2, if_pos rfl]; exact Int.le_refl _
          | false => exact absurd ⟨k, hk, c, c2⟩ hno
      refine hall fun k hk => ?_
      have := tot_eq_each hle e k hk
      unfold e01 at this
      cases c : A k <;> cases c2 : g a k <;> simp_all
    obtain ⟨k, k1, k2, k3⟩ := hk
    obtain ⟨k', k1', k2', k3'⟩ := hk'
    have hak : a < k := by
      by_cases z : k < a
      · rw [hAlo k z] at k2; cases k2
      · by_cases z2 : k = a
        · subst z2; rw [hAa] at k2; cases k2
        · omega
    have hak' : a < k' := by
      by_cases z : k' < a
      · rw [hg.sy, hlo k' a z] at k3'; cases k3'
      · by_cases z2 : k' = a
        · subst z2; rw [hg.ir] at k3'; cases k3'
        · omega
    have hkk : k ≠ k' := fun z => by subst z; rw [k2] at k2'; cases k2'
    have hdk := htop k k' hak hak' k1 k1' k2 k2'
    obtain ⟨u, u1, u2, u3, u4⟩ := pick_nb hg k1 k1' hkk (.inr ⟨by rw [hd k (by omega) k1, hd k' (by omega) k1']; exact hdk, a, ha, by omega, by omega, by rw [hg.sy]; exact k3', by rw [hg.sy]; exact k3⟩)
    have hua : u ≠ a := fun z => by subst z; rw [hg.sy, k3] at u3; cases u3
    have huk : k ≠ u := fun z => by subst z; rw [hg.ir] at u3; cases u3
    have hulo : ¬ u < a := fun z => by rw [hg.sy, hlo u k z] at u3; cases u3
    have g1 := gr_tog hg (show a ≠ k' by omega) false
    have g2 := gr_tog g1 (show a ≠ k by omega) true
    have g3 := gr_tog g2 huk false
    have g4 := gr_tog g3 (show k' ≠ u from Ne.symm u2) true
    have q2 : tog g a k' false a k = false := by rw [tog_ne (by omega)]; exact k3
    have q3 : tog (tog g a k' false) a k true k u = true := by rw [tog_ne (by omega), tog_ne (by omega)]; exact u3
    have q4 : tog (tog (tog g a k' false) a k true) k u false k' u = false := by rw [tog_ne (by omega), tog_ne (by omega), tog_ne (by omega)]; exact u4
    refine lay_off ha hAa htop hAlo hAs m _ g4 (fun i j hi => ?_) (fun i hi1 hi2 => ?_) ?_
    · rw [tog_ne (by omega), tog_ne (by omega), tog_ne (by omega), tog_ne (by omega)]; exact hlo i j hi
    · have t1 := dg_del hg (show a ≠ k' by omega) ha k1' k3' i
      have t2 := dg_add g1 (show a ≠ k by omega) ha k1 q2 i
      have t3 := dg_del g2 huk k1 u1 q3 i
      have t4 := dg_add g3 (show k' ≠ u from Ne.symm u2) k1' u1 q4 i
      have := hd i hi1 hi2
      omega
    · have hlt := tot_lt' (f := fun y => if tog (tog (tog (tog g a k' false) a k true) k u false) k' u true a y = A y then (0 : Int) else 1) (g := fun y => if g a y = A y then 0 else 1) (n := n) (fun y _ => by
        by_cases z : y = k
        · subst z
          rw [tog_ne (by omega), tog_ne (by omega), tog_eq, if_pos k2.symm]
          split <;> omega
        · by_cases z2 : y = k'
          · subst z2
            rw [tog_ne (by omega), tog_ne (by omega), tog_ne (by omega), tog_eq, if_pos k2'.symm]
            split <;> omega
          · rw [tog_ne (by omega), tog_ne (by omega), tog_ne (by omega), tog_ne (by omega)]; exact Int.le_refl _) k1 (by
        rw [tog_ne (by omega), tog_ne (by omega), tog_eq, if_pos k2.symm, k3, if_neg (by rw [k2]; decide)]
        omega)
      omega
end Go.Proofs.Ytlpelkfcmeapiaa
