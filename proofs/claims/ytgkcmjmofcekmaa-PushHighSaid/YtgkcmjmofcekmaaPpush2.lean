/- Package push: Lift; how high a node may come. -/
import Derived.Test.YtgkcmjmofcekmaaPpush
namespace Go.Proofs.Ytgkcmjmofcekmaa
open Go Go.Proofs.Ytgkcmjmofcekmaa.Sx
set_option linter.unusedVariables false
set_option linter.unusedSimpArgs false
/-! ### what is come to by what is left -/
def Res1 (n : Net) (f : List Int) (x y : Int) : Prop := ∃ k, k < n.as.length ∧ (((n.as.getD k El.d).f = x ∧ (n.as.getD k El.d).t = y ∧ f.getD k 0 < (n.as.getD k El.d).c) ∨ ((n.as.getD k El.d).t = x ∧ (n.as.getD k El.d).f = y ∧ 0 < f.getD k 0))
def SD (n : Net) (f : List Int) (a : Int) : Nat → Int → Prop
  | 0, x => x = a
  | r + 1, x => SD n f a r x ∨ ∃ y, SD n f a r y ∧ Res1 n f y x
theorem Res1.range {n : Net} (hn : OkNet n) {f : List Int} {x y : Int} (h : Res1 n f x y) : (0 ≤ x ∧ x < n.n) ∧ 0 ≤ y ∧ y < n.n := by
  obtain ⟨k, hk, h⟩ := h
  have hG := hn.arc hk
  have := hG.f0; have := hG.f1; have := hG.t0; have := hG.t1
  rcases h with ⟨h1, h2, _⟩ | ⟨h1, h2, _⟩ <;> omega
theorem SD.range {n : Net} (hn : OkNet n) {f : List Int} {a : Int} (h0 : 0 ≤ a) (h1 : a < n.n) : ∀ {r : Nat} {x : Int}, SD n f a r x → 0 ≤ x ∧ x < n.n
  | 0, x, h => by rw [show x = a from h]; exact ⟨h0, h1⟩
  | r + 1, x, h => by
    rcases h with h | ⟨y, _, h⟩
    · exact SD.range hn h0 h1 h
    · exact (h.range hn).2
theorem SD.start {n : Net} {f : List Int} {a : Int} : ∀ r : Nat, SD n f a r a
  | 0 => rfl
  | r + 1 => .inl (SD.start r)
theorem SD.height {n : Net} {q : Push} (h : PV n q) {a : Int} : ∀ {r : Nat} {x : Int}, SD n q.flow a r x → hgt q.height a ≤ hgt q.height x + r
  | 0, x, hx => by rw [show x = a from hx]; omega
  | r + 1, x, hx => by
    rcases hx with hx | ⟨y, hy, k, hk, ⟨e1, e2, e3⟩ | ⟨e1, e2, e3⟩⟩
    · have := SD.height h hx; omega
    · have := SD.height h hy
      have := h.fw k hk e3
      rw [e1, e2] at this
      omega
    · have := SD.height h hy
      have := h.bw k hk e3
      rw [e1, e2] at this
      omega
theorem cnt_full {S : Nat → Bool} : ∀ {n : Nat}, n ≤ cnt S n → ∀ x, x < n → S x = true
  | 0, _, x, hx => absurd hx (by omega)
  | n + 1, h, x, hx => by
    have h1 := cnt_le S n
    simp only [cnt] at h
    cases hS : S n with
    | true =>
      rw [hS] at h
      simp at h
      by_cases e : x = n
      · subst e; exact hS
      · exact cnt_full (n := n) (by omega) x (by omega)
    | false => rw [hS] at h; simp at h; omega
/-- so many rounds as nodes less one suffice -/
theorem rounds_rest1 {n : Nat} (hn : 1 ≤ n) (S : Nat → Nat → Bool) (hmono : ∀ r x, x < n → S r x = true → S (r + 1) x = true) (hdet : ∀ r r', (∀ x, x < n → S r x = S r' x) → ∀ x, x < n → S (r + 1) x = S (r' + 1) x) (h0 : ∃ x, x < n ∧ S 0 x = true) :
    ∀ x, x < n → S n x = S (n - 1) x := by
  have key : ∀ r, (∃ j, j ≤ r ∧ ∀ x, x < n → S (j + 1) x = S j x) ∨ r + 1 ≤ cnt (S r) n := by
    intro r
    induction r with
    | zero =>
      obtain ⟨x, hx, hs⟩ := h0
      exact .inr (cnt_pos hx hs)
    | succ r ih =>
      rcases ih with ⟨j, hj, h⟩ | h
      · exact .inl ⟨j, by omega, h⟩
      · by_cases he : ∀ x, x < n → S (r + 1) x = S r x
        · exact .inl ⟨r, by omega, he⟩
        · right
          have : ∃ y, y < n ∧ S (r + 1) y = true ∧ S r y = false := by
            refine Classical.byContradiction fun hc => he fun x hx => ?_
            cases h1 : S r x with
            | true => exact hmono r x hx h1
            | false =>
              cases h2 : S (r + 1) x with
              | false => rfl
              | true => exact absurd ⟨x, hx, h2, h1⟩ hc
          obtain ⟨y, hy, h1, h2⟩ := this
          have := cnt_lt (n := n) (fun x hx => hmono r x hx) hy h1 h2
          omega
  rcases key (n - 1) with ⟨j, hj, h⟩ | h
  · have stay : ∀ i, ∀ x, x < n → S (j + i + 1) x = S (j + i) x := by
      intro i
      induction i with
      | zero => exact h
      | succ i ih => exact hdet (j + i + 1) (j + i) ih
    have := stay (n - 1 - j)
    rwa [show j + (n - 1 - j) + 1 = n by omega, show j + (n - 1 - j) = n - 1 by omega] at this
  · intro x hx
    have h1 := cnt_full (S := S (n - 1)) (n := n) (by omega) x hx
    rw [h1]
    have := hmono (n - 1) x hx h1
    rwa [show n - 1 + 1 = n by omega] at this
open Classical in
theorem SD.closed {n : Net} (hn : OkNet n) {f : List Int} {a : Int} (h0 : 0 ≤ a) (h1 : a < n.n) {x y : Int} (hx : SD n f a (n.n.toNat - 1) x) (hr : Res1 n f x y) : SD n f a (n.n.toNat - 1) y := by
  have n0 := hn.g.n0
  dsimp only at n0
  have hy := (hr.range hn).2
  have := rounds_rest1 (n := n.n.toNat) (by omega) (fun r x => decide (SD n f a r (x : Int))) (fun r x hx h => by
      simp only [decide_eq_true_eq] at h ⊢
      exact .inl h) (fun r r' h x hx => by
      have h' : ∀ z : Int, 0 ≤ z → z < n.n → (SD n f a r z ↔ SD n f a r' z) := fun z z0 z1 => by
        have := h z.toNat (by omega)
        rw [decide_eq_decide, show ((z.toNat : Nat) : Int) = z by omega] at this
        exact this
      rw [decide_eq_decide]
      constructor
      · rintro (p | ⟨z, p, q⟩)
        · exact .inl ((h' _ (by omega) (by omega)).1 p)
        · have hz := (q.range hn).1
          exact .inr ⟨z, (h' z hz.1 hz.2).1 p, q⟩
      · rintro (p | ⟨z, p, q⟩)
        · exact .inl ((h' _ (by omega) (by omega)).2 p)
        · have hz := (q.range hn).1
          exact .inr ⟨z, (h' z hz.1 hz.2).2 p, q⟩) ⟨a.toNat, by omega, by
      simp only [decide_eq_true_eq]
      show ((a.toNat : Nat) : Int) = a
      omega⟩ y.toNat (by omega)
  rw [decide_eq_decide, show ((y.toNat : Nat) : Int) = y by omega] at this
  refine this.1 ?_
  have hs : SD n f a (n.n.toNat - 1 + 1) y := .inr ⟨x, hx, hr⟩
  rwa [show n.n.toNat - 1 + 1 = n.n.toNat by omega] at hs
open Classical in
/-- from where something waits there is a way back to the source -/
theorem way_back {n : Net} {q : Push} (h : PV n q) {a : Int} (h0 : 0 ≤ a) (h1 : a < n.n) (hs : a ≠ n.s) (he : 0 < exs n q.flow a) : SD n q.flow a (n.n.toNat - 1) n.s := by
  have hn := h.ok
  have n1 := hn.g.n1
  dsimp only at n1
  refine Classical.byContradiction fun hno => ?_
  have key := tot_nodes (L := n.as) (f := q.flow) (fun x => if SD n q.flow a (n.n.toNat - 1) x then 1 else 0) (j := n.as.length) fun k hk => hn.small hk
  have r0 : 0 ≤ tot (fun k => q.flow.getD k 0 * ((if SD n q.flow a (n.n.toNat - 1) (n.as.getD k El.d).f then (1 : Int) else 0) - (if SD n q.flow a (n.n.toNat - 1) (n.as.getD k El.d).t then 1 else 0))) n.as.length := tot_nonneg fun k hk => by
    have hr := h.r k hk
    by_cases p : SD n q.flow a (n.n.toNat - 1) (n.as.getD k El.d).f
    · rw [if_pos p]; split <;> omega
    · rw [if_neg p]
      by_cases z : SD n q.flow a (n.n.toNat - 1) (n.as.getD k El.d).t
      · by_cases pos : 0 < q.flow.getD k 0
        · exact absurd (SD.closed hn h0 h1 z ⟨k, hk, .inr ⟨rfl, rfl, pos⟩⟩) p
        · rw [show q.flow.getD k 0 = 0 by omega, Int.zero_mul]; omega
      · rw [if_neg z]; omega
  have l0 : tot (fun x => (if SD n q.flow a (n.n.toNat - 1) ((x : Nat) : Int) then (1 : Int) else 0) * tot (term n.as q.flow (x : Int)) n.as.length) 12 ≤ tot (fun x => if x = a.toNat then -exs n q.flow a else 0) 12 := tot_le fun x hx => by
    have ex : tot (term n.as q.flow (x : Int)) n.as.length = -exs n q.flow (x : Int) := by unfold exs netAt; omega
    rw [ex]
    by_cases e : x = a.toNat
    · rw [if_pos e, e, show ((a.toNat : Nat) : Int) = a by omega, if_pos (SD.start _)]; omega
    · rw [if_neg e]
      by_cases p : SD n q.flow a (n.n.toNat - 1) (x : Int)
      · have hxr := SD.range hn h0 h1 p
        have hxs : (x : Int) ≠ n.s := fun z => hno (z ▸ p)
        have := h.exc x (by omega) hxs
        rw [if_pos p]; omega
      · rw [if_neg p]; omega
  rw [tot_single (k := a.toNat) (by omega) (fun i _ hi => if_neg hi), if_pos rfl] at l0
  rw [key] at l0
  omega
/-! ### Lift -/
/-- where the least comes from -/
def LowIs (m : Net) (f hh : List Int) (at' : Int) (j : Nat) (low : Int) : Prop := low = 2 * m.n + 1 ∨ (∃ k, k < j ∧ (m.as.getD k El.d).f = at' ∧ f.getD k 0 < (m.as.getD k El.d).c ∧ low = hgt hh (m.as.getD k El.d).t + 1) ∨ ∃ k, k < j ∧ (m.as.getD k El.d).t = at' ∧ 0 < f.getD k 0 ∧ low = hgt hh (m.as.getD k El.d).f + 1
theorem lift_loop {n : Net} {q : Push} (h : PV n q) (at' : Int) : ∃ low, forN (push_Lift_B1 q at') q.net.as.length 0 (2 * n.n + 1) = some low ∧ low ≤ 2 * n.n + 1 ∧
    (∀ k, k < n.as.length → (n.as.getD k El.d).f = at' → q.flow.getD k 0 < (n.as.getD k El.d).c → low ≤ hgt q.height (n.as.getD k El.d).t + 1) ∧ (∀ k, k < n.as.length → (n.as.getD k El.d).t = at' → 0 < q.flow.getD k 0 → low ≤ hgt q.height (n.as.getD k El.d).f + 1) ∧
    LowIs n q.flow q.height at' n.as.length low := by
  obtain ⟨m, f, hh⟩ := q
  obtain rfl : m = n := h.eq
  have hn := h.ok
  have n0 := hn.g.n0; have n1 := hn.g.n1
  dsimp only at n0 n1
  have hlen := h.len; have hhl := h.hl; have hh0 := h.h0
  dsimp only at hlen hhl hh0 ⊢
  obtain ⟨low, e, q1, q2, q3, q4⟩ := forN_inv (f := push_Lift_B1 ⟨m, f, hh⟩ at') (fun j low => low ≤ 2 * m.n + 1 ∧ (∀ k, k < j → (m.as.getD k El.d).f = at' → f.getD k 0 < (m.as.getD k El.d).c → low ≤ hgt hh (m.as.getD k El.d).t + 1) ∧ (∀ k, k < j → (m.as.getD k El.d).t = at' → 0 < f.getD k 0 → low ≤ hgt hh (m.as.getD k El.d).f + 1) ∧
      LowIs m f hh at' j low) (n := m.as.length) (k := 0) (s := 2 * m.n + 1)
    ⟨Int.le_refl _, fun k hk => absurd hk (by omega), fun k hk => absurd hk (by omega), .inl rfl⟩ fun j low _ hj ⟨i1, i2, i3, i4⟩ => by
      have hj' : j < m.as.length := by omega
      have hG := hn.arc hj'
      have f0 := hG.f0; have f1 := hG.f1; have t0 := hG.t0; have t1 := hG.t1
      have hf := hh0 (m.as.getD j El.d).f.toNat (by omega)
      have ht := hh0 (m.as.getD j El.d).t.toNat (by omega)
      unfold push_Lift_B1
      dsimp only
      have first : ∃ l1, ((if (m.as.getD j El.d).f = at' then ck (j < f.length) <| if f.getD j 0 < (m.as.getD j El.d).c then ck (0 ≤ (m.as.getD j El.d).t ∧ (m.as.getD j El.d).t < ((hh.length : Nat) : Int)) <| ck (InI (hh.getD (m.as.getD j El.d).t.toNat 0 + 1)) <| some (min low (hh.getD (m.as.getD j El.d).t.toNat 0 + 1)) else some low else some low) : Option Int) = some l1 ∧ l1 ≤ low ∧ ((m.as.getD j El.d).f = at' → f.getD j 0 < (m.as.getD j El.d).c → l1 ≤ hgt hh (m.as.getD j El.d).t + 1) ∧ (l1 = low ∨ ((m.as.getD j El.d).f = at' ∧ f.getD j 0 < (m.as.getD j El.d).c ∧ l1 = hgt hh (m.as.getD j El.d).t + 1)) := by
        by_cases a1 : (m.as.getD j El.d).f = at'
        · rw [if_pos a1, ck_some (by omega)]
          by_cases a2 : f.getD j 0 < (m.as.getD j El.d).c
          · rw [if_pos a2, ck_some (by omega), ck_some (inI_small (by omega) (by omega))]
            refine ⟨_, rfl, by omega, fun _ _ => ?_, ?_⟩
            · unfold hgt; omega
            · unfold hgt
              rcases Int.le_total low (hh.getD (m.as.getD j El.d).t.toNat 0 + 1) with z | z
              · left; omega
              · right; exact ⟨a1, a2, by omega⟩
          · rw [if_neg a2]; exact ⟨_, rfl, Int.le_refl _, fun _ z => absurd z a2, .inl rfl⟩
        · rw [if_neg a1]; exact ⟨_, rfl, Int.le_refl _, fun z => absurd z a1, .inl rfl⟩
      obtain ⟨l1, e1, p1, p2, p3⟩ := first
      rw [e1, bind_some']
      have second : ∃ l2, ((if (m.as.getD j El.d).t = at' then ck (j < f.length) <| if 0 < f.getD j 0 then ck (0 ≤ (m.as.getD j El.d).f ∧ (m.as.getD j El.d).f < ((hh.length : Nat) : Int)) <| ck (InI (hh.getD (m.as.getD j El.d).f.toNat 0 + 1)) <| some (min l1 (hh.getD (m.as.getD j El.d).f.toNat 0 + 1)) else some l1 else some l1) : Option Int) = some l2 ∧ l2 ≤ l1 ∧ ((m.as.getD j El.d).t = at' → 0 < f.getD j 0 → l2 ≤ hgt hh (m.as.getD j El.d).f + 1) ∧ (l2 = l1 ∨ ((m.as.getD j El.d).t = at' ∧ 0 < f.getD j 0 ∧ l2 = hgt hh (m.as.getD j El.d).f + 1)) := by
        by_cases a1 : (m.as.getD j El.d).t = at'
        · rw [if_pos a1, ck_some (by omega)]
          by_cases a2 : 0 < f.getD j 0
          · rw [if_pos a2, ck_some (by omega), ck_some (inI_small (by omega) (by omega))]
            refine ⟨_, rfl, by omega, fun _ _ => ?_, ?_⟩
            · unfold hgt; omega
            · unfold hgt
              rcases Int.le_total l1 (hh.getD (m.as.getD j El.d).f.toNat 0 + 1) with z | z
              · left; omega
              · right; exact ⟨a1, a2, by omega⟩
          · rw [if_neg a2]; exact ⟨_, rfl, Int.le_refl _, fun _ z => absurd z a2, .inl rfl⟩
        · rw [if_neg a1]; exact ⟨_, rfl, Int.le_refl _, fun z => absurd z a1, .inl rfl⟩
      obtain ⟨l2, e2, p4, p5, p6⟩ := second
      rw [e2]
      refine ⟨_, rfl, by omega, fun k hk b1 b2 => ?_, fun k hk b1 b2 => ?_, ?_⟩
      · by_cases e : k = j
        · subst e; have := p2 b1 b2; omega
        · have := i2 k (by omega) b1 b2; omega
      · by_cases e : k = j
        · subst e; exact p5 b1 b2
        · have := i3 k (by omega) b1 b2; omega
      · rcases p6 with z | ⟨z1, z2, z3⟩
        · rcases p3 with y | ⟨y1, y2, y3⟩
          · rw [z, y]
            rcases i4 with i4 | ⟨k, hk, i4⟩ | ⟨k, hk, i4⟩
            · exact .inl i4
            · exact .inr (.inl ⟨k, by omega, i4⟩)
            · exact .inr (.inr ⟨k, by omega, i4⟩)
          · exact .inr (.inl ⟨j, by omega, y1, y2, by omega⟩)
        · exact .inr (.inr ⟨j, by omega, z1, z2, z3⟩)
  rw [Nat.zero_add] at q2 q3 q4
  exact ⟨low, e, q1, q2, q3, q4⟩
theorem lift_ok {n : Net} {q : Push} (h : PV n q) (at' : Int) : (∃ low, push_Lift_F q at' = some (⟨q.net, q.flow, q.height.set at'.toNat low⟩, 0) ∧ PV n ⟨q.net, q.flow, q.height.set at'.toNat low⟩ ∧ q.height.getD at'.toNat 0 < low ∧ (0 ≤ at' ∧ at' < n.n) ∧ low < 2 * n.n) ∨ ∃ e, e ≠ 0 ∧ push_Lift_F q at' = some (⟨⟨0, 0, 0, []⟩, [], []⟩, e) := by
  have hchk := h.check
  have hcop := copied_ok h
  have hbusy := fun x h0 h1 => busy_ok h (x := x) h0 h1
  obtain ⟨low, el, l1, l2, l3, _⟩ := lift_loop h at'
  have hback := fun x h0 h1 hs he => way_back h (a := x) h0 h1 hs he
  obtain ⟨m, f, hh⟩ := q
  obtain rfl : m = n := h.eq
  have hn := h.ok
  have n0 := hn.g.n0; have n1 := hn.g.n1
  dsimp only at n0 n1
  have hlen := h.len; have hhl := h.hl; have hr := h.r; have hh0 := h.h0
  dsimp only at hlen hhl hr hh0 el l2 l3 hback ⊢
  unfold push_Lift_F
  dsimp only
  rw [hchk, bind_some', if_neg (by decide)]
  by_cases k0 : at' < 0
  · rw [if_pos k0]; exact .inr ⟨4, by decide, rfl⟩
  by_cases k1 : m.n ≤ at'
  · rw [if_neg k0, if_pos k1]; exact .inr ⟨4, by decide, rfl⟩
  have hb : push_busy_F ⟨⟨m.n, m.s, m.t, m.as⟩, f, hh⟩ at' = _ := hbusy at' (by omega) (by omega)
  rw [if_neg k0, if_neg k1, hb, bind_some']
  by_cases q2 : at' ≠ m.s ∧ at' ≠ m.t ∧ 0 < exs m f at'
  · have hat := hh0 at'.toNat (by omega)
    rw [decide_eq_true q2, if_neg (by decide), ck_some (inI_small (by omega) (by omega)), ck_some (inI_small (by omega) (by omega)), el, bind_some', ck_some (by omega)]
    by_cases k2 : low ≤ hh.getD at'.toNat 0
    · rw [if_pos k2]; exact .inr ⟨9, by decide, rfl⟩
    by_cases k3 : 2 * m.n < low
    · rw [if_neg k2, if_pos k3]; exact .inr ⟨9, by decide, rfl⟩
    have hcop' : push_copied_F ⟨⟨m.n, m.s, m.t, m.as⟩, f, hh⟩ = some ⟨m, f, hh⟩ := hcop
    rw [if_neg k2, if_neg k3, hcop', bind_some']
    dsimp only
    rw [ck_some (by omega)]
    have hset : ∀ x : Int, 0 ≤ x → hgt (hh.set at'.toNat low) x = if x = at' then low else hgt hh x := fun x hx => by
      unfold hgt
      rw [getD_set']
      by_cases e : x = at'
      · rw [if_pos ⟨by omega, by omega⟩, if_pos e]
      · rw [if_neg (fun z => e (by omega)), if_neg e]
    have hPV : PV m ⟨m, f, hh.set at'.toNat low⟩ := ⟨hn, rfl, hlen, by simp [hhl], hr, h.exc, fun x hx => by
        have := hh0 x hx
        dsimp only
        rw [getD_set']
        by_cases e : x = at'.toNat
        · rw [if_pos ⟨e, by omega⟩]; omega
        · rw [if_neg (fun z => e z.1)]; exact this, by
        dsimp only
        rw [hset _ hn.s0, if_neg (fun z => q2.1 z.symm)]; exact h.hs, by
        dsimp only
        rw [hset _ hn.t0, if_neg (fun z => q2.2.1 z.symm)]; exact h.ht, fun k hk hlt => by
        have hG := hn.arc hk
        have b := h.fw k hk hlt
        have c := l2 k hk
        dsimp only at b hlt ⊢
        rw [hset _ hG.f0, hset _ hG.t0]
        by_cases e1 : (m.as.getD k El.d).f = at'
        · have := c e1 hlt
          rw [if_pos e1]
          by_cases e2 : (m.as.getD k El.d).t = at'
          · rw [if_pos e2]; omega
          · rw [if_neg e2]; exact this
        · rw [if_neg e1]
          by_cases e2 : (m.as.getD k El.d).t = at'
          · rw [if_pos e2]
            rw [e2] at b
            unfold hgt at b ⊢
            omega
          · rw [if_neg e2]; exact b, fun k hk hp => by
        have hG := hn.arc hk
        have b := h.bw k hk hp
        have c := l3 k hk
        dsimp only at b hp ⊢
        rw [hset _ hG.f0, hset _ hG.t0]
        by_cases e1 : (m.as.getD k El.d).t = at'
        · have := c e1 hp
          rw [if_pos e1]
          by_cases e2 : (m.as.getD k El.d).f = at'
          · rw [if_pos e2]; omega
          · rw [if_neg e2]; exact this
        · rw [if_neg e1]
          by_cases e2 : (m.as.getD k El.d).f = at'
          · rw [if_pos e2]
            rw [e2] at b
            unfold hgt at b ⊢
            omega
          · rw [if_neg e2]; exact b⟩
    left
    refine ⟨low, rfl, hPV, by omega, by omega, ?_⟩
    have hw := hback at' (by omega) (by omega) q2.1 q2.2.2
    have hH := SD.height hPV hw
    have e1 := hPV.hs
    dsimp only at hH e1
    rw [e1, hset _ (by omega), if_pos rfl] at hH
    omega
  · rw [decide_eq_false q2, if_pos (by decide)]; exact .inr ⟨9, by decide, rfl⟩
end Go.Proofs.Ytgkcmjmofcekmaa
