/- Package need: circulations with lower bounds. -/
import Derived.Test.YtdklbcgfjleagaaPspread
import Derived.Test.YtdklbcgfjleagaaGneed
namespace Go.Proofs.Ytdklbcgfjleagaa
open Go Go.Proofs.Ytdklbcgfjleagaa.Sx
set_option linter.unusedVariables false
set_option linter.unusedSimpArgs false
/-! ### sums over a list of arcs -/
def lsA (g : Arc → Int) : List Arc → Int
  | [] => 0
  | a :: l => g a + lsA g l
theorem lsA_append (g : Arc → Int) : ∀ l m : List Arc, lsA g (l ++ m) = lsA g l + lsA g m
  | [], m => by simp [lsA]
  | a :: l, m => by rw [List.cons_append, lsA, lsA, lsA_append g l m]; omega
theorem tot_cons' (g : Nat → Int) (n : Nat) : tot g (n + 1) = g 0 + tot (fun i => g (i + 1)) n := by
  rw [Nat.add_comm, tot_split]
  simp only [tot]
  rw [tot_congr (f := fun i => g (1 + i)) (g := fun i => g (i + 1)) fun i _ => by rw [Nat.add_comm]]
  omega
theorem tot_lsA (g : Arc → Int) : ∀ l : List Arc, tot (fun k => g (l.getD k El.d)) l.length = lsA g l
  | [] => rfl
  | a :: l => by
    rw [List.length_cons, tot_cons', lsA, ← tot_lsA g l]
    rfl
def crossA (S : Int → Int) (a : Arc) : Int := if S a.f = 1 ∧ S a.t = 0 then a.c else 0
theorem capS_lsA (L : List Arc) (S : Int → Int) : capS L S = lsA (crossA S) L := tot_lsA (crossA S) L
theorem capS_append (L E : List Arc) (S : Int → Int) : capS (L ++ E) S = capS L S + capS E S := by rw [capS_lsA, capS_lsA, capS_lsA, lsA_append]
/-- what goes out of z if each arc takes all it can -/
def fullA (z : Int) (a : Arc) : Int := (if a.f = z then a.c else 0) - (if a.t = z then a.c else 0)
theorem netAt_full {L E : List Arc} {f : List Int} (h : ∀ i, i < E.length → f.getD (L.length + i) 0 = (E.getD i El.d).c) (z : Int) : netAt (L ++ E) f z = netAt L f z + lsA (fullA z) E := by
  unfold netAt
  rw [List.length_append, tot_split]
  congr 1
  · refine tot_congr fun k hk => ?_
    unfold term
    rw [show (L ++ E).getD k El.d = L.getD k El.d by simp only [List.getD_eq_getElem?_getD, List.getElem?_append_left hk]]
  · rw [← tot_lsA]
    refine tot_congr fun i hi => ?_
    unfold term fullA
    rw [show (L ++ E).getD (L.length + i) El.d = E.getD i El.d by simp only [List.getD_eq_getElem?_getD]; rw [List.getElem?_append_right (by omega), Nat.add_sub_cancel_left], h i hi]
/-! ### needs -/
structure NeedOk (n : Int) (l : List Need) : Prop where
  n0 : 1 ≤ n
  n1 : n ≤ 10
  len : l.length ≤ 30
  arc : ∀ a, a ∈ l → (0 ≤ a.f ∧ a.f < n ∧ 0 ≤ a.t ∧ a.t < n) ∧ 0 ≤ a.low ∧ a.low ≤ a.cap ∧ a.cap ≤ 333
def arcN (a : Need) : Arc := ⟨a.f, a.t, a.cap - a.low⟩
def arcsN (l : List Need) : List Arc := l.map arcN
def lows (l : List Need) : List Int := l.map fun a => a.low
theorem arcsN_getD (l : List Need) (k : Nat) : (arcsN l).getD k El.d = arcN (l.getD k El.d) := by
  unfold arcsN
  simp only [List.getD_eq_getElem?_getD, List.getElem?_map]
  cases l[k]? <;> rfl
theorem lows_getD (l : List Need) (k : Nat) : (lows l).getD k 0 = (l.getD k El.d).low := by
  unfold lows
  simp only [List.getD_eq_getElem?_getD, List.getElem?_map]
  cases l[k]? <;> rfl
theorem term_N (l : List Need) (g : List Int) (x : Int) (k : Nat) : term (arcsN l) g x k = (if (l.getD k El.d).f = x then g.getD k 0 else 0) - (if (l.getD k El.d).t = x then g.getD k 0 else 0) := by
  unfold term; rw [arcsN_getD]; rfl
theorem arcsN_len (l : List Need) : (arcsN l).length = l.length := by simp [arcsN]
theorem needCheck_loop (n : Int) (l : List Need) : ∃ q, forC (need_Check_B1 n l) l.length 0 () = some q ∧ (match q with | .go _ => ∀ a, a ∈ l → (0 ≤ a.f ∧ a.f < n ∧ 0 ≤ a.t ∧ a.t < n) ∧ 0 ≤ a.low ∧ a.low ≤ a.cap ∧ a.cap ≤ 333 | .ret r => (r = 4 ∨ r = 1) ∧ ¬ ∀ a, a ∈ l → (0 ≤ a.f ∧ a.f < n ∧ 0 ≤ a.t ∧ a.t < n) ∧ 0 ≤ a.low ∧ a.low ≤ a.cap ∧ a.cap ≤ 333) := by
  refine forC_or (f := need_Check_B1 n l) (fun j _ => ∀ k, k < j → (0 ≤ (l.getD k El.d).f ∧ (l.getD k El.d).f < n ∧ 0 ≤ (l.getD k El.d).t ∧ (l.getD k El.d).t < n) ∧ 0 ≤ (l.getD k El.d).low ∧ (l.getD k El.d).low ≤ (l.getD k El.d).cap ∧ (l.getD k El.d).cap ≤ 333)
    (fun q => match q with | .go _ => ∀ a, a ∈ l → (0 ≤ a.f ∧ a.f < n ∧ 0 ≤ a.t ∧ a.t < n) ∧ 0 ≤ a.low ∧ a.low ≤ a.cap ∧ a.cap ≤ 333 | .ret r => (r = 4 ∨ r = 1) ∧ ¬ ∀ a, a ∈ l → (0 ≤ a.f ∧ a.f < n ∧ 0 ≤ a.t ∧ a.t < n) ∧ 0 ≤ a.low ∧ a.low ≤ a.cap ∧ a.cap ≤ 333)
    (fun k hk => absurd hk (by omega)) (fun j _ _ hj i1 => ?_) (fun _ i1 a ha => by
      obtain ⟨k, hk, e⟩ := getD_of_mem (d := El.d) ha
      rw [← e]; exact i1 k (by omega))
  have hm := mem_getD (d := El.d) (show j < l.length by omega)
  unfold need_Check_B1
  by_cases h1 : (l.getD j El.d).f < 0
  · rw [if_pos h1]; exact .inr (.inr ⟨4, rfl, .inl rfl, fun h => by have := h _ hm; omega⟩)
  by_cases h2 : n ≤ (l.getD j El.d).f
  · rw [if_neg h1, if_pos h2]; exact .inr (.inr ⟨4, rfl, .inl rfl, fun h => by have := h _ hm; omega⟩)
  by_cases h3 : (l.getD j El.d).t < 0
  · rw [if_neg h1, if_neg h2, if_pos h3]; exact .inr (.inr ⟨4, rfl, .inl rfl, fun h => by have := h _ hm; omega⟩)
  by_cases h4 : n ≤ (l.getD j El.d).t
  · rw [if_neg h1, if_neg h2, if_neg h3, if_pos h4]; exact .inr (.inr ⟨4, rfl, .inl rfl, fun h => by have := h _ hm; omega⟩)
  by_cases h5 : (l.getD j El.d).low < 0
  · rw [if_neg h1, if_neg h2, if_neg h3, if_neg h4, if_pos h5]; exact .inr (.inr ⟨1, rfl, .inr rfl, fun h => by have := h _ hm; omega⟩)
  by_cases h6 : (l.getD j El.d).cap < (l.getD j El.d).low
  · rw [if_neg h1, if_neg h2, if_neg h3, if_neg h4, if_neg h5, if_pos h6]; exact .inr (.inr ⟨1, rfl, .inr rfl, fun h => by have := h _ hm; omega⟩)
  by_cases h7 : 333 < (l.getD j El.d).cap
  · rw [if_neg h1, if_neg h2, if_neg h3, if_neg h4, if_neg h5, if_neg h6, if_pos h7]; exact .inr (.inr ⟨1, rfl, .inr rfl, fun h => by have := h _ hm; omega⟩)
  · rw [if_neg h1, if_neg h2, if_neg h3, if_neg h4, if_neg h5, if_neg h6, if_neg h7]
    refine .inl ⟨(), rfl, fun k hk => ?_⟩
    by_cases e : k = j
    · subst e; omega
    · exact i1 k (by omega)
theorem needCheck_cases (n : Int) (l : List Need) : (NeedOk n l ∧ need_Check_F n l = some 0) ∨ (¬ NeedOk n l ∧ ∃ e, e ≠ 0 ∧ e ≠ 5 ∧ need_Check_F n l = some e) := by
  unfold need_Check_F
  by_cases h1 : n < 1
  · rw [if_pos h1]; exact .inr ⟨fun h => by have := h.n0; omega, 1, by decide, by decide, rfl⟩
  by_cases h2 : 10 < n
  · rw [if_neg h1, if_pos h2]; exact .inr ⟨fun h => by have := h.n1; omega, 1, by decide, by decide, rfl⟩
  by_cases h3 : 30 < ((l.length : Nat) : Int)
  · rw [if_neg h1, if_neg h2, if_pos h3]; exact .inr ⟨fun h => by have := h.len; omega, 2, by decide, by decide, rfl⟩
  rw [if_neg h1, if_neg h2, if_neg h3]
  obtain ⟨q, e, hq⟩ := needCheck_loop n l
  rw [e, bind_some']
  match q, hq with
  | .go _, hq => exact .inl ⟨⟨by omega, by omega, by omega, hq⟩, rfl⟩
  | .ret r, hq =>
    obtain ⟨hr, hq⟩ := hq
    exact .inr ⟨fun h => hq h.arc, r, by omega, by omega, rfl⟩
theorem NeedOk.at {n : Int} {l : List Need} (h : NeedOk n l) {k : Nat} (hk : k < l.length) : (0 ≤ (l.getD k El.d).f ∧ (l.getD k El.d).f < n ∧ 0 ≤ (l.getD k El.d).t ∧ (l.getD k El.d).t < n) ∧ 0 ≤ (l.getD k El.d).low ∧ (l.getD k El.d).low ≤ (l.getD k El.d).cap ∧ (l.getD k El.d).cap ≤ 333 := h.arc _ (mem_getD hk)
/-- what must come to a node, less what must go -/
def come (l : List Need) (x : Int) : Int := -netAt (arcsN l) (lows l) x
theorem come_term {n : Int} {l : List Need} (h : NeedOk n l) (x : Int) {k : Nat} (hk : k < l.length) : -333 ≤ term (arcsN l) (lows l) x k ∧ term (arcsN l) (lows l) x k ≤ 333 := by
  have := h.at hk
  rw [term_N, lows_getD]
  split <;> split <;> omega
theorem come_small {n : Int} {l : List Need} (h : NeedOk n l) (x : Int) : -9990 ≤ come l x ∧ come l x ≤ 9990 := by
  have hl := h.len
  have := tot_abs (f := term (arcsN l) (lows l) x) (M := 333) (n := (arcsN l).length) fun i hi => come_term h x (by rw [arcsN_len] at hi; exact hi)
  unfold come netAt
  rw [arcsN_len] at this ⊢
  omega
theorem net_loop1 {n : Int} {l : List Need} (h : NeedOk n l) : ∃ c, forN (need_net_B1 l) l.length 0 ([], List.replicate n.toNat (0 : Int)) = some (arcsN l, c) ∧ c.length = n.toNat ∧ ∀ x : Nat, x < n.toNat → c.getD x 0 = come l x := by
  have n0 := h.n0; have n1 := h.n1; have hlen := h.len
  obtain ⟨s, e, q1, q2, q3⟩ := forN_inv (f := need_net_B1 l) (fun j s => s.1 = arcsN (l.take j) ∧ s.2.length = n.toNat ∧ ∀ x : Nat, x < n.toNat → s.2.getD x 0 = -tot (term (arcsN l) (lows l) x) j) (n := l.length) (k := 0) (s := ([], List.replicate n.toNat (0 : Int)))
    ⟨rfl, by simp, fun x hx => by simp [tot, hx]⟩ fun j s _ hj ⟨i1, i2, i3⟩ => by
      obtain ⟨L, c⟩ := s
      dsimp only at i1 i2 i3
      have hj' : j < l.length := by omega
      obtain ⟨⟨f0, f1, t0, t1⟩, lo0, lo1, ca⟩ := h.at hj'
      have hL : L.length ≤ 30 := by rw [i1, arcsN_len, List.length_take]; omega
      have hb : ∀ x : Nat, -9990 ≤ tot (term (arcsN l) (lows l) x) j ∧ tot (term (arcsN l) (lows l) x) j ≤ 9990 := fun x => by
        have := tot_abs (f := term (arcsN l) (lows l) x) (M := 333) (n := j) fun i hi => come_term h x (by omega)
        omega
      have et := i3 (l.getD j El.d).t.toNat (by omega)
      have ef := i3 (l.getD j El.d).f.toNat (by omega)
      have bt := hb (l.getD j El.d).t.toNat
      have bf := hb (l.getD j El.d).f.toNat
      have g1 : ∀ x : Nat, x < n.toNat → (c.set (l.getD j El.d).t.toNat (c.getD (l.getD j El.d).t.toNat 0 + (l.getD j El.d).low)).getD x 0 = -tot (term (arcsN l) (lows l) x) j + if (l.getD j El.d).t = (x : Int) then (l.getD j El.d).low else 0 := fun x hx => by
        rw [getD_set']
        by_cases q : x = (l.getD j El.d).t.toNat
        · rw [if_pos ⟨q, by omega⟩, if_pos (by omega), et, q]
        · rw [if_neg (fun z => q z.1), if_neg (by omega), i3 x hx]; omega
      have eg := g1 (l.getD j El.d).f.toNat (by omega)
      unfold need_net_B1
      dsimp only
      rw [ck_some (inI_small (by omega) (by omega)), ck_some (by omega), ck_some (by omega), ck_some (inI_small (by omega) (by omega)), ck_some (by omega), ck_some (inI_small (by split at eg <;> omega) (by split at eg <;> omega))]
      refine ⟨_, rfl, ?_, by simp [i2], fun x hx => ?_⟩
      · dsimp only
        have ht : l.take (j + 1) = l.take j ++ [l.getD j El.d] := by
          rw [List.take_succ_eq_append_getElem hj']; simp [List.getD_eq_getElem?_getD, hj']
        rw [ht, i1]
        unfold arcsN
        rw [List.map_append]; rfl
      · dsimp only
        rw [getD_set', tot, term_N, lows_getD]
        by_cases q : x = (l.getD j El.d).f.toNat
        · rw [if_pos ⟨q, by rw [List.length_set]; omega⟩, eg, if_pos (show (l.getD j El.d).f = (x : Int) by omega), q]
          rw [show (((l.getD j El.d).f.toNat : Nat) : Int) = (l.getD j El.d).f by omega]
          omega
        · rw [if_neg (fun z => q z.1), g1 x hx, if_neg (show ¬ (l.getD j El.d).f = (x : Int) by omega)]
          omega
  obtain ⟨L, c⟩ := s
  rw [Nat.zero_add] at q1 q3
  rw [List.take_of_length_le (Nat.le_refl _)] at q1
  dsimp only at q1 q2 q3
  subst q1
  refine ⟨c, e, q2, fun x hx => ?_⟩
  rw [q3 x hx]
  unfold come netAt
  rw [arcsN_len]
/-- the arcs of the source and the sink -/
def endsN (n : Int) (c : Nat → Int) : Nat → List Arc
  | 0 => []
  | j + 1 => endsN n c j ++ ((if 0 < c j then [(⟨n, (j : Int), c j⟩ : Arc)] else []) ++ (if c j < 0 then [(⟨(j : Int), n + 1, -c j⟩ : Arc)] else []))
def pos (x : Int) : Int := if 0 < x then x else 0
def sumN (c : Nat → Int) (j : Nat) : Int := tot (fun x => pos (c x)) j
theorem endsN_len (n : Int) (c : Nat → Int) : ∀ j, (endsN n c j).length ≤ j
  | 0 => Nat.le_refl _
  | j + 1 => by
    have := endsN_len n c j
    simp only [endsN, List.length_append]
    by_cases h : 0 < c j
    · rw [if_pos h, if_neg (by omega)]; simp; omega
    · rw [if_neg h]; split <;> simp <;> omega
theorem net_loop2 {n : Int} {l : List Need} (h : NeedOk n l) {c : List Int} (hc : c.length = n.toNat) (hv : ∀ x : Nat, x < n.toNat → c.getD x 0 = come l x) : forN (need_net_B2 n c) c.length 0 (arcsN l, 0) = some (arcsN l ++ endsN n (fun x => come l x) n.toNat, sumN (fun x => come l x) n.toNat) := by
  have n0 := h.n0; have n1 := h.n1; have hlen := h.len
  obtain ⟨s, e, q⟩ := forN_inv (f := need_net_B2 n c) (fun j s => s = (arcsN l ++ endsN n (fun x => come l x) j, sumN (fun x => come l x) j)) (n := c.length) (k := 0) (s := (arcsN l, 0)) (by simp [endsN, sumN, tot]) fun j s _ hj hs => by
    subst hs
    have hj' : j < n.toNat := by omega
    have ec := hv j hj'
    have hb := come_small h (j : Int)
    have hsm := tot_abs (f := fun x => pos (come l (x : Int))) (M := 9990) (n := j) fun i hi => by
      have := come_small h (i : Int)
      unfold pos; split <;> omega
    have hE := endsN_len n (fun x => come l x) j
    have hsum : sumN (fun x => come l x) (j + 1) = sumN (fun x => come l x) j + pos (come l (j : Int)) := rfl
    have hs0 : sumN (fun x => come l x) j = tot (fun x => pos (come l (x : Int))) j := rfl
    unfold need_net_B2
    dsimp only
    rw [ec]
    refine ⟨_, ?_, rfl⟩
    by_cases h1 : 0 < come l (j : Int)
    · rw [if_pos h1, ck_some (inI_small (by omega) (by omega)), ck_some (by rw [List.length_append, arcsN_len]; omega), bind_some']
      dsimp only
      rw [if_neg (by omega), hsum]
      simp only [endsN, pos]
      rw [if_pos h1, if_pos h1, if_neg (by omega), List.append_nil, List.append_assoc]
    · rw [if_neg h1, bind_some']
      dsimp only
      by_cases h2 : come l (j : Int) < 0
      · rw [if_pos h2, ck_some (inI_small (by omega) (by omega)), ck_some (by rw [List.length_append, arcsN_len]; omega), hsum]
        simp only [endsN, pos]
        rw [if_neg h1, if_neg h1, if_pos h2, List.nil_append, List.append_assoc, Int.add_zero]
      · rw [if_neg h2, hsum]
        simp only [endsN, pos]
        rw [if_neg h1, if_neg h1, if_neg h2, List.nil_append, List.append_nil, Int.add_zero]
  rw [e, q, Nat.zero_add, hc]
def netN (n : Int) (l : List Need) : Net := ⟨n + 2, n, n + 1, arcsN l ++ endsN n (fun x => come l x) n.toNat⟩
def sumOf (n : Int) (l : List Need) : Int := sumN (fun x => come l x) n.toNat
theorem net_ok {n : Int} {l : List Need} (h : NeedOk n l) : need_net_F n l = some (netN n l, sumOf n l) := by
  have n0 := h.n0; have n1 := h.n1
  obtain ⟨c, e, hc, hv⟩ := net_loop1 h
  unfold need_net_F
  rw [ck_some (inI_small (by omega) (by omega)), ck_some (inI_small (by omega) (by omega)), ck_some (by omega), e, bind_some']
  dsimp only
  rw [net_loop2 h hc hv, bind_some']
  rfl
theorem endsN_mem {n : Int} {c : Nat → Int} : ∀ {j : Nat} {a : Arc}, a ∈ endsN n c j → ∃ x : Nat, x < j ∧ ((0 < c x ∧ a = ⟨n, (x : Int), c x⟩) ∨ (c x < 0 ∧ a = ⟨(x : Int), n + 1, -c x⟩))
  | 0, a, h => absurd h (by simp [endsN])
  | j + 1, a, h => by
    simp only [endsN, List.mem_append] at h
    rcases h with h | h | h
    · obtain ⟨x, hx, hh⟩ := endsN_mem h
      exact ⟨x, by omega, hh⟩
    · by_cases q : 0 < c j
      · rw [if_pos q] at h
        exact ⟨j, by omega, .inl ⟨q, List.mem_singleton.1 h⟩⟩
      · rw [if_neg q] at h; exact absurd h (by simp)
    · by_cases q : c j < 0
      · rw [if_pos q] at h
        exact ⟨j, by omega, .inr ⟨q, List.mem_singleton.1 h⟩⟩
      · rw [if_neg q] at h; exact absurd h (by simp)
theorem netN_ok {n : Int} {l : List Need} (h : NeedOk n l) : OkNet (netN n l) := by
  have n0 := h.n0; have n1 := h.n1; have hlen := h.len
  have hE := endsN_len n (fun x => come l x) n.toNat
  refine ⟨⟨by simp only [netN]; omega, by simp only [netN]; omega, by simp only [netN]; rw [List.length_append, arcsN_len]; omega, fun a ha => ?_⟩, by simp only [netN]; omega, by simp only [netN]; omega, by simp only [netN]; omega, by simp only [netN]; omega, by simp only [netN]; omega⟩
  simp only [netN] at ha ⊢
  rcases List.mem_append.1 ha with ha | ha
  · obtain ⟨b, hb, rfl⟩ := List.mem_map.1 ha
    have := h.arc b hb
    exact ⟨by simp only [arcN]; omega, by simp only [arcN]; omega, by simp only [arcN]; omega, by simp only [arcN]; omega, by simp only [arcN]; omega, by simp only [arcN]; omega⟩
  · obtain ⟨x, hx, ⟨hc, rfl⟩ | ⟨hc, rfl⟩⟩ := endsN_mem ha
    · have := come_small h (x : Int)
      exact ⟨by dsimp only; omega, by dsimp only; omega, by dsimp only; omega, by dsimp only; omega, by dsimp only at hc ⊢; omega, by dsimp only at hc ⊢; omega⟩
    · have := come_small h (x : Int)
      exact ⟨by dsimp only; omega, by dsimp only; omega, by dsimp only; omega, by dsimp only; omega, by dsimp only at hc ⊢; omega, by dsimp only at hc ⊢; omega⟩
/-! ### cuts of the net -/
theorem cap_ends {n : Int} {c : Nat → Int} {S : Int → Int} (hs : S n = 1) (ht : S (n + 1) = 0) (hb : ∀ x, S x = 0 ∨ S x = 1) : ∀ j : Nat, lsA (crossA S) (endsN n c j) = sumN c j - tot (fun x => S (x : Int) * c x) j
  | 0 => rfl
  | j + 1 => by
    have ih := cap_ends (c := c) hs ht hb j
    have e1 : sumN c (j + 1) = sumN c j + pos (c j) := rfl
    rw [endsN, lsA_append, ih, e1, tot]
    have e2 : lsA (crossA S) ((if 0 < c j then [(⟨n, (j : Int), c j⟩ : Arc)] else []) ++ (if c j < 0 then [(⟨(j : Int), n + 1, -c j⟩ : Arc)] else [])) = pos (c j) - S (j : Int) * c j := by
      unfold pos
      by_cases h1 : 0 < c j
      · rw [if_pos h1, if_neg (by omega), if_pos h1, List.append_nil]
        simp only [lsA, crossA, hs]
        rcases hb (j : Int) with e | e <;> rw [e] <;> simp
      · rw [if_neg h1, if_neg h1]
        by_cases h2 : c j < 0
        · rw [if_pos h2, List.nil_append]
          simp only [lsA, crossA, ht]
          rcases hb (j : Int) with e | e <;> rw [e] <;> simp
        · rw [if_neg h2, List.nil_append]
          have : c j = 0 := by omega
          simp [lsA, this]
    rw [e2]; omega
/-- what leads out of a set of nodes may take, less what must lead into it -/
def crossN (S : Int → Int) (a : Need) : Int := if S a.f = 1 ∧ S a.t = 0 then a.cap else if S a.f = 0 ∧ S a.t = 1 then -a.low else 0
theorem crossN_same {S : Int → Int} {a : Need} (h : S a.f = S a.t) : crossN S a = 0 := by
  unfold crossN
  rw [h, if_neg (by omega), if_neg (by omega)]
theorem tot_ext {f : Nat → Int} {m n : Nat} (hmn : m ≤ n) (h : ∀ i, m ≤ i → i < n → f i = 0) : tot f n = tot f m := by
  obtain ⟨d, rfl⟩ := Nat.exists_eq_add_of_le hmn
  rw [tot_split, tot_zero (f := fun i => f (m + i)) fun i hi => h _ (by omega) (by omega)]; omega
theorem come_sum {n : Int} {l : List Need} (h : NeedOk n l) (S : Int → Int) : tot (fun x => S (x : Int) * come l (x : Int)) n.toNat = tot (fun k => (l.getD k El.d).low * (S (l.getD k El.d).t - S (l.getD k El.d).f)) l.length := by
  have n0 := h.n0; have n1 := h.n1
  have e1 : tot (fun x => S (x : Int) * come l (x : Int)) n.toNat = tot (fun x => S (x : Int) * come l (x : Int)) 12 := by
    symm
    refine tot_ext (by omega) fun i hi _ => ?_
    have : come l (i : Int) = 0 := by
      unfold come netAt
      rw [tot_zero fun k hk => by
        have := h.at (k := k) (by rw [arcsN_len] at hk; exact hk)
        rw [term_N]
        rw [if_neg (by omega), if_neg (by omega)]; rfl]
      rfl
    rw [this, Int.mul_zero]
  have e2 := tot_nodes (L := arcsN l) (f := lows l) S (j := l.length) fun k hk => by
    have := h.at hk
    rw [arcsN_getD]
    simp only [arcN]
    omega
  have e3 : tot (fun x => S (x : Int) * come l (x : Int)) 12 = tot (fun x => 0 - S (x : Int) * tot (term (arcsN l) (lows l) (x : Int)) l.length) 12 := tot_congr fun x _ => by
    unfold come netAt
    rw [arcsN_len, Int.mul_neg]; omega
  rw [e1, e3, tot_sub, tot_zero (fun _ _ => rfl), e2, Int.zero_sub]
  have e4 : tot (fun k => (l.getD k El.d).low * (S (l.getD k El.d).t - S (l.getD k El.d).f)) l.length = tot (fun k => 0 - (lows l).getD k 0 * (S ((arcsN l).getD k El.d).f - S ((arcsN l).getD k El.d).t)) l.length := tot_congr fun k _ => by
    rw [lows_getD, arcsN_getD]
    simp only [arcN]
    rw [Int.zero_sub, ← Int.mul_neg]
    congr 1; omega
  rw [e4, tot_sub, tot_zero (fun _ _ => rfl), Int.zero_sub]
theorem cross_split {p q c lo : Int} (hp : p = 0 ∨ p = 1) (hq : q = 0 ∨ q = 1) : (if p = 1 ∧ q = 0 then c - lo else 0) = (if p = 1 ∧ q = 0 then c else if p = 0 ∧ q = 1 then -lo else 0) + lo * (q - p) := by
  rcases hp with rfl | rfl <;> rcases hq with rfl | rfl <;> simp <;> omega
theorem cap_netN {n : Int} {l : List Need} (h : NeedOk n l) {S : Int → Int} (hs : S n = 1) (ht : S (n + 1) = 0) (hb : ∀ x, S x = 0 ∨ S x = 1) : capS (netN n l).as S = sumOf n l + tot (fun k => crossN S (l.getD k El.d)) l.length := by
  unfold netN
  dsimp only
  rw [capS_append, capS_lsA (endsN _ _ _), cap_ends hs ht hb, come_sum h S]
  unfold sumOf
  have e : capS (arcsN l) S = tot (fun k => crossN S (l.getD k El.d) + (l.getD k El.d).low * (S (l.getD k El.d).t - S (l.getD k El.d).f)) l.length := by
    unfold capS
    rw [arcsN_len]
    refine tot_congr fun k _ => ?_
    unfold cross crossN
    rw [arcsN_getD]
    exact cross_split (hb _) (hb _)
  rw [e, tot_add]; omega
theorem cutN_low {n : Int} {l : List Need} (h : NeedOk n l) : Cut (netN n l) (fun x => if x = n then 1 else 0) ∧ capS (netN n l).as (fun x => if x = n then 1 else 0) = sumOf n l := by
  have hb : ∀ x : Int, (if x = n then (1 : Int) else 0) = 0 ∨ (if x = n then (1 : Int) else 0) = 1 := fun x => by split <;> simp
  refine ⟨⟨if_pos rfl, if_neg (by simp only [netN]; omega), hb⟩, ?_⟩
  rw [cap_netN h (S := fun x => if x = n then 1 else 0) (if_pos rfl) (if_neg (by omega)) hb, tot_zero fun k hk => by
    have := h.at hk
    refine crossN_same ?_
    rw [if_neg (show ¬ (l.getD k El.d).f = n by omega), if_neg (show ¬ (l.getD k El.d).t = n by omega)]]
  omega
theorem cutN_high {n : Int} {l : List Need} (h : NeedOk n l) : Cut (netN n l) (fun x => if x = n + 1 then 0 else 1) ∧ capS (netN n l).as (fun x => if x = n + 1 then 0 else 1) = sumOf n l := by
  have hb : ∀ x : Int, (if x = n + 1 then (0 : Int) else 1) = 0 ∨ (if x = n + 1 then (0 : Int) else 1) = 1 := fun x => by split <;> simp
  refine ⟨⟨if_neg (by simp only [netN]; omega), if_pos rfl, hb⟩, ?_⟩
  rw [cap_netN h (S := fun x => if x = n + 1 then 0 else 1) (if_neg (by omega)) (if_pos rfl) hb, tot_zero fun k hk => by
    have := h.at hk
    refine crossN_same ?_
    rw [if_neg (show ¬ (l.getD k El.d).f = n + 1 by omega), if_neg (show ¬ (l.getD k El.d).t = n + 1 by omega)]]
  omega
/-! ### circulations -/
structure Circ (n : Int) (l : List Need) (g : List Int) : Prop where
  len : g.length = l.length
  bnd : ∀ k, k < l.length → (l.getD k El.d).low ≤ g.getD k 0 ∧ g.getD k 0 ≤ (l.getD k El.d).cap
  keep : ∀ x : Nat, x < n.toNat → netAt (arcsN l) g x = 0
theorem netAt_add {L : List Arc} {f g h : List Int} (e : ∀ k, k < L.length → h.getD k 0 = f.getD k 0 + g.getD k 0) (z : Int) : netAt L h z = netAt L f z + netAt L g z := by
  unfold netAt
  rw [← tot_add]
  refine tot_congr fun k hk => ?_
  unfold term
  rw [e k hk]
  split <;> split <;> omega
theorem full_ends {n : Int} {c : Nat → Int} {z : Nat} (hz : (z : Int) < n) : ∀ j : Nat, (j : Int) ≤ n → lsA (fullA z) (endsN n c j) = if z < j then -c z else 0
  | 0, _ => by simp [endsN, lsA]
  | j + 1, hj => by
    have ih := full_ends (c := c) hz j (by omega)
    rw [endsN, lsA_append, ih]
    have e2 : lsA (fullA (z : Int)) ((if 0 < c j then [(⟨n, (j : Int), c j⟩ : Arc)] else []) ++ (if c j < 0 then [(⟨(j : Int), n + 1, -c j⟩ : Arc)] else [])) = if z = j then -c j else 0 := by
      by_cases h1 : 0 < c j
      · rw [if_pos h1, if_neg (show ¬ c j < 0 by omega), List.append_nil]
        simp only [lsA, fullA]
        rw [if_neg (show ¬ n = (z : Int) by omega)]
        by_cases e : z = j
        · rw [if_pos (show (j : Int) = (z : Int) by omega), if_pos e]; omega
        · rw [if_neg (show ¬ (j : Int) = (z : Int) by omega), if_neg e]; rfl
      · rw [if_neg h1]
        by_cases h2 : c j < 0
        · rw [if_pos h2, List.nil_append]
          simp only [lsA, fullA]
          rw [if_neg (show ¬ n + 1 = (z : Int) by omega)]
          by_cases e : z = j
          · rw [if_pos (show (j : Int) = (z : Int) by omega), if_pos e]; omega
          · rw [if_neg (show ¬ (j : Int) = (z : Int) by omega), if_neg e]; rfl
        · rw [if_neg h2, List.nil_append]
          have : c j = 0 := by omega
          simp [lsA, this]
    rw [e2]
    by_cases e : z = j
    · rw [if_pos e, if_neg (show ¬ z < j by omega), if_pos (show z < j + 1 by omega), e]; omega
    · rw [if_neg e]
      by_cases q : z < j
      · rw [if_pos q, if_pos (show z < j + 1 by omega)]; omega
      · rw [if_neg q, if_neg (show ¬ z < j + 1 by omega)]; rfl
theorem ends_source {n : Int} {c : Nat → Int} : ∀ j : Nat, (j : Int) ≤ n → lsA (fullA n) (endsN n c j) = sumN c j
  | 0, _ => rfl
  | j + 1, hj => by
    have ih := ends_source (n := n) (c := c) j (by omega)
    have e1 : sumN c (j + 1) = sumN c j + pos (c j) := rfl
    rw [endsN, lsA_append, ih, e1]
    congr 1
    unfold pos
    by_cases h1 : 0 < c j
    · rw [if_pos h1, if_pos h1, if_neg (show ¬ c j < 0 by omega), List.append_nil]
      simp only [lsA, fullA]
      rw [if_pos trivial, if_neg (show ¬ (j : Int) = n by omega)]; omega
    · rw [if_neg h1, if_neg h1]
      by_cases h2 : c j < 0
      · rw [if_pos h2, List.nil_append]
        simp only [lsA, fullA]
        rw [if_neg (show ¬ (j : Int) = n by omega), if_neg (show ¬ n + 1 = n by omega)]; rfl
      · rw [if_neg h2]; rfl
/-- a circulation makes a flow of all that is asked -/
theorem flow_of_circ {n : Int} {l : List Need} (h : NeedOk n l) {g : List Int} (hg : Circ n l g) : ∃ f, Flow (netN n l) f ∧ netAt (netN n l).as f (netN n l).s = sumOf n l := by
  have n0 := h.n0; have n1 := h.n1
  have hlen := hg.len
  generalize hF : (List.range l.length).map (fun k => g.getD k 0 - (l.getD k El.d).low) = F
  have hFl : F.length = l.length := by rw [← hF]; simp
  have hFg : ∀ k, k < l.length → F.getD k 0 = g.getD k 0 - (l.getD k El.d).low := fun k hk => by rw [← hF]; simp [List.getD_eq_getElem?_getD, hk]
  generalize hE : endsN n (fun x => come l x) n.toNat = E
  have has : (netN n l).as = arcsN l ++ E := by simp only [netN]; rw [hE]
  have hgL : ∀ k, k < l.length → (F ++ E.map (·.c)).getD k 0 = F.getD k 0 := fun k hk => by simp only [List.getD_eq_getElem?_getD]; rw [List.getElem?_append_left (by omega)]
  have hgE : ∀ i, i < E.length → (F ++ E.map (·.c)).getD ((arcsN l).length + i) 0 = (E.getD i El.d).c := fun i hi => by
    simp only [List.getD_eq_getElem?_getD]
    rw [arcsN_len, List.getElem?_append_right (by omega), ← hFl, Nat.add_sub_cancel_left, List.getElem?_map, List.getElem?_eq_getElem hi]
    rfl
  have hnet : ∀ z : Int, netAt (netN n l).as (F ++ E.map (·.c)) z = netAt (arcsN l) g z + come l z + lsA (fullA z) E := fun z => by
    rw [has, netAt_full hgE z]
    congr 1
    have := netAt_add (L := arcsN l) (f := F ++ E.map (·.c)) (g := lows l) (h := g) (fun k hk => by
      rw [arcsN_len] at hk
      rw [hgL k hk, hFg k hk, lows_getD]; omega) z
    unfold come
    omega
  have out0 : ∀ z : Int, (z < 0 ∨ n ≤ z) → ∀ f : List Int, netAt (arcsN l) f z = 0 := fun z hz f => by
    unfold netAt
    refine tot_zero fun k hk => ?_
    have := h.at (k := k) (by rw [arcsN_len] at hk; exact hk)
    rw [term_N]
    rw [if_neg (by omega), if_neg (by omega)]; rfl
  refine ⟨F ++ E.map (·.c), ⟨netN_ok h, by rw [has]; simp [hFl, arcsN_len], fun k hk => ?_, fun x hx q1 q2 => ?_⟩, ?_⟩
  · by_cases q : k < l.length
    · have hb := hg.bnd k q
      rw [hgL k q, hFg k q, has, show (arcsN l ++ E).getD k El.d = (arcsN l).getD k El.d by simp only [List.getD_eq_getElem?_getD]; rw [List.getElem?_append_left (by rw [arcsN_len]; exact q)], arcsN_getD]
      simp only [arcN]; omega
    · have hk' : k - l.length < E.length := by simp at hk; omega
      have e := hgE (k - l.length) hk'
      rw [arcsN_len, show l.length + (k - l.length) = k by omega] at e
      have hm := mem_getD (d := El.d) hk'
      rw [e, has, show (arcsN l ++ E).getD k El.d = E.getD (k - l.length) El.d by simp only [List.getD_eq_getElem?_getD]; rw [List.getElem?_append_right (by rw [arcsN_len]; omega), arcsN_len]]
      refine ⟨?_, Int.le_refl _⟩
      rw [← hE] at hm
      rw [← hE]
      obtain ⟨y, _, ⟨hc, ea⟩ | ⟨hc, ea⟩⟩ := endsN_mem hm
      · rw [ea]; dsimp only; omega
      · rw [ea]; dsimp only; omega
  · simp only [netN] at q1 q2
    rw [hnet]
    by_cases hxn : (x : Int) < n
    · rw [hg.keep x (by omega), ← hE, full_ends hxn n.toNat (by omega), if_pos (by omega)]; omega
    · unfold come
      rw [out0 x (.inr (by omega)), out0 x (.inr (by omega)), ← hE]
      have : lsA (fullA (x : Int)) (endsN n (fun x => come l x) n.toNat) = 0 := by
        have key : ∀ L : List Arc, (∀ a, a ∈ L → a.f ≠ x ∧ a.t ≠ x) → lsA (fullA (x : Int)) L = 0 := by
          intro L
          induction L with
          | nil => intro _; rfl
          | cons a L ih =>
            intro hL
            have ha := hL a (by simp)
            simp only [lsA, fullA]
            rw [if_neg ha.1, if_neg ha.2]
            have := ih fun b hb => hL b (by simp [hb])
            omega
        refine key _ fun a ha => ?_
        obtain ⟨y, hy, ⟨_, ea⟩ | ⟨_, ea⟩⟩ := endsN_mem ha
        · rw [ea]; dsimp only; omega
        · rw [ea]; dsimp only; omega
      omega
  · show netAt (netN n l).as _ n = _
    rw [hnet]
    unfold come
    rw [out0 n (.inr (Int.le_refl _)), out0 n (.inr (Int.le_refl _)), ← hE, ends_source n.toNat (by omega)]
    unfold sumOf
    omega
/-- a flow of all that is asked makes a circulation -/
theorem circ_of_flow {n : Int} {l : List Need} (h : NeedOk n l) {f : List Int} (hf : Flow (netN n l) f) (hv : netAt (netN n l).as f (netN n l).s = sumOf n l) {g : List Int} (hg : g.length = l.length) (hgv : ∀ k, k < l.length → g.getD k 0 = (l.getD k El.d).low + f.getD k 0) : Circ n l g := by
  have n0 := h.n0; have n1 := h.n1
  have hT1 := hf.tight (cutN_low h).1 (hv.trans (cutN_low h).2.symm)
  have hT2 := hf.tight (cutN_high h).1 (hv.trans (cutN_high h).2.symm)
  have hlen := hf.len
  generalize hE : endsN n (fun x => come l x) n.toNat = E
  have has : (netN n l).as = arcsN l ++ E := by simp only [netN]; rw [hE]
  have hfull : ∀ i, i < E.length → f.getD ((arcsN l).length + i) 0 = (E.getD i El.d).c := fun i hi => by
    have hm := mem_getD (d := El.d) hi
    have hidx : (arcsN l).length + i < (netN n l).as.length := by rw [has, List.length_append]; omega
    have ea : (netN n l).as.getD ((arcsN l).length + i) El.d = E.getD i El.d := by
      rw [has]
      simp only [List.getD_eq_getElem?_getD]
      rw [List.getElem?_append_right (by omega), Nat.add_sub_cancel_left]
    have o1 := hT1.out _ hidx
    have o2 := hT2.out _ hidx
    rw [ea] at o1 o2
    generalize E.getD i El.d = a at hm o1 o2 ⊢
    rw [← hE] at hm
    obtain ⟨y, hy, ⟨hc, e⟩ | ⟨hc, e⟩⟩ := endsN_mem hm
    · subst e
      exact o1 (if_pos rfl) (if_neg (by dsimp only; omega))
    · subst e
      exact o2 (if_neg (by dsimp only; omega)) (if_pos rfl)
  refine ⟨hg, fun k hk => ?_, fun x hx => ?_⟩
  · have hr := hf.r k (by rw [hlen, has, List.length_append, arcsN_len]; omega)
    rw [has, show (arcsN l ++ E).getD k El.d = (arcsN l).getD k El.d by simp only [List.getD_eq_getElem?_getD]; rw [List.getElem?_append_left (by rw [arcsN_len]; exact hk)], arcsN_getD] at hr
    simp only [arcN] at hr
    rw [hgv k hk]; omega
  · have hk := hf.keep x (by omega) (by simp only [netN]; omega) (by simp only [netN]; omega)
    rw [has, netAt_full hfull, ← hE, full_ends (by omega) n.toNat (by omega), if_pos hx] at hk
    have := netAt_add (L := arcsN l) (f := f) (g := lows l) (h := g) (fun k hk => by
      rw [arcsN_len] at hk
      rw [hgv k hk, lows_getD]; omega) (x : Int)
    unfold come at hk
    omega
theorem sum_small {n : Int} {l : List Need} (h : NeedOk n l) : 0 ≤ sumOf n l ∧ sumOf n l ≤ 99900 := by
  have n1 := h.n1
  have each : ∀ x : Nat, 0 ≤ pos (come l (x : Int)) ∧ pos (come l (x : Int)) ≤ 9990 := fun x => by
    have := come_small h (x : Int)
    unfold pos; split <;> omega
  have h1 := tot_nonneg (f := fun x => pos (come l (x : Int))) (n := n.toNat) fun x _ => (each x).1
  have h2 := tot_le (f := fun x => pos (come l (x : Int))) (g := fun _ => 9990) (n := n.toNat) fun x _ => (each x).2
  rw [tot_const] at h2
  have e : sumOf n l = tot (fun x => pos (come l (x : Int))) n.toNat := rfl
  rw [e]
  omega
/-- what Round and Fault answer -/
theorem round_cases (n : Int) (l : List Need) : (NeedOk n l ∧ ∃ g, Circ n l g ∧ need_Round_F n l = some (g, 0)) ∨ (NeedOk n l ∧ (∀ g, ¬ Circ n l g) ∧ need_Round_F n l = some ([], 5)) ∨ (¬ NeedOk n l ∧ ∃ e, e ≠ 0 ∧ e ≠ 5 ∧ need_Round_F n l = some ([], e)) := by
  unfold need_Round_F
  rcases needCheck_cases n l with ⟨h, e⟩ | ⟨h, e, he, he5, e1⟩
  · rw [e, bind_some', if_neg (by decide), net_ok h, bind_some']
    dsimp only
    obtain ⟨f, v, ev, hf, hv, hM⟩ := of_max (netN_ok h)
    rw [ev, bind_some']
    dsimp only
    have hle := hM.ge (cutN_low h).1
    rw [(cutN_low h).2] at hle
    by_cases q : v < sumOf n l
    · rw [if_pos q]
      refine .inr (.inl ⟨h, fun g hg => ?_, rfl⟩)
      obtain ⟨f', hf', hv'⟩ := flow_of_circ h hg
      have := hM.le hf'
      omega
    · rw [if_neg q, ck_some (by have := h.len; omega), Int.toNat_natCast]
      have hlen := hf.len
      have has : (netN n l).as.length = l.length + (endsN n (fun x => come l x) n.toNat).length := by simp only [netN]; rw [List.length_append, arcsN_len]
      obtain ⟨g, eg, g1, g2⟩ := forN_inv (f := need_Round_B1 l f) (fun j g => g.length = l.length ∧ ∀ k, k < j → g.getD k 0 = (l.getD k El.d).low + f.getD k 0) (n := l.length) (k := 0) (s := List.replicate l.length 0) ⟨by simp, fun k hk => absurd hk (by omega)⟩ fun j g _ hj ⟨i1, i2⟩ => by
        have hj' : j < l.length := by omega
        have hb := h.at hj'
        have hr := hf.r j (by omega)
        have hc := (netN_ok h).arc (k := j) (by omega)
        have := hc.c1
        unfold need_Round_B1
        rw [ck_some (by omega), ck_some (inI_small (by omega) (by omega)), ck_some (by omega)]
        refine ⟨_, rfl, by simp [i1], fun k hk => ?_⟩
        rw [getD_set']
        by_cases e : k = j
        · rw [if_pos ⟨e, by omega⟩, e]
        · rw [if_neg (fun z => e z.1)]; exact i2 k (by omega)
      rw [eg, bind_some']
      exact .inl ⟨h, g, circ_of_flow h hf (by omega) g1 (fun k hk => g2 k (by omega)), rfl⟩
  · rw [e1, bind_some', if_pos he]
    exact .inr (.inr ⟨h, e, he, he5, rfl⟩)
theorem fault_ok {n : Int} {l : List Need} (h : NeedOk n l) : (∃ g, Circ n l g) → need_Fault_F n l = some (0, 5) := fun ⟨g, hg⟩ => by
  have hc : need_Check_F n l = some 0 := by
    rcases needCheck_cases n l with ⟨_, e⟩ | ⟨h', _⟩
    · exact e
    · exact absurd h h'
  obtain ⟨low, v, e, hL, hM⟩ := least_ok (netN_ok h)
  have hle := hM.ge (cutN_low h).1
  rw [(cutN_low h).2] at hle
  obtain ⟨f, hf, hv⟩ := flow_of_circ h hg
  have := hM.le hf
  unfold need_Fault_F
  rw [hc, bind_some', if_neg (by decide), net_ok h, bind_some']
  dsimp only
  rw [e, bind_some']
  dsimp only
  rw [if_pos (by omega)]
theorem fault_none {n : Int} {l : List Need} (h : NeedOk n l) (hno : ∀ g, ¬ Circ n l g) : ∃ set, need_Fault_F n l = some (set, 0) ∧ tot (fun k => crossN (bit set) (l.getD k El.d)) l.length < 0 := by
  have hc : need_Check_F n l = some 0 := by
    rcases needCheck_cases n l with ⟨_, e⟩ | ⟨h', _⟩
    · exact e
    · exact absurd h h'
  have n0 := h.n0; have n1 := h.n1
  obtain ⟨low, v, e, hL, hM⟩ := least_ok (netN_ok h)
  have hle := hM.ge (cutN_low h).1
  rw [(cutN_low h).2] at hle
  have hne : v ≠ sumOf n l := fun hv => by
    obtain ⟨f, hf, hfv⟩ := hM.flow
    have hl2 := hf.len
    refine hno ((List.range l.length).map fun k => (l.getD k El.d).low + f.getD k 0) (circ_of_flow h hf (by omega) (by simp) fun k hk => by simp [List.getD_eq_getElem?_getD, hk])
  unfold need_Fault_F
  rw [hc, bind_some', if_neg (by decide), net_ok h, bind_some']
  dsimp only
  rw [e, bind_some']
  dsimp only
  rw [if_neg hne, ck_some (by omega)]
  refine ⟨_, rfl, ?_⟩
  have hcap := cap_netN h (S := bit low) hL.side.s hL.side.t (bit01 low)
  rw [hL.cap] at hcap
  have e2 : tot (fun k => crossN (bit (bitsOf .and .u16 low (mask n))) (l.getD k El.d)) l.length = tot (fun k => crossN (bit low) (l.getD k El.d)) l.length := tot_congr fun k hk => by
    have hb := h.at hk
    have same : ∀ x, 0 ≤ x → x < n → bit (bitsOf .and .u16 low (mask n)) x = bit low x := fun x hx hx2 => by
      have h1 := bit_and low (mask n) hx (by omega)
      rw [bit_mask (by omega) (by omega)] at h1
      rcases bit01 low x with q | q
      · rw [q]; exact (bit01 _ x).resolve_right fun z => by have := (h1.1 z).1; omega
      · rw [q]; exact h1.2 ⟨q, hx2⟩
    unfold crossN
    rw [same _ hb.1.1 hb.1.2.1, same _ hb.1.2.2.1 hb.1.2.2.2]
  show tot (fun k => crossN (bit (bitsOf .and .u16 low (mask n))) (l.getD k El.d)) l.length < 0
  rw [e2]; omega
end Go.Proofs.Ytdklbcgfjleagaa
