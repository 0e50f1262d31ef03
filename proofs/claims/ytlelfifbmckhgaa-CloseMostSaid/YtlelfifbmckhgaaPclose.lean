/- Package close: Best answers the set that is closed and gains most, the least such set. -/
import Derived.Test.YtlelfifbmckhgaaPspread
import Derived.Test.YtlelfifbmckhgaaPlsA
import Derived.Test.YtlelfifbmckhgaaGclose
namespace Go.Proofs.Ytlelfifbmckhgaa
open Go Go.Proofs.Ytlelfifbmckhgaa.Sx
set_option linter.unusedVariables false
set_option linter.unusedSimpArgs false
structure OkClose (gain : List Int) (l : List Arc) : Prop where
  n : gain.length ≤ 10
  len : l.length ≤ 30
  gr : ∀ k, k < gain.length → -1000 ≤ gain.getD k 0 ∧ gain.getD k 0 ≤ 1000
  arc : ∀ a, a ∈ l → 0 ≤ a.f ∧ a.f < gain.length ∧ 0 ≤ a.t ∧ a.t < gain.length
theorem closeCheck_cases (gain : List Int) (l : List Arc) : (OkClose gain l ∧ close_Check_F gain l = some 0) ∨ (¬ OkClose gain l ∧ ∃ e, (e = 1 ∨ e = 2 ∨ e = 4) ∧ close_Check_F gain l = some e ∧ (e ≠ 1 → gain.length ≤ 10 → l.length ≤ 30 → ∀ k, k < gain.length → -1000 ≤ gain.getD k 0 ∧ gain.getD k 0 ≤ 1000) ∧ (e ≠ 1 → ¬ (gain.length ≤ 10 ∧ l.length ≤ 30 ∧ ∀ a, a ∈ l → 0 ≤ a.f ∧ a.f < gain.length ∧ 0 ≤ a.t ∧ a.t < gain.length))) := by
  unfold close_Check_F
  by_cases h1 : 10 < ((gain.length : Nat) : Int)
  · rw [if_pos h1]; exact .inr ⟨fun h => by have := h.n; omega, 2, .inr (.inl rfl), rfl, fun _ h => absurd h (by omega), fun _ h => by have := h.1; omega⟩
  by_cases h2 : 30 < ((l.length : Nat) : Int)
  · rw [if_neg h1, if_pos h2]; exact .inr ⟨fun h => by have := h.len; omega, 2, .inr (.inl rfl), rfl, fun _ _ h => absurd h (by omega), fun _ h => by have := h.2.1; omega⟩
  rw [if_neg h1, if_neg h2]
  obtain ⟨q, e, hq⟩ := forC_or (f := close_Check_B1 gain) (fun j _ => ∀ k, k < j → -1000 ≤ gain.getD k 0 ∧ gain.getD k 0 ≤ 1000) (fun q => match q with | .go _ => ∀ k, k < gain.length → -1000 ≤ gain.getD k 0 ∧ gain.getD k 0 ≤ 1000 | .ret r => r = 1 ∧ ¬ ∀ k, k < gain.length → -1000 ≤ gain.getD k 0 ∧ gain.getD k 0 ≤ 1000)
    (n := gain.length) (k := 0) (s := ()) (fun k hk => absurd hk (by omega)) (fun j _ _ hj i1 => by
      unfold close_Check_B1
      by_cases q1 : gain.getD j 0 < -1000
      · rw [if_pos q1]; exact .inr (.inr ⟨1, rfl, rfl, fun h => by have := h j (by omega); omega⟩)
      by_cases q2 : 1000 < gain.getD j 0
      · rw [if_neg q1, if_pos q2]; exact .inr (.inr ⟨1, rfl, rfl, fun h => by have := h j (by omega); omega⟩)
      · rw [if_neg q1, if_neg q2]
        refine .inl ⟨(), rfl, fun k hk => ?_⟩
        by_cases e : k = j
        · subst e; omega
        · exact i1 k (by omega)) (fun _ i1 k hk => i1 k (by omega))
  rw [e, bind_some']
  match q, hq with
  | .ret r, hq =>
    obtain ⟨rfl, hq⟩ := hq
    exact .inr ⟨fun h => hq h.gr, 1, .inl rfl, rfl, fun h => absurd rfl h, fun h => absurd rfl h⟩
  | .go _, hq =>
    obtain ⟨q2, e2, hq2⟩ := forC_or (f := close_Check_B2 gain l) (fun j _ => ∀ k, k < j → 0 ≤ (l.getD k El.d).f ∧ (l.getD k El.d).f < gain.length ∧ 0 ≤ (l.getD k El.d).t ∧ (l.getD k El.d).t < gain.length) (fun q => match q with | .go _ => ∀ a, a ∈ l → 0 ≤ a.f ∧ a.f < gain.length ∧ 0 ≤ a.t ∧ a.t < gain.length | .ret r => r = 4 ∧ ¬ ∀ a, a ∈ l → 0 ≤ a.f ∧ a.f < gain.length ∧ 0 ≤ a.t ∧ a.t < gain.length)
      (n := l.length) (k := 0) (s := ()) (fun k hk => absurd hk (by omega)) (fun j _ _ hj i1 => by
        have hm := mem_getD (d := El.d) (show j < l.length by omega)
        unfold close_Check_B2
        by_cases p1 : (l.getD j El.d).f < 0
        · rw [if_pos p1]; exact .inr (.inr ⟨4, rfl, rfl, fun h => by have := h _ hm; omega⟩)
        by_cases p2 : ((gain.length : Nat) : Int) ≤ (l.getD j El.d).f
        · rw [if_neg p1, if_pos p2]; exact .inr (.inr ⟨4, rfl, rfl, fun h => by have := h _ hm; omega⟩)
        by_cases p3 : (l.getD j El.d).t < 0
        · rw [if_neg p1, if_neg p2, if_pos p3]; exact .inr (.inr ⟨4, rfl, rfl, fun h => by have := h _ hm; omega⟩)
        by_cases p4 : ((gain.length : Nat) : Int) ≤ (l.getD j El.d).t
        · rw [if_neg p1, if_neg p2, if_neg p3, if_pos p4]; exact .inr (.inr ⟨4, rfl, rfl, fun h => by have := h _ hm; omega⟩)
        · rw [if_neg p1, if_neg p2, if_neg p3, if_neg p4]
          refine .inl ⟨(), rfl, fun k hk => ?_⟩
          by_cases e : k = j
          · subst e; omega
          · exact i1 k (by omega)) (fun _ i1 a ha => by
        obtain ⟨k, hk, e⟩ := getD_of_mem (d := El.d) ha
        rw [← e]; exact i1 k (by omega))
    dsimp only
    rw [e2, bind_some']
    match q2, hq2 with
    | .go _, hq2 => exact .inl ⟨⟨by omega, by omega, hq, hq2⟩, rfl⟩
    | .ret r, hq2 =>
      obtain ⟨rfl, hq2⟩ := hq2
      exact .inr ⟨fun h => hq2 h.arc, 4, .inr (.inr rfl), rfl, fun _ _ _ => hq, fun _ h => hq2 h.2.2⟩
/-- the arcs of the source and the sink -/
def endsC (n : Nat) (c : Nat → Int) : Nat → List Arc
  | 0 => []
  | j + 1 => endsC n c j ++ ((if 0 < c j then [(⟨(n : Int), (j : Int), c j⟩ : Arc)] else []) ++ (if c j < 0 then [(⟨(j : Int), ((n + 1 : Nat) : Int), -c j⟩ : Arc)] else []))
def posC (x : Int) : Int := if 0 < x then x else 0
def sumC (c : Nat → Int) (j : Nat) : Int := tot (fun x => posC (c x)) j
theorem endsC_len (n : Nat) (c : Nat → Int) : ∀ j, (endsC n c j).length ≤ j
  | 0 => Nat.le_refl _
  | j + 1 => by
    have := endsC_len n c j
    simp only [endsC, List.length_append]
    by_cases h : 0 < c j
    · rw [if_pos h, if_neg (show ¬ c j < 0 by omega)]; simp; omega
    · rw [if_neg h]; split <;> simp <;> omega
theorem endsC_mem {n : Nat} {c : Nat → Int} : ∀ {j : Nat} {a : Arc}, a ∈ endsC n c j → ∃ x : Nat, x < j ∧ ((0 < c x ∧ a = ⟨(n : Int), (x : Int), c x⟩) ∨ (c x < 0 ∧ a = ⟨(x : Int), ((n + 1 : Nat) : Int), -c x⟩))
  | 0, a, h => absurd h (by simp [endsC])
  | j + 1, a, h => by
    simp only [endsC, List.mem_append] at h
    rcases h with h | h | h
    · obtain ⟨x, hx, hh⟩ := endsC_mem h
      exact ⟨x, by omega, hh⟩
    · by_cases q : 0 < c j
      · rw [if_pos q] at h
        exact ⟨j, by omega, .inl ⟨q, List.mem_singleton.1 h⟩⟩
      · rw [if_neg q] at h; exact absurd h (by simp)
    · by_cases q : c j < 0
      · rw [if_pos q] at h
        exact ⟨j, by omega, .inr ⟨q, List.mem_singleton.1 h⟩⟩
      · rw [if_neg q] at h; exact absurd h (by simp)
def tenK (a : Arc) : Arc := ⟨a.f, a.t, 10000⟩
def netC (gain : List Int) (l : List Arc) : Net := ⟨((gain.length + 2 : Nat) : Int), (gain.length : Int), ((gain.length + 1 : Nat) : Int), endsC gain.length (fun k => gain.getD k 0) gain.length ++ l.map tenK⟩
def allC (gain : List Int) : Int := sumC (fun k => gain.getD k 0) gain.length
theorem sumC_le {gain : List Int} {l : List Arc} (h : OkClose gain l) {j : Nat} (hj : j ≤ gain.length) : 0 ≤ sumC (fun k => gain.getD k 0) j ∧ sumC (fun k => gain.getD k 0) j ≤ 1000 * j := by
  have each : ∀ k, k < gain.length → 0 ≤ posC (gain.getD k 0) ∧ posC (gain.getD k 0) ≤ 1000 := fun k hk => by
    have := h.gr k hk
    unfold posC; split <;> omega
  have h1 := tot_nonneg (f := fun k => posC (gain.getD k 0)) (n := j) fun k hk => (each k (by omega)).1
  have h2 := tot_le (f := fun k => posC (gain.getD k 0)) (g := fun _ => 1000) (n := j) fun k hk => (each k (by omega)).2
  rw [tot_const] at h2
  have e : sumC (fun k => gain.getD k 0) j = tot (fun k => posC (gain.getD k 0)) j := rfl
  rw [e]
  omega
theorem best_net {gain : List Int} {l : List Arc} (h : OkClose gain l) : forN (close_Best_B1 gain) gain.length 0 ([], 0) = some (endsC gain.length (fun k => gain.getD k 0) gain.length, allC gain) ∧
    forN (close_Best_B2 l) l.length 0 (endsC gain.length (fun k => gain.getD k 0) gain.length) = some (netC gain l).as := by
  have hn := h.n; have hl := h.len
  have hE := endsC_len gain.length (fun k => gain.getD k 0) gain.length
  constructor
  · obtain ⟨s, e, q⟩ := forN_inv (f := close_Best_B1 gain) (fun j s => s = (endsC gain.length (fun k => gain.getD k 0) j, sumC (fun k => gain.getD k 0) j)) (n := gain.length) (k := 0) (s := ([], 0)) rfl fun j s _ hj hs => by
      subst hs
      have hj' : j < gain.length := by omega
      have hb := h.gr j hj'
      have hs := sumC_le h (j := j) (by omega)
      have hEj := endsC_len gain.length (fun k => gain.getD k 0) j
      have hsum : sumC (fun k => gain.getD k 0) (j + 1) = sumC (fun k => gain.getD k 0) j + posC (gain.getD j 0) := rfl
      unfold close_Best_B1
      dsimp only
      refine ⟨_, ?_, rfl⟩
      by_cases h1 : 0 < gain.getD j 0
      · rw [if_pos h1, ck_some (inI_small (by omega) (by omega)), ck_some (by omega), bind_some']
        dsimp only
        rw [if_neg (by omega), hsum]
        simp only [endsC, posC]
        rw [if_pos h1, if_pos h1, if_neg (show ¬ gain.getD j 0 < 0 by omega), List.append_nil]
      · rw [if_neg h1, bind_some']
        dsimp only
        by_cases h2 : gain.getD j 0 < 0
        · rw [if_pos h2, ck_some (inI_small (by omega) (by omega)), ck_some (by omega), hsum]
          simp only [endsC, posC]
          rw [if_neg h1, if_neg h1, if_pos h2, List.nil_append, Int.add_zero]
        · rw [if_neg h2, hsum]
          simp only [endsC, posC]
          rw [if_neg h1, if_neg h1, if_neg h2, List.nil_append, List.append_nil, Int.add_zero]
    rw [e, q, Nat.zero_add]
    rfl
  · obtain ⟨s, e, q⟩ := forN_inv (f := close_Best_B2 l) (fun j s => s = endsC gain.length (fun k => gain.getD k 0) gain.length ++ (l.take j).map tenK) (n := l.length) (k := 0) (s := endsC gain.length (fun k => gain.getD k 0) gain.length) (by simp) fun j s _ hj hs => by
      have hj' : j < l.length := by omega
      unfold close_Best_B2
      rw [ck_some (by rw [hs, List.length_append, List.length_map, List.length_take]; omega)]
      refine ⟨_, rfl, ?_⟩
      rw [hs, take_succ_getD hj', List.map_append, List.append_assoc]
      rfl
    rw [e, q, Nat.zero_add, List.take_of_length_le (Nat.le_refl _)]
    rfl
theorem netC_ok {gain : List Int} {l : List Arc} (h : OkClose gain l) : OkNet (netC gain l) := by
  have hn := h.n; have hl := h.len
  have hE := endsC_len gain.length (fun k => gain.getD k 0) gain.length
  refine ⟨⟨by simp only [netC]; omega, by simp only [netC]; omega, by simp only [netC]; rw [List.length_append, List.length_map]; omega, fun a ha => ?_⟩, by simp only [netC]; omega, by simp only [netC]; omega, by simp only [netC]; omega, by simp only [netC]; omega, by simp only [netC]; omega⟩
  simp only [netC] at ha ⊢
  rcases List.mem_append.1 ha with ha | ha
  · obtain ⟨x, hx, ⟨hc, rfl⟩ | ⟨hc, rfl⟩⟩ := endsC_mem ha
    · have := h.gr x hx
      exact ⟨by dsimp only; omega, by dsimp only; omega, by dsimp only; omega, by dsimp only; omega, by dsimp only at hc ⊢; omega, by dsimp only at hc ⊢; omega⟩
    · have := h.gr x hx
      exact ⟨by dsimp only; omega, by dsimp only; omega, by dsimp only; omega, by dsimp only; omega, by dsimp only at hc ⊢; omega, by dsimp only at hc ⊢; omega⟩
  · obtain ⟨b, hb, rfl⟩ := List.mem_map.1 ha
    have := h.arc b hb
    simp only [tenK]
    exact ⟨by dsimp only; omega, by dsimp only; omega, by dsimp only; omega, by dsimp only; omega, by dsimp only; omega, by dsimp only; omega⟩
/-! ### what a set gains -/
def gainS (gain : List Int) (S : Int → Int) : Int := tot (fun k => S (k : Int) * gain.getD k 0) gain.length
/-- no arc leads out of the set -/
def Shut (l : List Arc) (S : Int → Int) : Prop := ∀ a, a ∈ l → S a.f = 1 → S a.t = 1
theorem cap_endsC {n : Nat} {c : Nat → Int} {S : Int → Int} (hs : S (n : Int) = 1) (ht : S ((n + 1 : Nat) : Int) = 0) (hb : ∀ x, S x = 0 ∨ S x = 1) : ∀ j : Nat, lsA (crossA S) (endsC n c j) = sumC c j - tot (fun x => S (x : Int) * c x) j
  | 0 => rfl
  | j + 1 => by
    have ih := cap_endsC (c := c) hs ht hb j
    have e1 : sumC c (j + 1) = sumC c j + posC (c j) := rfl
    rw [endsC, lsA_append, ih, e1, tot]
    have e2 : lsA (crossA S) ((if 0 < c j then [(⟨(n : Int), (j : Int), c j⟩ : Arc)] else []) ++ (if c j < 0 then [(⟨(j : Int), ((n + 1 : Nat) : Int), -c j⟩ : Arc)] else [])) = posC (c j) - S (j : Int) * c j := by
      unfold posC
      by_cases h1 : 0 < c j
      · rw [if_pos h1, if_neg (show ¬ c j < 0 by omega), if_pos h1, List.append_nil]
        simp only [lsA, crossA, hs]
        rcases hb (j : Int) with e | e <;> rw [e] <;> simp
      · rw [if_neg h1, if_neg h1]
        by_cases h2 : c j < 0
        · rw [if_pos h2, List.nil_append]
          simp only [lsA, crossA, ht]
          rcases hb (j : Int) with e | e <;> rw [e] <;> simp
        · rw [if_neg h2, List.nil_append]
          have : c j = 0 := by omega
          simp [lsA, this]
    rw [e2]; omega
theorem cap_tenK {S : Int → Int} (hb : ∀ x, S x = 0 ∨ S x = 1) : ∀ l : List Arc, 0 ≤ lsA (crossA S) (l.map tenK) ∧ (Shut l S → lsA (crossA S) (l.map tenK) = 0) ∧ (¬ Shut l S → 10000 ≤ lsA (crossA S) (l.map tenK))
  | [] => ⟨Int.le_refl _, fun _ => rfl, fun h => absurd (fun a ha => absurd ha (by simp)) h⟩
  | a :: l => by
    obtain ⟨i1, i2, i3⟩ := cap_tenK hb l
    have e : lsA (crossA S) ((a :: l).map tenK) = (if S a.f = 1 ∧ S a.t = 0 then 10000 else 0) + lsA (crossA S) (l.map tenK) := rfl
    rw [e]
    refine ⟨by split <;> omega, fun h => ?_, fun h => ?_⟩
    · have ha := h a (by simp)
      rw [if_neg (fun z => by have := ha z.1; omega), i2 fun b hb => h b (by simp [hb])]; rfl
    · by_cases q : S a.f = 1 ∧ S a.t = 0
      · rw [if_pos q]; omega
      · rw [if_neg q]
        have : ¬ Shut l S := fun hl => h fun b hbm hf => by
          rcases List.mem_cons.1 hbm with rfl | hbm
          · exact (hb _).resolve_left fun z => q ⟨hf, z⟩
          · exact hl b hbm hf
        have := i3 this
        omega
theorem cap_netC {gain : List Int} {l : List Arc} {S : Int → Int} (hS : Cut (netC gain l) S) : capS (netC gain l).as S = allC gain - gainS gain S + lsA (crossA S) (l.map tenK) := by
  have hs : S (gain.length : Int) = 1 := hS.s
  have ht : S ((gain.length + 1 : Nat) : Int) = 0 := hS.t
  unfold netC
  dsimp only
  rw [capS_append, capS_lsA, capS_lsA, cap_endsC hs ht hS.b]
  rfl
/-- a set of nodes as a side of the net -/
def sideC (n : Nat) (S : Int → Int) : Int → Int := fun x => if x = (n : Int) then 1 else if 0 ≤ x ∧ x < n then S x else 0
theorem sideC_cut {gain : List Int} {l : List Arc} {S : Int → Int} (hb : ∀ x, S x = 0 ∨ S x = 1) : Cut (netC gain l) (sideC gain.length S) := by
  refine ⟨if_pos rfl, ?_, fun x => ?_⟩
  · show sideC gain.length S ((gain.length + 1 : Nat) : Int) = 0
    unfold sideC
    rw [if_neg (by omega), if_neg (by omega)]
  · unfold sideC
    split
    · exact .inr rfl
    · split
      · exact hb x
      · exact .inl rfl
theorem sideC_in {n : Nat} {S : Int → Int} {x : Int} (h0 : 0 ≤ x) (h1 : x < n) : sideC n S x = S x := by
  unfold sideC
  rw [if_neg (by omega), if_pos ⟨h0, h1⟩]
theorem gainS_side (gain : List Int) (S : Int → Int) : gainS gain (sideC gain.length S) = gainS gain S := tot_congr fun k hk => by rw [sideC_in (by omega) (by omega)]
theorem shut_side {gain : List Int} {l : List Arc} (h : OkClose gain l) (S : Int → Int) : Shut l (sideC gain.length S) ↔ Shut l S := by
  constructor
  · intro hs a ha hf
    have hr := h.arc a ha
    have := hs a ha (by rw [sideC_in hr.1 hr.2.1]; exact hf)
    rwa [sideC_in hr.2.2.1 hr.2.2.2] at this
  · intro hs a ha hf
    have hr := h.arc a ha
    rw [sideC_in hr.1 hr.2.1] at hf
    rw [sideC_in hr.2.2.1 hr.2.2.2]
    exact hs a ha hf
/-- the greatest gain of all sets that are shut, and the least set that has it -/
structure BestC (gain : List Int) (l : List Arc) (s x : Int) : Prop where
  hi : Int.fdiv s (2 ^ gain.length) = 0
  shut : Shut l (bit s)
  gain_ : gainS gain (bit s) = x
  most : ∀ S : Int → Int, (∀ y, S y = 0 ∨ S y = 1) → Shut l S → gainS gain S ≤ x
  least : ∀ S : Int → Int, (∀ y, S y = 0 ∨ S y = 1) → Shut l S → gainS gain S = x → ∀ y : Int, 0 ≤ y → y < (gain.length : Int) → bit s y = 1 → S y = 1
/-- a side out of which an arc leads takes more than all gains -/
theorem open_cap {gain : List Int} {l : List Arc} (h : OkClose gain l) {S : Int → Int} (hb : ∀ x, S x = 0 ∨ S x = 1) (hno : ¬ Shut l S) : allC gain < allC gain - gainS gain S + lsA (crossA S) (l.map tenK) := by
  have hn := h.n
  have h3 := (cap_tenK hb l).2.2 hno
  -- an arc that leads out
  have : ∃ a, a ∈ l ∧ S a.f = 1 ∧ S a.t = 0 := Classical.byContradiction fun hc => hno fun a ha hf => (hb a.t).resolve_left fun z => hc ⟨a, ha, hf, z⟩
  obtain ⟨a, ha, hf, ht⟩ := this
  have hr := h.arc a ha
  -- a node outside: what is within gains less than 10000
  have hle : gainS gain S ≤ tot (fun k => 1000 - if k = a.t.toNat then 1000 else 0) gain.length := tot_le fun k hk => by
    have hg := h.gr k hk
    by_cases e : k = a.t.toNat
    · rw [if_pos e, e, show ((a.t.toNat : Nat) : Int) = a.t by omega, ht, Int.zero_mul]; omega
    · rw [if_neg e]
      rcases hb (k : Int) with q | q <;> rw [q] <;> omega
  rw [tot_sub, tot_const, tot_single (k := a.t.toNat) (by omega) (fun i _ hi => if_neg hi), if_pos rfl] at hle
  omega
theorem best_ok {gain : List Int} {l : List Arc} (h : OkClose gain l) : ∃ s x, close_Best_F gain l = some (s, x, 0) ∧ BestC gain l s x ∧ 0 ≤ x ∧ x ≤ 10000 := by
  have hn := h.n; have hl := h.len
  have hc : close_Check_F gain l = some 0 := by
    rcases closeCheck_cases gain l with ⟨_, e⟩ | ⟨z, _⟩
    · exact e
    · exact absurd h z
  obtain ⟨e1, e2⟩ := best_net h
  obtain ⟨low, v, e, hL, hM⟩ := least_ok (netC_ok h)
  have e' : cut_Least_F ⟨((gain.length + 2 : Nat) : Int), ((gain.length : Nat) : Int), ((gain.length + 1 : Nat) : Int), (netC gain l).as⟩ = some (low, v, 0) := e
  have hv0 := hM.nonneg (netC_ok h)
  have hall := sumC_le h (j := gain.length) (Nat.le_refl _)
  have hall' : allC gain = sumC (fun k => gain.getD k 0) gain.length := rfl
  -- the empty set
  have hv1 : v ≤ allC gain := by
    have hz : ∀ x : Int, (fun _ : Int => (0 : Int)) x = 0 ∨ (fun _ : Int => (0 : Int)) x = 1 := fun _ => .inl rfl
    have hC := sideC_cut (gain := gain) (l := l) hz
    have h1 := hM.ge hC
    rw [cap_netC hC, gainS_side, (cap_tenK hC.b l).2.1 ((shut_side h _).2 fun a _ hf => absurd hf (by decide))] at h1
    have : gainS gain (fun _ => 0) = 0 := tot_zero fun k _ => Int.zero_mul _
    omega
  have hcl := cap_netC (gain := gain) (l := l) hL.side.cut
  rw [hL.cap] at hcl
  have hshut : Shut l (bit low) := Classical.byContradiction fun hno => by
    have := open_cap h (bit01 low) hno
    omega
  rw [(cap_tenK (bit01 low) l).2.1 hshut] at hcl
  unfold close_Best_F
  rw [hc, bind_some', if_neg (by decide), ck_some (inI_small (by omega) (by omega)), ck_some (inI_small (by omega) (by omega)), e1, bind_some']
  dsimp only
  rw [e2, bind_some', e', bind_some']
  dsimp only
  rw [ck_some (inI_small (by omega) (by omega))]
  have hbit : ∀ y : Int, 0 ≤ y → y < (gain.length : Int) → bit (bitsOf .and .u16 low (mask gain.length)) y = bit low y := fun y hy hy2 => by
    have h1 := bit_and low (mask gain.length) hy (by omega)
    rw [bit_mask (by omega) (by omega)] at h1
    rcases bit01 low y with q | q
    · rw [q]; exact (bit01 _ y).resolve_right fun z => by have := (h1.1 z).1; omega
    · rw [q]; exact h1.2 ⟨q, hy2⟩
  have hmask : IntKind.u16.wrap (IntKind.u16.wrap (1 * 2 ^ min gain.length 16) - 1) = mask (gain.length : Int) := by unfold mask; rw [Int.toNat_natCast]
  rw [hmask]
  have key : ∀ S : Int → Int, (∀ y, S y = 0 ∨ S y = 1) → Shut l S → capS (netC gain l).as (sideC gain.length S) = allC gain - gainS gain S := fun S hb hs => by
    have hC := sideC_cut (gain := gain) (l := l) hb
    rw [cap_netC hC, gainS_side, (cap_tenK hC.b l).2.1 ((shut_side h S).2 hs)]; omega
  have hlowhi := (hi_min (netC_ok h)).1 hL.side.hi
  refine ⟨_, _, rfl, ⟨?_, fun a ha hf => ?_, ?_, fun S hb hs => ?_, fun S hb hs hg y hy hy2 hbt => ?_⟩, by omega, by omega⟩
  · have hl2 : bitsOf .and .u16 low (mask gain.length) = ((low.toNat &&& (mask gain.length).toNat : Nat) : Int) := by
      have m1 := mask_hi (n := (gain.length : Int)) (by omega)
      rw [fdiv_zero] at m1 hlowhi
      have p1 := pow_le16 (k := ((gain.length : Int)).toNat) (by omega)
      have p2 := pow_le16 (k := (netC gain l).n.toNat) (by simp only [netC]; omega)
      exact and_nat (by omega) (by omega)
    have m1 := mask_hi (n := (gain.length : Int)) (by omega)
    rw [Int.toNat_natCast] at m1
    rw [hl2]
    rw [fdiv_zero] at m1 ⊢
    have := Nat.and_le_right (n := low.toNat) (m := (mask gain.length).toNat)
    omega
  · have hr := h.arc a ha
    rw [hbit _ hr.1 hr.2.1] at hf
    rw [hbit _ hr.2.2.1 hr.2.2.2]
    exact hshut a ha hf
  · have : gainS gain (bit (bitsOf .and .u16 low (mask gain.length))) = gainS gain (bit low) := tot_congr fun k hk => by rw [hbit _ (by omega) (by omega)]
    rw [this]; omega
  · have h1 := hM.ge (sideC_cut (gain := gain) (l := l) hb)
    rw [key S hb hs] at h1
    omega
  · rw [hbit y hy hy2] at hbt
    have h1 := hL.least _ ⟨sideC_cut (gain := gain) (l := l) hb, by rw [key S hb hs]; omega⟩ y hy (by simp only [netC]; omega) hbt
    rwa [sideC_in hy hy2] at h1
theorem best_bad {gain : List Int} {l : List Arc} {e : Int} (he : e ≠ 0) (h : close_Check_F gain l = some e) : close_Best_F gain l = some (0, 0, e) := by
  unfold close_Best_F
  rw [h, bind_some', if_pos he]
end Go.Proofs.Ytlelfifbmckhgaa
