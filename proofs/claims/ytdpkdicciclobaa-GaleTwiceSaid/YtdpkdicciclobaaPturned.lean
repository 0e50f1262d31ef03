/- Package gale: Turned counts; and tables whose columns are changed over. -/
import Derived.Test.YtdpkdicciclobaaPgis
import Derived.Test.YtdpkdicciclobaaPryser
import Derived.Test.YtdpkdicciclobaaPsortI
namespace Go.Proofs.Ytdpkdicciclobaa
open Go Go.Proofs.Ytdpkdicciclobaa.Sx
set_option linter.unusedVariables false
set_option linter.unusedSimpArgs false
/-- how many are above k -/
def above (l : List Int) (k : Nat) (j : Nat) : Int := tot (fun i => if (k : Int) < l.getD i 0 then 1 else 0) j
theorem above_b (l : List Int) (k j : Nat) : 0 ≤ above l k j ∧ above l k j ≤ j := by
  unfold above
  have h1 := tot_nonneg (f := fun i => if (k : Int) < l.getD i 0 then (1 : Int) else 0) (n := j) fun i _ => by split <;> omega
  have h2 := tot_le (f := fun i => if (k : Int) < l.getD i 0 then (1 : Int) else 0) (g := fun _ => 1) (n := j) fun i _ => by split <;> omega
  rw [tot_const] at h2
  omega
structure Turn (l t : List Int) : Prop where
  at' : ∀ k, k < t.length → t.getD k 0 = above l k l.length
  top : ∀ i, i < l.length → l.getD i 0 ≤ t.length
  len : t.length ≤ 12
  reach : ∀ k, k < t.length → ∃ i, i < l.length ∧ (k : Int) < l.getD i 0
theorem turned_row (l : List Int) (hl : l.length ≤ 12) {k : Nat} {o : List Int} (hk : k < o.length) (ho : o.getD k 0 = 0) : ∃ o', forN (gale_Turned_B3 l k) l.length 0 o = some o' ∧ o'.length = o.length ∧ o'.getD k 0 = above l k l.length ∧ ∀ p, p ≠ k → o'.getD p 0 = o.getD p 0 := by
  obtain ⟨o', e, h1, h2, h3⟩ := forN_inv (f := gale_Turned_B3 l k) (fun j o' => o'.length = o.length ∧ o'.getD k 0 = above l k j ∧ ∀ p, p ≠ k → o'.getD p 0 = o.getD p 0) (n := l.length) (k := 0) (s := o) ⟨rfl, ho, fun _ _ => rfl⟩ fun j m _ hj ⟨i1, i2, i3⟩ => by
    have hb := above_b l k j
    have es : above l k (j + 1) = above l k j + if (k : Int) < l.getD j 0 then 1 else 0 := rfl
    unfold gale_Turned_B3
    by_cases c : (k : Int) < l.getD j 0
    · rw [if_pos c] at es
      rw [if_pos c, ck_some (by omega), ck_some (inI_small (by omega) (by omega))]
      refine ⟨_, rfl, by simp [i1], ?_, fun p hp => ?_⟩
      · rw [getD_set', if_pos ⟨rfl, by omega⟩]; omega
      · rw [getD_set', if_neg (fun z => hp z.1)]; exact i3 p hp
    · rw [if_neg c] at es
      rw [if_neg c]
      exact ⟨_, rfl, i1, by omega, i3⟩
  rw [Nat.zero_add] at h2
  exact ⟨o', e, h1, h2, h3⟩
theorem turned_cases (l : List Int) : (∃ t, gale_Turned_F l = some (t, 0) ∧ Turn l t ∧ l.length ≤ 12 ∧ ∀ i, i < l.length → 0 ≤ l.getD i 0 ∧ l.getD i 0 ≤ 12) ∨ (∃ f, f ≠ 0 ∧ gale_Turned_F l = some ([], f) ∧ ¬ (l.length ≤ 12 ∧ ∀ i, i < l.length → 0 ≤ l.getD i 0 ∧ l.getD i 0 ≤ 12)) := by
  unfold gale_Turned_F
  by_cases c : (12 : Int) < ((l.length : Nat) : Int)
  · exact .inr ⟨2, by decide, by rw [if_pos c], fun h => by omega⟩
  rw [if_neg c]
  obtain ⟨q, e, hq⟩ := forC_or (f := gale_Turned_B1 l) (fun j x => 0 ≤ x ∧ x ≤ 12 ∧ (∀ i, i < j → 0 ≤ l.getD i 0 ∧ l.getD i 0 ≤ x) ∧ ∀ k : Nat, (k : Int) < x → ∃ i, i < j ∧ (k : Int) < l.getD i 0)
    (fun q => (q = .ret ([], 1) ∧ ∃ i, i < l.length ∧ ¬ (0 ≤ l.getD i 0 ∧ l.getD i 0 ≤ 12)) ∨ ∃ x, q = .go x ∧ 0 ≤ x ∧ x ≤ 12 ∧ (∀ i, i < l.length → 0 ≤ l.getD i 0 ∧ l.getD i 0 ≤ x) ∧ ∀ k : Nat, (k : Int) < x → ∃ i, i < l.length ∧ (k : Int) < l.getD i 0) (n := l.length) (k := 0) (s := 0) ⟨by omega, by omega, fun i hi => absurd hi (by omega), fun k hk => absurd hk (by omega)⟩ (fun j x _ hj ⟨i1, i2, i3, i4⟩ => by
    unfold gale_Turned_B1
    by_cases d1 : l.getD j 0 < 0
    · rw [if_pos d1]; exact .inr (.inr ⟨_, rfl, .inl ⟨rfl, j, by omega, by omega⟩⟩)
    · rw [if_neg d1]
      by_cases d2 : 12 < l.getD j 0
      · rw [if_pos d2]; exact .inr (.inr ⟨_, rfl, .inl ⟨rfl, j, by omega, by omega⟩⟩)
      · rw [if_neg d2]
        refine .inl ⟨_, rfl, by omega, by omega, fun i hi => ?_, fun k hk => ?_⟩
        · by_cases z : i = j
          · subst z; omega
          · have := i3 i (by omega); omega
        · by_cases z : (k : Int) < x
          · obtain ⟨i, h1, h2⟩ := i4 k z
            exact ⟨i, by omega, h2⟩
          · exact ⟨j, by omega, by omega⟩) (fun x h => .inr ⟨x, rfl, by rw [Nat.zero_add] at h; exact h⟩)
  rw [e, bind_some']
  rcases hq with ⟨rfl, i, hi, hbad⟩ | ⟨x, rfl, x0, x1, x2, x3⟩
  · exact .inr ⟨1, by decide, rfl, fun h => hbad (h.2 i hi)⟩
  · left
    dsimp only
    obtain ⟨t, e2, h1, h2⟩ := forN_inv (f := gale_Turned_B2 l) (fun j t => t.length = x.toNat ∧ ∀ p, p < x.toNat → t.getD p 0 = if p < j then above l p l.length else 0) (n := x.toNat) (k := 0) (s := List.replicate x.toNat (0 : Int)) ⟨by simp, fun p hp => by simp [hp]⟩ fun j t _ hj ⟨i1, i2⟩ => by
      obtain ⟨o', e3, g1, g2, g3⟩ := turned_row l (by omega) (k := j) (o := t) (by omega) (by rw [i2 j (by omega), if_neg (by omega)])
      unfold gale_Turned_B2
      rw [e3, bind_some']
      refine ⟨_, rfl, by omega, fun p hp => ?_⟩
      by_cases z : p = j
      · subst z; rw [g2, if_pos (by omega)]
      · rw [g3 p z, i2 p hp]
        by_cases z2 : p < j
        · rw [if_pos z2, if_pos (by omega)]
        · rw [if_neg z2, if_neg (by omega)]
    rw [ck_some (by omega), e2, bind_some']
    exact ⟨t, rfl, ⟨fun k hk => by rw [h2 k (by omega), if_pos (by omega)], fun i hi => by have := x2 i hi; omega, by omega, fun k hk => x3 k (by omega)⟩, by omega, fun i hi => by have := x2 i hi; omega⟩
theorem swapJ_lt {i j p n : Nat} (hi : i < n) (hj : j < n) (hp : p < n) : swapJ i j p < n := by
  unfold swapJ
  repeat' split
  all_goals omega
theorem swapJ_twice (i j p : Nat) : swapJ i j (swapJ i j p) = p := by
  unfold swapJ
  repeat' split
  all_goals omega
theorem tot_swapJ (f : Nat → Int) {i j n : Nat} (hi : i < n) (hj : j < n) : tot (fun p => f (swapJ i j p)) n = tot f n := by
  by_cases z : i = j
  · subst z
    exact tot_congr fun p _ => by
      congr 1
      unfold swapJ
      by_cases c : p = i
      · rw [if_pos c, c]
      · rw [if_neg c, if_neg c]
  · refine tot_two' hi hj z (fun p _ h1 h2 => ?_) ?_
    · unfold swapJ; rw [if_neg h2, if_neg h1]
    · unfold swapJ
      rw [if_neg z, if_pos rfl, if_pos rfl]; omega
theorem isT_swap {rows cols cols' : List Int} {i j : Nat} (hl : cols'.length = cols.length) (hi : i < cols.length) (hj : j < cols.length) (h : ∀ p, p < cols.length → cols'.getD p 0 = cols.getD (swapJ i j p) 0) : (∃ M, IsT rows cols M) → ∃ M, IsT rows cols' M := by
  rintro ⟨M, m1, m2, m3⟩
  refine ⟨fun r p => M r (swapJ i j p), fun r p => m1 r _, fun r hr => ?_, fun p hp => ?_⟩
  · rw [hl]
    exact (tot_swapJ (M r) hi hj).trans (m2 r hr)
  · rw [hl] at hp
    rw [h p hp]
    exact m3 _ (swapJ_lt hi hj hp)
theorem isT_sw {rows cols c : List Int} (h : Sw 0 cols.length cols c) : (∃ M, IsT rows cols M) ↔ ∃ M, IsT rows c M := by
  have := h.inv (P := fun x => x.length = cols.length ∧ ((∃ M, IsT rows cols M) ↔ ∃ M, IsT rows x M)) (fun x i j _ h1 _ h2 ⟨x1, x2⟩ => ⟨by rw [swapL_len]; exact x1, x2.trans ⟨isT_swap (by rw [swapL_len]) (by omega) (by omega) fun p _ => swapL_getD (by omega) (by omega) p, isT_swap (i := i) (j := j) (by rw [swapL_len]) (by rw [swapL_len]; omega) (by rw [swapL_len]; omega) fun p hp => by
    rw [swapL_getD (by omega) (by omega), swapJ_twice]⟩⟩) ⟨rfl, Iff.rfl⟩
  exact this.2
theorem tot_sw {l c : List Int} (h : Sw 0 l.length l c) : tot (fun p => c.getD p 0) l.length = tot (fun p => l.getD p 0) l.length := by
  have := h.inv (P := fun x => x.length = l.length ∧ tot (fun p => x.getD p 0) l.length = tot (fun p => l.getD p 0) l.length) (fun x i j _ h1 _ h2 ⟨x1, x2⟩ => ⟨by rw [swapL_len]; exact x1, by
    rw [← x2, ← tot_swapJ (fun p => x.getD p 0) h1 h2]
    exact tot_congr fun p _ => swapL_getD (by omega) (by omega) p⟩) ⟨rfl, rfl⟩
  exact this.2
/-- the greatest first -/
theorem desc_ok {l : List Int} (hl : l.length ≤ 12) : ∃ a c, slices_Sort_int_F l = some a ∧ a.length = l.length ∧ slices_Reverse_int_F a = some c ∧ c.length = l.length ∧ Sw 0 l.length l c ∧ ∀ p q, p < q → q < l.length → c.getD q 0 ≤ c.getD p 0 := by
  obtain ⟨a, e1, s1, o1⟩ := sortI_12 lessI hl (fun _ _ => trivial)
  have l1 := s1.len
  obtain ⟨c, e2, s2, o2⟩ := revO_ok (l := a) (by omega)
  have l2 := s2.len
  refine ⟨a, c, e1, l1, e2, by omega, s1.trans (s2.mono (Nat.le_refl _) (by omega)), fun p q hpq hq => ?_⟩
  rw [o2 p (by omega), o2 q (by omega)]
  exact o1 _ _ (by omega) (by omega) (by omega)
end Go.Proofs.Ytdpkdicciclobaa
