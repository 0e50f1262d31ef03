/- Package blossom: the table of how many pairs there are. -/
import Derived.Test.YtdpkdicciclobaaPmatch
import Derived.Test.YtdpkdicciclobaaPgraph
import Derived.Test.YtdpkdicciclobaaGblossom
namespace Go.Proofs.Ytdpkdicciclobaa
open Go Go.Proofs.Ytdpkdicciclobaa.Sx
set_option linter.unusedVariables false
set_option linter.unusedSimpArgs false
/-- arc k joins u and v -/
def joinsB (g : Graph) (k u v : Nat) : Prop := ((g.as.getD k El.d).f = u ∧ (g.as.getD k El.d).t = v) ∨ ((g.as.getD k El.d).t = u ∧ (g.as.getD k El.d).f = v)
def EB (g : Graph) (u v : Nat) : Prop := ∃ k, k < g.as.length ∧ joinsB g k u v
theorem EB.symm {g : Graph} {u v : Nat} (h : EB g u v) : EB g v u := by
  obtain ⟨k, hk, h | h⟩ := h
  · exact ⟨k, hk, .inr ⟨h.2, h.1⟩⟩
  · exact ⟨k, hk, .inl ⟨h.2, h.1⟩⟩
/-- what one arc does to the entry of S, of which low is a node -/
theorem most_arc {g : Graph} (hg : Ok g) (hn : g.n ≤ 9) {S low k : Nat} (hS : S < 512) (hlow : low < 9) (hk : k < g.as.length) {l : List Int} (hl : S < l.length) (hb : ∀ i, i < l.length → 0 ≤ l.getD i 0 ∧ l.getD i 0 ≤ 1000) :
    ∃ l', blossom_most_B3 g S low k l = some l' ∧ ((l' = l ∧ ∀ v, v < 9 → inS S v = true → v ≠ low → ¬ joinsB g k low v) ∨ ∃ v, v < 9 ∧ inS S v = true ∧ v ≠ low ∧ joinsB g k low v ∧ (∀ w, w < 9 → w ≠ low → joinsB g k low w → w = v) ∧ l' = l.set S (max (l.getD S 0) (1 + l.getD (dropS (dropS S low) v) 0))) := by
  have hA := hg.arc _ (mem_getD (d := El.d) hk)
  have f0 := hA.f0; have f1 := hA.f1; have t0 := hA.t0; have t1 := hA.t1
  -- the common part, for the other end
  have common : ∀ o : Int, 0 ≤ o → o < 9 → o ≠ (low : Int) → ∃ l', ((ck (0 ≤ o) <| if (bitsOf .and .i64 (Int.fdiv ((S : Nat) : Int) (2 ^ min o.toNat 64)) 1) = 1 then ck (S < l.length) <| ck (0 ≤ (bitsOf .andNot .i64 ((S : Nat) : Int) (bitsOf .or .i64 (IntKind.i64.wrap (1 * 2 ^ min low 64)) (IntKind.i64.wrap (1 * 2 ^ min o.toNat 64)))) ∧ (bitsOf .andNot .i64 ((S : Nat) : Int) (bitsOf .or .i64 (IntKind.i64.wrap (1 * 2 ^ min low 64)) (IntKind.i64.wrap (1 * 2 ^ min o.toNat 64)))) < ((l.length : Nat) : Int)) <|
      ck (InI (1 + (l.getD ((bitsOf .andNot .i64 ((S : Nat) : Int) (bitsOf .or .i64 (IntKind.i64.wrap (1 * 2 ^ min low 64)) (IntKind.i64.wrap (1 * 2 ^ min o.toNat 64)))).toNat) (0 : Int)))) <| some (l.set S (max (l.getD S (0 : Int)) (1 + (l.getD ((bitsOf .andNot .i64 ((S : Nat) : Int) (bitsOf .or .i64 (IntKind.i64.wrap (1 * 2 ^ min low 64)) (IntKind.i64.wrap (1 * 2 ^ min o.toNat 64)))).toNat) (0 : Int))))) else some l) : Option (List Int)) = some l' ∧ ((l' = l ∧ inS S o.toNat = false) ∨ (inS S o.toNat = true ∧ l' = l.set S (max (l.getD S 0) (1 + l.getD (dropS (dropS S low) o.toNat) 0)))) := fun o o0 o1 hne => by
    have d1 := dropS_le S low
    have d2 := dropS_le (dropS S low) o.toNat
    have hb2 := hb (dropS (dropS S low) o.toNat) (by omega)
    rw [ck_some o0, bitS hS (by omega), drop2_eq hS hlow (by omega), Int.toNat_natCast]
    cases hin : inS S o.toNat with
    | true =>
      rw [if_pos rfl, if_pos rfl, ck_some hl, ck_some (by omega), ck_some (inI_small (by omega) (by omega))]
      exact ⟨_, rfl, .inr ⟨rfl, rfl⟩⟩
    | false =>
      exact ⟨_, rfl, .inl ⟨rfl, rfl⟩⟩
  unfold blossom_most_B3
  rw [ck_some (inI_small (by omega) (by omega)), ck_some (inI_small (by omega) (by omega))]
  by_cases p1 : (g.as.getD k El.d).f = ((low : Nat) : Int)
  · have eo : (g.as.getD k El.d).f + (g.as.getD k El.d).t - ((low : Nat) : Int) = (g.as.getD k El.d).t := by omega
    rw [if_pos p1, eo]
    by_cases p2 : (g.as.getD k El.d).t ≠ ((low : Nat) : Int)
    · rw [if_pos p2]
      obtain ⟨l', e, h | h⟩ := common _ t0 (by omega) p2
      · refine ⟨l', e, .inl ⟨h.1, fun v hv hin hne hj => ?_⟩⟩
        have : v = (g.as.getD k El.d).t.toNat := by rcases hj with ⟨a, b⟩ | ⟨a, b⟩ <;> omega
        rw [this, h.2] at hin
        exact Bool.noConfusion hin
      · exact ⟨l', e, .inr ⟨(g.as.getD k El.d).t.toNat, by omega, h.1, by omega, .inl ⟨p1, by omega⟩, fun w hw hwl hj => by rcases hj with ⟨a, b⟩ | ⟨a, b⟩ <;> omega, h.2⟩⟩
    · rw [if_neg p2]
      exact ⟨l, rfl, .inl ⟨rfl, fun v hv hin hne hj => by rcases hj with ⟨a, b⟩ | ⟨a, b⟩ <;> omega⟩⟩
  · rw [if_neg p1]
    by_cases p3 : (g.as.getD k El.d).t = ((low : Nat) : Int)
    · have eo : (g.as.getD k El.d).f + (g.as.getD k El.d).t - ((low : Nat) : Int) = (g.as.getD k El.d).f := by omega
      rw [if_pos p3, eo, if_pos p1]
      obtain ⟨l', e, h | h⟩ := common _ f0 (by omega) p1
      · refine ⟨l', e, .inl ⟨h.1, fun v hv hin hne hj => ?_⟩⟩
        have : v = (g.as.getD k El.d).f.toNat := by rcases hj with ⟨a, b⟩ | ⟨a, b⟩ <;> omega
        rw [this, h.2] at hin
        exact Bool.noConfusion hin
      · exact ⟨l', e, .inr ⟨(g.as.getD k El.d).f.toNat, by omega, h.1, by omega, .inr ⟨p3, by omega⟩, fun w hw hwl hj => by rcases hj with ⟨a, b⟩ | ⟨a, b⟩ <;> omega, h.2⟩⟩
    · rw [if_neg p3]
      exact ⟨l, rfl, .inl ⟨rfl, fun v hv hin hne hj => by rcases hj with ⟨a, b⟩ | ⟨a, b⟩ <;> omega⟩⟩
/-- the greatest number of pairs within a set -/
structure MostS (g : Graph) (S : Nat) (v : Int) : Prop where
  h0 : 0 ≤ v
  has : MatS (EB g) S v.toNat
  most : ∀ k : Nat, MatS (EB g) S k → (k : Int) ≤ v
theorem MatS.le {E : Nat → Nat → Prop} {S k : Nat} (h : MatS E S k) : k ≤ S := by
  induction h with
  | nil S => exact Nat.zero_le _
  | @step S u v k hu hv h1 h2 hne he hm ih =>
    have a := dropS_lt h1
    have b := dropS_le (dropS S u) v
    omega
theorem MostS.le {g : Graph} {S : Nat} {v : Int} (h : MostS g S v) : v ≤ S := by
  have := h.has.le
  have := h.h0
  omega
theorem most_entry {g : Graph} (hg : Ok g) (hn : g.n ≤ 9) {S low : Nat} (hS : S < 512) (hlow : low < 9) (hin : inS S low = true) {l : List Int} (hl : S < l.length) (hlen : l.length ≤ 512)
    (hE : ∀ T, T < S → MostS g T (l.getD T 0)) (hb : ∀ i, i < l.length → 0 ≤ l.getD i 0 ∧ l.getD i 0 ≤ 1000) :
    ∃ l', forN (blossom_most_B3 g S low) g.as.length 0 (l.set S (l.getD (dropS S low) 0)) = some l' ∧ l'.length = l.length ∧ (∀ i, i ≠ S → l'.getD i 0 = l.getD i 0) ∧ MostS g S (l'.getD S 0) := by
  have d1 := dropS_lt hin
  have base := hE _ d1
  obtain ⟨l', e, h1, h2, h3, h4, h5, h6⟩ := forN_inv (f := blossom_most_B3 g S low) (fun j (m : List Int) => m.length = l.length ∧ (∀ i, i ≠ S → m.getD i 0 = l.getD i 0) ∧ 0 ≤ m.getD S 0 ∧ MatS (EB g) S (m.getD S 0).toNat ∧ l.getD (dropS S low) 0 ≤ m.getD S 0 ∧ ∀ k v, k < j → v < 9 → inS S v = true → v ≠ low → joinsB g k low v → 1 + l.getD (dropS (dropS S low) v) 0 ≤ m.getD S 0) (n := g.as.length) (k := 0) (s := l.set S (l.getD (dropS S low) 0)) (by
      have e1 : (l.set S (l.getD (dropS S low) 0)).getD S 0 = l.getD (dropS S low) 0 := by rw [getD_set', if_pos ⟨rfl, hl⟩]
      refine ⟨by simp, fun i hi => by rw [getD_set', if_neg (fun z => hi z.1)], by rw [e1]; exact base.h0, ?_, by rw [e1]; exact Int.le_refl _, fun k v hk => absurd hk (by omega)⟩
      rw [e1]
      exact base.has.keep (by omega) hS fun x hx h => by
        rw [inDrop hS hlow hx] at h
        simp only [Bool.and_eq_true] at h
        exact h.1) fun j m _ hj ⟨i1, i2, i3, i4, i5, i6⟩ => by
    have hj' : j < g.as.length := by omega
    have hmb : ∀ i, i < m.length → 0 ≤ m.getD i 0 ∧ m.getD i 0 ≤ 1000 := fun i hi => by
      by_cases ei : i = S
      · rw [ei]
        have := i4.le
        omega
      · rw [i2 i ei]; exact hb i (by omega)
    obtain ⟨m', e, ⟨rfl, hno⟩ | ⟨v, hv, hvin, hvne, hj2, huniq, rfl⟩⟩ := most_arc hg hn hS hlow hj' (l := m) (by omega) hmb
    · refine ⟨_, e, i1, i2, i3, i4, i5, fun k w hk hw hwin hwne hjj => ?_⟩
      by_cases ek : k = j
      · subst ek; exact absurd hjj (hno w hw hwin hwne)
      · exact i6 k w (by omega) hw hwin hwne hjj
    · have dd := dropS_le (dropS S low) v
      have hlt : dropS (dropS S low) v < S := by omega
      have hsub := hE _ hlt
      have eget : m.getD (dropS (dropS S low) v) 0 = l.getD (dropS (dropS S low) v) 0 := i2 _ (by omega)
      have enew : (m.set S (max (m.getD S 0) (1 + m.getD (dropS (dropS S low) v) 0))).getD S 0 = max (m.getD S 0) (1 + l.getD (dropS (dropS S low) v) 0) := by rw [getD_set', if_pos ⟨rfl, by omega⟩, eget]
      refine ⟨_, e, by simpa using i1, fun i hi => by rw [getD_set', if_neg (fun z => hi z.1)]; exact i2 i hi, by rw [enew]; omega, ?_, by rw [enew]; omega, fun k w hk hw hwin hwne hjj => ?_⟩
      · rw [enew]
        rcases Int.le_total (m.getD S 0) (1 + l.getD (dropS (dropS S low) v) 0) with c | c
        · rw [Int.max_eq_right c]
          have := hsub.h0
          rw [show (1 + l.getD (dropS (dropS S low) v) 0).toNat = (l.getD (dropS (dropS S low) v) 0).toNat + 1 by omega]
          exact .step hlow hv hin hvin (fun z => hvne z.symm) ⟨j, hj', hj2⟩ hsub.has
        · rw [Int.max_eq_left c]; exact i4
      · rw [enew]
        by_cases ek : k = j
        · subst ek
          rw [huniq w hw hwne hjj]; omega
        · have := i6 k w (by omega) hw hwin hwne hjj
          omega
  refine ⟨l', e, h1, h2, h3, h4, fun k hk => ?_⟩
  rcases hk.split (fun u v h => EB.symm h) hS hlow hin with hs | ⟨v, k', rfl, hv, hvin, hvne, ⟨j, hj, hjj⟩, hs⟩
  · have := base.most k hs
    omega
  · have dd := dropS_le (dropS S low) v
    have := (hE _ (show dropS (dropS S low) v < S by omega)).most k' hs
    have := h6 j v (by omega) hv hvin hvne hjj
    omega
end Go.Proofs.Ytdpkdicciclobaa
