/- DoubleBack: the law's function answers true. -/
import Derived.Test.YtmdpjhclgofbfaaPdsplit
import Derived.Test.YtmdpjhclgofbfaaPlin
import Derived.Test.YtmdpjhclgofbfaaPsortI
import Derived.Test.YtmdpjhclgofbfaaKDoubleBack
namespace Go.Proofs.Ytmdpjhclgofbfaa
open Go Go.Proofs.Ytmdpjhclgofbfaa.Sx
set_option linter.unusedVariables false
set_option linter.unusedSimpArgs false
theorem doublesB_ok : weirkeep_doubles_F = some true := by kernel_rfl
theorem tot_rngD {f : Nat → Int} {B : Int} : ∀ {m : Nat}, (∀ i, i < m → 0 ≤ f i ∧ f i ≤ B) → 0 ≤ tot f m ∧ tot f m ≤ B * (m : Int)
  | 0, _ => by simp [tot]
  | m + 1, h => by
    have h1 := tot_rngD (m := m) fun i hi => h i (by omega)
    have h2 := h m (by omega)
    have e : tot f (m + 1) = tot f m + f m := rfl
    have e2 : B * ((m + 1 : Nat) : Int) = B * (m : Int) + B := by rw [Int.natCast_add, Int.mul_add]; simp
    omega
theorem numbers_ok {n : Nat} (hn : n ≤ 6) {L : List Int} (h : Pm n L) : weirref_Numbers_F L (n : Int) = some true := by
  have hl := h.len
  unfold weirref_Numbers_F
  rw [cloneI_eq (by omega), bind_some']
  obtain ⟨a, e, sw, asc⟩ := sortI_12 lessI (l := L) (by omega) (fun _ _ => trivial)
  have al := sw.len
  have hinj : InjL L := fun p q hp hq e => h.inj.inj p q (by omega) (by omega) (by rw [e])
  have ainj := hinj.sw sw (Nat.le_refl _)
  have hV : AllV (fun x => 0 ≤ x ∧ x < (n : Int)) L := fun p hp => h.v p (by omega)
  have aV := hV.sw sw (Nat.le_refl _)
  have up : ∀ p q, p < q → q < n → a.getD p 0 < a.getD q 0 := fun p q hpq hq => by
    have h1 := asc p q (by omega) hpq (by omega)
    have h2 : a.getD p 0 ≠ a.getD q 0 := fun z => by have := ainj p q (by omega) (by omega) z; omega
    have h3 : a.getD p 0 ≤ a.getD q 0 := h1
    omega
  have lo : ∀ k : Nat, k < n → (k : Int) ≤ a.getD k 0 := fun k => by
    induction k with
    | zero => intro hk; have h1 : 0 ≤ a.getD 0 0 ∧ a.getD 0 0 < (n : Int) := aV 0 (by omega); omega
    | succ k ih => intro hk; have := ih (by omega); have := up k (k + 1) (by omega) hk; omega
  have hi : ∀ d k : Nat, k + d + 1 = n → a.getD k 0 ≤ (k : Int) := fun d => by
    induction d with
    | zero => intro k hk; have h1 : 0 ≤ a.getD k 0 ∧ a.getD k 0 < (n : Int) := aV k (by omega); omega
    | succ d ih => intro k hk; have := ih (k + 1) (by omega); have := up k (k + 1) (by omega) (by omega); omega
  rw [e, bind_some', ck_some al]
  obtain ⟨q, e2, hq⟩ := forC_or (f := weirref_Numbers_B1 a) (fun _ _ => True) (fun q => q = .go ()) (n := L.length) (k := 0) (s := ()) trivial (fun j _ _ hj _ => by
    have h1 := lo j (by omega)
    have h2 := hi (n - 1 - j) j (by omega)
    unfold weirref_Numbers_B1
    rw [if_neg (by omega)]
    exact .inl ⟨_, rfl, trivial⟩) (fun _ _ => rfl)
  rw [e2, hq, bind_some']
  exact congrArg some (decide_eq_true (by omega))
section
variable {n : Nat} {l : List Piece}
theorem add_piece {q : Piece} (hq : Pm n q.arcs) (ha : 1 ≤ q.amount ∧ q.amount ≤ 6000) {j : Nat} (hj : l.getD j El.d = q) {g : List (List Int)} (g1 : g.length = n) (g2 : ∀ i, i < n → (g.getD i []).length = n) (gb : ∀ i k, i < n → k < n → 0 ≤ Mt g i k ∧ Mt g i k ≤ 1000000000) :
    ∃ g', forN (weirkeep_DoubleBack_B3 l j) q.arcs.length 0 g = some g' ∧ g'.length = n ∧ (∀ i, i < n → (g'.getD i []).length = n) ∧ ∀ i k, i < n → k < n → Mt g' i k = Mt g i k + termP i k q := by
  obtain ⟨g', e, i1, i2, i3⟩ := forN_inv (f := weirkeep_DoubleBack_B3 l j) (fun m g' => g'.length = n ∧ (∀ i, i < n → (g'.getD i []).length = n) ∧ ∀ i k, i < n → k < n → Mt g' i k = Mt g i k + if i < m then termP i k q else 0) (n := q.arcs.length) (k := 0) (s := g) ⟨g1, g2, fun i k _ _ => by rw [if_neg (by omega)]; omega⟩ fun m g' _ hm ⟨i1, i2, i3⟩ => by
    have hm' : m < n := by have := hq.len; omega
    have hv := hq.v m hm'
    have hrw := i2 m hm'
    have hval := i3 m (q.arcs.getD m 0).toNat hm' (by omega)
    rw [if_neg (by omega)] at hval
    have hb := gb m (q.arcs.getD m 0).toNat hm' (by omega)
    unfold weirkeep_DoubleBack_B3
    rw [hj]
    have e0 : (g'.getD m []).getD (q.arcs.getD m 0).toNat 0 = Mt g' m (q.arcs.getD m 0).toNat := rfl
    rw [ck_some (by omega), ck_some (by omega), e0, ck_some (by unfold InI; omega)]
    refine ⟨_, rfl, by simp [i1], fun i hi => by rw [row_set]; exact i2 i hi, fun i k hi hk => ?_⟩
    rw [Mt_set (by omega) (by omega), i3 i k hi hk]
    by_cases z : i = m
    · subst z
      rw [if_pos (show i < i + 1 by omega)]
      unfold termP
      by_cases w : k = (q.arcs.getD i 0).toNat
      · rw [if_pos ⟨rfl, w⟩, if_pos (by omega), hval, w]; omega
      · rw [if_neg fun u => w u.2, if_neg (by omega), if_neg (by omega)]
    · rw [if_neg fun u => z u.1]
      by_cases w : i < m
      · rw [if_pos w, if_pos (by omega)]
      · rw [if_neg w, if_neg (by omega)]
  refine ⟨g', e, i1, i2, fun i k hi hk => ?_⟩
  rw [i3 i k hi hk, if_pos (by have := hq.len; omega)]
end
theorem DoubleBack_true (t : List (List Int)) : weirkeep_DoubleBack_F t = some true := by
  unfold weirkeep_DoubleBack_F
  rw [doublesB_ok, bind_some', if_neg (by decide)]
  rcases check_dbl t with ⟨s, h6, hD, s0, s1, sz, hb, hc⟩ | ⟨e, he, hc⟩
  · obtain ⟨l, es, hp, ht, hsum, hlen, hz⟩ := split_ok h6 hD s0 s1 sz hb hc
    rw [hc, bind_some']
    dsimp only
    rw [es, bind_some']
    dsimp only
    rw [if_neg (by decide), ck_some (by omega), Int.toNat_natCast]
    -- a table of nothing
    obtain ⟨g, eg, g1, g2⟩ := forN_inv (f := weirkeep_DoubleBack_B1 t) (fun j g => g.length = t.length ∧ ∀ i, i < j → g.getD i [] = List.replicate t.length 0) (n := t.length) (k := 0) (s := List.replicate t.length ([] : List Int)) ⟨by simp, fun i hi => absurd hi (by omega)⟩ fun j g _ hj ⟨i1, i2⟩ => by
      unfold weirkeep_DoubleBack_B1
      rw [ck_some (by omega), Int.toNat_natCast]
      refine ⟨_, rfl, by simp [i1], fun i hi => ?_⟩
      rw [getD_set']
      by_cases z : i = j
      · rw [if_pos ⟨z, by omega⟩]
      · rw [if_neg fun w => z w.1]; exact i2 i (by omega)
    rw [eg, bind_some']
    -- what the parts make
    obtain ⟨q, eq, hq⟩ := forC_or (f := weirkeep_DoubleBack_B2 t l) (fun j σ => σ.1 = tot (fun a => (l.getD a El.d).amount) j ∧ σ.2.length = t.length ∧ (∀ i, i < t.length → (σ.2.getD i []).length = t.length) ∧ ∀ i k, i < t.length → k < t.length → Mt σ.2 i k = tot (fun a => termP i k (l.getD a El.d)) j)
      (fun q => ∃ g', q = .go (s, g') ∧ g'.length = t.length ∧ (∀ i, i < t.length → (g'.getD i []).length = t.length) ∧ ∀ i k, i < t.length → k < t.length → Mt g' i k = Mt t i k) (n := l.length) (k := 0) (s := ((0 : Int), g))
      ⟨rfl, g1, fun i hi => by rw [g2 i (by omega)]; simp, fun i k hi hk => by
        unfold Mt
        dsimp only
        rw [g2 i (by omega), getD_replicate', if_pos hk]
        rfl⟩ (fun j σ _ hj ⟨i1, i2, i3, i4⟩ => by
        obtain ⟨x, g'⟩ := σ
        dsimp only at i1 i2 i3 i4
        have hj' : j < l.length := by omega
        have hq := hp _ (mem_getD (d := El.d) hj')
        have hterm : ∀ i k a, a < l.length → 0 ≤ termP i k (l.getD a El.d) ∧ termP i k (l.getD a El.d) ≤ 6000 := fun i k a ha => by
          have := hp _ (mem_getD (d := El.d) ha)
          unfold termP
          split <;> omega
        have hx := tot_rngD (f := fun a => (l.getD a El.d).amount) (B := 6000) (m := j) fun a ha => by
          have := hp _ (mem_getD (d := El.d) (show a < l.length by omega))
          omega
        rw [← i1] at hx
        obtain ⟨g'', e3, k1, k2, k3⟩ := add_piece (l := l) hq.2.2 ⟨hq.1, by omega⟩ (j := j) rfl i2 i3 fun i k hi hk => by
          have := tot_rngD (f := fun a => termP i k (l.getD a El.d)) (B := 6000) (m := j) fun a ha => hterm i k a (by omega)
          rw [i4 i k hi hk]
          omega
        unfold weirkeep_DoubleBack_B2
        dsimp only
        rw [if_neg (by omega), numbers_ok h6 hq.2.2, bind_some', if_neg (by decide), ck_some (by unfold InI; omega), e3, bind_some']
        refine .inl ⟨_, rfl, ?_, k1, k2, fun i k hi hk => ?_⟩
        · dsimp only; rw [i1]; rfl
        · dsimp only; rw [k3 i k hi hk, i4 i k hi hk]; rfl) (fun σ ⟨i1, i2, i3, i4⟩ => by
      obtain ⟨x, g'⟩ := σ
      dsimp only at i1 i2 i3 i4
      rw [Nat.zero_add] at i1 i4
      refine ⟨g', ?_, i2, i3, fun i k hi hk => ?_⟩
      · have : x = s := by rw [i1]; exact hsum
        rw [this]
      · rw [i4 i k hi hk, ht i k hi hk]; rfl)
    obtain ⟨g', rfl, k1, k2, k3⟩ := hq
    rw [eq, bind_some']
    dsimp only
    obtain ⟨q2, e4, hq2⟩ := forC_or (f := weirkeep_DoubleBack_B4 t g') (fun _ _ => True) (fun q => q = .go ()) (n := t.length) (k := 0) (s := ()) trivial (fun j _ _ hj _ => by
      have hj' : j < t.length := by omega
      have hrow : g'.getD j [] = t.getD j [] := eq_of_getD (d := (0 : Int)) (by rw [k2 j hj', hD.row j hj']) fun k hk => k3 j k hj' (by rw [k2 j hj'] at hk; exact hk)
      unfold weirkeep_DoubleBack_B4
      rw [ck_some (by omega), hrow, equalInts_eq, decide_eq_true rfl, bind_some', if_neg (by decide)]
      exact .inl ⟨_, rfl, trivial⟩) (fun _ _ => rfl)
    rw [e4, hq2, bind_some']
    dsimp only
    have hmul : 0 ≤ (((t.length : Nat) : Int) - 1) * (((t.length : Nat) : Int) - 1) ∧ (((t.length : Nat) : Int) - 1) * (((t.length : Nat) : Int) - 1) ≤ 25 := by
      have : t.length = 0 ∨ t.length = 1 ∨ t.length = 2 ∨ t.length = 3 ∨ t.length = 4 ∨ t.length = 5 ∨ t.length = 6 := by omega
      rcases this with h | h | h | h | h | h | h <;> rw [h] <;> decide
    rw [if_pos rfl, if_pos rfl, ck_some (inI_small (by omega) (by omega)), ck_some (inI_small (by omega) (by omega)), ck_some (inI_small (by omega) (by omega))]
    refine congrArg some (decide_eq_true ?_)
    -- how many
    by_cases c : t.length = 0
    · have := sz c
      omega
    · obtain ⟨p, hpn⟩ : ∃ p, t.length = p + 1 := ⟨t.length - 1, by omega⟩
      have key : ∀ k : Nat, ∃ i : Nat, k < l.length → i < t.length ∧ ∀ j, k < j → j < l.length → (l.getD j El.d).arcs.getD i 0 ≠ (l.getD k El.d).arcs.getD i 0 := fun k => by
        by_cases w : k < l.length
        · obtain ⟨i, h1, h2⟩ := hz k w
          exact ⟨i, fun _ => ⟨h1, h2⟩⟩
        · exact ⟨0, fun u => absurd u w⟩
      obtain ⟨z, hzz⟩ := Classical.axiomOfChoice key
      have hw := ways_few (p := p) (m := l.length) (σ := fun k i => ((l.getD k El.d).arcs.getD i 0).toNat) (fun k hk => by
        have := (hp _ (mem_getD (d := El.d) hk)).2.2.inj
        rw [hpn] at this
        exact this) (z := z) (fun k hk => by have := (hzz k hk).1; omega) (fun k j hkj hj e => by
        have hk : k < l.length := by omega
        have h1 := (hzz k hk).1
        have v1 := (hp _ (mem_getD (d := El.d) hk)).2.2.v (z k) h1
        have v2 := (hp _ (mem_getD (d := El.d) hj)).2.2.v (z k) h1
        exact (hzz k hk).2 j hkj hj (by omega))
      have e5 : ((t.length : Nat) : Int) - 1 = ((p : Nat) : Int) := by omega
      rw [e5]
      have e6 : ((p * p : Nat) : Int) = (p : Int) * (p : Int) := Int.natCast_mul p p
      omega
  · rw [hc, bind_some']
    dsimp only
    rw [split_bad he hc, bind_some']
    dsimp only
    rw [if_pos he, if_pos rfl]
    rfl
end Go.Proofs.Ytmdpjhclgofbfaa
