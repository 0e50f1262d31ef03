/- Package double: what Check answers, and what Split makes. -/
import Derived.Test.YtlpelkfcmeapiaaPbirk
import Derived.Test.YtlpelkfcmeapiaaPgraph
import Derived.Test.YtlpelkfcmeapiaaGdouble
namespace Go.Proofs.Ytlpelkfcmeapiaa
open Go Go.Proofs.Ytlpelkfcmeapiaa.Sx
set_option linter.unusedVariables false
set_option linter.unusedSimpArgs false
def Mt (t : List (List Int)) (i k : Nat) : Int := (t.getD i []).getD k 0
/-- a square table, nothing below 0, whose lines are all as much -/
structure Dbl (n : Nat) (t : List (List Int)) (s : Int) : Prop where
  len : t.length = n
  row : ∀ i, i < n → (t.getD i []).length = n
  b : ∀ i k, i < n → k < n → 0 ≤ Mt t i k
  rs : ∀ i, i < n → tot (Mt t i) n = s
  cs : ∀ k, k < n → tot (fun i => Mt t i k) n = s
theorem tot_b6 {f : Nat → Int} : ∀ {m : Nat}, (∀ i, i < m → 0 ≤ f i ∧ f i ≤ 1000) → 0 ≤ tot f m ∧ tot f m ≤ 1000 * (m : Int)
  | 0, _ => by simp [tot]
  | m + 1, h => by
    have := tot_b6 (m := m) fun i hi => h i (by omega)
    have := h m (by omega)
    have e : tot f (m + 1) = tot f m + f m := rfl
    omega
theorem check_dbl (t : List (List Int)) : (∃ s, t.length ≤ 6 ∧ Dbl t.length t s ∧ 0 ≤ s ∧ s ≤ 6000 ∧ (t.length = 0 → s = 0) ∧ (∀ i k, i < t.length → k < t.length → Mt t i k ≤ 1000) ∧ double_Check_F t = some (s, 0)) ∨ (∃ e, e ≠ 0 ∧ double_Check_F t = some (0, e)) := by
  unfold double_Check_F
  by_cases c6 : 6 < ((t.length : Nat) : Int)
  · rw [if_pos c6]; exact .inr ⟨2, by decide, rfl⟩
  rw [if_neg c6]
  obtain ⟨q, e1, hq⟩ := forC_or (f := double_Check_B1 t) (fun j x => (∀ i, i < j → (t.getD i []).length = t.length ∧ ∀ k, k < t.length → 0 ≤ Mt t i k ∧ Mt t i k ≤ 1000) ∧ x = if j = 0 then 0 else tot (Mt t 0) t.length)
    (fun q => match q with | .go x => (∀ i, i < t.length → (t.getD i []).length = t.length ∧ ∀ k, k < t.length → 0 ≤ Mt t i k ∧ Mt t i k ≤ 1000) ∧ x = if t.length = 0 then 0 else tot (Mt t 0) t.length | .ret r => ∃ e, e ≠ 0 ∧ r = (0, e)) (n := t.length) (k := 0) (s := (0 : Int))
    ⟨fun i hi => absurd hi (by omega), rfl⟩ (fun j x _ hj ⟨i1, i2⟩ => by
      unfold double_Check_B1
      by_cases c1 : (((t.getD j []).length : Nat) : Int) ≠ ((t.length : Nat) : Int)
      · rw [if_pos c1]; exact .inr (.inr ⟨_, rfl, 3, by decide, rfl⟩)
      rw [if_neg c1]
      have hl : (t.getD j []).length = t.length := by omega
      obtain ⟨q2, e2, hq2⟩ := forC_or (f := double_Check_B2 t j) (fun l y => (∀ k, k < l → 0 ≤ Mt t j k ∧ Mt t j k ≤ 1000) ∧ y = if j = 0 then tot (Mt t 0) l else x)
        (fun q => match q with | .go y => (∀ k, k < t.length → 0 ≤ Mt t j k ∧ Mt t j k ≤ 1000) ∧ y = (if j = 0 then tot (Mt t 0) t.length else x) | .ret r => ∃ e, e ≠ 0 ∧ r = .ret (0, e)) (n := (t.getD j []).length) (k := 0) (s := x)
        ⟨fun k hk => absurd hk (by omega), by
          rw [i2]
          by_cases z : j = 0
          · rw [if_pos z, if_pos z]; rfl
          · rw [if_neg z, if_neg z]⟩ (fun l y _ hl2 ⟨j1, j2⟩ => by
          unfold double_Check_B2
          have hd : (t.getD j []).getD l 0 = Mt t j l := rfl
          rw [hd]
          by_cases d1 : Mt t j l < 0
          · rw [if_pos d1]; exact .inr (.inr ⟨_, rfl, 1, by decide, rfl⟩)
          by_cases d2 : 1000 < Mt t j l
          · rw [if_neg d1, if_pos d2]; exact .inr (.inr ⟨_, rfl, 1, by decide, rfl⟩)
          rw [if_neg d1, if_neg d2]
          have hnew : ∀ k, k < l + 1 → 0 ≤ Mt t j k ∧ Mt t j k ≤ 1000 := fun k hk => by
            by_cases z : k = l
            · subst z; omega
            · exact j1 k (by omega)
          by_cases d3 : ((j : Nat) : Int) = 0
          · have d3' : j = 0 := by omega
            subst d3'
            rw [if_pos rfl] at j2
            have hb := tot_b6 j1
            rw [if_pos d3, ck_some (inI_small (by omega) (by omega))]
            refine .inl ⟨_, rfl, hnew, ?_⟩
            rw [if_pos rfl, j2]; rfl
          · rw [if_neg d3]
            refine .inl ⟨_, rfl, hnew, ?_⟩
            rw [if_neg (by omega)] at j2 ⊢
            exact j2) (fun y ⟨j1, j2⟩ => by rw [Nat.zero_add, hl] at j1 j2; exact ⟨j1, j2⟩)
      rw [e2, bind_some']
      match q2, hq2 with
      | .ret r, ⟨e, he, hr⟩ =>
        subst hr
        exact .inr (.inr ⟨_, rfl, e, he, rfl⟩)
      | .go y, ⟨j1, j2⟩ =>
        refine .inl ⟨_, rfl, fun i hi => ?_, ?_⟩
        · by_cases z : i = j
          · subst z; exact ⟨hl, j1⟩
          · exact i1 i (by omega)
        · rw [if_neg (by omega), j2]
          by_cases z : j = 0
          · rw [if_pos z]
          · rw [if_neg z, i2, if_neg z]) (fun x ⟨i1, i2⟩ => by rw [Nat.zero_add] at i1 i2; exact ⟨i1, i2⟩)
  rw [e1, bind_some']
  match q, hq with
  | .ret r, ⟨e, he, hr⟩ =>
    subst hr
    exact .inr ⟨e, he, rfl⟩
  | .go x, ⟨h1, h2⟩ =>
    dsimp only
    obtain ⟨q3, e3, hq3⟩ := forC_or (f := double_Check_B3 t x) (fun j _ => ∀ i, i < j → tot (Mt t i) t.length = x ∧ tot (fun k => Mt t k i) t.length = x)
      (fun q => match q with | .go _ => ∀ i, i < t.length → tot (Mt t i) t.length = x ∧ tot (fun k => Mt t k i) t.length = x | .ret r => ∃ e, e ≠ 0 ∧ r = (0, e)) (n := t.length) (k := 0) (s := ())
      (fun i hi => absurd hi (by omega)) (fun j _ _ hj i1 => by
        have hj' : j < t.length := by omega
        unfold double_Check_B3
        obtain ⟨σ, e4, g1⟩ := forN_inv (f := double_Check_B4 t j) (fun l σ => σ = (tot (Mt t j) l, tot (fun k => Mt t k j) l)) (n := t.length) (k := 0) (s := ((0 : Int), (0 : Int))) rfl fun l σ _ hl hσ => by
          subst hσ
          have hl' : l < t.length := by omega
          have r1 := (h1 j hj').1
          have r2 := (h1 l hl').1
          have b1 := tot_b6 (f := Mt t j) (m := l) fun k hk => (h1 j hj').2 k (by omega)
          have b2 := tot_b6 (f := fun k => Mt t k j) (m := l) fun k hk => (h1 k (by omega)).2 j hj'
          have b3 := (h1 j hj').2 l hl'
          have b4 := (h1 l hl').2 j hj'
          unfold double_Check_B4
          dsimp only
          have d1 : (t.getD j []).getD l 0 = Mt t j l := rfl
          have d2 : (t.getD l []).getD j 0 = Mt t l j := rfl
          rw [d1, d2, ck_some (by omega), ck_some (inI_small (by omega) (by omega)), ck_some (by omega), ck_some (inI_small (by omega) (by omega))]
          exact ⟨_, rfl, rfl⟩
        rw [e4, bind_some', g1, Nat.zero_add]
        dsimp only
        by_cases c1 : tot (Mt t j) t.length ≠ x
        · rw [if_pos c1]; exact .inr (.inr ⟨_, rfl, 8, by decide, rfl⟩)
        rw [if_neg c1]
        by_cases c2 : tot (fun k => Mt t k j) t.length ≠ x
        · rw [if_pos c2]; exact .inr (.inr ⟨_, rfl, 8, by decide, rfl⟩)
        rw [if_neg c2]
        refine .inl ⟨_, rfl, fun i hi => ?_⟩
        by_cases z : i = j
        · subst z; exact ⟨by omega, by omega⟩
        · exact i1 i (by omega)) (fun _ i1 => by rw [Nat.zero_add] at i1; exact i1)
    rw [e3, bind_some']
    match q3, hq3 with
    | .ret r, ⟨e, he, hr⟩ =>
      subst hr
      exact .inr ⟨e, he, rfl⟩
    | .go _, h3 =>
      have hx : 0 ≤ x ∧ x ≤ 6000 ∧ (t.length = 0 → x = 0) := by
        by_cases z : t.length = 0
        · rw [if_pos z] at h2; omega
        · rw [if_neg z] at h2
          have := tot_b6 (f := Mt t 0) (m := t.length) fun k hk => (h1 0 (by omega)).2 k hk
          omega
      exact .inl ⟨x, by omega, ⟨rfl, fun i hi => (h1 i hi).1, fun i k hi hk => ((h1 i hi).2 k hk).1, fun i hi => (h3 i hi).1, fun k hk => (h3 k hk).2⟩, hx.1, hx.2.1, hx.2.2, fun i k hi hk => ((h1 i hi).2 k hk).2, rfl⟩
/-! ### first -/
/-- one column of each row, none twice, where nothing is 0 -/
structure Wy (n : Nat) (t : List (List Int)) (m : Nat) (L : List Int) : Prop where
  len : L.length = m
  nd : L.Nodup
  v : ∀ i, i < m → 0 ≤ L.getD i 0 ∧ L.getD i 0 < n ∧ 0 < Mt t i (L.getD i 0).toNat
theorem app_lt {L M : List Int} {i : Nat} (h : i < L.length) : (L ++ M).getD i 0 = L.getD i 0 := by
  rw [List.getD_eq_getElem?_getD, List.getD_eq_getElem?_getD, List.getElem?_append_left h]
theorem app_at {L M : List Int} {k : Int} : (L ++ k :: M).getD L.length 0 = k := by simp [List.getD_eq_getElem?_getD]
theorem cloneI_eq {l : List Int} (h : l.length ≤ 1000) : slices_Clone_int_F l = some l := by
  unfold slices_Clone_int_F
  rw [ck_some (by omega)]
  rfl
theorem first_ok {n : Nat} (hn : 0 < n) (hn6 : n ≤ 6) {t : List (List Int)} (hl : t.length = n) (hr : ∀ i, i < n → (t.getD i []).length = n) : ∀ (d fuel r : Nat) (used : List Int), r + d = n → d < fuel → Wy n t r used →
    ∃ out, double_first_F fuel t (r : Int) used = some out ∧ ((out = [] ∧ ∀ L, ¬ Wy n t n (used ++ L)) ∨ Wy n t n out)
  | d, 0, r, used, _, h, _ => absurd h (by omega)
  | 0, fuel + 1, r, used, hd, _, hu => by
    have hul := hu.len
    show ∃ out, double_first_S (double_first_F fuel) t (r : Int) used = some out ∧ _
    unfold double_first_S
    rw [if_pos (by omega), cloneI_eq (by omega), bind_some', ck_some (by omega)]
    refine ⟨_, rfl, .inr ?_⟩
    have e : r = n := by omega
    subst e
    exact hu
  | d + 1, fuel + 1, r, used, hd, hf, hu => by
    have hul := hu.len
    have hrn : r < n := by omega
    show ∃ out, double_first_S (double_first_F fuel) t (r : Int) used = some out ∧ _
    unfold double_first_S
    rw [if_neg (by omega), ck_some (by omega), Int.toNat_natCast, hr r hrn]
    obtain ⟨q, e, hq⟩ := forC_or (f := double_first_B1 (double_first_F fuel) t (r : Int) used) (fun j _ => ∀ L, Wy n t n (used ++ L) → (j : Int) ≤ L.getD 0 0) (fun q => match q with | .go _ => ∀ L, ¬ Wy n t n (used ++ L) | .ret out => Wy n t n out) (n := n) (k := 0) (s := ())
      (fun L hL => by
        cases L with
        | nil => simp
        | cons k L =>
          have := hL.v r hrn
          rw [← hul, app_at] at this
          simpa using this.1) (fun j _ _ hj hI => by
      have hj' : j < n := by omega
      unfold double_first_B1
      rw [Int.toNat_natCast]
      have hd0 : (t.getD r []).getD j 0 = Mt t r j := rfl
      rw [hd0]
      -- where the next one is not j
      have next : (∀ L, Wy n t n (used ++ (j : Int) :: L) → False) → ∀ L, Wy n t n (used ++ L) → ((j + 1 : Nat) : Int) ≤ L.getD 0 0 := fun hno L hL => by
        have h1 := hI L hL
        cases L with
        | nil => have := hL.len; simp at this; omega
        | cons k L =>
          have h2 : (k :: L).getD 0 0 = k := rfl
          rw [h2] at h1 ⊢
          have : k ≠ (j : Int) := fun z => hno L (z ▸ hL)
          omega
      by_cases c1 : 0 < Mt t r j
      · rw [if_pos c1, contains_eq, bind_some']
        by_cases c2 : ((j : Nat) : Int) ∈ used
        · rw [if_neg (by simp [c2])]
          refine .inl ⟨_, rfl, next fun L hL => ?_⟩
          have := (List.nodup_append.1 hL.nd).2.2 _ c2 (j : Int) (by simp)
          exact this rfl
        · rw [if_pos (by simp [c2]), ck_some (inI_small (by omega) (by omega)), cloneI_eq (by omega), bind_some', ck_some (by omega)]
          have hu' : Wy n t (r + 1) (used ++ [(j : Int)]) := ⟨by simp [hul], by
            rw [List.nodup_append]
            exact ⟨hu.nd, by simp, fun a ha b hb e => by
              obtain rfl := List.mem_singleton.1 hb
              exact c2 (e ▸ ha)⟩, fun i hi => by
            by_cases z : i = r
            · subst z
              rw [← hul, app_at, hul]
              exact ⟨by omega, by omega, by rw [Int.toNat_natCast]; exact c1⟩
            · rw [app_lt (by omega)]; exact hu.v i (by omega)⟩
          obtain ⟨out, eo, ho⟩ := first_ok hn hn6 hl hr d fuel (r + 1) (used ++ [(j : Int)]) (by omega) (by omega) hu'
          rw [show ((r : Nat) : Int) + 1 = ((r + 1 : Nat) : Int) by omega, eo, bind_some']
          rcases ho with ⟨rfl, hno⟩ | ho
          · rw [if_neg (by simp)]
            refine .inl ⟨_, rfl, next fun L hL => hno L ?_⟩
            rw [List.append_assoc]; exact hL
          · have := ho.len
            rw [if_pos (by omega)]
            exact .inr (.inr ⟨_, rfl, ho⟩)
      · rw [if_neg c1]
        refine .inl ⟨_, rfl, next fun L hL => ?_⟩
        have := (hL.v r hrn).2.2
        rw [← hul, app_at, Int.toNat_natCast, hul] at this
        exact c1 this) (fun _ hI L hL => by
      rw [Nat.zero_add] at hI
      have h1 := hI L hL
      cases L with
      | nil => have := hL.len; simp at this; omega
      | cons k L =>
        have h2 := (hL.v r hrn).2.1
        rw [← hul, app_at] at h2
        have h3 : (k :: L).getD 0 0 = k := rfl
        omega)
    rw [e, bind_some']
    match q, hq with
    | .go _, h => exact ⟨[], rfl, .inl ⟨rfl, h⟩⟩
    | .ret out, h => exact ⟨out, rfl, .inr h⟩
/-- where the lines are all as much, and not 0, there is one -/
theorem first_has {n : Nat} (hn : 0 < n) (hn6 : n ≤ 6) {t : List (List Int)} {x : Int} (h : Dbl n t x) (hx : 0 < x) : ∃ out, double_first_F 100 t 0 [] = some out ∧ Wy n t n out := by
  obtain ⟨out, e, ho⟩ := first_ok hn hn6 h.len h.row n 100 0 [] (by omega) (by omega) ⟨rfl, by simp, fun i hi => absurd hi (by omega)⟩
  refine ⟨out, e, ?_⟩
  rcases ho with ⟨_, hno⟩ | ho
  · obtain ⟨σ, h1, h2⟩ := pos_perm (n := n) (M := Mt t) h.b h.rs h.cs hx
    refine absurd ?_ (hno ((List.range n).map fun i => ((σ i : Nat) : Int)))
    have hg : ∀ i, i < n → ((List.range n).map fun i => ((σ i : Nat) : Int)).getD i 0 = ((σ i : Nat) : Int) := fun i hi => by simp [List.getD_eq_getElem?_getD, hi]
    refine ⟨by simp, ?_, fun i hi => ?_⟩
    · rw [List.nil_append]
      exact List.pairwise_map.2 (List.Pairwise.imp_of_mem (fun {a b} ha hb hne e => hne (h1.inj a b (List.mem_range.1 ha) (List.mem_range.1 hb) (by omega))) List.nodup_range)
    · rw [List.nil_append, hg i hi]
      exact ⟨by omega, by have := h1.lt i hi; omega, by rw [Int.toNat_natCast]; exact h2 i hi⟩
  · exact ho
end Go.Proofs.Ytlpelkfcmeapiaa
