/- Package gale: Make makes a table wherever there is one. -/
import Derived.Test.YtlpelkfcmeapiaaPgale2
import Derived.Test.YtlpelkfcmeapiaaPtable
namespace Go.Proofs.Ytlpelkfcmeapiaa
open Go Go.Proofs.Ytlpelkfcmeapiaa.Sx
set_option linter.unusedVariables false
set_option linter.unusedSimpArgs false
theorem Ord.surj {n : Nat} {o : List Int} (h : Ord n o) {k : Nat} (hk : k < n) : ∃ p, p < n ∧ o.getD p 0 = (k : Int) := Classical.byContradiction fun hno => by
  have e := tot_swap (fun y p => if o.getD p 0 = (y : Int) then (1 : Int) else 0) n n
  have e1 : tot (fun p => tot (fun y => if o.getD p 0 = (y : Int) then (1 : Int) else 0) n) n = tot (fun _ => 1) n := tot_congr fun p hp => by
    have hr := h.rg p hp
    rw [tot_single (k := (o.getD p 0).toNat) (by omega) fun y _ hne => if_neg (by omega), if_pos (by omega)]
  have e2 : tot (fun y => tot (fun p => if o.getD p 0 = (y : Int) then (1 : Int) else 0) n) n < tot (fun _ => 1) n := by
    refine tot_lt' (fun y hy => ?_) hk ?_
    · by_cases c : ∃ p, p < n ∧ o.getD p 0 = (y : Int)
      · obtain ⟨p, hp, hpy⟩ := c
        rw [tot_single (k := p) hp fun q hq hne => if_neg fun z => hne (h.inj q p hq hp (by rw [z, hpy])), if_pos hpy]
        exact Int.le_refl _
      · rw [tot_zero fun p hp => if_neg fun z => c ⟨p, hp, z⟩]
        omega
    · rw [tot_zero fun p hp => if_neg fun z => hno ⟨p, hp, z⟩]
      omega
  rw [e, e1] at e2
  exact absurd e2 (Int.lt_irrefl _)
/-- the first r of an order -/
def topG (o : List Int) (r : Nat) (k : Nat) : Int := tot (fun p => if o.getD p 0 = (k : Int) then 1 else 0) r
theorem topG_of {n : Nat} {o : List Int} (h : Ord n o) {r : Nat} (hr : r ≤ n) {p : Nat} (hp : p < n) {k : Nat} (hk : o.getD p 0 = (k : Int)) : topG o r k = if p < r then 1 else 0 := by
  unfold topG
  by_cases c : p < r
  · rw [if_pos c, tot_single (k := p) c fun q hq hne => if_neg fun z => hne (h.inj q p (by omega) hp (by rw [z, hk])), if_pos hk]
  · rw [if_neg c, tot_zero fun q hq => if_neg fun z => by
      have := h.inj q p (by omega) hp (by rw [z, hk])
      omega]
theorem topG01 {n : Nat} {o : List Int} (h : Ord n o) {r : Nat} (hr : r ≤ n) (k : Nat) : topG o r k = 0 ∨ topG o r k = 1 := by
  by_cases hk : k < n
  · obtain ⟨p, hp, e⟩ := h.surj hk
    rw [topG_of h hr hp e]
    split
    · exact .inr rfl
    · exact .inl rfl
  · left
    exact tot_zero fun p hp => if_neg fun z => by
      have := h.rg p (by omega)
      omega
theorem topG_sum {n : Nat} {o : List Int} (h : Ord n o) {r : Nat} (hr : r ≤ n) : tot (topG o r) n = r := by
  have e := tot_swap (fun y p => if o.getD p 0 = (y : Int) then (1 : Int) else 0) r n
  show tot (fun y => tot (fun p => if o.getD p 0 = (y : Int) then (1 : Int) else 0) r) n = _
  rw [e]
  have e1 : tot (fun p => tot (fun y => if o.getD p 0 = (y : Int) then (1 : Int) else 0) n) r = tot (fun _ => 1) r := tot_congr fun p hp => by
    have hrg := h.rg p (by omega)
    rw [tot_single (k := (o.getD p 0).toNat) (by omega) fun y _ hne => if_neg (by omega), if_pos (by omega)]
  rw [e1, tot_const]
  omega
theorem bit_hi {x : Int} {n k : Nat} (h : Int.fdiv x (2 ^ n) = 0) (hk : n ≤ k) (hk16 : k < 16) : bit x (k : Int) = 0 := by
  have h1 := fdiv_zero.1 h
  have h2 : (2 : Int) ^ n ≤ 2 ^ k := by
    have := Nat.pow_le_pow_right (n := 2) (by omega) hk
    have h3 : ((2 ^ n : Nat) : Int) ≤ ((2 ^ k : Nat) : Int) := by omega
    simpa using h3
  unfold bit
  rw [and1, Int.toNat_natCast, Nat.min_eq_left (by omega), fdiv_zero.2 ⟨h1.1, by omega⟩]
  rfl
/-- rows from the j-th on stand in a table with these columns -/
def ExT (rows : List Int) (n j : Nat) (l : List Int) : Prop := ∃ M : Nat → Nat → Int, (∀ i k, M i k = 0 ∨ M i k = 1) ∧ (∀ i, i < rows.length - j → tot (M i) n = rows.getD (j + i) 0) ∧ ∀ k, k < n → tot (fun i => M i k) (rows.length - j) = l.getD k 0
theorem tot_head (f : Nat → Int) : ∀ m : Nat, tot f (m + 1) = f 0 + tot (fun i => f (i + 1)) m
  | 0 => by simp [tot]
  | m + 1 => by
    rw [tot, tot_head f m, tot]
    omega
theorem row_noret {n : Nat} (hn : n ≤ 12) {o l9 rows : List Int} (ho : Ord n o) {i : Nat} (hr : 0 ≤ rows.getD i 0 ∧ rows.getD i 0 ≤ n) (h9 : ∀ k, k < n → l9.getD k 0 ≤ 12) {j : Nat} (hj : j < (rows.getD i 0).toNat) {σ : List Int × Int} (h : RowS n o l9 j σ)
    (hw : 1 ≤ keyG l9 o j) : gale_Make_B3 rows i o j σ ≠ some (.ret (.ret ([], 5))) := by
  obtain ⟨l, x⟩ := σ
  have hlen : l.length = n := h.len
  have hsub : (subl o 0 (rows.getD i 0).toNat).getD j (0 : Int) = o.getD j 0 := by
    have := subl_getD (xs := o) (r := 0) (len := (rows.getD i 0).toNat) (e := j) hj
    rw [Nat.add_zero] at this
    exact this
  have hrg := ho.rg j (by omega)
  obtain ⟨κ, hκ⟩ : ∃ κ : Nat, o.getD j 0 = (κ : Int) := ⟨(o.getD j 0).toNat, by omega⟩
  have hκn : κ < n := by omega
  have hs := h.sum κ hκn
  have h9k := h9 κ hκn
  have hb0 : bit x (κ : Int) = 0 := by have := h.new j (Nat.le_refl _) (by omega); rw [hκ] at this; exact this
  dsimp only at hs
  unfold keyG at hw
  rw [hκ, Int.toNat_natCast] at hw
  unfold gale_Make_B3
  dsimp only
  rw [hsub, hκ, ck_some (by omega), Int.toNat_natCast, if_neg (by omega), ck_some (inI_small (by omega) (by omega)), ck_some (by omega)]
  intro e
  cases e
theorem make_step2 {rows cols : List Int} (hg : OkG rows cols) {j : Nat} (hj : j < rows.length) {σ : List Int × List U16} (h : MakeS rows cols j σ) (hT : ExT rows cols.length j σ.1) :
    ∃ σ', gale_Make_B1 rows cols j σ = some (.go σ') ∧ MakeS rows cols (j + 1) σ' ∧ ExT rows cols.length (j + 1) σ'.1 := by
  have hS0 := h
  obtain ⟨l9, l11⟩ := σ
  have hlen : l9.length = cols.length := h.len
  have hcnt : l11.length = j := h.cnt
  have hc := hg.c; have hr12 := hg.r
  have hr := hg.rs j hj
  obtain ⟨o0, e0, ho0⟩ := order_ok hg.c
  obtain ⟨o, e1, ho, hdesc⟩ := sort_desc hg.c ho0 hlen
  have ol := ho.len; have ol0 := ho0.len
  have t0 : ∀ k, k < cols.length → 0 ≤ tot (fun i => bit (l11.getD i El.d).v (k : Int)) j := fun k _ => tot_nonneg fun i _ => by have := bit01 (l11.getD i El.d).v (k : Int); omega
  have h9 : ∀ k, k < cols.length → l9.getD k 0 ≤ 12 := fun k hk => by
    have a := h.col k hk
    have b := (hg.cs k hk).2
    have c := t0 k hk
    dsimp only at a
    omega
  -- the greedy row
  have hrn : (rows.getD j 0).toNat ≤ cols.length := by omega
  obtain ⟨M, m1, m2, m3⟩ := hT
  obtain ⟨m, hm⟩ : ∃ m, rows.length - j = m + 1 := ⟨rows.length - j - 1, by omega⟩
  rw [hm] at m2 m3
  have hTab : Tab m cols.length (fun i => rows.getD (j + i) 0) (fun k => l9.getD k 0) M := ⟨m1, m2, m3⟩
  obtain ⟨d, hd⟩ : ∃ d : Nat, offG M (topG o (rows.getD j 0).toNat) cols.length ≤ d := ⟨(offG M (topG o (rows.getD j 0).toNat) cols.length).toNat, by omega⟩
  obtain ⟨M', hM', hrow⟩ := greedy_row (G := topG o (rows.getD j 0).toNat) (topG01 ho hrn) (by rw [topG_sum ho hrn]; show _ = rows.getD (j + 0) 0; rw [Nat.add_zero]; omega) (fun k k' hk hk' g1 g2 => by
    obtain ⟨p, hp, ep⟩ := ho.surj hk
    obtain ⟨q, hq, eq⟩ := ho.surj hk'
    rw [topG_of ho hrn hp ep] at g1
    rw [topG_of ho hrn hq eq] at g2
    have hpr : p < (rows.getD j 0).toNat := Classical.byContradiction fun z => by rw [if_neg z] at g1; omega
    have hqr : ¬ q < (rows.getD j 0).toNat := fun z => by rw [if_pos z] at g2; omega
    have := hdesc p q (by omega) hq
    unfold keyG at this
    rw [ep, eq, Int.toNat_natCast, Int.toNat_natCast] at this
    exact this) d M hTab hd
  have want : ∀ p, p < (rows.getD j 0).toNat → 1 ≤ keyG l9 o p := fun p hp => by
    have hrg := ho.rg p (by omega)
    obtain ⟨k, hk⟩ : ∃ k : Nat, o.getD p 0 = (k : Int) := ⟨(o.getD p 0).toNat, by omega⟩
    have h1 := hrow k (by omega)
    rw [topG_of ho hrn (by omega) hk, if_pos hp] at h1
    have h2 := hM'.c k (by omega)
    rw [tot_head] at h2
    have h3 : 0 ≤ tot (fun i => M' (i + 1) k) m := tot_nonneg fun i _ => by have := hM'.b (i + 1) k; omega
    unfold keyG
    rw [hk, Int.toNat_natCast]
    omega
  obtain ⟨q, e2, ⟨l, x⟩, rfl, hS⟩ := forC_or (f := gale_Make_B3 rows j o) (fun i σ => RowS cols.length o l9 i σ) (fun q => ∃ σ, q = .go σ ∧ RowS cols.length o l9 (rows.getD j 0).toNat σ) (n := (rows.getD j 0).toNat) (k := 0) (s := (l9, 0)) ⟨hlen, fun k hk => by dsimp only; rw [bit_zero, Int.add_zero], fun k hk => h.pos k hk, fun p _ _ => bit_zero _, by unfold onesG; exact tot_zero fun k _ => bit_zero _, by dsimp only; exact Int.zero_fdiv _⟩ (fun i σ _ hi hI => by
    rcases row_step hg.c ho hr h9 (show i < (rows.getD j 0).toNat by omega) hI with ⟨σ', p1, p2⟩ | p
    · exact .inl ⟨σ', p1, p2⟩
    · exact absurd p (row_noret hg.c ho hr h9 (by omega) hI (want i (by omega)))) (fun σ hI => ⟨σ, rfl, by rw [Nat.zero_add] at hI; exact hI⟩)
  -- the row is the greedy one
  have hle : ∀ k, k < cols.length → bit x (k : Int) ≤ topG o (rows.getD j 0).toNat k := fun k hk => by
    obtain ⟨p, hp, ep⟩ := ho.surj hk
    rw [topG_of ho hrn hp ep]
    by_cases c : p < (rows.getD j 0).toNat
    · rw [if_pos c]
      have := bit01 x (k : Int)
      omega
    · rw [if_neg c]
      have := hS.new p (by omega) hp
      rw [ep] at this
      exact Int.le_of_eq this
  have hsum : tot (fun k => bit x (k : Int)) cols.length = tot (topG o (rows.getD j 0).toNat) cols.length := by
    rw [topG_sum ho hrn]
    have h1 := hS.ones
    unfold onesG at h1
    obtain ⟨y, hy⟩ : ∃ y, 16 = cols.length + y := ⟨16 - cols.length, by omega⟩
    dsimp only at h1
    rw [hy, tot_split, tot_zero (f := fun i => bit x ((cols.length + i : Nat) : Int)) fun i hi => bit_hi hS.hi (by omega) (by omega)] at h1
    omega
  have heq := tot_eq_each hle hsum
  unfold gale_Make_B1
  dsimp only
  rw [e0, bind_some', e1, bind_some', ck_some (by omega), ck_some (by omega), ck_some (by omega), e2, bind_some']
  dsimp only
  rw [ck_some (by omega)]
  have hB : gale_Make_B1 rows cols j (l9, l11) = some (.go (l, l11 ++ [(⟨x⟩ : U16)])) := by
    unfold gale_Make_B1
    dsimp only
    rw [e0, bind_some', e1, bind_some', ck_some (by omega), ck_some (by omega), ck_some (by omega), e2, bind_some']
    dsimp only
    rw [ck_some (by omega)]
  rcases make_step hg hj hS0 with ⟨σ', p1, p2⟩ | p
  · rw [hB] at p1
    injection p1 with p1
    injection p1 with p1
    subst p1
    refine ⟨_, rfl, p2, fun i k => M' (i + 1) k, fun i k => hM'.b (i + 1) k, fun i hi => ?_, fun k hk => ?_⟩
    · have := hM'.r (i + 1) (by omega)
      rw [show j + 1 + i = j + (i + 1) by omega]
      exact this
    · have h1 := hM'.c k hk
      rw [tot_head, hrow k hk] at h1
      have h2 := hS.sum k hk
      have h3 := heq k hk
      dsimp only at h1 h2 h3 ⊢
      rw [show rows.length - (j + 1) = m by omega]
      omega
  · rw [hB] at p
    injection p with p
    cases p
theorem make_complete {rows cols : List Int} (hg : OkG rows cols) (hT : ExT rows cols.length 0 cols) : ∃ out, gale_Make_F rows cols = some (out, 0) := by
  have hc := hg.c
  have ecl : slices_Clone_int_F cols = some cols := by
    unfold slices_Clone_int_F
    rw [ck_some (by omega)]; rfl
  have echk : gale_Check_F rows cols = some 0 := by
    rcases check_galeL rows cols with ⟨_, e⟩ | ⟨e1, he, e⟩
    · exact e
    · exact absurd hg (fun hg => by
        unfold gale_Check_F at e
        have hr := hg.r
        rw [if_neg (by omega), if_neg (by omega), forC_all fun j _ hj => by
          have := hg.rs j (by omega)
          unfold gale_Check_B1
          rw [if_neg (by omega), if_neg (by omega)], bind_some'] at e
        dsimp only at e
        rw [forC_all fun j _ hj => by
          have := hg.cs j (by omega)
          unfold gale_Check_B2
          rw [if_neg (by omega), if_neg (by omega)], bind_some'] at e
        injection e with e
        exact he e.symm)
  obtain ⟨q, e2, ⟨l, out⟩, rfl, hS, M, _, _, m3⟩ := forC_or (f := gale_Make_B1 rows cols) (fun i σ => MakeS rows cols i σ ∧ ExT rows cols.length i σ.1) (fun q => ∃ σ, q = .go σ ∧ MakeS rows cols rows.length σ ∧ ExT rows cols.length rows.length σ.1) (n := rows.length) (k := 0) (s := (cols, [])) ⟨⟨rfl, fun k hk => (hg.cs k hk).1, rfl, fun i hi => absurd hi (by omega), fun k hk => by dsimp only; rw [tot, Int.add_zero]⟩, hT⟩ (fun i σ _ hi ⟨i1, i2⟩ => by
    obtain ⟨σ', p1, p2, p3⟩ := make_step2 hg (show i < rows.length by omega) i1 i2
    exact .inl ⟨σ', p1, p2, p3⟩) (fun σ ⟨i1, i2⟩ => ⟨σ, rfl, by rw [Nat.zero_add] at i1; exact i1, by rw [Nat.zero_add] at i2; exact i2⟩)
  have hl : l.length = cols.length := hS.len
  have hz : slices_ContainsFunc_int_gale_Make_c2_F l = some false := by
    unfold slices_ContainsFunc_int_gale_Make_c2_F slices_IndexFunc_int_gale_Make_c2_F
    rw [forC_all fun j _ hj => ?_]
    · rfl
    · have := m3 j (by omega)
      rw [Nat.sub_self] at this
      rw [tot] at this
      unfold slices_IndexFunc_int_gale_Make_c2_B1 gale_Make_c2_F
      rw [bind_some', ← this, if_neg (by decide)]
  refine ⟨out, ?_⟩
  unfold gale_Make_F
  rw [echk, bind_some', if_neg (by decide), ecl, bind_some', e2, bind_some']
  dsimp only
  rw [hz, bind_some', if_neg (by decide)]
end Go.Proofs.Ytlpelkfcmeapiaa
