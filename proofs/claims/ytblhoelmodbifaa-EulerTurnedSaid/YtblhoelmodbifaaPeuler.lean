/- Package euler: what Can answers. -/
import Derived.Test.YtblhoelmodbifaaPkeep
import Derived.Test.YtblhoelmodbifaaPparts
import Derived.Test.YtblhoelmodbifaaGeuler
namespace Go.Proofs.Ytblhoelmodbifaa
open Go Go.Proofs.Ytblhoelmodbifaa.Sx
set_option linter.unusedVariables false
set_option linter.unusedSimpArgs false
/-- how many more arcs lead from a node than to it -/
def exc (l : List Arc) (x : Int) : Int := outs l x - inns l x
def cntD (l : List Arc) (v : Int) (n : Nat) : Nat := cnt (fun x => decide (exc l (x : Int) = v)) n
/-- all are alike: no node's numbers are farther apart than one -/
def Near (l : List Arc) (n : Nat) : Prop := ∀ x : Nat, x < n → -1 ≤ exc l x ∧ exc l x ≤ 1
def Conn (l : List Arc) (p : List Int) : Prop := ∀ a, a ∈ l → atI p a.f = atI p (l.getD 0 El.d).f
theorem tot_exc {g : Graph} (hg : Ok g) : tot (fun x => exc g.as x) g.n.toNat = 0 := by
  unfold exc
  rw [tot_sub, tot_outs hg.arc, tot_inns hg.arc]; omega
theorem cnt_exc {l : List Arc} : ∀ {n : Nat}, Near l n → tot (fun x => exc l x) n = (cntD l 1 n : Int) - cntD l (-1) n
  | 0, _ => rfl
  | n + 1, h => by
    have ih := cnt_exc (n := n) fun x hx => h x (by omega)
    have hn := h n (by omega)
    rw [tot, ih]
    unfold cntD
    simp only [cnt]
    by_cases h1 : exc l n = 1
    · simp [h1]; omega
    · by_cases h2 : exc l n = -1
      · simp [h2]; omega
      · have h3 : exc l n = 0 := by omega
        simp [h3]
theorem near_same {g : Graph} (hg : Ok g) (h : Near g.as g.n.toNat) : cntD g.as 1 g.n.toNat = cntD g.as (-1) g.n.toNat := by
  have h1 := cnt_exc h
  have h2 := tot_exc hg
  omega
theorem can_loop1 {g : Graph} (hg : Ok g) : ∃ q, forC (euler_Can_B1 (nodes (outs g.as) g.n) (nodes (inns g.as) g.n)) g.n.toNat 0 (0, 0) = some q ∧
    (match q with | .go s => Near g.as g.n.toNat ∧ s = (cntD g.as 1 g.n.toNat, cntD g.as (-1) g.n.toNat) | .ret r => r = (0, 0) ∧ ¬ Near g.as g.n.toNat) := by
  have n1 := hg.n1; have hl := hg.len
  refine forC_or (f := euler_Can_B1 (nodes (outs g.as) g.n) (nodes (inns g.as) g.n)) (fun j s => Near g.as j ∧ s = (cntD g.as 1 j, cntD g.as (-1) j))
    (fun q => match q with | .go s => Near g.as g.n.toNat ∧ s = (cntD g.as 1 g.n.toNat, cntD g.as (-1) g.n.toNat) | .ret r => r = (0, 0) ∧ ¬ Near g.as g.n.toNat)
    ⟨fun x hx => absurd hx (by omega), rfl⟩ (fun j s _ hj ⟨i1, i2⟩ => ?_) (fun s h => by rw [Nat.zero_add] at h; exact h)
  subst i2
  have hj' : j < g.n.toNat := by omega
  have e1 := nodes_getD (outs g.as) hj'
  have e2 := nodes_getD (inns g.as) hj'
  have b1 := outs_le g.as j; have b2 := inns_le g.as j
  have c1 : cntD g.as 1 j ≤ j := cnt_le _ _
  have c2 : cntD g.as (-1) j ≤ j := cnt_le _ _
  unfold euler_Can_B1
  dsimp only
  rw [ck_some (by rw [nodes_len]; exact hj'), ck_some (by rw [nodes_len]; exact hj'), e1, e2, ck_some (inI_small (by omega) (by omega))]
  have snoc : -1 ≤ exc g.as j ∧ exc g.as j ≤ 1 → Near g.as (j + 1) := fun h x hx => by
    by_cases e : x = j
    · subst e; exact h
    · exact i1 x (by omega)
  have s1 : cntD g.as 1 (j + 1) = cntD g.as 1 j + if exc g.as j = 1 then 1 else 0 := by
    unfold cntD; simp only [cnt]; by_cases h : exc g.as j = 1 <;> simp [h]
  have s2 : cntD g.as (-1) (j + 1) = cntD g.as (-1) j + if exc g.as j = -1 then 1 else 0 := by
    unfold cntD; simp only [cnt]; by_cases h : exc g.as j = -1 <;> simp [h]
  have ed : exc g.as j = outs g.as j - inns g.as j := rfl
  by_cases h1 : outs g.as j - inns g.as j = 1
  · rw [if_pos h1, ck_some (inI_small (by omega) (by omega))]
    refine .inl ⟨_, rfl, snoc (by omega), ?_⟩
    rw [s1, s2, if_pos (by omega), if_neg (by omega)]
    rfl
  · rw [if_neg h1]
    by_cases h2 : outs g.as j - inns g.as j = -1
    · rw [if_pos h2, ck_some (inI_small (by omega) (by omega))]
      refine .inl ⟨_, rfl, snoc (by omega), ?_⟩
      rw [s1, s2, if_neg (by omega), if_pos (by omega)]
      rfl
    · rw [if_neg h2]
      by_cases h3 : outs g.as j - inns g.as j = 0
      · rw [if_neg (by simpa using h3)]
        refine .inl ⟨_, rfl, snoc (by omega), ?_⟩
        rw [s1, s2, if_neg (by omega), if_neg (by omega)]
        rfl
      · rw [if_pos h3]
        refine .inr (.inr ⟨_, rfl, rfl, fun h => ?_⟩)
        have := h j hj'
        omega
theorem can_loop2 {g : Graph} (hg : Ok g) {p : List Int} (hp : p.length = g.n.toNat) : ∃ q, forC (euler_Can_B2 g p) g.as.length 0 () = some q ∧ (match q with | .go _ => Conn g.as p | .ret r => r = (0, 0) ∧ ¬ Conn g.as p) := by
  refine forC_or (f := euler_Can_B2 g p) (fun j _ => ∀ k, k < j → atI p (g.as.getD k El.d).f = atI p (g.as.getD 0 El.d).f) (fun q => match q with | .go _ => Conn g.as p | .ret r => r = (0, 0) ∧ ¬ Conn g.as p)
    (fun k hk => absurd hk (by omega)) (fun j _ _ hj i1 => ?_) (fun _ i1 a ha => by
      obtain ⟨k, hk, e⟩ := getD_of_mem (d := El.d) ha
      rw [← e]; exact i1 k (by omega))
  have hj' : j < g.as.length := by omega
  have hG := hg.arc _ (mem_getD (d := El.d) hj')
  have hG0 := hg.arc _ (mem_getD (d := El.d) (show 0 < g.as.length by omega))
  have f0 := hG.f0; have f1 := hG.f1; have f2 := hG0.f0; have f3 := hG0.f1
  unfold euler_Can_B2
  rw [ck_some (by omega), ck_some (by omega), ck_some (by omega)]
  by_cases h : atI p (g.as.getD j El.d).f = atI p (g.as.getD 0 El.d).f
  · left
    refine ⟨(), if_neg fun z => z h, fun k hk => ?_⟩
    by_cases e : k = j
    · subst e; exact h
    · exact i1 k (by omega)
  · right; right
    exact ⟨(0, 0), if_pos h, rfl, fun hc => h (hc _ (mem_getD (d := El.d) hj'))⟩
open Classical in
/-- what Can answers of a right graph -/
noncomputable def kindOf (g : Graph) (p : List Int) : Int := if Near g.as g.n.toNat ∧ Conn g.as p then (if cntD g.as 1 g.n.toNat = 0 then 2 else if cntD g.as 1 g.n.toNat = 1 then 1 else 0) else 0
theorem can_ok {g : Graph} (hg : Ok g) : ∃ p, walk_Parts_F g = some (p, 0) ∧ Parted g p ∧ euler_Can_F g = some (kindOf g p, 0) := by
  have n1 := hg.n1; have n0 := hg.n0
  obtain ⟨p, hp, hP⟩ := parts_ok hg
  refine ⟨p, hp, hP, ?_⟩
  unfold euler_Can_F
  rw [degrees_ok hg, bind_some']
  dsimp only
  rw [if_neg (by decide), hp, bind_some']
  dsimp only
  rw [ck_some (inI_small (by omega) (by omega))]
  obtain ⟨q, e1, h1⟩ := can_loop1 hg
  rw [e1, bind_some']
  match q, h1 with
  | .ret r, h1 =>
    obtain ⟨rfl, h1⟩ := h1
    have : kindOf g p = 0 := if_neg (fun h => h1 h.1)
    rw [this]
  | .go s, h1 =>
    obtain ⟨h1, rfl⟩ := h1
    obtain ⟨q2, e2, h2⟩ := can_loop2 hg hP.pi.len
    dsimp only
    rw [e2, bind_some']
    match q2, h2 with
    | .ret r, h2 =>
      obtain ⟨rfl, h2⟩ := h2
      have : kindOf g p = 0 := if_neg (fun h => h2 h.2)
      rw [this]
    | .go _, h2 =>
      have hs := near_same hg h1
      dsimp only
      have : kindOf g p = _ := if_pos ⟨h1, h2⟩
      rw [this, ← hs]
      by_cases c0 : cntD g.as 1 g.n.toNat = 0
      · rw [if_pos (by omega), if_pos c0]
      · rw [if_neg (by omega), if_neg c0]
        by_cases c1 : cntD g.as 1 g.n.toNat = 1
        · rw [if_pos (by omega), if_pos (by omega), if_pos c1]
        · rw [if_neg (by omega), if_neg c1]
theorem can_bad {g : Graph} (h : checkF g (-10000) ≠ 0) : euler_Can_F g = some (0, checkF g (-10000)) := by
  unfold euler_Can_F
  rw [degrees_bad h, bind_some']
  dsimp only
  rw [if_pos h]
end Go.Proofs.Ytblhoelmodbifaa
