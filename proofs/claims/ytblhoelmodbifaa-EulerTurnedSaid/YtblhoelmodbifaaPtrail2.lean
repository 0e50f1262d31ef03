/- Package euler: what Trail answers. -/
import Derived.Test.YtblhoelmodbifaaPtrail
namespace Go.Proofs.Ytblhoelmodbifaa
open Go Go.Proofs.Ytblhoelmodbifaa.Sx
set_option linter.unusedVariables false
set_option linter.unusedSimpArgs false
theorem reverse_ok {l : List Int} (hl : l.length ≤ 100000) : ∃ r, slices_Reverse_int_F l = some r ∧ r.length = l.length ∧ ∀ i, i < l.length → r.getD i 0 = l.getD (l.length - 1 - i) 0 := by
  unfold slices_Reverse_int_F
  rw [ck_some (inI_small (by omega) (by omega))]
  obtain ⟨q, e, hQ⟩ := loopC_or (f := slices_Reverse_int_B1) (fun (τ : List Int × Nat × Int) => τ.1.length = l.length ∧ τ.2.2 = (l.length : Int) - 1 - τ.2.1 ∧ (τ.2.1 : Int) ≤ τ.2.2 + 1 ∧ ∀ i : Nat, i < l.length → τ.1.getD i 0 = if i < τ.2.1 ∨ l.length - τ.2.1 ≤ i then l.getD (l.length - 1 - i) 0 else l.getD i 0) (fun q => ∃ σ : List Int × Nat × Int, q = .go σ ∧ σ.1.length = l.length ∧ ∀ i, i < l.length → σ.1.getD i 0 = l.getD (l.length - 1 - i) 0) (fun τ => (τ.2.2 - τ.2.1).toNat) (fun τ ⟨h1, h2, h3, h4⟩ => by
    obtain ⟨m, a, b⟩ := τ
    dsimp only at h1 h2 h3 h4
    unfold slices_Reverse_int_B1
    dsimp only
    by_cases c : ((a : Nat) : Int) < b
    · rw [if_pos c, ck_some (by omega), ck_some (by omega), ck_some (inI_small (by omega) (by omega)), ck_some (inI_small (by omega) (by omega))]
      refine .inl ⟨_, rfl, ⟨by simpa using h1, by dsimp only; omega, by dsimp only; omega, fun i hi => ?_⟩, by dsimp only; omega⟩
      dsimp only
      have hb : b.toNat = l.length - 1 - a := by omega
      rw [getD_set', getD_set', List.length_set]
      by_cases e1 : i = b.toNat
      · rw [if_pos ⟨e1, by omega⟩, h4 a (by omega), if_neg (by omega), if_pos (by omega)]
        congr 1; omega
      · rw [if_neg (fun z => e1 z.1)]
        by_cases e2 : i = a
        · rw [if_pos ⟨e2, by omega⟩, h4 b.toNat (by omega), if_neg (by omega), if_pos (by omega)]
          congr 1; omega
        · rw [if_neg (fun z => e2 z.1), h4 i hi]
          by_cases e3 : i < a ∨ l.length - a ≤ i
          · rw [if_pos e3, if_pos (by omega)]
          · rw [if_neg e3, if_neg (by omega)]
    · rw [if_neg c]
      refine .inr (.inl ⟨_, rfl, _, rfl, h1, fun i hi => ?_⟩)
      dsimp only
      rw [h4 i hi]
      by_cases e3 : i < a ∨ l.length - a ≤ i
      · rw [if_pos e3]
      · rw [if_neg e3]
        congr 1; omega) (n := 1000000) (s := (l, 0, ((l.length : Nat) : Int) - 1)) ⟨rfl, by dsimp only; omega, by dsimp only; omega, fun i hi => by dsimp only; rw [if_neg (by omega)]⟩ (by dsimp only; omega)
  obtain ⟨σ, rfl, h1, h2⟩ := hQ
  rw [e, bind_some']
  obtain ⟨m, a, b⟩ := σ
  exact ⟨m, rfl, h1, h2⟩
/-! ### the way that is done -/
theorem app_z {l : List Int} {k : Int} : (l ++ [k]).getD l.length 0 = k := by simp [List.getD_eq_getElem?_getD]
theorem app_l {l m : List Int} {i : Nat} (h : i < l.length) : (l ++ m).getD i 0 = l.getD i 0 := by
  rw [List.getD_eq_getElem?_getD, List.getD_eq_getElem?_getD, List.getElem?_append_left h]
structure WayD (g : Graph) (e0 : Int) (l : List Int) (e : Int) : Prop where
  nil : l.length = 0 → e = e0
  first : 0 < l.length → tT g (l.getD 0 0).toNat = e0
  last : 0 < l.length → fF g (l.getD (l.length - 1) 0).toNat = e
  rg : ∀ i, i < l.length → 0 ≤ l.getD i 0 ∧ l.getD i 0 < g.as.length
  ch : ∀ i, i + 1 < l.length → tT g (l.getD (i + 1) 0).toNat = fF g (l.getD i 0).toNat
theorem DoneW.way {g : Graph} {e0 : Int} {l : List Int} {e : Int} (h : DoneW g e0 l e) : WayD g e0 l e := by
  induction h with
  | nil => exact ⟨fun _ => rfl, fun h => absurd h (by simp), fun h => absurd h (by simp), fun i h => absurd h (by simp), fun i h => absurd h (by simp)⟩
  | @snoc l e k h k0 k1 hk ih =>
    have hlen : (l ++ [k]).length = l.length + 1 := by simp
    refine ⟨fun h => absurd h (by omega), fun _ => ?_, fun _ => ?_, fun i hi => ?_, fun i hi => ?_⟩
    · by_cases c : l.length = 0
      · have : l = [] := List.eq_nil_of_length_eq_zero c
        subst this
        show tT g k.toNat = e0
        rw [hk]; exact ih.nil rfl
      · rw [app_l (by omega)]; exact ih.first (by omega)
    · rw [hlen, Nat.add_sub_cancel, app_z]
    · by_cases c : i < l.length
      · rw [app_l c]; exact ih.rg i c
      · rw [show i = l.length by omega, app_z]; exact ⟨k0, k1⟩
    · by_cases c : i + 1 < l.length
      · rw [app_l c, app_l (by omega)]; exact ih.ch i c
      · rw [show i + 1 = l.length by omega, app_z, app_l (by omega), hk]
        have := ih.last (by omega)
        rw [← this, show i = l.length - 1 by omega]
/-! ### the degrees -/
theorem outs_tot (l : List Arc) (x : Int) : ∀ j, j ≤ l.length → outs (l.take j) x = tot (fun k => if (l.getD k El.d).f = x then 1 else 0) j
  | 0, _ => rfl
  | j + 1, h => by
    rw [take_succ_getD (by omega), outs_snoc, outs_tot l x j (by omega)]; rfl
theorem inns_tot (l : List Arc) (x : Int) : ∀ j, j ≤ l.length → inns (l.take j) x = tot (fun k => if (l.getD k El.d).t = x then 1 else 0) j
  | 0, _ => rfl
  | j + 1, h => by
    rw [take_succ_getD (by omega), inns_snoc, inns_tot l x j (by omega)]; rfl
theorem uo_start (g : Graph) (x : Int) : uo g (List.replicate g.as.length false) x = outs g.as x := by
  have := outs_tot g.as x g.as.length (Nat.le_refl _)
  rw [List.take_of_length_le (Nat.le_refl _)] at this
  rw [this]
  refine tot_congr fun k hk => ?_
  rw [getD_replicate', if_pos hk]
  unfold fF
  by_cases c : (g.as.getD k El.d).f = x
  · rw [if_pos c, if_pos ⟨rfl, c⟩]
  · rw [if_neg c, if_neg (fun z => c z.2)]
theorem ui_start (g : Graph) (x : Int) : ui g (List.replicate g.as.length false) x = inns g.as x := by
  have := inns_tot g.as x g.as.length (Nat.le_refl _)
  rw [List.take_of_length_le (Nat.le_refl _)] at this
  rw [this]
  refine tot_congr fun k hk => ?_
  rw [getD_replicate', if_pos hk]
  unfold tT
  by_cases c : (g.as.getD k El.d).t = x
  · rw [if_pos c, if_pos ⟨rfl, c⟩]
  · rw [if_neg c, if_neg (fun z => c z.2)]
theorem exc_out {g : Graph} (hg : Ok g) {x : Int} (h : x < 0 ∨ g.n ≤ x) : exc g.as x = 0 := by
  have a : outs g.as x = 0 := by
    unfold outs
    rw [List.countP_eq_zero.2 fun a ha => by
      have := hg.arc a ha
      have := this.f0; have := (hg.arc a ha).f1
      simp; omega]
    rfl
  have b : inns g.as x = 0 := by
    unfold inns
    rw [List.countP_eq_zero.2 fun a ha => by
      have := (hg.arc a ha).t0; have := (hg.arc a ha).t1
      simp; omega]
    rfl
  unfold exc; omega
/-! ### where it starts -/
def StartC (g : Graph) (kind : Int) (x : Int) : Prop := (kind = 2 ∧ 0 < outs g.as x) ∨ inns g.as x < outs g.as x
theorem start_ok {g : Graph} (hg : Ok g) (kind : Int) : ∃ st y, loopC (euler_Trail_B1 kind (nodes (outs g.as) g.n) (nodes (inns g.as) g.n)) 1000000 (0, g.n - 1) = some (.go (st, y)) ∧ ((st = 0 ∧ ∀ x : Int, 0 ≤ x → x < g.n → ¬ StartC g kind x) ∨ (0 ≤ st ∧ st < g.n ∧ StartC g kind st)) := by
  have n1 := hg.n1; have n0 := hg.n0
  obtain ⟨q, e, hQ⟩ := loopC_or (f := euler_Trail_B1 kind (nodes (outs g.as) g.n) (nodes (inns g.as) g.n)) (fun (τ : Int × Int) => -1 ≤ τ.2 ∧ τ.2 < g.n ∧ ((τ.1 = 0 ∧ ∀ x : Int, τ.2 < x → x < g.n → ¬ StartC g kind x) ∨ (0 ≤ τ.1 ∧ τ.1 < g.n ∧ StartC g kind τ.1))) (fun q => ∃ σ : Int × Int, q = .go σ ∧ ((σ.1 = 0 ∧ ∀ x : Int, 0 ≤ x → x < g.n → ¬ StartC g kind x) ∨ (0 ≤ σ.1 ∧ σ.1 < g.n ∧ StartC g kind σ.1))) (fun τ => (τ.2 + 1).toNat) (fun τ ⟨h1, h2, h3⟩ => by
    obtain ⟨st, y⟩ := τ
    dsimp only at h1 h2 h3
    unfold euler_Trail_B1
    dsimp only
    by_cases c : 0 ≤ y
    · left
      have hy : y.toNat < g.n.toNat := by omega
      have e1 : (nodes (outs g.as) g.n).getD y.toNat 0 = outs g.as y := by rw [nodes_getD _ hy, Int.toNat_of_nonneg c]
      have e2 : (nodes (inns g.as) g.n).getD y.toNat 0 = inns g.as y := by rw [nodes_getD _ hy, Int.toNat_of_nonneg c]
      have yes : StartC g kind y → ∃ s' : Int × Int, (ck (InI (y - 1)) <| some (Ct.go (y, y - 1)) : Option (Ct (Int × Int) ((List Int) × Int))) = some (.go s') ∧ (-1 ≤ s'.2 ∧ s'.2 < g.n ∧ ((s'.1 = 0 ∧ ∀ x : Int, s'.2 < x → x < g.n → ¬ StartC g kind x) ∨ (0 ≤ s'.1 ∧ s'.1 < g.n ∧ StartC g kind s'.1))) ∧ (s'.2 + 1).toNat < (y + 1).toNat := fun hs => by
        rw [ck_some (inI_small (by omega) (by omega))]
        exact ⟨_, rfl, ⟨by dsimp only; omega, by dsimp only; omega, .inr ⟨c, h2, hs⟩⟩, by dsimp only; omega⟩
      have no : ¬ StartC g kind y → ∃ s' : Int × Int, (ck (InI (y - 1)) <| some (Ct.go (st, y - 1)) : Option (Ct (Int × Int) ((List Int) × Int))) = some (.go s') ∧ (-1 ≤ s'.2 ∧ s'.2 < g.n ∧ ((s'.1 = 0 ∧ ∀ x : Int, s'.2 < x → x < g.n → ¬ StartC g kind x) ∨ (0 ≤ s'.1 ∧ s'.1 < g.n ∧ StartC g kind s'.1))) ∧ (s'.2 + 1).toNat < (y + 1).toNat := fun hs => by
        rw [ck_some (inI_small (by omega) (by omega))]
        refine ⟨_, rfl, ⟨by dsimp only; omega, by dsimp only; omega, ?_⟩, by dsimp only; omega⟩
        dsimp only
        rcases h3 with ⟨a, b⟩ | h3
        · refine .inl ⟨a, fun x hx hx2 => ?_⟩
          by_cases ex : x = y
          · rw [ex]; exact hs
          · exact b x (by omega) hx2
        · exact .inr h3
      rw [if_pos c]
      by_cases k2 : kind = 2
      · rw [if_pos k2, ck_some (by rw [nodes_len]; omega), e1]
        by_cases p1 : 0 < outs g.as y
        · rw [if_pos p1]; exact yes (.inl ⟨k2, p1⟩)
        · rw [if_neg p1, ck_some (by rw [nodes_len]; omega), e2]
          by_cases p2 : inns g.as y < outs g.as y
          · rw [if_pos p2]; exact yes (.inr p2)
          · rw [if_neg p2]; exact no fun z => z.elim (fun z => p1 z.2) p2
      · rw [if_neg k2, ck_some (by rw [nodes_len]; omega), ck_some (by rw [nodes_len]; omega), e1, e2]
        by_cases p2 : inns g.as y < outs g.as y
        · rw [if_pos p2]; exact yes (.inr p2)
        · rw [if_neg p2]; exact no fun z => z.elim (fun z => k2 z.1) p2
    · rw [if_neg c]
      refine .inr (.inl ⟨_, rfl, _, rfl, ?_⟩)
      dsimp only
      rcases h3 with ⟨a, b⟩ | h3
      · exact .inl ⟨a, fun x hx hx2 => b x (by omega) hx2⟩
      · exact .inr h3) (n := 1000000) (s := (0, g.n - 1)) ⟨by dsimp only; omega, by dsimp only; omega, .inl ⟨rfl, fun x hx hx2 => by dsimp only at hx; omega⟩⟩ (by dsimp only; omega)
  obtain ⟨σ, rfl, h1⟩ := hQ
  exact ⟨σ.1, σ.2, e, h1⟩
end Go.Proofs.Ytblhoelmodbifaa
