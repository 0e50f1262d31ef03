/- LevelFew: the law's function answers true. -/
import Derived.Test.YtdpkdicciclobaaPdinic
import Derived.Test.YtdpkdicciclobaaKLevelFew
namespace Go.Proofs.Ytdpkdicciclobaa
open Go Go.Proofs.Ytdpkdicciclobaa.Sx
set_option linter.unusedVariables false
set_option linter.unusedSimpArgs false
def oneA (a : Arc) : Arc := ⟨a.f, a.t, 1⟩
theorem root_ok {m : Nat} (hm : m ≤ 60) : ∃ r : Nat, (∀ {n : Net}, n.as.length = m → loopC (weirkeep_LevelFew_B2 n) 1000000 0 = some (.go r)) ∧ m < (r + 1) * (r + 1) ∧ r ≤ 100 := by
  have key : ∀ {n : Net}, n.as.length = m → ∃ r : Nat, loopC (weirkeep_LevelFew_B2 n) 1000000 0 = some (.go r) ∧ m < (r + 1) * (r + 1) ∧ r ≤ 100 := fun {n} hl => by
    obtain ⟨q, e, r, hq, h1, h2⟩ := loopC_or (f := weirkeep_LevelFew_B2 n) (fun r => r * r ≤ m) (fun q => ∃ r : Nat, q = .go r ∧ m < (r + 1) * (r + 1) ∧ r ≤ 100) (fun r => 100 - r) (fun r hr => by
      have r8 : r ≤ 8 := Classical.byContradiction fun z => by have := Nat.mul_le_mul (show 9 ≤ r by omega) (show 9 ≤ r by omega); omega
      have e : (((r + 1 : Nat) : Int) * ((r + 1 : Nat) : Int)) = (((r + 1) * (r + 1) : Nat) : Int) := by rw [Int.natCast_mul]
      have hb := Nat.mul_le_mul (show r + 1 ≤ 9 by omega) (show r + 1 ≤ 9 by omega)
      unfold weirkeep_LevelFew_B2
      rw [ck_some (by unfold InI; omega), e, ck_some (by unfold InI; omega)]
      by_cases c : (((r + 1) * (r + 1) : Nat) : Int) ≤ ((n.as.length : Nat) : Int)
      · rw [if_pos c]; exact .inl ⟨_, rfl, by omega, by omega⟩
      · rw [if_neg c]; exact .inr (.inl ⟨_, rfl, r, rfl, by omega, by omega⟩)) (n := 1000000) (s := 0) (by omega) (by omega)
    subst hq
    exact ⟨r, e, h1, h2⟩
  obtain ⟨r, e, h1, h2⟩ := key (n := ⟨0, 0, 0, List.replicate m ⟨0, 0, 0⟩⟩) (by simp)
  refine ⟨r, fun {n} hl => ?_, h1, h2⟩
  rw [← e]
  have : weirkeep_LevelFew_B2 n = weirkeep_LevelFew_B2 ⟨0, 0, 0, List.replicate m ⟨0, 0, 0⟩⟩ := by
    funext s
    unfold weirkeep_LevelFew_B2
    rw [hl]
    simp
  rw [this]
def LevelFew_testB : Bool := match weirkeep_weir_F with
  | none => false
  | some w => match level_Of_F w with
    | none => false
    | some (f, v, r, e) => decide (e = 0) && decide (v = 5) && decide (f.length = 5) && decide (1 ≤ r) && decide (r ≤ 3)
theorem LevelFew_test : ∃ w f v r e, weirkeep_weir_F = some w ∧ level_Of_F w = some (f, v, r, e) ∧ e = 0 ∧ v = 5 ∧ f.length = 5 ∧ 1 ≤ r ∧ r ≤ 3 := by
  have h : LevelFew_testB = true := by kernel_rfl
  unfold LevelFew_testB at h
  split at h
  · cases h
  · rename_i w hw
    split at h
    · cases h
    · rename_i f v r e he
      simp only [Bool.and_eq_true, decide_eq_true_eq, and_assoc] at h
      exact ⟨w, f, v, r, e, hw, he, h⟩
theorem LevelFew_true (n : Net) (hl : n.as.length + 1 ≤ 5864062014805) : weirkeep_LevelFew_F n = some true := by
  obtain ⟨w, f, v, r, e, h1, h2, rfl, rfl, h3, h4, h5⟩ := LevelFew_test
  unfold weirkeep_LevelFew_F
  rw [h1, bind_some', h2, bind_some']
  dsimp only
  rw [if_neg (by decide), if_neg (by decide), if_neg (by rw [h3]; decide), if_neg (by omega), if_neg (by omega)]
  obtain ⟨l, el, hL, hLl⟩ := forN_inv (f := weirkeep_LevelFew_B1 n) (fun j l => l = (n.as.take j).map oneA ∧ l.length = j) (n := n.as.length) (k := 0) (s := []) ⟨rfl, rfl⟩ fun j l _ hj ⟨i1, i2⟩ => by
    have hj' : j < n.as.length := by omega
    unfold weirkeep_LevelFew_B1
    rw [ck_some (by omega)]
    refine ⟨_, rfl, ?_, by simp [i2]⟩
    rw [take_succ_getD hj', List.map_append, i1]
    rfl
  rw [Nat.zero_add, List.take_of_length_le (Nat.le_refl _)] at hL
  by_cases hn : OkNet n
  · have hlen := hn.g.len; have n12 := hn.g.n1
    dsimp only at hlen n12
    obtain ⟨f, v, r, e1, hD⟩ := level_ok hn
    have hn1 : OkNet ⟨n.n, n.s, n.t, l⟩ := ⟨⟨hn.g.n0, hn.g.n1, by show l.length ≤ 60; omega, fun a ha => by
      rw [show (⟨n.n, l⟩ : Graph).as = l from rfl, hL] at ha
      obtain ⟨b, hb, rfl⟩ := List.mem_map.1 ha
      have G := hn.g.arc b hb
      exact ⟨G.f0, G.f1, G.t0, G.t1, by show (0 : Int) ≤ 1; decide, by show (1 : Int) ≤ 10000; decide⟩⟩, hn.s0, hn.s1, hn.t0, hn.t1, hn.ne⟩
    obtain ⟨f2, v2, r2, e2, hD2⟩ := level_ok hn1
    obtain ⟨root, er, hr1, hr2⟩ := root_ok hlen
    have hu : Unit1 ⟨n.n, n.s, n.t, l⟩ := fun k hk => by
      have hm := mem_getD (d := (El.d : Arc)) hk
      dsimp only at hm ⊢
      rw [hL] at hm
      obtain ⟨b, hb, e⟩ := List.mem_map.1 hm
      rw [hL, ← e]; rfl
    have few2 := hD2.few
    dsimp only at few2
    have h2r := hD2.unit hu root (by show l.length < _; rw [hLl, Nat.zero_add]; exact hr1)
    rw [e1, bind_some']
    dsimp only
    rw [el, bind_some', e2, bind_some']
    dsimp only
    rw [if_neg (by decide), er rfl, bind_some']
    dsimp only
    rw [if_pos hD.few, if_pos rfl, if_pos few2, ck_some (by unfold InI; omega), ck_some (by unfold InI; omega)]
    exact congrArg some (decide_eq_true (by omega))
  · obtain ⟨e, he, _, e1⟩ := level_bad hn
    rw [e1, bind_some']
    dsimp only
    rw [el, bind_some']
    have any : ∃ f v r e, level_Of_F ⟨n.n, n.s, n.t, l⟩ = some (f, v, r, e) := by
      by_cases h : OkNet ⟨n.n, n.s, n.t, l⟩
      · obtain ⟨f, v, r, e, _⟩ := level_ok h; exact ⟨_, _, _, _, e⟩
      · obtain ⟨e, _, _, e1⟩ := level_bad h; exact ⟨_, _, _, _, e1⟩
    obtain ⟨f, v, r, e2, e3⟩ := any
    rw [e3, bind_some']
    dsimp only
    rw [if_pos he, if_pos rfl]
    simp
end Go.Proofs.Ytdpkdicciclobaa
