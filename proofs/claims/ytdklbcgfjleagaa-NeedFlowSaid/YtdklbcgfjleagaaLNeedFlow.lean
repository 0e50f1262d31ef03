/- NeedFlow: the law's function answers true. -/
import Derived.Test.YtdklbcgfjleagaaPround
import Derived.Test.YtdklbcgfjleagaaPref
import Derived.Test.YtdklbcgfjleagaaKNeedFlow
namespace Go.Proofs.Ytdklbcgfjleagaa
open Go Go.Proofs.Ytdklbcgfjleagaa.Sx
set_option linter.unusedVariables false
set_option linter.unusedSimpArgs false
theorem needsF_eq : weirkeep_needs_F = some true := by kernel_rfl
theorem back_loop {n : Net} (hn : OkNet n) (hl : n.as.length < 30) (w : Int) : ∃ q, forC (weirkeep_NeedFlow_B1 n) n.as.length 0 ([(⟨n.t, n.s, w, 333⟩ : Need)]) = some q ∧ (match q with | .go L => L = backL n w ∧ ∀ a, a ∈ n.as → a.c ≤ 333 | .ret r => r = true) := by
  refine forC_or (f := weirkeep_NeedFlow_B1 n) (fun j L => L = ⟨n.t, n.s, w, 333⟩ :: (n.as.take j).map (fun a => ⟨a.f, a.t, 0, a.c⟩) ∧ ∀ k, k < j → (n.as.getD k El.d).c ≤ 333)
    (fun q => match q with | .go L => L = backL n w ∧ ∀ a, a ∈ n.as → a.c ≤ 333 | .ret r => r = true) ⟨rfl, fun k hk => absurd hk (by omega)⟩ (fun j L _ hj ⟨i1, i2⟩ => ?_) (fun L ⟨i1, i2⟩ => ⟨?_, fun a ha => ?_⟩)
  · have hj' : j < n.as.length := by omega
    unfold weirkeep_NeedFlow_B1
    by_cases h : 333 < (n.as.getD j El.d).c
    · rw [if_pos h]; exact .inr (.inr ⟨true, rfl, rfl⟩)
    · rw [if_neg h, ck_some (by rw [i1]; simp; omega)]
      refine .inl ⟨_, rfl, ?_, fun k hk => ?_⟩
      · rw [i1, take_succ_getD hj', List.map_append]; rfl
      · by_cases e : k = j
        · subst e; omega
        · exact i2 k (by omega)
  · rw [i1, Nat.zero_add, List.take_of_length_le (Nat.le_refl _)]; rfl
  · obtain ⟨k, hk, e⟩ := getD_of_mem (d := El.d) ha
    rw [← e]; exact i2 k (by omega)
theorem NeedFlow_true (n : Net) (amount : Int) : weirkeep_NeedFlow_F n amount = some true := by
  unfold weirkeep_NeedFlow_F
  rw [needsF_eq, bind_some', if_neg (by decide)]
  by_cases hn : OkNet n
  · obtain ⟨f, v, e, _, _, hM⟩ := of_max hn
    rw [e, bind_some']
    dsimp only
    rw [if_neg (by decide)]
    by_cases h1 : 10 < n.n
    · rw [if_pos h1]
    by_cases h2 : 30 ≤ ((n.as.length : Nat) : Int)
    · rw [if_neg h1, if_pos h2]
    rw [if_neg h1, if_neg h2]
    obtain ⟨w, ew, w0, w1⟩ := rest_ok (n := amount) (m := 334) (by omega) (by omega)
    rw [ew, bind_some']
    obtain ⟨q, eq, hq⟩ := back_loop hn (by omega) w
    rw [eq, bind_some']
    match q, hq with
    | .ret r, hq => dsimp only at hq; subst hq; rfl
    | .go L, hq =>
      obtain ⟨rfl, hcap⟩ := hq
      have hF : Fit n := ⟨hn, by omega, by omega, hcap⟩
      have hiff := circ_iff hF hM w0 (by omega)
      dsimp only
      rcases round_cases n.n (backL n w) with ⟨_, g, hg, e2⟩ | ⟨_, hno, e2⟩ | ⟨hbad, _⟩
      · rw [e2, bind_some']
        dsimp only
        rw [if_pos (by rw [decide_eq_decide]; exact ⟨fun _ => hiff.1 ⟨g, hg⟩, fun _ => rfl⟩), if_pos rfl]
      · rw [e2, bind_some']
        dsimp only
        rw [if_pos (by rw [decide_eq_decide]; exact ⟨fun h => absurd h (by decide), fun h => by
          obtain ⟨g, hg⟩ := hiff.2 h
          exact absurd hg (hno g)⟩), if_neg (by decide)]
        rfl
      · exact absurd (backL_ok hF w0 (by omega)) hbad
  · obtain ⟨e, he, _, h⟩ := of_bad hn
    rw [h, bind_some']
    dsimp only
    rw [if_pos he]
end Go.Proofs.Ytdklbcgfjleagaa
