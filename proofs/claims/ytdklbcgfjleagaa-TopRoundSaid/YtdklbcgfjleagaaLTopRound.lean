/- TopRound: the law's function answers true. -/
import Derived.Test.YtdklbcgfjleagaaPround
import Derived.Test.YtdklbcgfjleagaaKTopRound
namespace Go.Proofs.Ytdklbcgfjleagaa
open Go Go.Proofs.Ytdklbcgfjleagaa.Sx
set_option linter.unusedVariables false
set_option linter.unusedSimpArgs false
theorem worksR_eq : weirtop_works_F = some true := by kernel_rfl
theorem back_loopT {n : Net} (hn : OkNet n) (hl : n.as.length < 30) (w : Int) : ∃ q, forC (weirtop_TopRound_B1 n) n.as.length 0 ([(⟨n.t, n.s, w, 333⟩ : Need)]) = some q ∧ (match q with | .go L => L = backL n w ∧ ∀ a, a ∈ n.as → a.c ≤ 333 | .ret r => r = true) := by
  refine forC_or (f := weirtop_TopRound_B1 n) (fun j L => L = ⟨n.t, n.s, w, 333⟩ :: (n.as.take j).map (fun a => ⟨a.f, a.t, 0, a.c⟩) ∧ ∀ k, k < j → (n.as.getD k El.d).c ≤ 333)
    (fun q => match q with | .go L => L = backL n w ∧ ∀ a, a ∈ n.as → a.c ≤ 333 | .ret r => r = true) ⟨rfl, fun k hk => absurd hk (by omega)⟩ (fun j L _ hj ⟨i1, i2⟩ => ?_) (fun L ⟨i1, i2⟩ => ⟨?_, fun a ha => ?_⟩)
  · have hj' : j < n.as.length := by omega
    unfold weirtop_TopRound_B1
    by_cases h : 333 < (n.as.getD j El.d).c
    · rw [if_pos h]; exact .inr (.inr ⟨true, rfl, rfl⟩)
    · rw [if_neg h, ck_some (by rw [i1]; simp; omega)]
      refine .inl ⟨_, rfl, ?_, fun k hk => ?_⟩
      · rw [i1, take_succ_getD hj', List.map_append]; rfl
      · by_cases e : k = j
        · subst e; omega
        · exact i2 k (by omega)
  · rw [i1, Nat.zero_add, List.take_of_length_le (Nat.le_refl _)]; rfl
  · obtain ⟨k, hk, e⟩ := getD_of_mem (d := El.d) ha
    rw [← e]; exact i2 k (by omega)
theorem subl_tailT {α : Type} [El α] (a : α) (l : List α) : subl (a :: l) (1 + 0) ((a :: l).length - 1) = l := by
  refine eq_of_getD (d := El.d) (by simp [subl_length]) fun i hi => ?_
  rw [subl_getD (by simpa [subl_length] using hi)]
  simp [List.getD_eq_getElem?_getD, Nat.add_comm]
/-- a set that is asked for more than can go out has the source, not the sink -/
theorem fault_ends {n : Net} (h : Fit n) {w : Int} (w0 : 0 ≤ w) {S : Int → Int} (hb : ∀ x, S x = 0 ∨ S x = 1) (hneg : tot (fun k => crossN S ((backL n w).getD k El.d)) (backL n w).length < 0) : S n.s = 1 ∧ S n.t = 0 := by
  have hl : (backL n w).length = n.as.length + 1 := by simp [backL]
  rw [hl, tot_cons'] at hneg
  have hrest : 0 ≤ tot (fun k => crossN S ((backL n w).getD (k + 1) El.d)) n.as.length := tot_nonneg fun k hk => by
    have := (h.ok.arc hk).c0
    rw [backL_getD n w k hk]
    unfold crossN
    dsimp only
    split
    · exact this
    · split <;> omega
  have h0 : crossN S ((backL n w).getD 0 El.d) < 0 := by omega
  have e : (backL n w).getD 0 El.d = ⟨n.t, n.s, w, 333⟩ := rfl
  rw [e] at h0
  unfold crossN at h0
  dsimp only at h0
  rcases hb n.t with p | p <;> rcases hb n.s with q | q <;> rw [p, q] at h0 <;> simp at h0
  exact ⟨q, p⟩
theorem TopRound_true (n : Net) : weirtop_TopRound_F n = some true := by
  unfold weirtop_TopRound_F
  rw [worksR_eq, bind_some', if_neg (by decide)]
  by_cases hn : OkNet n
  · obtain ⟨f, v, e, _, _, hM⟩ := of_max hn
    have v0 := hM.nonneg hn
    rw [e, bind_some']
    dsimp only
    rw [if_neg (by decide)]
    by_cases h1 : 10 < n.n
    · rw [if_pos h1, if_pos rfl]
    by_cases h2 : 30 ≤ ((n.as.length : Nat) : Int)
    · rw [if_neg h1, if_pos h2, if_pos rfl]
    by_cases h3 : 333 < v
    · rw [if_neg h1, if_neg h2, if_pos h3, if_pos rfl]
    rw [if_neg h1, if_neg h2, if_neg h3]
    obtain ⟨q, eq, hq⟩ := back_loopT hn (by omega) v
    rw [eq, bind_some']
    match q, hq with
    | .ret r, hq => dsimp only at hq; subst hq; rfl
    | .go L, hq =>
      obtain ⟨rfl, hcap⟩ := hq
      have hF : Fit n := ⟨hn, by omega, by omega, hcap⟩
      have hok := backL_ok hF (w := v) v0 (by omega)
      have hyes := (circ_iff hF hM v0 (by omega)).2 (Int.le_refl v)
      dsimp only
      rcases round_cases n.n (backL n v) with ⟨_, g, hg, e2⟩ | ⟨_, hno, _⟩ | ⟨hbad, _⟩
      · rw [e2, bind_some']
        dsimp only
        rw [fault_ok hok hyes, bind_some']
        dsimp only
        have hgl := hg.len
        cases g with
        | nil => simp [backL] at hgl
        | cons g0 g =>
          obtain ⟨q1, q2, hf, eg⟩ := flow_back hF hg
          have q3 := hM.le hf
          rw [if_neg (by decide), if_neg (by decide), if_neg (by omega), ck_some (by simp), subl_tailT, value_ok hf, bind_some']
          dsimp only
          rw [if_neg (by decide), if_neg (by omega)]
          by_cases h4 : v = 333
          · rw [if_pos h4, if_pos rfl]
            exact congrArg some (decide_eq_true (by omega))
          · have eset : (backL n v).set 0 (⟨((backL n v).getD 0 El.d).f, ((backL n v).getD 0 El.d).t, v + 1, ((backL n v).getD 0 El.d).cap⟩ : Need) = backL n (v + 1) := rfl
            have hok2 := backL_ok hF (w := v + 1) (by omega) (by omega)
            have hno : ∀ g, ¬ Circ n.n (backL n (v + 1)) g := fun g hg => by
              have := (circ_iff hF hM (w := v + 1) (by omega) (by omega)).1 ⟨g, hg⟩
              omega
            obtain ⟨set, ef, hneg⟩ := fault_none hok2 hno
            obtain ⟨p1, p2⟩ := fault_ends hF (w := v + 1) (by omega) (bit01 set) hneg
            rw [if_neg h4, ck_some (inI_small (by omega) (by omega)), ck_some (by simp [backL]), eset, ef, bind_some']
            dsimp only
            rw [if_pos rfl, ck_some hn.s0, bit_fold, if_pos p1, ck_some hn.t0, bit_fold]
            exact congrArg some (decide_eq_true p2)
      · obtain ⟨g, hg⟩ := hyes
        exact absurd hg (hno g)
      · exact absurd hok hbad
  · obtain ⟨e, he, _, h⟩ := of_bad hn
    rw [h, bind_some']
    dsimp only
    rw [if_pos he, if_neg he]; rfl
end Go.Proofs.Ytdklbcgfjleagaa
