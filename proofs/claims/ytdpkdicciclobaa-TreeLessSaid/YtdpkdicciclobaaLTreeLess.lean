/- TreeLess: the law's function answers true. -/
import Derived.Test.YtdpkdicciclobaaPtcount
import Derived.Test.YtdpkdicciclobaaPless
import Derived.Test.YtdpkdicciclobaaKTreeLess
namespace Go.Proofs.Ytdpkdicciclobaa
open Go Go.Proofs.Ytdpkdicciclobaa.Sx
set_option linter.unusedVariables false
set_option linter.unusedSimpArgs false
theorem full_eq : weirkeep_full_F 3 = some ⟨3, [⟨0, 1, 0⟩, ⟨0, 2, 0⟩, ⟨1, 2, 0⟩]⟩ := by kernel_rfl
theorem full_count : tree_Count_F ⟨3, [⟨0, 1, 0⟩, ⟨0, 2, 0⟩, ⟨1, 2, 0⟩]⟩ = some (3, 0) := by kernel_rfl
/-- an arc once two nodes are one -/
def mrgI (n lo hi x : Int) : Int := if x = hi then lo else if x = n - 1 then hi else x
def mrgA (n lo hi : Int) (a : Arc) : Arc := ⟨mrgI n lo hi a.f, mrgI n lo hi a.t, 0⟩
theorem at_eq {g : Graph} (hg : Ok g) (x : Int) (a : Arc) : weirkeep_TreeLess_c1_F x a g = some (mrgI g.n (min a.f a.t) (max a.f a.t) x) := by
  have := hg.n0; have := hg.n1
  unfold weirkeep_TreeLess_c1_F mrgI
  by_cases c : x = max a.f a.t
  · rw [if_pos c, if_pos c]
  · rw [if_neg c, if_neg c, ck_some (inI_small (by omega) (by omega))]
    by_cases d : x = g.n - 1
    · rw [if_pos d, if_pos d]
    · rw [if_neg d, if_neg d]
theorem one_loop {g : Graph} (hg : Ok g) {k : Int} {h : Graph} (hl : h.as.length ≤ 60) {a : Arc} (ha : g.as.getD k.toNat El.d = a) : ∀ (n j : Nat) (l : List Arc), j + n = h.as.length → l.length = j →
    forN (weirkeep_TreeLess_B1 g k h) n j l = some (l ++ (h.as.drop j).map (mrgA g.n (min a.f a.t) (max a.f a.t)))
  | 0, j, l, hj, _ => by rw [List.drop_eq_nil_of_le (by omega)]; simp [forN]
  | n + 1, j, l, hj, hlj => by
    rw [forN]
    have e : weirkeep_TreeLess_B1 g k h j l = some (l ++ [mrgA g.n (min a.f a.t) (max a.f a.t) (h.as.getD j El.d)]) := by
      unfold weirkeep_TreeLess_B1
      rw [ha, at_eq hg, bind_some', at_eq hg, bind_some', ck_some (by omega)]; rfl
    rw [e, drop_getD El.d (show j < h.as.length by omega), List.map_cons]
    have := one_loop hg (h := h) hl ha n (j + 1) (l ++ [mrgA g.n (min a.f a.t) (max a.f a.t) (h.as.getD j El.d)]) (by omega) (by simp [hlj])
    rw [List.append_assoc] at this
    exact this
theorem TreeLess_true (g : Graph) (k : Int) : weirkeep_TreeLess_F g k = some true := by
  unfold weirkeep_TreeLess_F
  rw [full_eq, bind_some', full_count, bind_some']
  dsimp only
  rw [if_neg (by decide), if_neg (by decide)]
  by_cases hc : CountOk g
  case neg =>
    obtain ⟨e, he, eq⟩ := count_bad hc
    rw [eq, bind_some']
    dsimp only
    rcases without_cases g k with ⟨e2, h2, eq2⟩ | ⟨_, _, _, eq2⟩
    · rw [eq2, bind_some']; dsimp only; rw [if_pos he, if_neg he]; rfl
    · rw [eq2, bind_some']; dsimp only; rw [if_pos he, if_neg he]; rfl
  rw [count_ok hc, bind_some']
  dsimp only
  rcases without_cases g k with ⟨e2, h2, eq2⟩ | ⟨hg, k0, k1, eq2⟩
  · rw [eq2, bind_some']; dsimp only; rw [if_neg (by decide), if_pos h2, if_pos rfl]
  rw [eq2, bind_some']
  dsimp only
  rw [if_neg (by decide), if_neg (by decide)]
  by_cases c2 : g.n < 2
  · rw [if_pos c2, if_pos rfl]
  rw [if_neg c2, if_neg (by omega), if_neg (by omega)]
  have hk : k.toNat < g.as.length := by omega
  have hl := hc.len
  have h8 := hc.n8
  have hless : CountOk ⟨g.n, less g.as k.toNat⟩ := ⟨hg.less hk, h8, by
    show (less g.as k.toNat).length ≤ 30
    rw [less_eq hk]; simp; omega⟩
  rw [count_ok hless, bind_some']
  dsimp only
  rw [ck_some ⟨k0, k1⟩]
  obtain ⟨n, hn⟩ : ∃ n : Nat, g.n = n + 2 := ⟨(g.n - 2).toNat, by omega⟩
  have en : (g.n - 1).toNat = n + 1 := by omega
  have hA := hg.arc _ (mem_getD (d := El.d) hk)
  have f0 := hA.f0; have f1 := hA.f1; have t0 := hA.t0; have t1 := hA.t1
  have etau : tau (n + 1) (prs g.as) = tau (n + 1) (nd (g.as.getD k.toNat El.d) :: prs (less g.as k.toNat)) := by
    have e1 : prs g.as = prs (g.as.take k.toNat) ++ nd (g.as.getD k.toNat El.d) :: prs (g.as.drop (k.toNat + 1)) := by
      conv => lhs; rw [split_eq hk]
      unfold prs
      rw [List.map_append, List.map_cons]
    have e2 : prs (less g.as k.toNat) = prs (g.as.take k.toNat) ++ prs (g.as.drop (k.toNat + 1)) := by
      rw [less_eq hk]
      unfold prs
      rw [List.map_append]
    rw [e1, e2, tau_mid]
  have ll : (less g.as k.toNat).length ≤ 30 := hless.len
  rw [en, etau]
  obtain ⟨a, ea⟩ : ∃ a, g.as.getD k.toNat El.d = a := ⟨_, rfl⟩
  rw [ea] at f0 f1 t0 t1 ⊢
  by_cases cft : a.f = a.t
  · rw [if_pos cft, if_pos rfl, tau_loop _ (show (nd a).1 = (nd a).2 by unfold nd; dsimp only; rw [cft]), decide_eq_true rfl]
  rw [if_neg cft, ck_some (inI_small (by omega) (by omega))]
  have eloop := one_loop hg (k := k) (h := ⟨g.n, less g.as k.toNat⟩) (show (less g.as k.toNat).length ≤ 60 by omega) ea (less g.as k.toNat).length 0 [] (Nat.zero_add _) rfl
  rw [List.nil_append, List.drop_zero] at eloop
  rw [eloop, bind_some']
  have hmr : ∀ x, 0 ≤ x → x < g.n → 0 ≤ mrgI g.n (min a.f a.t) (max a.f a.t) x ∧ mrgI g.n (min a.f a.t) (max a.f a.t) x < g.n - 1 := fun x h0 h1 => by
    unfold mrgI
    split
    · omega
    · split <;> omega
  have hone : CountOk ⟨g.n - 1, (less g.as k.toNat).map (mrgA g.n (min a.f a.t) (max a.f a.t))⟩ := by
    refine ⟨⟨show 1 ≤ g.n - 1 by omega, show g.n - 1 ≤ 12 by omega, ?_, fun b hb => ?_⟩, show g.n - 1 ≤ 8 by omega, ?_⟩
    · show ((less g.as k.toNat).map _).length ≤ 60
      rw [List.length_map]; omega
    · obtain ⟨b', hb', rfl⟩ := List.mem_map.1 hb
      have hB := hless.ok.arc b' hb'
      have h1 := hmr b'.f hB.f0 hB.f1
      have h2 := hmr b'.t hB.t0 hB.t1
      exact ⟨h1.1, h1.2, h2.1, h2.2, show (-10000 : Int) ≤ 0 by decide, show (0 : Int) ≤ 10000 by decide⟩
    · show ((less g.as k.toNat).map _).length ≤ 30
      rw [List.length_map]; exact ll
  rw [count_ok hone, bind_some']
  dsimp only
  rw [if_pos rfl, if_pos rfl]
  have en2 : (g.n - 1 - 1).toNat = n := by omega
  have epr : prs ((less g.as k.toNat).map (mrgA g.n (min a.f a.t) (max a.f a.t))) = mapP (mrg (n + 1) (min a.f a.t).toNat (max a.f a.t).toNat) (prs (less g.as k.toNat)) := by
    unfold prs mapP
    rw [List.map_map, List.map_map]
    refine List.map_congr_left fun b hb => ?_
    have hB := hless.ok.arc b hb
    have q1 := hB.f0; have q2 := hB.f1; have q3 := hB.t0; have q4 := hB.t1
    have key : ∀ x : Int, 0 ≤ x → x < g.n → (mrgI g.n (min a.f a.t) (max a.f a.t) x).toNat = mrg (n + 1) (min a.f a.t).toNat (max a.f a.t).toNat x.toNat := fun x h0 h1 => by
      unfold mrgI mrg
      by_cases w : x = max a.f a.t
      · rw [if_pos w, if_pos (by omega)]
      · have w' : ¬ x.toNat = (max a.f a.t).toNat := by omega
        rw [if_neg w, if_neg w']
        by_cases z : x = g.n - 1
        · rw [if_pos z, if_pos (by omega)]
        · have z' : ¬ x.toNat = n + 1 := by omega
          rw [if_neg z, if_neg z']
    exact Prod.ext (key b.f q1 q2) (key b.t q3 q4)
  have hin : InP (n + 2) (prs (less g.as k.toNat)) := prs_in (n' := g.n) (by omega) hless.ok.arc
  have key := tau_less (n := n) (a := (min a.f a.t).toNat) (b := (max a.f a.t).toNat) (e := nd a) hin (by omega) (by omega) (by
    unfold nd
    by_cases w : a.f < a.t
    · exact .inl (Prod.ext (show a.f.toNat = _ by omega) (show a.t.toNat = _ by omega))
    · exact .inr (Prod.ext (show a.f.toNat = _ by omega) (show a.t.toNat = _ by omega)))
  have s1 := abs_le (tau_small (n := n + 1) (l := prs (less g.as k.toNat)) (by omega) (by unfold prs; rw [List.length_map]; exact ll))
  have s2 := abs_le (tau_small (n := n) (l := mapP (mrg (n + 1) (min a.f a.t).toNat (max a.f a.t).toNat) (prs (less g.as k.toNat))) (by omega) (by unfold mapP prs; rw [List.length_map, List.length_map]; exact ll))
  rw [en2, epr, ck_some (by unfold InI; omega), decide_eq_true key]
end Go.Proofs.Ytdpkdicciclobaa
