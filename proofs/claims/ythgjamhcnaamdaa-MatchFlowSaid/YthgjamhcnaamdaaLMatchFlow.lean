/- MatchFlow: the law's function answers true. -/
import Derived.Test.YthgjamhcnaamdaaPmnet
import Derived.Test.YthgjamhcnaamdaaPmore
import Derived.Test.YthgjamhcnaamdaaKMatchFlow
namespace Go.Proofs.Ythgjamhcnaamdaa
open Go Go.Proofs.Ythgjamhcnaamdaa.Sx
set_option linter.unusedVariables false
set_option linter.unusedSimpArgs false
theorem matesF_ok : weirkeep_mates_F = some true := by kernel_rfl
theorem mapA_more (F : Nat → Arc) (k : Nat) : mapA F (k + 1) = mapA F k ++ [F k] := by
  unfold mapA
  rw [List.range_succ, List.map_append]
  rfl
theorem built {f : Nat → List Arc → Option (List Arc)} (F : Nat → Arc) (base : List Arc) (n : Nat) (h : ∀ k o, k < n → o.length = base.length + k → f k o = some (o ++ [F k])) : forN f n 0 base = some (base ++ mapA F n) := by
  obtain ⟨o, e, h1⟩ := forN_inv (f := f) (fun j o => o = base ++ mapA F j) (n := n) (k := 0) (s := base) (by simp [mapA]) fun j o _ hj hI => by
    subst hI
    exact ⟨_, h j _ (by omega) (by rw [List.length_append, mapA_lenM]), by rw [mapA_more, List.append_assoc]⟩
  rw [e, h1, Nat.zero_add]
theorem MatchFlow_true (m n : Int) (l : List Arc) : weirkeep_MatchFlow_F m n l = some true := by
  unfold weirkeep_MatchFlow_F
  rw [matesF_ok, bind_some', if_neg (by decide)]
  rcases most_pairs m n l with ⟨hP, p, mate, e, em, hM, hsz, hb⟩ | ⟨_, er, he, ec, e⟩
  · have hm0 := hP.m0; have hm1 := hP.m1; have hn0 := hP.n0; have hn1 := hP.n1; have hlen := hP.len
    rw [e, bind_some']
    dsimp only
    rw [if_neg (by decide), ck_some (inI_small (by omega) (by omega))]
    by_cases c1 : 10 < m + n
    · rw [if_pos c1]
    rw [if_neg c1, ck_some (inI_small (by omega) (by omega))]
    by_cases c2 : 60 < m + n + ((l.length : Nat) : Int)
    · rw [if_pos c2]
    rw [if_neg c2, ck_some (inI_small (by omega) (by omega)), ck_some (inI_small (by omega) (by omega)), ck_some (inI_small (by omega) (by omega))]
    have em2 : ((m.toNat : Nat) : Int) = m := by omega
    have en2 : ((n.toNat : Nat) : Int) = n := by omega
    have b1 := built (f := weirkeep_MatchFlow_B1 m n) (fun i => ⟨((m.toNat + n.toNat : Nat) : Int), (i : Int), 1⟩) [] m.toNat fun k o hk ho => by
      unfold weirkeep_MatchFlow_B1
      rw [ck_some (by simp at ho; omega), show ((m.toNat + n.toNat : Nat) : Int) = m + n by omega]
    rw [List.nil_append] at b1
    have b2 := built (f := weirkeep_MatchFlow_B2 m n) (fun k => ⟨((m.toNat + k : Nat) : Int), ((m.toNat + n.toNat + 1 : Nat) : Int), 1⟩) (mapA (fun i => ⟨((m.toNat + n.toNat : Nat) : Int), (i : Int), 1⟩) m.toNat) n.toNat fun k o hk ho => by
      rw [mapA_lenM] at ho
      unfold weirkeep_MatchFlow_B2
      rw [ck_some (inI_small (by omega) (by omega)), ck_some (by omega), show ((m.toNat + n.toNat + 1 : Nat) : Int) = m + n + 1 by omega, show ((m.toNat + k : Nat) : Int) = m + ((k : Nat) : Int) by omega]
    have b3 := built (f := weirkeep_MatchFlow_B3 m l) (fun k => ⟨(l.getD k El.d).f, (m.toNat : Int) + (l.getD k El.d).t, 1⟩) (mapA (fun i => (⟨((m.toNat + n.toNat : Nat) : Int), (i : Int), 1⟩ : Arc)) m.toNat ++ mapA (fun k => ⟨((m.toNat + k : Nat) : Int), ((m.toNat + n.toNat + 1 : Nat) : Int), 1⟩) n.toNat) l.length fun k o hk ho => by
      rw [List.length_append, mapA_lenM, mapA_lenM] at ho
      have har := hP.arc _ (mem_getD (d := El.d) hk)
      unfold weirkeep_MatchFlow_B3
      rw [ck_some (inI_small (by omega) (by omega)), ck_some (by omega), em2]
    rw [b1, bind_some', ck_some (inI_small (by omega) (by omega)), b2, bind_some', b3, bind_some']
    obtain ⟨f, v, eo, hf, hv, hmax⟩ := of_max (netM_ok hP (by omega) (by omega))
    have eo' : most_Of_F (⟨m + n + 2, m + n, m + n + 1, mapA (fun i => (⟨((m.toNat + n.toNat : Nat) : Int), (i : Int), 1⟩ : Arc)) m.toNat ++ mapA (fun k => ⟨((m.toNat + k : Nat) : Int), ((m.toNat + n.toNat + 1 : Nat) : Int), 1⟩) n.toNat ++ mapA (fun k => ⟨(l.getD k El.d).f, (m.toNat : Int) + (l.getD k El.d).t, 1⟩) l.length⟩ : Net) = some (f, v, 0) := by
      rw [← eo]
      unfold netM
      congr 2 <;> omega
    rw [eo', bind_some']
    dsimp only
    rw [if_pos rfl]
    exact congrArg some (decide_eq_true (hmax.uniq (best_flow hP (by omega) (by omega) hb)))
  · rw [e, bind_some']
    dsimp only
    rw [if_pos he]
end Go.Proofs.Ythgjamhcnaamdaa
