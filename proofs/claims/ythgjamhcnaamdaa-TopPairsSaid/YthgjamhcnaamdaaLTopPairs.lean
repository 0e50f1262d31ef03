/- TopPairs: the law's function answers true. -/
import Derived.Test.YthgjamhcnaamdaaPbip
import Derived.Test.YthgjamhcnaamdaaPhold
import Derived.Test.YthgjamhcnaamdaaPmnet
import Derived.Test.YthgjamhcnaamdaaPpaths
import Derived.Test.YthgjamhcnaamdaaKTopPairs
namespace Go.Proofs.Ythgjamhcnaamdaa
open Go Go.Proofs.Ythgjamhcnaamdaa.Sx
set_option linter.unusedVariables false
set_option linter.unusedSimpArgs false
theorem worksP_ok : weirtop_works_F = some true := by kernel_rfl
theorem mapA_moreT (F : Nat → Arc) (k : Nat) : mapA F (k + 1) = mapA F k ++ [F k] := by
  unfold mapA
  rw [List.range_succ, List.map_append]
  rfl
theorem builtT {f : Nat → List Arc → Option (List Arc)} (F : Nat → Arc) (base : List Arc) (n : Nat) (h : ∀ k o, k < n → o.length = base.length + k → f k o = some (o ++ [F k])) : forN f n 0 base = some (base ++ mapA F n) := by
  obtain ⟨o, e, h1⟩ := forN_inv (f := f) (fun j o => o = base ++ mapA F j) (n := n) (k := 0) (s := base) (by simp [mapA]) fun j o _ hj hI => by
    subst hI
    exact ⟨_, h j _ (by omega) (by rw [List.length_append, mapA_lenM]), by rw [mapA_moreT, List.append_assoc]⟩
  rw [e, h1, Nat.zero_add]
theorem built2 {f : Nat → List Arc × List Arc → Option (List Arc × List Arc)} (F G : Nat → Arc) (b1 b2 : List Arc) (n : Nat) (h : ∀ k o1 o2, k < n → o1.length = b1.length + k → o2.length = b2.length + k → f k (o1, o2) = some (o1 ++ [F k], o2 ++ [G k])) : forN f n 0 (b1, b2) = some (b1 ++ mapA F n, b2 ++ mapA G n) := by
  obtain ⟨o, e, h1⟩ := forN_inv (f := f) (fun j o => o = (b1 ++ mapA F j, b2 ++ mapA G j)) (n := n) (k := 0) (s := (b1, b2)) (by simp [mapA]) fun j o _ hj hI => by
    subst hI
    exact ⟨_, h j _ _ (by omega) (by rw [List.length_append, mapA_lenM]) (by rw [List.length_append, mapA_lenM]), by rw [mapA_moreT, mapA_moreT, List.append_assoc, List.append_assoc]⟩
  rw [e, h1, Nat.zero_add]
theorem units_netM (m n : Nat) (l : List Arc) : unitN (netM m n l) = netM m n l := by
  unfold unitN netM mapA
  simp only [List.map_append, List.map_map]
  rfl
def gB (m n : Int) (l : List Arc) : Graph := ⟨m + n, mapA (fun k => ⟨(l.getD k El.d).f, m + (l.getD k El.d).t, 0⟩) l.length⟩
theorem gB_get {m n : Int} {l : List Arc} {k : Nat} (h : k < l.length) : (gB m n l).as.getD k El.d = ⟨(l.getD k El.d).f, m + (l.getD k El.d).t, 0⟩ := mapA_get _ h
theorem gB_len (m n : Int) (l : List Arc) : (gB m n l).as.length = l.length := mapA_lenM _ _
theorem TopPairs_true (m n : Int) (l : List Arc) : weirtop_TopPairs_F m n l = some true := by
  unfold weirtop_TopPairs_F
  rw [worksP_ok, bind_some', if_neg (by decide)]
  rcases most_pairs m n l with ⟨hP, p, mate, e, em, hM, hsz, hb⟩ | ⟨_, er, he, ec, e⟩
  · have hm0 := hP.m0; have hm1 := hP.m1; have hn0 := hP.n0; have hn1 := hP.n1; have hlen := hP.len
    rw [e, bind_some']
    dsimp only
    rw [if_neg (by decide), ck_some (inI_small (by omega) (by omega))]
    by_cases c1 : 9 < m + n
    · rw [if_pos c1, if_pos rfl]
    rw [if_neg c1]
    by_cases c0 : m + n < 1
    · rw [if_pos c0, if_pos rfl]
    rw [if_neg c0, ck_some (inI_small (by omega) (by omega))]
    by_cases c2 : 60 < m + n + ((l.length : Nat) : Int)
    · rw [if_pos c2, if_pos rfl]
    rw [if_neg c2, ck_some (inI_small (by omega) (by omega)), ck_some (inI_small (by omega) (by omega)), ck_some (inI_small (by omega) (by omega))]
    have em2 : ((m.toNat : Nat) : Int) = m := by omega
    have en2 : ((n.toNat : Nat) : Int) = n := by omega
    have b1 := builtT (f := weirtop_TopPairs_B1 m n) (fun i => ⟨((m.toNat + n.toNat : Nat) : Int), (i : Int), 1⟩) [] m.toNat fun k o hk ho => by
      unfold weirtop_TopPairs_B1
      rw [ck_some (by simp at ho; omega), show ((m.toNat + n.toNat : Nat) : Int) = m + n by omega]
    rw [List.nil_append] at b1
    have b2 := builtT (f := weirtop_TopPairs_B2 m n) (fun k => ⟨((m.toNat + k : Nat) : Int), ((m.toNat + n.toNat + 1 : Nat) : Int), 1⟩) (mapA (fun i => ⟨((m.toNat + n.toNat : Nat) : Int), (i : Int), 1⟩) m.toNat) n.toNat fun k o hk ho => by
      rw [mapA_lenM] at ho
      unfold weirtop_TopPairs_B2
      rw [ck_some (inI_small (by omega) (by omega)), ck_some (by omega), show ((m.toNat + n.toNat + 1 : Nat) : Int) = m + n + 1 by omega, show ((m.toNat + k : Nat) : Int) = m + ((k : Nat) : Int) by omega]
    have b3 := built2 (f := weirtop_TopPairs_B3 m l) (fun k => ⟨(l.getD k El.d).f, m + (l.getD k El.d).t, 0⟩) (fun k => ⟨(l.getD k El.d).f, (m.toNat : Int) + (l.getD k El.d).t, 1⟩) [] (mapA (fun i => (⟨((m.toNat + n.toNat : Nat) : Int), (i : Int), 1⟩ : Arc)) m.toNat ++ mapA (fun k => ⟨((m.toNat + k : Nat) : Int), ((m.toNat + n.toNat + 1 : Nat) : Int), 1⟩) n.toNat) l.length fun k o1 o2 hk h1 h2 => by
      rw [List.length_append, mapA_lenM, mapA_lenM] at h2
      rw [List.length_nil] at h1
      have har := hP.arc _ (mem_getD (d := El.d) hk)
      unfold weirtop_TopPairs_B3
      dsimp only
      rw [ck_some (inI_small (by omega) (by omega)), ck_some (by omega), ck_some (by omega), em2]
    rw [b1, bind_some', ck_some (inI_small (by omega) (by omega)), b2, bind_some', b3, bind_some']
    dsimp only
    rw [List.nil_append]
    have hg : Ok (gB m n l) := ⟨by show 1 ≤ m + n; omega, by show m + n ≤ 12; omega, by rw [gB_len]; exact hlen, fun a ha => by
      obtain ⟨k, hk, q⟩ := getD_of_mem (d := El.d) ha
      rw [gB_len] at hk
      rw [gB_get hk] at q
      have har := hP.arc _ (mem_getD (d := El.d) hk)
      subst q
      refine ⟨?_, ?_, ?_, ?_, ?_, ?_⟩ <;> (try unfold gB) <;> (try dsimp only) <;> omega⟩
    have hg9 : (gB m n l).n ≤ 9 := by show m + n ≤ 9; omega
    obtain ⟨q, e2, hq⟩ := most_pass hg hg9
    have e2' : blossom_Most_F (⟨m + n, mapA (fun k => ⟨(l.getD k El.d).f, m + (l.getD k El.d).t, 0⟩) l.length⟩ : Graph) = some (q, 0) := e2
    rw [e2', bind_some']
    have hB : Bip (EB (gB m n l)) (m + n).toNat m n l id (fun y => m.toNat + y) (fun z => decide (m.toNat ≤ z)) := ⟨hP, by omega, fun _ _ z => z, fun x y z => by omega, fun x hx => by show x < _; omega, fun y hy => by omega, fun a ha => by
      obtain ⟨k, hk, q⟩ := getD_of_mem (d := El.d) ha
      have har := hP.arc a ha
      dsimp only [id]
      refine ⟨decide_eq_false (by omega), decide_eq_true (by omega), k, by rw [gB_len]; exact hk, .inl ?_⟩
      rw [gB_get hk, q]
      dsimp only
      omega, fun u v hE => by
      obtain ⟨k, hk, hj⟩ := hE
      rw [gB_len] at hk
      unfold joinsB at hj
      rw [gB_get hk] at hj
      dsimp only at hj
      have hm := mem_getD (d := El.d) hk
      have har := hP.arc _ hm
      refine ⟨_, hm, ?_⟩
      dsimp only [id]
      omega⟩
    have heq : (p.length : Int) = (q.length : Int) := hB.eq hb hq
    obtain ⟨a, b, s, eh, hH⟩ := hold_ok hP em hM
    rw [eh, bind_some']
    obtain ⟨ways, f, v, ea, hmax, _, _, hw, _⟩ := apart_ok (netM_ok hP (by omega) (by omega))
    rw [units_netM] at hmax
    have ea' : paths_Apart_F (⟨m + n + 2, m + n, m + n + 1, mapA (fun i => (⟨((m.toNat + n.toNat : Nat) : Int), (i : Int), 1⟩ : Arc)) m.toNat ++ mapA (fun k => ⟨((m.toNat + k : Nat) : Int), ((m.toNat + n.toNat + 1 : Nat) : Int), 1⟩) n.toNat ++ mapA (fun k => ⟨(l.getD k El.d).f, (m.toNat : Int) + (l.getD k El.d).t, 1⟩) l.length⟩ : Net) = some (ways.map (fun (p : Piece) => p.arcs), 0) := by
      rw [← ea]
      unfold netM
      congr 2 <;> omega
    rw [ea', bind_some']
    dsimp only
    have oa := onesG_b a; have ob := onesG_b b
    have hab : onesG a + onesG b = (p.length : Int) := by rw [hH.size, hsz]
    have hv : v = (p.length : Int) := hmax.uniq (best_flow hP (by omega) (by omega) hb)
    rw [if_pos rfl, if_pos rfl, if_pos rfl, if_pos heq, onesW_ok, bind_some', onesW_ok, bind_some', ck_some (inI_small (by omega) (by omega)), if_pos hab.symm, List.length_map]
    exact congrArg some (decide_eq_true (by omega))
  · rw [e, bind_some']
    dsimp only
    rw [if_pos he, if_neg he]
    rfl
end Go.Proofs.Ythgjamhcnaamdaa
