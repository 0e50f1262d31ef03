/- Package paths: ways that have no arc in common. -/
import Derived.Test.YthgjamhcnaamdaaPpaths0
import Derived.Test.YthgjamhcnaamdaaGpaths
namespace Go.Proofs.Ythgjamhcnaamdaa
open Go Go.Proofs.Ythgjamhcnaamdaa.Sx
set_option linter.unusedVariables false
set_option linter.unusedSimpArgs false
def unitA (a : Arc) : Arc := ⟨a.f, a.t, 1⟩
def unitN (n : Net) : Net := ⟨n.n, n.s, n.t, n.as.map unitA⟩
theorem unit_getD (L : List Arc) {k : Nat} (hk : k < L.length) : (L.map unitA).getD k El.d = unitA (L.getD k El.d) := by
  simp [List.getD_eq_getElem?_getD, hk]
theorem units_eq {n : Net} (hm : n.as.length ≤ 60) : paths_units_F n = some (unitN n) := by
  obtain ⟨l, e, h⟩ := forN_inv (f := paths_units_B1 n) (fun j (l : List Arc) => l = (n.as.take j).map unitA) (n := n.as.length) (k := 0) (s := []) rfl fun j l _ hj hI => by
    subst hI
    unfold paths_units_B1
    rw [ck_some (by rw [List.length_map, List.length_take]; omega)]
    refine ⟨_, rfl, ?_⟩
    rw [take_succ_getD (by omega), List.map_append]
    rfl
  unfold paths_units_F
  rw [e, bind_some', h, Nat.zero_add, List.take_of_length_le (Nat.le_refl _)]
  rfl
theorem ok_unit {n : Net} (hn : OkNet n) : OkNet (unitN n) := ⟨⟨hn.g.n0, hn.g.n1, by have := hn.g.len; unfold unitN; simpa using this, fun a ha => by
    obtain ⟨b, hb, rfl⟩ := List.mem_map.1 ha
    have hG := hn.g.arc b hb
    exact ⟨hG.f0, hG.f1, hG.t0, hG.t1, show (0 : Int) ≤ 1 by decide, show (1 : Int) ≤ 10000 by decide⟩⟩, hn.s0, hn.s1, hn.t0, hn.t1, hn.ne⟩
/-- as many ways as there can be, no two with an arc in common -/
theorem apart_ok {n : Net} (hn : OkNet n) : ∃ (ways : List Piece) (f : List Int) (v : Int), paths_Apart_F n = some (ways.map (fun (p : Piece) => p.arcs), 0) ∧ MaxV (unitN n) v ∧ Flow (unitN n) f ∧ netAt (unitN n).as f n.s = v ∧ (ways.length : Int) = v ∧ (∀ p, p ∈ ways → PieceP (unitN n).as p n.s n.t ∧ ∀ i, i < p.arcs.length → f.getD (p.arcs.getD i 0).toNat 0 = 1) := by
  have hm := hn.g.len
  dsimp only at hm
  have hu := ok_unit hn
  obtain ⟨f, v, e, hf, hv, hM⟩ := of_max hu
  have hv0 := hM.nonneg hu
  obtain ⟨ways, rounds, es, hS⟩ := split_ok hf (by rw [hv]; exact hv0)
  have ulen : (unitN n).as.length = n.as.length := by unfold unitN; simp
  have one : ∀ p, p ∈ ways → ∀ i, i < p.arcs.length → p.amount = 1 ∧ f.getD (p.arcs.getD i 0).toNat 0 = 1 := fun p hp i hi => by
    have hP := hS.ws p hp
    have hr := hP.ch.rg i hi
    have ha := hP.a1
    have hon := hS.on hp hi
    have hcap := hf.r (p.arcs.getD i 0).toNat (by rw [hf.len]; omega)
    have hc1 : ((unitN n).as.getD (p.arcs.getD i 0).toNat El.d).c = 1 := by
      unfold unitN
      dsimp only
      rw [unit_getD _ (by omega)]
      rfl
    omega
  have ones : ∀ p, p ∈ ways → p.amount = 1 := fun p hp => (one p hp 0 (by have := (hS.ws p hp).len; omega)).1
  have hlen := valL_ones ones
  obtain ⟨l, el, hl⟩ := forN_inv (f := paths_Apart_B1 ways) (fun j (l : List (List Int)) => l = (ways.take j).map fun (p : Piece) => p.arcs) (n := ways.length) (k := 0) (s := []) rfl fun j l _ hj hI => by
    subst hI
    have := hS.cw
    unfold paths_Apart_B1
    rw [ck_some (by rw [List.length_map, List.length_take]; omega)]
    refine ⟨_, rfl, ?_⟩
    have ht : ways.take (j + 1) = ways.take j ++ [ways.getD j El.d] := by
      rw [List.take_succ_eq_append_getElem (by omega)]
      simp [List.getD_eq_getElem?_getD, show j < ways.length by omega]
    rw [ht, List.map_append]
    rfl
  have hck : graph_CheckNet_F n = some 0 := by
    rcases checkNet_cases n with ⟨_, e⟩ | ⟨z, _⟩
    · exact e
    · exact absurd hn z
  refine ⟨ways, f, v, ?_, hM, hf, hv, by rw [← hlen, hS.val]; exact hv, fun p hp => ⟨hS.ws p hp, fun i hi => (one p hp i hi).2⟩⟩
  unfold paths_Apart_F
  rw [hck, bind_some', if_neg (by decide), units_eq hm, bind_some', e, bind_some']
  dsimp only
  rw [es, bind_some']
  dsimp only
  rw [el, bind_some', hl, Nat.zero_add, List.take_of_length_le (Nat.le_refl _)]
theorem apart_bad {n : Net} (h : ¬ OkNet n) : ∃ e, e ≠ 0 ∧ graph_CheckNet_F n = some e ∧ paths_Apart_F n = some ([], e) := by
  rcases checkNet_cases n with ⟨hn, _⟩ | ⟨_, e, he, hh⟩
  · exact absurd hn h
  · refine ⟨e, he, hh, ?_⟩
    unfold paths_Apart_F
    rw [hh, bind_some', if_pos he]
end Go.Proofs.Ythgjamhcnaamdaa
