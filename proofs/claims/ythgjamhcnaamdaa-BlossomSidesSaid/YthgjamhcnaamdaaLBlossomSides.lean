/- BlossomSides: the law's function answers true. -/
import Derived.Test.YthgjamhcnaamdaaPbip
import Derived.Test.YthgjamhcnaamdaaPsides
import Derived.Test.YthgjamhcnaamdaaKBlossomSides
namespace Go.Proofs.Ythgjamhcnaamdaa
open Go Go.Proofs.Ythgjamhcnaamdaa.Sx
set_option linter.unusedVariables false
set_option linter.unusedSimpArgs false
theorem blossomsS_ok : weirkeep_blossoms_F = some true := by kernel_rfl
def turnS (s : List Int) (a : Arc) : Arc := if atI s a.f = 1 then ⟨a.t, a.f, a.c⟩ else ⟨a.f, a.t, a.c⟩
theorem BlossomSides_true (g : Graph) : weirkeep_BlossomSides_F g = some true := by
  unfold weirkeep_BlossomSides_F
  rw [blossomsS_ok, bind_some', if_neg (by decide)]
  by_cases h : Ok g ∧ g.n ≤ 9
  · obtain ⟨hg, hn⟩ := h
    have n0 := hg.n0
    have hlen := hg.len
    obtain ⟨p, e, hp⟩ := most_pass hg hn
    rw [e, bind_some']
    dsimp only
    rcases sides_ok hg with ⟨s, es, hS⟩ | es
    · have hsl := hS.len
      rw [es, bind_some']
      dsimp only
      rw [if_neg (by decide), if_neg (by decide), if_neg (by omega)]
      obtain ⟨o, el, ho, hol⟩ := forN_inv (f := weirkeep_BlossomSides_B1 g s) (fun j o => o = (g.as.take j).map (turnS s) ∧ o.length = j) (n := g.as.length) (k := 0) (s := []) ⟨rfl, rfl⟩ fun j o _ hj ⟨hI, hL⟩ => by
        have hj' : j < g.as.length := by omega
        have hA := hg.arc _ (mem_getD (d := El.d) hj')
        have f0 := hA.f0; have f1 := hA.f1
        refine ⟨_, ?_, rfl, ?_⟩
        · unfold weirkeep_BlossomSides_B1
          rw [ck_some (by omega), take_succ_getD hj', List.map_append, ← hI]
          by_cases c : s.getD (g.as.getD j El.d).f.toNat 0 = 1
          · rw [if_pos c, bind_some']
            dsimp only
            rw [ck_some (by omega)]
            show some (o ++ [_]) = some (o ++ [turnS s (g.as.getD j El.d)])
            rw [show turnS s (g.as.getD j El.d) = ⟨(g.as.getD j El.d).t, (g.as.getD j El.d).f, (g.as.getD j El.d).c⟩ from if_pos c]
          · rw [if_neg c, bind_some']
            dsimp only
            rw [ck_some (by omega)]
            show some (o ++ [_]) = some (o ++ [turnS s (g.as.getD j El.d)])
            rw [show turnS s (g.as.getD j El.d) = ⟨(g.as.getD j El.d).f, (g.as.getD j El.d).t, (g.as.getD j El.d).c⟩ from if_neg c]
        · rw [List.length_map, List.length_take]; omega
      rw [Nat.zero_add, List.take_of_length_le (Nat.le_refl _)] at ho
      rw [el, bind_some', ho]
      have hP : OkP g.n g.n (g.as.map (turnS s)) := ⟨by omega, by omega, by omega, by omega, by rw [List.length_map]; omega, fun a ha => by
        obtain ⟨b, hb, rfl⟩ := List.mem_map.1 ha
        have hA := hg.arc b hb
        have f0 := hA.f0; have f1 := hA.f1; have t0 := hA.t0; have t1 := hA.t1
        unfold turnS
        split <;> (dsimp only; omega)⟩
      have hB : Bip (EB g) g.n.toNat g.n g.n (g.as.map (turnS s)) id id (fun x => decide (s.getD x 0 = 1)) := ⟨hP, by omega, fun _ _ z => z, fun _ _ z => z, fun x hx => hx, fun x hx => hx, fun a ha => by
        obtain ⟨b, hb, rfl⟩ := List.mem_map.1 ha
        have hA := hg.arc b hb
        have f0 := hA.f0; have f1 := hA.f1; have t0 := hA.t0; have t1 := hA.t1
        obtain ⟨k, hk, ek⟩ := getD_of_mem (d := El.d) hb
        have hsd := hS.arc b hb
        unfold atI at hsd
        unfold turnS atI
        dsimp only [id]
        rcases hsd with ⟨z1, z2⟩ | ⟨z1, z2⟩
        · rw [if_neg (by omega)]
          exact ⟨decide_eq_false (by rw [z1]; decide), decide_eq_true z2, k, hk, .inl (by rw [ek]; dsimp only; omega)⟩
        · rw [if_pos z1]
          exact ⟨decide_eq_false (by rw [z2]; decide), decide_eq_true z1, k, hk, .inr (by rw [ek]; dsimp only; omega)⟩, fun u v hE => by
        obtain ⟨k, hk, hj⟩ := hE
        have hm := mem_getD (d := El.d) hk
        refine ⟨_, List.mem_map_of_mem hm, ?_⟩
        unfold joinsB at hj
        unfold turnS
        dsimp only [id]
        split <;> (dsimp only; omega)⟩
      rcases most_pairs g.n g.n (g.as.map (turnS s)) with ⟨_, q, mate, e2, em, hM, hsz, hb⟩ | ⟨hz, _⟩
      · rw [e2, bind_some']
        dsimp only
        rw [if_pos rfl]
        exact congrArg some (decide_eq_true (hB.eq hb hp))
      · exact absurd hP hz
    · rw [es, bind_some']
      dsimp only
      rw [if_neg (by decide), if_pos (by decide), if_pos rfl]
  · obtain ⟨er, he, e⟩ := most_refused h
    obtain ⟨s, es⟩ : ∃ s, walk_Sides_F g = some s := by
      by_cases hg : Ok g
      · rcases sides_ok hg with ⟨s, es, _⟩ | es
        · exact ⟨_, es⟩
        · exact ⟨_, es⟩
      · exact ⟨_, sides_bad fun z => hg ((checkF_ok g _).1 z)⟩
    obtain ⟨s1, s2⟩ := s
    rw [e, bind_some']
    dsimp only
    rw [es, bind_some']
    dsimp only
    rw [if_pos he, if_neg he]
    rfl
end Go.Proofs.Ythgjamhcnaamdaa
