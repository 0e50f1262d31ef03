/- SpanRound: the law's function answers true. -/
import Derived.Test.YtkpdkigkhbkfiaaPspan
import Derived.Test.YtkpdkigkhbkfiaaPparts
import Derived.Test.YtkpdkigkhbkfiaaKSpanRound
namespace Go.Proofs.Ytkpdkigkhbkfiaa
open Go Go.Proofs.Ytkpdkigkhbkfiaa.Sx
set_option linter.unusedVariables false
set_option linter.unusedSimpArgs false
theorem spansR_eq : weirkeep_spans_F = some true := by kernel_rfl
theorem SpanRound_true (g : Graph) (k : Int) : weirkeep_SpanRound_F g k = some true := by
  unfold weirkeep_SpanRound_F
  rw [spansR_eq, bind_some', if_neg (by decide)]
  by_cases hc : checkF g (-10000) = 0
  case neg =>
    rw [least_bad hc, bind_some']
    dsimp only
    rw [if_pos hc, if_neg hc]; rfl
  have hg := (checkF_ok g _).1 hc
  have hl := hg.len
  have n0 := hg.n0
  have n1 := hg.n1
  obtain ⟨l, s, e, hC⟩ := least_ok hg
  have ll : l.length ≤ 12 := by
    obtain ⟨P, _, _, h⟩ := hC.many
    omega
  rw [e, bind_some']
  dsimp only
  rw [if_neg (by decide)]
  by_cases c1 : k < 0
  · rw [if_pos c1, if_pos rfl]
  by_cases c2 : ((g.as.length : Nat) : Int) ≤ k
  · rw [if_neg c1, if_pos c2, if_pos rfl]
  rw [if_neg c1, if_neg c2, contains_eq, bind_some']
  by_cases c3 : k ∈ l
  · rw [if_pos (decide_eq_true c3), if_pos rfl]
  have hk : InA g k := ⟨by omega, by omega⟩
  rw [if_neg (by rw [decide_eq_false c3]; decide), ck_some ⟨hk.1, hk.2⟩]
  have key : ∀ i : Int, keyS g i = (g.as.getD i.toNat El.d).c * 64 + i := fun i => rfl
  have kk := key k
  obtain ⟨m, e2, m1, m2, m3⟩ := forC_inv (f := weirkeep_SpanRound_B1 g k l) (ρ := Bool) (fun j m => (∀ a, a ∈ m → Good g.n (-10000) a) ∧ (∀ i : Nat, i < j → keyS g (l.getD i 0) < keyS g k → g.as.getD (l.getD i 0).toNat El.d ∈ m) ∧ m.length ≤ j) (n := l.length) (k := 0) (s := ([] : List Arc))
    ⟨fun a ha => (by cases ha), fun i hi => absurd hi (by omega), Nat.le_refl _⟩ fun j m _ hj ⟨i1, i2, i3⟩ => by
      have hj' : j < l.length := by omega
      have hi := hC.inA _ (mem_getD (d := 0) hj')
      have x0 := hi.1
      have x1 := hi.2
      have kj := key (l.getD j 0)
      have add : ∀ a, a ∈ m ++ [g.as.getD (l.getD j 0).toNat El.d] → Good g.n (-10000) a := fun a ha => by
        rcases List.mem_append.1 ha with h | h
        · exact i1 a h
        · rw [List.mem_singleton.1 h]; exact hi.good hg
      have add2 : ∀ i : Nat, i < j + 1 → keyS g (l.getD i 0) < keyS g k → g.as.getD (l.getD i 0).toNat El.d ∈ m ++ [g.as.getD (l.getD j 0).toNat El.d] := fun i hi hlt => by
        by_cases z : i = j
        · rw [z]; exact List.mem_append.2 (.inr (List.mem_singleton.2 rfl))
        · exact List.mem_append.2 (.inl (i2 i (by omega) hlt))
      unfold weirkeep_SpanRound_B1
      rw [if_neg (by omega), if_neg (by omega), ck_some ⟨x0, x1⟩]
      by_cases d1 : (g.as.getD (l.getD j 0).toNat El.d).c < (g.as.getD k.toNat El.d).c
      · rw [if_pos d1, ck_some (by omega)]
        exact ⟨_, rfl, add, add2, by rw [List.length_append, List.length_singleton]; omega⟩
      · rw [if_neg d1]
        have skip : ¬ keyS g (l.getD j 0) < keyS g k → (∀ a, a ∈ m → Good g.n (-10000) a) ∧ (∀ i : Nat, i < j + 1 → keyS g (l.getD i 0) < keyS g k → g.as.getD (l.getD i 0).toNat El.d ∈ m) ∧ m.length ≤ j + 1 := fun h => ⟨i1, fun i hi hlt => by
          by_cases z : i = j
          · rw [z] at hlt; exact absurd hlt h
          · exact i2 i (by omega) hlt, by omega⟩
        by_cases d2 : (g.as.getD (l.getD j 0).toNat El.d).c = (g.as.getD k.toNat El.d).c
        · rw [if_pos d2]
          by_cases d3 : l.getD j 0 < k
          · rw [if_pos d3, ck_some (by omega)]
            exact ⟨_, rfl, add, add2, by rw [List.length_append, List.length_singleton]; omega⟩
          · rw [if_neg d3]
            exact ⟨_, rfl, skip (by omega)⟩
        · rw [if_neg d2]
          exact ⟨_, rfl, skip (by have := hk.2; omega)⟩
  rw [Nat.zero_add] at m2 m3
  rw [e2, bind_some']
  dsimp only
  have hh : Ok ⟨g.n, m⟩ := ⟨n0, n1, by show m.length ≤ 60; omega, m1⟩
  obtain ⟨p, e3, hp⟩ := parts_ok hh
  have pl : p.length = g.n.toNat := hp.pi.len
  have hA := hk.good hg
  have f0 := hA.f0; have f1 := hA.f1; have t0 := hA.t0; have t1 := hA.t1
  rw [e3, bind_some']
  dsimp only
  rw [if_pos rfl, if_pos (by omega), ck_some (by omega), ck_some (by omega), decide_eq_true]
  exact hC.left k hk c3 (atI p) fun i hi hlt => by
    obtain ⟨j, hj, ej⟩ := getD_of_mem (d := 0) hi
    have := hp.arc _ (m2 j hj (by rw [ej]; exact hlt))
    rw [ej] at this
    exact this
end Go.Proofs.Ytkpdkigkhbkfiaa
