/- The reading of a slice of slices of numbers. -/
import Derived.Test.YtlpelkfcmeapiaaSized
namespace Go.Proofs.Ytlpelkfcmeapiaa.Sx
open Go Go.ChangeShapes Go.WideShapes Go.RowKit Go.Deep
set_option linter.unusedVariables false
set_option linter.unusedSimpArgs false
section
variable {H : Type} {enc : TypeId × Value → H} {P : Program} {W : World} {base : Nat}
theorem rd_intLL {t e i : TypeId} {fuel : Nat} {v : Value} {x : DataW H × List MemPlace} (ht : P.underlying t = some (.slice e)) (he : P.underlying e = some (.slice i)) (hC : P.cellsOf e = 1) (hi : P.underlying i = some (.int .i64)) (hic : P.cellsOf i = 1)
    (h : DataW.trod enc P W base (fun _ => true) true fuel t [v] = some x) : ∃ l : List (List Int), Rd (Old W) W (slD l) v ∧ l.length ≤ maxLen := by
  rcases open_slice ht h with ⟨hcs, _⟩ | ⟨a, len, cap, m, n, D, Pl, hcs, hb, hl, hm, hmm, _, hel⟩
  · have e1 : v = .slice none 0 0 := by simpa using hcs
    exact ⟨[], ⟨none, 0, e1, Nat.le_refl _, Nat.zero_le _, fun h => absurd h (by simp)⟩, Nat.zero_le _⟩
  · have ev : v = .slice (some a) len cap := by simpa using hcs
    have hmc : m = cap := by simpa using hmm
    have each : ∀ k, ∃ c : List Int, k < m → ∃ w, W.cell? (a.add (k * 1)) = some w ∧ w.oneCell' = true ∧ Rd (Old W) W (slD c) w := fun k => by
      by_cases hk : k < m
      · obtain ⟨cs', hc, hd⟩ := hel k hk
        rw [hC] at hc
        obtain ⟨_, hcl, hat⟩ := World.cells?_some hc
        match cs', hcl with
        | [c0], _ =>
          obtain ⟨l, hr, _, _⟩ := rd_intL he hi hic hd
          have h0 := hat 0 (by decide)
          have h0' : W.cell? (a.add (k * 1)) = some c0 := by
            have e0 : (a.add (k * 1)).add 0 = a.add (k * 1) := by
              unfold Addr.add; split <;> simp_all
            rw [e0] at h0
            simpa using h0
          refine ⟨l, fun _ => ⟨c0, h0', ?_, hr⟩⟩
          obtain ⟨a', cap', e', _⟩ := hr
          rw [e']; rfl
      · exact ⟨[], fun h => absurd h hk⟩
    obtain ⟨F, hF⟩ := Classical.axiomOfChoice each
    have hlen : ((List.range len).map F).length = len := by simp
    refine ⟨(List.range len).map F, ?_, by omega⟩
    show Rd _ _ (.sl 1 ((List.range len).map F).length (row ((List.range len).map F)).get) _
    rw [hlen]
    refine ⟨some a, cap, ev, hl, hm, fun h0 => ?_⟩
    obtain ⟨z, hz, _⟩ := hF 0 (by omega)
    have hs := cell_spot hz
    have ea : a = ⟨a.block, a.off, none⟩ := by
      have := hs.1
      simp only [Addr.add, Nat.zero_mul, if_pos] at this
      cases a; simp_all
    refine ⟨a.block, a.off, by rw [← ea], (by have := hs.2; simpa [Addr.add, Old] using this), fun k hk f hf => ?_⟩
    obtain ⟨z, hz, ho, hd⟩ := hF k (by omega)
    rw [ea, add_flat] at hz
    have f0 : f = 0 := by omega
    subst f0
    refine ⟨z, hz, ho, ?_⟩
    have : ((List.range len).map F).getD k El.d = F k := by simp [hk]
    show Rd _ _ (El.enc (((List.range len).map F).getD k El.d) 0) _
    rw [this]
    exact hd
end
end Go.Proofs.Ytlpelkfcmeapiaa.Sx
