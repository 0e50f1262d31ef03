/- What a bound on the bulk says about a slice of slices of numbers. -/
import Derived.Test.YtlpelkfcmeapiaaUpto
import Derived.Test.YtlpelkfcmeapiaaSizedM
namespace Go.Proofs.Ytlpelkfcmeapiaa.Sx
open Go Go.ChangeShapes Go.WideShapes Go.RowKit Go.Deep
set_option linter.unusedVariables false
set_option linter.unusedSimpArgs false
section
variable {H : Type} {enc : TypeId × Value → H} {P : Program} {W : World} {base : Nat}
theorem intLL_bulk {s e i : TypeId} {v : Value} {d : DataW H} {p : List MemPlace} (hs : P.underlying s = some (.slice e)) (he : P.underlying e = some (.slice i)) (hC : P.cellsOf e = 1) {n : Nat} (h : DataW.trod enc P W base (fun _ => true) true n s [v] = some (d, p))
    {l : List (List Int)} (hr : Rd (Old W) W (slD l) v) : l.length ≤ Rows.uptoBulk d ∧ ∀ k, k < l.length → (l.getD k []).length ≤ Rows.uptoBulk d := by
  obtain ⟨a, cap, ev, _, _, h3⟩ := hr
  rcases open_slice hs h with ⟨hcs, _⟩ | ⟨a', len, cap', m, k, D, Pl, hcs, _, hl, _, hm, hx, hel⟩
  · have h2 : v = .slice none 0 0 := by simpa using hcs
    rw [ev] at h2
    injection h2 with _ h3 _
    exact ⟨by omega, fun k hk => by omega⟩
  · have h2 : v = .slice (some a') len cap' := by simpa using hcs
    rw [ev] at h2
    injection h2 with h4 h5 _
    have hx' : d = _ := congrArg Prod.fst hx
    have hm' : m = cap' := by simpa using hm
    have hb : len ≤ Rows.uptoBulk d ∧ ∀ j, j < len → Rows.uptoBulk (D j) ≤ Rows.uptoBulk d := by
      rw [hx']
      unfold Rows.uptoBulk
      have h6 := bulk_len ((List.range len).map D)
      rw [List.length_map, List.length_range] at h6
      refine ⟨by omega, fun j hj => ?_⟩
      have h7 := bulk_mem (l := (List.range len).map D) (d := D j) (List.mem_map.2 ⟨j, List.mem_range.2 hj, rfl⟩)
      have h8 : Rows.uptoBulk (D j) ≤ Rows.uptoBulkAll ((List.range len).map D) := h7
      unfold Rows.uptoBulk at h8
      omega
    refine ⟨by omega, fun j hj => ?_⟩
    obtain ⟨g, q, e1, hg, hc⟩ := h3 (by omega)
    obtain ⟨u, hu, _, hru⟩ := hc j hj 0 (Nat.zero_lt_one)
    obtain ⟨cs', hcs', hd⟩ := hel j (by omega)
    rw [hC] at hcs'
    obtain ⟨_, hcl, hat⟩ := World.cells?_some hcs'
    match cs', hcl with
    | [c0], _ =>
      have h0 := hat 0 (by decide)
      have ea : a' = ⟨g, q, none⟩ := by
        rw [h4] at e1
        exact Option.some.inj e1
      rw [ea, add_flat, add_flat] at h0
      have e3 : (⟨g, q + (j * El.size (List Int) + 0), none⟩ : Addr) = ⟨g, q + j * 1 + 0, none⟩ := by
        rw [show El.size (List Int) = 1 from rfl, Nat.add_assoc]
      rw [e3] at hu
      have e4 : u = c0 := by
        rw [hu] at h0
        simpa using h0
      subst e4
      exact Nat.le_trans (ints_bulk he hd (l := l.getD j []) hru) (hb.2 j (by omega))
end
end Go.Proofs.Ytlpelkfcmeapiaa.Sx
