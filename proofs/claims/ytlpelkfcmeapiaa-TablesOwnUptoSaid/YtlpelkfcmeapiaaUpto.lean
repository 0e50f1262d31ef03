/- What a bound on the bulk says about a slice of numbers. -/
import Derived.Test.YtlpelkfcmeapiaaRows
import Derived.Test.YtlpelkfcmeapiaaSized
import Derived.OpenShut
import Derived.JoinedCond
namespace Go.Proofs.Ytlpelkfcmeapiaa.Sx
open Go Go.ChangeShapes Go.WideShapes Go.RowKit Go.Deep
set_option linter.unusedVariables false
set_option linter.unusedSimpArgs false
section
variable {H : Type} {enc : TypeId × Value → H} {P : Program} {W : World} {base : Nat}
theorem bulk_one (d : DataW H) : 1 ≤ Rows.uptoBulk d := by
  unfold Rows.uptoBulk; split <;> omega
theorem bulk_len : ∀ l : List (DataW H), l.length ≤ Rows.uptoBulkAll l
  | [] => Nat.zero_le _
  | d :: r => by
    have h1 := bulk_one d
    have h2 := bulk_len r
    unfold Rows.uptoBulkAll
    simp only [List.length_cons]
    omega
theorem bulk_mem : ∀ {l : List (DataW H)} {d : DataW H}, d ∈ l → Rows.uptoBulk d ≤ Rows.uptoBulkAll l
  | [], _, h => absurd h (by simp)
  | e :: r, d, h => by
    unfold Rows.uptoBulkAll
    rcases List.mem_cons.1 h with rfl | h
    · omega
    · have := bulk_mem h; omega
theorem bulk_small {l : List (DataW H)} (h : Rows.uptoSmall H l = true) {d : DataW H} (hd : d ∈ l) : Rows.uptoBulk d ≤ 1048576 := Nat.le_trans (bulk_mem hd) (of_decide_eq_true h)
theorem ints_bulk {s e : TypeId} {v : Value} {d : DataW H} {p : List MemPlace} (hs : P.underlying s = some (.slice e)) {n : Nat} (h : DataW.trod enc P W base (fun _ => true) true n s [v] = some (d, p)) {l : List Int} (hr : Rd (Old W) W (intsD l) v) : l.length ≤ Rows.uptoBulk d := by
  obtain ⟨a, cap, ev, _⟩ := hr
  rcases open_slice hs h with ⟨hcs, _⟩ | ⟨a', len, cap', m, k, D, Pl, hcs, _, hl, _, hm, hx, _⟩
  · have h2 : v = .slice none 0 0 := by simpa using hcs
    rw [ev] at h2
    injection h2 with _ h3 _
    rw [h3]; exact Nat.zero_le _
  · have h2 : v = .slice (some a') len cap' := by simpa using hcs
    rw [ev] at h2
    injection h2 with _ h3 _
    have hx' : d = _ := congrArg Prod.fst hx
    rw [hx', h3]
    unfold Rows.uptoBulk
    have := bulk_len ((List.range len).map D)
    rw [List.length_map, List.length_range] at this
    omega
end
end Go.Proofs.Ytlpelkfcmeapiaa.Sx
