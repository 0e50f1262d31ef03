/- A table is a flow that fills the net of rows and columns. No program in sight. -/
import Derived.Test.YtlelfifbmckhgaaPgnet
namespace Go.Proofs.Ytlelfifbmckhgaa
open Go Go.Proofs.Ytlelfifbmckhgaa.Sx
set_option linter.unusedVariables false
set_option linter.unusedSimpArgs false
/-- a table of these sums -/
def IsT (rows cols : List Int) (M : Nat → Nat → Int) : Prop := (∀ i k, M i k = 0 ∨ M i k = 1) ∧ (∀ i, i < rows.length → tot (M i) cols.length = rows.getD i 0) ∧ ∀ k, k < cols.length → tot (fun i => M i k) rows.length = cols.getD k 0
structure SmallG (rows cols : List Int) : Prop where
  mn : rows.length + cols.length ≤ 10
  arcs : rows.length * cols.length + rows.length + cols.length ≤ 60
  rs : ∀ i, i < rows.length → 0 ≤ rows.getD i 0 ∧ rows.getD i 0 ≤ 12
  cs : ∀ k, k < cols.length → 0 ≤ cols.getD k 0 ∧ cols.getD k 0 ≤ 12
theorem netG_len (rows cols : List Int) : (netG rows cols).as.length = rows.length * (cols.length + 1) + cols.length := by
  unfold netG
  dsimp only
  rw [List.length_append, rowsG_len]
  simp [mapA]
theorem rowsG_mem {m n : Nat} {rows : List Int} {a : Arc} : ∀ {j : Nat}, a ∈ rowsG m n rows j → ∃ i, i < j ∧ a ∈ blockG m n rows i
  | 0, h => by cases h
  | j + 1, h => by
    rw [rowsG] at h
    rcases List.mem_append.1 h with h | h
    · obtain ⟨i, hi, h'⟩ := rowsG_mem h
      exact ⟨i, by omega, h'⟩
    · exact ⟨j, by omega, h⟩
theorem netG_ok {rows cols : List Int} (h : SmallG rows cols) : OkNet (netG rows cols) := by
  have mn := h.mn
  refine ⟨⟨by show (1 : Int) ≤ ((rows.length + cols.length + 2 : Nat) : Int); omega, by show ((rows.length + cols.length + 2 : Nat) : Int) ≤ 12; omega, ?_, fun a ha => ?_⟩, by show (0 : Int) ≤ ((rows.length + cols.length : Nat) : Int); omega, by show ((rows.length + cols.length : Nat) : Int) < ((rows.length + cols.length + 2 : Nat) : Int); omega, by show (0 : Int) ≤ ((rows.length + cols.length + 1 : Nat) : Int); omega, by show ((rows.length + cols.length + 1 : Nat) : Int) < ((rows.length + cols.length + 2 : Nat) : Int); omega, by show ((rows.length + cols.length : Nat) : Int) ≠ ((rows.length + cols.length + 1 : Nat) : Int); omega⟩
  · have := netG_len rows cols
    have h2 := h.arcs
    rw [Nat.mul_add, Nat.mul_one] at this
    show (netG rows cols).as.length ≤ 60
    omega
  · have ha' : a ∈ rowsG rows.length cols.length rows rows.length ++ mapA (fun k => ⟨((rows.length + k : Nat) : Int), ((rows.length + cols.length + 1 : Nat) : Int), cols.getD k 0⟩) cols.length := ha
    have hN : (⟨(netG rows cols).n, (netG rows cols).as⟩ : Graph).n = ((rows.length + cols.length + 2 : Nat) : Int) := rfl
    rcases List.mem_append.1 ha' with q | q
    · obtain ⟨i, hi, q⟩ := rowsG_mem q
      have hr := h.rs i hi
      unfold blockG at q
      rcases List.mem_append.1 q with q | q
      · rw [List.mem_singleton.1 q]
        refine ⟨?_, ?_, ?_, ?_, ?_, ?_⟩ <;> (try rw [hN]) <;> dsimp only <;> omega
      · obtain ⟨k, hk, rfl⟩ := List.mem_map.1 q
        have hk' := List.mem_range.1 hk
        refine ⟨?_, ?_, ?_, ?_, ?_, ?_⟩ <;> (try rw [hN]) <;> dsimp only <;> omega
    · obtain ⟨k, hk, rfl⟩ := List.mem_map.1 q
      have hk' := List.mem_range.1 hk
      have hc := h.cs k hk'
      refine ⟨?_, ?_, ?_, ?_, ?_, ?_⟩ <;> (try rw [hN]) <;> dsimp only <;> omega
/-- the arcs by their numbers -/
theorem rowsG_get (m n : Nat) (rows : List Int) {i y : Nat} (hy : y < n + 1) : ∀ {j : Nat}, i < j → (rowsG m n rows j).getD (i * (n + 1) + y) El.d = (blockG m n rows i).getD y El.d
  | 0, h => absurd h (by omega)
  | j + 1, h => by
    rw [rowsG]
    by_cases z : i = j
    · subst z
      rw [List.getD_eq_getElem?_getD, List.getElem?_append_right (by rw [rowsG_len]; omega), rowsG_len, Nat.add_sub_cancel_left, ← List.getD_eq_getElem?_getD]
    · have : (i + 1) * (n + 1) ≤ j * (n + 1) := Nat.mul_le_mul_right _ (by omega)
      rw [Nat.add_mul, Nat.one_mul] at this
      rw [List.getD_eq_getElem?_getD, List.getElem?_append_left (by rw [rowsG_len]; omega), ← List.getD_eq_getElem?_getD]
      exact rowsG_get m n rows hy (by omega)
theorem idx_lt' {i m y n : Nat} (hi : i < m) (hy : y < n + 1) : i * (n + 1) + y < m * (n + 1) := by
  have : (i + 1) * (n + 1) ≤ m * (n + 1) := Nat.mul_le_mul_right _ (by omega)
  rw [Nat.add_mul, Nat.one_mul] at this
  omega
theorem netG_get {rows cols : List Int} {i y : Nat} (hi : i < rows.length) (hy : y < cols.length + 1) : (netG rows cols).as.getD (i * (cols.length + 1) + y) El.d = (blockG rows.length cols.length rows i).getD y El.d := by
  unfold netG
  dsimp only
  rw [List.getD_eq_getElem?_getD, List.getElem?_append_left (by rw [rowsG_len]; exact idx_lt' hi hy), ← List.getD_eq_getElem?_getD]
  exact rowsG_get _ _ _ hy hi
theorem netG_head {rows cols : List Int} {i : Nat} (hi : i < rows.length) : ((netG rows cols).as.getD (i * (cols.length + 1)) El.d).c = rows.getD i 0 := by
  have := netG_get (cols := cols) hi (y := 0) (by omega)
  rw [Nat.add_zero] at this
  rw [this]
  rfl
theorem netG_mid {rows cols : List Int} {i k : Nat} (hi : i < rows.length) (hk : k < cols.length) : ((netG rows cols).as.getD (i * (cols.length + 1) + (1 + k)) El.d).c = 1 := by
  rw [netG_get hi (by omega)]
  unfold blockG
  rw [List.getD_eq_getElem?_getD, List.getElem?_append_right (by simp)]
  simp [mapA, hk]
theorem netG_last {rows cols : List Int} {k : Nat} (hk : k < cols.length) : ((netG rows cols).as.getD (rows.length * (cols.length + 1) + k) El.d).c = cols.getD k 0 := by
  unfold netG
  dsimp only
  rw [List.getD_eq_getElem?_getD, List.getElem?_append_right (by rw [rowsG_len]; omega), rowsG_len, Nat.add_sub_cancel_left]
  simp [mapA, hk]
/-- a flow that fills the net is a table -/
theorem flow_tab {rows cols : List Int} (h : SmallG rows cols) {f : List Int} (hf : Flow (netG rows cols) f) (hr : netAt (netG rows cols).as f (netG rows cols).s = tot (fun i => rows.getD i 0) rows.length) (hc : netAt (netG rows cols).as f (netG rows cols).s = tot (fun k => cols.getD k 0) cols.length) : ∃ M, IsT rows cols M := by
  have mn := h.mn
  have hlen := hf.len
  have gl := netG_len rows cols
  have hS : netAt (netG rows cols).as f (netG rows cols).s = tot (fun i => f.getD (i * (cols.length + 1)) 0) rows.length := net_src (g := fun k => f.getD k 0)
  have hTk : netAt (netG rows cols).as f (netG rows cols).t = -tot (fun k => f.getD (rows.length * (cols.length + 1) + k) 0) cols.length := net_snk (g := fun k => f.getD k 0)
  have hends := hf.ends
  have e1 := tot_eq_each (f := fun i => f.getD (i * (cols.length + 1)) 0) (g := fun i => rows.getD i 0) (n := rows.length) (fun i hi => by
    have h1 := idx_lt' (y := 0) hi (show 0 < cols.length + 1 by omega)
    have := (hf.r (i * (cols.length + 1)) (by omega)).2
    rw [netG_head hi] at this
    exact this) (by rw [← hS, hr])
  have e2 := tot_eq_each (f := fun k => f.getD (rows.length * (cols.length + 1) + k) 0) (g := fun k => cols.getD k 0) (n := cols.length) (fun k hk => by
    have := (hf.r (rows.length * (cols.length + 1) + k) (by omega)).2
    rw [netG_last hk] at this
    exact this) (by omega)
  have rg : ∀ i k, i < rows.length → k < cols.length → f.getD (i * (cols.length + 1) + (1 + k)) 0 = 0 ∨ f.getD (i * (cols.length + 1) + (1 + k)) 0 = 1 := fun i k hi hk => by
    have h1 := idx_lt' (y := 1 + k) hi (show 1 + k < cols.length + 1 by omega)
    have := hf.r (i * (cols.length + 1) + (1 + k)) (by omega)
    rw [netG_mid hi hk] at this
    omega
  have hkeep : ∀ x : Nat, x < rows.length + cols.length → netF (netG rows cols).as (fun k => f.getD k 0) (x : Int) = 0 := fun x hx => hf.keep x (by omega) (by show (x : Int) ≠ ((rows.length + cols.length : Nat) : Int); omega) (by show (x : Int) ≠ ((rows.length + cols.length + 1 : Nat) : Int); omega)
  refine ⟨fun i k => if i < rows.length ∧ k < cols.length then f.getD (i * (cols.length + 1) + (1 + k)) 0 else 0, fun i k => ?_, fun i hi => ?_, fun k hk => ?_⟩
  · try dsimp only
    by_cases c : i < rows.length ∧ k < cols.length
    · rw [if_pos c]; exact rg i k c.1 c.2
    · rw [if_neg c]; exact .inl rfl
  · have h1 := hkeep i (by omega)
    rw [net_row hi] at h1
    have h2 := e1 i hi
    try dsimp only at h1 h2
    rw [tot_congr (g := fun k => f.getD (i * (cols.length + 1) + (1 + k)) 0) fun k hk => if_pos ⟨hi, hk⟩]
    omega
  · have h1 := hkeep (rows.length + k) (by omega)
    rw [net_col hk] at h1
    have h2 := e2 k hk
    try dsimp only at h1 h2
    try dsimp only
    rw [tot_congr (g := fun i => f.getD (i * (cols.length + 1) + (1 + k)) 0) fun i hi => if_pos ⟨hi, hk⟩]
    omega
/-- the flow that a table is -/
def gOf (rows cols : List Int) (M : Nat → Nat → Int) (x : Nat) : Int := if x < rows.length * (cols.length + 1) then (if x % (cols.length + 1) = 0 then rows.getD (x / (cols.length + 1)) 0 else M (x / (cols.length + 1)) (x % (cols.length + 1) - 1)) else cols.getD (x - rows.length * (cols.length + 1)) 0
def fOf (rows cols : List Int) (M : Nat → Nat → Int) : List Int := (List.range (rows.length * (cols.length + 1) + cols.length)).map (gOf rows cols M)
theorem fOf_get {rows cols : List Int} {M : Nat → Nat → Int} {x : Nat} (h : x < rows.length * (cols.length + 1) + cols.length) : (fOf rows cols M).getD x 0 = gOf rows cols M x := by
  unfold fOf
  simp [h]
theorem div_mod' {i y n : Nat} (hy : y < n + 1) : (i * (n + 1) + y) / (n + 1) = i ∧ (i * (n + 1) + y) % (n + 1) = y := by
  rw [Nat.mul_comm, Nat.mul_add_div (by omega), Nat.div_eq_of_lt hy, Nat.add_zero, Nat.mul_add_mod, Nat.mod_eq_of_lt hy]
  exact ⟨rfl, rfl⟩
theorem fOf_head {rows cols : List Int} {M : Nat → Nat → Int} {i : Nat} (hi : i < rows.length) : (fOf rows cols M).getD (i * (cols.length + 1)) 0 = rows.getD i 0 := by
  have h1 := idx_lt' (y := 0) hi (show 0 < cols.length + 1 by omega)
  have h2 := div_mod' (i := i) (y := 0) (n := cols.length) (by omega)
  rw [Nat.add_zero] at h1 h2
  rw [fOf_get (by omega)]
  unfold gOf
  rw [if_pos h1, if_pos h2.2, h2.1]
theorem fOf_mid {rows cols : List Int} {M : Nat → Nat → Int} {i k : Nat} (hi : i < rows.length) (hk : k < cols.length) : (fOf rows cols M).getD (i * (cols.length + 1) + (1 + k)) 0 = M i k := by
  have h1 := idx_lt' (y := 1 + k) hi (show 1 + k < cols.length + 1 by omega)
  have h2 := div_mod' (i := i) (y := 1 + k) (n := cols.length) (by omega)
  rw [fOf_get (by omega)]
  unfold gOf
  rw [if_pos h1, h2.1, h2.2, if_neg (by omega), Nat.add_sub_cancel_left]
theorem fOf_last {rows cols : List Int} {M : Nat → Nat → Int} {k : Nat} (hk : k < cols.length) : (fOf rows cols M).getD (rows.length * (cols.length + 1) + k) 0 = cols.getD k 0 := by
  rw [fOf_get (by omega)]
  unfold gOf
  rw [if_neg (by omega), Nat.add_sub_cancel_left]
theorem tab_flow {rows cols : List Int} (h : SmallG rows cols) {M : Nat → Nat → Int} (hM : IsT rows cols M) : Flow (netG rows cols) (fOf rows cols M) ∧ netAt (netG rows cols).as (fOf rows cols M) (netG rows cols).s = tot (fun i => rows.getD i 0) rows.length ∧ tot (fun i => rows.getD i 0) rows.length = tot (fun k => cols.getD k 0) cols.length := by
  obtain ⟨m1, m2, m3⟩ := hM
  have mn := h.mn
  have gl := netG_len rows cols
  have fl : (fOf rows cols M).length = rows.length * (cols.length + 1) + cols.length := by unfold fOf; simp
  refine ⟨⟨netG_ok h, by rw [fl, gl], fun x hx => ?_, fun x hx h1 h2 => ?_⟩, ?_, ?_⟩
  · by_cases c : x < rows.length * (cols.length + 1)
    · have hd := Nat.div_add_mod x (cols.length + 1)
      have hm := Nat.mod_lt x (show 0 < cols.length + 1 by omega)
      have hi : x / (cols.length + 1) < rows.length := (Nat.div_lt_iff_lt_mul (by omega)).2 c
      generalize hi' : x / (cols.length + 1) = i at hd hi
      generalize hy' : x % (cols.length + 1) = y at hd hm
      rw [Nat.mul_comm] at hd
      by_cases z : y = 0
      · have hx' : x = i * (cols.length + 1) := by omega
        rw [hx', fOf_head hi, netG_head hi]
        have := h.rs i hi
        omega
      · obtain ⟨k, rfl⟩ : ∃ k, y = 1 + k := ⟨y - 1, by omega⟩
        rw [← hd, fOf_mid hi (by omega), netG_mid hi (by omega)]
        have := m1 i k
        omega
    · obtain ⟨k, rfl⟩ : ∃ k, x = rows.length * (cols.length + 1) + k := ⟨x - rows.length * (cols.length + 1), by omega⟩
      have hk : k < cols.length := by omega
      rw [fOf_last hk, netG_last hk]
      have := h.cs k hk
      omega
  · show netF (netG rows cols).as (fun k => (fOf rows cols M).getD k 0) (x : Int) = 0
    have h1' : (x : Int) ≠ ((rows.length + cols.length : Nat) : Int) := h1
    have h2' : (x : Int) ≠ ((rows.length + cols.length + 1 : Nat) : Int) := h2
    by_cases c1 : x < rows.length
    · rw [net_row c1, fOf_head c1, tot_congr (g := M x) fun k hk => fOf_mid c1 hk, m2 x c1]
      omega
    by_cases c2 : x < rows.length + cols.length
    · obtain ⟨k, rfl⟩ : ∃ k, x = rows.length + k := ⟨x - rows.length, by omega⟩
      have hk : k < cols.length := by omega
      rw [net_col hk, fOf_last hk, tot_congr (g := fun i => M i k) fun i hi => fOf_mid hi hk, m3 k hk]
      omega
    · exact net_far (by omega)
  · have e := net_src (rows := rows) (cols := cols) (g := fun k => (fOf rows cols M).getD k 0)
    exact e.trans (tot_congr fun i hi => fOf_head hi)
  · rw [tot_congr (f := fun i => rows.getD i 0) (g := fun i => tot (M i) cols.length) fun i hi => (m2 i hi).symm, tot_congr (f := fun k => cols.getD k 0) (g := fun k => tot (fun i => M i k) rows.length) fun k hk => (m3 k hk).symm]
    exact tot_swap (fun i k => M i k) cols.length rows.length
end Go.Proofs.Ytlelfifbmckhgaa
