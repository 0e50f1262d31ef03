/- The net of rows and columns: what goes out of each node. No program in sight. -/
import Derived.Test.YthgjamhcnaamdaaPmax
namespace Go.Proofs.Ythgjamhcnaamdaa
open Go Go.Proofs.Ythgjamhcnaamdaa.Sx
set_option linter.unusedVariables false
set_option linter.unusedSimpArgs false
/-- what the arc a, with so much on it, gives to z -/
def giveA (a : Arc) (x z : Int) : Int := (if a.f = z then x else 0) - (if a.t = z then x else 0)
/-- what goes out of z, the flow a function of the arcs' numbers -/
def netF (L : List Arc) (g : Nat → Int) (z : Int) : Int := tot (fun k => giveA (L.getD k El.d) (g k) z) L.length
theorem netAt_F (L : List Arc) (f : List Int) (z : Int) : netAt L f z = netF L (fun k => f.getD k 0) z := rfl
theorem netF_append (L1 L2 : List Arc) (g : Nat → Int) (z : Int) : netF (L1 ++ L2) g z = netF L1 g z + netF L2 (fun k => g (L1.length + k)) z := by
  unfold netF
  rw [List.length_append, tot_split]
  congr 1
  · refine tot_congr fun k hk => ?_
    rw [List.getD_eq_getElem?_getD, List.getElem?_append_left hk, ← List.getD_eq_getElem?_getD]
  · refine tot_congr fun k _ => ?_
    rw [List.getD_eq_getElem?_getD, List.getElem?_append_right (by omega), ← List.getD_eq_getElem?_getD, Nat.add_sub_cancel_left]
theorem netF_one (a : Arc) (g : Nat → Int) (z : Int) : netF [a] g z = giveA a (g 0) z := by
  unfold netF
  simp [tot]
def mapA (F : Nat → Arc) (n : Nat) : List Arc := (List.range n).map F
theorem netF_map (F : Nat → Arc) (n : Nat) (g : Nat → Int) (z : Int) : netF (mapA F n) g z = tot (fun k => giveA (F k) (g k) z) n := by
  unfold netF mapA
  rw [List.length_map, List.length_range]
  refine tot_congr fun k hk => ?_
  have : ((List.range n).map F).getD k El.d = F k := by simp [hk]
  rw [this]
/-- one row: its arc from the source, and those to the columns -/
def blockG (m n : Nat) (rows : List Int) (i : Nat) : List Arc := [⟨((m + n : Nat) : Int), (i : Int), rows.getD i 0⟩] ++ mapA (fun k => ⟨(i : Int), ((m + k : Nat) : Int), 1⟩) n
def rowsG (m n : Nat) (rows : List Int) : Nat → List Arc
  | 0 => []
  | j + 1 => rowsG m n rows j ++ blockG m n rows j
def netG (rows cols : List Int) : Net := ⟨((rows.length + cols.length + 2 : Nat) : Int), ((rows.length + cols.length : Nat) : Int), ((rows.length + cols.length + 1 : Nat) : Int),
  rowsG rows.length cols.length rows rows.length ++ mapA (fun k => ⟨((rows.length + k : Nat) : Int), ((rows.length + cols.length + 1 : Nat) : Int), cols.getD k 0⟩) cols.length⟩
theorem block_len (m n : Nat) (rows : List Int) (i : Nat) : (blockG m n rows i).length = n + 1 := by simp [blockG, mapA]
theorem rowsG_len (m n : Nat) (rows : List Int) : ∀ j, (rowsG m n rows j).length = j * (n + 1)
  | 0 => by simp [rowsG]
  | j + 1 => by rw [rowsG, List.length_append, rowsG_len m n rows j, block_len, Nat.add_mul, Nat.one_mul]
theorem netF_block (m n : Nat) (rows : List Int) (i : Nat) (g : Nat → Int) (z : Int) : netF (blockG m n rows i) g z = giveA ⟨((m + n : Nat) : Int), (i : Int), rows.getD i 0⟩ (g 0) z + tot (fun k => giveA ⟨(i : Int), ((m + k : Nat) : Int), 1⟩ (g (1 + k)) z) n := by
  unfold blockG
  rw [netF_append, netF_one, netF_map]
  rfl
theorem netF_rows (m n : Nat) (rows : List Int) (g : Nat → Int) (z : Int) : ∀ j, netF (rowsG m n rows j) g z = tot (fun i => netF (blockG m n rows i) (fun y => g (i * (n + 1) + y)) z) j
  | 0 => rfl
  | j + 1 => by
    rw [rowsG, netF_append, netF_rows m n rows g z j, rowsG_len]
    rfl
/-- what goes out of z in the whole net -/
theorem netG_at (rows cols : List Int) (g : Nat → Int) (z : Int) : netF (netG rows cols).as g z =
    tot (fun i => giveA ⟨((rows.length + cols.length : Nat) : Int), (i : Int), rows.getD i 0⟩ (g (i * (cols.length + 1))) z + tot (fun k => giveA ⟨(i : Int), ((rows.length + k : Nat) : Int), 1⟩ (g (i * (cols.length + 1) + (1 + k))) z) cols.length) rows.length +
    tot (fun k => giveA ⟨((rows.length + k : Nat) : Int), ((rows.length + cols.length + 1 : Nat) : Int), cols.getD k 0⟩ (g (rows.length * (cols.length + 1) + k)) z) cols.length := by
  unfold netG
  dsimp only
  rw [netF_append, netF_rows, netF_map, rowsG_len]
  congr 1
  refine tot_congr fun i _ => ?_
  rw [netF_block]
  rfl
theorem giveA_none {a : Arc} {x z : Int} (h1 : a.f ≠ z) (h2 : a.t ≠ z) : giveA a x z = 0 := by unfold giveA; rw [if_neg h1, if_neg h2]; rfl
theorem giveA_out {a : Arc} {x z : Int} (h1 : a.f = z) (h2 : a.t ≠ z) : giveA a x z = x := by unfold giveA; rw [if_pos h1, if_neg h2]; omega
theorem giveA_in {a : Arc} {x z : Int} (h1 : a.f ≠ z) (h2 : a.t = z) : giveA a x z = -x := by unfold giveA; rw [if_neg h1, if_pos h2]; omega
theorem tot_neg (f : Nat → Int) (n : Nat) : tot (fun k => -f k) n = -tot f n := by
  have := tot_mul (-1) f n
  rw [tot_congr (g := fun i => -1 * f i) fun i _ => by omega, this]; omega
section
variable {rows cols : List Int} {g : Nat → Int}
theorem net_row {i0 : Nat} (h : i0 < rows.length) : netF (netG rows cols).as g (i0 : Int) = tot (fun k => g (i0 * (cols.length + 1) + (1 + k))) cols.length - g (i0 * (cols.length + 1)) := by
  rw [netG_at, tot_single (k := i0) h fun i hi hne => by
    rw [giveA_none (by dsimp only; omega) (by dsimp only; omega), tot_zero fun k hk => giveA_none (by dsimp only; omega) (by dsimp only; omega)]; rfl]
  have e1 : tot (fun k => giveA ⟨(i0 : Int), ((rows.length + k : Nat) : Int), 1⟩ (g (i0 * (cols.length + 1) + (1 + k))) (i0 : Int)) cols.length = tot (fun k => g (i0 * (cols.length + 1) + (1 + k))) cols.length := tot_congr fun k hk => giveA_out rfl (by dsimp only; omega)
  have e3 : tot (fun k => giveA ⟨((rows.length + k : Nat) : Int), ((rows.length + cols.length + 1 : Nat) : Int), cols.getD k 0⟩ (g (rows.length * (cols.length + 1) + k)) (i0 : Int)) cols.length = 0 := tot_zero fun k hk => giveA_none (by dsimp only; omega) (by dsimp only; omega)
  rw [giveA_in (by dsimp only; omega) rfl, e1, e3]
  omega
theorem net_col {k0 : Nat} (h : k0 < cols.length) : netF (netG rows cols).as g ((rows.length + k0 : Nat) : Int) = g (rows.length * (cols.length + 1) + k0) - tot (fun i => g (i * (cols.length + 1) + (1 + k0))) rows.length := by
  rw [netG_at, tot_congr (f := fun i => giveA _ _ _ + tot _ _) (g := fun i => -g (i * (cols.length + 1) + (1 + k0))) fun i hi => by
    rw [giveA_none (by dsimp only; omega) (by dsimp only; omega), tot_single (k := k0) h fun k hk hne => giveA_none (by dsimp only; omega) (by dsimp only; omega), giveA_in (by dsimp only; omega) rfl]; omega]
  rw [tot_neg, tot_single (k := k0) h fun k hk hne => giveA_none (by dsimp only; omega) (by dsimp only; omega), giveA_out rfl (by dsimp only; omega)]
  omega
theorem net_src : netF (netG rows cols).as g ((rows.length + cols.length : Nat) : Int) = tot (fun i => g (i * (cols.length + 1))) rows.length := by
  rw [netG_at, tot_congr (f := fun i => giveA _ _ _ + tot _ _) (g := fun i => g (i * (cols.length + 1))) fun i hi => by
    rw [giveA_out rfl (by dsimp only; omega), tot_zero fun k hk => giveA_none (by dsimp only; omega) (by dsimp only; omega)]; omega]
  rw [tot_zero fun k hk => giveA_none (by dsimp only; omega) (by dsimp only; omega)]
  omega
theorem net_snk : netF (netG rows cols).as g ((rows.length + cols.length + 1 : Nat) : Int) = -tot (fun k => g (rows.length * (cols.length + 1) + k)) cols.length := by
  rw [netG_at, tot_zero (f := fun i => giveA _ _ _ + tot _ _) fun i hi => by
    rw [giveA_none (by dsimp only; omega) (by dsimp only; omega), tot_zero fun k hk => giveA_none (by dsimp only; omega) (by dsimp only; omega)]; omega]
  rw [tot_congr fun k hk => giveA_in (by dsimp only; omega) rfl, tot_neg]
  omega
theorem net_far {z : Nat} (h : rows.length + cols.length + 1 < z) : netF (netG rows cols).as g (z : Int) = 0 := by
  rw [netG_at, tot_zero (f := fun i => giveA _ _ _ + tot _ _) fun i hi => by
    rw [giveA_none (by dsimp only; omega) (by dsimp only; omega), tot_zero fun k hk => giveA_none (by dsimp only; omega) (by dsimp only; omega)]; omega]
  rw [tot_zero fun k hk => giveA_none (by dsimp only; omega) (by dsimp only; omega)]
  rfl
end
end Go.Proofs.Ythgjamhcnaamdaa
