/- GaleFlow: the law's function answers true. -/
import Derived.Test.YtlelfifbmckhgaaPgale3
import Derived.Test.YtlelfifbmckhgaaPgflow
import Derived.Test.YtlelfifbmckhgaaPmore
import Derived.Test.YtlelfifbmckhgaaKGaleFlow
namespace Go.Proofs.Ytlelfifbmckhgaa
open Go Go.Proofs.Ytlelfifbmckhgaa.Sx
set_option linter.unusedVariables false
set_option linter.unusedSimpArgs false
theorem galesF_ok : weirkeep_gales_F = some true := by kernel_rfl
theorem mapA_succ (F : Nat → Arc) (k : Nat) : mapA F (k + 1) = mapA F k ++ [F k] := by
  unfold mapA
  rw [List.range_succ, List.map_append]
  rfl
theorem mapA_len (F : Nat → Arc) (k : Nat) : (mapA F k).length = k := by simp [mapA]
theorem row_built {rows cols : List Int} (hc : cols.length ≤ 12) (hr : rows.length ≤ 12) (i : Nat) {base : List Arc} (hb : base.length ≤ 1000) : ∀ {j : Nat}, j ≤ cols.length → forN (weirkeep_GaleFlow_B2 rows i) j 0 base = some (base ++ mapA (fun k => ⟨(i : Int), ((rows.length + k : Nat) : Int), 1⟩) j) := fun {j} hj => by
  obtain ⟨l, e, h⟩ := forN_inv (f := weirkeep_GaleFlow_B2 rows i) (fun j l => l = base ++ mapA (fun k => ⟨(i : Int), ((rows.length + k : Nat) : Int), 1⟩) j) (n := j) (k := 0) (s := base) (by simp [mapA]) fun k l _ hk hI => by
    subst hI
    unfold weirkeep_GaleFlow_B2
    rw [ck_some (inI_small (by omega) (by omega)), ck_some (by rw [List.length_append, mapA_len]; omega)]
    exact ⟨_, rfl, by rw [mapA_succ, List.append_assoc]⟩
  rw [e, h, Nat.zero_add]
theorem rows_built {rows cols : List Int} (hc : cols.length ≤ 12) (hr : rows.length ≤ 12) : forN (weirkeep_GaleFlow_B1 rows cols) rows.length 0 [] = some (rowsG rows.length cols.length rows rows.length) := by
  obtain ⟨l, e, h⟩ := forN_inv (f := weirkeep_GaleFlow_B1 rows cols) (fun j l => l = rowsG rows.length cols.length rows j) (n := rows.length) (k := 0) (s := []) rfl fun i l _ hi hI => by
    subst hI
    have hl := rowsG_len rows.length cols.length rows i
    have h13 : i * (cols.length + 1) ≤ 12 * 13 := Nat.mul_le_mul (by omega) (by omega)
    unfold weirkeep_GaleFlow_B1
    rw [ck_some (by omega), row_built hc hr i (by simp; omega) (Nat.le_refl _), bind_some']
    exact ⟨_, rfl, by rw [rowsG, List.append_assoc]; rfl⟩
  rw [e, h, Nat.zero_add]
theorem cols_built {rows cols : List Int} (hc : cols.length ≤ 12) (hr : rows.length ≤ 12) {base : List Arc} (hb : base.length ≤ 1000) : forN (weirkeep_GaleFlow_B3 rows cols) cols.length 0 base = some (base ++ mapA (fun k => ⟨((rows.length + k : Nat) : Int), ((rows.length + cols.length + 1 : Nat) : Int), cols.getD k 0⟩) cols.length) := by
  obtain ⟨l, e, h⟩ := forN_inv (f := weirkeep_GaleFlow_B3 rows cols) (fun j l => l = base ++ mapA (fun k => ⟨((rows.length + k : Nat) : Int), ((rows.length + cols.length + 1 : Nat) : Int), cols.getD k 0⟩) j) (n := cols.length) (k := 0) (s := base) (by simp [mapA]) fun k l _ hk hI => by
    subst hI
    unfold weirkeep_GaleFlow_B3
    rw [ck_some (inI_small (by omega) (by omega)), ck_some (by rw [List.length_append, mapA_len]; omega)]
    exact ⟨_, rfl, by rw [mapA_succ, List.append_assoc]⟩
  rw [e, h, Nat.zero_add]
theorem sum_small {l : List Int} (hl : l.length ≤ 12) (h : ∀ i, i < l.length → 0 ≤ l.getD i 0 ∧ l.getD i 0 ≤ 12) : weirkeep_sum_F l = some (tot (fun i => l.getD i 0) l.length) := by
  have b : ∀ j, j ≤ l.length → 0 ≤ tot (fun i => l.getD i 0) j ∧ tot (fun i => l.getD i 0) j ≤ 12 * j := fun j => by
    induction j with
    | zero => intro _; exact ⟨Int.le_refl _, by simp [tot]⟩
    | succ j ih =>
      intro hj
      have := ih (by omega)
      have := h j (by omega)
      rw [tot]; omega
  unfold weirkeep_sum_F
  rw [sum_loop (f := weirkeep_sum_B1 l) l (fun k x => rfl) fun j hj => by
    have := b j hj
    exact inI_small (by omega) (by omega)]
  rfl
/-- Make's answer: an error of the form, or is there a table -/
theorem make_is (rows cols : List Int) : ∃ out e, gale_Make_F rows cols = some (out, e) ∧ ((e ≠ 0 ∧ e ≠ 5) ∨ OkG rows cols ∧ (e = 0 ↔ ∃ M, IsT rows cols M)) := by
  by_cases hg : OkG rows cols
  · by_cases hT : ∃ M, IsT rows cols M
    · obtain ⟨M, m1, m2, m3⟩ := hT
      obtain ⟨out, e⟩ := make_complete hg ⟨M, m1, fun i hi => by rw [Nat.zero_add]; exact m2 i (by omega), fun k hk => by rw [Nat.sub_zero]; exact m3 k hk⟩
      exact ⟨out, 0, e, .inr ⟨hg, fun _ => ⟨M, m1, m2, m3⟩, fun _ => rfl⟩⟩
    · rcases make_gale rows cols with ⟨e, he, h⟩ | ⟨_, out, h, hl, hr, hc⟩
      · exact ⟨[], e, h, .inr ⟨hg, fun z => absurd z he, fun z => absurd z hT⟩⟩
      · exfalso
        refine hT ⟨fun i k => if k < cols.length then bit (out.getD i El.d).v (k : Int) else 0, fun i k => ?_, fun i hi => ?_, fun k hk => ?_⟩
        · have := bit01 (out.getD i El.d).v (k : Int)
          dsimp only
          split
          · exact this
          · exact .inl rfl
        · obtain ⟨r1, r2⟩ := hr i hi
          have hc12 := hg.c
          obtain ⟨y, hy⟩ : ∃ y, 16 = cols.length + y := ⟨16 - cols.length, by omega⟩
          unfold onesG at r1
          rw [hy, tot_split, tot_zero (f := fun j => bit (out.getD i El.d).v ((cols.length + j : Nat) : Int)) fun j hj => bit_hi r2 (by omega) (by omega)] at r1
          rw [tot_congr (g := fun k => bit (out.getD i El.d).v (k : Int)) fun k hk => if_pos hk]
          omega
        · rw [← hc k hk]
          exact tot_congr fun i _ => if_pos hk
  · rcases make_gale rows cols with ⟨e, he, h⟩ | ⟨hg', _⟩
    · refine ⟨[], e, h, .inl ⟨he, fun z => ?_⟩⟩
      subst z
      rcases check_galeL rows cols with ⟨hg', _⟩ | ⟨e1, he1, hch⟩
      · exact hg hg'
      · unfold gale_Make_F at h
        rw [hch, bind_some', if_pos he1] at h
        have : e1 = 5 := by injection h with h; injection h with _ h
        subst this
        revert hch
        unfold gale_Check_F
        intro hch
        split at hch
        · cases hch
        split at hch
        · cases hch
        obtain ⟨q, e2, hq⟩ := forC_or (f := gale_Check_B1 rows cols) (fun _ _ => True) (fun q => q = .ret 1 ∨ q = .go ()) (n := rows.length) (k := 0) (s := ()) trivial (fun j s _ _ _ => by
          unfold gale_Check_B1
          repeat' split
          · exact .inr (.inr ⟨_, rfl, .inl rfl⟩)
          · exact .inr (.inr ⟨_, rfl, .inl rfl⟩)
          · exact .inl ⟨(), rfl, trivial⟩) (fun _ _ => .inr rfl)
        rw [e2, bind_some'] at hch
        rcases hq with rfl | rfl
        · cases hch
        dsimp only at hch
        obtain ⟨q, e3, hq⟩ := forC_or (f := gale_Check_B2 rows cols) (fun _ _ => True) (fun q => q = .ret 1 ∨ q = .go ()) (n := cols.length) (k := 0) (s := ()) trivial (fun j s _ _ _ => by
          unfold gale_Check_B2
          repeat' split
          · exact .inr (.inr ⟨_, rfl, .inl rfl⟩)
          · exact .inr (.inr ⟨_, rfl, .inl rfl⟩)
          · exact .inl ⟨(), rfl, trivial⟩) (fun _ _ => .inr rfl)
        rw [e3, bind_some'] at hch
        rcases hq with rfl | rfl
        · cases hch
        · cases hch
    · exact absurd hg' hg
theorem GaleFlow_true (rows cols : List Int) : weirkeep_GaleFlow_F rows cols = some true := by
  unfold weirkeep_GaleFlow_F
  rw [galesF_ok, bind_some', if_neg (by decide)]
  obtain ⟨out, e, he, h⟩ := make_is rows cols
  rw [he, bind_some']
  dsimp only
  rcases h with ⟨h1, h2⟩ | ⟨hg, hiff⟩
  · rw [if_pos h1, if_pos h2, bind_some']
  have hr := hg.r; have hc := hg.c
  have hmul : rows.length * cols.length ≤ 12 * 12 := Nat.mul_le_mul hr hc
  have hcast : ((rows.length : Nat) : Int) * ((cols.length : Nat) : Int) = ((rows.length * cols.length : Nat) : Int) := by simp
  rw [hcast]
  by_cases z5 : e ≠ 0 ∧ e ≠ 5
  · rw [if_pos z5.1, if_pos z5.2, bind_some']
  rw [ck_some (inI_small (by omega) (by omega)), ck_some (inI_small (by omega) (by omega)), ck_some (inI_small (by omega) (by omega)), ck_some (inI_small (by omega) (by omega))]
  have key : ∀ (A : Option (Ex Unit Bool)), (if e ≠ 0 then if e ≠ 5 then some (.ret true) else A else A) = A := fun A => by
    by_cases q : e ≠ 0
    · rw [if_pos q, if_neg (fun w => z5 ⟨q, w⟩)]
    · rw [if_neg q]
  rw [key]
  by_cases c1 : (10 : Int) < ((rows.length + cols.length : Nat) : Int)
  · rw [if_pos c1, bind_some']
  rw [if_neg c1]
  by_cases c2 : (60 : Int) < ((rows.length * cols.length : Nat) : Int) + ((rows.length : Nat) : Int) + ((cols.length : Nat) : Int)
  · rw [if_pos c2, bind_some']
  rw [if_neg c2, bind_some']
  dsimp only
  have hs : SmallG rows cols := ⟨by omega, by omega, fun i hi => by have := hg.rs i hi; omega, fun k hk => by have := hg.cs k hk; omega⟩
  have hrl := rowsG_len rows.length cols.length rows rows.length
  have h13 : rows.length * (cols.length + 1) ≤ 12 * 13 := Nat.mul_le_mul hr (by omega)
  rw [ck_some (inI_small (by omega) (by omega)), ck_some (inI_small (by omega) (by omega)), rows_built hc hr, bind_some', cols_built hc hr (by omega), bind_some']
  obtain ⟨f, v, eo, hf, hv, hM⟩ := of_max (netG_ok hs)
  have eo' : most_Of_F (⟨((rows.length + cols.length + 2 : Nat) : Int), ((rows.length + cols.length : Nat) : Int), ((rows.length + cols.length + 1 : Nat) : Int), rowsG rows.length cols.length rows rows.length ++ mapA (fun k => ⟨((rows.length + k : Nat) : Int), ((rows.length + cols.length + 1 : Nat) : Int), cols.getD k 0⟩) cols.length⟩ : Net) = some (f, v, 0) := eo
  rw [eo', bind_some']
  dsimp only
  rw [if_pos rfl, sum_small hr hs.rs, bind_some', sum_small hc hs.cs, bind_some']
  -- no more than the rows want
  have hsrc : netAt (netG rows cols).as f (netG rows cols).s = tot (fun i => f.getD (i * (cols.length + 1)) 0) rows.length := net_src (g := fun k => f.getD k 0)
  have gl := netG_len rows cols
  have hfl := hf.len
  have hle : v ≤ tot (fun i => rows.getD i 0) rows.length := by
    rw [← hv, hsrc]
    refine tot_le fun i hi => ?_
    have h1 := idx_lt' (y := 0) hi (show 0 < cols.length + 1 by omega)
    have := (hf.r (i * (cols.length + 1)) (by omega)).2
    rw [netG_head hi] at this
    exact this
  have main : (∃ M, IsT rows cols M) ↔ v = tot (fun i => rows.getD i 0) rows.length ∧ v = tot (fun k => cols.getD k 0) cols.length := by
    constructor
    · rintro ⟨M, hT⟩
      obtain ⟨t1, t2, t3⟩ := tab_flow hs hT
      have := hM.le t1
      omega
    · rintro ⟨r1, r2⟩
      exact flow_tab hs hf (by rw [hv]; exact r1) (by rw [hv]; exact r2)
  rw [main] at hiff
  by_cases d1 : v = tot (fun i => rows.getD i 0) rows.length
  · have q : decide (e = 0) = decide (v = tot (fun k => cols.getD k 0) cols.length) := decide_eq_decide.2 ⟨fun z => (hiff.1 z).2, fun z => hiff.2 ⟨d1, z⟩⟩
    rw [if_pos d1, q]
    simp only [decide_true]
    rw [ck_some (inI_small (by omega) (by omega))]
  · have q : decide (e = 0) = false := decide_eq_false fun z => d1 (hiff.1 z).1
    rw [if_neg d1, q]
    simp only [decide_true]
    rw [ck_some (inI_small (by omega) (by omega))]
end Go.Proofs.Ytlelfifbmckhgaa
