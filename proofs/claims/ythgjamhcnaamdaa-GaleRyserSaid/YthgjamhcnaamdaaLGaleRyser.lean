/- GaleRyser: the law's function answers true. -/
import Derived.Test.YthgjamhcnaamdaaPturned
import Derived.Test.YthgjamhcnaamdaaKGaleRyser
namespace Go.Proofs.Ythgjamhcnaamdaa
open Go Go.Proofs.Ythgjamhcnaamdaa.Sx
set_option linter.unusedVariables false
set_option linter.unusedSimpArgs false
theorem galesR_ok : weirkeep_gales_F = some true := by kernel_rfl
theorem min_step {rows : List Int} (k : Nat) : tot (fun i => min (rows.getD i 0) ((k + 1 : Nat) : Int)) rows.length = tot (fun i => min (rows.getD i 0) ((k : Nat) : Int)) rows.length + above rows k rows.length := by
  unfold above
  rw [← tot_add]
  refine tot_congr fun i _ => ?_
  split <;> omega
/-- so many columns, together, are no more than the rows let them be -/
def Dom (rows c : List Int) (k : Nat) : Prop := tot (fun p => c.getD p 0) (k + 1) ≤ tot (fun i => min (rows.getD i 0) ((k + 1 : Nat) : Int)) rows.length
theorem ryser_loop {rows c t : List Int} (hr : rows.length ≤ 12) (hrs : ∀ i, i < rows.length → 0 ≤ rows.getD i 0 ∧ rows.getD i 0 ≤ 12) (hc : c.length ≤ 12) (hcs : ∀ p, p < c.length → 0 ≤ c.getD p 0 ∧ c.getD p 0 ≤ 12) (ht : Turn rows t) (b0 : Bool) :
    ∃ b x y, forN (weirkeep_GaleRyser_B1 t c) c.length 0 (b0, 0, 0) = some (b, x, y) ∧ (b = true ↔ b0 = true ∧ ∀ k, k < c.length → Dom rows c k) := by
  have hsum : ∀ j, j ≤ c.length → 0 ≤ tot (fun p => c.getD p 0) j ∧ tot (fun p => c.getD p 0) j ≤ 12 * j := fun j => by
    induction j with
    | zero => intro _; exact ⟨Int.le_refl _, by simp [tot]⟩
    | succ j ih =>
      intro hj
      have := ih (by omega)
      have := hcs j (by omega)
      rw [tot]; omega
  have hmin : ∀ k : Nat, 0 ≤ tot (fun i => min (rows.getD i 0) ((k : Nat) : Int)) rows.length ∧ tot (fun i => min (rows.getD i 0) ((k : Nat) : Int)) rows.length ≤ rows.length * 12 := fun k => by
    have h1 := tot_nonneg (f := fun i => min (rows.getD i 0) ((k : Nat) : Int)) (n := rows.length) fun i hi => by have := hrs i hi; omega
    have h2 := tot_le (f := fun i => min (rows.getD i 0) ((k : Nat) : Int)) (g := fun _ => 12) (n := rows.length) fun i hi => by have := hrs i hi; omega
    rw [tot_const] at h2
    exact ⟨h1, h2⟩
  obtain ⟨⟨b, x, y⟩, e, h1, h2, h3⟩ := forN_inv (f := weirkeep_GaleRyser_B1 t c) (fun j σ => σ.2.1 = tot (fun i => min (rows.getD i 0) ((j : Nat) : Int)) rows.length ∧ σ.2.2 = tot (fun p => c.getD p 0) j ∧ (σ.1 = true ↔ b0 = true ∧ ∀ k, k < j → Dom rows c k)) (n := c.length) (k := 0) (s := (b0, 0, 0)) ⟨(tot_zero fun i hi => by have := hrs i hi; omega).symm, rfl, ⟨fun h => ⟨h, fun k hk => absurd hk (by omega)⟩, fun h => h.1⟩⟩ fun j σ _ hj ⟨i1, i2, i3⟩ => by
    obtain ⟨b, x, y⟩ := σ
    dsimp only at i1 i2 i3
    subst i1 i2
    have hst := min_step (rows := rows) j
    have hab := above_b rows j rows.length
    have hm := hmin j
    have hm1 := hmin (j + 1)
    have hs := hsum j (by omega)
    have hcj := hcs j (by omega)
    have es : tot (fun p => c.getD p 0) (j + 1) = tot (fun p => c.getD p 0) j + c.getD j 0 := rfl
    unfold weirkeep_GaleRyser_B1
    dsimp only
    have hx : (if ((j : Nat) : Int) < ((t.length : Nat) : Int) then ck (j < t.length) (ck (InI (tot (fun i => min (rows.getD i 0) ((j : Nat) : Int)) rows.length + t.getD j 0)) (some (tot (fun i => min (rows.getD i 0) ((j : Nat) : Int)) rows.length + t.getD j 0))) else some (tot (fun i => min (rows.getD i 0) ((j : Nat) : Int)) rows.length)) = some (tot (fun i => min (rows.getD i 0) ((j + 1 : Nat) : Int)) rows.length) := by
      by_cases c1 : ((j : Nat) : Int) < ((t.length : Nat) : Int)
      · rw [if_pos c1, ht.at' j (by omega), ck_some (by omega), ck_some (inI_small (by omega) (by omega)), hst]
      · rw [if_neg c1, hst]
        have : above rows j rows.length = 0 := tot_zero fun i hi => if_neg (by have := ht.top i hi; omega)
        rw [this, Int.add_zero]
    rw [hx, bind_some', ck_some (inI_small (by omega) (by omega)), ← es]
    by_cases c2 : tot (fun i => min (rows.getD i 0) ((j + 1 : Nat) : Int)) rows.length < tot (fun p => c.getD p 0) (j + 1)
    · rw [if_pos c2]
      exact ⟨_, rfl, rfl, rfl, ⟨fun z => (by cases z), fun z => by have := z.2 j (by omega); unfold Dom at this; omega⟩⟩
    · rw [if_neg c2]
      refine ⟨_, rfl, rfl, rfl, i3.trans ⟨fun z => ⟨z.1, fun k hk => ?_⟩, fun z => ⟨z.1, fun k hk => z.2 k (by omega)⟩⟩⟩
      by_cases q : k = j
      · subst q; unfold Dom; omega
      · exact z.2 k (by omega)
  rw [Nat.zero_add] at h3
  exact ⟨b, x, y, e, h3⟩
theorem GaleRyser_true (rows cols : List Int) : weirkeep_GaleRyser_F rows cols = some true := by
  unfold weirkeep_GaleRyser_F
  rw [galesR_ok, bind_some', if_neg (by decide)]
  obtain ⟨out, e, he, h⟩ := make_is rows cols
  rw [he, bind_some']
  dsimp only
  rcases h with ⟨h1, h2⟩ | ⟨hg, hiff⟩
  · have : ∃ t f, gale_Turned_F rows = some (t, f) := by
      rcases turned_cases rows with ⟨t, q, _⟩ | ⟨f, _, q, _⟩
      · exact ⟨_, _, q⟩
      · exact ⟨_, _, q⟩
    obtain ⟨t, f, et⟩ := this
    rw [et, bind_some']
    dsimp only
    rw [if_pos h1, if_pos h2, bind_some']
    simp [h1]
  · have hr := hg.r; have hc := hg.c
    have hrs : ∀ i, i < rows.length → 0 ≤ rows.getD i 0 ∧ rows.getD i 0 ≤ 12 := fun i hi => by have := hg.rs i hi; omega
    have hcs : ∀ i, i < cols.length → 0 ≤ cols.getD i 0 ∧ cols.getD i 0 ≤ 12 := fun i hi => by have := hg.cs i hi; omega
    rcases turned_cases rows with ⟨t, et, ht, _⟩ | ⟨f, _, _, hbad⟩
    · rw [et, bind_some']
      dsimp only
      by_cases z5 : e ≠ 0 ∧ e ≠ 5
      · rw [if_pos z5.1, if_pos z5.2, bind_some']
        simp [z5.1]
      have key : ∀ (A : Option (Ex Unit Bool)), (if e ≠ 0 then if e ≠ 5 then some (.ret (decide (e ≠ 0))) else (if (0 : Int) ≠ 0 then A else some (.go ())) else (if (0 : Int) ≠ 0 then A else some (.go ()))) = some (.go ()) := fun A => by
        by_cases q : e ≠ 0
        · rw [if_pos q, if_neg (fun w => z5 ⟨q, w⟩), if_neg (by decide)]
        · rw [if_neg q, if_neg (by decide)]
      rw [key, bind_some']
      dsimp only
      have ecl : slices_Clone_int_F cols = some cols := by
        unfold slices_Clone_int_F
        rw [ck_some (by omega)]; rfl
      obtain ⟨a, c, e1, l1, e2, l2, sw, hdesc⟩ := desc_ok (l := cols) hc
      rw [ecl, bind_some', e1, bind_some', ck_some (by omega), e2, bind_some', ck_some (by omega), sum_small hr hrs, bind_some', sum_small hc hcs, bind_some']
      have hcc : ∀ p, p < c.length → 0 ≤ c.getD p 0 ∧ c.getD p 0 ≤ 12 := fun p hp => by
        obtain ⟨k, hk, q⟩ := getD_of_mem (d := 0) (sw.mem (Nat.le_refl _) (mem_getD (d := 0) hp))
        rw [← q]; exact hcs k hk
      obtain ⟨b, x, y, e3, hb⟩ := ryser_loop hr hrs (c := c) (by omega) hcc ht (decide (tot (fun i => rows.getD i 0) rows.length = tot (fun i => cols.getD i 0) cols.length))
      rw [l2] at e3 hb
      rw [e3, bind_some']
      dsimp only
      have main : b = true ↔ e = 0 := by
        rw [hb, hiff, isT_sw sw, decide_eq_true_eq, ← tot_sw sw]
        constructor
        · rintro ⟨s1, s2⟩
          obtain ⟨M, m1, m2, m3⟩ := ryser (m := rows.length) (n := cols.length) (R := fun i => rows.getD i 0) (C := fun p => c.getD p 0) (fun i hi => (hrs i hi).1) (fun p => by
            by_cases z : p < c.length
            · exact (hcc p z).1
            · rw [getD_big (by omega)]; exact Int.le_refl _) (fun i j hij hj => hdesc i j hij hj) (fun k hk => s2 k hk) s1
          exact ⟨M, m1, fun i hi => by rw [l2]; exact m2 i hi, fun p hp => m3 p (by omega)⟩
        · rintro ⟨M, m1, m2, m3⟩
          rw [l2] at m2 m3
          refine ⟨?_, fun k hk => ryser_only (n := cols.length) m1 m2 m3 (k := k + 1) (by omega)⟩
          rw [tot_congr (f := fun i => rows.getD i 0) fun i hi => (m2 i hi).symm, tot_congr (f := fun p => c.getD p 0) fun p hp => (m3 p hp).symm]
          exact tot_swap (fun i p => M i p) cols.length rows.length
      congr 1
      rw [decide_eq_true_eq]
      by_cases q : e = 0
      · rw [decide_eq_true q]; exact main.2 q
      · rw [decide_eq_false q]
        cases b with
        | false => rfl
        | true => exact absurd (main.1 rfl) q
    · exact absurd ⟨hr, hrs⟩ hbad
end Go.Proofs.Ythgjamhcnaamdaa
