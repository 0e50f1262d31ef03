/- The net in which each one takes one: as much goes through it as there are pairs. -/
import Derived.Test.YthgjamhcnaamdaaPgnet
import Derived.Test.YthgjamhcnaamdaaPkuhn
namespace Go.Proofs.Ythgjamhcnaamdaa
open Go Go.Proofs.Ythgjamhcnaamdaa.Sx
set_option linter.unusedVariables false
set_option linter.unusedSimpArgs false
def netM (m n : Nat) (l : List Arc) : Net := ⟨((m + n + 2 : Nat) : Int), ((m + n : Nat) : Int), ((m + n + 1 : Nat) : Int),
  mapA (fun i => ⟨((m + n : Nat) : Int), (i : Int), 1⟩) m ++ mapA (fun k => ⟨((m + k : Nat) : Int), ((m + n + 1 : Nat) : Int), 1⟩) n ++ mapA (fun k => ⟨(l.getD k El.d).f, (m : Int) + (l.getD k El.d).t, 1⟩) l.length⟩
theorem mapA_lenM (F : Nat → Arc) (k : Nat) : (mapA F k).length = k := by simp [mapA]
theorem mapA_get (F : Nat → Arc) {n k : Nat} (h : k < n) : (mapA F n).getD k El.d = F k := by simp [mapA, h]
theorem netM_len (m n : Nat) (l : List Arc) : (netM m n l).as.length = m + n + l.length := by
  unfold netM
  rw [List.length_append, List.length_append, mapA_lenM, mapA_lenM, mapA_lenM]
theorem app_get {L1 L2 : List Arc} {k : Nat} : (L1 ++ L2).getD k El.d = if k < L1.length then L1.getD k El.d else L2.getD (k - L1.length) El.d := by
  by_cases c : k < L1.length
  · rw [if_pos c, List.getD_eq_getElem?_getD, List.getElem?_append_left c, ← List.getD_eq_getElem?_getD]
  · rw [if_neg c, List.getD_eq_getElem?_getD, List.getElem?_append_right (by omega), ← List.getD_eq_getElem?_getD]
theorem netM_1 {m n : Nat} {l : List Arc} {k : Nat} (h : k < m) : (netM m n l).as.getD k El.d = ⟨((m + n : Nat) : Int), (k : Int), 1⟩ := by
  unfold netM
  rw [app_get, if_pos (by simp [mapA]; omega), app_get, if_pos (by simp [mapA]; omega), mapA_get _ h]
theorem netM_2 {m n : Nat} {l : List Arc} {k : Nat} (h : k < n) : (netM m n l).as.getD (m + k) El.d = ⟨((m + k : Nat) : Int), ((m + n + 1 : Nat) : Int), 1⟩ := by
  unfold netM
  rw [app_get, if_pos (by simp [mapA]; omega), app_get, if_neg (by simp [mapA]), mapA_lenM, Nat.add_sub_cancel_left, mapA_get _ h]
theorem netM_3 {m n : Nat} {l : List Arc} {k : Nat} (h : k < l.length) : (netM m n l).as.getD (m + n + k) El.d = ⟨(l.getD k El.d).f, (m : Int) + (l.getD k El.d).t, 1⟩ := by
  unfold netM
  rw [app_get, if_neg (by simp [mapA])]
  have : (mapA (fun i => (⟨((m + n : Nat) : Int), (i : Int), 1⟩ : Arc)) m ++ mapA (fun k => ⟨((m + k : Nat) : Int), ((m + n + 1 : Nat) : Int), 1⟩) n).length = m + n := by simp [mapA]
  rw [this, Nat.add_sub_cancel_left, mapA_get _ h]
theorem netM_at (m n : Nat) (l : List Arc) (g : Nat → Int) (z : Int) : netF (netM m n l).as g z =
    tot (fun i => giveA ⟨((m + n : Nat) : Int), (i : Int), 1⟩ (g i) z) m + tot (fun k => giveA ⟨((m + k : Nat) : Int), ((m + n + 1 : Nat) : Int), 1⟩ (g (m + k)) z) n + tot (fun k => giveA ⟨(l.getD k El.d).f, (m : Int) + (l.getD k El.d).t, 1⟩ (g (m + n + k)) z) l.length := by
  unfold netM
  dsimp only
  rw [netF_append, netF_append, netF_map, netF_map, netF_map, mapA_lenM]
  congr 1
  refine tot_congr fun k _ => ?_
  rw [List.length_append, mapA_lenM, mapA_lenM]
theorem netM_ok {m n : Int} {l : List Arc} (hP : OkP m n l) (h1 : m + n ≤ 10) (h2 : m + n + l.length ≤ 60) : OkNet (netM m.toNat n.toNat l) := by
  have hm0 := hP.m0; have hn0 := hP.n0
  refine ⟨⟨?_, ?_, ?_, fun a ha => ?_⟩, ?_, ?_, ?_, ?_, ?_⟩
  · show (1 : Int) ≤ ((m.toNat + n.toNat + 2 : Nat) : Int); omega
  · show ((m.toNat + n.toNat + 2 : Nat) : Int) ≤ 12; omega
  · show (netM m.toNat n.toNat l).as.length ≤ 60
    rw [netM_len]; omega
  · have ha' : a ∈ (netM m.toNat n.toNat l).as := ha
    obtain ⟨k, hk, e⟩ := getD_of_mem (d := El.d) ha'
    rw [netM_len] at hk
    by_cases c1 : k < m.toNat
    · rw [netM_1 c1] at e
      subst e
      refine ⟨?_, ?_, ?_, ?_, ?_, ?_⟩ <;> (simp only [netM]; omega)
    · by_cases c2 : k < m.toNat + n.toNat
      · obtain ⟨y, rfl⟩ : ∃ y, k = m.toNat + y := ⟨k - m.toNat, by omega⟩
        rw [netM_2 (by omega)] at e
        subst e
        refine ⟨?_, ?_, ?_, ?_, ?_, ?_⟩ <;> (simp only [netM]; omega)
      · obtain ⟨y, rfl⟩ : ∃ y, k = m.toNat + n.toNat + y := ⟨k - (m.toNat + n.toNat), by omega⟩
        rw [netM_3 (by omega)] at e
        have har := hP.arc _ (mem_getD (d := El.d) (show y < l.length by omega))
        subst e
        refine ⟨?_, ?_, ?_, ?_, ?_, ?_⟩ <;> (simp only [netM]; omega)
  · show (0 : Int) ≤ ((m.toNat + n.toNat : Nat) : Int); omega
  · show ((m.toNat + n.toNat : Nat) : Int) < ((m.toNat + n.toNat + 2 : Nat) : Int); omega
  · show (0 : Int) ≤ ((m.toNat + n.toNat + 1 : Nat) : Int); omega
  · show ((m.toNat + n.toNat + 1 : Nat) : Int) < ((m.toNat + n.toNat + 2 : Nat) : Int); omega
  · show ((m.toNat + n.toNat : Nat) : Int) ≠ ((m.toNat + n.toNat + 1 : Nat) : Int); omega
/-- the pairs as a flow -/
def selM (l : List Arc) (mate : List Int) (k : Nat) : Int := if mate.getD (l.getD k El.d).t.toNat 0 = (k : Int) then 1 else 0
def gM (l : List Arc) (mate : List Int) (m n : Nat) (x : Nat) : Int := if x < m then cntM l mate n x else if x < m + n then (if 0 ≤ mate.getD (x - m) 0 then 1 else 0) else selM l mate (x - (m + n))
def fM (l : List Arc) (mate : List Int) (m n : Nat) : List Int := (List.range (m + n + l.length)).map (gM l mate m n)
theorem fM_get {l : List Arc} {mate : List Int} {m n x : Nat} (h : x < m + n + l.length) : (fM l mate m n).getD x 0 = gM l mate m n x := by
  unfold fM
  simp [h]
/-- the pairs at a node of the first side -/
theorem sel_first {m n : Int} {l : List Arc} (hP : OkP m n l) {mate : List Int} (hM : MV n.toNat l mate) (i : Int) : tot (fun k => if (l.getD k El.d).f = i then selM l mate k else 0) l.length = cntM l mate n.toNat i := by
  have e1 : tot (fun k => if (l.getD k El.d).f = i then selM l mate k else 0) l.length = tot (fun k => tot (fun y => if mate.getD y 0 = (k : Int) ∧ (l.getD k El.d).f = i then 1 else 0) n.toNat) l.length := tot_congr fun k hk => by
    have har := hP.arc _ (mem_getD (d := El.d) hk)
    unfold selM
    rw [tot_single (f := fun y => if mate.getD y 0 = (k : Int) ∧ (l.getD k El.d).f = i then (1 : Int) else 0) (k := (l.getD k El.d).t.toNat) (by omega) fun y hy hne => if_neg fun q => by
      rcases hM.v y hy with z | ⟨_, _, z⟩
      · omega
      · rw [q.1, Int.toNat_natCast] at z
        omega]
    by_cases c : (l.getD k El.d).f = i
    · by_cases c2 : mate.getD (l.getD k El.d).t.toNat 0 = (k : Int)
      · rw [if_pos c, if_pos c2, if_pos ⟨c2, c⟩]
      · rw [if_pos c, if_neg c2, if_neg (fun q => c2 q.1)]
    · rw [if_neg c, if_neg (fun q => c q.2)]
  rw [e1, tot_swap (fun k y => if mate.getD y 0 = ((k : Nat) : Int) ∧ (l.getD k El.d).f = i then 1 else 0)]
  refine tot_congr fun y hy => ?_
  rcases hM.v y hy with z | ⟨z1, z2, z3⟩
  · rw [if_neg (fun q => by have := q.1; omega)]
    exact tot_zero fun k _ => if_neg fun q => by have := q.1; omega
  · rw [tot_single (f := fun k => if mate.getD y 0 = ((k : Nat) : Int) ∧ (l.getD k El.d).f = i then (1 : Int) else 0) (k := (mate.getD y 0).toNat) (by omega) fun k _ hne => if_neg fun q => hne (by have := q.1; omega)]
    unfold par
    by_cases c : (l.getD (mate.getD y 0).toNat El.d).f = i
    · rw [if_pos ⟨by omega, c⟩, if_pos ⟨z1, c⟩]
    · rw [if_neg (fun q => c q.2), if_neg (fun q => c q.2)]
theorem sel_second {m n : Int} {l : List Arc} (hP : OkP m n l) {mate : List Int} (hM : MV n.toNat l mate) {y : Nat} (hy : y < n.toNat) : tot (fun k => if (l.getD k El.d).t = (y : Int) then selM l mate k else 0) l.length = if 0 ≤ mate.getD y 0 then 1 else 0 := by
  unfold selM
  rcases hM.v y hy with z | ⟨z1, z2, z3⟩
  · rw [if_neg (by omega)]
    refine tot_zero fun k hk => ?_
    by_cases c : (l.getD k El.d).t = (y : Int)
    · rw [if_pos c, c, Int.toNat_natCast, if_neg (by omega)]
    · rw [if_neg c]
  · rw [if_pos z1, tot_single (k := (mate.getD y 0).toNat) (by omega) fun k hk hne => by
      by_cases c : (l.getD k El.d).t = (y : Int)
      · rw [if_pos c, c, Int.toNat_natCast, if_neg (by omega)]
      · rw [if_neg c]]
    rw [if_pos z3, z3, Int.toNat_natCast, if_pos (by omega)]
section
variable {m n : Int} {l : List Arc} {mate : List Int}
theorem mat_flow (hP : OkP m n l) (h1 : m + n ≤ 10) (h2 : m + n + l.length ≤ 60) (hM : MV n.toNat l mate) (hone : ∀ x : Nat, x < m.toNat → cntM l mate n.toNat x ≤ 1) : Flow (netM m.toNat n.toNat l) (fM l mate m.toNat n.toNat) ∧ netAt (netM m.toNat n.toNat l).as (fM l mate m.toNat n.toNat) (netM m.toNat n.toNat l).s = sizeM mate n.toNat := by
  have hm0 := hP.m0; have hn0 := hP.n0
  have fl : (fM l mate m.toNat n.toNat).length = m.toNat + n.toNat + l.length := by unfold fM; simp
  have g1 : ∀ i, i < m.toNat → (fM l mate m.toNat n.toNat).getD i 0 = cntM l mate n.toNat i := fun i hi => by
    rw [fM_get (by omega)]; unfold gM; rw [if_pos hi]
  have g2 : ∀ k, k < n.toNat → (fM l mate m.toNat n.toNat).getD (m.toNat + k) 0 = if 0 ≤ mate.getD k 0 then 1 else 0 := fun k hk => by
    rw [fM_get (by omega)]; unfold gM; rw [if_neg (by omega), if_pos (by omega), Nat.add_sub_cancel_left]
  have g3 : ∀ k, k < l.length → (fM l mate m.toNat n.toNat).getD (m.toNat + n.toNat + k) 0 = selM l mate k := fun k hk => by
    rw [fM_get (by omega)]; unfold gM; rw [if_neg (by omega), if_neg (by omega), Nat.add_sub_cancel_left]
  have hat : ∀ z : Int, netAt (netM m.toNat n.toNat l).as (fM l mate m.toNat n.toNat) z = tot (fun i => giveA ⟨((m.toNat + n.toNat : Nat) : Int), (i : Int), 1⟩ (cntM l mate n.toNat i) z) m.toNat + tot (fun k => giveA ⟨((m.toNat + k : Nat) : Int), ((m.toNat + n.toNat + 1 : Nat) : Int), 1⟩ (if 0 ≤ mate.getD k 0 then 1 else 0) z) n.toNat + tot (fun k => giveA ⟨(l.getD k El.d).f, (m.toNat : Int) + (l.getD k El.d).t, 1⟩ (selM l mate k) z) l.length := fun z => by
    rw [netAt_F, netM_at]
    congr 1
    · congr 1
      · exact tot_congr fun i hi => by rw [g1 i hi]
      · exact tot_congr fun k hk => by rw [g2 k hk]
    · exact tot_congr fun k hk => by rw [g3 k hk]
  refine ⟨⟨netM_ok hP h1 h2, by rw [fl, netM_len], fun x hx => ?_, fun x hx n1 n2 => ?_⟩, ?_⟩
  · rw [fl] at hx
    by_cases c1 : x < m.toNat
    · have h0 : 0 ≤ cntM l mate n.toNat x := tot_nonneg fun y _ => by split <;> omega
      rw [g1 x c1, netM_1 c1]
      exact ⟨h0, hone x c1⟩
    · by_cases c2 : x < m.toNat + n.toNat
      · obtain ⟨y, rfl⟩ : ∃ y, x = m.toNat + y := ⟨x - m.toNat, by omega⟩
        rw [g2 y (by omega), netM_2 (by omega)]
        dsimp only
        split <;> omega
      · obtain ⟨y, rfl⟩ : ∃ y, x = m.toNat + n.toNat + y := ⟨x - (m.toNat + n.toNat), by omega⟩
        rw [g3 y (by omega), netM_3 (by omega)]
        unfold selM
        dsimp only
        split <;> omega
  · have n1' : (x : Int) ≠ ((m.toNat + n.toNat : Nat) : Int) := n1
    have n2' : (x : Int) ≠ ((m.toNat + n.toNat + 1 : Nat) : Int) := n2
    rw [hat]
    by_cases c1 : x < m.toNat
    · rw [tot_single (f := fun i => giveA ⟨((m.toNat + n.toNat : Nat) : Int), (i : Int), 1⟩ (cntM l mate n.toNat i) (x : Int)) c1 fun i hi hne => giveA_none (by dsimp only; omega) (by dsimp only; omega), giveA_in (by dsimp only; omega) rfl, tot_zero (f := fun k => giveA ⟨((m.toNat + k : Nat) : Int), ((m.toNat + n.toNat + 1 : Nat) : Int), 1⟩ (if 0 ≤ mate.getD k 0 then 1 else 0) (x : Int)) fun k hk => giveA_none (by dsimp only; omega) (by dsimp only; omega)]
      have := sel_first hP hM (x : Int)
      rw [tot_congr (f := fun k => giveA ⟨(l.getD k El.d).f, (m.toNat : Int) + (l.getD k El.d).t, 1⟩ (selM l mate k) (x : Int)) (g := fun k => if (l.getD k El.d).f = (x : Int) then selM l mate k else 0) fun k hk => by
        have har := hP.arc _ (mem_getD (d := El.d) hk)
        unfold giveA
        dsimp only
        rw [if_neg (show ¬ (m.toNat : Int) + (l.getD k El.d).t = (x : Int) by omega)]; omega, this]
      omega
    · by_cases c2 : x < m.toNat + n.toNat
      · obtain ⟨y, rfl⟩ : ∃ y, x = m.toNat + y := ⟨x - m.toNat, by omega⟩
        rw [tot_zero (f := fun i => giveA ⟨((m.toNat + n.toNat : Nat) : Int), (i : Int), 1⟩ (cntM l mate n.toNat i) ((m.toNat + y : Nat) : Int)) fun i hi => giveA_none (by dsimp only; omega) (by dsimp only; omega), tot_single (f := fun k => giveA ⟨((m.toNat + k : Nat) : Int), ((m.toNat + n.toNat + 1 : Nat) : Int), 1⟩ (if 0 ≤ mate.getD k 0 then 1 else 0) ((m.toNat + y : Nat) : Int)) (k := y) (by omega) fun k hk hne => giveA_none (by dsimp only; omega) (by dsimp only; omega), giveA_out rfl (by dsimp only; omega)]
        have := sel_second hP hM (y := y) (by omega)
        rw [tot_congr (f := fun k => giveA ⟨(l.getD k El.d).f, (m.toNat : Int) + (l.getD k El.d).t, 1⟩ (selM l mate k) ((m.toNat + y : Nat) : Int)) (g := fun k => -(if (l.getD k El.d).t = (y : Int) then selM l mate k else 0)) fun k hk => by
          have har := hP.arc _ (mem_getD (d := El.d) hk)
          unfold giveA
          dsimp only
          rw [if_neg (show ¬ (l.getD k El.d).f = ((m.toNat + y : Nat) : Int) by omega)]
          by_cases c : (l.getD k El.d).t = (y : Int)
          · rw [if_pos c, if_pos (by omega)]; omega
          · rw [if_neg c, if_neg (by omega)]; omega, tot_neg, this]
        omega
      · rw [tot_zero (f := fun i => giveA ⟨((m.toNat + n.toNat : Nat) : Int), (i : Int), 1⟩ (cntM l mate n.toNat i) (x : Int)) fun i hi => giveA_none (by dsimp only; omega) (by dsimp only; omega), tot_zero (f := fun k => giveA ⟨((m.toNat + k : Nat) : Int), ((m.toNat + n.toNat + 1 : Nat) : Int), 1⟩ (if 0 ≤ mate.getD k 0 then 1 else 0) (x : Int)) fun k hk => giveA_none (by dsimp only; omega) (by dsimp only; omega), tot_zero (f := fun k => giveA ⟨(l.getD k El.d).f, (m.toNat : Int) + (l.getD k El.d).t, 1⟩ (selM l mate k) (x : Int)) fun k hk => by
          have har := hP.arc _ (mem_getD (d := El.d) hk)
          exact giveA_none (by dsimp only; omega) (by dsimp only; omega)]
        rfl
  · rw [hat]
    show tot (fun i => giveA ⟨((m.toNat + n.toNat : Nat) : Int), (i : Int), 1⟩ (cntM l mate n.toNat i) ((m.toNat + n.toNat : Nat) : Int)) m.toNat + tot (fun k => giveA ⟨((m.toNat + k : Nat) : Int), ((m.toNat + n.toNat + 1 : Nat) : Int), 1⟩ (if 0 ≤ mate.getD k 0 then 1 else 0) ((m.toNat + n.toNat : Nat) : Int)) n.toNat + tot (fun k => giveA ⟨(l.getD k El.d).f, (m.toNat : Int) + (l.getD k El.d).t, 1⟩ (selM l mate k) ((m.toNat + n.toNat : Nat) : Int)) l.length = _
    rw [tot_congr (f := fun i => giveA ⟨((m.toNat + n.toNat : Nat) : Int), (i : Int), 1⟩ (cntM l mate n.toNat i) ((m.toNat + n.toNat : Nat) : Int)) (g := fun i => 1 * cntM l mate n.toNat i) fun i hi => by rw [giveA_out rfl (by dsimp only; omega)]; omega, tot_zero (f := fun k => giveA ⟨((m.toNat + k : Nat) : Int), ((m.toNat + n.toNat + 1 : Nat) : Int), 1⟩ (if 0 ≤ mate.getD k 0 then 1 else 0) ((m.toNat + n.toNat : Nat) : Int)) fun k hk => giveA_none (by dsimp only; omega) (by dsimp only; omega), tot_zero (f := fun k => giveA ⟨(l.getD k El.d).f, (m.toNat : Int) + (l.getD k El.d).t, 1⟩ (selM l mate k) ((m.toNat + n.toNat : Nat) : Int)) fun k hk => by
      have har := hP.arc _ (mem_getD (d := El.d) hk)
      exact giveA_none (by dsimp only; omega) (by dsimp only; omega), cnt_weigh hP hM (fun _ => 1), Int.add_zero, Int.add_zero]
    rfl
theorem cov_cut (hP : OkP m n l) {A B : Nat → Int} (hc : Cov l A B) : ∃ S, Cut (netM m.toNat n.toNat l) S ∧ capS (netM m.toNat n.toNat l).as S = tot A m.toNat + tot B n.toNat := by
  have hm0 := hP.m0; have hn0 := hP.n0
  refine ⟨fun z => if z = ((m.toNat + n.toNat : Nat) : Int) then 1 else if z < 0 then 0 else if z < (m.toNat : Int) then 1 - A z.toNat else if z < ((m.toNat + n.toNat : Nat) : Int) then B (z.toNat - m.toNat) else 0, ⟨if_pos rfl, ?_, fun z => ?_⟩, ?_⟩
  · have ht : (netM m.toNat n.toNat l).t = ((m.toNat + n.toNat + 1 : Nat) : Int) := rfl
    rw [ht]
    skip
    rw [if_neg (by omega), if_neg (by omega), if_neg (by omega), if_neg (by omega)]
  · skip
    have ha := hc.a z.toNat
    have hb := hc.b (z.toNat - m.toNat)
    repeat' split
    all_goals omega
  · generalize hS : (fun z : Int => if z = ((m.toNat + n.toNat : Nat) : Int) then (1 : Int) else if z < 0 then 0 else if z < (m.toNat : Int) then 1 - A z.toNat else if z < ((m.toNat + n.toNat : Nat) : Int) then B (z.toNat - m.toNat) else 0) = S
    have s1 : S ((m.toNat + n.toNat : Nat) : Int) = 1 := by rw [← hS]; exact if_pos rfl
    have s2 : S ((m.toNat + n.toNat + 1 : Nat) : Int) = 0 := by
      rw [← hS]
      dsimp only
      rw [if_neg (by omega), if_neg (by omega), if_neg (by omega), if_neg (by omega)]
    have s3 : ∀ i : Nat, i < m.toNat → S (i : Int) = 1 - A i := fun i hi => by
      rw [← hS]
      dsimp only
      rw [if_neg (by omega), if_neg (by omega), if_pos (by omega), Int.toNat_natCast]
    have s4 : ∀ k : Nat, k < n.toNat → S ((m.toNat + k : Nat) : Int) = B k := fun k hk => by
      rw [← hS]
      dsimp only
      rw [if_neg (by omega), if_neg (by omega), if_neg (by omega), if_pos (by omega), Int.toNat_natCast, Nat.add_sub_cancel_left]
    unfold capS
    rw [netM_len, tot_split, tot_split]
    have t1 : tot (cross (netM m.toNat n.toNat l).as S) m.toNat = tot A m.toNat := tot_congr fun i hi => by
      unfold cross
      rw [netM_1 hi]
      dsimp only
      rw [s1, s3 i hi]
      rcases hc.a i with q | q <;> rw [q] <;> decide
    have t2 : tot (fun k => cross (netM m.toNat n.toNat l).as S (m.toNat + k)) n.toNat = tot B n.toNat := tot_congr fun k hk => by
      unfold cross
      rw [netM_2 hk]
      dsimp only
      rw [s2, s4 k hk]
      rcases hc.b k with q | q <;> rw [q] <;> decide
    have t3 : tot (fun k => cross (netM m.toNat n.toNat l).as S (m.toNat + n.toNat + k)) l.length = 0 := tot_zero fun k hk => by
      have hmem := mem_getD (d := El.d) hk
      have har := hP.arc _ hmem
      have := hc.c _ hmem
      unfold cross
      rw [netM_3 hk]
      dsimp only
      have e1 := s3 (l.getD k El.d).f.toNat (by omega)
      have e2 := s4 (l.getD k El.d).t.toNat (by omega)
      rw [show (((l.getD k El.d).f.toNat : Nat) : Int) = (l.getD k El.d).f by omega] at e1
      rw [show ((m.toNat + (l.getD k El.d).t.toNat : Nat) : Int) = (m.toNat : Int) + (l.getD k El.d).t by omega] at e2
      rw [e1, e2, if_neg]
      rintro ⟨q1, q2⟩
      rcases this with q | q <;> omega
    rw [t1, t2, t3]
    omega
theorem best_flow (hP : OkP m n l) (h1 : m + n ≤ 10) (h2 : m + n + l.length ≤ 60) {v : Int} (hb : BestM m n l v) : MaxV (netM m.toNat n.toNat l) v := by
  obtain ⟨mate, k1, k2, k3⟩ := hb.mat
  obtain ⟨A, B, c1, c2⟩ := hb.cov
  obtain ⟨f1, f2⟩ := mat_flow hP h1 h2 k1 k2
  obtain ⟨S, q1, q2⟩ := cov_cut hP c1
  exact ⟨⟨_, f1, by rw [f2, k3]⟩, S, q1, by rw [q2, c2]⟩
end
end Go.Proofs.Ythgjamhcnaamdaa
