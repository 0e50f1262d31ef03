/- Package paths: ways that have no node in common, and nodes that cut. -/
import Derived.Test.YtlelfifbmckhgaaPnodes
namespace Go.Proofs.Ytlelfifbmckhgaa
open Go Go.Proofs.Ytlelfifbmckhgaa.Sx
set_option linter.unusedVariables false
set_option linter.unusedSimpArgs false
/-! ### the least cut goes through nodes alone -/
def blkL (n : Net) (low : Int) : Nat → List Int
  | 0 => []
  | k + 1 => if innP n k ∧ bit low (2 * (k : Int)) = 1 ∧ bit low (2 * (k : Int) + 1) = 0 then blkL n low k ++ [(k : Int)] else blkL n low k
theorem blkL_csum (n : Net) (low : Int) : ∀ j, ((blkL n low j).length : Int) = csum (bit low) (innL n j) ∧ (blkL n low j).length ≤ j
  | 0 => ⟨rfl, Nat.le_refl _⟩
  | j + 1 => by
    have ih := blkL_csum n low j
    rw [blkL, innL]
    by_cases c : innP n j
    · rw [if_pos c, csum_app]
      simp only [csum]
      by_cases d : bit low (2 * (j : Int)) = 1 ∧ bit low (2 * (j : Int) + 1) = 0
      · rw [if_pos ⟨c, d⟩, if_pos d]
        simp only [List.length_append, List.length_cons, List.length_nil]
        omega
      · rw [if_neg (fun z => d z.2), if_neg d]; omega
    · rw [if_neg c, if_neg (fun z => c z.1)]; omega
theorem csum_nonneg (S : Int → Int) {L : List Arc} (h : ∀ a, a ∈ L → 0 ≤ a.c) : 0 ≤ csum S L := by
  induction L with
  | nil => exact Int.le_refl _
  | cons a L ih =>
    have := ih fun b hb => h b (List.mem_cons_of_mem _ hb)
    have := h a (List.mem_cons_self ..)
    simp only [csum]
    split <;> omega
/-- arcs that take twelve: none crosses, or all together at least twelve do -/
theorem csum_twelve (S : Int → Int) {L : List Arc} (h : ∀ a, a ∈ L → a.c = 12) : csum S L = 0 ∨ 12 ≤ csum S L := by
  induction L with
  | nil => exact .inl rfl
  | cons a L ih =>
    have h0 := csum_nonneg S (L := L) fun b hb => by rw [h b (List.mem_cons_of_mem _ hb)]; decide
    have := ih fun b hb => h b (List.mem_cons_of_mem _ hb)
    have := h a (List.mem_cons_self ..)
    simp only [csum]
    split <;> omega
theorem csum_ones (S : Int → Int) {L : List Arc} (h : ∀ a, a ∈ L → a.c = 1) : csum S L ≤ L.length := by
  induction L with
  | nil => exact Int.le_refl _
  | cons a L ih =>
    have := ih fun b hb => h b (List.mem_cons_of_mem _ hb)
    have := h a (List.mem_cons_self ..)
    simp only [csum, List.length_cons]
    split <;> omega
theorem csum_zero (S : Int → Int) {L : List Arc} (h : ∀ a, a ∈ L → ¬ (S a.f = 1 ∧ S a.t = 0)) : csum S L = 0 := by
  induction L with
  | nil => rfl
  | cons a L ih =>
    simp only [csum]
    rw [if_neg (h a (List.mem_cons_self ..)), ih fun b hb => h b (List.mem_cons_of_mem _ hb)]
    rfl
theorem inn_one {n : Net} {j : Nat} {a : Arc} (h : a ∈ innL n j) : a.c = 1 := by
  obtain ⟨k, _, _, rfl⟩ := innL_mem h
  rfl
theorem kep_twelve {n : Net} {j : Nat} {a : Arc} (h : a ∈ (kepL n j).map (kepA n)) : a.c = 12 := by
  obtain ⟨x, _, rfl⟩ := List.mem_map.1 h
  rfl
theorem nodes_small {n : Net} (h : SplG n) {v : Int} (hM : MaxV (splN n) v) : v ≤ 4 := by
  have hn := h.net
  have n6 := h.n6
  have hne := hn.ne
  have hcut : Cut (splN n) fun x => if x % 2 = 0 ∧ x ≠ 2 * n.t ∨ x = 2 * n.s + 1 then 1 else 0 := ⟨if_pos (show (splN n).s % 2 = 0 ∧ (splN n).s ≠ 2 * n.t ∨ (splN n).s = 2 * n.s + 1 from .inr rfl), if_neg (show ¬ ((splN n).t % 2 = 0 ∧ (splN n).t ≠ 2 * n.t ∨ (splN n).t = 2 * n.s + 1) from fun z => by
    have e : (splN n).t = 2 * n.t := rfl
    omega), fun x => by
    split
    · exact .inr rfl
    · exact .inl rfl⟩
  have hv := hM.ge hcut
  rw [capS_csum] at hv
  have e : (splN n).as = innL n n.n.toNat ++ (kepL n n.as.length).map (kepA n) := rfl
  rw [e, csum_app] at hv
  have a1 := csum_ones (fun x => if x % 2 = 0 ∧ x ≠ 2 * n.t ∨ x = 2 * n.s + 1 then 1 else 0) (L := innL n n.n.toNat) fun a ha => inn_one ha
  have a2 := csum_zero (fun x => if x % 2 = 0 ∧ x ≠ 2 * n.t ∨ x = 2 * n.s + 1 then 1 else 0) (L := (kepL n n.as.length).map (kepA n)) fun a ha hc => by
    obtain ⟨x, hx, rfl⟩ := List.mem_map.1 ha
    obtain ⟨k, hk, hp, rfl⟩ := kepL_mem hx
    unfold kepA at hc
    dsimp only at hc
    rw [Int.toNat_natCast] at hc
    obtain ⟨c1, c2⟩ := hc
    have d1 : 2 * (n.as.getD k El.d).f + 1 = 2 * n.s + 1 := Classical.byContradiction fun z => by
      rw [if_neg (by omega)] at c1; omega
    have d2 : 2 * (n.as.getD k El.d).t = 2 * n.t := Classical.byContradiction fun z => by
      rw [if_pos (by omega)] at c2; omega
    exact h.dir k hk ⟨by omega, by omega⟩
  have := innL_full hn
  omega
theorem block_ok {n : Net} (h : SplG n) : ∃ low v, paths_Block_F n = some (blkL n low n.n.toNat, 0) ∧ MaxV (splN n) v ∧ ((blkL n low n.n.toNat).length : Int) = v := by
  have hn := h.net
  have n6 := h.n6
  have n0 := hn.g.n0
  dsimp only at n0
  obtain ⟨low, v, e, hL, hM⟩ := least_ok (spl_ok h)
  have hsp : paths_split_F n = some (splN n, kepL n n.as.length, 0) := by
    rcases split_nodes n with ⟨_, e⟩ | ⟨z, _⟩
    · exact e
    · exact absurd h z
  have hv4 := nodes_small h hM
  have hcap := hL.cap
  rw [capS_csum] at hcap
  have e0 : (splN n).as = innL n n.n.toNat ++ (kepL n n.as.length).map (kepA n) := rfl
  rw [e0, csum_app] at hcap
  have b1 := blkL_csum n low n.n.toNat
  have b2 := csum_twelve (bit low) (L := (kepL n n.as.length).map (kepA n)) fun a ha => kep_twelve ha
  have b3 := csum_nonneg (bit low) (L := innL n n.n.toNat) fun a ha => by rw [inn_one ha]; decide
  refine ⟨low, v, ?_, hM, by omega⟩
  obtain ⟨l, el, hl⟩ := forN_inv (f := paths_Block_B1 n low) (fun j (l : List Int) => l = blkL n low j) (n := n.n.toNat) (k := 0) (s := []) rfl fun j l _ hj hI => by
    subst hI
    have hb := (blkL_csum n low j).2
    unfold paths_Block_B1
    rw [blkL, bit_fold, bit_fold]
    by_cases q1 : ((j : Nat) : Int) ≠ n.s
    · rw [if_pos q1]
      by_cases q2 : ((j : Nat) : Int) ≠ n.t
      · rw [if_pos q2, ck_some (inI_small (by omega) (by omega)), ck_some (by omega)]
        by_cases q3 : bit low (2 * ((j : Nat) : Int)) = 1
        · rw [if_pos q3, ck_some (inI_small (by omega) (by omega)), ck_some (by omega)]
          by_cases q4 : bit low (2 * ((j : Nat) : Int) + 1) = 0
          · rw [if_pos q4, ck_some (by omega), if_pos ⟨⟨q1, q2⟩, q3, q4⟩]
            exact ⟨_, rfl, rfl⟩
          · rw [if_neg q4, if_neg (fun z => q4 z.2.2)]
            exact ⟨_, rfl, rfl⟩
        · rw [if_neg q3, if_neg (fun z => q3 z.2.1)]
          exact ⟨_, rfl, rfl⟩
      · rw [if_neg q2, if_neg (fun z => q2 z.1.2)]
        exact ⟨_, rfl, rfl⟩
    · rw [if_neg q1, if_neg (fun z => q1 z.1.1)]
      exact ⟨_, rfl, rfl⟩
  unfold paths_Block_F
  rw [hsp, bind_some']
  dsimp only
  rw [if_neg (by decide), e, bind_some']
  dsimp only
  rw [ck_some (inI_small (by omega) (by omega)), el, bind_some', hl, Nat.zero_add]
/-! ### as many ways -/
theorem alone_ok {n : Net} (h : SplG n) : ∃ (l : List (List Int)) (f : List Int) (v : Int), paths_Alone_F n = some (l, 0) ∧ MaxV (splN n) v ∧ Flow (splN n) f ∧ netAt (splN n).as f (splN n).s = v ∧ (l.length : Int) = v := by
  have hn := h.net
  have n6 := h.n6
  have n0 := hn.g.n0
  have m30 := h.m30
  dsimp only at n0
  have hsp : paths_split_F n = some (splN n, kepL n n.as.length, 0) := by
    rcases split_nodes n with ⟨_, e⟩ | ⟨z, _⟩
    · exact e
    · exact absurd h z
  have hok := spl_ok h
  obtain ⟨f, v, e, hf, hv, hM⟩ := of_max hok
  have hv0 := hM.nonneg hok
  obtain ⟨ways, rounds, es, hS⟩ := split_ok hf (by rw [hv]; exact hv0)
  have hli := innL_full hn
  have hkl := kepL_len n n.as.length
  have hal := splA_len n
  have ones : ∀ p, p ∈ ways → p.amount = 1 := fun p hp => by
    have hP := hS.ws p hp
    have ha := hP.a1
    obtain ⟨nd, d0, d1, hnd⟩ := hP.ch.nd
    have hlen := hP.len
    have step : ∀ i, i < p.arcs.length → (p.arcs.getD i 0).toNat < (splA n).length ∧ 0 ≤ p.arcs.getD i 0 ∧ ((splA n).getD (p.arcs.getD i 0).toNat El.d).f = nd i ∧ ((splA n).getD (p.arcs.getD i 0).toNat El.d).t = nd (i + 1) := fun i hi => by
      have hr : 0 ≤ p.arcs.getD i 0 ∧ p.arcs.getD i 0 < ((splA n).length : Int) := hP.ch.rg i hi
      exact ⟨by omega, hr.1, hnd i hi⟩
    have small : ∀ i, i < p.arcs.length → ((splA n).getD (p.arcs.getD i 0).toNat El.d).c = 1 → p.amount = 1 := fun i hi hc => by
      have hon := hS.on hp hi
      have hst := step i hi
      have hr := hf.r (p.arcs.getD i 0).toNat (by rw [hf.len]; exact hst.1)
      have : ((splN n).as.getD (p.arcs.getD i 0).toNat El.d).c = 1 := hc
      omega
    have s0 := step 0 (by omega)
    have z0 : nd 0 = 2 * n.s + 1 := d0
    have z1 : nd p.arcs.length = 2 * n.t := d1
    rcases spl_arc s0.1 with ⟨k, k1, k2, ea⟩ | ⟨k, k1, k2, ea⟩
    · exact small 0 (by omega) (by rw [ea])
    · rw [ea] at s0
      have q1 : 2 * (n.as.getD k El.d).f + 1 = nd 0 := s0.2.2.1
      have q2 : 2 * (n.as.getD k El.d).t = nd 1 := s0.2.2.2
      have hnt : (n.as.getD k El.d).t ≠ n.t := fun z => h.dir k k1 ⟨by omega, z⟩
      have hlen2 : 2 ≤ p.arcs.length := by
        refine Nat.lt_of_not_ge fun z => ?_
        have : p.arcs.length = 1 := by omega
        rw [this] at z1
        omega
      have s1 := step 1 (by omega)
      rcases spl_arc s1.1 with ⟨k', _, _, ea'⟩ | ⟨k', k1', k2', ea'⟩
      · exact small 1 (by omega) (by rw [ea'])
      · rw [ea'] at s1
        have q3 : 2 * (n.as.getD k' El.d).f + 1 = nd 1 := s1.2.2.1
        omega
  have hlen := valL_ones ones
  obtain ⟨l, el, hl⟩ := forN_inv (f := paths_Alone_B1 n (kepL n n.as.length) ways) (fun j (l : List (List Int)) => l.length = j) (n := ways.length) (k := 0) (s := []) rfl fun j l _ hj hI => by
    have cw := hS.cw
    have hP := hS.ws (ways.getD j El.d) (mem_getD (by omega))
    unfold paths_Alone_B1
    generalize hp : ways.getD j El.d = p at hP
    obtain ⟨w, ew, hw⟩ := forN_inv (f := paths_Alone_B2 n (kepL n n.as.length) ways j) (fun i (w : List Int) => w.length ≤ i) (n := p.arcs.length) (k := 0) (s := []) (by simp) fun i w _ hi hIw => by
      have hr : 0 ≤ p.arcs.getD i 0 ∧ p.arcs.getD i 0 < ((splA n).length : Int) := hP.ch.rg i (by omega)
      have hpl : p.arcs.length ≤ 600 := by
        -- its arcs are apart
        have key : ∀ t, t ≤ p.arcs.length → t ≤ cnt (fun y => decide (∃ u, u < t ∧ p.arcs.getD u 0 = (y : Int))) (splA n).length := fun t => by
          induction t with
          | zero => intro _; exact Nat.zero_le _
          | succ t ih =>
            intro ht
            have hrt : 0 ≤ p.arcs.getD t 0 ∧ p.arcs.getD t 0 < ((splA n).length : Int) := hP.ch.rg t (by omega)
            have := cnt_lt (S := fun y => decide (∃ u, u < t ∧ p.arcs.getD u 0 = (y : Int))) (T := fun y => decide (∃ u, u < t + 1 ∧ p.arcs.getD u 0 = (y : Int))) (n := (splA n).length) (y := (p.arcs.getD t 0).toNat) (fun y _ hy => by
              simp only [decide_eq_true_eq] at hy ⊢
              obtain ⟨u, hu, eu⟩ := hy
              exact ⟨u, by omega, eu⟩) (by omega) (by simp only [decide_eq_true_eq]; exact ⟨t, by omega, by omega⟩) (by
              simp only [decide_eq_false_iff_not]
              rintro ⟨u, hu, eu⟩
              have := hP.ch.inj u t (by omega) (by omega) (by omega)
              omega)
            have := ih (by omega)
            omega
        have k1 := key _ (Nat.le_refl _)
        have k2 := cnt_le (fun y => decide (∃ u, u < p.arcs.length ∧ p.arcs.getD u 0 = (y : Int))) (splA n).length
        omega
      unfold paths_Alone_B2
      rw [hp, ck_some (inI_small (by omega) (by omega))]
      by_cases c : n.n - 2 ≤ p.arcs.getD i 0
      · rw [if_pos c, ck_some (inI_small (by omega) (by omega)), ck_some (by omega), ck_some (by omega)]
        exact ⟨_, rfl, by simp only [List.length_append, List.length_cons, List.length_nil]; omega⟩
      · rw [if_neg c]
        exact ⟨_, rfl, by omega⟩
    rw [ew, bind_some', ck_some (by omega)]
    exact ⟨_, rfl, by simp only [List.length_append, List.length_cons, List.length_nil]; omega⟩
  refine ⟨l, f, v, ?_, hM, hf, hv, by rw [hl, Nat.zero_add, ← hlen, hS.val]; exact hv⟩
  unfold paths_Alone_F
  rw [hsp, bind_some']
  dsimp only
  rw [if_neg (by decide), e, bind_some']
  dsimp only
  rw [es, bind_some']
  dsimp only
  rw [el, bind_some']
end Go.Proofs.Ytlelfifbmckhgaa
