/- CloseMost: the law's function answers true. -/
import Derived.Test.YtlelfifbmckhgaaPclose
import Derived.Test.YtlelfifbmckhgaaKCloseMost
namespace Go.Proofs.Ytlelfifbmckhgaa
open Go Go.Proofs.Ytlelfifbmckhgaa.Sx
set_option linter.unusedVariables false
set_option linter.unusedSimpArgs false
theorem closesM_eq : weirkeep_closes_F = some true := by kernel_rfl
theorem and_mod (a b : Int) : bitsOf .and .u16 a b = bitsOf .and .u16 (a % 65536) b := by
  have e : BitVec.ofInt 16 a = BitVec.ofInt 16 (a % 65536) := by
    apply BitVec.eq_of_toNat_eq
    rw [BitVec.toNat_ofInt, BitVec.toNat_ofInt]
    congr 1
    show a % 65536 = a % 65536 % 65536
    omega
  show IntKind.u16.wrap (((BitVec.ofInt 16 a &&& BitVec.ofInt 16 b).toNat : Nat) : Int) = IntKind.u16.wrap (((BitVec.ofInt 16 (a % 65536) &&& BitVec.ofInt 16 b).toNat : Nat) : Int)
  rw [← e]
theorem hi_and_right {a b : Int} {k : Nat} (hk : k ≤ 16) (hb : Int.fdiv b (2 ^ k) = 0) : Int.fdiv (bitsOf .and .u16 a b) (2 ^ k) = 0 := by
  rw [fdiv_zero] at hb ⊢
  have := pow_le16 hk
  rw [and_mod, and_nat (by omega) (by omega)]
  have := Nat.and_le_right (n := (a % 65536).toNat) (m := b.toNat)
  omega
theorem wrap_bit (u x : Int) : IntKind.i64.wrap (bit u x) = bit u x := by
  rcases bit01 u x with h | h <;> rw [h] <;> decide
theorem closeM_loop {gain : List Int} {l : List Arc} (h : OkClose gain l) (set_ s w : Int) (hw : w = bitsOf .and .u16 set_ (IntKind.u16.wrap ((IntKind.u16.wrap (1 * 2 ^ min gain.length 16)) - 1))) : forN (weirkeep_CloseMost_B1 gain set_ s) gain.length 0 (0, 0) = some (gainS gain (bit w), gainS gain (bit s)) := by
  have hn := h.n
  have each : ∀ u : Int, ∀ k, k < gain.length → -1000 ≤ bit u (k : Int) * gain.getD k 0 ∧ bit u (k : Int) * gain.getD k 0 ≤ 1000 := fun u k hk => by
    have := h.gr k hk
    rcases bit01 u (k : Int) with q | q <;> rw [q] <;> omega
  obtain ⟨σ, e, hσ⟩ := forN_inv (f := weirkeep_CloseMost_B1 gain set_ s) (fun j σ => σ = (tot (fun k => bit w (k : Int) * gain.getD k 0) j, tot (fun k => bit s (k : Int) * gain.getD k 0) j)) (n := gain.length) (k := 0) (s := (0, 0)) rfl fun j σ _ hj hσ => by
    subst hσ
    have hj' : j < gain.length := by omega
    have b1 := tot_abs (f := fun k => bit w (k : Int) * gain.getD k 0) (M := 1000) (n := j) fun i hi => each w i (by omega)
    have b2 := tot_abs (f := fun k => bit s (k : Int) * gain.getD k 0) (M := 1000) (n := j) fun i hi => each s i (by omega)
    have c1 := each w j hj'
    have c2 := each s j hj'
    have e1 : bitsOf .and .u16 (Int.fdiv (bitsOf .and .u16 set_ (IntKind.u16.wrap ((IntKind.u16.wrap (1 * 2 ^ min gain.length 16)) - 1))) (2 ^ min j 16)) 1 = bit w (j : Int) := by rw [hw]; rfl
    have e2 : bitsOf .and .u16 (Int.fdiv s (2 ^ min j 16)) 1 = bit s (j : Int) := rfl
    refine ⟨_, ?_, rfl⟩
    unfold weirkeep_CloseMost_B1
    dsimp only
    rw [e1, e2, wrap_bit, wrap_bit, Int.mul_comm (gain.getD j 0) (bit w (j : Int)), Int.mul_comm (gain.getD j 0) (bit s (j : Int))]
    rw [ck_some (inI_small (by omega) (by omega)), ck_some (inI_small (by omega) (by omega)), ck_some (inI_small (by omega) (by omega)), ck_some (inI_small (by omega) (by omega))]
    rfl
  rw [e, hσ, Nat.zero_add]
  rfl
theorem shutM_eq {gain : List Int} {l : List Arc} (h : OkClose gain l) (s : Int) : ∃ b, weirkeep_CloseMost_c1_F s l = some b ∧ (b = true ↔ Shut l (bit s)) := by
  unfold weirkeep_CloseMost_c1_F slices_ContainsFunc_Arc_weirkeep_CloseMost_c1_c1_F slices_IndexFunc_Arc_weirkeep_CloseMost_c1_c1_F
  obtain ⟨q, e, h1, h2⟩ := forC_or (f := slices_IndexFunc_Arc_weirkeep_CloseMost_c1_c1_B1 l s) (fun j _ => ∀ k, k < j → bit s (l.getD k El.d).f = 1 → bit s (l.getD k El.d).t = 1) (fun q => (∀ r, q = .ret r → 0 ≤ r ∧ ¬ Shut l (bit s)) ∧ (q = .go () → Shut l (bit s))) (n := l.length) (k := 0) (s := ()) (fun k hk => absurd hk (by omega)) (fun j _ _ hj i1 => by
      have hm := mem_getD (d := El.d) (show j < l.length by omega)
      have hr := h.arc _ hm
      unfold slices_IndexFunc_Arc_weirkeep_CloseMost_c1_c1_B1 weirkeep_CloseMost_c1_c1_F
      rw [ck_some hr.1, bit_fold]
      by_cases p1 : bit s (l.getD j El.d).f = 1
      · rw [if_pos p1, ck_some hr.2.2.1, bit_fold, bind_some']
        by_cases p2 : bit s (l.getD j El.d).t = 0
        · rw [if_pos (decide_eq_true p2)]
          exact .inr (.inr ⟨_, rfl, fun r e => by injection e with e; subst e; exact ⟨by omega, fun hs => by have := hs _ hm p1; omega⟩, fun e => (by cases e)⟩)
        · rw [if_neg (by rw [decide_eq_false p2]; decide)]
          refine .inl ⟨(), rfl, fun k hk hf => ?_⟩
          by_cases e : k = j
          · subst e; exact (bit01 _ _).resolve_left p2
          · exact i1 k (by omega) hf
      · rw [if_neg p1, bind_some', if_neg (by decide)]
        refine .inl ⟨(), rfl, fun k hk hf => ?_⟩
        by_cases e : k = j
        · subst e; exact absurd hf p1
        · exact i1 k (by omega) hf) (fun _ i1 => ⟨fun r e => (by cases e), fun _ a ha hf => by
      obtain ⟨k, hk, e⟩ := getD_of_mem (d := El.d) ha
      rw [← e] at hf ⊢
      exact i1 k (by omega) hf⟩)
  rw [e]
  cases q with
  | go s => exact ⟨true, rfl, fun _ => h2 rfl, fun _ => rfl⟩
  | ret r =>
    have := h1 r rfl
    refine ⟨false, ?_, fun z => Bool.noConfusion z, fun z => absurd z this.2⟩
    show some (!(decide (0 ≤ r))) = some false
    rw [decide_eq_true this.1]; rfl
theorem CloseMost_true (gain : List Int) (l : List Arc) (set_ : Int) : weirkeep_CloseMost_F gain l set_ = some true := by
  unfold weirkeep_CloseMost_F
  rw [closesM_eq, bind_some', if_neg (by decide)]
  rcases closeCheck_cases gain l with ⟨h, _⟩ | ⟨_, e, he, h1, _⟩
  · obtain ⟨s, x, e1, hB, x0, x1⟩ := best_ok h
    have hn := h.n
    rw [e1, bind_some']
    dsimp only
    rw [if_neg (by decide)]
    generalize hw : bitsOf .and .u16 set_ (IntKind.u16.wrap ((IntKind.u16.wrap (1 * 2 ^ min gain.length 16)) - 1)) = w
    rw [closeM_loop h set_ s w hw.symm, bind_some']
    dsimp only
    rw [if_neg (by rw [hB.gain_]; exact fun z => z rfl), if_neg (by omega)]
    obtain ⟨b, eb, hb⟩ := shutM_eq h s
    rw [eb, bind_some', hb.2 hB.shut, if_neg (by decide)]
    obtain ⟨c, ec, hc⟩ := shutM_eq h w
    rw [ec, bind_some']
    cases c with
    | false => rw [if_pos (show (!false) = true from rfl)]
    | true =>
      rw [if_neg (by decide)]
      have hsw := hc.1 rfl
      have hm := hB.most (bit w) (bit01 w) hsw
      by_cases q : gainS gain (bit w) < x
      · rw [if_pos q]
      · have q2 : gainS gain (bit w) = x := by omega
        rw [if_neg q, if_pos q2]
        refine congrArg some (decide_eq_true ?_)
        refine bits_ext (n := gain.length) (by omega) (hi_and_right (by omega) hB.hi) hB.hi fun z hz0 hz1 => ?_
        rw [bit_and _ _ hz0 (by omega)]
        exact ⟨fun h => h.2, fun h => ⟨hB.least (bit w) (bit01 w) hsw q2 z hz0 (by omega) h, h⟩⟩
  · have he0 : e ≠ 0 := by omega
    rw [best_bad he0 h1, bind_some']
    dsimp only
    rw [if_pos he0]; rfl
end Go.Proofs.Ytlelfifbmckhgaa
