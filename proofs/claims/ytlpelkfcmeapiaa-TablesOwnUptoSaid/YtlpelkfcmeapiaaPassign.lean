/- Package assign: Best tells a best way to assign. -/
import Derived.Test.YtlpelkfcmeapiaaPset
import Derived.Test.YtlpelkfcmeapiaaPdual
import Derived.Test.YtlpelkfcmeapiaaGassign
namespace Go.Proofs.Ytlpelkfcmeapiaa
open Go Go.Proofs.Ytlpelkfcmeapiaa.Sx
set_option linter.unusedVariables false
set_option linter.unusedSimpArgs false
/-- how many nodes a set has -/
def onesN (S : Nat) : Nat := cnt (inS S) 9
theorem ones_table : ∀ S : Fin 512, assign_ones_F ((S.val : Nat) : Int) = some ((onesN S.val : Nat) : Int) := by decide +kernel
theorem ones_ok {S : Nat} (h : S < 512) : assign_ones_F ((S : Nat) : Int) = some ((onesN S : Nat) : Int) := ones_table ⟨S, h⟩
theorem onesDrop_table : ∀ S : Fin 512, ∀ k : Fin 9, inS S.val k.val = true → onesN (dropS S.val k.val) + 1 = onesN S.val := by decide +kernel
theorem onesDrop {S k : Nat} (h : S < 512) (hk : k < 9) (hi : inS S k = true) : onesN (dropS S k) + 1 = onesN S := onesDrop_table ⟨S, h⟩ ⟨k, hk⟩ hi
theorem ones0_table : ∀ S : Fin 512, onesN S.val = 0 → S.val = 0 := by decide +kernel
theorem ones0 {S : Nat} (h : S < 512) (h0 : onesN S = 0) : S = 0 := ones0_table ⟨S, h⟩ h0
theorem sub_table : ∀ n : Fin 7, ∀ S : Fin 64, S.val < 2 ^ n.val → onesN S.val ≤ n.val ∧ ∀ k : Fin 9, inS S.val k.val = true → k.val < n.val := by decide +kernel
theorem fullA_table : ∀ n : Fin 7, IntKind.i64.wrap (1 * 2 ^ min n.val 64) = ((2 ^ n.val : Nat) : Int) ∧ 2 ^ n.val ≤ 64 ∧ 1 ≤ 2 ^ n.val ∧ onesN (2 ^ n.val - 1) = n.val ∧ ∀ k : Fin 9, k.val < n.val → inS (2 ^ n.val - 1) k.val = true := by decide +kernel
theorem toNat_sub_nat (a b : Nat) : ((a : Int) - (b : Int)).toNat = a - b := by omega
theorem in0 (k : Nat) : inS 0 k = false := by simp [inS]
/-- columns of the set, one for each row from r on -/
inductive AsgS (W : Nat → Nat → Int) : Nat → Nat → List Nat → Int → Prop where
  | nil (r : Nat) : AsgS W 0 r [] 0
  | step {S r k : Nat} {l : List Nat} {v : Int} : k < 9 → inS S k = true → AsgS W (dropS S k) (r + 1) l v → AsgS W S r (k :: l) (W r k + v)
theorem AsgS.bnd {W : Nat → Nat → Int} (hW : ∀ i k, -1000 ≤ W i k ∧ W i k ≤ 1000) {S r : Nat} {l : List Nat} {v : Int} (h : AsgS W S r l v) : -1000 * (l.length : Int) ≤ v ∧ v ≤ 1000 * (l.length : Int) := by
  induction h with
  | nil r => simp
  | @step S r k l v hk hi h ih =>
    have := hW r k
    simp only [List.length_cons]
    omega
theorem AsgS.len {W : Nat → Nat → Int} {S r : Nat} {l : List Nat} {v : Int} (h : AsgS W S r l v) : S < 512 → l.length = onesN S := by
  induction h with
  | nil r => intro _; rfl
  | @step S r k l v hk hi h ih =>
    intro hS
    have := onesDrop hS hk hi
    have d := dropS_le S k
    have := ih (by omega)
    simp only [List.length_cons]
    omega
theorem AsgS.mem {W : Nat → Nat → Int} {S r : Nat} {l : List Nat} {v : Int} (h : AsgS W S r l v) : S < 512 → ∀ k, k < 9 → (inS S k = true ↔ k ∈ l) := by
  induction h with
  | nil r => intro _ k _; rw [in0]; simp
  | @step S r k l v hk hi h ih =>
    intro hS j hj
    have d := dropS_le S k
    have := ih (by omega) j hj
    rw [inDrop hS hk hj] at this
    simp only [Bool.and_eq_true, decide_eq_true_eq] at this
    rw [List.mem_cons, ← this]
    by_cases e : j = k
    · subst e; simp [hi]
    · simp [e]
theorem AsgS.small {W : Nat → Nat → Int} {S r : Nat} {l : List Nat} {v : Int} (h : AsgS W S r l v) : ∀ k, k ∈ l → k < 9 := by
  induction h with
  | nil r => intro k hk; cases hk
  | @step S r k l v hk hi h ih =>
    intro j hj
    rcases List.mem_cons.1 hj with h | h
    · omega
    · exact ih j h
theorem AsgS.nodup {W : Nat → Nat → Int} {S r : Nat} {l : List Nat} {v : Int} (h : AsgS W S r l v) : S < 512 → l.Nodup := by
  induction h with
  | nil r => intro _; exact List.nodup_nil
  | @step S r k l v hk hi h ih =>
    intro hS
    have d := dropS_le S k
    refine List.nodup_cons.2 ⟨fun hm => ?_, ih (by omega)⟩
    have := (h.mem (by omega) k hk).2 hm
    rw [inDrop hS hk hk] at this
    simp at this
theorem AsgS.sum {W : Nat → Nat → Int} {S r : Nat} {l : List Nat} {v : Int} (h : AsgS W S r l v) : v = tot (fun i => W (r + i) (l.getD i 0)) l.length := by
  induction h with
  | nil r => rfl
  | @step S r k l v hk hi h ih =>
    rw [List.length_cons, Nat.add_comm, tot_split, ih]
    have e1 : tot (fun i => W (r + i) ((k :: l).getD i 0)) 1 = W r k := by simp [tot]
    rw [e1]
    congr 1
    exact tot_congr fun i _ => by
      rw [show r + (1 + i) = r + 1 + i by omega, show 1 + i = i + 1 by omega, List.getD_cons_succ]
theorem AsgS.make {W : Nat → Nat → Int} : ∀ {l : List Nat} {S r : Nat}, S < 512 → l.Nodup → (∀ k, k ∈ l → k < 9 ∧ inS S k = true) → l.length = onesN S → ∃ v, AsgS W S r l v
  | [], S, r, hS, _, _, hl => by
    obtain rfl := ones0 hS hl.symm
    exact ⟨0, .nil r⟩
  | k :: l, S, r, hS, hn, hm, hl => by
    obtain ⟨hk, hi⟩ := hm k (by simp)
    have d := dropS_le S k
    have o := onesDrop hS hk hi
    obtain ⟨hk2, hn2⟩ := List.nodup_cons.1 hn
    obtain ⟨v, hv⟩ := AsgS.make (W := W) (l := l) (S := dropS S k) (r := r + 1) (by omega) hn2 (fun j hj => by
      obtain ⟨h1, h2⟩ := hm j (by simp [hj])
      refine ⟨h1, ?_⟩
      rw [inDrop hS hk h1, h2]
      simp only [Bool.true_and, decide_eq_true_eq]
      exact fun e => hk2 (e ▸ hj)) (by simp only [List.length_cons] at hl; omega)
    exact ⟨_, .step hk hi hv⟩
/-- the best of a set, of the rows from r on -/
structure TabS (W : Nat → Nat → Int) (S r : Nat) (v : Int) : Prop where
  has : ∃ l, AsgS W S r l v
  most : ∀ l x, AsgS W S r l x → x ≤ v
/-- a table of gains that is allowed -/
structure GainOk (gain : List (List Int)) : Prop where
  n6 : gain.length ≤ 6
  row : ∀ i, i < gain.length → (gain.getD i []).length = gain.length
  bnd : ∀ i k, -1000 ≤ (gain.getD i []).getD k 0 ∧ (gain.getD i []).getD k 0 ≤ 1000
def Wg (gain : List (List Int)) (i k : Nat) : Int := (gain.getD i []).getD k 0
theorem assign_check (gain : List (List Int)) : ∃ e, assign_Check_F gain = some e ∧ (e = 0 ↔ GainOk gain) := by
  unfold assign_Check_F
  by_cases c : 6 < ((gain.length : Nat) : Int)
  · rw [if_pos c]
    exact ⟨2, rfl, by simp, fun h => by have := h.n6; omega⟩
  · rw [if_neg c]
    have inner : ∀ k, ∃ q : Ex Unit (Ct Unit Int), forC (assign_Check_B2 gain k) ((gain.getD k []).length) 0 () = some q ∧ ((q = .go () ∧ ∀ j, j < (gain.getD k []).length → -1000 ≤ (gain.getD k []).getD j 0 ∧ (gain.getD k []).getD j 0 ≤ 1000) ∨ (q = .ret (.ret 1) ∧ ∃ j, ¬ (-1000 ≤ (gain.getD k []).getD j 0 ∧ (gain.getD k []).getD j 0 ≤ 1000))) := fun k =>
      forC_or (f := assign_Check_B2 gain k) (fun j _ => ∀ i, i < j → -1000 ≤ (gain.getD k []).getD i 0 ∧ (gain.getD k []).getD i 0 ≤ 1000) (fun q => (q = .go () ∧ ∀ j, j < (gain.getD k []).length → -1000 ≤ (gain.getD k []).getD j 0 ∧ (gain.getD k []).getD j 0 ≤ 1000) ∨ (q = .ret (.ret 1) ∧ ∃ j, ¬ (-1000 ≤ (gain.getD k []).getD j 0 ∧ (gain.getD k []).getD j 0 ≤ 1000))) (fun i hi => absurd hi (by omega)) (fun j s _ hj hI => by
        unfold assign_Check_B2
        by_cases c1 : (gain.getD k []).getD j 0 < -1000
        · rw [if_pos c1]
          exact .inr (.inr ⟨_, rfl, .inr ⟨rfl, j, by omega⟩⟩)
        · rw [if_neg c1]
          by_cases c2 : 1000 < (gain.getD k []).getD j 0
          · rw [if_pos c2]
            exact .inr (.inr ⟨_, rfl, .inr ⟨rfl, j, by omega⟩⟩)
          · rw [if_neg c2]
            refine .inl ⟨(), rfl, fun i hi => ?_⟩
            by_cases e : i = j
            · subst e; omega
            · exact hI i (by omega)) (fun s hI => .inl ⟨rfl, fun j hj => hI j (by omega)⟩)
    obtain ⟨q, e, h | h⟩ := forC_or (f := assign_Check_B1 gain) (fun j _ => ∀ i, i < j → (gain.getD i []).length = gain.length ∧ ∀ k, k < (gain.getD i []).length → -1000 ≤ (gain.getD i []).getD k 0 ∧ (gain.getD i []).getD k 0 ≤ 1000) (fun q : Ex Unit Int => (q = .go () ∧ ∀ i, i < gain.length → (gain.getD i []).length = gain.length ∧ ∀ k, k < (gain.getD i []).length → -1000 ≤ (gain.getD i []).getD k 0 ∧ (gain.getD i []).getD k 0 ≤ 1000) ∨ ∃ x : Int, q = .ret x ∧ x ≠ 0 ∧ ¬ GainOk gain) (n := gain.length) (k := 0) (s := ()) (fun i hi => absurd hi (by omega)) (fun j s _ hj hI => by
        unfold assign_Check_B1
        by_cases c1 : (((gain.getD j []).length : Nat) : Int) ≠ ((gain.length : Nat) : Int)
        · rw [if_pos c1]
          exact .inr (.inr ⟨_, rfl, .inr ⟨3, rfl, by decide, fun h => c1 (by rw [h.row j (by omega)])⟩⟩)
        · rw [if_neg c1]
          obtain ⟨q, e, ⟨rfl, h⟩ | ⟨rfl, i, h⟩⟩ := inner j
          · rw [e, bind_some']
            refine .inl ⟨(), rfl, fun i hi => ?_⟩
            by_cases e : i = j
            · subst e; exact ⟨by omega, h⟩
            · exact hI i (by omega)
          · rw [e, bind_some']
            exact .inr (.inr ⟨_, rfl, .inr ⟨1, rfl, by decide, fun hg => h (hg.bnd j i)⟩⟩)) (fun s hI => .inl ⟨rfl, fun i hi => hI i (by omega)⟩)
    · obtain ⟨rfl, h⟩ := h
      rw [e, bind_some']
      refine ⟨0, rfl, fun _ => ⟨by omega, fun i hi => (h i hi).1, fun i k => ?_⟩, fun _ => rfl⟩
      by_cases hi : i < gain.length
      · by_cases hk : k < (gain.getD i []).length
        · exact (h i hi).2 k hk
        · rw [getD_big (l := gain.getD i []) (by omega)]; omega
      · rw [getD_big (l := gain) (by omega)]; simp
    · obtain ⟨x, rfl, hx, hg⟩ := h
      rw [e, bind_some']
      exact ⟨x, rfl, fun h => absurd h hx, fun h => absurd h hg⟩
section
variable {gain : List (List Int)} (hg : GainOk gain)
include hg
theorem best_entry {S : Nat} (h0 : 0 < S) (hS : S < 2 ^ gain.length) {l : List Int} (hl : l.length = 2 ^ gain.length) (hT : ∀ T, T < S → TabS (Wg gain) T (gain.length - onesN T) (l.getD T 0)) :
    ∃ l', forN (assign_Best_B2 gain S (onesN S)) gain.length 0 (l.set S ((-1000) * (((gain.length + 1) : Nat) : Int))) = some l' ∧ l'.length = l.length ∧ (∀ i, i ≠ S → l'.getD i 0 = l.getD i 0) ∧ TabS (Wg gain) S (gain.length - onesN S) (l'.getD S 0) := by
  have n6 := hg.n6
  obtain ⟨t1, t2, t3, t4, t5⟩ := fullA_table ⟨gain.length, by omega⟩
  dsimp only at t1 t2 t3 t4 t5
  have hS5 : S < 512 := by omega
  obtain ⟨s1, s2⟩ := sub_table ⟨gain.length, by omega⟩ ⟨S, by omega⟩ hS
  dsimp only at s1 s2
  have hpos : 0 < onesN S := by
    rcases Nat.eq_zero_or_pos (onesN S) with h | h
    · have := ones0 hS5 h; omega
    · exact h
  have hrow : gain.length - onesN S < gain.length := by omega
  have sub : ∀ k, k < 9 → inS S k = true → TabS (Wg gain) (dropS S k) (gain.length - onesN S + 1) (l.getD (dropS S k) 0) := fun k hk hin => by
    have := hT _ (dropS_lt hin)
    have o := onesDrop hS5 hk hin
    rwa [show gain.length - onesN (dropS S k) = gain.length - onesN S + 1 by omega] at this
  have vb : ∀ k, k < 9 → inS S k = true → -1000 * ((onesN S : Nat) : Int) + 1000 ≤ l.getD (dropS S k) 0 ∧ l.getD (dropS S k) 0 ≤ 6000 := fun k hk hin => by
    obtain ⟨p, hp⟩ := (sub k hk hin).has
    have b := hp.bnd hg.bnd
    have o := onesDrop hS5 hk hin
    have d := dropS_le S k
    rw [hp.len (by omega)] at b
    omega
  obtain ⟨l', e, h1, h2, h3, h4⟩ := forN_inv (f := assign_Best_B2 gain S (onesN S)) (fun j (m : List Int) => m.length = l.length ∧ (∀ i, i ≠ S → m.getD i 0 = l.getD i 0) ∧ (∀ k, k < j → k < 9 → inS S k = true → Wg gain (gain.length - onesN S) k + l.getD (dropS S k) 0 ≤ m.getD S 0) ∧ ((m.getD S 0 = (-1000) * (((gain.length + 1) : Nat) : Int) ∧ ∀ k, k < j → k < 9 → inS S k = false) ∨ ∃ k, k < 9 ∧ inS S k = true ∧ m.getD S 0 = Wg gain (gain.length - onesN S) k + l.getD (dropS S k) 0)) (n := gain.length) (k := 0) (s := l.set S ((-1000) * (((gain.length + 1) : Nat) : Int))) ⟨by simp, fun i hi => by rw [getD_set', if_neg (fun z => hi z.1)], fun k hk => absurd hk (by omega), .inl ⟨by rw [getD_set', if_pos ⟨rfl, by omega⟩], fun k hk => absurd hk (by omega)⟩⟩ fun j m _ hj ⟨i1, i2, i3, i4⟩ => by
    have hj9 : j < 9 := by omega
    unfold assign_Best_B2
    rw [bitS hS5 hj9]
    cases hin : inS S j with
    | false =>
      rw [if_neg (show ¬ (false = true) from by decide), if_neg (by decide)]
      refine ⟨_, rfl, i1, i2, fun k hk hk9 hkin => ?_, ?_⟩
      · by_cases ek : k = j
        · subst ek; rw [hin] at hkin; exact Bool.noConfusion hkin
        · exact i3 k (by omega) hk9 hkin
      · rcases i4 with ⟨a, b⟩ | h
        · refine .inl ⟨a, fun k hk hk9 => ?_⟩
          by_cases ek : k = j
          · subst ek; exact hin
          · exact b k (by omega) hk9
        · exact .inr h
    | true =>
      have d := dropS_lt hin
      have er : (((gain.length : Nat) : Int) - ((onesN S : Nat) : Int)).toNat = gain.length - onesN S := toNat_sub_nat _ _
      have hWb := hg.bnd (gain.length - onesN S) j
      have hvb := vb j hj9 hin
      have hget : m.getD (dropS S j) 0 = l.getD (dropS S j) 0 := i2 _ (by omega)
      rw [if_pos rfl, if_pos rfl, ck_some (by omega), ck_some ⟨by omega, by omega⟩, er, hg.row _ hrow, ck_some (by omega), dropS_eq hS5 hj9, ck_some (by omega), Int.toNat_natCast, hget, ck_some (inI_small (by omega) (by omega))]
      have enew : (m.set S (max (m.getD S 0) ((gain.getD (gain.length - onesN S) []).getD j 0 + l.getD (dropS S j) 0))).getD S 0 = max (m.getD S 0) (Wg gain (gain.length - onesN S) j + l.getD (dropS S j) 0) := by rw [getD_set', if_pos ⟨rfl, by omega⟩]; rfl
      refine ⟨_, rfl, by simpa using i1, fun i hi => by rw [getD_set', if_neg (fun z => hi z.1)]; exact i2 i hi, fun k hk hk9 hkin => ?_, ?_⟩
      · rw [enew]
        by_cases ek : k = j
        · subst ek; omega
        · have := i3 k (by omega) hk9 hkin
          omega
      · rw [enew]
        right
        rcases i4 with ⟨a, b⟩ | ⟨k, hk, hkin, h⟩
        · refine ⟨j, hj9, hin, ?_⟩
          have hWb' : -1000 ≤ Wg gain (gain.length - onesN S) j := hWb.1
          rw [a]
          omega
        · rcases Int.le_total (m.getD S 0) (Wg gain (gain.length - onesN S) j + l.getD (dropS S j) 0) with c | c
          · exact ⟨j, hj9, hin, Int.max_eq_right c⟩
          · exact ⟨k, hk, hkin, by rw [Int.max_eq_left c]; exact h⟩
  refine ⟨l', e, h1, h2, ?_⟩
  rcases h4 with ⟨_, b⟩ | ⟨k, hk, hkin, h⟩
  · exfalso
    have : onesN S = 0 := by
      obtain ⟨p, hp⟩ : ∃ p, p = onesN S := ⟨_, rfl⟩
      have : ∀ m, cnt (inS S) m ≤ cnt (fun _ => false) m := fun m => cnt_mono fun x hx h => by
        by_cases hx9 : x < gain.length
        · have h9 : x < 9 := by omega
          rw [b x (by omega) h9] at h; exact h
        · exfalso
          by_cases hx10 : x < 9
          · have := s2 ⟨x, hx10⟩ h
            dsimp only at this
            omega
          · have : S / 2 ^ x = 0 := Nat.div_eq_of_lt (by
              have : 2 ^ 9 ≤ 2 ^ x := Nat.pow_le_pow_right (by decide) (by omega)
              omega)
            unfold inS at h
            rw [this] at h
            simp at h
      have z : cnt (fun _ => false) 9 = 0 := by decide
      have := this 9
      unfold onesN
      omega
    omega
  · have hsub := sub k hk hkin
    refine ⟨?_, fun p x hp => ?_⟩
    · obtain ⟨p, hp⟩ := hsub.has
      exact ⟨k :: p, by rw [h]; exact .step hk hkin hp⟩
    · generalize hr : gain.length - onesN S = r at *
      cases hp with
      | nil => omega
      | step hk' hin' hp' =>
        have := (sub _ hk' hin').most _ _ hp'
        have hlt := s2 ⟨_, hk'⟩ hin'
        dsimp only at hlt
        have := h3 _ (by omega) hk' hin'
        omega
theorem best_table : ∃ l, (loopC (assign_Best_B1 gain) 1000000 ((List.replicate (2 ^ gain.length) (0 : Int)), 1)) = some (.go (l, 2 ^ gain.length)) ∧ l.length = 2 ^ gain.length ∧ ∀ T, T < 2 ^ gain.length → TabS (Wg gain) T (gain.length - onesN T) (l.getD T 0) := by
  have n6 := hg.n6
  obtain ⟨t1, t2, t3, t4, t5⟩ := fullA_table ⟨gain.length, by omega⟩
  dsimp only at t1 t2 t3 t4 t5
  obtain ⟨q, e, σ, rfl, h0, h1, h2⟩ := loopC_or (f := assign_Best_B1 gain) (fun (τ : List Int × Nat) => τ.1.length = 2 ^ gain.length ∧ 1 ≤ τ.2 ∧ τ.2 ≤ 2 ^ gain.length ∧ (∀ T, T < τ.2 → TabS (Wg gain) T (gain.length - onesN T) (τ.1.getD T 0))) (fun q => ∃ σ : List Int × Nat, q = .go σ ∧ σ.2 = 2 ^ gain.length ∧ σ.1.length = 2 ^ gain.length ∧ ∀ T, T < 2 ^ gain.length → TabS (Wg gain) T (gain.length - onesN T) (σ.1.getD T 0)) (fun τ => 2 ^ gain.length - τ.2) (fun τ ⟨i1, i2, i3, i4⟩ => by
    obtain ⟨l, S⟩ := τ
    dsimp only at i1 i2 i3 i4
    unfold assign_Best_B1
    dsimp only
    rw [t1]
    by_cases c : ((S : Nat) : Int) < ((2 ^ gain.length : Nat) : Int)
    · have hS : S < 2 ^ gain.length := by omega
      obtain ⟨s1, s2⟩ := sub_table ⟨gain.length, by omega⟩ ⟨S, by omega⟩ hS
      dsimp only at s1 s2
      obtain ⟨l', e, p1, p2, p3⟩ := best_entry hg (S := S) (by omega) hS (l := l) i1 i4
      rw [if_pos c, ones_ok (by omega), bind_some', ck_some (inI_small (by omega) (by omega)), ck_some (inI_small (by omega) (by omega)), ck_some (inI_small (by omega) (by omega)), ck_some (by omega), e, bind_some', ck_some (inI_small (by omega) (by omega))]
      refine .inl ⟨_, rfl, ⟨by dsimp only; omega, by dsimp only; omega, by dsimp only; omega, fun T hT => ?_⟩, by dsimp only; omega⟩
      dsimp only at hT ⊢
      by_cases eT : T = S
      · rw [eT]; exact p3
      · rw [p2 T eT]; exact i4 T (by omega)
    · rw [if_neg c]
      exact .inr (.inl ⟨_, rfl, _, rfl, by dsimp only; omega, i1, fun T hT => i4 T (by omega)⟩)) (n := 1000000) (s := (List.replicate (2 ^ gain.length) (0 : Int), 1)) ⟨by simp, Nat.le_refl _, by dsimp only; omega, fun T hT => by
      have e0 : T = 0 := by dsimp only at hT; omega
      subst e0
      have : (List.replicate (2 ^ gain.length) (0 : Int)).getD 0 0 = 0 := by rw [getD_replicate']; split <;> rfl
      rw [this]
      refine ⟨⟨[], .nil _⟩, fun p x hp => ?_⟩
      cases hp with
      | nil => exact Int.le_refl _
      | step hk hin _ => rw [in0] at hin; exact Bool.noConfusion hin⟩ (by dsimp only; omega)
  obtain ⟨l, n⟩ := σ
  dsimp only at h0 h1 h2
  subst h0
  exact ⟨l, e, h1, h2⟩
theorem best_pass {l : List Int} (hl : l.length = 2 ^ gain.length) (hT : ∀ T, T < 2 ^ gain.length → TabS (Wg gain) T (gain.length - onesN T) (l.getD T 0)) :
    ∃ p : List Nat, loopC (assign_Best_B3 gain l) 1000000 ([], ((2 ^ gain.length : Nat) : Int) - 1) = some (.go (p.map fun (k : Nat) => (k : Int), 0)) ∧ AsgS (Wg gain) (2 ^ gain.length - 1) 0 p (l.getD (2 ^ gain.length - 1) 0) := by
  have n6 := hg.n6
  obtain ⟨t1, t2, t3, t4, t5⟩ := fullA_table ⟨gain.length, by omega⟩
  dsimp only at t1 t2 t3 t4 t5
  generalize hF : 2 ^ gain.length - 1 = F at *
  obtain ⟨q, e, h⟩ := loopC_or (f := assign_Best_B3 gain l) (fun (τ : List Int × Int) => ∃ (p : List Nat) (S : Nat) (acc : Int), τ = (p.map fun (k : Nat) => (k : Int), (S : Int)) ∧ S < 2 ^ gain.length ∧ p.length + onesN S = gain.length ∧ acc + l.getD S 0 = l.getD F 0 ∧ ∀ m x, AsgS (Wg gain) S p.length m x → AsgS (Wg gain) F 0 (p ++ m) (acc + x)) (fun q => ∃ p : List Nat, q = .go (p.map fun (k : Nat) => (k : Int), 0) ∧ AsgS (Wg gain) F 0 p (l.getD F 0)) (fun τ => τ.2.toNat) (fun τ ⟨p, S, acc, i0, i1, i2, i3, i4⟩ => by
    subst i0
    have hS5 : S < 512 := by omega
    obtain ⟨s1, s2⟩ := sub_table ⟨gain.length, by omega⟩ ⟨S, by omega⟩ i1
    dsimp only at s1 s2
    have hTS := hT S i1
    unfold assign_Best_B3
    dsimp only
    by_cases c : (0 : Int) < ((S : Nat) : Int)
    · have er : (((gain.length : Nat) : Int) - ((onesN S : Nat) : Int)).toNat = gain.length - onesN S := by omega
      have hpl : p.length = gain.length - onesN S := by omega
      have hpos : 0 < onesN S := by
        rcases Nat.eq_zero_or_pos (onesN S) with h | h
        · have := ones0 hS5 h; omega
        · exact h
      have vb : ∀ k, k < 9 → inS S k = true → -7000 ≤ l.getD (dropS S k) 0 ∧ l.getD (dropS S k) 0 ≤ 6000 := fun k hk hin => by
        have d := dropS_le S k
        obtain ⟨p, hp⟩ := (hT (dropS S k) (by omega)).has
        have b := hp.bnd hg.bnd
        have o := onesDrop hS5 hk hin
        rw [hp.len (by omega)] at b
        omega
      rw [if_pos c, ones_ok hS5, bind_some', ck_some (inI_small (by omega) (by omega))]
      obtain ⟨q, e, k, hk, hkin, hval, rfl⟩ := forC_or (f := assign_Best_B4 gain l (onesN S)) (s := (p.map fun (k : Nat) => (k : Int), (S : Int))) (n := gain.length) (k := 0) (fun j τ => τ = (p.map fun (k : Nat) => (k : Int), (S : Int)) ∧ ∀ k, k < j → k < 9 → inS S k = true → l.getD S 0 ≠ Wg gain (gain.length - onesN S) k + l.getD (dropS S k) 0) (fun q => ∃ k, k < 9 ∧ inS S k = true ∧ l.getD S 0 = Wg gain (gain.length - onesN S) k + l.getD (dropS S k) 0 ∧ q = .go ((p ++ [k]).map (fun (k : Nat) => (k : Int)), ((dropS S k : Nat) : Int))) ⟨rfl, fun k hk => absurd hk (by omega)⟩ (fun j τ _ hj ⟨j1, j2⟩ => by
        subst j1
        have hj9 : j < 9 := by omega
        unfold assign_Best_B4
        dsimp only
        rw [bitS hS5 hj9]
        cases hin : inS S j with
        | false =>
          rw [if_neg (show ¬ (false = true) from by decide), if_neg (by decide)]
          refine .inl ⟨_, rfl, rfl, fun k hk hk9 hkin => ?_⟩
          by_cases ek : k = j
          · subst ek; rw [hin] at hkin; exact Bool.noConfusion hkin
          · exact j2 k (by omega) hk9 hkin
        | true =>
          have d := dropS_lt hin
          have hWb := hg.bnd (gain.length - onesN S) j
          have hvb := vb j hj9 hin
          rw [if_pos rfl, if_pos rfl, ck_some (by omega), ck_some ⟨by omega, by omega⟩, er, hg.row _ (by omega), ck_some (by omega), dropS_eq hS5 hj9, ck_some (by omega), Int.toNat_natCast, Int.toNat_natCast, ck_some (inI_small (by omega) (by omega))]
          by_cases c2 : l.getD S 0 = (gain.getD (gain.length - onesN S) []).getD j 0 + l.getD (dropS S j) 0
          · rw [if_pos c2, ck_some (by simp; omega)]
            exact .inr (.inl ⟨_, rfl, j, hj9, hin, c2, by simp⟩)
          · rw [if_neg c2]
            refine .inl ⟨_, rfl, rfl, fun k hk hk9 hkin => ?_⟩
            by_cases ek : k = j
            · subst ek; exact c2
            · exact j2 k (by omega) hk9 hkin) (fun τ ⟨j1, j2⟩ => by
        exfalso
        obtain ⟨m, hm⟩ := hTS.has
        generalize hv : l.getD S 0 = v at *
        generalize hr : gain.length - onesN S = r at *
        cases hm with
        | nil => omega
        | @step _ _ k m v' hk hin hm' =>
          have hlt := s2 ⟨_, hk⟩ hin
          dsimp only at hlt
          have d := dropS_lt hin
          have o := onesDrop hS5 hk hin
          have hd := hT (dropS S k) (by omega)
          rw [show gain.length - onesN (dropS S k) = r + 1 by omega] at hd
          have a1 := hd.most _ _ hm'
          obtain ⟨m2, hm2⟩ := hd.has
          have a2 := hTS.most _ _ (.step hk hin hm2)
          exact j2 k (by omega) hk hin (by omega))
      have d := dropS_lt hkin
      have o := onesDrop hS5 hk hkin
      rw [e, bind_some']
      refine .inl ⟨_, rfl, ⟨p ++ [k], dropS S k, acc + Wg gain (gain.length - onesN S) k, rfl, by omega, by simp; omega, by omega, fun m x hm => ?_⟩, by dsimp only; omega⟩
      rw [List.append_assoc, Int.add_assoc]
      refine i4 _ _ ?_
      rw [hpl]
      refine .step hk hkin ?_
      rwa [List.length_append, List.length_cons, List.length_nil, hpl] at hm
    · rw [if_neg c]
      have e0 : S = 0 := by omega
      subst e0
      refine .inr (.inl ⟨_, rfl, p, rfl, ?_⟩)
      have h0 : l.getD 0 0 = 0 := by
        obtain ⟨m, hm⟩ := hTS.has
        generalize hv : l.getD 0 0 = v at *
        generalize hr : gain.length - onesN 0 = r at *
        cases hm with
        | nil => rfl
        | step hk hin _ => rw [in0] at hin; exact Bool.noConfusion hin
      have := i4 [] 0 (.nil _)
      rw [List.append_nil, show acc + 0 = l.getD F 0 by omega] at this
      exact this) (n := 1000000) (s := ([], ((2 ^ gain.length : Nat) : Int) - 1)) ⟨[], F, 0, by simp only [List.map_nil, Prod.mk.injEq, true_and]; omega, by omega, by simp only [List.length_nil]; omega, by omega, fun m x hm => by rw [List.nil_append, Int.zero_add]; exact hm⟩ (by dsimp only; omega)
  obtain ⟨p, rfl, hp⟩ := h
  exact ⟨p, e, hp⟩
/-- the way that is told: row i has column p i -/
structure BestP (gain : List (List Int)) (p : List Nat) (s : Int) : Prop where
  len : p.length = gain.length
  lt : ∀ i, i < gain.length → p.getD i 0 < gain.length
  inj : ∀ i j, i < gain.length → j < gain.length → p.getD i 0 = p.getD j 0 → i = j
  onto : ∀ k, k < gain.length → ∃ i, i < gain.length ∧ p.getD i 0 = k
  sum : s = tot (fun i => Wg gain i (p.getD i 0)) gain.length
  best : BestU gain.length fun i j => Wg gain i (p.getD j 0)
theorem assign_best : ∃ (p : List Nat) (s : Int), assign_Best_F gain = some (p.map fun (k : Nat) => (k : Int), s, 0) ∧ BestP gain p s := by
  have n6 := hg.n6
  obtain ⟨t1, t2, t3, t4, t5⟩ := fullA_table ⟨gain.length, by omega⟩
  dsimp only at t1 t2 t3 t4 t5
  obtain ⟨e, he, hiff⟩ := assign_check gain
  obtain rfl := hiff.2 hg
  obtain ⟨l, el, hl, hT⟩ := best_table hg
  obtain ⟨p, ep, hp⟩ := best_pass hg hl hT
  have hTF := hT (2 ^ gain.length - 1) (by omega)
  rw [t4, Nat.sub_self] at hTF
  have hF5 : 2 ^ gain.length - 1 < 512 := by omega
  refine ⟨p, l.getD (2 ^ gain.length - 1) 0, ?_, ?_⟩
  · unfold assign_Best_F
    rw [he, bind_some', if_neg (by decide), t1, ck_some (by omega), Int.toNat_natCast, el, bind_some']
    dsimp only
    rw [ck_some (inI_small (by omega) (by omega)), ep, bind_some']
    dsimp only
    rw [ck_some (by omega), show (((2 ^ gain.length : Nat) : Int) - 1).toNat = 2 ^ gain.length - 1 by omega]
  · have hlen := hp.len hF5
    rw [t4] at hlen
    obtain ⟨_, s2⟩ := sub_table ⟨gain.length, by omega⟩ ⟨2 ^ gain.length - 1, by omega⟩ (by dsimp only; omega)
    dsimp only at s2
    have hmem := hp.mem hF5
    have hlt : ∀ i, i < gain.length → p.getD i 0 < gain.length := fun i hi => by
      have hm : p.getD i 0 ∈ p := mem_getD (by omega)
      have h9 := hp.small _ hm
      exact s2 ⟨_, h9⟩ ((hmem _ h9).2 hm)
    have hnd := hp.nodup hF5
    have hinj : ∀ i j, i < gain.length → j < gain.length → p.getD i 0 = p.getD j 0 → i = j := fun i j hi hj e => by
      rw [List.getD_eq_getElem?_getD, List.getD_eq_getElem?_getD, List.getElem?_eq_getElem (by omega), List.getElem?_eq_getElem (by omega)] at e
      have hpw := List.pairwise_iff_getElem.1 hnd
      rcases Nat.lt_trichotomy i j with c | c | c
      · exact absurd (by simpa using e) (hpw i j _ _ c)
      · exact c
      · exact absurd (by simpa using e.symm) (hpw j i _ _ c)
    refine ⟨hlen, hlt, hinj, fun k hk => ?_, ?_, fun σ hI => ?_⟩
    · have hm := (hmem k (by omega)).1 (t5 ⟨k, by omega⟩ hk)
      obtain ⟨i, hi, e⟩ := getD_of_mem (d := 0) hm
      exact ⟨i, by omega, e⟩
    · have := hp.sum
      rw [hlen] at this
      rw [this]
      exact tot_congr fun i _ => by rw [Nat.zero_add]
    · have hs := hp.sum
      rw [hlen] at hs
      have e1 : tot (fun i => Wg gain i (p.getD i 0)) gain.length = l.getD (2 ^ gain.length - 1) 0 := by
        rw [hs]; exact tot_congr fun i _ => by rw [Nat.zero_add]
      obtain ⟨v, hv⟩ := AsgS.make (W := Wg gain) (l := (List.range gain.length).map fun i => p.getD (σ i) 0) (S := 2 ^ gain.length - 1) (r := 0) hF5 (by
        rw [List.nodup_iff_pairwise_ne, List.pairwise_map]
        refine List.Pairwise.imp_of_mem (fun {i j} hi hj hne e => ?_) (List.nodup_iff_pairwise_ne.1 List.nodup_range)
        have hi := List.mem_range.1 hi
        have hj := List.mem_range.1 hj
        exact hne (hI.inj i j hi hj (hinj _ _ (hI.lt i hi) (hI.lt j hj) e))) (fun k hk => by
        obtain ⟨i, hi, rfl⟩ := List.mem_map.1 hk
        have hi := List.mem_range.1 hi
        have := hlt _ (hI.lt i hi)
        have h9 : p.getD (σ i) 0 < 9 := Nat.lt_of_lt_of_le this (by omega)
        exact ⟨h9, t5 ⟨_, h9⟩ this⟩) (by simp [t4])
      have hm := hTF.most _ _ hv
      have hs2 := hv.sum
      rw [List.length_map, List.length_range] at hs2
      have e2 : v = tot (fun i => Wg gain i (p.getD (σ i) 0)) gain.length := by
        rw [hs2]
        exact tot_congr fun i hi => by
          rw [Nat.zero_add]; simp [List.getD_eq_getElem?_getD, hi]
      rw [← e2, e1]
      exact hm
end
end Go.Proofs.Ytlpelkfcmeapiaa
