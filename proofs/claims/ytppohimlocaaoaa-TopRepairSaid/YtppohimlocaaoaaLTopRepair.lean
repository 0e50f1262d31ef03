/- TopRepair: the law's function answers true. -/
import Derived.Test.YtppohimlocaaoaaPdrop
import Derived.Test.YtppohimlocaaoaaKTopRepair
namespace Go.Proofs.Ytppohimlocaaoaa
open Go Go.Proofs.Ytppohimlocaaoaa.Sx
set_option linter.unusedVariables false
set_option linter.unusedSimpArgs false
theorem worksT_ok : weirtop_works_F = some true := by kernel_rfl
def takeN (n : Net) (j : Nat) : Net := ⟨n.n, n.s, n.t, n.as.take j⟩
def dropN (n : Net) (j : Nat) : Net := ⟨n.n, n.s, n.t, n.as.drop j⟩
theorem take_addN {n : Net} {j : Nat} (h : j < n.as.length) : addN (takeN n j) (n.as.getD j El.d) = takeN n (j + 1) := by
  unfold addN takeN
  dsimp only
  rw [take_succ_getD h]
theorem take_delN {n : Net} {j : Nat} (h : j < n.as.length) : delN (takeN n (j + 1)) j = takeN n j := by
  unfold delN takeN
  dsimp only
  have hl : (n.as.take j).length = j := by simp; omega
  have e := del_last (n.as.take j) (n.as.getD j El.d)
  rw [hl] at e
  rw [take_succ_getD h, e]
theorem drop_delN (n : Net) (j : Nat) : delN (dropN n j) 0 = dropN n (j + 1) := by
  unfold delN dropN del
  simp [List.drop_drop]
theorem sub_okN {n : Net} (hn : OkNet n) {L : List Arc} (hL : ∀ a, a ∈ L → a ∈ n.as) (hl : L.length ≤ n.as.length) : OkNet ⟨n.n, n.s, n.t, L⟩ :=
  ⟨⟨hn.g.n0, hn.g.n1, by have := hn.g.len; dsimp only at this ⊢; omega, fun a ha => hn.g.arc a (hL a ha)⟩, hn.s0, hn.s1, hn.t0, hn.t1, hn.ne⟩
theorem take_okN {n : Net} (hn : OkNet n) (j : Nat) : OkNet (takeN n j) := sub_okN hn (fun a ha => List.mem_of_mem_take ha) (by simp; omega)
theorem drop_okN {n : Net} (hn : OkNet n) (j : Nat) : OkNet (dropN n j) := sub_okN hn (fun a ha => List.mem_of_mem_drop ha) (by simp)
theorem max_none {n : Net} (hn : OkNet n) (h : n.as.length = 0) {w : Int} (hw : MaxV n w) : w = 0 := by
  have h1 := hw.nonneg hn
  have h2 := hw.le_total hn
  rw [h] at h2
  omega
abbrev TR : Type := Int × Int × Int × List Arc × List Int × Int
structure InvT (m : Net) (σ : TR) : Prop where
  net : (⟨σ.1, σ.2.1, σ.2.2.1, σ.2.2.2.1⟩ : Net) = m
  flow : Flow m σ.2.2.2.2.1
  val : netAt m.as σ.2.2.2.2.1 m.s = σ.2.2.2.2.2
  max : MaxV m σ.2.2.2.2.2
theorem invT0 {n : Net} (hn : OkNet n) : InvT (takeN n 0) (n.n, n.s, n.t, [], [], 0) := by
  refine ⟨by simp [takeN], ⟨take_okN hn 0, by simp [takeN], fun k hk => absurd hk (by simp), fun x _ _ _ => by simp [netAt, takeN, tot]⟩, by simp [netAt, takeN, tot], ⟨[], ⟨take_okN hn 0, by simp [takeN], fun k hk => absurd hk (by simp), fun x _ _ _ => by simp [netAt, takeN, tot]⟩, by simp [netAt, takeN, tot]⟩, fun x => if x = n.s then 1 else 0, ⟨if_pos rfl, if_neg (fun e => hn.ne e.symm), fun x => ?_⟩, by simp [capS, takeN, tot]⟩
  split
  · exact .inr rfl
  · exact .inl rfl
theorem top_add {n : Net} (hn : OkNet n) {j : Nat} (hj : j < n.as.length) {σ : TR} (h : InvT (takeN n j) σ) : ∃ σ', weirtop_TopRepair_B1 n j σ = some (.go σ') ∧ InvT (takeN n (j + 1)) σ' := by
  obtain ⟨a, b, c, L, f, w⟩ := σ
  have hN : (⟨a, b, c, L⟩ : Net) = takeN n j := h.net
  have hf : Flow (takeN n j) f := h.flow
  have hv : netAt (takeN n j).as f (takeN n j).s = w := h.val
  have hM : MaxV (takeN n j) w := h.max
  obtain ⟨g, w', e, h1, h2, h3⟩ := repair_add hf (by rw [hv]; exact hM) (a := n.as.getD j El.d) (by rw [take_addN hj]; exact take_okN hn _)
  rw [take_addN hj] at e h1 h2 h3
  have hl : (takeN n (j + 1)).as.length = j + 1 := by simp [takeN]; omega
  have hb := del_bounds (take_okN hn (j + 1)) (k := j) (by omega) h3 (w := w) (by rw [take_delN hj]; exact hM)
  have hg : (takeN n (j + 1)).as.getD j El.d = n.as.getD j El.d := by
    simp only [takeN, List.getD_eq_getElem?_getD, List.getElem?_take]
    rw [if_pos (by omega)]
  rw [hg] at hb
  have hG := hn.arc hj
  have g0 := hG.c0; have g1 := hG.c1
  have vb := hf.value_le (takeN n j).s
  unfold weirtop_TopRepair_B1
  dsimp only
  rw [hN, e, bind_some']
  dsimp only
  rw [if_neg (by decide), if_neg (by omega), ck_some (inI_small (by omega) (by omega)), if_neg (by omega)]
  exact ⟨_, rfl, rfl, h1, h2, h3⟩
theorem top_drop {n : Net} (hn : OkNet n) {j : Nat} (hj : j < n.as.length) {σ : TR} (h : InvT (dropN n j) σ) :
    (∃ σ', weirtop_TopRepair_B2 n j σ = some (.go σ') ∧ InvT (dropN n (j + 1)) σ') ∨ ∃ σ', weirtop_TopRepair_B2 n j σ = some (.brk σ') ∧ σ'.2.2.2.2.2 = 0 := by
  obtain ⟨a, b, c, L, f, w⟩ := σ
  have hN : (⟨a, b, c, L⟩ : Net) = dropN n j := h.net
  have hL : L = n.as.drop j := congrArg Net.as hN
  have hf : Flow (dropN n j) f := h.flow
  have hv : netAt (dropN n j).as f (dropN n j).s = w := h.val
  have hM : MaxV (dropN n j) w := h.max
  have hl : (dropN n j).as.length = n.as.length - j := by simp [dropN]
  have h0 : 0 < (dropN n j).as.length := by omega
  obtain ⟨g, w', e, h1, h2, h3, h4, h5⟩ := repair_drop hf (by rw [hv]; exact hM) (k := 0) h0
  rw [drop_delN] at e h1 h2 h3
  have e' : repair_Drop_F (dropN n j) f 0 = some (dropN n (j + 1), g, w', 0) := e
  have hG := (drop_okN hn j).arc h0
  have g0 := hG.c0; have g1 := hG.c1
  have vb := hf.value_le (dropN n j).s
  rw [hv] at h4 h5 vb
  have hLd : L.getD 0 El.d = (dropN n j).as.getD 0 El.d := by rw [hL]; rfl
  unfold weirtop_TopRepair_B2
  dsimp only
  rw [ck_some (by rw [hL]; simp; omega), hN, e', bind_some', hLd]
  dsimp only
  rw [if_neg (by decide), if_neg (by omega), ck_some (inI_small (by omega) (by omega)), if_neg (by omega)]
  by_cases z : (((dropN n (j + 1)).as.length : Nat) : Int) = 0
  · rw [if_pos z]
    exact .inr ⟨_, rfl, max_none (drop_okN hn _) (by omega) h3⟩
  · rw [if_neg z]
    exact .inl ⟨_, rfl, rfl, h1, h2, h3⟩
theorem TopRepair_true (n : Net) : weirtop_TopRepair_F n = some true := by
  unfold weirtop_TopRepair_F
  rw [worksT_ok, bind_some', if_neg (by decide)]
  by_cases hn : OkNet n
  · obtain ⟨f, v, e, hf, hv, hM⟩ := of_max hn
    rw [e, bind_some']
    dsimp only
    rw [if_neg (by decide)]
    obtain ⟨q, e1, ⟨a, b, c, L, f1, w⟩, rfl, h1⟩ := forC_or (f := weirtop_TopRepair_B1 n) (fun j σ => InvT (takeN n j) σ) (fun q => ∃ σ, q = .go σ ∧ InvT (takeN n n.as.length) σ) (n := n.as.length) (k := 0) (s := (n.n, n.s, n.t, [], [], 0)) (invT0 hn) (fun j σ _ hj h => .inl (top_add hn (by omega) h)) (fun σ h => ⟨σ, rfl, by rw [Nat.zero_add] at h; exact h⟩)
    have et : takeN n n.as.length = n := by unfold takeN; rw [List.take_length]
    have ed : dropN n 0 = n := by unfold dropN; rw [List.drop_zero]
    rw [et] at h1
    have hw : w = v := h1.max.uniq hM
    have hL : L = n.as := congrArg Net.as h1.net
    obtain ⟨q, e2, ⟨a', b', c', L', f', w'⟩, rfl, h2⟩ := forC_or (f := weirtop_TopRepair_B2 n) (fun j σ => InvT (dropN n j) σ) (fun q => ∃ σ : TR, q = .go σ ∧ σ.2.2.2.2.2 = 0) (n := n.as.length) (k := 0) (s := (a, b, c, L, f1, w)) (by rw [ed]; exact h1) (fun j σ _ hj h => by
      rcases top_drop hn (show j < n.as.length by omega) h with ⟨σ', p1, p2⟩ | ⟨σ', p1, p2⟩
      · exact .inl ⟨σ', p1, p2⟩
      · exact .inr (.inl ⟨σ', p1, σ', rfl, p2⟩)) (fun σ h => ⟨σ, rfl, max_none (drop_okN hn _) (by simp [dropN]) h.max⟩)
    have h2' : w' = 0 := h2
    rw [e1, bind_some']
    dsimp only
    rw [if_neg (fun z => z hw), equalArcs_eq, bind_some', decide_eq_true hL, if_neg (by decide), e2, bind_some']
    dsimp only
    exact congrArg some (decide_eq_true h2')
  · obtain ⟨e, he, _, h⟩ := of_bad hn
    rw [h, bind_some']
    dsimp only
    rw [if_pos he]
    rfl
end Go.Proofs.Ytppohimlocaaoaa
