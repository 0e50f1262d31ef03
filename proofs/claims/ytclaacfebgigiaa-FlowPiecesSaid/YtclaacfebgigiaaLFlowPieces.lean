/- FlowPieces: the law's function answers true. -/
import Derived.Test.YtclaacfebgigiaaPpaths0
import Derived.Test.YtclaacfebgigiaaPref
import Derived.Test.YtclaacfebgigiaaKFlowPieces
namespace Go.Proofs.Ytclaacfebgigiaa
open Go Go.Proofs.Ytclaacfebgigiaa.Sx
set_option linter.unusedVariables false
set_option linter.unusedSimpArgs false
theorem split_test0 : (weirkeep_weir_F.bind fun r2 => (flow_Split_F r2 ([3, 2, 2, 1, 3] : List Int)).bind fun (r : List Piece × List Piece × Int) => some (decide (r.2.2 = 0 ∧ 1 ≤ r.1.length ∧ r.1.length ≤ 5))) = some true := by kernel_rfl
theorem split_test : ∃ w l m, weirkeep_weir_F = some w ∧ flow_Split_F w ([3, 2, 2, 1, 3] : List Int) = some (l, m, 0) ∧ 1 ≤ l.length ∧ l.length ≤ 5 := by
  have h := split_test0
  cases hw : weirkeep_weir_F with
  | none => rw [hw] at h; cases h
  | some w =>
    rw [hw, bind_some'] at h
    cases hs : flow_Split_F w ([3, 2, 2, 1, 3] : List Int) with
    | none => rw [hs] at h; cases h
    | some r =>
      obtain ⟨l, m, e⟩ := r
      rw [hs, bind_some'] at h
      have := of_decide_eq_true (Option.some.inj h)
      obtain ⟨h1, h2, h3⟩ := this
      dsimp only at h1 h2 h3
      subst h1
      exact ⟨w, l, m, rfl, hs, h2, h3⟩
theorem take_amt {ps : List Piece} {j : Nat} (hj : j < ps.length) (k : Nat) : amtL (ps.take (j + 1)) k = amtL (ps.take j) k + (ps.getD j El.d).amount * inA (ps.getD j El.d).arcs k := by
  rw [List.take_succ_eq_append_getElem hj, amtL_snoc]
  simp [List.getD_eq_getElem?_getD, hj]
theorem take_le {ps : List Piece} (h : ∀ p, p ∈ ps → 1 ≤ p.amount) (j k : Nat) : 0 ≤ amtL (ps.take j) k ∧ amtL (ps.take j) k ≤ amtL ps k := by
  have a := (amtL_ge (ps := ps.take j) (fun p hp => h p (List.mem_of_mem_take hp)) k).1
  have b := (amtL_ge (ps := ps.drop j) (fun p hp => h p (List.mem_of_mem_drop hp)) k).1
  have c := amtL_app (ps.take j) (ps.drop j) k
  rw [List.take_append_drop] at c
  omega
theorem pieces_sum {n : Net} (hn : OkNet n) {ways ps : List Piece} (h1 : ∀ j, j < ps.length → j < ways.length → PieceP n.as (ps.getD j El.d) n.s n.t) (h2 : ∀ j, j < ps.length → ways.length ≤ j → ∃ b, PieceP n.as (ps.getD j El.d) b b) (hle : ∀ k, k < n.as.length → amtL ps k ≤ 10000) :
    ∃ g v, weirkeep_FlowPieces_c1_F ps n ways = some (g, v, true) ∧ g.length = n.as.length ∧ (∀ k, k < n.as.length → g.getD k 0 = amtL ps k) ∧ (∀ z, z ≠ n.s → z ≠ n.t → netAt n.as g z = 0) ∧ netAt n.as g n.s = v := by
  have hm := hn.g.len
  dsimp only at hm
  have hall : ∀ j, j < ps.length → ∃ a b, PieceP n.as (ps.getD j El.d) a b ∧ ((a = n.s ∧ b = n.t ∧ j < ways.length) ∨ (a = b ∧ ways.length ≤ j)) := fun j hj => by
    by_cases c : j < ways.length
    · exact ⟨_, _, h1 j hj c, .inl ⟨rfl, rfl, c⟩⟩
    · obtain ⟨b, hb⟩ := h2 j hj (by omega)
      exact ⟨b, b, hb, .inr ⟨rfl, by omega⟩⟩
  have hpos : ∀ p, p ∈ ps → 1 ≤ p.amount := fun p hp => by
    obtain ⟨j, hj, e⟩ := getD_of_mem (d := El.d) hp
    obtain ⟨a, b, hP, _⟩ := hall j hj
    rw [← e]; exact hP.a1
  obtain ⟨⟨g, v⟩, e, g1, g2, g3, g4⟩ := forC_inv (f := weirkeep_FlowPieces_c1_B1 ps ways) (fun j (τ : List Int × Int) => τ.1.length = n.as.length ∧ (∀ k, k < n.as.length → τ.1.getD k 0 = amtL (ps.take j) k) ∧ (∀ z, z ≠ n.s → z ≠ n.t → netAt n.as τ.1 z = 0) ∧ netAt n.as τ.1 n.s = τ.2) (n := ps.length) (k := 0) (s := (List.replicate n.as.length 0, 0)) ⟨by simp, fun k hk => by
      dsimp only
      rw [getD_replicate', if_pos hk]; rfl, fun z _ _ => tot_zero fun k hk => by
      unfold term
      dsimp only
      rw [getD_replicate', if_pos hk]
      split <;> split <;> rfl, tot_zero fun k hk => by
      unfold term
      dsimp only
      rw [getD_replicate', if_pos hk]
      split <;> split <;> rfl⟩ fun j τ _ hj ⟨i1, i2, i3, i4⟩ => by
    obtain ⟨l, x⟩ := τ
    dsimp only at i1 i2 i3 i4
    have hj' : j < ps.length := by omega
    obtain ⟨a, b, hP, hab⟩ := hall j hj'
    have ta := fun k => take_amt hj' k
    have tl := fun k => take_le hpos (j + 1) k
    have t0 := fun k => take_le hpos j k
    have ha := hP.a1
    have arcB : ∀ i, i < (ps.getD j El.d).arcs.length → 0 ≤ l.getD ((ps.getD j El.d).arcs.getD i 0).toNat 0 ∧ l.getD ((ps.getD j El.d).arcs.getD i 0).toNat 0 + (ps.getD j El.d).amount ≤ 10000 := fun i hi => by
      have hr := hP.ch.rg i hi
      have hk : ((ps.getD j El.d).arcs.getD i 0).toNat < n.as.length := by omega
      have q1 := ta ((ps.getD j El.d).arcs.getD i 0).toNat
      rw [inA_of hi hr.1, Int.mul_one] at q1
      have q2 := tl ((ps.getD j El.d).arcs.getD i 0).toNat
      have q3 := t0 ((ps.getD j El.d).arcs.getD i 0).toNat
      have q4 := hle _ hk
      rw [i2 _ hk]
      omega
    have am : (ps.getD j El.d).amount ≤ 10000 := by have := arcB 0 (by have := hP.len; omega); omega
    unfold weirkeep_FlowPieces_c1_B1
    dsimp only
    obtain ⟨l', e, k1, k2, k3⟩ := chain_subC (f := weirkeep_FlowPieces_c1_B2 ps j) (c := -(ps.getD j El.d).amount) i1 hP.ch fun i m hi hml hmi => by
      have hr := hP.ch.rg i hi
      have hb := arcB i hi
      unfold weirkeep_FlowPieces_c1_B2
      rw [if_neg (by omega), if_neg (by omega), ck_some (by omega), ck_some (inI_small (by omega) (by omega)), Int.sub_neg]
    have net2 : ∀ z, netAt n.as l' z = netAt n.as l z + (ps.getD j El.d).amount * ((if a = z then 1 else 0) - (if b = z then 1 else 0)) := fun z => by rw [k3 z, Int.neg_mul]; omega
    have val : ∀ k, k < n.as.length → l'.getD k 0 = amtL (ps.take (j + 1)) k := fun k hk => by
      rw [k2 k hk, ta k, i2 k hk, Int.neg_mul]; omega
    have bnd : -600000 ≤ x ∧ x ≤ 600000 := by
      have := tot_abs (f := term n.as l n.s) (M := 10000) (n := n.as.length) fun i hi => by
        have q1 := t0 i
        have q2 := hle i hi
        rw [← i2 i hi] at q1
        unfold term
        split <;> split <;> omega
      unfold netAt at i4
      omega
    rw [e, bind_some']
    dsimp only
    rcases hab with ⟨rfl, rfl, hlt⟩ | ⟨rfl, hge⟩
    · rw [if_pos (by omega), ck_some (inI_small (by omega) (by omega))]
      refine ⟨_, rfl, k1, val, fun z z1 z2 => ?_, ?_⟩
      · dsimp only
        rw [net2, i3 z z1 z2, if_neg (fun e => z1 e.symm), if_neg (fun e => z2 e.symm)]; omega
      · dsimp only
        rw [net2, i4, if_pos rfl, if_neg (fun e => hn.ne e.symm)]; omega
    · rw [if_neg (by omega)]
      refine ⟨_, rfl, k1, val, fun z z1 z2 => ?_, ?_⟩
      · dsimp only
        rw [net2, i3 z z1 z2, Int.sub_self, Int.mul_zero]; rfl
      · dsimp only
        rw [net2, i4, Int.sub_self, Int.mul_zero, Int.add_zero]
  rw [Nat.zero_add, List.take_of_length_le (Nat.le_refl _)] at g2
  refine ⟨g, v, ?_, g1, g2, g3, g4⟩
  unfold weirkeep_FlowPieces_c1_F
  rw [ck_some (by omega), Int.toNat_natCast, e, bind_some']
theorem FlowPieces_true (n : Net) (f : List Int) (many : Int) : weirkeep_FlowPieces_F n f many = some true := by
  unfold weirkeep_FlowPieces_F
  obtain ⟨wt, lt, mt, ew, et, hlt, hlt2⟩ := split_test
  rw [ew, bind_some', et, bind_some']
  dsimp only
  rw [if_neg (by decide), if_neg (by omega), if_neg (by omega)]
  by_cases h : Flow n f ∧ 0 ≤ netAt n.as f n.s
  · obtain ⟨hf, hv⟩ := h
    have hn := hf.net
    have hm := hn.g.len
    dsimp only at hm
    obtain ⟨ways, rounds, e, hS⟩ := split_ok hf hv
    have cw := hS.cw; have cr := hS.cr
    rw [e, bind_some']
    dsimp only
    rw [if_neg (by decide), concatP_eq (by omega) (by omega), bind_some']
    have hlen : (ways ++ rounds).length = ways.length + rounds.length := List.length_append
    obtain ⟨r, er, r0, r1⟩ := rest_ok (n := many) (m := (((ways ++ rounds).length + 1 : Nat) : Int)) (by omega) (by omega)
    rw [ck_some (inI_small (by omega) (by omega)), er, bind_some', ck_some r0, ck_some (by omega)]
    have hget : ∀ j, j < ways.length + rounds.length → (j < ways.length → PieceP n.as ((ways ++ rounds).getD j El.d) n.s n.t) ∧ (ways.length ≤ j → ∃ b, PieceP n.as ((ways ++ rounds).getD j El.d) b b) := fun j hj => by
      constructor
      · intro hlt
        rw [List.getD_eq_getElem?_getD, List.getElem?_append_left hlt, ← List.getD_eq_getElem?_getD]
        exact hS.ws _ (mem_getD hlt)
      · intro hge
        rw [List.getD_eq_getElem?_getD, List.getElem?_append_right hge, ← List.getD_eq_getElem?_getD]
        exact hS.rs _ (mem_getD (by omega))
    have hsum : ∀ k, k < n.as.length → amtL (ways ++ rounds) k = f.getD k 0 := fun k hk => by rw [amtL_app, hS.sum k hk]
    have hcap : ∀ k, k < n.as.length → f.getD k 0 ≤ 10000 := fun k hk => by
      have := hf.r k (by rw [hf.len]; exact hk)
      have := (hn.arc hk).c1
      omega
    have hpos : ∀ p, p ∈ ways ++ rounds → 1 ≤ p.amount := fun p hp => by
      rcases List.mem_append.1 hp with hp | hp
      · exact (hS.ws p hp).a1
      · obtain ⟨b, hb⟩ := hS.rs p hp
        exact hb.a1
    have hsub : subl (ways ++ rounds) (0 + 0) r.toNat = (ways ++ rounds).take r.toNat := by unfold subl; simp
    have tlen : ((ways ++ rounds).take r.toNat).length ≤ ways.length + rounds.length := by rw [List.length_take]; omega
    have tget : ∀ j, j < ((ways ++ rounds).take r.toNat).length → ((ways ++ rounds).take r.toNat).getD j El.d = (ways ++ rounds).getD j El.d := fun j hj => by
      rw [List.length_take] at hj
      rw [List.getD_eq_getElem?_getD, List.getElem?_take, if_pos (by omega), ← List.getD_eq_getElem?_getD]
    obtain ⟨g, v, eg, g1, g2, g3, g4⟩ := pieces_sum hn (ways := ways) (ps := (ways ++ rounds).take r.toNat) (fun j hj hlt => by rw [tget j hj]; exact (hget j (by omega)).1 hlt) (fun j hj hge => by rw [tget j hj]; exact (hget j (by omega)).2 hge) (fun k hk => by
      have := take_le hpos r.toNat k
      have := hsum k hk
      have := hcap k hk
      omega)
    obtain ⟨g', v', eg', g1', g2', _, _⟩ := pieces_sum hn (ways := ways) (ps := ways ++ rounds) (fun j hj hlt => (hget j (by omega)).1 hlt) (fun j hj hge => (hget j (by omega)).2 hge) (fun k hk => by
      have := hsum k hk
      have := hcap k hk
      omega)
    have hfg : Flow n g := ⟨hn, g1, fun k hk => by
      have hk' : k < n.as.length := by omega
      have b1 := take_le hpos r.toNat k
      have b2 := hf.r k (by rw [hf.len]; exact hk')
      rw [hsum k hk'] at b1
      rw [g2 k hk']
      omega, fun x hx h1 h2 => g3 x h1 h2⟩
    have hg' : g' = f := eq_of_getD (d := 0) (by rw [g1', hf.len]) fun k hk => by rw [g2' k (by omega), hsum k (by omega)]
    rw [hsub, eg, bind_some']
    dsimp only
    rw [eg', bind_some']
    dsimp only
    rw [if_neg (by decide), if_neg (by decide), value_ok hfg, bind_some']
    dsimp only
    rw [if_pos rfl, if_pos g4, equalInts_eq, bind_some']
    exact congrArg some (decide_eq_true hg')
  · obtain ⟨e, he, hh⟩ := split_bad h
    rw [hh, bind_some']
    dsimp only
    rw [if_pos he, ck_some (inI_small (by decide) (by decide))]
    rfl
end Go.Proofs.Ytclaacfebgigiaa
