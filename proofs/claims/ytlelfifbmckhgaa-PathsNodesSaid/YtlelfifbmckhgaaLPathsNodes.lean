/- PathsNodes: the law's function answers true. -/
import Derived.Test.YtlelfifbmckhgaaPnodes2
import Derived.Test.YtlelfifbmckhgaaKPathsNodes
namespace Go.Proofs.Ytlelfifbmckhgaa
open Go Go.Proofs.Ytlelfifbmckhgaa.Sx
set_option linter.unusedVariables false
set_option linter.unusedSimpArgs false
theorem nodes_test0 : ((weirkeep_arcs_F ([(⟨0, 1, 0⟩ : T3), (⟨0, 2, 0⟩ : T3), (⟨1, 3, 0⟩ : T3), (⟨2, 3, 0⟩ : T3)] : List T3)).bind fun r3 => (paths_Block_F (⟨4, 0, 3, r3⟩ : Net)).bind fun (r : List Int × Int) => some (decide (r.2 = 0 ∧ r.1 = [1, 2]))) = some true := by kernel_rfl
theorem nodes_test : ∃ r3, weirkeep_arcs_F ([(⟨0, 1, 0⟩ : T3), (⟨0, 2, 0⟩ : T3), (⟨1, 3, 0⟩ : T3), (⟨2, 3, 0⟩ : T3)] : List T3) = some r3 ∧ paths_Block_F (⟨4, 0, 3, r3⟩ : Net) = some ([1, 2], 0) := by
  have h := nodes_test0
  cases hw : weirkeep_arcs_F ([(⟨0, 1, 0⟩ : T3), (⟨0, 2, 0⟩ : T3), (⟨1, 3, 0⟩ : T3), (⟨2, 3, 0⟩ : T3)] : List T3) with
  | none => rw [hw] at h; cases h
  | some w =>
    rw [hw, bind_some'] at h
    cases hs : paths_Block_F (⟨4, 0, 3, w⟩ : Net) with
    | none => rw [hs] at h; cases h
    | some r =>
      obtain ⟨l, e⟩ := r
      rw [hs, bind_some'] at h
      obtain ⟨h1, h2⟩ := of_decide_eq_true (Option.some.inj h)
      dsimp only at h1 h2
      subst h1 h2
      exact ⟨w, rfl, hs⟩
theorem kep_sum (n : Net) (q : Nat → Nat → Int) : ∀ j, tot (fun k => if kepP n k then q (kepL n k).length k else 0) j = tot (fun i => q i ((kepL n j).getD i 0).toNat) (kepL n j).length
  | 0 => rfl
  | j + 1 => by
    have ih := kep_sum n q j
    rw [tot, ih]
    rw [kepL]
    by_cases c : kepP n j
    · rw [if_pos c, if_pos c, List.length_append, List.length_cons, List.length_nil, Nat.zero_add, tot]
      congr 1
      · exact tot_congr fun i hi => by rw [List.getD_eq_getElem?_getD, List.getD_eq_getElem?_getD, List.getElem?_append_left hi]
      · rw [List.getD_eq_getElem?_getD, List.getElem?_append_right (Nat.le_refl _), Nat.sub_self]
        rfl
    · rw [if_neg c, if_neg c, Int.add_zero]
theorem innL_at {n : Net} : ∀ {j i : Nat}, i < (innL n j).length → ∃ k : Nat, k < j ∧ innP n k ∧ (innL n j).getD i El.d = ⟨2 * (k : Int), 2 * (k : Int) + 1, 1⟩ ∧ i = (innL n k).length
  | 0, i, h => by simp [innL] at h
  | j + 1, i, h => by
    rw [innL] at h ⊢
    by_cases c : innP n j
    · rw [if_pos c] at h ⊢
      by_cases d : i < (innL n j).length
      · obtain ⟨k, k1, k2, k3, k4⟩ := innL_at d
        refine ⟨k, by omega, k2, ?_, k4⟩
        rw [List.getD_eq_getElem?_getD, List.getElem?_append_left d, ← List.getD_eq_getElem?_getD]
        exact k3
      · simp only [List.length_append, List.length_cons, List.length_nil] at h
        refine ⟨j, by omega, c, ?_, by omega⟩
        rw [List.getD_eq_getElem?_getD, List.getElem?_append_right (by omega), show i - (innL n j).length = 0 by omega]
        rfl
    · rw [if_neg c] at h ⊢
      obtain ⟨k, k1, k2, k3, k4⟩ := innL_at h
      exact ⟨k, by omega, k2, k3, k4⟩
theorem innL_pos {n : Net} : ∀ {j k : Nat}, k < j → innP n k → (innL n k).length < (innL n j).length
  | 0, k, h, _ => absurd h (by omega)
  | j + 1, k, h, hp => by
    rw [innL]
    by_cases e : k = j
    · subst e
      rw [if_pos hp]; simp
    · have := innL_pos (j := j) (k := k) (by omega) hp
      split
      · simp only [List.length_append, List.length_cons, List.length_nil]; omega
      · exact this
theorem kepL_pos {n : Net} : ∀ {j k : Nat}, k < j → kepP n k → (kepL n k).length < (kepL n j).length ∧ (kepL n j).getD (kepL n k).length 0 = (k : Int)
  | 0, k, h, _ => absurd h (by omega)
  | j + 1, k, h, hp => by
    rw [kepL]
    by_cases e : k = j
    · subst e
      rw [if_pos hp]
      refine ⟨by simp, ?_⟩
      rw [List.getD_eq_getElem?_getD, List.getElem?_append_right (Nat.le_refl _), Nat.sub_self]
      rfl
    · obtain ⟨h1, h2⟩ := kepL_pos (j := j) (k := k) (by omega) hp
      split
      · refine ⟨by simp only [List.length_append, List.length_cons, List.length_nil]; omega, ?_⟩
        rw [List.getD_eq_getElem?_getD, List.getElem?_append_left h1, ← List.getD_eq_getElem?_getD]
        exact h2
      · exact ⟨h1, h2⟩
/-- a flow through the nodes taken in two is a flow of arcs that take one -/
theorem nodes_flow {n : Net} (h : SplG n) {f : List Int} (hf : Flow (splN n) f) : ∃ g, Flow (unitN n) g ∧ netAt (unitN n).as g n.s = netAt (splN n).as f (splN n).s := by
  have hn := h.net
  have n6 := h.n6
  have s0 := hn.s0; have s1 := hn.s1; have t0 := hn.t0; have t1 := hn.t1; have hst := hn.ne
  have hfl : f.length = (splA n).length := hf.len
  have hal := splA_len n
  have ulen : (unitN n).as.length = n.as.length := by unfold unitN; simp
  generalize hI : (innL n n.n.toNat).length = I at *
  -- the arcs
  have ainn : ∀ i, i < I → ∃ k : Nat, k < n.n.toNat ∧ innP n k ∧ (splA n).getD i El.d = ⟨2 * (k : Int), 2 * (k : Int) + 1, 1⟩ ∧ i = (innL n k).length := fun i hi => by
    rw [splA_inn (by omega)]
    exact innL_at (by omega)
  have akep : ∀ i, i < (kepL n n.as.length).length → (splA n).getD (I + i) El.d = kepA n ((kepL n n.as.length).getD i 0) := fun i hi => by
    rw [← hI]; exact splA_kep hi
  have key : ∀ x : Int, netAt (splA n) f (2 * x) + netAt (splA n) f (2 * x + 1) = tot (fun k => if kepP n k then (if (n.as.getD k El.d).f = x then f.getD (I + (kepL n k).length) 0 else 0) - (if (n.as.getD k El.d).t = x then f.getD (I + (kepL n k).length) 0 else 0) else 0) n.as.length := fun x => by
    rw [kep_sum n (fun i k => (if (n.as.getD k El.d).f = x then f.getD (I + i) 0 else 0) - (if (n.as.getD k El.d).t = x then f.getD (I + i) 0 else 0)) n.as.length]
    unfold netAt
    rw [← tot_add, hal, tot_split]
    rw [tot_zero fun i hi => by
      obtain ⟨k, _, _, e, _⟩ := ainn i hi
      unfold term
      rw [e]
      dsimp only
      repeat' split
      all_goals omega, Int.zero_add]
    exact tot_congr fun i hi => by
      unfold term
      rw [akep i hi]
      unfold kepA
      dsimp only
      repeat' split
      all_goals omega
  have frg : ∀ i, i < (splA n).length → 0 ≤ f.getD i 0 ∧ f.getD i 0 ≤ ((splA n).getD i El.d).c := fun i hi => hf.r i (by rw [hfl]; exact hi)
  have bal : ∀ z : Int, 0 ≤ z → z < 12 → z ≠ 2 * n.s + 1 → z ≠ 2 * n.t → netAt (splA n) f z = 0 := fun z z0 z1 h1 h2 => by
    have := hf.keep z.toNat (by omega) (by show ((z.toNat : Nat) : Int) ≠ 2 * n.s + 1; omega) (by show ((z.toNat : Nat) : Int) ≠ 2 * n.t; omega)
    rw [show ((z.toNat : Nat) : Int) = z by omega] at this
    exact this
  -- no kept arc has more than one
  have one : ∀ k, k < n.as.length → kepP n k → 0 ≤ f.getD (I + (kepL n k).length) 0 ∧ f.getD (I + (kepL n k).length) 0 ≤ 1 := fun k hk hp => by
    obtain ⟨p1, p2⟩ := kepL_pos hk hp
    have ea := akep (kepL n k).length p1
    rw [p2] at ea
    unfold kepA at ea
    rw [Int.toNat_natCast] at ea
    have hG := hn.arc hk
    have f0 := hG.f0; have f1 := hG.f1; have g0 := hG.t0; have g1 := hG.t1
    obtain ⟨q1, q2, q3⟩ := hp
    have hi1 : I + (kepL n k).length < (splA n).length := by omega
    have r1 := frg _ hi1
    refine ⟨r1.1, ?_⟩
    by_cases c : (n.as.getD k El.d).t = n.t
    · -- out of an inner node
      have hF : innP n (n.as.getD k El.d).f.toNat := ⟨by have : (n.as.getD k El.d).f ≠ n.s := fun z => h.dir k hk ⟨z, c⟩; omega, by omega⟩
      have hpos := innL_pos (n := n) (j := n.n.toNat) (k := (n.as.getD k El.d).f.toNat) (by omega) hF
      have hb := bal (2 * (n.as.getD k El.d).f + 1) (by omega) (by omega) (by have := hF.1; omega) (by omega)
      have hle : tot (fun i => (if i = I + (kepL n k).length then f.getD (I + (kepL n k).length) 0 else 0) + (if i = (innL n (n.as.getD k El.d).f.toNat).length then -f.getD (innL n (n.as.getD k El.d).f.toNat).length 0 else 0)) (splA n).length ≤ netAt (splA n) f (2 * (n.as.getD k El.d).f + 1) := tot_le fun i hi => by
        have ri := frg i hi
        unfold term
        by_cases c1 : i < I
        · obtain ⟨k', e1, e2, e3, e4⟩ := ainn i c1
          rw [e3, if_neg (show ¬ i = I + (kepL n k).length by omega)]
          dsimp only
          rw [if_neg (show ¬ 2 * (k' : Int) = 2 * (n.as.getD k El.d).f + 1 by omega)]
          by_cases c2 : i = (innL n (n.as.getD k El.d).f.toNat).length
          · rw [if_pos c2, ← c2]
            split <;> omega
          · rw [if_neg c2]
            have : ¬ 2 * (k' : Int) + 1 = 2 * (n.as.getD k El.d).f + 1 := fun z => c2 (by rw [e4]; congr 2; omega)
            rw [if_neg this]; omega
        · have hne : i ≠ (innL n (n.as.getD k El.d).f.toNat).length := by omega
          rw [if_neg hne]
          have ek := akep (i - I) (by omega)
          rw [show I + (i - I) = i by omega] at ek
          rw [ek]
          unfold kepA
          dsimp only
          rw [if_neg (show ¬ 2 * (n.as.getD ((kepL n n.as.length).getD (i - I) 0).toNat El.d).t = 2 * (n.as.getD k El.d).f + 1 by omega)]
          by_cases c2 : i = I + (kepL n k).length
          · rw [if_pos c2]
            have e5 : i - I = (kepL n k).length := by omega
            rw [e5, p2, Int.toNat_natCast, if_pos rfl, c2]; omega
          · rw [if_neg c2]
            split <;> omega
      rw [hb, tot_add (fun i => if i = I + (kepL n k).length then f.getD (I + (kepL n k).length) 0 else 0) (fun i => if i = (innL n (n.as.getD k El.d).f.toNat).length then -f.getD (innL n (n.as.getD k El.d).f.toNat).length 0 else 0), tot_single hi1 (fun i _ hne => if_neg hne), tot_single (show (innL n (n.as.getD k El.d).f.toNat).length < (splA n).length by omega) (fun i _ hne => if_neg hne), if_pos rfl, if_pos rfl] at hle
      have r2 := frg (innL n (n.as.getD k El.d).f.toNat).length (by omega)
      obtain ⟨k', _, _, e3, _⟩ := ainn (innL n (n.as.getD k El.d).f.toNat).length (by omega)
      rw [e3] at r2
      dsimp only at r2
      omega
    · -- into an inner node
      have hT : innP n (n.as.getD k El.d).t.toNat := ⟨by omega, by omega⟩
      have hpos := innL_pos (n := n) (j := n.n.toNat) (k := (n.as.getD k El.d).t.toNat) (by omega) hT
      have hb := bal (2 * (n.as.getD k El.d).t) (by omega) (by omega) (by omega) (by omega)
      have hle : netAt (splA n) f (2 * (n.as.getD k El.d).t) ≤ tot (fun i => (if i = I + (kepL n k).length then -f.getD (I + (kepL n k).length) 0 else 0) + (if i = (innL n (n.as.getD k El.d).t.toNat).length then f.getD (innL n (n.as.getD k El.d).t.toNat).length 0 else 0)) (splA n).length := tot_le fun i hi => by
        have ri := frg i hi
        unfold term
        by_cases c1 : i < I
        · obtain ⟨k', e1, e2, e3, e4⟩ := ainn i c1
          rw [e3, if_neg (show ¬ i = I + (kepL n k).length by omega)]
          dsimp only
          rw [if_neg (show ¬ 2 * (k' : Int) + 1 = 2 * (n.as.getD k El.d).t by omega)]
          by_cases c2 : i = (innL n (n.as.getD k El.d).t.toNat).length
          · rw [if_pos c2, ← c2]
            split <;> omega
          · rw [if_neg c2]
            have : ¬ 2 * (k' : Int) = 2 * (n.as.getD k El.d).t := fun z => c2 (by rw [e4]; congr 2; omega)
            rw [if_neg this]; omega
        · have hne : i ≠ (innL n (n.as.getD k El.d).t.toNat).length := by omega
          rw [if_neg hne]
          have ek := akep (i - I) (by omega)
          rw [show I + (i - I) = i by omega] at ek
          rw [ek]
          unfold kepA
          dsimp only
          rw [if_neg (show ¬ 2 * (n.as.getD ((kepL n n.as.length).getD (i - I) 0).toNat El.d).f + 1 = 2 * (n.as.getD k El.d).t by omega)]
          by_cases c2 : i = I + (kepL n k).length
          · rw [if_pos c2]
            have e5 : i - I = (kepL n k).length := by omega
            rw [e5, p2, Int.toNat_natCast, if_pos rfl, c2]; omega
          · rw [if_neg c2]
            split <;> omega
      rw [hb, tot_add (fun i => if i = I + (kepL n k).length then -f.getD (I + (kepL n k).length) 0 else 0) (fun i => if i = (innL n (n.as.getD k El.d).t.toNat).length then f.getD (innL n (n.as.getD k El.d).t.toNat).length 0 else 0), tot_single hi1 (fun i _ hne => if_neg hne), tot_single (show (innL n (n.as.getD k El.d).t.toNat).length < (splA n).length by omega) (fun i _ hne => if_neg hne), if_pos rfl, if_pos rfl] at hle
      have r2 := frg (innL n (n.as.getD k El.d).t.toNat).length (by omega)
      obtain ⟨k', _, _, e3, _⟩ := ainn (innL n (n.as.getD k El.d).t.toNat).length (by omega)
      rw [e3] at r2
      dsimp only at r2
      omega
  have gget : ∀ k, k < n.as.length → ((List.range n.as.length).map fun k => if kepP n k then f.getD (I + (kepL n k).length) 0 else 0).getD k 0 = if kepP n k then f.getD (I + (kepL n k).length) 0 else 0 := fun k hk => by
    simp [List.getD_eq_getElem?_getD, hk]
  have gnet : ∀ x : Int, netAt (unitN n).as ((List.range n.as.length).map fun k => if kepP n k then f.getD (I + (kepL n k).length) 0 else 0) x = netAt (splA n) f (2 * x) + netAt (splA n) f (2 * x + 1) := fun x => by
    rw [key x]
    unfold netAt
    rw [ulen]
    exact tot_congr fun k hk => by
      have eu : (unitN n).as.getD k El.d = unitA (n.as.getD k El.d) := unit_getD _ hk
      unfold term
      rw [eu, gget k hk]
      unfold unitA
      dsimp only
      by_cases c : kepP n k
      · rw [if_pos c, if_pos c]
      · rw [if_neg c, if_neg c]
        split <;> split <;> rfl
  refine ⟨(List.range n.as.length).map fun k => if kepP n k then f.getD (I + (kepL n k).length) 0 else 0, ⟨ok_unit hn, by rw [ulen]; simp, fun k hk => ?_, fun x hx h1 h2 => ?_⟩, ?_⟩
  · have hk' : k < n.as.length := by simpa using hk
    have eu : (unitN n).as.getD k El.d = unitA (n.as.getD k El.d) := unit_getD _ hk'
    rw [gget k hk', eu]
    show _ ∧ _ ≤ (1 : Int)
    by_cases c : kepP n k
    · rw [if_pos c]; exact one k hk' c
    · rw [if_neg c]; omega
  · have h1' : (x : Int) ≠ n.s := h1
    have h2' : (x : Int) ≠ n.t := h2
    rw [gnet]
    by_cases c : (x : Int) < 6
    · rw [bal (2 * (x : Int)) (by omega) (by omega) (by omega) (by omega), bal (2 * (x : Int) + 1) (by omega) (by omega) (by omega) (by omega)]; rfl
    · have far : ∀ z : Int, 12 ≤ z → netAt (splA n) f z = 0 := fun z hz => tot_zero fun i hi => by
        have hs := (spl_ok h).small (k := i) hi
        have hs' : 0 ≤ ((splA n).getD i El.d).f ∧ ((splA n).getD i El.d).f < 12 ∧ 0 ≤ ((splA n).getD i El.d).t ∧ ((splA n).getD i El.d).t < 12 := hs
        unfold term
        rw [if_neg (by omega), if_neg (by omega)]; rfl
      rw [far _ (by omega), far _ (by omega)]; rfl
  · rw [gnet, bal (2 * n.s) (by omega) (by omega) (by omega) (by omega), Int.zero_add]
    rfl
theorem PathsNodes_true (n : Net) : weirkeep_PathsNodes_F n = some true := by
  unfold weirkeep_PathsNodes_F
  obtain ⟨r3, e1, e2⟩ := nodes_test
  rw [e1, bind_some', e2, bind_some']
  dsimp only
  rw [if_neg (by decide), equalInts_eq, bind_some', if_neg (by decide)]
  rcases split_nodes n with ⟨h, hs⟩ | ⟨h, e, he, hs⟩
  · have hn := h.net
    obtain ⟨l, f, v, ea, hM, hf, hv, hl⟩ := alone_ok h
    obtain ⟨low, v', eb, hM', hb⟩ := block_ok h
    obtain rfl := hM.uniq hM'
    obtain ⟨ways, f', v', ep, hMu, hfu, hvu, hlu, _⟩ := apart_ok hn
    obtain ⟨g, hg, hgv⟩ := nodes_flow h hf
    have := hMu.le hg
    have hgv' : netAt (unitN n).as g n.s = v := by rw [hgv]; exact hv
    have hle : v ≤ v' := by
      have : netAt (unitN n).as g (unitN n).s ≤ v' := this
      have e : (unitN n).s = n.s := rfl
      rw [e, hgv'] at this
      exact this
    rw [ea, bind_some']
    dsimp only
    rw [eb, bind_some']
    dsimp only
    rw [ep, bind_some']
    dsimp only
    rw [if_neg (by decide), if_neg (by decide), if_neg (by decide), if_pos (by omega), List.length_map]
    exact congrArg some (decide_eq_true (by omega))
  · have ea : paths_Alone_F n = some ([], e) := by
      unfold paths_Alone_F
      rw [hs, bind_some']
      dsimp only
      rw [if_pos he]
    have eb : paths_Block_F n = some ([], e) := by
      unfold paths_Block_F
      rw [hs, bind_some']
      dsimp only
      rw [if_pos he]
    have ep : ∃ l x, paths_Apart_F n = some (l, x) := by
      by_cases hn : OkNet n
      · obtain ⟨ways, _, _, ep, _⟩ := apart_ok hn
        exact ⟨_, _, ep⟩
      · obtain ⟨x, _, _, ep⟩ := apart_bad hn
        exact ⟨_, _, ep⟩
    obtain ⟨l, x, ep⟩ := ep
    rw [ea, bind_some']
    dsimp only
    rw [eb, bind_some']
    dsimp only
    rw [ep, bind_some']
    dsimp only
    rw [if_pos he, if_pos rfl, ck_some (inI_small (by decide) (by decide))]
    rfl
end Go.Proofs.Ytlelfifbmckhgaa
