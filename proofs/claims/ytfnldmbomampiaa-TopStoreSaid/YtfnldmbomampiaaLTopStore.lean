/- TopStore: the law's function answers true. -/
import Derived.Test.YtfnldmbomampiaaPstore
import Derived.Test.YtfnldmbomampiaaKTopStore
import Derived.Test.YtfnldmbomampiaaPproof
namespace Go.Proofs.Ytfnldmbomampiaa
open Go Go.Proofs.Ytfnldmbomampiaa.Sx
set_option linter.unusedVariables false
set_option linter.unusedSimpArgs false
theorem worksS_ok : weirtop_works_F = some true := by kernel_rfl
theorem side_wrap {n : Net} {s : Int} (h : Side n s) : IntKind.u16.wrap (IntKind.i64.wrap s) = s := by
  have hp : ∀ k : Fin 17, 0 < (2 : Int) ^ k.val ∧ (2 : Int) ^ k.val ≤ 65536 := by decide
  have hk := hp ⟨min n.n.toNat 16, by omega⟩
  have hi := h.hi
  generalize (2 : Int) ^ min n.n.toNat 16 = m at hi hk
  rw [Int.fdiv_eq_ediv_of_nonneg _ (by omega)] at hi
  have h1 := Int.emod_add_mul_ediv s m
  have h2 := Int.emod_nonneg s (show m ≠ 0 by omega)
  have h3 := Int.emod_lt_of_pos s (show 0 < m by omega)
  rw [hi, Int.mul_zero, Int.add_zero] at h1
  rw [IntWalk.i64_in s (by omega)]
  exact IntWalk.u16_in s (by omega)
open Classical in
theorem TopStore_true (l : List Deed) (d : Deed) : weirtop_TopStore_F l d = some true := by
  obtain ⟨s, hs, hf⟩ := forN_inv (f := weirtop_TopStore_B1 l) (fun _ s => Fine s) (n := l.length) (k := 0) new_fine fun j s _ _ hs => by
    obtain ⟨v, e, s', h1, h2, _⟩ := do_did hs (l.getD j El.d)
    refine ⟨s', ?_, h2⟩
    unfold weirtop_TopStore_B1
    rw [h1, bind_some']
  obtain ⟨low, v, hl, hlow, hv⟩ := least_ok hf.now.ok
  obtain ⟨g, w, hg, hg1, hg2, hg3⟩ := of_max hf.now.ok
  have hvw : v = w := hv.uniq hg3
  unfold weirtop_TopStore_F
  rw [worksS_ok, bind_some', if_neg (by decide), new_eq, bind_some', hs, bind_some', net_ok hf, bind_some']
  dsimp only
  rw [do_value hl, bind_some']
  dsimp only
  rw [do_side hl, bind_some']
  dsimp only
  rw [hg, bind_some']
  dsimp only
  have hp : Proves s.now.net ⟨v, g, IntKind.u16.wrap (IntKind.i64.wrap low)⟩ := by
    rw [side_wrap hlow.side]
    exact ⟨hg1, by rw [hg2]; exact hvw.symm, hlow.side, hlow.cap⟩
  rw [proofCheck_ok hf.now.ok, decide_eq_true hp, bind_some']
  dsimp only
  rw [if_neg (by decide), if_neg (by decide), if_neg (by decide), if_neg (by decide), if_neg (fun z => z hvw), if_neg (by decide)]
  by_cases c1 : d.kind < 1
  · rw [if_pos c1]
  rw [if_neg c1]
  by_cases c2 : 5 < d.kind
  · rw [if_pos c2]
  rw [if_neg c2]
  obtain ⟨v2, e, t, h1, h2, h3⟩ := do_did hf d
  rw [h1, bind_some']
  dsimp only
  by_cases he : e ≠ 0
  · rw [if_pos he, net_ok h2, bind_some']
    dsimp only
    rcases checkNet_cases t.now.net with ⟨_, h⟩ | ⟨h, _⟩
    · rw [h, bind_some']; rfl
    · exact absurd h2.now.ok h
  rw [if_neg he]
  have ht : ∃ x, t = push s x := by
    cases h3 with
    | bad e he' => exact absurd he' he
    | done x hk => exact ⟨x, rfl⟩
    | load x hk hx => omega
    | undo l x hk hl => omega
    | save s' hk hn h1 h2 h3 h4 => omega
    | told hk => omega
  obtain ⟨x, rfl⟩ := ht
  have ha := ago_push (x := x) hf.few (by decide) (ago_now s)
  obtain ⟨q, y, hq⟩ := ago_some ha
  rw [do_undo hq h2.few, bind_some']
  dsimp only
  have hb := ago_zero (ago_undo hq ha)
  dsimp only at hb
  subst hb
  have hfn : Fine (⟨s.now, q, (push s x).names, (push s x).saved⟩ : Store) := ⟨hf.now, fun u hu => h2.old u (by rw [hq]; exact List.mem_append_left _ hu), h2.saved, (show q.length ≤ 20 by have := h2.few; rw [hq] at this; simp at this; omega), h2.names, h2.four⟩
  rw [net_ok hfn, bind_some']
  dsimp only
  rw [if_pos rfl, if_pos rfl, if_pos rfl, if_pos rfl, equalArcs_eq, bind_some', decide_eq_true rfl]
end Go.Proofs.Ytfnldmbomampiaa
