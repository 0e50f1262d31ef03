/- StoreSaves: the law's function answers true. -/
import Derived.Test.YtfnldmbomampiaaPstore
import Derived.Test.YtfnldmbomampiaaKStoreSaves
namespace Go.Proofs.Ytfnldmbomampiaa
open Go Go.Proofs.Ytfnldmbomampiaa.Sx
set_option linter.unusedVariables false
set_option linter.unusedSimpArgs false
theorem has_kept {s s' : Store} {d : Deed} {e : Int} (h : Did s d e s') {nm : ByteArray} {x : StoreState} (hd : d.kind ≠ 7 ∨ d.name ≠ nm) (hx : Has s nm x) : Has s' nm x := by
  cases h with
  | bad e he => exact hx
  | done x hk => exact hx
  | load x hk hx' => exact hx
  | undo l x hk hl => exact hx
  | save s' hk hn h1 h2 h3 h4 => exact h4 _ _ (fun e => hd.elim (fun z => z hk) (fun z => z e.symm)) hx
  | told hk => exact hx
theorem StoreSaves_true (l m : List Deed) (name : ByteArray) : weirkeep_StoreSaves_F l m name = some true := by
  obtain ⟨s, hs, hf⟩ := worked_ok l
  obtain ⟨v, e, s1, h1, h2, h3⟩ := do_did hf ⟨7, 0, 0, 0, name⟩
  unfold weirkeep_StoreSaves_F
  rw [stores_ok, bind_some', if_neg (by decide), hs, bind_some', net_ok hf, bind_some']
  dsimp only
  rw [h1, bind_some']
  dsimp only
  by_cases he : e ≠ 0
  · have es := h3.same he
    subst es
    rw [if_pos he, net_ok hf, bind_some']
    dsimp only
    rw [same_net, bind_some']
  rw [if_neg he]
  have hsv : store_name_F name = some 0 ∧ Has s1 name s.now := by
    cases h3 with
    | bad e he' => exact absurd he' he
    | done x hk => exact absurd hk.2 (by show ¬ (7 : Int) ≤ 5; decide)
    | load x hk hx => exact absurd hk (by show ¬ (7 : Int) = 8; decide)
    | undo l x hk hl => exact absurd hk (by show ¬ (7 : Int) = 6; decide)
    | save s' hk hn h1 h2 h3 h4 => exact ⟨hn, h3⟩
    | told hk => exact absurd hk.1 (by show ¬ (9 : Int) ≤ 7; decide)
  obtain ⟨z, hz, hzf, hzh⟩ := forN_inv (f := weirkeep_StoreSaves_B1 m name) (fun _ x => Fine x ∧ Has x name s.now) (n := m.length) (k := 0) (s := s1) ⟨h2, hsv.2⟩ fun j x _ _ ⟨hx, hx2⟩ => by
    obtain ⟨v, e, t, g1, g2, g3⟩ := do_did hx (m.getD j El.d)
    unfold weirkeep_StoreSaves_B1
    by_cases c : (m.getD j El.d).kind ≠ 7
    · refine ⟨t, by rw [if_pos c, g1, bind_some'], g2, has_kept g3 (.inl c) hx2⟩
    · rw [if_neg c]
      by_cases c2 : (m.getD j El.d).name ≠ name
      · exact ⟨t, by rw [if_pos c2, g1, bind_some'], g2, has_kept g3 (.inr c2) hx2⟩
      · exact ⟨x, by rw [if_neg c2], hx, hx2⟩
  rw [hz, bind_some', do_load hzf hsv.1 hzh, bind_some']
  dsimp only
  obtain ⟨k, hk, hkx⟩ := hzh
  have hp : Fine (push z s.now) := push_fine hzf hf.now
  rw [if_pos rfl, net_ok hp, bind_some']
  dsimp only
  show (weirkeep_sameNet_F s.now.net s.now.net).bind _ = _
  rw [same_net, bind_some']
end Go.Proofs.Ytfnldmbomampiaa
