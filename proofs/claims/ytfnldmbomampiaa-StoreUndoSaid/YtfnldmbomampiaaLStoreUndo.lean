/- StoreUndo: the law's function answers true. -/
import Derived.Test.YtfnldmbomampiaaPstore
import Derived.Test.YtfnldmbomampiaaKStoreUndo
import Derived.Test.YtfnldmbomampiaaSizedD
namespace Go.Proofs.Ytfnldmbomampiaa
open Go Go.Proofs.Ytfnldmbomampiaa.Sx
set_option linter.unusedVariables false
set_option linter.unusedSimpArgs false
theorem StoreUndo_true (l m : List Deed) (_ : (∀ a, a ∈ l → DeedIn a) ∧ l.length ≤ maxLen) (hm : (∀ a, a ∈ m → DeedIn a) ∧ m.length ≤ maxLen) : weirkeep_StoreUndo_F l m = some true := by
  obtain ⟨s, hs, hf⟩ := worked_ok l
  have hml := hm.2
  unfold maxLen at hml
  unfold weirkeep_StoreUndo_F
  rw [stores_ok, bind_some', if_neg (by decide), hs, bind_some', net_ok hf, bind_some']
  dsimp only
  obtain ⟨⟨z, n⟩, hz, hzf, hzn, hza⟩ := forN_inv (f := weirkeep_StoreUndo_B1 m) (fun j (x : Store × Nat) => Fine x.1 ∧ x.2 ≤ j ∧ (x.2 ≤ 20 → ago x.1 x.2 = some s.now)) (n := m.length) (k := 0) (s := (s, 0)) ⟨hf, Nat.le_refl _, fun _ => ago_now s⟩ fun j x _ hj ⟨hx, hx1, hx2⟩ => by
    obtain ⟨x, n⟩ := x
    dsimp only at hx hx1 hx2
    have hn : InI (((n : Nat) : Int) + 1) := by unfold InI; omega
    unfold weirkeep_StoreUndo_B1
    dsimp only
    by_cases c : (m.getD j El.d).kind = 6
    · exact ⟨(x, n), by rw [if_pos c], hx, by show n ≤ j + 1; omega, hx2⟩
    rw [if_neg c]
    obtain ⟨v, e, t, g1, g2, g3⟩ := do_did hx (m.getD j El.d)
    rw [g1, bind_some']
    dsimp only
    cases g3 with
    | bad e he => exact ⟨(x, n), by rw [if_neg he], hx, by show n ≤ j + 1; omega, hx2⟩
    | done y hk => exact ⟨(push x y, n + 1), by rw [if_pos rfl, if_pos hk.1, if_pos hk.2, ck_some hn], g2, by show n + 1 ≤ j + 1; omega, fun h => ago_push hx.few h (hx2 (Nat.le_of_succ_le h))⟩
    | load y hk hy => exact ⟨(push x y, n + 1), by rw [if_pos rfl, if_pos (by omega), if_neg (by omega), if_pos hk, ck_some hn], g2, by show n + 1 ≤ j + 1; omega, fun h => ago_push hx.few h (hx2 (Nat.le_of_succ_le h))⟩
    | undo l y hk hl => exact absurd hk c
    | save t hk hn' h1 h2 h3 h4 => exact ⟨(t, n), by rw [if_pos rfl, if_pos (by omega), if_neg (by omega), if_neg (by omega)], g2, by show n ≤ j + 1; omega, fun h => by
        show ago t n = some s.now
        unfold ago
        rw [h1, h2]
        exact hx2 h⟩
    | told hk => exact ⟨(x, n), by rw [if_pos rfl, if_pos (by omega), if_neg (by omega), if_neg (by omega)], hx, by show n ≤ j + 1; omega, hx2⟩
  dsimp only at hzf hzn hza
  rw [hz, bind_some']
  dsimp only
  by_cases c : 20 < ((n : Nat) : Int)
  · rw [if_pos c]
  rw [if_neg c, ck_some (by unfold InI; omega)]
  obtain ⟨y, hy, hyf, hya⟩ := forC_inv (f := weirkeep_StoreUndo_B2) (fun j x => Fine x ∧ ago x (n - j) = some s.now) (n := n) (k := 0) (s := z) ⟨hzf, hza (by omega)⟩ fun j x _ hj ⟨hx, hx2⟩ => by
    rw [show n - j = (n - (j + 1)) + 1 by omega] at hx2
    obtain ⟨l, w, hl⟩ := ago_some hx2
    have hlen : x.old.length = l.length + 1 := by rw [hl]; simp
    refine ⟨⟨w, l, x.names, x.saved⟩, ?_, ⟨hx.old w (by rw [hl]; simp), fun u hu => hx.old u (by rw [hl]; exact List.mem_append_left _ hu), hx.saved, (show l.length ≤ 20 by have := hx.few; omega), hx.names, hx.four⟩, ago_undo hl hx2⟩
    unfold weirkeep_StoreUndo_B2
    rw [do_undo hl hx.few, bind_some']
    dsimp only
    rw [if_neg (by decide)]
  rw [hy, bind_some']
  dsimp only
  rw [net_ok hyf, bind_some']
  dsimp only
  rw [show 0 + n = n by omega, Nat.sub_self] at hya
  rw [ago_zero hya, same_net, bind_some']
end Go.Proofs.Ytfnldmbomampiaa
