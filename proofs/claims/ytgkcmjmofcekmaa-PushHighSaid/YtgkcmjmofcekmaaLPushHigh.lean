/- PushHigh: the law's function answers true. -/
import Derived.Test.YtgkcmjmofcekmaaPpushed
import Derived.Test.YtgkcmjmofcekmaaKPushHigh
namespace Go.Proofs.Ytgkcmjmofcekmaa
open Go Go.Proofs.Ytgkcmjmofcekmaa.Sx
set_option linter.unusedVariables false
set_option linter.unusedSimpArgs false
theorem pushH_eq : weirkeep_pushes_F = some true := by kernel_rfl
theorem forN_split {σ : Type} {f : Nat → σ → Option σ} : ∀ {m j k : Nat} {s : σ}, forN f (m + j) k s = (forN f m k s).bind fun s' => forN f j (k + m) s'
  | 0, j, k, s => by rw [Nat.zero_add]; rfl
  | m + 1, j, k, s => by
    rw [show m + 1 + j = (m + j) + 1 by omega]
    show ((f k s).bind fun s' => forN f (m + j) (k + 1) s') = (((f k s).bind fun s' => forN f m (k + 1) s').bind fun s' => forN f j (k + (m + 1)) s')
    cases f k s with
    | none => rfl
    | some s1 =>
      rw [bind_some', bind_some', forN_split (m := m) (j := j) (k := k + 1) (s := s1)]
      rw [show k + 1 + m = k + (m + 1) by omega]
theorem forN_same {σ : Type} {f g : Nat → σ → Option σ} : ∀ {m k : Nat} {s : σ}, (∀ j s, k ≤ j → j < k + m → f j s = g j s) → forN f m k s = forN g m k s
  | 0, _, _, _ => rfl
  | m + 1, k, s, h => by
    show ((f k s).bind fun s' => forN f m (k + 1) s') = ((g k s).bind fun s' => forN g m (k + 1) s')
    rw [h k s (Nat.le_refl _) (by omega)]
    cases g k s with
    | none => rfl
    | some s1 => exact forN_same fun j s h1 h2 => h j s (by omega) (by omega)
theorem app_leftH {α : Type} {l m : List α} {i : Nat} {d : α} (h : i < l.length) : (l ++ m).getD i d = l.getD i d := by
  rw [List.getD_eq_getElem?_getD, List.getD_eq_getElem?_getD, List.getElem?_append_left h]
theorem concatH_eq {l m : List Int} (hl : l.length ≤ 17592186044416) (hm : m.length ≤ 17592186044416) : slices_Concat_int_F2 [l, m] = some (l ++ m) := by
  unfold slices_Concat_int_F2
  have e1 : forN (slices_Concat_int_B1 [l, m]) 2 0 0 = some (l.length + m.length) := by
    simp only [forN, slices_Concat_int_B1, List.getD_cons_zero, List.getD_cons_succ]
    rw [ck_some (by unfold InI; omega), if_neg (by omega)]
    simp only [bind_some', Nat.zero_add]
    rw [ck_some (by unfold InI; omega), if_neg (by omega)]
    rfl
  have e2 : forN (slices_Concat_int_B2r [l, m] (l.length + m.length)) 2 0 [] = some (l ++ m) := by
    simp only [forN, slices_Concat_int_B2r, List.getD_cons_zero, List.getD_cons_succ]
    rw [ck_some (by simp)]
    simp only [bind_some', Nat.zero_add, List.nil_append]
    rw [ck_some (by omega)]
    rfl
  show (forN (slices_Concat_int_B1 [l, m]) 2 0 0).bind _ = _
  rw [e1, bind_some', ck_some (by omega)]
  show (forN (slices_Concat_int_B2r [l, m] (l.length + m.length)) 2 0 []).bind _ = _
  rw [e2]; rfl
theorem PushHigh_true (n : Net) (a b : List Int) (ha : a.length ≤ 17592186044416) (hb : b.length ≤ 17592186044416) : weirkeep_PushHigh_F n a b = some true := by
  unfold weirkeep_PushHigh_F
  rw [pushH_eq, bind_some', if_neg (by decide)]
  have hab : (a ++ b).length = a.length + b.length := List.length_append
  by_cases hn : OkNet n
  · have n1 := hn.g.n1; have n0 := hn.g.n0
    dsimp only at n0 n1
    have la : a.length ≤ maxLen := by unfold maxLen; omega
    have lab : (a ++ b).length ≤ maxLen := by unfold maxLen; omega
    obtain ⟨q, e, h⟩ := new_ph hn
    obtain ⟨σ, e1, h1, c1, _⟩ := push_steps hn la (m := a.length) (k := 0) (by omega) (σ := fromP q 0) h (Nat.le_refl _)
    have e1' : forN (weirkeep_pushed_B1 n (a ++ b)) a.length 0 (fromP q 0) = some σ := by
      rw [← e1]
      refine forN_same fun j s _ hj => ?_
      unfold weirkeep_pushed_B1
      rw [app_leftH (by omega)]
    obtain ⟨τ, e2, h2, c2, up⟩ := push_steps hn lab (m := b.length) (k := 0 + a.length) (by omega) (σ := σ) h1 (by omega)
    have e3 : forN (weirkeep_pushed_B1 n (a ++ b)) (a ++ b).length 0 (fromP q 0) = some τ := by
      rw [hab, forN_split, e1', bind_some', e2]
    have one : ∀ (steps : List Int) (σ : PS), forN (weirkeep_pushed_B1 n steps) steps.length 0 (fromP q 0) = some σ → weirkeep_pushed_F n steps = some (asP σ, ((σ.2.2.2.2.2.2 : Nat) : Int), true) := fun steps σ hσ => by
      unfold weirkeep_pushed_F
      rw [e, bind_some']
      dsimp only
      rw [if_neg (by decide)]
      have hσ' : forN (weirkeep_pushed_B1 n steps) steps.length 0 (q.net.n, q.net.s, q.net.t, q.net.as, q.flow, q.height, 0) = some σ := hσ
      rw [hσ', bind_some']
      rfl
    rw [one a σ e1, bind_some']
    dsimp only
    rw [concatH_eq ha hb, bind_some', one (a ++ b) τ e3, bind_some']
    dsimp only
    have hl1 := h1.pv.hl
    have hl2 := h2.pv.hl
    rw [if_neg (by decide), if_neg (by decide), if_neg (by omega), if_neg (by omega)]
    obtain ⟨x, ex, hx⟩ := forC_or (f := weirkeep_PushHigh_B1 n (asP σ) (asP τ)) (fun _ _ => True) (fun q => q = .go ()) (n := (asP σ).height.length) (k := 0) (s := ()) trivial (fun j s _ hj _ => by
      refine .inl ⟨(), ?_, trivial⟩
      unfold weirkeep_PushHigh_B1
      have u := up j
      have v := h2.low j (by omega)
      rw [ck_some (by omega), if_neg (by omega), ck_some (inI_small (by omega) (by omega)), if_neg (by omega)]) (fun s _ => rfl)
    rw [ex, hx]
    rfl
  · obtain ⟨q, d, e⟩ := pushed_bad hn a
    obtain ⟨q2, d2, e2⟩ := pushed_bad hn (a ++ b)
    rw [e, bind_some']
    dsimp only
    rw [concatH_eq ha hb, bind_some', e2, bind_some']
    dsimp only
    rw [if_pos (show (!false) = true from rfl)]
    rfl
end Go.Proofs.Ytgkcmjmofcekmaa
