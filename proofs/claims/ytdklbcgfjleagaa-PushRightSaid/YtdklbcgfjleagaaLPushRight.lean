/- PushRight: the law's function answers true. -/
import Derived.Test.YtdklbcgfjleagaaPpushed
import Derived.Test.YtdklbcgfjleagaaPspread
import Derived.Test.YtdklbcgfjleagaaKPushRight
namespace Go.Proofs.Ytdklbcgfjleagaa
open Go Go.Proofs.Ytdklbcgfjleagaa.Sx
set_option linter.unusedVariables false
set_option linter.unusedSimpArgs false
theorem pushR_eq : weirkeep_pushes_F = some true := by kernel_rfl
theorem pushR_arc {n : Net} (hn : OkNet n) {q : Push} (hl : q.flow.length = n.as.length) {k : Nat} (hk : k < n.as.length) (s : Int) : weirkeep_PushRight_B2 n q k s = some (stepS n.as q.flow false s k) := by
  have hG := hn.arc hk
  have f0 := hG.f0; have t0 := hG.t0
  unfold weirkeep_PushRight_B2 stepS ends
  simp only [bit_fold]
  have half : ∀ (p : Prop) [Decidable p] (s x y : Int), 0 ≤ x → 0 ≤ y → (ck (0 ≤ x) <| if bit s x = 1 then ck (k < q.flow.length) <| (if p then ck (0 ≤ y) (some (bitsOf .or .u16 s (IntKind.u16.wrap (1 * 2 ^ min y.toNat 16)))) else some s) else some s) = some (halfS (decide p) s x y) := fun p _ s x y hx hy => by
    unfold halfS
    rw [ck_some hx]
    by_cases hb : bit s x = 1
    · rw [if_pos hb, ck_some (by omega)]
      by_cases hp : p
      · rw [if_pos hp, ck_some hy, decide_eq_true hp, if_pos ⟨rfl, hb⟩]; rfl
      · rw [if_neg hp, decide_eq_false hp, if_neg (fun h => Bool.noConfusion h.1)]
    · rw [if_neg hb, if_neg (fun h => hb h.2)]
  rw [half _ s _ _ f0 t0, bind_some', half _ _ _ _ t0 f0]
  rfl
theorem pushR_loop {n : Net} (hn : OkNet n) {q : Push} (hl : q.flow.length = n.as.length) (T : Int → Prop) (hT : ∀ x y, T x → Res1 n q.flow x y → T y) (s : Int) (hs : ∀ x, 0 ≤ x → x < n.n → bit s x = 1 → T x) : ∃ s', forN (weirkeep_PushRight_B1 n q) n.n.toNat 0 s = some s' ∧ ∀ x, 0 ≤ x → x < n.n → bit s' x = 1 → T x := by
  have n1 := hn.g.n1; have n0 := hn.g.n0
  dsimp only at n0 n1
  refine forN_inv (f := weirkeep_PushRight_B1 n q) (fun _ s => ∀ x, 0 ≤ x → x < n.n → bit s x = 1 → T x) (n := n.n.toNat) (k := 0) (s := s) hs fun j s hj1 hj2 hs => ?_
  obtain ⟨s', e, h⟩ := forN_inv (f := weirkeep_PushRight_B2 n q) (fun _ s => ∀ x, 0 ≤ x → x < n.n → bit s x = 1 → T x) (n := n.as.length) (k := 0) (s := s) hs fun k s hk1 hk2 hs => by
    have hk : k < n.as.length := by omega
    refine ⟨_, pushR_arc hn hl hk s, fun x h0 h1 hb => ?_⟩
    have hi := ends_in hn false hk
    have e1 : (ends n.as false k).1 = (n.as.getD k El.d).f := rfl
    have e2 : (ends n.as false k).2 = (n.as.getD k El.d).t := rfl
    rcases (step_iff (by omega) (by omega) (by omega)).1 hb with h2 | ⟨e, h2, h3⟩ | ⟨e, h2, h3⟩
    · exact hs x h0 h1 h2
    · exact hT _ _ (hs _ hi.1.1 hi.1.2 h3) ⟨k, hk, .inl ⟨e1.symm, by rw [e, e2], h2⟩⟩
    · refine hT (n.as.getD k El.d).t _ ?_ ⟨k, hk, .inr ⟨rfl, by rw [e, e1], h2⟩⟩
      rcases h3 with h3 | ⟨h4, h3⟩
      · exact hs _ hi.2.1 hi.2.2 h3
      · exact hT _ _ (hs _ hi.1.1 hi.1.2 h3) ⟨k, hk, .inl ⟨e1.symm, rfl, h4⟩⟩
  refine ⟨s', ?_, h⟩
  unfold weirkeep_PushRight_B1
  rw [e]; rfl
theorem PushRight_true (n : Net) (steps : List Int) {P : Prop} (_ : P) (hl' : (∀ x, x ∈ steps → InI x) ∧ steps.length ≤ maxLen) : weirkeep_PushRight_F n steps = some true := by
  have hl := hl'.2
  unfold weirkeep_PushRight_F
  rw [pushR_eq, bind_some', if_neg (by decide)]
  by_cases hn : OkNet n
  · have n1 := hn.g.n1; have n0 := hn.g.n0; have s0 := hn.s0; have s1 := hn.s1; have t0 := hn.t0; have t1 := hn.t1
    dsimp only at n0 n1
    obtain ⟨q, d, e, h, hlow⟩ := pushed_ok hn hl
    rw [e, bind_some']
    dsimp only
    rw [if_neg (by decide)]
    have hc := h.check
    have hq : (⟨⟨q.net.n, q.net.s, q.net.t, q.net.as⟩, q.flow, q.height⟩ : Push) = q := rfl
    rw [hq, hc, bind_some', if_neg (by decide), if_neg (by rw [h.len]; omega), ck_some s0, ck_some (inI_small (by omega) (by omega))]
    have hst : ∀ x, 0 ≤ x → x < n.n → bit (shl n.s) x = 1 → SD n q.flow n.s (n.n.toNat - 1) x := fun x x0 x1 hb => by
      have : x = n.s := (bit_shl (by omega) (by omega)).1 hb
      rw [this]; exact SD.start _
    obtain ⟨s', e2, hs'⟩ := pushR_loop hn h.len (fun x => SD n q.flow n.s (n.n.toNat - 1) x) (fun x y hx hr => SD.closed hn s0 s1 hx hr) (shl n.s) hst
    have e3 : forN (weirkeep_PushRight_B1 n q) n.n.toNat 0 (IntKind.u16.wrap (1 * 2 ^ min n.s.toNat 16)) = some s' := e2
    rw [e3, bind_some', ck_some t0]
    refine congrArg some (decide_eq_true ?_)
    rcases bit01 s' n.t with hb | hb
    · exact hb
    · have h1 := SD.height h (hs' n.t t0 t1 hb)
      have h2 := h.hs
      have h3 := h.ht
      omega
  · obtain ⟨q, d, e⟩ := pushed_bad hn steps
    rw [e, bind_some']
    dsimp only
    rw [if_pos (show (!false) = true from rfl)]
end Go.Proofs.Ytdklbcgfjleagaa
