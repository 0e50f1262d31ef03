/- PushOwn: the law's function answers true. -/
import Derived.Test.YtolbmdogdjccmaaPpushed
import Derived.Test.YtolbmdogdjccmaaPpush3
import Derived.Test.YtolbmdogdjccmaaKPushOwn
namespace Go.Proofs.Ytolbmdogdjccmaa
open Go Go.Proofs.Ytolbmdogdjccmaa.Sx
set_option linter.unusedVariables false
set_option linter.unusedSimpArgs false
theorem pushO_eq : weirkeep_pushes_F = some true := by kernel_rfl
theorem pushO_clone {l : List Arc} (h : l.length + 1 ≤ 5864062014805) : slices_Clone_Arc_F l = some l := by
  unfold slices_Clone_Arc_F
  rw [ck_some (by omega)]; rfl
abbrev PO : Type := Int × Int × Int × List Arc × List Int × List Int × Int × Nat
def errO (σ : PO) : Int := σ.2.2.2.2.2.2.1
def cntO (σ : PO) : Nat := σ.2.2.2.2.2.2.2
def CanO (n : Net) (q : Push) (i : Nat) : Prop := ∃ k back, k < n.as.length ∧ i = 2 * k + (if back = true then 1 else 0) ∧ CanSend n q k back
def InvO (n : Net) (q : Push) (σ : PO) : Prop := (errO σ ≠ 0 ∧ cntO σ ≤ 2 * n.as.length ∧ ∀ j, j < cntO σ → ¬ CanO n q j) ∨ errO σ = 0
theorem own_step {n : Net} {q : Push} (hq : PV n q) {σ : PO} (hI : InvO n q σ) :
    (∃ σ', weirkeep_PushOwn_B1 n q σ = some (.go σ') ∧ InvO n q σ' ∧ cntO σ' = cntO σ + 1 ∧ cntO σ < 2 * n.as.length ∧ errO σ ≠ 0) ∨
    (weirkeep_PushOwn_B1 n q σ = some (.brk σ) ∧ (errO σ = 0 ∨ 2 * n.as.length ≤ cntO σ)) := by
  have hl := hq.ok.g.len
  dsimp only at hl
  obtain ⟨y1, y2, y3, y4, y5, y6, e, i⟩ := σ
  unfold weirkeep_PushOwn_B1
  dsimp only
  by_cases he : e = 0
  · rw [if_neg (fun z => z he)]
    exact .inr ⟨rfl, .inl he⟩
  rcases hI with ⟨h1, h2, h3⟩ | h1
  · have h2' : i ≤ 2 * n.as.length := h2
    have h3' : ∀ j, j < i → ¬ CanO n q j := h3
    rw [if_pos he, ck_some (inI_small (by omega) (by omega))]
    by_cases hi : ((i : Nat) : Int) < 2 * ((n.as.length : Nat) : Int)
    · left
      have ed : Int.tdiv ((i : Nat) : Int) 2 = ((i / 2 : Nat) : Int) := rfl
      have em : Int.tmod ((i : Nat) : Int) 2 = ((i % 2 : Nat) : Int) := rfl
      have eb : decide (Int.tmod ((i : Nat) : Int) 2 = 1) = decide (i % 2 = 1) := decide_eq_decide.2 (by rw [em]; omega)
      have hq' : (⟨⟨q.net.n, q.net.s, q.net.t, q.net.as⟩, q.flow, q.height⟩ : Push) = q := rfl
      have hk : i / 2 < n.as.length := by omega
      have hib : i = 2 * (i / 2) + (if decide (i % 2 = 1) = true then 1 else 0) := by
        by_cases hm : i % 2 = 1
        · rw [if_pos (decide_eq_true hm)]; omega
        · rw [if_neg (by rw [decide_eq_false hm]; decide)]; omega
      rw [if_pos hi, ed, ck_some (inI_small (by omega) (by omega)), eb, hq']
      rcases send_iff hq hk (decide (i % 2 = 1)) with ⟨hc, e'⟩ | ⟨hc, e', he', hz⟩
      · rw [e', bind_some']
        dsimp only
        rw [ck_some (inI_small (by omega) (by omega))]
        exact ⟨_, rfl, .inr rfl, rfl, by show i < _; omega, he⟩
      · rw [hz, bind_some']
        dsimp only
        rw [ck_some (inI_small (by omega) (by omega))]
        refine ⟨_, rfl, .inl ⟨he', by show i + 1 ≤ _; omega, fun j hj => ?_⟩, rfl, by show i < _; omega, he⟩
        have hj' : j < i + 1 := hj
        by_cases ej : j = i
        · rintro ⟨k', back', hk', e1, e3⟩
          have hkk : k' = i / 2 ∧ back' = decide (i % 2 = 1) := by
            rw [ej] at e1
            cases back' with
            | true =>
              rw [if_pos rfl] at e1
              exact ⟨by omega, (decide_eq_true (by omega)).symm⟩
            | false =>
              rw [if_neg (by decide)] at e1
              exact ⟨by omega, (decide_eq_false (by omega)).symm⟩
          rw [hkk.1, hkk.2] at e3
          exact hc e3
        · exact h3' j (by omega)
    · rw [if_neg hi]
      exact .inr ⟨rfl, .inr (by show _ ≤ i; omega)⟩
  · exact absurd h1 he
theorem own_loop {n : Net} {q : Push} (hq : PV n q) {σ : PO} (hI : InvO n q σ) (hc : cntO σ = 0) (hcan : errO σ ≠ 0 → ∃ k back, k < n.as.length ∧ CanSend n q k back) :
    ∃ σ', loopC (weirkeep_PushOwn_B1 n q) 1000000 σ = some (.go σ') ∧ errO σ' = 0 := by
  have hl := hq.ok.g.len
  dsimp only at hl
  obtain ⟨r, e, hQ⟩ := loopC_or (f := weirkeep_PushOwn_B1 n q) (fun τ => InvO n q τ ∧ cntO τ ≤ 2 * n.as.length + 1 ∧ (errO σ = 0 → errO τ = 0)) (fun r => ∃ σ', r = .go σ' ∧ errO σ' = 0) (fun τ => 2 * n.as.length + 1 - cntO τ) (fun τ ⟨i1, i2, i3⟩ => by
    rcases own_step hq i1 with ⟨σ', e, p1, p2, p3, p4⟩ | ⟨e, p⟩
    · exact .inl ⟨σ', e, ⟨p1, by omega, fun w => absurd (i3 w) p4⟩, by omega⟩
    · refine .inr (.inl ⟨τ, e, τ, rfl, ?_⟩)
      rcases i1 with ⟨q1, q2, q3⟩ | q1
      · exfalso
        have hσ : errO σ ≠ 0 := fun w => q1 (i3 w)
        obtain ⟨k, back, hk, hcs⟩ := hcan hσ
        rcases p with p | p
        · exact q1 p
        · exact q3 (2 * k + (if back = true then 1 else 0)) (by split <;> omega) ⟨k, back, hk, rfl, hcs⟩
      · exact q1) (n := 1000000) (s := σ) ⟨hI, by omega, fun w => w⟩ (by omega)
  obtain ⟨σ', rfl, h1⟩ := hQ
  exact ⟨σ', e, h1⟩
theorem PushOwn_true (n : Net) (steps : List Int) (sz : n.as.length + 1 ≤ 5864062014805) (hs : steps.length ≤ 17592186044416) : weirkeep_PushOwn_F n steps = some true := by
  have hm : steps.length ≤ maxLen := by unfold maxLen; omega
  unfold weirkeep_PushOwn_F
  rw [pushO_eq, bind_some', if_neg (by decide), pushO_clone sz, bind_some']
  by_cases hn : OkNet n
  · obtain ⟨q, d, e, hP⟩ := pushed_ok hn hm
    rw [e, bind_some']
    dsimp only
    have hq' : (⟨⟨q.net.n, q.net.s, q.net.t, q.net.as⟩, q.flow, q.height⟩ : Push) = q := rfl
    have fin : ∀ τ : PO, InvO n q τ → cntO τ = 0 → (errO τ ≠ 0 → ∃ k back, k < n.as.length ∧ CanSend n q k back) → ((loopC (weirkeep_PushOwn_B1 n q) 1000000 τ).bind fun q => match q with
      | .go (x50, x51, x52, l53, l54, l55, x56, n57) =>
       if x56 ≠ 0 then some (.ret false)
       else
        (weirkeep_spoil_int_F l54 (-1)).bind fun () =>
        (weirkeep_spoil_int_F l55 (-1)).bind fun () =>
        (weirkeep_spoil_Arc_F l53 (⟨(-1), 0, 0⟩ : Arc)).bind fun () =>
        some (.go ())
      | .ret x => some x : Option (Ex (Unit) (Bool))) = some (.go ()) := fun τ i1 i2 i3 => by
      obtain ⟨σ', e1, h1⟩ := own_loop hP.pv i1 i2 i3
      rw [e1, bind_some']
      obtain ⟨y1, y2, y3, y4, y5, y6, ee, i⟩ := σ'
      have h1' : ee = 0 := h1
      dsimp only
      rw [if_neg (fun w => w h1')]
      rfl
    have last : ((push_Check_F q).bind fun r76 => if r76 = 0 then (slices_Equal_Arc_F n.as n.as).bind fun r79 => some r79 else some false) = some true := by
      rw [hP.pv.check, bind_some', if_pos rfl, equalArcs_eq, bind_some', decide_eq_true rfl]
    rw [if_neg (by decide), hq']
    obtain ⟨l, el, _, h1 | ⟨h1, h2, h3⟩⟩ := busyL_ok hP.pv
    · obtain ⟨rfl, _⟩ := h1
      rw [el, bind_some']
      dsimp only
      rw [if_neg (by decide), if_neg (by decide), bind_some']
      exact last
    · rw [el, bind_some']
      dsimp only
      rw [if_neg (by decide), if_pos (by omega), ck_some h1]
      rcases lift_iff hP.pv hP.low h2.1 h2.2 h3 with ⟨low, e2, p, l1, l2⟩ | ⟨e2, he, hz, hcan⟩
      · rw [e2, bind_some']
        dsimp only
        refine Eq.trans (congrArg (fun z => Option.bind z _) (fin _ (.inr rfl) rfl fun w => absurd rfl w)) ?_
        exact last
      · rw [hz, bind_some']
        dsimp only
        obtain ⟨k, back, hk, _, hcs⟩ := hcan
        refine Eq.trans (congrArg (fun z => Option.bind z _) (fin _ (.inl ⟨he, Nat.zero_le _, fun j hj => absurd hj (by show ¬ j < 0; omega)⟩) rfl fun _ => ⟨k, back, hk, hcs⟩)) ?_
        exact last
  · obtain ⟨q, d, e⟩ := pushed_bad hn steps
    rw [e, bind_some']
    dsimp only
    rw [if_pos (show (!false) = true from rfl)]
end Go.Proofs.Ytolbmdogdjccmaa
