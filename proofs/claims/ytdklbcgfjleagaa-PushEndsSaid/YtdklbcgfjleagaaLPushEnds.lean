/- PushEnds: the law's function answers true. -/
import Derived.Test.YtdklbcgfjleagaaPpushed
import Derived.Test.YtdklbcgfjleagaaPpot
import Derived.Test.YtdklbcgfjleagaaKPushEnds
namespace Go.Proofs.Ytdklbcgfjleagaa
open Go Go.Proofs.Ytdklbcgfjleagaa.Sx
set_option linter.unusedVariables false
set_option linter.unusedSimpArgs false
theorem pushE_eq : weirkeep_pushes_F = some true := by kernel_rfl
open Classical in
/-- what is come to from the source -/
noncomputable def sideE (n : Net) (f : List Int) : Int → Int := fun x => if SD n f n.s (n.n.toNat - 1) x then 1 else 0
theorem rest_max {n : Net} {q : Push} (h : PV n q) (hf : Flow n q.flow) : MaxV n (netAt n.as q.flow n.s) := by
  have hn := h.ok
  have n1 := hn.g.n1; have n0 := hn.g.n0; have s0 := hn.s0; have s1 := hn.s1
  dsimp only at n0 n1
  have in_ : ∀ x, sideE n q.flow x = 1 → SD n q.flow n.s (n.n.toNat - 1) x := fun x hx => Classical.byContradiction fun z => by
    unfold sideE at hx
    rw [if_neg z] at hx
    exact absurd hx (by decide)
  have out_ : ∀ x, sideE n q.flow x = 0 → ¬ SD n q.flow n.s (n.n.toNat - 1) x := fun x hx z => by
    unfold sideE at hx
    rw [if_pos z] at hx
    exact absurd hx (by decide)
  have hC : Cut n (sideE n q.flow) := ⟨by unfold sideE; exact if_pos (SD.start _), by
    unfold sideE
    refine if_neg fun z => ?_
    have h1 := SD.height h z
    have h2 := h.hs
    have h3 := h.ht
    omega, fun x => by
    unfold sideE
    split
    · exact .inr rfl
    · exact .inl rfl⟩
  have hT : Tight n q.flow (sideE n q.flow) := ⟨fun k hk e1 e2 => by
    have hr := h.r k hk
    refine Classical.byContradiction fun hne => ?_
    exact out_ _ e2 (SD.closed hn s0 s1 (in_ _ e1) ⟨k, hk, .inl ⟨rfl, rfl, by omega⟩⟩), fun k hk e1 e2 => by
    have hr := h.r k hk
    refine Classical.byContradiction fun hne => ?_
    exact out_ _ e1 (SD.closed hn s0 s1 (in_ _ e2) ⟨k, hk, .inr ⟨rfl, rfl, by omega⟩⟩)⟩
  exact ⟨⟨_, hf, rfl⟩, _, hC, (hf.eq_cut hC hT).symm⟩
abbrev PE : Type := Int × Int × Int × List Arc × List Int × List Int
def asE (σ : PE) : Push := ⟨⟨σ.1, σ.2.1, σ.2.2.1, σ.2.2.2.1⟩, σ.2.2.2.2.1, σ.2.2.2.2.2⟩
abbrev PF : Type := Int × Int × Int × List Arc × List Int × List Int × Int × Nat
def asF (σ : PF) : Push := ⟨⟨σ.1, σ.2.1, σ.2.2.1, σ.2.2.2.1⟩, σ.2.2.2.2.1, σ.2.2.2.2.2.1⟩
def errF (σ : PF) : Int := σ.2.2.2.2.2.2.1
def cntF (σ : PF) : Nat := σ.2.2.2.2.2.2.2
/-- a step on -/
def NextP (n : Net) (q q' : Push) : Prop := HLow n q' ∧ Pot n q'.flow q'.height < Pot n q.flow q.height
def CanAt (n : Net) (q : Push) (x : Int) (i : Nat) : Prop := ∃ k back, k < n.as.length ∧ i = 2 * k + (if back = true then 1 else 0) ∧ srcP n k back = x ∧ CanSend n q k back
def InvF (n : Net) (q : Push) (x : Int) (σ : PF) : Prop := (errF σ ≠ 0 ∧ cntF σ ≤ 2 * n.as.length ∧ ∀ j, j < cntF σ → ¬ CanAt n q x j) ∨ (errF σ = 0 ∧ NextP n q (asF σ))
theorem send_bind {n : Net} {q : Push} (hq : HLow n q) {x : Int} {k i : Nat} {back : Bool} (hk : k < n.as.length) (hi : i = 2 * k + (if back = true then 1 else 0)) (hs : srcP n k back = x) (hall : ∀ j, j < i → ¬ CanAt n q x j) :
    ∃ σ : PF, ((push_Send_F q (k : Int) back).bind fun (r83, r87) => ck (InI (((i : Nat) : Int) + 1)) <| some (Ct.go (r83.net.n, r83.net.s, r83.net.t, r83.net.as, r83.flow, r83.height, r87, (i + 1)) : Ct PF (Ct PE Bool))) = some (.go σ) ∧ InvF n q x σ ∧ cntF σ = i + 1 := by
  have hl := hq.pv.ok.g.len
  dsimp only at hl
  have hi2 : i < 2 * n.as.length := by rw [hi]; split <;> omega
  rcases send_iff hq.pv hk back with ⟨hc, e⟩ | ⟨hc, e, he, hz⟩
  · rw [e, bind_some']
    dsimp only
    rw [ck_some (inI_small (by omega) (by omega))]
    exact ⟨_, rfl, .inr ⟨rfl, send_pot hq hk hc⟩, rfl⟩
  · rw [hz, bind_some']
    dsimp only
    rw [ck_some (inI_small (by omega) (by omega))]
    refine ⟨_, rfl, .inl ⟨he, by show i + 1 ≤ _; omega, fun j hj => ?_⟩, rfl⟩
    have hj' : j < i + 1 := hj
    by_cases ej : j = i
    · rintro ⟨k', back', hk', e1, e2, e3⟩
      have hkk : k' = k ∧ back' = back := by
        rw [ej, hi] at e1
        cases back <;> cases back' <;> simp at e1 <;> exact ⟨by omega, by first | rfl | omega⟩
      rw [hkk.1, hkk.2] at e3
      exact hc e3
    · exact hall j (by omega)
theorem ends_step {n : Net} {a b c : Int} {L : List Arc} {f h : List Int} (hq : HLow n ⟨⟨a, b, c, L⟩, f, h⟩) {l : List Int} {σ : PF} (hI : InvF n ⟨⟨a, b, c, L⟩, f, h⟩ (l.getD 0 0) σ) :
    (∃ σ', weirkeep_PushEnds_B2 n a b c L f h l σ = some (.go σ') ∧ InvF n ⟨⟨a, b, c, L⟩, f, h⟩ (l.getD 0 0) σ' ∧ cntF σ' = cntF σ + 1 ∧ cntF σ < 2 * n.as.length) ∨
    (weirkeep_PushEnds_B2 n a b c L f h l σ = some (.brk σ) ∧ (errF σ = 0 ∨ 2 * n.as.length ≤ cntF σ)) := by
  have hl := hq.pv.ok.g.len
  dsimp only at hl
  obtain ⟨y1, y2, y3, y4, y5, y6, e, i⟩ := σ
  unfold weirkeep_PushEnds_B2
  dsimp only
  by_cases he : e = 0
  · rw [if_neg (fun z => z he)]
    exact .inr ⟨rfl, .inl he⟩
  rcases hI with ⟨h1, h2, h3⟩ | ⟨h1, _⟩
  · have h2' : i ≤ 2 * n.as.length := h2
    have h3' : ∀ j, j < i → ¬ CanAt n ⟨⟨a, b, c, L⟩, f, h⟩ (l.getD 0 0) j := h3
    rw [if_pos he, ck_some (inI_small (by omega) (by omega))]
    by_cases hi : ((i : Nat) : Int) < 2 * ((n.as.length : Nat) : Int)
    · left
      have ed : Int.tdiv ((i : Nat) : Int) 2 = ((i / 2 : Nat) : Int) := rfl
      have em : Int.tmod ((i : Nat) : Int) 2 = ((i % 2 : Nat) : Int) := rfl
      rw [if_pos hi, ed, em, ck_some (inI_small (by omega) (by omega)), ck_some (by omega), Int.toNat_natCast]
      have hk : i / 2 < n.as.length := by omega
      have skip : (¬ ∃ k back, k < n.as.length ∧ i = 2 * k + (if back = true then 1 else 0) ∧ srcP n k back = l.getD 0 0) → ∃ σ' : PF, (ck (InI (((i : Nat) : Int) + 1)) <| some (Ct.go (y1, y2, y3, y4, y5, y6, e, (i + 1)) : Ct PF (Ct PE Bool))) = some (.go σ') ∧ InvF n ⟨⟨a, b, c, L⟩, f, h⟩ (l.getD 0 0) σ' ∧ cntF σ' = i + 1 ∧ i < 2 * n.as.length := fun hno => by
        rw [ck_some (inI_small (by omega) (by omega))]
        refine ⟨_, rfl, .inl ⟨he, by show i + 1 ≤ _; omega, fun j hj => ?_⟩, rfl, by omega⟩
        have hj' : j < i + 1 := hj
        by_cases ej : j = i
        · rintro ⟨k', back', hk', e1, e2, _⟩
          exact hno ⟨k', back', hk', by rw [← ej]; exact e1, e2⟩
        · exact h3' j (by omega)
      rcases Nat.mod_two_eq_zero_or_one i with hm | hm
      · rw [hm, if_pos (by rfl)]
        by_cases hF : (n.as.getD (i / 2) El.d).f = l.getD 0 0
        · rw [if_pos hF]
          obtain ⟨σ', e1, e2, e3⟩ := send_bind hq (x := l.getD 0 0) (k := i / 2) (i := i) (back := false) hk (by rw [if_neg (by decide)]; omega) hF h3'
          exact ⟨σ', e1, e2, e3, by show i < _; omega⟩
        · rw [if_neg hF, if_neg (by decide)]
          refine skip fun ⟨k, back, _, e1, e2⟩ => ?_
          cases back
          · have e1' : i = 2 * k + 0 := e1
            have : k = i / 2 := by omega
            rw [this] at e2
            exact hF e2
          · have e1' : i = 2 * k + 1 := e1
            omega
      · rw [hm, if_neg (by decide), if_pos (by rfl)]
        by_cases hF : (n.as.getD (i / 2) El.d).t = l.getD 0 0
        · rw [if_pos hF]
          obtain ⟨σ', e1, e2, e3⟩ := send_bind hq (x := l.getD 0 0) (k := i / 2) (i := i) (back := true) hk (by rw [if_pos rfl]; omega) hF h3'
          exact ⟨σ', e1, e2, e3, by show i < _; omega⟩
        · rw [if_neg hF]
          refine skip fun ⟨k, back, _, e1, e2⟩ => ?_
          cases back
          · have e1' : i = 2 * k + 0 := e1
            omega
          · have e1' : i = 2 * k + 1 := e1
            have : k = i / 2 := by omega
            rw [this] at e2
            exact hF e2
    · rw [if_neg hi]
      exact .inr ⟨rfl, .inr (by show _ ≤ i; omega)⟩
  · exact absurd h1 he
theorem ends_loop {n : Net} {a b c : Int} {L : List Arc} {f h : List Int} (hq : HLow n ⟨⟨a, b, c, L⟩, f, h⟩) {l : List Int} {σ : PF} (hI : InvF n ⟨⟨a, b, c, L⟩, f, h⟩ (l.getD 0 0) σ) (hc : cntF σ = 0)
    (hcan : errF σ ≠ 0 → ∃ k back, k < n.as.length ∧ srcP n k back = l.getD 0 0 ∧ CanSend n ⟨⟨a, b, c, L⟩, f, h⟩ k back) :
    ∃ σ', loopC (weirkeep_PushEnds_B2 n a b c L f h l) 1000000 σ = some (.go σ') ∧ errF σ' = 0 ∧ NextP n ⟨⟨a, b, c, L⟩, f, h⟩ (asF σ') := by
  have hl := hq.pv.ok.g.len
  dsimp only at hl
  obtain ⟨q, e, hQ⟩ := loopC_or (f := weirkeep_PushEnds_B2 n a b c L f h l) (fun τ => InvF n ⟨⟨a, b, c, L⟩, f, h⟩ (l.getD 0 0) τ ∧ cntF τ ≤ 2 * n.as.length + 1 ∧ (errF σ = 0 → errF τ = 0)) (fun q => ∃ σ', q = .go σ' ∧ errF σ' = 0 ∧ NextP n ⟨⟨a, b, c, L⟩, f, h⟩ (asF σ')) (fun τ => 2 * n.as.length + 1 - cntF τ) (fun τ ⟨i1, i2, i3⟩ => by
    rcases ends_step hq i1 with ⟨σ', e, p1, p2, p3⟩ | ⟨e, p⟩
    · by_cases z : errF σ = 0
      · -- nothing to do: the loop would have ended
        exfalso
        have := i3 z
        obtain ⟨y1, y2, y3, y4, y5, y6, ee, i⟩ := τ
        have hee : ee = 0 := this
        unfold weirkeep_PushEnds_B2 at e
        dsimp only at e
        rw [if_neg (fun w => w hee)] at e
        cases e
      · exact .inl ⟨σ', e, ⟨p1, by omega, fun w => absurd w z⟩, by omega⟩
    · refine .inr (.inl ⟨τ, e, τ, rfl, ?_⟩)
      rcases i1 with ⟨q1, q2, q3⟩ | ⟨q1, q2⟩
      · exfalso
        have hσ : errF σ ≠ 0 := fun w => q1 (i3 w)
        obtain ⟨k, back, hk, hs, hcs⟩ := hcan hσ
        rcases p with p | p
        · exact q1 p
        · exact q3 (2 * k + (if back = true then 1 else 0)) (by split <;> omega) ⟨k, back, hk, rfl, hs, hcs⟩
      · exact ⟨q1, q2⟩) (n := 1000000) (s := σ) ⟨hI, by omega, fun w => w⟩ (by omega)
  obtain ⟨σ', rfl, h1, h2⟩ := hQ
  exact ⟨σ', e, h1, h2⟩
theorem ends_round {n : Net} {σ : PE} (hq : HLow n (asE σ)) (j : Nat) : (∃ σ', weirkeep_PushEnds_B1 n j σ = some (.go σ') ∧ NextP n (asE σ) (asE σ')) ∨ (weirkeep_PushEnds_B1 n j σ = some (.brk σ) ∧ ∀ x : Int, 0 ≤ x → x < n.n → ¬ BusyP n (asE σ).flow x) := by
  obtain ⟨a, b, c, L, f, h⟩ := σ
  obtain ⟨l, el, hl, h1 | ⟨h1, h2, h3⟩⟩ := busyL_ok hq.pv
  · obtain ⟨rfl, h1⟩ := h1
    right
    refine ⟨?_, h1⟩
    unfold weirkeep_PushEnds_B1
    dsimp only
    have el' : push_Busy_F ⟨⟨a, b, c, L⟩, f, h⟩ = some ([], 0) := el
    rw [el', bind_some']
    dsimp only
    rw [if_neg (by decide), if_pos (show ((([] : List Int).length : Nat) : Int) = 0 from rfl)]
  · left
    unfold weirkeep_PushEnds_B1
    dsimp only
    have el' : push_Busy_F ⟨⟨a, b, c, L⟩, f, h⟩ = some (l, 0) := el
    rw [el', bind_some']
    dsimp only
    rw [if_neg (by decide), if_neg (by omega), ck_some h1]
    have fin : ∀ τ : PF, InvF n ⟨⟨a, b, c, L⟩, f, h⟩ (l.getD 0 0) τ → cntF τ = 0 → (errF τ ≠ 0 → ∃ k back, k < n.as.length ∧ srcP n k back = l.getD 0 0 ∧ CanSend n ⟨⟨a, b, c, L⟩, f, h⟩ k back) → ∃ σ', ((loopC (weirkeep_PushEnds_B2 n a b c L f h l) 1000000 τ).bind fun q => match q with
        | .go (x65, x66, x67, l68, l69, l70, x71, n72) => if x71 ≠ 0 then some (.ret false) else some (.go (x65, x66, x67, l68, l69, l70))
        | .ret x => some x : Option (Ct PE Bool)) = some (.go σ') ∧ NextP n ⟨⟨a, b, c, L⟩, f, h⟩ (asE σ') := fun τ i1 i2 i3 => by
      obtain ⟨σ', e, p1, p2⟩ := ends_loop hq i1 i2 i3
      rw [e, bind_some']
      obtain ⟨y1, y2, y3, y4, y5, y6, ee, i⟩ := σ'
      have p1' : ee = 0 := p1
      dsimp only
      rw [if_neg (fun w => w p1')]
      exact ⟨_, rfl, p2⟩
    rcases lift_iff hq.pv hq.low h2.1 h2.2 h3 with ⟨low, e, p, l1, l2⟩ | ⟨e, he, hz, hcan⟩
    · have e' : push_Lift_F ⟨⟨a, b, c, L⟩, f, h⟩ (l.getD 0 0) = some (⟨⟨a, b, c, L⟩, f, h.set (l.getD 0 0).toNat low⟩, 0) := e
      rw [e', bind_some']
      dsimp only
      exact fin _ (.inr ⟨rfl, lift_pot hq h2.1 h2.2 p l1 l2⟩) rfl fun w => absurd rfl w
    · have e' : push_Lift_F ⟨⟨a, b, c, L⟩, f, h⟩ (l.getD 0 0) = some (⟨⟨0, 0, 0, []⟩, [], []⟩, e) := hz
      rw [e', bind_some']
      dsimp only
      exact fin _ (.inl ⟨he, Nat.zero_le _, fun j hj => absurd hj (by show ¬ j < 0; omega)⟩) rfl fun _ => hcan
theorem PushEnds_true (n : Net) (steps : List Int) {P : Prop} (_ : P) (hl' : (∀ x, x ∈ steps → InI x) ∧ steps.length ≤ maxLen) : weirkeep_PushEnds_F n steps = some true := by
  have hl := hl'.2
  unfold weirkeep_PushEnds_F
  rw [pushE_eq, bind_some', if_neg (by decide)]
  by_cases hn : OkNet n
  · obtain ⟨q, d, e, hPH⟩ := pushed_ok hn hl
    have h0 : HLow n q := ⟨hPH.pv, hPH.low⟩
    rw [e, bind_some']
    dsimp only
    rw [if_neg (by decide)]
    have hp0 := pot_range h0
    obtain ⟨x, ex, hx⟩ := forC_or (f := weirkeep_PushEnds_B1 n) (fun j σ => HLow n (asE σ) ∧ Pot n (asE σ).flow (asE σ).height ≤ 37000 - j) (fun r => ∃ σ, r = .go σ ∧ HLow n (asE σ) ∧ ∀ y : Int, 0 ≤ y → y < n.n → ¬ BusyP n (asE σ).flow y) (n := 60000) (k := 0) (s := (q.net.n, q.net.s, q.net.t, q.net.as, q.flow, q.height)) ⟨h0, by
        have : Pot n q.flow q.height ≤ 37000 := hp0.2
        show Pot n q.flow q.height ≤ 37000 - ((0 : Nat) : Int)
        omega⟩ (fun j σ _ _ ⟨i1, i2⟩ => by
        rcases ends_round i1 j with ⟨σ', e, p1, p2⟩ | ⟨e, p⟩
        · exact .inl ⟨σ', e, p1, by omega⟩
        · exact .inr (.inl ⟨σ, e, σ, rfl, i1, p⟩)) (fun σ ⟨i1, i2⟩ => by
        have := (pot_range i1).1
        omega)
    obtain ⟨σ, rfl, hσ, hno⟩ := hx
    rw [ex, bind_some']
    obtain ⟨a, b, c, L, f, h⟩ := σ
    dsimp only
    have hF := rest_flow hσ.pv hno
    have hM := rest_max hσ.pv hF
    obtain ⟨l, el, _, h1 | ⟨_, h2, h3⟩⟩ := busyL_ok hσ.pv
    · obtain ⟨rfl, _⟩ := h1
      have el' : push_Busy_F ⟨⟨a, b, c, L⟩, f, h⟩ = some ([], 0) := el
      have hv : flow_Value_F n f = some (netAt n.as f n.s, 0) := value_ok hF
      obtain ⟨g, v, eo, hg, hgv, S, hS, hT⟩ := of_ok hn
      rw [el', bind_some']
      dsimp only
      rw [hv, bind_some']
      dsimp only
      rw [eo, bind_some']
      dsimp only
      rw [if_pos rfl, if_pos (show ((([] : List Int).length : Nat) : Int) = 0 from rfl), if_pos rfl, if_pos rfl]
      refine congrArg some (decide_eq_true ?_)
      exact hM.uniq ⟨⟨g, hg, hgv⟩, S, hS, by rw [← hgv]; exact (hg.eq_cut hS hT).symm⟩
    · exact absurd h3 (hno _ h2.1 h2.2)
  · obtain ⟨q, d, e⟩ := pushed_bad hn steps
    rw [e, bind_some']
    dsimp only
    rw [if_pos (show (!false) = true from rfl)]
end Go.Proofs.Ytdklbcgfjleagaa
