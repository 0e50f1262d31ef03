/- Package cut: spread, Least, Greatest. -/
import Derived.Test.YtfnldmbomampiaaPcut
namespace Go.Proofs.Ytfnldmbomampiaa
open Go Go.Proofs.Ytfnldmbomampiaa.Sx
set_option linter.unusedVariables false
set_option linter.unusedSimpArgs false
/-- one half of a step: from x on to y, where c holds -/
def halfS (c : Bool) (s x y : Int) : Int := if c = true ∧ bit s x = 1 then bitsOf .or .u16 s (shl y) else s
def ends (L : List Arc) (turned : Bool) (k : Nat) : Int × Int := if turned = true then ((L.getD k El.d).t, (L.getD k El.d).f) else ((L.getD k El.d).f, (L.getD k El.d).t)
def stepS (L : List Arc) (f : List Int) (turned : Bool) (s : Int) (k : Nat) : Int :=
  halfS (decide (0 < f.getD k 0)) (halfS (decide (f.getD k 0 < (L.getD k El.d).c)) s (ends L turned k).1 (ends L turned k).2) (ends L turned k).2 (ends L turned k).1
theorem half_iff {c : Bool} {s x y z : Int} (hy : 0 ≤ y ∧ y < 16) (hz : 0 ≤ z ∧ z < 16) : bit (halfS c s x y) z = 1 ↔ bit s z = 1 ∨ (z = y ∧ c = true ∧ bit s x = 1) := by
  unfold halfS
  by_cases h : c = true ∧ bit s x = 1
  · rw [if_pos h, bit_or s (shl y) hz.1 hz.2, bit_shl hz hy]
    constructor
    · rintro (h1 | h1)
      · exact .inl h1
      · exact .inr ⟨h1, h⟩
    · rintro (h1 | ⟨h1, _⟩)
      · exact .inl h1
      · exact .inr h1
  · rw [if_neg h]
    constructor
    · exact .inl
    · rintro (h1 | ⟨_, h1⟩)
      · exact h1
      · exact absurd h1 h
theorem half_hi {c : Bool} {s x y : Int} {n : Nat} (hn : n ≤ 16) (hy : 0 ≤ y ∧ y < n) (hs : Int.fdiv s (2 ^ n) = 0) : Int.fdiv (halfS c s x y) (2 ^ n) = 0 := by
  unfold halfS
  split
  · exact hi_or hn hs (shl_hi hn hy.1 hy.2)
  · exact hs
theorem step_iff {L : List Arc} {f : List Int} {turned : Bool} {s z : Int} {k : Nat} (h1 : 0 ≤ (ends L turned k).1 ∧ (ends L turned k).1 < 16) (h2 : 0 ≤ (ends L turned k).2 ∧ (ends L turned k).2 < 16) (hz : 0 ≤ z ∧ z < 16) :
    bit (stepS L f turned s k) z = 1 ↔ bit s z = 1 ∨ (z = (ends L turned k).2 ∧ f.getD k 0 < (L.getD k El.d).c ∧ bit s (ends L turned k).1 = 1) ∨
      (z = (ends L turned k).1 ∧ 0 < f.getD k 0 ∧ (bit s (ends L turned k).2 = 1 ∨ (f.getD k 0 < (L.getD k El.d).c ∧ bit s (ends L turned k).1 = 1))) := by
  unfold stepS
  rw [half_iff h1 hz, half_iff h2 hz, half_iff h2 h2, decide_eq_true_eq, decide_eq_true_eq]
  constructor
  · rintro ((h | h) | ⟨h, hc, h3 | ⟨_, h3⟩⟩)
    · exact .inl h
    · exact .inr (.inl h)
    · exact .inr (.inr ⟨h, hc, .inl h3⟩)
    · exact .inr (.inr ⟨h, hc, .inr h3⟩)
  · rintro (h | h | ⟨h, hc, h3 | h3⟩)
    · exact .inl (.inl h)
    · exact .inl (.inr h)
    · exact .inr ⟨h, hc, .inl h3⟩
    · exact .inr ⟨h, hc, .inr ⟨rfl, h3⟩⟩
theorem spread_arc {n : Net} {f : List Int} (hn : OkNet n) (hl : f.length = n.as.length) (turned : Bool) {k : Nat} (hk : k < n.as.length) (s : Int) : cut_spread_B2 n f turned k s = some (stepS n.as f turned s k) := by
  have hG := hn.arc hk
  have f0 := hG.f0; have t0 := hG.t0
  unfold cut_spread_B2 stepS ends
  simp only [bit_fold]
  have main : ∀ x y : Int, 0 ≤ x → 0 ≤ y → ((ck (k < f.length) <| if f.getD k (0 : Int) < (n.as.getD k El.d).c then ck (0 ≤ x) <| (if bit s x = 1 then ck (0 ≤ y) <| some (bitsOf .or .u16 s (IntKind.u16.wrap (1 * 2 ^ min y.toNat 16))) else some s) else some s : Option Int).bind fun x25 =>
      ck (k < f.length) <| if 0 < f.getD k (0 : Int) then ck (0 ≤ y) <| (if bit x25 y = 1 then ck (0 ≤ x) <| some (bitsOf .or .u16 x25 (IntKind.u16.wrap (1 * 2 ^ min x.toNat 16))) else some x25) else some x25) =
      some (halfS (decide (0 < f.getD k 0)) (halfS (decide (f.getD k 0 < (n.as.getD k El.d).c)) s x y) y x) := fun x y hx hy => by
    have half : ∀ (p : Prop) [Decidable p] (s x y : Int), 0 ≤ x → 0 ≤ y → (if p then ck (0 ≤ x) (if bit s x = 1 then ck (0 ≤ y) (some (bitsOf .or .u16 s (IntKind.u16.wrap (1 * 2 ^ min y.toNat 16)))) else some s) else some s) = some (halfS (decide p) s x y) := fun p _ s x y hx hy => by
      unfold halfS
      by_cases hp : p
      · rw [if_pos hp, ck_some hx, decide_eq_true hp]
        by_cases hb : bit s x = 1
        · rw [if_pos hb, ck_some hy, if_pos ⟨rfl, hb⟩]; rfl
        · rw [if_neg hb, if_neg (fun h => hb h.2)]
      · rw [if_neg hp, decide_eq_false hp, if_neg (fun h => Bool.noConfusion h.1)]
    rw [ck_some (by omega), half _ s x y hx hy, bind_some', ck_some (by omega), half _ _ y x hy hx]
  cases turned with
  | true => exact main _ _ t0 f0
  | false => exact main _ _ f0 t0
/-- what the set that is spread is: from a node on, over what is left, no more -/
structure Spread (n : Net) (f : List Int) (at' : Int) (turned : Bool) (s : Int) : Prop where
  hi : Int.fdiv s (2 ^ n.n.toNat) = 0
  at_ : bit s at' = 1
  fw : ∀ k, k < n.as.length → f.getD k 0 < (n.as.getD k El.d).c → bit s (ends n.as turned k).1 = 1 → bit s (ends n.as turned k).2 = 1
  bw : ∀ k, k < n.as.length → 0 < f.getD k 0 → bit s (ends n.as turned k).2 = 1 → bit s (ends n.as turned k).1 = 1
  least : ∀ T : Int → Prop, T at' → (∀ k, k < n.as.length → f.getD k 0 < (n.as.getD k El.d).c → T (ends n.as turned k).1 → T (ends n.as turned k).2) → (∀ k, k < n.as.length → 0 < f.getD k 0 → T (ends n.as turned k).2 → T (ends n.as turned k).1) → ∀ x, 0 ≤ x → x < n.n → bit s x = 1 → T x
theorem ends_in {n : Net} (hn : OkNet n) (turned : Bool) {k : Nat} (hk : k < n.as.length) : (0 ≤ (ends n.as turned k).1 ∧ (ends n.as turned k).1 < n.n) ∧ 0 ≤ (ends n.as turned k).2 ∧ (ends n.as turned k).2 < n.n := by
  have hG := hn.arc hk
  have := hG.f0; have := hG.f1; have := hG.t0; have := hG.t1
  unfold ends
  split <;> dsimp only <;> omega
theorem spread_ok {n : Net} {f : List Int} (hn : OkNet n) (hl : f.length = n.as.length) {at' : Int} (h0 : 0 ≤ at') (h1 : at' < n.n) (turned : Bool) : ∃ s, cut_spread_F n f at' turned = some s ∧ Spread n f at' turned s := by
  have n1 := hn.g.n1; have n0 := hn.g.n0
  dsimp only at n0 n1
  have hin : ∀ k, k ∈ List.range n.as.length → (0 ≤ (ends n.as turned k).1 ∧ (ends n.as turned k).1 < n.n) ∧ 0 ≤ (ends n.as turned k).2 ∧ (ends n.as turned k).2 < n.n := fun k hk => ends_in hn turned (List.mem_range.1 hk)
  have hV : ∀ s k, k ∈ List.range n.as.length → Int.fdiv s (2 ^ n.n.toNat) = 0 → Int.fdiv (stepS n.as f turned s k) (2 ^ n.n.toNat) = 0 := fun s k hk hs => by
    have := hin k hk
    exact half_hi (by omega) (by omega) (half_hi (by omega) (by omega) hs)
  have hround : ∀ k s, Int.fdiv s (2 ^ n.n.toNat) = 0 → cut_spread_B1 n f turned k s = some ((List.range n.as.length).foldl (stepS n.as f turned) s) := fun k s hs => by
    unfold cut_spread_B1
    have := forN_list (f := cut_spread_B2 n f turned) (List.range n.as.length) 0 (stepS n.as f turned) (fun _ _ => True) (s := s) trivial fun j s hj _ => by
      have hj' : j < n.as.length := by simpa using hj
      have e : (List.range n.as.length).getD j 0 = j := by simp [List.getD_eq_getElem?_getD, hj']
      rw [e]
      exact ⟨spread_arc hn hl turned hj' s, trivial⟩
    rw [List.length_range] at this
    rw [this.1]; rfl
  have hfold : ∀ (M : List Nat), (∀ b, b ∈ M → b ∈ List.range n.as.length) → ∀ s, Int.fdiv s (2 ^ n.n.toNat) = 0 → Int.fdiv (M.foldl (stepS n.as f turned) s) (2 ^ n.n.toNat) = 0 := by
    intro M
    induction M with
    | nil => intro _ s h; exact h
    | cons b M ih => intro hM s h; exact ih (fun c hc => hM c (by simp [hc])) _ (hV s b (hM b (by simp)) h)
  have s0 : Int.fdiv (shl at') (2 ^ n.n.toNat) = 0 := shl_hi (by omega) h0 (by omega)
  obtain ⟨e1, hfin⟩ := forN_iter (f := cut_spread_B1 n f turned) (g := fun s => (List.range n.as.length).foldl (stepS n.as f turned) s) (fun s => Int.fdiv s (2 ^ n.n.toNat) = 0) (fun s hs => hfold _ (fun _ h => h) s hs) hround (n := n.n.toNat) (k := 0) s0
  have hiff : ∀ s k, k ∈ List.range n.as.length → ∀ x, 0 ≤ x → x < n.n → (bit (stepS n.as f turned s k) x = 1 ↔ bit s x = 1 ∨ (x = (ends n.as turned k).2 ∧ f.getD k 0 < (n.as.getD k El.d).c ∧ bit s (ends n.as turned k).1 = 1) ∨
      (x = (ends n.as turned k).1 ∧ 0 < f.getD k 0 ∧ (bit s (ends n.as turned k).2 = 1 ∨ (f.getD k 0 < (n.as.getD k El.d).c ∧ bit s (ends n.as turned k).1 = 1)))) := fun s k hk x hx hx2 => by
    have := hin k hk
    exact step_iff (by omega) (by omega) (by omega)
  have hrest := rest_fold (n := n.n) (List.range n.as.length) (stepS n.as f turned) (fun s x => bit s x = 1) (fun s => Int.fdiv s (2 ^ n.n.toNat) = 0) hV
    (fun s k hk hs x hx hx2 h => (hiff s k hk x hx hx2).2 (.inl h))
    (fun s s' k hk hs hs' h x hx hx2 => by
      have := hin k hk
      rw [hiff s k hk x hx hx2, hiff s' k hk x hx hx2, h x hx hx2, h _ this.1.1 this.1.2, h _ this.2.1 this.2.2]) s0
    ⟨at', h0, h1, (bit_shl (by omega) (by omega)).2 rfl⟩
  have hT : ∀ T : Int → Prop, T at' → (∀ k, k < n.as.length → f.getD k 0 < (n.as.getD k El.d).c → T (ends n.as turned k).1 → T (ends n.as turned k).2) → (∀ k, k < n.as.length → 0 < f.getD k 0 → T (ends n.as turned k).2 → T (ends n.as turned k).1) →
      ∀ m, ∀ x, 0 ≤ x → x < n.n → bit (iter (fun s => (List.range n.as.length).foldl (stepS n.as f turned) s) m (shl at')) x = 1 → T x := fun T t0 t1 t2 m => by
    have hf : ∀ (M : List Nat), (∀ b, b ∈ M → b ∈ List.range n.as.length) → ∀ s, (∀ x, 0 ≤ x → x < n.n → bit s x = 1 → T x) → ∀ x, 0 ≤ x → x < n.n → bit (M.foldl (stepS n.as f turned) s) x = 1 → T x := by
      intro M
      induction M with
      | nil => intro _ s h; exact h
      | cons b M ih =>
        intro hM s h
        refine ih (fun c hc => hM c (by simp [hc])) _ fun x hx hx2 hb => ?_
        have hbm := hM b (by simp)
        have hr := List.mem_range.1 hbm
        have hi := hin b hbm
        rcases (hiff s b hbm x hx hx2).1 hb with h1 | ⟨e, h1, h2⟩ | ⟨e, h1, h2 | ⟨h2, h3⟩⟩
        · exact h x hx hx2 h1
        · rw [e]; exact t1 b hr h1 (h _ hi.1.1 hi.1.2 h2)
        · rw [e]; exact t2 b hr h1 (h _ hi.2.1 hi.2.2 h2)
        · rw [e]; exact h _ hi.1.1 hi.1.2 h3
    induction m with
    | zero =>
      intro x hx hx2 hb
      have : x = at' := (bit_shl (by omega) (by omega)).1 hb
      rw [this]; exact t0
    | succ m ih => exact hf _ (fun _ h => h) _ ih
  have hat : ∀ m, bit (iter (fun s => (List.range n.as.length).foldl (stepS n.as f turned) s) m (shl at')) at' = 1 := fun m => by
    have hf : ∀ (M : List Nat), (∀ b, b ∈ M → b ∈ List.range n.as.length) → ∀ s, bit s at' = 1 → bit (M.foldl (stepS n.as f turned) s) at' = 1 := by
      intro M
      induction M with
      | nil => intro _ s h; exact h
      | cons b M ih => intro hM s h; exact ih (fun c hc => hM c (by simp [hc])) _ ((hiff s b (hM b (by simp)) at' h0 h1).2 (.inl h))
    induction m with
    | zero => exact (bit_shl (by omega) (by omega)).2 rfl
    | succ m ih => exact hf _ (fun _ h => h) _ ih
  unfold cut_spread_F
  rw [ck_some h0, ck_some (inI_small (by omega) (by omega))]
  have e2 : forN (cut_spread_B1 n f turned) n.n.toNat 0 (IntKind.u16.wrap (1 * 2 ^ min at'.toNat 16)) = _ := e1
  rw [e2, bind_some']
  refine ⟨_, rfl, hfin, hat _, fun k hk hc hb => ?_, fun k hk hc hb => ?_, fun T t0 t1 t2 => hT T t0 t1 t2 _⟩
  · obtain ⟨s, _, q1, q2⟩ := hrest k (List.mem_range.2 hk)
    have hi := hin k (List.mem_range.2 hk)
    exact q2 _ hi.2.1 hi.2.2 ((hiff s k (List.mem_range.2 hk) _ hi.2.1 hi.2.2).2 (.inr (.inl ⟨rfl, hc, (q1 _ hi.1.1 hi.1.2).2 hb⟩)))
  · obtain ⟨s, _, q1, q2⟩ := hrest k (List.mem_range.2 hk)
    have hi := hin k (List.mem_range.2 hk)
    exact q2 _ hi.1.1 hi.1.2 ((hiff s k (List.mem_range.2 hk) _ hi.1.1 hi.1.2).2 (.inr (.inr ⟨rfl, hc, .inl ((q1 _ hi.2.1 hi.2.2).2 hb)⟩)))
/-! ### the least and the greatest side -/
/-- a side that takes as little as can be -/
structure MinCut (n : Net) (v : Int) (S : Int → Int) : Prop where
  cut : Cut n S
  cap : capS n.as S = v
structure LeastS (n : Net) (v low : Int) : Prop where
  side : Side n low
  cap : capS n.as (bit low) = v
  least : ∀ S, MinCut n v S → ∀ x, 0 ≤ x → x < n.n → bit low x = 1 → S x = 1
structure GreatS (n : Net) (v high : Int) : Prop where
  side : Side n high
  cap : capS n.as (bit high) = v
  most : ∀ S, MinCut n v S → ∀ x, 0 ≤ x → x < n.n → S x = 1 → bit high x = 1
theorem hi_min {n : Net} (hn : OkNet n) {s : Int} : Int.fdiv s (2 ^ min n.n.toNat 16) = 0 ↔ Int.fdiv s (2 ^ n.n.toNat) = 0 := by
  have n1 := hn.g.n1
  dsimp only at n1
  rw [Nat.min_eq_left (by omega)]
theorem Flow.minCut_tight {n : Net} {f : List Int} (hf : Flow n f) {v : Int} (hv : netAt n.as f n.s = v) {S : Int → Int} (hS : MinCut n v S) : Tight n f S := hf.tight hS.cut (hv.trans hS.cap.symm)
theorem least_ok {n : Net} (hn : OkNet n) : ∃ low v, cut_Least_F n = some (low, v, 0) ∧ LeastS n v low ∧ MaxV n v := by
  obtain ⟨f, v, e, hf, hv, S, hS, hT⟩ := of_ok hn
  have n1 := hn.g.n1; have n0 := hn.g.n0; have s0 := hn.s0; have s1 := hn.s1; have t0 := hn.t0; have t1 := hn.t1
  dsimp only at n0 n1
  obtain ⟨s, es, hs⟩ := spread_ok hn hf.len s0 s1 false
  unfold cut_Least_F
  rw [e, bind_some']
  dsimp only
  rw [if_neg (by decide), es, bind_some']
  have lst : ∀ S, Cut n S → Tight n f S → ∀ x, 0 ≤ x → x < n.n → bit s x = 1 → S x = 1 := fun S hS hT => hs.least (fun x => S x = 1) hS.s (fun k hk hc h => (hS.b _).resolve_left fun h0 => by have := hT.out k hk h h0; omega) (fun k hk hc h => (hS.b _).resolve_left fun h0 => by have := hT.inn k hk h0 h; omega)
  have hside : Side n s := ⟨hn, (hi_min hn).2 hs.hi, hs.at_, (bit01 s n.t).resolve_right fun h => by
    have := lst S hS hT n.t t0 t1 h
    have := hS.t
    omega⟩
  have hts : Tight n f (bit s) := ⟨fun k hk h1 h2 => by
    have hr := hf.r k (by rw [hf.len]; exact hk)
    refine Classical.byContradiction fun hne => ?_
    have h3 : bit s (n.as.getD k El.d).t = 1 := hs.fw k hk (by omega) h1
    omega, fun k hk h1 h2 => by
    have hr := hf.r k (by rw [hf.len]; exact hk)
    refine Classical.byContradiction fun hne => ?_
    have h3 : bit s (n.as.getD k El.d).f = 1 := hs.bw k hk (by omega) h2
    omega⟩
  exact ⟨s, v, rfl, ⟨hside, by rw [← hv]; exact (hf.eq_cut hside.cut hts).symm, fun S' hS' => lst S' hS'.cut (hf.minCut_tight hv hS')⟩, ⟨f, hf, hv⟩, S, hS, by rw [← hv]; exact (hf.eq_cut hS hT).symm⟩
theorem least_bad {n : Net} (h : ¬ OkNet n) : ∃ e, e ≠ 0 ∧ graph_CheckNet_F n = some e ∧ cut_Least_F n = some (0, 0, e) := by
  obtain ⟨e, he, hc, h1⟩ := of_bad h
  unfold cut_Least_F
  exact ⟨e, he, hc, by rw [h1, bind_some']; dsimp only; rw [if_pos he]⟩
end Go.Proofs.Ytfnldmbomampiaa
