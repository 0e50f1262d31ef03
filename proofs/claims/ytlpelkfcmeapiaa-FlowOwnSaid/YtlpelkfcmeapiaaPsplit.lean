/- Package flow: Split takes a flow apart into ways and rounds. -/
import Derived.Test.YtlpelkfcmeapiaaPpieces
namespace Go.Proofs.Ytlpelkfcmeapiaa
open Go Go.Proofs.Ytlpelkfcmeapiaa.Sx
set_option linter.unusedVariables false
set_option linter.unusedSimpArgs false
/-- what all pieces have on arc k -/
def amtL : List Piece → Nat → Int
  | [], _ => 0
  | p :: ps, k => p.amount * inA p.arcs k + amtL ps k
def valL : List Piece → Int
  | [] => 0
  | p :: ps => p.amount + valL ps
theorem amtL_snoc (ps : List Piece) (p : Piece) (k : Nat) : amtL (ps ++ [p]) k = amtL ps k + p.amount * inA p.arcs k := by
  induction ps with
  | nil => simp [amtL]
  | cons q ps ih => simp only [List.cons_append, amtL, ih]; omega
theorem valL_snoc (ps : List Piece) (p : Piece) : valL (ps ++ [p]) = valL ps + p.amount := by
  induction ps with
  | nil => simp [valL]
  | cons q ps ih => simp only [List.cons_append, valL, ih]; omega
/-- a piece from a to b -/
structure PieceP (L : List Arc) (p : Piece) (a b : Int) : Prop where
  ch : Chain L p.arcs a b
  len : 1 ≤ p.arcs.length
  a1 : 1 ≤ p.amount
theorem Fits.piece {L : List Arc} {left : List Int} {p : Piece} {a b : Int} (h : Fits L left p a b) : PieceP L p a b := ⟨h.ch, h.len, h.a1⟩
theorem Fits.less {L : List Arc} {left : List Int} {p : Piece} {a b : Int} (h : Fits L left p a b) {x : Int} (h0 : 1 ≤ x) (hx : x ≤ p.amount) : Fits L left ⟨x, p.arcs⟩ a b :=
  ⟨h.ch, h.len, h0, by have := h.a2; dsimp only; omega, fun i hi => by have := h.le i hi; dsimp only; omega⟩
theorem inA01 (arcs : List Int) (k : Nat) : 0 ≤ inA arcs k ∧ inA arcs k ≤ 1 := by unfold inA; split <;> omega
theorem tot_lt {f g : Nat → Int} {n : Nat} (h : ∀ i, i < n → f i ≤ g i) {k : Nat} (hk : k < n) (hlt : f k < g k) : tot f n < tot g n := by
  have h1 := tot_le h
  rcases Int.lt_or_le (tot f n) (tot g n) with c | c
  · exact c
  · have := tot_eq_each h (by omega) k hk
    omega
theorem out_of_pos {L : List Arc} {left : List Int} (hr : ∀ k, k < L.length → 0 ≤ left.getD k 0 ∧ left.getD k 0 ≤ 10000) {x : Int} (hx : 0 < netAt L left x) : ∃ j, j < L.length ∧ (L.getD j El.d).f = x ∧ 0 < left.getD j 0 := by
  refine Classical.byContradiction fun c => ?_
  have : netAt L left x ≤ tot (fun _ => 0) L.length := tot_le fun j hj => by
    have := hr j hj
    unfold term
    split
    · rename_i q
      have : ¬ 0 < left.getD j 0 := fun z => c ⟨j, hj, q, z⟩
      split <;> omega
    · split <;> omega
  rw [tot_const] at this
  omega
/-- after a piece is taken -/
theorem took {L : List Arc} {left : List Int} {p : Piece} {a b : Int} (hl : left.length = L.length) (hr : ∀ k, k < L.length → 0 ≤ left.getD k 0 ∧ left.getD k 0 ≤ 10000) (h : Fits L left p a b) :
    ∃ left', flow_take_F left p = some left' ∧ left'.length = L.length ∧ (∀ k, k < L.length → 0 ≤ left'.getD k 0 ∧ left'.getD k 0 ≤ 10000) ∧ (∀ k, k < L.length → left.getD k 0 = left'.getD k 0 + p.amount * inA p.arcs k) ∧ (∀ k, k < L.length → left'.getD k 0 ≤ left.getD k 0) ∧ (∀ z, netAt L left' z = netAt L left z - p.amount * ((if a = z then 1 else 0) - (if b = z then 1 else 0))) ∧ tot (fun k => left'.getD k 0) L.length < tot (fun k => left.getD k 0) L.length := by
  obtain ⟨left', e, h1, h2, h3⟩ := take_ok hl hr h
  have ha := h.a1
  have nn : ∀ k, 0 ≤ p.amount * inA p.arcs k := fun k => Int.mul_nonneg (by omega) (inA01 _ _).1
  have low : ∀ k, k < L.length → 0 ≤ left'.getD k 0 := fun k hk => by
    rw [h2 k hk]
    unfold inA
    by_cases c : (k : Int) ∈ p.arcs
    · rw [if_pos c, Int.mul_one]
      obtain ⟨i, hi, ei⟩ := getD_of_mem (d := 0) c
      have := h.le i hi
      rw [ei, Int.toNat_natCast] at this
      omega
    · rw [if_neg c, Int.mul_zero]
      have := hr k hk
      omega
  refine ⟨left', e, h1, fun k hk => ⟨low k hk, ?_⟩, fun k hk => by rw [h2 k hk]; omega, fun k hk => by rw [h2 k hk]; have := nn k; omega, h3, ?_⟩
  · have := nn k; have := hr k hk; rw [h2 k hk]; omega
  · have r0 := h.ch.rg 0 (by have := h.len; omega)
    refine tot_lt (k := (p.arcs.getD 0 0).toNat) (fun k hk => by rw [h2 k hk]; have := nn k; omega) (by omega) ?_
    rw [h2 _ (by omega)]
    have : inA p.arcs (p.arcs.getD 0 0).toNat = 1 := by
      unfold inA
      rw [if_pos]
      rw [show (((p.arcs.getD 0 0).toNat : Nat) : Int) = p.arcs.getD 0 0 by omega]
      exact mem_getD (by have := h.len; omega)
    rw [this, Int.mul_one]
    omega
/-- what both loops keep -/
structure SI (n : Net) (f left : List Int) (ways rounds : List Piece) (x : Int) : Prop where
  len : left.length = n.as.length
  r : ∀ k, k < n.as.length → 0 ≤ left.getD k 0 ∧ left.getD k 0 ≤ 10000
  sum : ∀ k, k < n.as.length → f.getD k 0 = left.getD k 0 + amtL ways k + amtL rounds k
  bs : netAt n.as left n.s = x
  bt : netAt n.as left n.t = -x
  bz : ∀ z, z ≠ n.s → z ≠ n.t → netAt n.as left z = 0
  ws : ∀ p, p ∈ ways → PieceP n.as p n.s n.t
  rs : ∀ p, p ∈ rounds → ∃ b, PieceP n.as p b b
  cw : ways.length ≤ 600000
  cr : (rounds.length : Int) + (ways.length : Int) + tot (fun k => left.getD k 0) n.as.length ≤ 600000
theorem tot_rg {n : Net} (hm : n.as.length ≤ 60) {left : List Int} (hr : ∀ k, k < n.as.length → 0 ≤ left.getD k 0 ∧ left.getD k 0 ≤ 10000) : 0 ≤ tot (fun k => left.getD k 0) n.as.length ∧ tot (fun k => left.getD k 0) n.as.length ≤ 600000 := by
  have h1 := tot_nonneg (f := fun k => left.getD k 0) (n := n.as.length) fun k hk => (hr k hk).1
  have h2 := tot_le (f := fun k => left.getD k 0) (g := fun _ => 10000) (n := n.as.length) fun k hk => (hr k hk).2
  rw [tot_const] at h2
  omega
theorem split_round1 {n : Net} {f : List Int} (hn : OkNet n) {v x : Int} {left : List Int} {ways rounds : List Piece} (h : SI n f left ways rounds x) (hv : valL ways + x = v) (hx : 0 < x) (hx2 : x ≤ 1000000) :
    ∃ x' left' ways' rounds', flow_Split_B1 n (x, left, ways, rounds) = some (.go (x', left', ways', rounds')) ∧ SI n f left' ways' rounds' x' ∧ valL ways' + x' = v ∧ 0 ≤ x' ∧ x' ≤ 1000000 ∧ tot (fun k => left'.getD k 0) n.as.length < tot (fun k => left.getD k 0) n.as.length := by
  have hm := hn.g.len
  dsimp only at hm
  have hst : n.s ≠ n.t := hn.ne
  have hg : Going n left := ⟨h.len, hm, h.r, fun k hk => hn.small hk, fun z hz => by
    by_cases c : z = n.s
    · rw [c, h.bs]; omega
    · rw [h.bz z c hz]; exact Int.le_refl _⟩
  have hout := out_of_pos h.r (x := n.s) (by rw [h.bs]; exact hx)
  obtain ⟨p, r, ep, hp⟩ := piece_ok hg hst hout
  have cr := h.cr
  have t0 := tot_rg hm h.r
  unfold flow_Split_B1
  dsimp only
  rw [if_pos hx, ep, bind_some']
  dsimp only
  rcases hp with ⟨rfl, hF⟩ | ⟨rfl, b, hF⟩
  · have ha := hF.a1
    have hF' := hF.less (x := min p.amount x) (by omega) (by omega)
    obtain ⟨left', et, k1, k2, k3, k4, k5, k6⟩ := took h.len h.r hF'
    dsimp only at k3 k5
    have ha2 := hF.a2
    have t1 := tot_rg hm k2
    rw [if_neg (by decide), ck_some (by omega), ck_some (inI_small (by omega) (by omega))]
    try rw [bind_some']
    try dsimp only
    rw [et, bind_some', ck_some (by rw [k1, h.len])]
    refine ⟨_, _, _, _, rfl, ⟨k1, k2, fun k hk => ?_, ?_, ?_, fun z hz1 hz2 => ?_, fun q hq => ?_, h.rs, by simp only [List.length_append, List.length_cons, List.length_nil]; omega, by simp only [List.length_append, List.length_cons, List.length_nil]; omega⟩, ?_, by omega, by omega, k6⟩
    · rw [amtL_snoc, h.sum k hk, k3 k hk]; dsimp only; omega
    · rw [k5, h.bs, if_pos rfl, if_neg (fun e => hst e.symm)]; omega
    · rw [k5, h.bt, if_neg hst, if_pos rfl]; omega
    · rw [k5, h.bz z hz1 hz2, if_neg (fun e => hz1 e.symm), if_neg (fun e => hz2 e.symm)]; omega
    · rcases List.mem_append.1 hq with hq | hq
      · exact h.ws q hq
      · obtain rfl := List.mem_singleton.1 hq
        exact hF'.piece
    · rw [valL_snoc]; dsimp only; omega
  · have ha := hF.a1
    obtain ⟨left', et, k1, k2, k3, k4, k5, k6⟩ := took h.len h.r hF
    rw [if_pos rfl, ck_some (by omega)]
    try rw [bind_some']
    try dsimp only
    rw [et, bind_some', ck_some (by rw [k1, h.len])]
    have same : ∀ z, netAt n.as left' z = netAt n.as left z := fun z => by rw [k5, Int.sub_self, Int.mul_zero, Int.sub_zero]
    refine ⟨_, _, _, _, rfl, ⟨k1, k2, fun k hk => ?_, by rw [same]; exact h.bs, by rw [same]; exact h.bt, fun z hz1 hz2 => by rw [same]; exact h.bz z hz1 hz2, h.ws, fun q hq => ?_, h.cw, by simp only [List.length_append, List.length_cons, List.length_nil]; omega⟩, hv, by omega, hx2, k6⟩
    · rw [amtL_snoc, h.sum k hk, k3 k hk]; omega
    · rcases List.mem_append.1 hq with hq | hq
      · exact h.rs q hq
      · obtain rfl := List.mem_singleton.1 hq
        exact ⟨b, hF.piece⟩
theorem split_loop1 {n : Net} {f : List Int} (hf : Flow n f) (hv : 0 ≤ netAt n.as f n.s) : ∃ left ways rounds, loopC (flow_Split_B1 n) 1000000 (netAt n.as f n.s, f, [], []) = some (.go (0, left, ways, rounds)) ∧ SI n f left ways rounds 0 ∧ valL ways = netAt n.as f n.s := by
  have hn := hf.net
  have hm := hn.g.len
  dsimp only at hm
  have hr : ∀ k, k < n.as.length → 0 ≤ f.getD k 0 ∧ f.getD k 0 ≤ 10000 := fun k hk => by
    have := hf.r k (by rw [hf.len]; exact hk)
    have := (hn.arc hk).c1
    omega
  have b1 := hf.value_le n.s
  have t0 := tot_rg hm hr
  have h0 : SI n f f [] [] (netAt n.as f n.s) := ⟨hf.len, hr, fun k hk => by simp [amtL], rfl, by have := hf.ends; omega, fun z h1 h2 => by
    by_cases c : 0 ≤ z ∧ z < 12
    · have := hf.keep z.toNat (by omega) (by omega) (by omega)
      rwa [show ((z.toNat : Nat) : Int) = z by omega] at this
    · refine tot_zero fun k hk => ?_
      have := hn.small hk
      unfold term
      rw [if_neg (by omega), if_neg (by omega)]; rfl, fun p hp => (by cases hp), fun p hp => (by cases hp), by simp, by simp only [List.length_nil]; omega⟩
  obtain ⟨q, e, left, ways, rounds, rfl, h1, h2⟩ := loopC_or (f := flow_Split_B1 n) (fun (τ : Int × List Int × List Piece × List Piece) => SI n f τ.2.1 τ.2.2.1 τ.2.2.2 τ.1 ∧ valL τ.2.2.1 + τ.1 = netAt n.as f n.s ∧ 0 ≤ τ.1 ∧ τ.1 ≤ 1000000) (fun q => ∃ left ways rounds, q = .go (0, left, ways, rounds) ∧ SI n f left ways rounds 0 ∧ valL ways = netAt n.as f n.s) (fun τ => (tot (fun k => τ.2.1.getD k 0) n.as.length).toNat) (fun τ ⟨i1, i2, i3, i4⟩ => by
    obtain ⟨x, left, ways, rounds⟩ := τ
    dsimp only at i1 i2 i3 i4
    by_cases c : 0 < x
    · obtain ⟨x', left', ways', rounds', e, j1, j2, j3, j4, j5⟩ := split_round1 hn i1 i2 c i4
      have := tot_rg hm j1.r
      exact .inl ⟨_, e, ⟨j1, j2, j3, j4⟩, by dsimp only; omega⟩
    · obtain rfl : x = 0 := by omega
      refine .inr (.inl ⟨_, ?_, left, ways, rounds, rfl, i1, by omega⟩)
      unfold flow_Split_B1
      dsimp only
      rw [if_neg c]) (n := 1000000) (s := (netAt n.as f n.s, f, [], [])) ⟨h0, by simp [valL], hv, by dsimp only; omega⟩ (by dsimp only; omega)
  exact ⟨left, ways, rounds, e, h1, h2⟩
theorem split_loop2 {n : Net} {f : List Int} (hn : OkNet n) {left : List Int} {ways rounds : List Piece} (h : SI n f left ways rounds 0) {k : Nat} (hk : k < n.as.length) :
    ∃ left' rounds', flow_Split_B2 n f k (left, rounds) = some (left', rounds') ∧ SI n f left' ways rounds' 0 ∧ left'.getD k 0 = 0 ∧ ∀ j, j < n.as.length → left.getD j 0 = 0 → left'.getD j 0 = 0 := by
  have hm := hn.g.len
  dsimp only at hm
  obtain ⟨q, e, left', rounds', rfl, h1, h2, h3⟩ := loopC_or (f := flow_Split_B3 n f k) (fun (τ : List Int × List Piece) => SI n f τ.1 ways τ.2 0 ∧ ∀ j, j < n.as.length → left.getD j 0 = 0 → τ.1.getD j 0 = 0) (fun q => ∃ left' rounds', q = .go (left', rounds') ∧ SI n f left' ways rounds' 0 ∧ left'.getD k 0 = 0 ∧ ∀ j, j < n.as.length → left.getD j 0 = 0 → left'.getD j 0 = 0) (fun τ => (tot (fun k => τ.1.getD k 0) n.as.length).toNat) (fun τ ⟨i1, i2⟩ => by
    obtain ⟨l, rs⟩ := τ
    dsimp only at i1 i2
    have hl := i1.len
    have hrk := i1.r k hk
    have hA := hn.small hk
    unfold flow_Split_B3
    dsimp only
    rw [ck_some (by omega)]
    by_cases c : 0 < l.getD k 0
    · rw [if_pos c, ck_some hk]
      have hg : Going (⟨n.n, (-1), (-1), n.as⟩ : Net) l := ⟨i1.len, hm, i1.r, fun k hk => hn.small hk, fun z _ => by
        show 0 ≤ netAt n.as l z
        by_cases c1 : z = n.s
        · rw [c1, i1.bs]; exact Int.le_refl _
        · by_cases c2 : z = n.t
          · rw [c2, i1.bt]; decide
          · rw [i1.bz z c1 c2]; exact Int.le_refl _⟩
      obtain ⟨p, r, ep, hp⟩ := piece_ok hg (a := (n.as.getD k El.d).f) (by dsimp only; omega) ⟨k, hk, rfl, c⟩
      have hF : ∃ b, Fits n.as l p b b := by
        rcases hp with ⟨_, hF⟩ | ⟨_, hF⟩
        · exfalso
          obtain ⟨nd, n0, n1, hnd⟩ := hF.ch.nd
          have hlen := hF.len
          have e1 : (arcI n.as p.arcs (p.arcs.length - 1)).t = -1 := by
            have := (hnd (p.arcs.length - 1) (by omega)).2
            rw [show p.arcs.length - 1 + 1 = p.arcs.length by omega, n1] at this
            exact this
          have hrg : 0 ≤ p.arcs.getD (p.arcs.length - 1) 0 ∧ p.arcs.getD (p.arcs.length - 1) 0 < (n.as.length : Int) := hF.ch.rg (p.arcs.length - 1) (by omega)
          have e2 : 0 ≤ (arcI n.as p.arcs (p.arcs.length - 1)).t := (hn.small (k := (p.arcs.getD (p.arcs.length - 1) 0).toNat) (by omega)).2.2.1
          omega
        · exact hF
      obtain ⟨b, hF⟩ := hF
      obtain ⟨l', et, k1, k2, k3, k4, k5, k6⟩ := took i1.len i1.r hF
      have same : ∀ z, netAt n.as l' z = netAt n.as l z := fun z => by rw [k5, Int.sub_self, Int.mul_zero, Int.sub_zero]
      have cr := i1.cr
      have t0 := tot_rg hm i1.r
      have t1 := tot_rg hm k2
      rw [ep, bind_some']
      dsimp only
      rw [et, bind_some', ck_some (by rw [k1, hl]), ck_some (by omega)]
      refine .inl ⟨_, rfl, ⟨⟨k1, k2, fun j hj => ?_, by rw [same]; exact i1.bs, by rw [same]; exact i1.bt, fun z hz1 hz2 => by rw [same]; exact i1.bz z hz1 hz2, i1.ws, fun q hq => ?_, i1.cw, by simp only [List.length_append, List.length_cons, List.length_nil]; omega⟩, fun j hj hz => ?_⟩, by dsimp only; omega⟩
      · dsimp only
        rw [amtL_snoc, i1.sum j hj, k3 j hj]; omega
      · rcases List.mem_append.1 hq with hq | hq
        · exact i1.rs q hq
        · obtain rfl := List.mem_singleton.1 hq
          exact ⟨b, hF.piece⟩
      · have a1 := i2 j hj hz
        have a2 := k4 j hj
        have a3 := k2 j hj
        dsimp only
        omega
    · rw [if_neg c]
      exact .inr (.inl ⟨_, rfl, l, rs, rfl, i1, by omega, i2⟩)) (n := 1000000) (s := (left, rounds)) ⟨h, fun j _ hz => hz⟩ (by have := tot_rg hm h.r; dsimp only; omega)
  refine ⟨left', rounds', ?_, h1, h2, h3⟩
  unfold flow_Split_B2
  dsimp only
  rw [e, bind_some']
/-- a flow taken apart -/
structure SplitOk (n : Net) (f : List Int) (ways rounds : List Piece) : Prop where
  sum : ∀ k, k < n.as.length → f.getD k 0 = amtL ways k + amtL rounds k
  ws : ∀ p, p ∈ ways → PieceP n.as p n.s n.t
  rs : ∀ p, p ∈ rounds → ∃ b, PieceP n.as p b b
  val : valL ways = netAt n.as f n.s
  cw : ways.length ≤ 600000
  cr : rounds.length ≤ 600000
theorem split_ok {n : Net} {f : List Int} (hf : Flow n f) (hv : 0 ≤ netAt n.as f n.s) : ∃ ways rounds, flow_Split_F n f = some (ways, rounds, 0) ∧ SplitOk n f ways rounds := by
  have hn := hf.net
  have hm := hn.g.len
  dsimp only at hm
  have hfl := hf.len
  obtain ⟨left, ways, rounds, e1, h1, h2⟩ := split_loop1 hf hv
  obtain ⟨⟨left', rounds'⟩, e2, j1, j2⟩ := forN_inv (f := flow_Split_B2 n f) (fun j (τ : List Int × List Piece) => SI n f τ.1 ways τ.2 0 ∧ ∀ i, i < j → τ.1.getD i 0 = 0) (n := left.length) (k := 0) (s := (left, rounds)) ⟨h1, fun i hi => absurd hi (by omega)⟩ fun j τ _ hj ⟨i1, i2⟩ => by
    obtain ⟨l, rs⟩ := τ
    have hl := h1.len
    obtain ⟨l', rs', e, k1, k2, k3⟩ := split_loop2 hn i1 (k := j) (by omega)
    refine ⟨_, e, k1, fun i hi => ?_⟩
    by_cases ei : i = j
    · rw [ei]; exact k2
    · exact k3 i (by omega) (i2 i (by omega))
  rw [Nat.zero_add, h1.len] at j2
  dsimp only at j1 j2
  refine ⟨ways, rounds', ?_, fun k hk => by rw [j1.sum k hk, j2 k hk]; omega, j1.ws, j1.rs, h2, j1.cw, by have := j1.cr; have := tot_rg hm j1.r; omega⟩
  unfold flow_Split_F
  rw [value_ok hf, bind_some']
  dsimp only
  rw [if_neg (by decide), if_neg (by omega), cloneInts_eq (by omega), bind_some', e1, bind_some']
  dsimp only
  rw [e2, bind_some']
theorem split_bad {n : Net} {f : List Int} (h : ¬ (Flow n f ∧ 0 ≤ netAt n.as f n.s)) : ∃ e, e ≠ 0 ∧ flow_Split_F n f = some ([], [], e) := by
  unfold flow_Split_F
  by_cases hf : Flow n f
  · rw [value_ok hf, bind_some']
    dsimp only
    rw [if_neg (by decide), if_pos (Int.lt_of_not_ge fun c => h ⟨hf, c⟩)]
    exact ⟨9, by decide, rfl⟩
  · obtain ⟨e, he, hh⟩ := value_bad hf
    rw [hh, bind_some']
    dsimp only
    rw [if_pos he]
    exact ⟨e, he, rfl⟩
end Go.Proofs.Ytlpelkfcmeapiaa
