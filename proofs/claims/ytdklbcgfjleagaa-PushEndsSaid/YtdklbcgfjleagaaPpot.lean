/- Package push: what grows less with each step. -/
import Derived.Test.YtdklbcgfjleagaaPpush3
namespace Go.Proofs.Ytdklbcgfjleagaa
open Go Go.Proofs.Ytdklbcgfjleagaa.Sx
set_option linter.unusedVariables false
set_option linter.unusedSimpArgs false
def busyB (n : Net) (f h : List Int) (x : Nat) : Int := if (x : Int) ≠ n.s ∧ (x : Int) ≠ n.t ∧ 0 < exs n f x then h.getD x 0 else 0
def admI (n : Net) (f h : List Int) (k : Nat) : Int := if (f.getD k 0 < (n.as.getD k El.d).c ∧ hgt h (n.as.getD k El.d).f = hgt h (n.as.getD k El.d).t + 1) ∨ (0 < f.getD k 0 ∧ hgt h (n.as.getD k El.d).t = hgt h (n.as.getD k El.d).f + 1) then 1 else 0
def restR (n : Net) (f h : List Int) (k : Nat) : Int := (4 * n.n - hgt h (n.as.getD k El.d).f - hgt h (n.as.getD k El.d).t) / 2 + admI n f h k
def lifts (n : Net) (h : List Int) : Int := tot (fun x => 2 * (2 * n.n - h.getD x 0)) n.n.toNat
def sends (n : Net) (f h : List Int) : Int := tot (restR n f h) n.as.length
def waits (n : Net) (f h : List Int) : Int := tot (busyB n f h) n.n.toNat
def Pot (n : Net) (f h : List Int) : Int := lifts n h + 2 * n.n * sends n f h + waits n f h
structure HLow (n : Net) (q : Push) : Prop where
  pv : PV n q
  low : ∀ x : Nat, x < n.n.toNat → q.height.getD x 0 < 2 * n.n
theorem HLow.hgt {n : Net} {q : Push} (h : HLow n q) {x : Int} (h0 : 0 ≤ x) (h1 : x < n.n) : 0 ≤ hgt q.height x ∧ hgt q.height x < 2 * n.n := by
  have a := h.low x.toNat (by omega)
  have b := h.pv.h0 x.toNat (by omega)
  exact ⟨b.1, a⟩
theorem adm01 (n : Net) (f h : List Int) (k : Nat) : 0 ≤ admI n f h k ∧ admI n f h k ≤ 1 := by unfold admI; split <;> omega
theorem pot_range {n : Net} {q : Push} (h : HLow n q) : 0 ≤ Pot n q.flow q.height ∧ Pot n q.flow q.height ≤ 37000 := by
  have hn := h.pv.ok
  have n0 := hn.g.n0; have n1 := hn.g.n1; have hl := hn.g.len
  dsimp only at n0 n1 hl
  have a1 := tot_nonneg (f := fun x => 2 * (2 * n.n - q.height.getD x 0)) (n := n.n.toNat) fun x hx => by have := h.low x hx; omega
  have a2 := tot_le (f := fun x => 2 * (2 * n.n - q.height.getD x 0)) (g := fun _ => 48) (n := n.n.toNat) fun x hx => by have := (h.pv.h0 x hx).1; omega
  rw [tot_const] at a2
  have hr : ∀ k, k < n.as.length → 0 ≤ restR n q.flow q.height k ∧ restR n q.flow q.height k ≤ 25 := fun k hk => by
    have hG := hn.arc hk
    have u := h.hgt hG.f0 hG.f1
    have v := h.hgt hG.t0 hG.t1
    have w := adm01 n q.flow q.height k
    unfold restR
    omega
  have b1 := tot_nonneg (f := restR n q.flow q.height) (n := n.as.length) fun k hk => (hr k hk).1
  have b2 := tot_le (f := restR n q.flow q.height) (g := fun _ => 25) (n := n.as.length) fun k hk => (hr k hk).2
  rw [tot_const] at b2
  have hb : ∀ x, x < n.n.toNat → 0 ≤ busyB n q.flow q.height x ∧ busyB n q.flow q.height x ≤ 24 := fun x hx => by
    have := h.low x hx
    have := h.pv.h0 x hx
    unfold busyB
    split <;> omega
  have c1 := tot_nonneg (f := busyB n q.flow q.height) (n := n.n.toNat) fun k hk => (hb k hk).1
  have c2 := tot_le (f := busyB n q.flow q.height) (g := fun _ => 24) (n := n.n.toNat) fun k hk => (hb k hk).2
  rw [tot_const] at c2
  have e1 : lifts n q.height = tot (fun x => 2 * (2 * n.n - q.height.getD x 0)) n.n.toNat := rfl
  have e2 : sends n q.flow q.height = tot (restR n q.flow q.height) n.as.length := rfl
  have e3 : waits n q.flow q.height = tot (busyB n q.flow q.height) n.n.toNat := rfl
  have d1 : 0 ≤ 2 * n.n * sends n q.flow q.height := Int.mul_nonneg (by omega) (by rw [e2]; exact b1)
  have d2 : 2 * n.n * sends n q.flow q.height ≤ 24 * 1500 := by
    have x1 : 2 * n.n * sends n q.flow q.height ≤ 24 * sends n q.flow q.height := Int.mul_le_mul_of_nonneg_right (by omega) (by rw [e2]; exact b1)
    have x2 : sends n q.flow q.height ≤ 1500 := by rw [e2]; omega
    omega
  unfold Pot
  rw [e1, e3]
  omega
theorem lift_pot {n : Net} {q : Push} (h : HLow n q) {x : Int} (h0 : 0 ≤ x) (h1 : x < n.n) {low : Int} (hp : PV n ⟨q.net, q.flow, q.height.set x.toNat low⟩) (hlt : q.height.getD x.toNat 0 < low) (hlow : low < 2 * n.n) :
    HLow n ⟨q.net, q.flow, q.height.set x.toNat low⟩ ∧ Pot n q.flow (q.height.set x.toNat low) < Pot n q.flow q.height := by
  have hn := h.pv.ok
  have n0 := hn.g.n0; have n1 := hn.g.n1; have hhl := h.pv.hl
  dsimp only at n0 n1
  have hset : ∀ y : Nat, (q.height.set x.toNat low).getD y 0 = if y = x.toNat then low else q.height.getD y 0 := fun y => by
    rw [getD_set']
    by_cases e : y = x.toNat
    · rw [if_pos ⟨e, by omega⟩, if_pos e]
    · rw [if_neg (fun z => e z.1), if_neg e]
  have up : ∀ y : Nat, q.height.getD y 0 ≤ (q.height.set x.toNat low).getD y 0 := fun y => by
    rw [hset]
    split
    · rename_i e; rw [e]; omega
    · exact Int.le_refl _
  refine ⟨⟨hp, fun y hy => ?_⟩, ?_⟩
  · show (q.height.set x.toNat low).getD y 0 < _
    rw [hset]
    split
    · exact hlow
    · exact h.low y hy
  · -- the three parts
    have a : lifts n (q.height.set x.toNat low) = lifts n q.height + tot (fun y => if y = x.toNat then -2 * (low - q.height.getD x.toNat 0) else 0) n.n.toNat := by
      unfold lifts
      rw [← tot_add]
      refine tot_congr fun y hy => ?_
      rw [hset]
      by_cases e : y = x.toNat
      · rw [if_pos e, if_pos e, e]; omega
      · rw [if_neg e, if_neg e]; omega
    rw [tot_single (k := x.toNat) (by omega) (fun i _ hi => if_neg hi), if_pos rfl] at a
    have b : sends n q.flow (q.height.set x.toNat low) ≤ sends n q.flow q.height := tot_le fun k hk => by
      have u := up (n.as.getD k El.d).f.toNat
      have v := up (n.as.getD k El.d).t.toNat
      have fw := h.pv.fw k hk
      have bw := h.pv.bw k hk
      unfold restR admI
      unfold hgt at fw bw ⊢
      generalize (q.height.set x.toNat low).getD (n.as.getD k El.d).f.toNat 0 = hu' at *
      generalize (q.height.set x.toNat low).getD (n.as.getD k El.d).t.toNat 0 = hv' at *
      generalize q.height.getD (n.as.getD k El.d).f.toNat 0 = hu at *
      generalize q.height.getD (n.as.getD k El.d).t.toNat 0 = hv at *
      generalize q.flow.getD k 0 = fk at *
      generalize (n.as.getD k El.d).c = ck at *
      split <;> split <;> omega
    have c : waits n q.flow (q.height.set x.toNat low) ≤ waits n q.flow q.height + tot (fun y => if y = x.toNat then low - q.height.getD x.toNat 0 else 0) n.n.toNat := by
      unfold waits
      rw [← tot_add]
      refine tot_le fun y hy => ?_
      unfold busyB
      rw [hset]
      by_cases e : y = x.toNat
      · rw [if_pos e, if_pos e]
        split
        · rw [e]; omega
        · omega
      · rw [if_neg e, if_neg e]; omega
    rw [tot_single (k := x.toNat) (by omega) (fun i _ hi => if_neg hi), if_pos rfl] at c
    have d : 2 * n.n * sends n q.flow (q.height.set x.toNat low) ≤ 2 * n.n * sends n q.flow q.height := Int.mul_le_mul_of_nonneg_left b (by omega)
    unfold Pot
    omega
theorem send_pot {n : Net} {q : Push} (h : HLow n q) {k : Nat} (hk : k < n.as.length) {back : Bool} (hc : CanSend n q k back) :
    HLow n (sentP n q k back) ∧ Pot n (sentP n q k back).flow (sentP n q k back).height < Pot n q.flow q.height := by
  have hn := h.pv.ok
  have n0 := hn.g.n0; have n1 := hn.g.n1; have hhl := h.pv.hl; have hlen := h.pv.len
  dsimp only at n0 n1
  refine ⟨⟨sent_pv h.pv hk hc, h.low⟩, ?_⟩
  have hE := ends_range hn hk back
  have hrm := room_range h.pv hk back
  have hrk := h.pv.r k hk
  obtain ⟨c1, c2, c3⟩ := hc
  have hx := h.hgt hE.1.1 hE.1.2
  have hy := h.hgt hE.2.1 hE.2.2
  show Pot n (q.flow.set k (q.flow.getD k 0 + sgP back * min (roomP n q.flow k back) (exs n q.flow (srcP n k back)))) q.height < _
  generalize hd : min (roomP n q.flow k back) (exs n q.flow (srcP n k back)) = d
  have d0 : 0 < d := by have := c2.2.2; omega
  -- what comes to a node
  have hex : ∀ z : Int, exs n (q.flow.set k (q.flow.getD k 0 + sgP back * d)) z = exs n q.flow z - (if srcP n k back = z then d else 0) + (if dstP n k back = z then d else 0) := fun z => by
    rw [exs_set hk hlen, show q.flow.getD k 0 + sgP back * d - q.flow.getD k 0 = sgP back * d by omega]
    cases back
    · show exs n q.flow z - (1 * d) * ((if (n.as.getD k El.d).f = z then 1 else 0) - (if (n.as.getD k El.d).t = z then 1 else 0)) = exs n q.flow z - (if (n.as.getD k El.d).f = z then d else 0) + (if (n.as.getD k El.d).t = z then d else 0)
      by_cases pF : (n.as.getD k El.d).f = z <;> by_cases pT : (n.as.getD k El.d).t = z
      · rw [if_pos pF, if_pos pT, if_pos pF, if_pos pT]; omega
      · rw [if_pos pF, if_neg pT, if_pos pF, if_neg pT]; omega
      · rw [if_neg pF, if_pos pT, if_neg pF, if_pos pT]; omega
      · rw [if_neg pF, if_neg pT, if_neg pF, if_neg pT]; omega
    · show exs n q.flow z - (-1 * d) * ((if (n.as.getD k El.d).f = z then 1 else 0) - (if (n.as.getD k El.d).t = z then 1 else 0)) = exs n q.flow z - (if (n.as.getD k El.d).t = z then d else 0) + (if (n.as.getD k El.d).f = z then d else 0)
      by_cases pF : (n.as.getD k El.d).f = z <;> by_cases pT : (n.as.getD k El.d).t = z
      · rw [if_pos pF, if_pos pT, if_pos pT, if_pos pF]; omega
      · rw [if_pos pF, if_neg pT, if_neg pT, if_pos pF]; omega
      · rw [if_neg pF, if_pos pT, if_pos pT, if_neg pF]; omega
      · rw [if_neg pF, if_neg pT, if_neg pT, if_neg pF]; omega
  have hgetk : (q.flow.set k (q.flow.getD k 0 + sgP back * d)).getD k 0 = q.flow.getD k 0 + sgP back * d := by
    rw [getD_set', if_pos ⟨rfl, by omega⟩]
  have hget : ∀ i, i ≠ k → (q.flow.set k (q.flow.getD k 0 + sgP back * d)).getD i 0 = q.flow.getD i 0 := fun i hi => by
    rw [getD_set', if_neg (fun z => hi z.1)]
  -- the arc could be gone
  have hadm : admI n q.flow q.height k = 1 := by
    unfold admI
    refine if_pos ?_
    unfold roomP at c1
    unfold srcP dstP at c3
    cases back
    · rw [if_neg (by decide)] at c1
      rw [if_neg (by decide), if_neg (by decide)] at c3
      exact .inl ⟨by omega, c3⟩
    · rw [if_pos rfl] at c1
      rw [if_pos rfl, if_pos rfl] at c3
      exact .inr ⟨by omega, c3⟩
  have hadm2 : roomP n q.flow k back ≤ exs n q.flow (srcP n k back) → admI n (q.flow.set k (q.flow.getD k 0 + sgP back * d)) q.height k = 0 := fun hs => by
    have hdr : d = roomP n q.flow k back := by omega
    unfold admI
    rw [hgetk, hdr]
    refine if_neg ?_
    unfold roomP sgP
    unfold srcP dstP at c3
    cases back
    · rw [if_neg (by decide), if_neg (by decide)]
      rw [if_neg (by decide), if_neg (by decide)] at c3
      omega
    · rw [if_pos rfl, if_pos rfl]
      rw [if_pos rfl, if_pos rfl] at c3
      omega
  generalize hsat : (if roomP n q.flow k back ≤ exs n q.flow (srcP n k back) then (1 : Int) else 0) = sat
  have b : sends n (q.flow.set k (q.flow.getD k 0 + sgP back * d)) q.height ≤ sends n q.flow q.height + tot (fun i => if i = k then -sat else 0) n.as.length := by
    unfold sends
    rw [← tot_add]
    refine tot_le fun i hi => ?_
    unfold restR
    by_cases e : i = k
    · rw [if_pos e, e, hadm]
      by_cases hs : roomP n q.flow k back ≤ exs n q.flow (srcP n k back)
      · rw [hadm2 hs]
        rw [if_pos hs] at hsat
        omega
      · rw [if_neg hs] at hsat
        have := (adm01 n (q.flow.set k (q.flow.getD k 0 + sgP back * d)) q.height k).2
        omega
    · rw [if_neg e]
      have : admI n (q.flow.set k (q.flow.getD k 0 + sgP back * d)) q.height i = admI n q.flow q.height i := by
        unfold admI
        rw [hget i e]
      rw [this]; omega
  rw [tot_single (k := k) hk (fun i _ hi => if_neg hi), if_pos rfl] at b
  have c : waits n (q.flow.set k (q.flow.getD k 0 + sgP back * d)) q.height ≤ waits n q.flow q.height + tot (fun z => if z = (dstP n k back).toNat then hgt q.height (dstP n k back) else 0) n.n.toNat - tot (fun z => if z = (srcP n k back).toNat then (1 - sat) * hgt q.height (srcP n k back) else 0) n.n.toNat := by
    unfold waits
    rw [← tot_add, ← tot_sub]
    refine tot_le fun z hz => ?_
    have hzl := h.pv.h0 z hz
    have hexz := hex (z : Int)
    have hs01 : sat = 0 ∨ sat = 1 := by rw [← hsat]; split <;> omega
    unfold busyB
    rw [hexz]
    by_cases ex : z = (srcP n k back).toNat
    · have exz : srcP n k back = (z : Int) := by omega
      have ney : ¬ z = (dstP n k back).toNat := fun e => by
        have : dstP n k back = (z : Int) := by omega
        rw [exz, this] at c3
        omega
      have ney2 : ¬ dstP n k back = (z : Int) := fun e => ney (by omega)
      rw [if_pos ex, if_neg ney, if_pos exz, if_neg ney2]
      have hb : (z : Int) ≠ n.s ∧ (z : Int) ≠ n.t ∧ 0 < exs n q.flow (z : Int) := by rw [← exz]; exact c2
      rw [if_pos hb]
      have hhz : hgt q.height (srcP n k back) = q.height.getD z 0 := by unfold hgt; rw [← ex]
      rw [hhz]
      by_cases hs : roomP n q.flow k back ≤ exs n q.flow (srcP n k back)
      · rw [if_pos hs] at hsat
        rw [← hsat]
        split <;> omega
      · rw [if_neg hs] at hsat
        rw [← hsat, if_neg (fun w => by
          have := w.2.2
          rw [← exz] at this
          omega)]
        omega
    · have exz : ¬ srcP n k back = (z : Int) := fun e => ex (by omega)
      rw [if_neg ex, if_neg exz]
      by_cases ey : z = (dstP n k back).toNat
      · have hhz : hgt q.height (dstP n k back) = q.height.getD z 0 := by unfold hgt; rw [← ey]
        rw [if_pos ey, hhz]
        split <;> split <;> omega
      · have eyz : ¬ dstP n k back = (z : Int) := fun e => ey (by omega)
        rw [if_neg ey, if_neg eyz, Int.sub_zero, Int.add_zero]
        omega
  rw [tot_single (k := (dstP n k back).toNat) (by omega) (fun i _ hi => if_neg hi), if_pos rfl, tot_single (k := (srcP n k back).toNat) (by omega) (fun i _ hi => if_neg hi), if_pos rfl] at c
  have e : 2 * n.n * sends n (q.flow.set k (q.flow.getD k 0 + sgP back * d)) q.height ≤ 2 * n.n * (sends n q.flow q.height + -sat) := Int.mul_le_mul_of_nonneg_left b (by omega)
  rw [Int.mul_add] at e
  unfold Pot
  have hs01 : sat = 0 ∨ sat = 1 := by rw [← hsat]; split <;> omega
  rcases hs01 with rfl | rfl <;> omega
end Go.Proofs.Ytdklbcgfjleagaa
