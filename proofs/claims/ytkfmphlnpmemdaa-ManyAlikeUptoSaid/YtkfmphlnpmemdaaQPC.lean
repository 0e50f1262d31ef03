import Derived.Test.YtkfmphlnpmemdaaQPB
import Derived.Test.YtkfmphlnpmemdaaQDA
import Derived.Test.YtkfmphlnpmemdaaQPA
set_option linter.unusedVariables false
set_option linter.unusedSimpArgs false
namespace Go.Proofs.Ytkfmphlnpmemdaa
open Go Go.Proofs.Ytkfmphlnpmemdaa.Sx
def capN (n : Net) (k : Nat) (c : Int) : Net := ⟨n.n, n.s, n.t, n.as.set k ⟨(n.as.getD k El.d).f, (n.as.getD k El.d).t, c⟩⟩
theorem cap_arc {n : Net} {k : Nat} {c : Int} (hk : k < n.as.length) (i : Nat) : ((capN n k c).as.getD i El.d).f = (n.as.getD i El.d).f ∧ ((capN n k c).as.getD i El.d).t = (n.as.getD i El.d).t ∧ ((capN n k c).as.getD i El.d).c = if i = k then c else (n.as.getD i El.d).c := by
  unfold capN
  dsimp only
  rw [getD_set']
  by_cases e : i = k
  · subst e
    rw [if_pos ⟨rfl, hk⟩, if_pos rfl]
    exact ⟨rfl, rfl, rfl⟩
  · rw [if_neg (fun z => e z.1), if_neg e]
    exact ⟨rfl, rfl, rfl⟩
theorem cap_len (n : Net) (k : Nat) (c : Int) : (capN n k c).as.length = n.as.length := by unfold capN; simp
theorem cap_net {n : Net} {k : Nat} {c : Int} (hk : k < n.as.length) (f : List Int) (z : Int) : netAt (capN n k c).as f z = netAt n.as f z := by
  unfold netAt
  rw [cap_len]
  exact tot_congr fun i _ => by
    obtain ⟨e1, e2, _⟩ := cap_arc (c := c) hk i
    unfold term
    rw [e1, e2]
theorem cap_okN {n : Net} (hn : OkNet n) {k : Nat} {c : Int} (hk : k < n.as.length) (h0 : 0 ≤ c) (h1 : c ≤ 10000) : OkNet (capN n k c) :=
  ⟨⟨hn.g.n0, hn.g.n1, by have := hn.g.len; dsimp only at this ⊢; rw [cap_len]; exact this, fun a ha => by
    obtain ⟨i, hi, rfl⟩ := getD_of_mem (d := El.d) ha
    have hi' : i < n.as.length := by have := cap_len n k c; dsimp only at hi; omega
    have hG := hn.arc hi'
    obtain ⟨e1, e2, e3⟩ := cap_arc (c := c) hk i
    refine ⟨by rw [e1]; exact hG.f0, by rw [e1]; exact hG.f1, by rw [e2]; exact hG.t0, by rw [e2]; exact hG.t1, ?_, ?_⟩
    · rw [e3]; split
      · exact h0
      · exact hG.c0
    · rw [e3]; split
      · exact h1
      · exact hG.c1⟩, hn.s0, hn.s1, hn.t0, hn.t1, hn.ne⟩
theorem cap_capS {n : Net} {k : Nat} {c : Int} (hk : k < n.as.length) (S : Int → Int) : capS (capN n k c).as S - capS n.as S = if S (n.as.getD k El.d).f = 1 ∧ S (n.as.getD k El.d).t = 0 then c - (n.as.getD k El.d).c else 0 := by
  unfold capS
  rw [cap_len, ← tot_sub (cross (capN n k c).as S) (cross n.as S)]
  rw [tot_single hk fun i _ hne => by
    obtain ⟨e1, e2, e3⟩ := cap_arc (c := c) hk i
    unfold cross
    rw [e1, e2, e3, if_neg hne, Int.sub_self]]
  obtain ⟨e1, e2, e3⟩ := cap_arc (c := c) hk k
  unfold cross
  rw [e1, e2, e3, if_pos rfl]
  split <;> omega
theorem cap_max {n : Net} {k : Nat} {c v w : Int} (hk : k < n.as.length) (hv : MaxV n v) (hw : MaxV (capN n k c) w) : v + min (c - (n.as.getD k El.d).c) 0 ≤ w ∧ w ≤ v + max (c - (n.as.getD k El.d).c) 0 := by
  obtain ⟨S, s1, s2⟩ := hv.cut
  obtain ⟨T, t1, t2⟩ := hw.cut
  have a := hw.ge (S := S) ⟨s1.s, s1.t, s1.b⟩
  have b := hv.ge (S := T) ⟨t1.s, t1.t, t1.b⟩
  have c1 := cap_capS (c := c) hk S
  have c2 := cap_capS (c := c) hk T
  split at c1 <;> split at c2 <;> omega
theorem repair_cap {n : Net} {f : List Int} (hf : Flow n f) (hmax : MaxV n (netAt n.as f n.s)) {k : Nat} (hk : k < n.as.length) {takes : Int} (h0 : 0 ≤ takes) (h1 : takes ≤ 10000) :
    ∃ g w, repair_Cap_F n f (k : Int) takes = some (capN n k takes, g, w, 0) ∧ Flow (capN n k takes) g ∧ netAt (capN n k takes).as g n.s = w ∧ MaxV (capN n k takes) w := by
  have hn := hf.net
  have hm := hn.g.len
  dsimp only at hm
  have hfl := hf.len
  obtain ⟨low, v, el, hL, hM⟩ := least_ok hn
  have hveq := hM.uniq hmax
  obtain ⟨ways, rounds, es, hS⟩ := split_ok hf (hmax.nonneg hn)
  have hps : ∀ p, p ∈ rounds ++ ways → 1 ≤ p.amount ∧ ∃ a b, Chain n.as p.arcs a b ∧ ((a = n.s ∧ b = n.t) ∨ a = b) := fun p hp => by
    rcases List.mem_append.1 hp with hp | hp
    · obtain ⟨b, hb⟩ := hS.rs p hp
      exact ⟨hb.a1, b, b, hb.ch, .inr rfl⟩
    · have := hS.ws p hp
      exact ⟨this.a1, _, _, this.ch, .inl ⟨rfl, rfl⟩⟩
  have hsum : ∀ i, i < n.as.length → f.getD i 0 = amtL (rounds ++ ways) i := fun i hi => by rw [amtL_app, hS.sum i hi]; omega
  generalize hP : rounds ++ ways = ps at hps hsum
  have nn : ∀ j i, 0 ≤ amtL (ps.drop j) i := fun j i => (amtL_ge (fun p hp => (hps p (List.mem_of_mem_drop hp)).1) i).1
  obtain ⟨g, eg, g1, g2, g3, g4⟩ := forN_inv (f := repair_Cap_B1 (k : Int) takes ps) (fun j (l : List Int) => l.length = n.as.length ∧ (∀ i, i < n.as.length → amtL (ps.drop j) i ≤ l.getD i 0 ∧ l.getD i 0 ≤ f.getD i 0) ∧ l.getD k 0 ≤ takes + amtL (ps.drop j) k ∧ ∀ z, z ≠ n.s → z ≠ n.t → netAt n.as l z = netAt n.as f z) (n := ps.length) (k := 0) (s := f) ⟨hfl, fun i hi => by rw [List.drop_zero, hsum i hi]; exact ⟨Int.le_refl _, Int.le_refl _⟩, by rw [List.drop_zero, ← hsum k hk]; omega, fun z _ _ => rfl⟩ fun j l _ hj ⟨i1, i2, i3, i4⟩ => by
    have hj' : j < ps.length := by omega
    obtain ⟨ha, a, b, hch, hab⟩ := hps _ (mem_getD (d := El.d) hj')
    rw [drop_getD El.d hj'] at i2 i3
    simp only [amtL] at i2 i3
    generalize hpj : ps.getD j El.d = p at ha hch i2 i3
    have nn' := nn (j + 1)
    have mul01 : ∀ i, (inA p.arcs i = 0 ∨ inA p.arcs i = 1) := fun i => by have := inA01 p.arcs i; omega
    have frg : ∀ i, i < n.as.length → f.getD i 0 ≤ 10000 := fun i hi => by
      have := hf.r i (by rw [hfl]; exact hi)
      have := (hn.arc hi).c1
      omega
    have lrg : ∀ i, i < n.as.length → 0 ≤ l.getD i 0 ∧ l.getD i 0 ≤ 10000 := fun i hi => by
      have a1 := i2 i hi
      have a2 := nn' i
      have a3 := frg i hi
      have a4 := Int.mul_nonneg (a := p.amount) (b := inA p.arcs i) (by omega) (inA01 _ _).1
      omega
    unfold repair_Cap_B1
    rw [show ps.getD j El.d = p from hpj, contains_eq, bind_some']
    by_cases c : (k : Int) ∈ p.arcs
    · have hk1 : inA p.arcs k = 1 := by unfold inA; rw [if_pos c]
      have lk := lrg k hk
      rw [decide_eq_true c, if_neg (by decide), ck_some (by omega), Int.toNat_natCast, ck_some (inI_small (by omega) (by omega))]
      obtain ⟨l', e, k1, k2, k3⟩ := chain_sub (f := repair_Cap_B2 (k : Int) takes ps j l) (c := max 0 (min p.amount (l.getD k 0 - takes))) i1 hch fun i m hi hm2 hmi => by
        have hr := hch.rg i hi
        have lr := lrg (p.arcs.getD i 0).toNat (by omega)
        unfold repair_Cap_B2
        rw [show ps.getD j El.d = p from hpj, ck_some (by omega), Int.toNat_natCast, ck_some (inI_small (by omega) (by omega))]
      rw [e, bind_some']
      refine ⟨_, rfl, k1, fun i hi => ?_, ?_, fun z hz1 hz2 => ?_⟩
      · have b1 := i2 i hi
        rw [k2 i hi]
        rcases mul01 i with q | q
        · rw [q, Int.mul_zero] at b1 ⊢; omega
        · rw [q, Int.mul_one] at b1 ⊢; omega
      · rw [k2 k hk, hk1, Int.mul_one]
        rw [hk1, Int.mul_one] at i3
        have := nn' k
        omega
      · rw [k3 z, i4 z hz1 hz2]
        rcases hab with ⟨rfl, rfl⟩ | rfl
        · rw [if_neg (fun e => hz1 e.symm), if_neg (fun e => hz2 e.symm), Int.sub_self, Int.mul_zero, Int.sub_zero]
        · rw [Int.sub_self, Int.mul_zero, Int.sub_zero]
    · have hk0 : inA p.arcs k = 0 := by unfold inA; rw [if_neg c]
      rw [decide_eq_false c, if_pos (show (!false) = true from rfl)]
      refine ⟨_, rfl, i1, fun i hi => ?_, ?_, i4⟩
      · have b1 := i2 i hi
        have b2 := Int.mul_nonneg (a := p.amount) (b := inA p.arcs i) (by omega) (inA01 _ _).1
        omega
      · rw [hk0, Int.mul_zero] at i3
        omega
  rw [Nat.zero_add, List.drop_of_length_le (Nat.le_refl _)] at g2 g3
  simp only [amtL] at g2 g3
  have hgf : Flow (capN n k takes) g := ⟨cap_okN hn hk h0 h1, by rw [g1, cap_len], fun i hi => by
    have b1 := g2 i (by omega)
    have b2 := hf.r i (by omega)
    rw [(cap_arc (c := takes) hk i).2.2]
    by_cases e : i = k
    · subst e
      rw [if_pos rfl]; omega
    · rw [if_neg e]; omega, fun x hx h1 h2 => by
    rw [cap_net hk, g4 x h1 h2]
    exact hf.keep x hx h1 h2⟩
  obtain ⟨o, w, eo, o1, o2, S, o3, o4⟩ := more_ok hgf
  have hMw : MaxV (capN n k takes) w := ⟨⟨o, o1, o2⟩, S, o3, by rw [← o2]; exact (o1.eq_cut o3 o4).symm⟩
  refine ⟨o, w, ?_, o1, o2, hMw⟩
  have hchk : repair_Check_F n f = some 0 := by
    unfold repair_Check_F
    rw [value_ok hf, bind_some']
    dsimp only
    rw [if_neg (by decide), el, bind_some']
    dsimp only
    rw [if_neg (fun z => z hveq.symm)]
  have hon : repair_on_F (capN n k takes) g = some (capN n k takes, o, w, 0) := by
    unfold repair_on_F
    rw [clone_eq (by rw [cap_len]; omega), bind_some', show (⟨(capN n k takes).n, (capN n k takes).s, (capN n k takes).t, (capN n k takes).as⟩ : Net) = capN n k takes from rfl, eo, bind_some']
  unfold repair_Cap_F
  rw [hchk, bind_some', if_neg (by decide), if_neg (by omega), if_neg (by omega), if_neg (by omega), if_neg (by omega), es, bind_some']
  dsimp only
  have cw := hS.cw; have cr := hS.cr
  rw [cloneInts_eq (by omega), bind_some', concatP_eq (by omega) (by omega), bind_some', hP, eg, bind_some', clone_eq (by omega), bind_some', ck_some (by omega), Int.toNat_natCast,
    show (⟨n.n, n.s, n.t, n.as.set k ⟨(n.as.getD k El.d).f, (n.as.getD k El.d).t, takes⟩⟩ : Net) = capN n k takes from rfl, hon, bind_some']
theorem tot_skip (F : Nat → Int) {k : Nat} : ∀ {n : Nat}, k ≤ n → tot (fun i => F (if i < k then i else i + 1)) n + F k = tot F (n + 1)
  | 0, h => by
    have : k = 0 := by omega
    subst this
    simp [tot]
  | n + 1, h => by
    have e1 : tot (fun i => F (if i < k then i else i + 1)) (n + 1) = tot (fun i => F (if i < k then i else i + 1)) n + F (if n < k then n else n + 1) := rfl
    have e2 : tot F (n + 1 + 1) = tot F (n + 1) + F (n + 1) := rfl
    by_cases hk : k ≤ n
    · have ih := tot_skip F hk
      rw [if_neg (by omega)] at e1
      omega
    · have : k = n + 1 := by omega
      subst this
      rw [if_pos (by omega)] at e1
      have e3 : tot (fun i => F (if i < n + 1 then i else i + 1)) n = tot F n := tot_congr fun i hi => by rw [if_pos (by omega)]
      have e4 : tot F (n + 1) = tot F n + F n := rfl
      omega
theorem del_getD {α : Type} {xs : List α} {k : Nat} (hk : k < xs.length) (d : α) (i : Nat) : (del xs k (k + 1)).getD i d = xs.getD (if i < k then i else i + 1) d := by
  unfold del
  simp only [List.getD_eq_getElem?_getD]
  by_cases h : i < k
  · rw [if_pos h, List.getElem?_append_left (by simp; omega), List.getElem?_take, if_pos h]
  · rw [if_neg h, List.getElem?_append_right (by simp; omega), List.getElem?_drop]
    have : k + 1 + (i - (List.take k xs).length) = i + 1 := by simp; omega
    rw [this]
theorem del_len1 {α : Type} {xs : List α} {k : Nat} (hk : k < xs.length) : (del xs k (k + 1)).length + 1 = xs.length := by rw [del_length (by omega)]; omega
theorem del_last {α : Type} (xs : List α) (a : α) : del (xs ++ [a]) xs.length (xs.length + 1) = xs := by
  unfold del
  rw [List.take_left, List.drop_of_length_le (by simp), List.append_nil]
def delN (n : Net) (k : Nat) : Net := ⟨n.n, n.s, n.t, del n.as k (k + 1)⟩
theorem net_del {L : List Arc} {f : List Int} {k : Nat} (hk : k < L.length) (hl : f.length = L.length) (z : Int) : netAt (del L k (k + 1)) (del f k (k + 1)) z + term L f z k = netAt L f z := by
  have hd := del_len1 hk
  have e := tot_skip (term L f z) (k := k) (n := (del L k (k + 1)).length) (by omega)
  unfold netAt
  rw [← hd, ← e]
  congr 1
  refine tot_congr fun i _ => ?_
  unfold term
  rw [del_getD hk, del_getD (by omega)]
theorem capS_del {L : List Arc} {k : Nat} (hk : k < L.length) (S : Int → Int) : capS (del L k (k + 1)) S + cross L S k = capS L S := by
  have hd := del_len1 hk
  have e := tot_skip (cross L S) (k := k) (n := (del L k (k + 1)).length) (by omega)
  unfold capS
  rw [← hd, ← e]
  congr 1
  refine tot_congr fun i _ => ?_
  unfold cross
  rw [del_getD hk]
theorem del_okN {n : Net} (hn : OkNet n) {k : Nat} (hk : k < n.as.length) : OkNet (delN n k) :=
  ⟨⟨hn.g.n0, hn.g.n1, by
    have := hn.g.len
    have h2 := del_len1 hk
    show (del n.as k (k + 1)).length ≤ 60
    dsimp only at this
    omega, fun a ha => by
    have ha' : a ∈ del n.as k (k + 1) := ha
    unfold del at ha'
    rcases List.mem_append.1 ha' with h | h
    · exact hn.g.arc a (List.mem_of_mem_take h)
    · exact hn.g.arc a (List.mem_of_mem_drop h)⟩, hn.s0, hn.s1, hn.t0, hn.t1, hn.ne⟩
def addN (n : Net) (a : Arc) : Net := ⟨n.n, n.s, n.t, n.as ++ [a]⟩
theorem del_cap0 {n : Net} {k : Nat} (hk : k < n.as.length) (c : Int) : delN (capN n k c) k = delN n k := by
  have e : (delN (capN n k c) k).as = (delN n k).as := by
    refine eq_of_getD (d := El.d) ?_ fun i hi => ?_
    · have h1 := del_len1 (xs := (capN n k c).as) (k := k) (by rw [cap_len]; exact hk)
      have h2 := del_len1 hk
      rw [cap_len] at h1
      show (del (capN n k c).as k (k + 1)).length = (del n.as k (k + 1)).length
      omega
    · show (del (capN n k c).as k (k + 1)).getD i El.d = (del n.as k (k + 1)).getD i El.d
      rw [del_getD (by rw [cap_len]; exact hk), del_getD hk]
      obtain ⟨a1, a2, a3⟩ := cap_arc (c := c) hk (if i < k then i else i + 1)
      refine arc_ext.1 ⟨a1, a2, ?_⟩
      rw [a3, if_neg (by split <;> omega)]
  unfold delN at e ⊢
  dsimp only at e
  rw [e]
  rfl
theorem del_flow {n : Net} {f : List Int} (hf : Flow n f) {k : Nat} (hk : k < n.as.length) (h0 : f.getD k 0 = 0) : Flow (delN n k) (del f k (k + 1)) ∧ ∀ z, netAt (delN n k).as (del f k (k + 1)) z = netAt n.as f z := by
  have hl := hf.len
  have hz : ∀ z, netAt (delN n k).as (del f k (k + 1)) z = netAt n.as f z := fun z => by
    have e := net_del hk hl z
    have e0 : term n.as f z k = 0 := by unfold term; rw [h0]; split <;> split <;> rfl
    show netAt (del n.as k (k + 1)) _ z = _
    omega
  have hd := del_len1 hk
  have hdf := del_len1 (xs := f) (k := k) (by omega)
  refine ⟨⟨del_okN hf.net hk, by show _ = (del n.as k (k + 1)).length; omega, fun i hi => ?_, fun x hx h1 h2 => by rw [hz]; exact hf.keep x hx h1 h2⟩, hz⟩
  show 0 ≤ (del f k (k + 1)).getD i 0 ∧ (del f k (k + 1)).getD i 0 ≤ ((del n.as k (k + 1)).getD i El.d).c
  rw [del_getD (by omega), del_getD hk]
  exact hf.r _ (by split <;> omega)
theorem del_max0 {n : Net} {k : Nat} (hk : k < n.as.length) (hc : (n.as.getD k El.d).c = 0) {v : Int} (h : MaxV n v) : MaxV (delN n k) v := by
  obtain ⟨f, h1, h2⟩ := h.flow
  obtain ⟨S, h3, h4⟩ := h.cut
  have hr := h1.r k (by rw [h1.len]; exact hk)
  obtain ⟨g1, g2⟩ := del_flow h1 hk (by omega)
  refine ⟨⟨_, g1, by rw [show (delN n k).s = n.s from rfl, g2]; exact h2⟩, S, ⟨h3.s, h3.t, h3.b⟩, ?_⟩
  have e := capS_del hk S
  have e0 : cross n.as S k = 0 := by unfold cross; rw [hc]; split <;> rfl
  show capS (del n.as k (k + 1)) S = v
  omega
theorem del_max {n : Net} {k : Nat} (hk : k < n.as.length) {v : Int} (h : MaxV (capN n k 0) v) : MaxV (delN n k) v := by
  have := del_max0 (n := capN n k 0) (k := k) (by rw [cap_len]; exact hk) (by rw [(cap_arc hk k).2.2, if_pos rfl]) h
  rwa [del_cap0 hk] at this
theorem del_bounds {n : Net} (hn : OkNet n) {k : Nat} (hk : k < n.as.length) {v w : Int} (hv : MaxV n v) (hw : MaxV (delN n k) w) : v - (n.as.getD k El.d).c ≤ w ∧ w ≤ v := by
  have hG := hn.arc hk
  obtain ⟨g, u, _, _, _, hM⟩ := of_max (cap_okN hn (c := 0) hk (by omega) (by omega))
  have e := (del_max hk hM).uniq hw
  have b := cap_max hk hv hM
  have := hG.c0
  omega
theorem repair_check {n : Net} {f : List Int} (hf : Flow n f) (hmax : MaxV n (netAt n.as f n.s)) : repair_Check_F n f = some 0 := by
  obtain ⟨low, v, el, hL, hM⟩ := least_ok hf.net
  have hveq := hM.uniq hmax
  unfold repair_Check_F
  rw [value_ok hf, bind_some']
  dsimp only
  rw [if_neg (by decide), el, bind_some']
  dsimp only
  rw [if_neg (fun z => z hveq.symm)]
theorem repair_on {n : Net} {f : List Int} (hf : Flow n f) : ∃ g w, repair_on_F n f = some (n, g, w, 0) ∧ Flow n g ∧ netAt n.as g n.s = w ∧ MaxV n w := by
  have hm := hf.net.g.len
  dsimp only at hm
  obtain ⟨o, w, eo, o1, o2, S, o3, o4⟩ := more_ok hf
  refine ⟨o, w, ?_, o1, o2, ⟨o, o1, o2⟩, S, o3, by rw [← o2]; exact (o1.eq_cut o3 o4).symm⟩
  unfold repair_on_F
  rw [clone_eq (by omega), bind_some', show (⟨n.n, n.s, n.t, n.as⟩ : Net) = n from rfl, eo, bind_some']
theorem repair_add {n : Net} {f : List Int} (hf : Flow n f) (hmax : MaxV n (netAt n.as f n.s)) {a : Arc} (ha : OkNet (addN n a)) :
    ∃ g w, repair_Add_F n f a = some (addN n a, g, w, 0) ∧ Flow (addN n a) g ∧ netAt (addN n a).as g n.s = w ∧ MaxV (addN n a) w := by
  have hm := hf.net.g.len
  dsimp only at hm
  have hfl := hf.len
  have hlen : (addN n a).as.length = n.as.length + 1 := by show (n.as ++ [a]).length = _; simp
  have hF : Flow (addN n a) (f ++ [0]) := by
    refine ⟨ha, by rw [hlen]; simp [hfl], fun i hi => ?_, fun x hx h1 h2 => ?_⟩
    · have hi' : i < f.length + 1 := by simpa using hi
      show 0 ≤ (f ++ [0]).getD i 0 ∧ (f ++ [0]).getD i 0 ≤ ((n.as ++ [a]).getD i El.d).c
      simp only [List.getD_eq_getElem?_getD]
      by_cases h : i < f.length
      · rw [List.getElem?_append_left h, List.getElem?_append_left (by omega)]
        have := hf.r i h
        simpa only [List.getD_eq_getElem?_getD] using this
      · have e : i = f.length := by omega
        have hG := ha.arc (k := n.as.length) (by omega)
        have hc : ((addN n a).as.getD n.as.length El.d) = a := by show (n.as ++ [a]).getD _ _ = a; simp
        rw [hc] at hG
        have e1 : (f ++ [(0 : Int)])[i]? = some 0 := by rw [e]; simp
        have e2 : (n.as ++ [a])[i]? = some a := by rw [e, hfl]; simp
        rw [e1, e2]
        exact ⟨Int.le_refl _, hG.c0⟩
    · have e := net_del (L := n.as ++ [a]) (f := f ++ [0]) (k := n.as.length) (by simp) (by simp [hfl]) x
      rw [del_last, show del (f ++ [(0 : Int)]) n.as.length (n.as.length + 1) = f by rw [← hfl]; exact del_last f 0] at e
      have e0 : term (n.as ++ [a]) (f ++ [0]) x n.as.length = 0 := by
        unfold term
        have : (f ++ [(0 : Int)]).getD n.as.length 0 = 0 := by rw [← hfl]; simp
        rw [this]; split <;> split <;> rfl
      have := hf.keep x hx h1 h2
      show netAt (n.as ++ [a]) (f ++ [0]) x = 0
      omega
  obtain ⟨g, w, e, h1, h2, h3⟩ := repair_on hF
  refine ⟨g, w, ?_, h1, h2, h3⟩
  unfold repair_Add_F
  rw [repair_check hf hmax, bind_some', if_neg (by decide), clone_eq (by omega), bind_some', ck_some (by omega)]
  have hc : graph_CheckNet_F (⟨n.n, n.s, n.t, n.as ++ [a]⟩ : Net) = some 0 := by
    rcases checkNet_cases (addN n a) with ⟨_, h⟩ | ⟨h, _⟩
    · exact h
    · exact absurd ha h
  rw [hc, bind_some', if_neg (by decide), cloneInts_eq (by omega), bind_some', ck_some (by omega), show (⟨n.n, n.s, n.t, n.as ++ [a]⟩ : Net) = addN n a from rfl, e, bind_some']
theorem repair_addBad {n : Net} {f : List Int} (hf : Flow n f) (hmax : MaxV n (netAt n.as f n.s)) {a : Arc} (ha : ¬ OkNet (addN n a)) :
    ∃ e, e ≠ 0 ∧ repair_Add_F n f a = some (⟨0, 0, 0, []⟩, [], 0, e) := by
  have hm := hf.net.g.len
  dsimp only at hm
  rcases checkNet_cases (addN n a) with ⟨h, _⟩ | ⟨_, e, he, h⟩
  · exact absurd h ha
  · refine ⟨e, he, ?_⟩
    unfold repair_Add_F
    have hc : graph_CheckNet_F (⟨n.n, n.s, n.t, n.as ++ [a]⟩ : Net) = some e := h
    rw [repair_check hf hmax, bind_some', if_neg (by decide), clone_eq (by omega), bind_some', ck_some (by omega), hc, bind_some', if_pos he]
theorem repair_drop {n : Net} {f : List Int} (hf : Flow n f) (hmax : MaxV n (netAt n.as f n.s)) {k : Nat} (hk : k < n.as.length) :
    ∃ g w, repair_Drop_F n f (k : Int) = some (delN n k, g, w, 0) ∧ Flow (delN n k) g ∧ netAt (delN n k).as g n.s = w ∧ MaxV (delN n k) w ∧ netAt n.as f n.s - (n.as.getD k El.d).c ≤ w ∧ w ≤ netAt n.as f n.s := by
  have hm := hf.net.g.len
  dsimp only at hm
  obtain ⟨g, u, e1, h1, h2, h3⟩ := repair_cap hf hmax hk (takes := 0) (by omega) (by omega)
  have hgl := h1.len
  rw [cap_len] at hgl
  have hkc : k < (capN n k 0).as.length := by rw [cap_len]; exact hk
  have hr := h1.r k (by omega)
  rw [(cap_arc (c := 0) hk k).2.2, if_pos rfl] at hr
  obtain ⟨d1, d2⟩ := del_flow h1 hkc (by omega)
  rw [del_cap0 hk] at d1
  obtain ⟨o, w, e2, o1, o2, o3⟩ := repair_on d1
  have hb := del_bounds hf.net hk hmax o3
  refine ⟨o, w, ?_, o1, o2, o3, hb.1, hb.2⟩
  have ek : ((k : Nat) : Int) + 1 = ((k + 1 : Nat) : Int) := rfl
  have cl := cap_len n k 0
  unfold repair_Drop_F
  rw [e1, bind_some']
  dsimp only
  rw [if_neg (by decide), ck_some (inI_small (by omega) (by omega))]
  have q1 : slices_Delete_Arc_F (capN n k 0).as (k : Int) ((k : Int) + 1) = some (del (capN n k 0).as k (k + 1)) := by
    unfold slices_Delete_Arc_F
    rw [ck_some (by omega), ck_some (by omega), ck_some (by omega), ck_some (by omega), ek, Int.toNat_natCast, Int.toNat_natCast]
  have q2 : slices_Delete_int_F g (k : Int) ((k : Int) + 1) = some (del g k (k + 1)) := by
    unfold slices_Delete_int_F
    rw [ck_some (by omega), ck_some (by omega), ck_some (by omega), ck_some (by omega), ek, Int.toNat_natCast, Int.toNat_natCast]
  have q3 : (⟨(capN n k 0).n, (capN n k 0).s, (capN n k 0).t, del (capN n k 0).as k (k + 1)⟩ : Net) = delN n k := del_cap0 hk 0
  rw [q1, bind_some', q2, bind_some', q3, e2, bind_some']
structure Goes (n : Net) (f : List Int) (v : Int) : Prop where
  flow : Flow n f
  val : netAt n.as f n.s = v
  max : MaxV n v
theorem Goes.max' {n : Net} {f : List Int} {v : Int} (h : Goes n f v) : MaxV n (netAt n.as f n.s) := by rw [h.val]; exact h.max
def Ans (x : Option (Net × List Int × Int × Int)) : Prop := (∃ e, e ≠ 0 ∧ x = some (⟨0, 0, 0, []⟩, [], 0, e)) ∨ ∃ m g w, x = some (m, g, w, 0) ∧ Goes m g w
theorem ans_cap {n : Net} {f : List Int} {v : Int} (h : Goes n f v) (k takes : Int) : Ans (repair_Cap_F n f k takes) := by
  have hc := repair_check h.flow h.max'
  by_cases c1 : k < 0
  · left; refine ⟨5, by decide, ?_⟩
    unfold repair_Cap_F
    rw [hc, bind_some', if_neg (by decide), if_pos c1]
  by_cases c2 : ((n.as.length : Nat) : Int) ≤ k
  · left; refine ⟨5, by decide, ?_⟩
    unfold repair_Cap_F
    rw [hc, bind_some', if_neg (by decide), if_neg c1, if_pos c2]
  by_cases c3 : takes < 0
  · left; refine ⟨1, by decide, ?_⟩
    unfold repair_Cap_F
    rw [hc, bind_some', if_neg (by decide), if_neg c1, if_neg c2, if_pos c3]
  by_cases c4 : 10000 < takes
  · left; refine ⟨1, by decide, ?_⟩
    unfold repair_Cap_F
    rw [hc, bind_some', if_neg (by decide), if_neg c1, if_neg c2, if_neg c3, if_pos c4]
  right
  obtain ⟨k', rfl⟩ : ∃ k' : Nat, k = (k' : Int) := ⟨k.toNat, by omega⟩
  obtain ⟨g, w, e, h1, h2, h3⟩ := repair_cap h.flow h.max' (k := k') (by omega) (takes := takes) (by omega) (by omega)
  exact ⟨_, _, _, e, h1, h2, h3⟩
theorem ans_add {n : Net} {f : List Int} {v : Int} (h : Goes n f v) (a : Arc) : Ans (repair_Add_F n f a) := by
  by_cases ha : OkNet (addN n a)
  · obtain ⟨g, w, e, h1, h2, h3⟩ := repair_add h.flow h.max' ha
    exact .inr ⟨_, _, _, e, h1, h2, h3⟩
  · exact .inl (repair_addBad h.flow h.max' ha)
theorem ans_drop {n : Net} {f : List Int} {v : Int} (h : Goes n f v) (k : Int) : Ans (repair_Drop_F n f k) := by
  have hc := repair_check h.flow h.max'
  by_cases c1 : 0 ≤ k ∧ k < ((n.as.length : Nat) : Int)
  · obtain ⟨k', rfl⟩ : ∃ k' : Nat, k = (k' : Int) := ⟨k.toNat, by omega⟩
    obtain ⟨g, w, e, h1, h2, h3, _⟩ := repair_drop h.flow h.max' (k := k') (by omega)
    exact .inr ⟨_, _, _, e, h1, h2, h3⟩
  · left
    have e : repair_Cap_F n f k 0 = some (⟨0, 0, 0, []⟩, [], 0, 5) := by
      unfold repair_Cap_F
      by_cases c2 : k < 0
      · rw [hc, bind_some', if_neg (by decide), if_pos c2]
      · rw [hc, bind_some', if_neg (by decide), if_neg c2, if_pos (by omega)]
    refine ⟨5, by decide, ?_⟩
    unfold repair_Drop_F
    rw [e, bind_some']
    dsimp only
    rw [if_pos (by decide)]
def endsN (n : Net) (s t : Int) : Net := ⟨n.n, s, t, n.as⟩
theorem ans_ends {n : Net} {f : List Int} {v : Int} (h : Goes n f v) (s t : Int) : Ans (repair_Ends_F n f s t) := by
  have hf := h.flow
  have hn := hf.net
  have hm := hn.g.len
  dsimp only at hm
  have hfl := hf.len
  have hc := repair_check hf h.max'
  rcases checkNet_cases (endsN n s t) with ⟨ht, e0⟩ | ⟨_, e, he, e0⟩
  · right
    obtain ⟨ways, rounds, es, hS⟩ := split_ok hf (h.max'.nonneg hn)
    have hw1 : ∀ p, p ∈ ways → 1 ≤ p.amount := fun p hp => (hS.ws p hp).a1
    have hr1 : ∀ p, p ∈ rounds → 1 ≤ p.amount := fun p hp => let ⟨_, hb⟩ := hS.rs p hp; hb.a1
    have top : ∀ i, i < n.as.length → amtL rounds i ≤ f.getD i 0 ∧ f.getD i 0 ≤ 10000 ∧ f.getD i 0 ≤ (n.as.getD i El.d).c := fun i hi => by
      have a1 := hS.sum i hi
      have a2 := (amtL_ge hw1 i).1
      have a3 := hf.r i (by omega)
      have a4 := (hn.arc hi).c1
      omega
    have parts : ∀ j i, 0 ≤ amtL (rounds.take j) i ∧ amtL (rounds.take j) i ≤ amtL rounds i := fun j i => by
      have a1 := (amtL_ge (ps := rounds.take j) (fun p hp => hr1 p (List.mem_of_mem_take hp)) i).1
      have a2 := (amtL_ge (ps := rounds.drop j) (fun p hp => hr1 p (List.mem_of_mem_drop hp)) i).1
      have a3 := amtL_app (rounds.take j) (rounds.drop j) i
      rw [List.take_append_drop] at a3
      omega
    have z0 : ∀ i, (List.replicate n.as.length (0 : Int)).getD i 0 = 0 := fun i => by
      simp only [List.getD_eq_getElem?_getD, List.getElem?_replicate]
      split <;> rfl
    obtain ⟨g, eg, g1, g2, g3⟩ := forN_inv (f := repair_Ends_B1 rounds) (fun j (l : List Int) => l.length = n.as.length ∧ (∀ i, i < n.as.length → l.getD i 0 = amtL (rounds.take j) i) ∧ ∀ z, netAt n.as l z = 0) (n := rounds.length) (k := 0) (s := List.replicate n.as.length (0 : Int)) ⟨by simp, fun i _ => by rw [z0]; simp [amtL], fun z => tot_zero fun k _ => by
        unfold term
        rw [z0]; split <;> split <;> rfl⟩ fun j l _ hj ⟨i1, i2, i3⟩ => by
      have hj' : j < rounds.length := by omega
      have hmem := mem_getD (d := (El.d : Piece)) hj'
      obtain ⟨b, hp⟩ := hS.rs _ hmem
      have htake : rounds.take (j + 1) = rounds.take j ++ [rounds.getD j El.d] := by
        rw [List.take_add_one, List.getElem?_eq_getElem hj']
        simp [List.getD_eq_getElem?_getD, hj']
      generalize hpj : rounds.getD j El.d = p at hp hmem htake
      obtain ⟨l', e, k1, k2, k3⟩ := chain_sub (f := repair_Ends_B2 rounds j) (c := -p.amount) i1 hp.ch fun i m hi hm2 hmi => by
        have hr := hp.ch.rg i hi
        have hin := inA_of hi hr.1
        have b1 := (amtL_ge hr1 (p.arcs.getD i 0).toNat).2 p hmem
        rw [hin, Int.mul_one] at b1
        have b2 := top (p.arcs.getD i 0).toNat (by omega)
        have b3 := parts j (p.arcs.getD i 0).toNat
        have b4 := i2 (p.arcs.getD i 0).toNat (by omega)
        have b5 := hp.a1
        unfold repair_Ends_B2
        rw [show rounds.getD j El.d = p from hpj, ck_some (by omega), ck_some (inI_small (by omega) (by omega)), Int.sub_neg]
      refine ⟨l', ?_, k1, fun i hi => ?_, fun z => ?_⟩
      · unfold repair_Ends_B1
        rw [show rounds.getD j El.d = p from hpj, e, bind_some']
      · rw [k2 i hi, htake, amtL_snoc, i2 i hi, Int.neg_mul, Int.sub_neg]
      · rw [k3 z, i3 z, Int.sub_self, Int.mul_zero, Int.sub_zero]
    rw [Nat.zero_add, List.take_length] at g2
    have hF : Flow (endsN n s t) g := ⟨ht, g1, fun i hi => by
      have a1 := top i (by omega)
      have a2 := parts rounds.length i
      rw [List.take_length] at a2
      have a3 := g2 i (by omega)
      show 0 ≤ g.getD i 0 ∧ g.getD i 0 ≤ (n.as.getD i El.d).c
      omega, fun x _ _ _ => g3 x⟩
    obtain ⟨o, w, eo, o1, o2, o3⟩ := repair_on hF
    refine ⟨_, _, _, ?_, o1, o2, o3⟩
    have e0' : graph_CheckNet_F (⟨n.n, s, t, n.as⟩ : Net) = some 0 := e0
    have eo' : repair_on_F (⟨n.n, s, t, n.as⟩ : Net) g = some (endsN n s t, o, w, 0) := eo
    unfold repair_Ends_F
    rw [hc, bind_some', if_neg (by decide), e0', bind_some', if_neg (by decide), es, bind_some']
    dsimp only
    rw [ck_some (by omega), Int.toNat_natCast, hfl, eg, bind_some', eo', bind_some']
  · left; refine ⟨e, he, ?_⟩
    have e0' : graph_CheckNet_F (⟨n.n, s, t, n.as⟩ : Net) = some e := e0
    unfold repair_Ends_F
    rw [hc, bind_some', if_neg (by decide), e0', bind_some', if_pos he]
def Sound (x : StoreState) : Prop := ∃ v, Goes x.net x.flow v
structure Fine (s : Store) : Prop where
  now : Sound s.now
  old : ∀ x, x ∈ s.old → Sound x
  saved : ∀ x, x ∈ s.saved → Sound x
  few : s.old.length ≤ 20
  names : s.names.length = s.saved.length
  four : s.names.length ≤ 4
theorem Sound.ok {x : StoreState} (h : Sound x) : OkNet x.net := let ⟨_, hv⟩ := h; hv.flow.net
def push (s : Store) (x : StoreState) : Store := ⟨x, (s.old ++ [s.now]).drop (s.old.length + 1 - 20), s.names, s.saved⟩
theorem push_fine {s : Store} (h : Fine s) {x : StoreState} (hx : Sound x) : Fine (push s x) :=
  ⟨hx, fun y hy => by
    have hy' : y ∈ s.old ++ [s.now] := List.mem_of_mem_drop hy
    rcases List.mem_append.1 hy' with h1 | h1
    · exact h.old y h1
    · rw [List.mem_singleton.1 h1]; exact h.now, h.saved, by have := h.few; simp [push]; omega, h.names, h.four⟩
theorem set_bad {s : Store} {n : Net} {f : List Int} {e : Int} (he : e ≠ 0) : store_set_F s n f e = some (0, e, s) := by
  unfold store_set_F
  rw [if_pos he]
theorem set_ok {s : Store} (h : Fine s) (n : Net) (f : List Int) : store_set_F s n f 0 = some (0, 0, push s ⟨n, f⟩) := by
  have hf := h.few
  unfold store_set_F
  rw [if_neg (by decide), ck_some (by omega)]
  by_cases c : s.old.length = 20
  · rw [if_pos (by rw [c]; decide), ck_some (by omega), ck_some (by simp only [List.length_append, List.length_cons, List.length_nil]; omega), bind_some']
    have e : subl (s.old ++ [s.now]) 1 (s.old.length + 1 - 1) = (s.old ++ [s.now]).drop (s.old.length + 1 - 20) := by
      rw [c]
      refine List.take_of_length_le ?_
      simp [c]
    rw [e]
    rfl
  · rw [if_neg (by omega), bind_some']
    have e : (s.old ++ [s.now]).drop (s.old.length + 1 - 20) = s.old ++ [s.now] := by
      rw [show s.old.length + 1 - 20 = 0 by omega]; rfl
    unfold push
    rw [e]
theorem undo_none {s : Store} (h : s.old = []) : store_undo_F s = some (0, 5, s) := by
  unfold store_undo_F
  rw [if_pos (by rw [h]; rfl)]
theorem undo_ok {s : Store} {l : List StoreState} {x : StoreState} (hs : s.old = l ++ [x]) (hf : s.old.length ≤ 20) : store_undo_F s = some (0, 0, ⟨x, l, s.names, s.saved⟩) := by
  have hl : s.old.length = l.length + 1 := by rw [hs]; simp
  have e0 : (((s.old.length : Nat) : Int) - 1).toNat = l.length := by omega
  unfold store_undo_F
  rw [if_neg (by omega), ck_some (inI_small (by omega) (by omega)), ck_some ⟨by omega, by omega⟩, ck_some (by omega), ck_some (by omega), ck_some (by omega), e0]
  have e1 : s.old.getD l.length El.d = x := by rw [hs]; simp [List.getD_eq_getElem?_getD]
  have e2 : subl s.old 0 l.length = l := by rw [hs]; simp [subl]
  rw [e1, e2]
theorem name_total (z : ByteArray) : ∃ r, store_name_F z = some r := by
  unfold store_name_F
  by_cases c1 : ((z.size : Nat) : Int) < 1
  · exact ⟨_, if_pos c1⟩
  rw [if_neg c1]
  by_cases c2 : 8 < ((z.size : Nat) : Int)
  · exact ⟨_, if_pos c2⟩
  rw [if_neg c2, ck_some (by omega)]
  obtain ⟨q, hq, _⟩ := forC_or (f := store_name_B1 z) (fun _ _ => True) (fun _ => True) (n := (bytesL z).length) (k := 0) (s := ()) trivial (fun j s _ _ _ => by
    unfold store_name_B1
    by_cases c3 : ((bytesL z).getD j El.d).v < 97
    · exact .inr (.inr ⟨3, by rw [if_pos c3], trivial⟩)
    rw [if_neg c3]
    by_cases c4 : 122 < ((bytesL z).getD j El.d).v
    · exact .inr (.inr ⟨3, by rw [if_pos c4], trivial⟩)
    · exact .inl ⟨(), by rw [if_neg c4], trivial⟩) (fun _ _ => trivial)
  rw [hq]
  cases q with
  | go x => exact ⟨0, rfl⟩
  | ret x => exact ⟨x, rfl⟩
def First (l : List ByteArray) (v : ByteArray) (k : Nat) : Prop := k < l.length ∧ l.getD k El.d = v ∧ ∀ j, j < k → l.getD j El.d ≠ v
theorem index_cases (l : List ByteArray) (v : ByteArray) : (∃ k, First l v k ∧ slices_Index_string_F l v = some ((k : Nat) : Int)) ∨ ((∀ j, j < l.length → l.getD j El.d ≠ v) ∧ slices_Index_string_F l v = some (-1)) := by
  obtain ⟨q, hq, hQ⟩ := forC_or (f := slices_Index_string_B1 l v) (fun k _ => ∀ j, j < k → l.getD j El.d ≠ v) (fun q => match q with | .go _ => ∀ j, j < l.length → l.getD j El.d ≠ v | .ret x => ∃ k : Nat, x = (k : Int) ∧ First l v k) (n := l.length) (k := 0) (s := ()) (fun j h => absurd h (by omega)) (fun j s _ hj hi => by
    unfold slices_Index_string_B1
    by_cases c : v = l.getD j El.d
    · exact .inr (.inr ⟨_, by rw [if_pos c], j, rfl, by omega, c.symm, hi⟩)
    · refine .inl ⟨(), by rw [if_neg c], fun i h => ?_⟩
      by_cases e : i = j
      · subst e; exact fun z => c z.symm
      · exact hi i (by omega)) (fun s h => by simpa using h)
  unfold slices_Index_string_F
  rw [hq]
  cases q with
  | go x => exact .inr ⟨hQ, rfl⟩
  | ret x =>
    obtain ⟨k, rfl, hk⟩ := hQ
    exact .inl ⟨k, hk, rfl⟩
theorem First.index {l : List ByteArray} {v : ByteArray} {k : Nat} (h : First l v k) : slices_Index_string_F l v = some ((k : Nat) : Int) := by
  rcases index_cases l v with ⟨j, hj, e⟩ | ⟨hn, _⟩
  · have : j = k := by
      rcases Nat.lt_trichotomy j k with c | c | c
      · exact absurd hj.2.1 (h.2.2 j c)
      · exact c
      · exact absurd h.2.1 (hj.2.2 k c)
    rw [← this]; exact e
  · exact absurd h.2.1 (hn k h.1)
def Has (s : Store) (nm : ByteArray) (x : StoreState) : Prop := ∃ k, First s.names nm k ∧ s.saved.getD k El.d = x
inductive Did (s : Store) (d : Deed) : Int → Store → Prop where
  | bad (e : Int) (he : e ≠ 0) : Did s d e s
  | done (x : StoreState) (hk : 1 ≤ d.kind ∧ d.kind ≤ 5) : Did s d 0 (push s x)
  | load (x : StoreState) (hk : d.kind = 8) (hx : Has s d.name x) : Did s d 0 (push s x)
  | undo (l : List StoreState) (x : StoreState) (hk : d.kind = 6) (hl : s.old = l ++ [x]) : Did s d 0 ⟨x, l, s.names, s.saved⟩
  | save (s' : Store) (hk : d.kind = 7) (hn : store_name_F d.name = some 0) (h1 : s'.now = s.now) (h2 : s'.old = s.old) (h3 : Has s' d.name s.now) (h4 : ∀ nm x, nm ≠ d.name → Has s nm x → Has s' nm x) : Did s d 0 s'
  | told (hk : 9 ≤ d.kind ∧ d.kind ≤ 11) : Did s d 0 s
theorem mem_old {l : List StoreState} {k : Nat} (h : k < l.length) : l.getD k El.d ∈ l := by
  rw [List.getD_eq_getElem?_getD, List.getElem?_eq_getElem h]; exact List.getElem_mem h
theorem save_did {s : Store} (h : Fine s) (nm : ByteArray) (d : Deed) (hk : d.kind = 7) (hd : d.name = nm) : ∃ e s', store_save_F s nm = some (0, e, s') ∧ Fine s' ∧ Did s d e s' := by
  subst hd
  have h4 := h.four
  have hns := h.names
  obtain ⟨r, hr⟩ := name_total d.name
  unfold store_save_F
  rw [hr, bind_some']
  by_cases c : r = 0
  · subst c
    rw [if_neg (by decide)]
    rcases index_cases s.names d.name with ⟨k, hk1, e⟩ | ⟨hno, e⟩
    · have hlt := hk1.1
      rw [e, bind_some', if_pos (by omega), ck_some ⟨by omega, by omega⟩, show ((k : Nat) : Int).toNat = k by omega]
      refine ⟨_, _, rfl, ⟨h.now, h.old, fun x hx => ?_, h.few, by simpa using hns, h4⟩, .save _ hk hr rfl rfl ⟨k, hk1, ?_⟩ fun nm x hne ⟨j, hj, hx⟩ => ⟨j, hj, ?_⟩⟩
      · rcases List.mem_or_eq_of_mem_set hx with h1 | h1
        · exact h.saved x h1
        · rw [h1]; exact h.now
      · show (s.saved.set k s.now).getD k El.d = s.now
        rw [getD_set _ _ _ _ _ (by omega), if_pos rfl]
      · show (s.saved.set k s.now).getD j El.d = x
        have hj1 := hj.1
        rw [getD_set _ _ _ _ _ (by omega), if_neg (fun e => hne (by rw [← hj.2.1, e]; exact hk1.2.1))]
        exact hx
    · rw [e, bind_some', if_neg (by omega)]
      by_cases c4 : s.names.length = 4
      · rw [if_pos (by omega)]
        exact ⟨11, s, rfl, h, .bad 11 (by decide)⟩
      · rw [if_neg (by omega), ck_some (by omega), ck_some (by omega)]
        refine ⟨_, _, rfl, ⟨h.now, h.old, fun x hx => ?_, h.few, by simpa using hns, by simp only [List.length_append, List.length_cons, List.length_nil]; omega⟩, .save _ hk hr rfl rfl ⟨s.names.length, ⟨by simp, ?_, fun j hj => ?_⟩, ?_⟩ fun nm x hne ⟨j, hj, hx⟩ => ?_⟩
        · rcases List.mem_append.1 hx with h1 | h1
          · exact h.saved x h1
          · rw [List.mem_singleton.1 h1]; exact h.now
        · show (s.names ++ [d.name]).getD s.names.length El.d = d.name
          simp [List.getD_eq_getElem?_getD]
        · show (s.names ++ [d.name]).getD j El.d ≠ d.name
          have := hno j hj
          rw [List.getD_eq_getElem?_getD, List.getElem?_append_left hj, ← List.getD_eq_getElem?_getD]; exact this
        · show (s.saved ++ [s.now]).getD s.names.length El.d = s.now
          rw [hns]; simp [List.getD_eq_getElem?_getD]
        · have hj1 := hj.1
          have app : ∀ i, i < s.names.length → (s.names ++ [d.name]).getD i El.d = s.names.getD i El.d := fun i hi => by
            rw [List.getD_eq_getElem?_getD, List.getElem?_append_left hi, ← List.getD_eq_getElem?_getD]
          refine ⟨j, ⟨?_, ?_, fun i hi => ?_⟩, ?_⟩
          · show j < (s.names ++ [d.name]).length
            simp; omega
          · show (s.names ++ [d.name]).getD j El.d = nm
            rw [app j hj1]; exact hj.2.1
          · show (s.names ++ [d.name]).getD i El.d ≠ nm
            rw [app i (by omega)]; exact hj.2.2 i hi
          · show (s.saved ++ [s.now]).getD j El.d = x
            rw [List.getD_eq_getElem?_getD, List.getElem?_append_left (by omega), ← List.getD_eq_getElem?_getD]; exact hx
  · rw [if_pos c]
    exact ⟨r, s, rfl, h, .bad r c⟩
theorem load_ok {s : Store} (h : Fine s) {nm : ByteArray} {x : StoreState} (hn : store_name_F nm = some 0) (hx : Has s nm x) : store_load_F s nm = some (0, 0, push s x) := by
  obtain ⟨k, hk, rfl⟩ := hx
  have hlt := hk.1
  have hns := h.names
  unfold store_load_F
  rw [hn, bind_some', if_neg (by decide), hk.index, bind_some', if_neg (by omega), ck_some ⟨by omega, by omega⟩, show ((k : Nat) : Int).toNat = k by omega, set_ok h, bind_some']
theorem load_did {s : Store} (h : Fine s) (nm : ByteArray) (d : Deed) (hk : d.kind = 8) (hd : d.name = nm) : ∃ e s', store_load_F s nm = some (0, e, s') ∧ Fine s' ∧ Did s d e s' := by
  subst hd
  obtain ⟨r, hr⟩ := name_total d.name
  by_cases c : r = 0
  · subst c
    rcases index_cases s.names d.name with ⟨k, hk1, e⟩ | ⟨hno, e⟩
    · have hx : Has s d.name (s.saved.getD k El.d) := ⟨k, hk1, rfl⟩
      exact ⟨0, _, load_ok h hr hx, push_fine h (h.saved _ (mem_old (by have := hk1.1; rw [← h.names]; exact this))), .load _ hk hx⟩
    · refine ⟨5, s, ?_, h, .bad 5 (by decide)⟩
      unfold store_load_F
      rw [hr, bind_some', if_neg (by decide), e, bind_some', if_pos (by decide)]
  · refine ⟨r, s, ?_, h, .bad r c⟩
    unfold store_load_F
    rw [hr, bind_some', if_pos c]
theorem goes_nil {n a b : Int} (h : OkNet ⟨n, a, b, []⟩) : Sound ⟨⟨n, a, b, []⟩, []⟩ := by
  have e : ∀ z, netAt ([] : List Arc) [] z = 0 := fun z => rfl
  have hf : Flow ⟨n, a, b, []⟩ [] := ⟨h, rfl, fun k hk => absurd hk (by simp), fun x _ _ _ => e _⟩
  have hc : ∃ v, MaxV ⟨n, a, b, []⟩ v := by
    obtain ⟨g, v, _, _, _, hm⟩ := of_max h
    exact ⟨v, hm⟩
  obtain ⟨v, hv⟩ := hc
  obtain ⟨g, hg, hg2⟩ := hv.flow
  have hgn : g = [] := List.eq_nil_of_length_eq_zero hg.len
  subst hgn
  have hv0 : v = 0 := by rw [← hg2]; exact e _
  subst hv0
  exact ⟨0, hf, e _, hv⟩
theorem set_ans {s : Store} (h : Fine s) (d : Deed) (hk : 1 ≤ d.kind ∧ d.kind ≤ 5) {x : Option (Net × List Int × Int × Int)} (hx : Ans x) :
    ∃ v e s', (x.bind fun (a, b, c, e) => (store_set_F s a b e).bind fun (p, q, r) => some (p, q, r)) = some (v, e, s') ∧ Fine s' ∧ Did s d e s' := by
  rcases hx with ⟨e, he, rfl⟩ | ⟨m, g, w, rfl, hg⟩
  · rw [bind_some']
    dsimp only
    rw [set_bad he, bind_some']
    exact ⟨_, _, _, rfl, h, .bad e he⟩
  · rw [bind_some']
    dsimp only
    rw [set_ok h, bind_some']
    exact ⟨_, _, _, rfl, push_fine h ⟨w, hg⟩, .done _ hk⟩
theorem do_did {s : Store} (h : Fine s) (d : Deed) : ∃ v e s', store_Do_F s d = some (v, e, s') ∧ Fine s' ∧ Did s d e s' := by
  obtain ⟨vn, hn⟩ := h.now
  unfold store_Do_F
  by_cases c1 : d.kind = 1
  · rw [if_pos c1]
    rcases checkNet_cases ⟨d.n, d.a, d.b, []⟩ with ⟨ok, e⟩ | ⟨_, e0, he, e⟩
    · rw [e, bind_some', set_ok h, bind_some']
      exact ⟨_, _, _, rfl, push_fine h (goes_nil ok), .done _ ⟨by omega, by omega⟩⟩
    · rw [e, bind_some', set_bad he, bind_some']
      exact ⟨_, _, _, rfl, h, .bad _ he⟩
  rw [if_neg c1]
  by_cases c2 : d.kind = 2
  · rw [if_pos c2]; exact set_ans h d ⟨by omega, by omega⟩ (ans_add hn _)
  rw [if_neg c2]
  by_cases c3 : d.kind = 3
  · rw [if_pos c3]; exact set_ans h d ⟨by omega, by omega⟩ (ans_cap hn _ _)
  rw [if_neg c3]
  by_cases c4 : d.kind = 4
  · rw [if_pos c4]; exact set_ans h d ⟨by omega, by omega⟩ (ans_drop hn _)
  rw [if_neg c4]
  by_cases c5 : d.kind = 5
  · rw [if_pos c5]; exact set_ans h d ⟨by omega, by omega⟩ (ans_ends hn _ _)
  rw [if_neg c5]
  by_cases c6 : d.kind = 6
  · rw [if_pos c6]
    rcases List.eq_nil_or_concat s.old with e | ⟨l, x, e⟩
    · rw [undo_none e, bind_some']
      exact ⟨_, _, _, rfl, h, .bad 5 (by decide)⟩
    · rw [List.concat_eq_append] at e
      rw [undo_ok e h.few, bind_some']
      have hlen : s.old.length = l.length + 1 := by rw [e]; simp
      exact ⟨_, _, _, rfl, ⟨h.old x (by rw [e]; simp), fun y hy => h.old y (by rw [e]; simp [hy]), h.saved, (show l.length ≤ 20 by have := h.few; omega), h.names, h.four⟩, .undo l x c6 e⟩
  rw [if_neg c6]
  by_cases c7 : d.kind = 7
  · rw [if_pos c7]
    obtain ⟨e, s', h1, h2, h3⟩ := save_did h d.name d c7 rfl
    rw [h1, bind_some']
    exact ⟨_, _, _, rfl, h2, h3⟩
  rw [if_neg c7]
  by_cases c8 : d.kind = 8
  · rw [if_pos c8]
    obtain ⟨e, s', h1, h2, h3⟩ := load_did h d.name d c8 rfl
    rw [h1, bind_some']
    exact ⟨_, _, _, rfl, h2, h3⟩
  rw [if_neg c8]
  obtain ⟨low, v, hl, _, _⟩ := least_ok hn.flow.net
  by_cases c9 : d.kind = 9
  · rw [if_pos c9, hl, bind_some']
    exact ⟨_, _, _, rfl, h, .told ⟨by omega, by omega⟩⟩
  rw [if_neg c9]
  by_cases c10 : d.kind = 10
  · rw [if_pos c10, hl, bind_some']
    exact ⟨_, _, _, rfl, h, .told ⟨by omega, by omega⟩⟩
  rw [if_neg c10]
  by_cases c11 : d.kind = 11
  · rw [if_pos c11]
    exact ⟨_, _, _, rfl, h, .told ⟨by omega, by omega⟩⟩
  rw [if_neg c11]
  exact ⟨_, _, _, rfl, h, .bad 1 (by decide)⟩
def newS : Store := ⟨⟨⟨2, 0, 1, []⟩, []⟩, [], [], []⟩
theorem new_eq : store_New_F = some newS := rfl
theorem new_fine : Fine newS := ⟨goes_nil (by
  rcases checkNet_cases ⟨2, 0, 1, []⟩ with ⟨ok, _⟩ | ⟨_, e, he, h⟩
  · exact ok
  · exact absurd h (by
      have : graph_CheckNet_F ⟨2, 0, 1, []⟩ = some 0 := by kernel_rfl
      rw [this]
      exact fun z => he (Option.some.inj z).symm)), fun x hx => (by cases hx), fun x hx => (by cases hx), by decide, rfl, by decide⟩
theorem rest_ok {n m : Int} (hm : 0 < m) (hm2 : m ≤ 1000000000) : ∃ r, weirref_Rest_F n m = some r ∧ 0 ≤ r ∧ r < m := by
  unfold weirref_Rest_F
  have h1 := Int.tmod_lt_of_pos n hm
  have h2 : -m < Int.tmod n m := by
    rcases Int.le_total 0 n with h | h
    · have := Int.tmod_nonneg m h; omega
    · have h3 := Int.tmod_lt_of_pos (-n) hm
      rw [Int.neg_tmod] at h3
      omega
  rw [ck_some (by omega)]
  by_cases h : Int.tmod n m < 0
  · rw [if_pos h, ck_some (inI_small (by omega) (by omega))]
    exact ⟨_, rfl, by omega, by omega⟩
  · rw [if_neg h]
    exact ⟨_, rfl, by omega, h1⟩
theorem ints_same {l : List Int} : slices_Equal_int_F l l = some true := by
  unfold slices_Equal_int_F
  rw [if_neg (by simp), forC_all fun j _ hj => by
    unfold slices_Equal_int_B1
    rw [ck_some (by omega), if_neg (by simp)]]
  rfl
theorem errs_same {l : List Int} : slices_Equal_Errno_F l l = some true := by
  unfold slices_Equal_Errno_F
  rw [if_neg (by simp), forC_all fun j _ hj => by
    unfold slices_Equal_Errno_B1
    rw [ck_some (by omega), if_neg (by simp)]]
  rfl
theorem net_same (n : Net) : weirkeep_sameNet_F n n = some true := by
  unfold weirkeep_sameNet_F
  rw [if_pos rfl, if_pos rfl, if_pos rfl, equalArcs_eq]
  simp
theorem job_total {deeds : List Deed} (hl : deeds.length ≤ 10000000) : ∃ out, many_do_F deeds = some out := by
  obtain ⟨⟨z, l, m⟩, h1, h2, h3, h4⟩ := forN_inv (f := many_do_B1 deeds) (fun k (s : Store × List Int × List Int) => Fine s.1 ∧ s.2.1.length = k ∧ s.2.2.length = k) (n := deeds.length) (k := 0) (s := (newS, [], [])) ⟨new_fine, rfl, rfl⟩ (by
    rintro j ⟨z, l, m⟩ _ hj ⟨hf, e1, e2⟩
    obtain ⟨v, e, s', h, hf', _⟩ := do_did hf (deeds.getD j El.d)
    have e1 : l.length = j := e1
    have e2 : m.length = j := e2
    refine ⟨(s', l ++ [v], m ++ [e]), ?_, hf', by simp [e1], by simp [e2]⟩
    unfold many_do_B1
    dsimp only
    rw [h, bind_some']
    dsimp only
    rw [ck_some (by omega), ck_some (by omega)])
  have hf : Fine z := h2
  have ha := hf.now.ok
  have h5 : slices_Clone_Arc_F z.now.net.as = some z.now.net.as := by
    unfold slices_Clone_Arc_F
    rw [ck_some (by have := ha.g.len; show 0 + z.now.net.as.length ≤ _; have e : z.now.net.as.length ≤ 60 := this; omega)]
    rfl
  refine ⟨⟨l, m, ⟨z.now.net.n, z.now.net.s, z.now.net.t, z.now.net.as⟩⟩, ?_⟩
  unfold many_do_F
  rw [new_eq, bind_some', h1, bind_some']
  unfold store_Net_F
  dsimp only
  rw [h5]
  rfl
theorem line_jobs : (many_do_F [⟨2, 0, 1, 7, ByteArray.empty⟩, ⟨9, 0, 0, 0, ByteArray.empty⟩]).map (·.numbers) = some [0, 7] := by kernel_rfl
theorem mapM_total {α β : Type} {f : α → Option β} : ∀ {l : List α}, (∀ x, x ∈ l → ∃ y, f x = some y) → ∃ l', l.mapM f = some l'
  | [], _ => ⟨[], by simp⟩
  | x :: l, h => by
    obtain ⟨y, hy⟩ := h x (by simp)
    obtain ⟨l2, hl⟩ := mapM_total (l := l) fun z hz => h z (by simp [hz])
    exact ⟨y :: l2, by rw [List.mapM_cons, hy, hl]; rfl⟩
theorem mapM_each {α β : Type} {f : α → Option β} {d : α} {d' : β} : ∀ {l : List α} {l' : List β}, l.mapM f = some l' → l'.length = l.length ∧ ∀ k, k < l.length → f (l.getD k d) = some (l'.getD k d')
  | [], l', h => by
    simp at h
    subst h
    exact ⟨rfl, fun k hk => absurd hk (by simp)⟩
  | x :: l, l', h => by
    rw [List.mapM_cons] at h
    cases hx : f x with
    | none => rw [hx] at h; cases h
    | some y =>
      rw [hx] at h
      cases hl : l.mapM f with
      | none => rw [hl] at h; cases h
      | some l2 =>
        rw [hl] at h
        cases h
        obtain ⟨h1, h2⟩ := mapM_each (d := d) (d' := d') hl
        refine ⟨by simp [h1], fun k hk => ?_⟩
        cases k with
        | zero => exact hx
        | succ k => exact h2 k (by simpa using hk)
theorem run_bad {a : Int} {jobs : List (List Deed)} (h : a < 1 ∨ 8 < a) : many_Run_F a jobs = some ([], 1) := by
  unfold many_Run_F
  by_cases h1 : a < 1
  · rw [if_pos h1]
  · rw [if_neg h1, if_pos (by omega)]
theorem run_good {a : Int} {jobs : List (List Deed)} {outs : List Tale} (h1 : 1 ≤ a) (h8 : a ≤ 8) (hj : jobs.length ≤ 10000000) (h : jobs.mapM many_do_F = some outs) : many_Run_F a jobs = some (outs, 0) := by
  unfold many_Run_F
  rw [if_neg (by omega), if_neg (by omega), ck_some (by omega), h]
  rfl
theorem manyAlike_true (a b : Int) (jobs : List (List Deed)) (k : Int) (hj : jobs.length ≤ 10000000) (hd : ∀ d, d ∈ jobs → d.length ≤ 10000000) : weirkeep_ManyAlike_F a b jobs k = some true := by
  obtain ⟨outs, ho⟩ := mapM_total (f := many_do_F) (l := jobs) fun x hx => job_total (hd x hx)
  obtain ⟨hlen, hall⟩ := mapM_each (d := El.d) (d' := El.d) ho
  obtain ⟨t0, ht0⟩ := job_total (deeds := [⟨2, 0, 1, 7, ByteArray.empty⟩, ⟨9, 0, 0, 0, ByteArray.empty⟩]) (by simp)
  have ht1 : t0.numbers = [0, 7] := by
    have h := line_jobs
    rw [ht0] at h
    simpa using h
  have hfirst : many_Run_F 2 [[⟨2, 0, 1, 7, ByteArray.empty⟩, ⟨9, 0, 0, 0, ByteArray.empty⟩]] = some ([t0], 0) := run_good (by omega) (by omega) (by simp) (by rw [List.mapM_cons, ht0]; rfl)
  unfold weirkeep_ManyAlike_F
  rw [hfirst, bind_some']
  dsimp only
  rw [if_neg (by simp), if_neg (by simp), ck_some (by simp)]
  have e0 : ([t0].getD 0 El.d).numbers = [0, 7] := ht1
  rw [e0, ints_same, bind_some', if_neg (by simp)]
  by_cases ha : a < 1 ∨ 8 < a
  · rw [run_bad ha, bind_some']
    by_cases hb : b < 1 ∨ 8 < b
    · rw [run_bad hb, bind_some']
      simp
    · rw [run_good (by omega) (by omega) hj ho, bind_some']
      simp
  · rw [run_good (by omega) (by omega) hj ho, bind_some']
    by_cases hb : b < 1 ∨ 8 < b
    · rw [run_bad hb, bind_some']
      simp
    · rw [run_good (by omega) (by omega) hj ho, bind_some']
      dsimp only
      rw [if_neg (by simp), if_neg (by simp), if_neg (by rw [hlen]; simp), if_neg (by rw [hlen]; simp)]
      have hloop : forC (weirkeep_ManyAlike_B1 outs outs) outs.length 0 () = some (.go ()) := forC_all fun j _ hj => by
        unfold weirkeep_ManyAlike_B1
        rw [ck_some (by omega), ints_same, bind_some', if_neg (by simp), errs_same, bind_some', if_neg (by simp), net_same, bind_some', if_neg (by simp)]
      rw [hloop, bind_some']
      dsimp only
      by_cases hz : jobs.length = 0
      · rw [if_pos (by rw [hz]; rfl)]
      · rw [if_neg (by omega)]
        obtain ⟨r, hr, h0, hlt⟩ := rest_ok (n := k) (m := ((jobs.length : Nat) : Int)) (by omega) (by omega)
        rw [hr, bind_some', ck_some (inI_small (by omega) (by omega)), ck_some h0, ck_some (by omega), ck_some (by omega), ck_some (by omega)]
        have hrl : r.toNat < jobs.length := by omega
        have hsub : subl jobs r.toNat ((r + 1).toNat - r.toNat) = [jobs.getD r.toNat El.d] := by
          rw [show (r + 1).toNat - r.toNat = 1 by omega]
          unfold subl
          rw [List.drop_eq_getElem_cons hrl]
          have e : jobs.getD r.toNat El.d = jobs[r.toNat] := by simp [List.getD_eq_getElem?_getD, hrl]
          rw [e]; rfl
        rw [hsub, run_good (outs := [outs.getD r.toNat El.d]) (by omega) (by omega) (by simp) (by rw [List.mapM_cons, hall _ hrl]; rfl), bind_some']
        dsimp only
        rw [if_pos (by simp), ck_some (by simp), ck_some (by rw [hlen]; omega)]
        have e1 : [outs.getD r.toNat El.d].getD 0 El.d = outs.getD r.toNat El.d := rfl
        rw [e1, ints_same, bind_some', if_pos rfl, net_same, bind_some']
        first | done | simp
end Go.Proofs.Ytkfmphlnpmemdaa
