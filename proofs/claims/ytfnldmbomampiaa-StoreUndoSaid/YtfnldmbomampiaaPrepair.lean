/- Package repair: Cap goes on from the flow that is left where an arc takes something else. -/
import Derived.Test.YtfnldmbomampiaaPsplit
import Derived.Test.YtfnldmbomampiaaPpaths0
import Derived.Test.YtfnldmbomampiaaPspread
import Derived.Test.YtfnldmbomampiaaGrepair
namespace Go.Proofs.Ytfnldmbomampiaa
open Go Go.Proofs.Ytfnldmbomampiaa.Sx
set_option linter.unusedVariables false
set_option linter.unusedSimpArgs false
/-- the net in which arc k takes c -/
def capN (n : Net) (k : Nat) (c : Int) : Net := ⟨n.n, n.s, n.t, n.as.set k ⟨(n.as.getD k El.d).f, (n.as.getD k El.d).t, c⟩⟩
theorem cap_arc {n : Net} {k : Nat} {c : Int} (hk : k < n.as.length) (i : Nat) : ((capN n k c).as.getD i El.d).f = (n.as.getD i El.d).f ∧ ((capN n k c).as.getD i El.d).t = (n.as.getD i El.d).t ∧ ((capN n k c).as.getD i El.d).c = if i = k then c else (n.as.getD i El.d).c := by
  unfold capN
  dsimp only
  rw [getD_set']
  by_cases e : i = k
  · subst e
    rw [if_pos ⟨rfl, hk⟩, if_pos rfl]
    exact ⟨rfl, rfl, rfl⟩
  · rw [if_neg (fun z => e z.1), if_neg e]
    exact ⟨rfl, rfl, rfl⟩
theorem cap_len (n : Net) (k : Nat) (c : Int) : (capN n k c).as.length = n.as.length := by unfold capN; simp
theorem cap_net {n : Net} {k : Nat} {c : Int} (hk : k < n.as.length) (f : List Int) (z : Int) : netAt (capN n k c).as f z = netAt n.as f z := by
  unfold netAt
  rw [cap_len]
  exact tot_congr fun i _ => by
    obtain ⟨e1, e2, _⟩ := cap_arc (c := c) hk i
    unfold term
    rw [e1, e2]
theorem cap_okN {n : Net} (hn : OkNet n) {k : Nat} {c : Int} (hk : k < n.as.length) (h0 : 0 ≤ c) (h1 : c ≤ 10000) : OkNet (capN n k c) :=
  ⟨⟨hn.g.n0, hn.g.n1, by have := hn.g.len; dsimp only at this ⊢; rw [cap_len]; exact this, fun a ha => by
    obtain ⟨i, hi, rfl⟩ := getD_of_mem (d := El.d) ha
    have hi' : i < n.as.length := by have := cap_len n k c; dsimp only at hi; omega
    have hG := hn.arc hi'
    obtain ⟨e1, e2, e3⟩ := cap_arc (c := c) hk i
    refine ⟨by rw [e1]; exact hG.f0, by rw [e1]; exact hG.f1, by rw [e2]; exact hG.t0, by rw [e2]; exact hG.t1, ?_, ?_⟩
    · rw [e3]; split
      · exact h0
      · exact hG.c0
    · rw [e3]; split
      · exact h1
      · exact hG.c1⟩, hn.s0, hn.s1, hn.t0, hn.t1, hn.ne⟩
theorem cap_capS {n : Net} {k : Nat} {c : Int} (hk : k < n.as.length) (S : Int → Int) : capS (capN n k c).as S - capS n.as S = if S (n.as.getD k El.d).f = 1 ∧ S (n.as.getD k El.d).t = 0 then c - (n.as.getD k El.d).c else 0 := by
  unfold capS
  rw [cap_len, ← tot_sub (cross (capN n k c).as S) (cross n.as S)]
  rw [tot_single hk fun i _ hne => by
    obtain ⟨e1, e2, e3⟩ := cap_arc (c := c) hk i
    unfold cross
    rw [e1, e2, e3, if_neg hne, Int.sub_self]]
  obtain ⟨e1, e2, e3⟩ := cap_arc (c := c) hk k
  unfold cross
  rw [e1, e2, e3, if_pos rfl]
  split <;> omega
theorem cap_max {n : Net} {k : Nat} {c v w : Int} (hk : k < n.as.length) (hv : MaxV n v) (hw : MaxV (capN n k c) w) : v + min (c - (n.as.getD k El.d).c) 0 ≤ w ∧ w ≤ v + max (c - (n.as.getD k El.d).c) 0 := by
  obtain ⟨S, s1, s2⟩ := hv.cut
  obtain ⟨T, t1, t2⟩ := hw.cut
  have a := hw.ge (S := S) ⟨s1.s, s1.t, s1.b⟩
  have b := hv.ge (S := T) ⟨t1.s, t1.t, t1.b⟩
  have c1 := cap_capS (c := c) hk S
  have c2 := cap_capS (c := c) hk T
  split at c1 <;> split at c2 <;> omega
theorem repair_cap {n : Net} {f : List Int} (hf : Flow n f) (hmax : MaxV n (netAt n.as f n.s)) {k : Nat} (hk : k < n.as.length) {takes : Int} (h0 : 0 ≤ takes) (h1 : takes ≤ 10000) :
    ∃ g w, repair_Cap_F n f (k : Int) takes = some (capN n k takes, g, w, 0) ∧ Flow (capN n k takes) g ∧ netAt (capN n k takes).as g n.s = w ∧ MaxV (capN n k takes) w := by
  have hn := hf.net
  have hm := hn.g.len
  dsimp only at hm
  have hfl := hf.len
  obtain ⟨low, v, el, hL, hM⟩ := least_ok hn
  have hveq := hM.uniq hmax
  obtain ⟨ways, rounds, es, hS⟩ := split_ok hf (hmax.nonneg hn)
  have hps : ∀ p, p ∈ rounds ++ ways → 1 ≤ p.amount ∧ ∃ a b, Chain n.as p.arcs a b ∧ ((a = n.s ∧ b = n.t) ∨ a = b) := fun p hp => by
    rcases List.mem_append.1 hp with hp | hp
    · obtain ⟨b, hb⟩ := hS.rs p hp
      exact ⟨hb.a1, b, b, hb.ch, .inr rfl⟩
    · have := hS.ws p hp
      exact ⟨this.a1, _, _, this.ch, .inl ⟨rfl, rfl⟩⟩
  have hsum : ∀ i, i < n.as.length → f.getD i 0 = amtL (rounds ++ ways) i := fun i hi => by rw [amtL_app, hS.sum i hi]; omega
  generalize hP : rounds ++ ways = ps at hps hsum
  have nn : ∀ j i, 0 ≤ amtL (ps.drop j) i := fun j i => (amtL_ge (fun p hp => (hps p (List.mem_of_mem_drop hp)).1) i).1
  obtain ⟨g, eg, g1, g2, g3, g4⟩ := forN_inv (f := repair_Cap_B1 (k : Int) takes ps) (fun j (l : List Int) => l.length = n.as.length ∧ (∀ i, i < n.as.length → amtL (ps.drop j) i ≤ l.getD i 0 ∧ l.getD i 0 ≤ f.getD i 0) ∧ l.getD k 0 ≤ takes + amtL (ps.drop j) k ∧ ∀ z, z ≠ n.s → z ≠ n.t → netAt n.as l z = netAt n.as f z) (n := ps.length) (k := 0) (s := f) ⟨hfl, fun i hi => by rw [List.drop_zero, hsum i hi]; exact ⟨Int.le_refl _, Int.le_refl _⟩, by rw [List.drop_zero, ← hsum k hk]; omega, fun z _ _ => rfl⟩ fun j l _ hj ⟨i1, i2, i3, i4⟩ => by
    have hj' : j < ps.length := by omega
    obtain ⟨ha, a, b, hch, hab⟩ := hps _ (mem_getD (d := El.d) hj')
    rw [drop_getD El.d hj'] at i2 i3
    simp only [amtL] at i2 i3
    generalize hpj : ps.getD j El.d = p at ha hch i2 i3
    have nn' := nn (j + 1)
    have mul01 : ∀ i, (inA p.arcs i = 0 ∨ inA p.arcs i = 1) := fun i => by have := inA01 p.arcs i; omega
    have frg : ∀ i, i < n.as.length → f.getD i 0 ≤ 10000 := fun i hi => by
      have := hf.r i (by rw [hfl]; exact hi)
      have := (hn.arc hi).c1
      omega
    have lrg : ∀ i, i < n.as.length → 0 ≤ l.getD i 0 ∧ l.getD i 0 ≤ 10000 := fun i hi => by
      have a1 := i2 i hi
      have a2 := nn' i
      have a3 := frg i hi
      have a4 := Int.mul_nonneg (a := p.amount) (b := inA p.arcs i) (by omega) (inA01 _ _).1
      omega
    unfold repair_Cap_B1
    rw [show ps.getD j El.d = p from hpj, contains_eq, bind_some']
    by_cases c : (k : Int) ∈ p.arcs
    · have hk1 : inA p.arcs k = 1 := by unfold inA; rw [if_pos c]
      have lk := lrg k hk
      rw [decide_eq_true c, if_neg (by decide), ck_some (by omega), Int.toNat_natCast, ck_some (inI_small (by omega) (by omega))]
      obtain ⟨l', e, k1, k2, k3⟩ := chain_sub (f := repair_Cap_B2 (k : Int) takes ps j l) (c := max 0 (min p.amount (l.getD k 0 - takes))) i1 hch fun i m hi hm2 hmi => by
        have hr := hch.rg i hi
        have lr := lrg (p.arcs.getD i 0).toNat (by omega)
        unfold repair_Cap_B2
        rw [show ps.getD j El.d = p from hpj, ck_some (by omega), Int.toNat_natCast, ck_some (inI_small (by omega) (by omega))]
      rw [e, bind_some']
      refine ⟨_, rfl, k1, fun i hi => ?_, ?_, fun z hz1 hz2 => ?_⟩
      · have b1 := i2 i hi
        rw [k2 i hi]
        rcases mul01 i with q | q
        · rw [q, Int.mul_zero] at b1 ⊢; omega
        · rw [q, Int.mul_one] at b1 ⊢; omega
      · rw [k2 k hk, hk1, Int.mul_one]
        rw [hk1, Int.mul_one] at i3
        have := nn' k
        omega
      · rw [k3 z, i4 z hz1 hz2]
        rcases hab with ⟨rfl, rfl⟩ | rfl
        · rw [if_neg (fun e => hz1 e.symm), if_neg (fun e => hz2 e.symm), Int.sub_self, Int.mul_zero, Int.sub_zero]
        · rw [Int.sub_self, Int.mul_zero, Int.sub_zero]
    · have hk0 : inA p.arcs k = 0 := by unfold inA; rw [if_neg c]
      rw [decide_eq_false c, if_pos (show (!false) = true from rfl)]
      refine ⟨_, rfl, i1, fun i hi => ?_, ?_, i4⟩
      · have b1 := i2 i hi
        have b2 := Int.mul_nonneg (a := p.amount) (b := inA p.arcs i) (by omega) (inA01 _ _).1
        omega
      · rw [hk0, Int.mul_zero] at i3
        omega
  rw [Nat.zero_add, List.drop_of_length_le (Nat.le_refl _)] at g2 g3
  simp only [amtL] at g2 g3
  have hgf : Flow (capN n k takes) g := ⟨cap_okN hn hk h0 h1, by rw [g1, cap_len], fun i hi => by
    have b1 := g2 i (by omega)
    have b2 := hf.r i (by omega)
    rw [(cap_arc (c := takes) hk i).2.2]
    by_cases e : i = k
    · subst e
      rw [if_pos rfl]; omega
    · rw [if_neg e]; omega, fun x hx h1 h2 => by
    rw [cap_net hk, g4 x h1 h2]
    exact hf.keep x hx h1 h2⟩
  obtain ⟨o, w, eo, o1, o2, S, o3, o4⟩ := more_ok hgf
  have hMw : MaxV (capN n k takes) w := ⟨⟨o, o1, o2⟩, S, o3, by rw [← o2]; exact (o1.eq_cut o3 o4).symm⟩
  refine ⟨o, w, ?_, o1, o2, hMw⟩
  have hchk : repair_Check_F n f = some 0 := by
    unfold repair_Check_F
    rw [value_ok hf, bind_some']
    dsimp only
    rw [if_neg (by decide), el, bind_some']
    dsimp only
    rw [if_neg (fun z => z hveq.symm)]
  have hon : repair_on_F (capN n k takes) g = some (capN n k takes, o, w, 0) := by
    unfold repair_on_F
    rw [clone_eq (by rw [cap_len]; omega), bind_some', show (⟨(capN n k takes).n, (capN n k takes).s, (capN n k takes).t, (capN n k takes).as⟩ : Net) = capN n k takes from rfl, eo, bind_some']
  unfold repair_Cap_F
  rw [hchk, bind_some', if_neg (by decide), if_neg (by omega), if_neg (by omega), if_neg (by omega), if_neg (by omega), es, bind_some']
  dsimp only
  have cw := hS.cw; have cr := hS.cr
  rw [cloneInts_eq (by omega), bind_some', concatP_eq (by omega) (by omega), bind_some', hP, eg, bind_some', clone_eq (by omega), bind_some', ck_some (by omega), Int.toNat_natCast,
    show (⟨n.n, n.s, n.t, n.as.set k ⟨(n.as.getD k El.d).f, (n.as.getD k El.d).t, takes⟩⟩ : Net) = capN n k takes from rfl, hon, bind_some']
end Go.Proofs.Ytfnldmbomampiaa
