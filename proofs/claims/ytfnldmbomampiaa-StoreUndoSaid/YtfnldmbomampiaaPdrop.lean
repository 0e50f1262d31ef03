/- Package repair: an arc that comes, and an arc that goes. -/
import Derived.Test.YtfnldmbomampiaaPrepair
import Derived.Test.YtfnldmbomampiaaPdel
namespace Go.Proofs.Ytfnldmbomampiaa
open Go Go.Proofs.Ytfnldmbomampiaa.Sx
set_option linter.unusedVariables false
set_option linter.unusedSimpArgs false
def addN (n : Net) (a : Arc) : Net := ⟨n.n, n.s, n.t, n.as ++ [a]⟩
theorem del_cap0 {n : Net} {k : Nat} (hk : k < n.as.length) (c : Int) : delN (capN n k c) k = delN n k := by
  have e : (delN (capN n k c) k).as = (delN n k).as := by
    refine eq_of_getD (d := El.d) ?_ fun i hi => ?_
    · have h1 := del_len1 (xs := (capN n k c).as) (k := k) (by rw [cap_len]; exact hk)
      have h2 := del_len1 hk
      rw [cap_len] at h1
      show (del (capN n k c).as k (k + 1)).length = (del n.as k (k + 1)).length
      omega
    · show (del (capN n k c).as k (k + 1)).getD i El.d = (del n.as k (k + 1)).getD i El.d
      rw [del_getD (by rw [cap_len]; exact hk), del_getD hk]
      obtain ⟨a1, a2, a3⟩ := cap_arc (c := c) hk (if i < k then i else i + 1)
      refine arc_ext.1 ⟨a1, a2, ?_⟩
      rw [a3, if_neg (by split <;> omega)]
  unfold delN at e ⊢
  dsimp only at e
  rw [e]
  rfl
/-- a flow that leaves arc k alone, without it -/
theorem del_flow {n : Net} {f : List Int} (hf : Flow n f) {k : Nat} (hk : k < n.as.length) (h0 : f.getD k 0 = 0) : Flow (delN n k) (del f k (k + 1)) ∧ ∀ z, netAt (delN n k).as (del f k (k + 1)) z = netAt n.as f z := by
  have hl := hf.len
  have hz : ∀ z, netAt (delN n k).as (del f k (k + 1)) z = netAt n.as f z := fun z => by
    have e := net_del hk hl z
    have e0 : term n.as f z k = 0 := by unfold term; rw [h0]; split <;> split <;> rfl
    show netAt (del n.as k (k + 1)) _ z = _
    omega
  have hd := del_len1 hk
  have hdf := del_len1 (xs := f) (k := k) (by omega)
  refine ⟨⟨del_okN hf.net hk, by show _ = (del n.as k (k + 1)).length; omega, fun i hi => ?_, fun x hx h1 h2 => by rw [hz]; exact hf.keep x hx h1 h2⟩, hz⟩
  show 0 ≤ (del f k (k + 1)).getD i 0 ∧ (del f k (k + 1)).getD i 0 ≤ ((del n.as k (k + 1)).getD i El.d).c
  rw [del_getD (by omega), del_getD hk]
  exact hf.r _ (by split <;> omega)
theorem del_max0 {n : Net} {k : Nat} (hk : k < n.as.length) (hc : (n.as.getD k El.d).c = 0) {v : Int} (h : MaxV n v) : MaxV (delN n k) v := by
  obtain ⟨f, h1, h2⟩ := h.flow
  obtain ⟨S, h3, h4⟩ := h.cut
  have hr := h1.r k (by rw [h1.len]; exact hk)
  obtain ⟨g1, g2⟩ := del_flow h1 hk (by omega)
  refine ⟨⟨_, g1, by rw [show (delN n k).s = n.s from rfl, g2]; exact h2⟩, S, ⟨h3.s, h3.t, h3.b⟩, ?_⟩
  have e := capS_del hk S
  have e0 : cross n.as S k = 0 := by unfold cross; rw [hc]; split <;> rfl
  show capS (del n.as k (k + 1)) S = v
  omega
theorem del_max {n : Net} {k : Nat} (hk : k < n.as.length) {v : Int} (h : MaxV (capN n k 0) v) : MaxV (delN n k) v := by
  have := del_max0 (n := capN n k 0) (k := k) (by rw [cap_len]; exact hk) (by rw [(cap_arc hk k).2.2, if_pos rfl]) h
  rwa [del_cap0 hk] at this
theorem del_bounds {n : Net} (hn : OkNet n) {k : Nat} (hk : k < n.as.length) {v w : Int} (hv : MaxV n v) (hw : MaxV (delN n k) w) : v - (n.as.getD k El.d).c ≤ w ∧ w ≤ v := by
  have hG := hn.arc hk
  obtain ⟨g, u, _, _, _, hM⟩ := of_max (cap_okN hn (c := 0) hk (by omega) (by omega))
  have e := (del_max hk hM).uniq hw
  have b := cap_max hk hv hM
  have := hG.c0
  omega
theorem repair_check {n : Net} {f : List Int} (hf : Flow n f) (hmax : MaxV n (netAt n.as f n.s)) : repair_Check_F n f = some 0 := by
  obtain ⟨low, v, el, hL, hM⟩ := least_ok hf.net
  have hveq := hM.uniq hmax
  unfold repair_Check_F
  rw [value_ok hf, bind_some']
  dsimp only
  rw [if_neg (by decide), el, bind_some']
  dsimp only
  rw [if_neg (fun z => z hveq.symm)]
theorem repair_on {n : Net} {f : List Int} (hf : Flow n f) : ∃ g w, repair_on_F n f = some (n, g, w, 0) ∧ Flow n g ∧ netAt n.as g n.s = w ∧ MaxV n w := by
  have hm := hf.net.g.len
  dsimp only at hm
  obtain ⟨o, w, eo, o1, o2, S, o3, o4⟩ := more_ok hf
  refine ⟨o, w, ?_, o1, o2, ⟨o, o1, o2⟩, S, o3, by rw [← o2]; exact (o1.eq_cut o3 o4).symm⟩
  unfold repair_on_F
  rw [clone_eq (by omega), bind_some', show (⟨n.n, n.s, n.t, n.as⟩ : Net) = n from rfl, eo, bind_some']
theorem repair_add {n : Net} {f : List Int} (hf : Flow n f) (hmax : MaxV n (netAt n.as f n.s)) {a : Arc} (ha : OkNet (addN n a)) :
    ∃ g w, repair_Add_F n f a = some (addN n a, g, w, 0) ∧ Flow (addN n a) g ∧ netAt (addN n a).as g n.s = w ∧ MaxV (addN n a) w := by
  have hm := hf.net.g.len
  dsimp only at hm
  have hfl := hf.len
  have hlen : (addN n a).as.length = n.as.length + 1 := by show (n.as ++ [a]).length = _; simp
  have hF : Flow (addN n a) (f ++ [0]) := by
    refine ⟨ha, by rw [hlen]; simp [hfl], fun i hi => ?_, fun x hx h1 h2 => ?_⟩
    · have hi' : i < f.length + 1 := by simpa using hi
      show 0 ≤ (f ++ [0]).getD i 0 ∧ (f ++ [0]).getD i 0 ≤ ((n.as ++ [a]).getD i El.d).c
      simp only [List.getD_eq_getElem?_getD]
      by_cases h : i < f.length
      · rw [List.getElem?_append_left h, List.getElem?_append_left (by omega)]
        have := hf.r i h
        simpa only [List.getD_eq_getElem?_getD] using this
      · have e : i = f.length := by omega
        have hG := ha.arc (k := n.as.length) (by omega)
        have hc : ((addN n a).as.getD n.as.length El.d) = a := by show (n.as ++ [a]).getD _ _ = a; simp
        rw [hc] at hG
        have e1 : (f ++ [(0 : Int)])[i]? = some 0 := by rw [e]; simp
        have e2 : (n.as ++ [a])[i]? = some a := by rw [e, hfl]; simp
        rw [e1, e2]
        exact ⟨Int.le_refl _, hG.c0⟩
    · have e := net_del (L := n.as ++ [a]) (f := f ++ [0]) (k := n.as.length) (by simp) (by simp [hfl]) x
      rw [del_last, show del (f ++ [(0 : Int)]) n.as.length (n.as.length + 1) = f by rw [← hfl]; exact del_last f 0] at e
      have e0 : term (n.as ++ [a]) (f ++ [0]) x n.as.length = 0 := by
        unfold term
        have : (f ++ [(0 : Int)]).getD n.as.length 0 = 0 := by rw [← hfl]; simp
        rw [this]; split <;> split <;> rfl
      have := hf.keep x hx h1 h2
      show netAt (n.as ++ [a]) (f ++ [0]) x = 0
      omega
  obtain ⟨g, w, e, h1, h2, h3⟩ := repair_on hF
  refine ⟨g, w, ?_, h1, h2, h3⟩
  unfold repair_Add_F
  rw [repair_check hf hmax, bind_some', if_neg (by decide), clone_eq (by omega), bind_some', ck_some (by omega)]
  have hc : graph_CheckNet_F (⟨n.n, n.s, n.t, n.as ++ [a]⟩ : Net) = some 0 := by
    rcases checkNet_cases (addN n a) with ⟨_, h⟩ | ⟨h, _⟩
    · exact h
    · exact absurd ha h
  rw [hc, bind_some', if_neg (by decide), cloneInts_eq (by omega), bind_some', ck_some (by omega), show (⟨n.n, n.s, n.t, n.as ++ [a]⟩ : Net) = addN n a from rfl, e, bind_some']
theorem repair_addBad {n : Net} {f : List Int} (hf : Flow n f) (hmax : MaxV n (netAt n.as f n.s)) {a : Arc} (ha : ¬ OkNet (addN n a)) :
    ∃ e, e ≠ 0 ∧ repair_Add_F n f a = some (⟨0, 0, 0, []⟩, [], 0, e) := by
  have hm := hf.net.g.len
  dsimp only at hm
  rcases checkNet_cases (addN n a) with ⟨h, _⟩ | ⟨_, e, he, h⟩
  · exact absurd h ha
  · refine ⟨e, he, ?_⟩
    unfold repair_Add_F
    have hc : graph_CheckNet_F (⟨n.n, n.s, n.t, n.as ++ [a]⟩ : Net) = some e := h
    rw [repair_check hf hmax, bind_some', if_neg (by decide), clone_eq (by omega), bind_some', ck_some (by omega), hc, bind_some', if_pos he]
theorem repair_drop {n : Net} {f : List Int} (hf : Flow n f) (hmax : MaxV n (netAt n.as f n.s)) {k : Nat} (hk : k < n.as.length) :
    ∃ g w, repair_Drop_F n f (k : Int) = some (delN n k, g, w, 0) ∧ Flow (delN n k) g ∧ netAt (delN n k).as g n.s = w ∧ MaxV (delN n k) w ∧ netAt n.as f n.s - (n.as.getD k El.d).c ≤ w ∧ w ≤ netAt n.as f n.s := by
  have hm := hf.net.g.len
  dsimp only at hm
  obtain ⟨g, u, e1, h1, h2, h3⟩ := repair_cap hf hmax hk (takes := 0) (by omega) (by omega)
  have hgl := h1.len
  rw [cap_len] at hgl
  have hkc : k < (capN n k 0).as.length := by rw [cap_len]; exact hk
  have hr := h1.r k (by omega)
  rw [(cap_arc (c := 0) hk k).2.2, if_pos rfl] at hr
  obtain ⟨d1, d2⟩ := del_flow h1 hkc (by omega)
  rw [del_cap0 hk] at d1
  obtain ⟨o, w, e2, o1, o2, o3⟩ := repair_on d1
  have hb := del_bounds hf.net hk hmax o3
  refine ⟨o, w, ?_, o1, o2, o3, hb.1, hb.2⟩
  have ek : ((k : Nat) : Int) + 1 = ((k + 1 : Nat) : Int) := rfl
  have cl := cap_len n k 0
  unfold repair_Drop_F
  rw [e1, bind_some']
  dsimp only
  rw [if_neg (by decide), ck_some (inI_small (by omega) (by omega))]
  have q1 : slices_Delete_Arc_F (capN n k 0).as (k : Int) ((k : Int) + 1) = some (del (capN n k 0).as k (k + 1)) := by
    unfold slices_Delete_Arc_F
    rw [ck_some (by omega), ck_some (by omega), ck_some (by omega), ck_some (by omega), ek, Int.toNat_natCast, Int.toNat_natCast]
  have q2 : slices_Delete_int_F g (k : Int) ((k : Int) + 1) = some (del g k (k + 1)) := by
    unfold slices_Delete_int_F
    rw [ck_some (by omega), ck_some (by omega), ck_some (by omega), ck_some (by omega), ek, Int.toNat_natCast, Int.toNat_natCast]
  have q3 : (⟨(capN n k 0).n, (capN n k 0).s, (capN n k 0).t, del (capN n k 0).as k (k + 1)⟩ : Net) = delN n k := del_cap0 hk 0
  rw [q1, bind_some', q2, bind_some', q3, e2, bind_some']
end Go.Proofs.Ytfnldmbomampiaa
