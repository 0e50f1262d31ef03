/- Package level: levels tells how far from the source each node is, by what is left. -/
import Derived.Test.YtdpkdicciclobaaPmore
import Derived.Test.YtdpkdicciclobaaGlevel
namespace Go.Proofs.Ytdpkdicciclobaa
open Go Go.Proofs.Ytdpkdicciclobaa.Sx
set_option linter.unusedVariables false
set_option linter.unusedSimpArgs false
/-- by arc k what is left leads from x to y -/
def Res (n : Net) (f : List Int) (x y : Int) : Prop := ∃ k, k < n.as.length ∧ ResTo n f x k y
theorem ResTo.range {n : Net} (hn : OkNet n) {f : List Int} {x y : Int} {k : Nat} (hk : k < n.as.length) (h : ResTo n f x k y) : (0 ≤ x ∧ x < n.n) ∧ 0 ≤ y ∧ y < n.n := by
  have hG := hn.arc hk
  have := hG.f0; have := hG.f1; have := hG.t0; have := hG.t1
  rcases h with ⟨a, b, _⟩ | ⟨a, b, _⟩ <;> omega
structure BL (n : Net) (f : List Int) (lev : Nat → Int) (q : List Int) : Prop where
  s0 : lev n.s.toNat = 0
  lo : ∀ x : Nat, x < 12 → -1 ≤ lev x
  inn : ∀ x : Nat, x < 12 → 0 ≤ lev x → (x : Int) < n.n
  wait : ∀ y, y ∈ q → 0 ≤ y ∧ y < n.n ∧ 0 ≤ lev y.toNat
  sorted : q.Pairwise (fun x y => lev x.toNat ≤ lev y.toNat)
  top : ∀ x, x ∈ q → ∀ y : Nat, y < 12 → lev y ≤ lev x.toNat + 1
  back : ∀ y : Nat, y < 12 → 0 < lev y → ∃ x : Nat, x < 12 ∧ lev x + 1 = lev y ∧ Res n f x y
  root : ∀ y : Nat, y < 12 → lev y = 0 → y = n.s.toNat
  done : ∀ x : Nat, x < 12 → 0 ≤ lev x → (x : Int) ∉ q → ∀ y : Nat, Res n f x y → 0 ≤ lev y ∧ lev y ≤ lev x + 1
  bd : ∀ x : Nat, x < 12 → lev x < cnt (reach lev) 12
structure ML (n : Net) (f : List Int) (at_ : Int) (r : List Int) (j m : Nat) (lev : Nat → Int) (q : List Int) : Prop where
  b : BL n f lev q
  pre : ∃ ext, q = at_ :: (r ++ ext)
  seen : ∀ k, k < j → ∀ y : Nat, ResTo n f at_ k y → 0 ≤ lev y ∧ lev y ≤ lev at_.toNat + 1
  m : 12 - cnt (reach lev) 12 + q.length ≤ m
theorem ML.hd {n : Net} {f : List Int} {at_ : Int} {r : List Int} {j m : Nat} {lev : Nat → Int} {q : List Int} (h : ML n f at_ r j m lev q) : 0 ≤ at_ ∧ at_ < n.n ∧ 0 ≤ lev at_.toNat := by
  obtain ⟨ext, e⟩ := h.pre
  exact h.b.wait at_ (by rw [e]; simp)
/-- a node is seen from the first one that waits -/
theorem ML.see {n : Net} {f : List Int} (hn : OkNet n) {at_ : Int} {r : List Int} {j m : Nat} {lev : Nat → Int} {q : List Int} (h : ML n f at_ r j m lev q) {y : Int} (hr : Res n f at_ y) (hy : lev y.toNat < 0) :
    ML n f at_ r j m (updF lev y.toNat (lev at_.toNat + 1)) (q ++ [y]) := by
  obtain ⟨ext, e⟩ := h.pre
  obtain ⟨k0, hk0, hres⟩ := hr
  obtain ⟨_, y0, y1⟩ := hres.range hn hk0
  have n12 := hn.g.n1
  dsimp only at n12
  obtain ⟨a0, a1, a2⟩ := h.hd
  have hmin : ∀ x, x ∈ q → lev at_.toNat ≤ lev x.toNat := fun x hx => by
    rw [e] at hx
    rcases List.mem_cons.1 hx with c | c
    · rw [c]; exact Int.le_refl _
    · have := h.b.sorted; rw [e] at this; exact (List.pairwise_cons.1 this).1 x c
  have hne : ∀ z : Nat, 0 ≤ lev z → z ≠ y.toNat := fun z hz c => by rw [c] at hz; omega
  have hF : ∀ z : Nat, 0 ≤ lev z → updF lev y.toNat (lev at_.toNat + 1) z = lev z := fun z hz => by unfold updF; rw [if_neg (hne z hz)]
  have hFy : updF lev y.toNat (lev at_.toNat + 1) y.toNat = lev at_.toNat + 1 := by unfold updF; rw [if_pos rfl]
  have hle : ∀ z : Nat, lev z ≤ updF lev y.toNat (lev at_.toNat + 1) z := fun z => by
    unfold updF
    by_cases c : z = y.toNat
    · rw [if_pos c, c]; omega
    · rw [if_neg c]; exact Int.le_refl _
  have hc : cnt (reach lev) 12 < cnt (reach (updF lev y.toNat (lev at_.toNat + 1))) 12 := by
    refine cnt_lt (y := y.toNat) (fun z hz hr => ?_) (by omega) (by simp only [reach, hFy, decide_eq_true_eq]; omega) (by simp [reach]; omega)
    simp only [reach, decide_eq_true_eq] at hr ⊢
    rw [hF z hr]; exact hr
  refine ⟨⟨?_, fun x hx => ?_, fun x hx hx2 => ?_, fun x hx => ?_, ?_, fun x hx z hz => ?_, fun z hz hp => ?_, fun z hz hp => ?_, fun x hx hp hxq z hr => ?_, fun x hx => ?_⟩, ⟨ext ++ [y], by rw [e]; simp⟩, fun k hk z hr => ?_, ?_⟩
  · rw [hF _ (by rw [h.b.s0]; exact Int.le_refl _)]; exact h.b.s0
  · have := h.b.lo x hx; have := hle x; omega
  · by_cases c : x = y.toNat
    · subst c; omega
    · unfold updF at hx2; rw [if_neg c] at hx2; exact h.b.inn x hx hx2
  · rcases List.mem_append.1 hx with hx | hx
    · have := h.b.wait x hx
      exact ⟨this.1, this.2.1, by rw [hF _ this.2.2]; exact this.2.2⟩
    · rw [List.mem_singleton.1 hx, hFy]; exact ⟨y0, y1, by omega⟩
  · refine List.pairwise_append.2 ⟨List.Pairwise.imp_of_mem (fun {x z} hx hz hxz => ?_) h.b.sorted, List.pairwise_singleton _ _, fun x hx z hz => ?_⟩
    · rw [hF _ (h.b.wait x hx).2.2, hF _ (h.b.wait z hz).2.2]; exact hxz
    · rw [List.mem_singleton.1 hz, hFy, hF _ (h.b.wait x hx).2.2]
      exact h.b.top at_ (by rw [e]; simp) _ (by have := h.b.wait x hx; omega)
  · have hxx : lev at_.toNat ≤ updF lev y.toNat (lev at_.toNat + 1) x.toNat := by
      rcases List.mem_append.1 hx with hx | hx
      · rw [hF _ (h.b.wait x hx).2.2]; exact hmin x hx
      · rw [List.mem_singleton.1 hx, hFy]; omega
    by_cases c : z = y.toNat
    · subst c; rw [hFy]; omega
    · have e2 : updF lev y.toNat (lev at_.toNat + 1) z = lev z := by unfold updF; rw [if_neg c]
      have := h.b.top at_ (by rw [e]; simp) z hz
      omega
  · by_cases c : z = y.toNat
    · subst c
      refine ⟨at_.toNat, by omega, ?_, k0, hk0, ?_⟩
      · rw [hFy, hF _ a2]
      · rw [show ((at_.toNat : Nat) : Int) = at_ by omega, show ((y.toNat : Nat) : Int) = y by omega]; exact hres
    · have e2 : updF lev y.toNat (lev at_.toNat + 1) z = lev z := by unfold updF; rw [if_neg c]
      rw [e2] at hp
      obtain ⟨x, x1, x2, x3⟩ := h.b.back z hz hp
      exact ⟨x, x1, by rw [e2, hF x (by omega)]; exact x2, x3⟩
  · by_cases c : z = y.toNat
    · subst c; rw [hFy] at hp; omega
    · have e2 : updF lev y.toNat (lev at_.toNat + 1) z = lev z := by unfold updF; rw [if_neg c]
      rw [e2] at hp; exact h.b.root z hz hp
  · have c : x ≠ y.toNat := fun c => hxq (List.mem_append_right _ (by rw [c]; simp; omega))
    have e2 : updF lev y.toNat (lev at_.toNat + 1) x = lev x := by unfold updF; rw [if_neg c]
    rw [e2] at hp ⊢
    have := h.b.done x hx hp (fun z => hxq (List.mem_append_left _ z)) z hr
    rw [hF z this.1]; exact this
  · by_cases c : x = y.toNat
    · subst c; rw [hFy]
      have := h.b.bd at_.toNat (by omega)
      omega
    · have e2 : updF lev y.toNat (lev at_.toNat + 1) x = lev x := by unfold updF; rw [if_neg c]
      have := h.b.bd x hx
      omega
  · have := h.seen k hk z hr
    rw [hF z this.1, hF _ a2]; exact this
  · have := h.m
    have := cnt_le (reach (updF lev y.toNat (lev at_.toNat + 1))) 12
    simp only [List.length_append, List.length_singleton]; omega
theorem ML.add {n : Net} {f : List Int} (hw : WIn n f) {at_ : Int} {r : List Int} {j m : Nat} {lev : Nat → Int} {q : List Int} (h : ML n f at_ r j m lev q) (hm : m ≤ 100) {y : Int} (hr : Res n f at_ y) (P : Option ((Nat → Int) × List Int)) {l13 : List Int} (hl : l13.getD 0 0 = at_)
    (hP : P = ck (0 ≤ y ∧ y < 12) (if lev y.toNat < 0 then ck (0 ≤ l13.getD 0 (0 : Int) ∧ l13.getD 0 (0 : Int) < 12) (ck (InI (lev (l13.getD 0 (0 : Int)).toNat + 1)) (ck (q.length + 1 ≤ 17592186044416) (some (updF lev y.toNat (lev (l13.getD 0 (0 : Int)).toNat + 1), q ++ [y])))) else some (lev, q))) :
    ∃ lev' q', P = some (lev', q') ∧ ML n f at_ r j m lev' q' ∧ 0 ≤ lev' y.toNat ∧ lev' y.toNat ≤ lev' at_.toNat + 1 ∧ ∀ z : Nat, 0 ≤ lev z → lev' z = lev z := by
  obtain ⟨k0, hk0, hres⟩ := hr
  have hn := hw.net
  obtain ⟨_, y0, y1⟩ := hres.range hn hk0
  have n12 := hn.g.n1
  dsimp only at n12
  obtain ⟨a0, a1, a2⟩ := h.hd
  obtain ⟨ext, e⟩ := h.pre
  rw [hl] at hP
  have hbd := h.b.bd at_.toNat (by omega)
  have hcl := cnt_le (reach lev) 12
  have hmm := h.m
  rw [ck_some ⟨y0, by omega⟩, ck_some (⟨a0, by omega⟩ : 0 ≤ at_ ∧ at_ < 12), ck_some (show InI (lev at_.toNat + 1) by unfold InI; omega), ck_some (by omega)] at hP
  by_cases c : lev y.toNat < 0
  · rw [if_pos c] at hP
    have := h.see hn ⟨k0, hk0, hres⟩ c
    have hne : ∀ z : Nat, 0 ≤ lev z → z ≠ y.toNat := fun z hz w => by rw [w] at hz; omega
    refine ⟨_, _, hP, this, ?_, ?_, fun z hz => ?_⟩
    · unfold updF; rw [if_pos rfl]; omega
    · unfold updF; rw [if_pos rfl, if_neg (hne _ a2)]; exact Int.le_refl _
    · unfold updF; rw [if_neg (hne z hz)]
  · rw [if_neg c] at hP
    exact ⟨_, _, hP, h, by omega, h.b.top at_ (by rw [e]; simp) _ (by omega), fun z _ => rfl⟩
theorem lev_arc {n : Net} {f : List Int} (hw : WIn n f) {lv0 : Nat → Int} {at_ : Int} {r : List Int} {j m : Nat} {lev : Nat → Int} {q : List Int} (h : ML n f at_ r j m lev q) (hm : m ≤ 100) (hj : j < n.as.length) {l13 : List Int} (hl : l13.getD 0 0 = at_) :
    ∃ σ', level_levels_B3 ⟨n, f, lv0⟩ l13 j (lev, q) = some σ' ∧ ML n f at_ r (j + 1) m σ'.1 σ'.2 := by
  have hG := hw.net.small hj
  have hjf : j < f.length := by rw [hw.len]; exact hj
  unfold level_levels_B3
  dsimp only
  -- along the arc
  have first : ∃ lev' q', (if (n.as.getD j El.d).f = l13.getD 0 0 then ck (j < f.length) (if f.getD j 0 < (n.as.getD j El.d).c then ck (0 ≤ (n.as.getD j El.d).t ∧ (n.as.getD j El.d).t < 12) (if lev (n.as.getD j El.d).t.toNat < 0 then ck (0 ≤ l13.getD 0 (0 : Int) ∧ l13.getD 0 (0 : Int) < 12) (ck (InI (lev (l13.getD 0 (0 : Int)).toNat + 1)) (ck (q.length + 1 ≤ 17592186044416) (some (updF lev (n.as.getD j El.d).t.toNat (lev (l13.getD 0 (0 : Int)).toNat + 1), q ++ ([(n.as.getD j El.d).t] : List Int))))) else some (lev, q)) else some (lev, q)) else some (lev, q)) = some (lev', q') ∧ ML n f at_ r j m lev' q' ∧
      (∀ y : Nat, (n.as.getD j El.d).f = at_ → (n.as.getD j El.d).t = y → f.getD j 0 < (n.as.getD j El.d).c → 0 ≤ lev' y ∧ lev' y ≤ lev' at_.toNat + 1) := by
    by_cases c1 : (n.as.getD j El.d).f = l13.getD 0 0
    · rw [if_pos c1, ck_some hjf]
      by_cases c2 : f.getD j 0 < (n.as.getD j El.d).c
      · rw [if_pos c2]
        obtain ⟨lev', q', e, h1, h2, h3, h4⟩ := h.add hw hm ⟨j, hj, .inl ⟨c1.trans hl, rfl, c2⟩⟩ _ hl rfl
        refine ⟨lev', q', e, h1, fun y _ e2 _ => ?_⟩
        rw [e2, Int.toNat_natCast] at h2 h3
        exact ⟨h2, h3⟩
      · rw [if_neg c2]
        exact ⟨lev, q, rfl, h, fun y _ _ z => absurd z c2⟩
    · rw [if_neg c1]
      exact ⟨lev, q, rfl, h, fun y z _ _ => absurd (z.trans hl.symm) c1⟩
  obtain ⟨lev1, q1, e1, m1, s1⟩ := first
  rw [e1, bind_some']
  dsimp only
  have second : ∃ lev' q', (if (n.as.getD j El.d).t = l13.getD 0 0 then ck (j < f.length) (if 0 < f.getD j 0 then ck (0 ≤ (n.as.getD j El.d).f ∧ (n.as.getD j El.d).f < 12) (if lev1 (n.as.getD j El.d).f.toNat < 0 then ck (0 ≤ l13.getD 0 (0 : Int) ∧ l13.getD 0 (0 : Int) < 12) (ck (InI (lev1 (l13.getD 0 (0 : Int)).toNat + 1)) (ck (q1.length + 1 ≤ 17592186044416) (some (updF lev1 (n.as.getD j El.d).f.toNat (lev1 (l13.getD 0 (0 : Int)).toNat + 1), q1 ++ ([(n.as.getD j El.d).f] : List Int))))) else some (lev1, q1)) else some (lev1, q1)) else some (lev1, q1)) = some (lev', q') ∧ ML n f at_ r j m lev' q' ∧
      (∀ y : Nat, (n.as.getD j El.d).t = at_ → (n.as.getD j El.d).f = y → 0 < f.getD j 0 → 0 ≤ lev' y ∧ lev' y ≤ lev' at_.toNat + 1) ∧ ∀ z : Nat, 0 ≤ lev1 z → lev' z = lev1 z := by
    by_cases c1 : (n.as.getD j El.d).t = l13.getD 0 0
    · rw [if_pos c1, ck_some hjf]
      by_cases c2 : 0 < f.getD j 0
      · rw [if_pos c2]
        obtain ⟨lev', q', e, h1, h2, h3, h4⟩ := m1.add hw hm ⟨j, hj, .inr ⟨c1.trans hl, rfl, c2⟩⟩ _ hl rfl
        refine ⟨lev', q', e, h1, fun y _ e2 _ => ?_, h4⟩
        rw [e2, Int.toNat_natCast] at h2 h3
        exact ⟨h2, h3⟩
      · rw [if_neg c2]
        exact ⟨lev1, q1, rfl, m1, fun y _ _ z => absurd z c2, fun _ _ => rfl⟩
    · rw [if_neg c1]
      exact ⟨lev1, q1, rfl, m1, fun y z _ _ => absurd (z.trans hl.symm) c1, fun _ _ => rfl⟩
  obtain ⟨lev2, q2, e2, m2, s2, mono⟩ := second
  refine ⟨(lev2, q2), e2, m2.b, m2.pre, fun k hk y hr => ?_, m2.m⟩
  by_cases c : k = j
  · subst c
    rcases hr with ⟨r1, r2, r3⟩ | ⟨r1, r2, r3⟩
    · obtain ⟨p1, p2⟩ := s1 y r1 r2 r3
      have := m1.hd
      show 0 ≤ lev2 y ∧ lev2 y ≤ lev2 at_.toNat + 1
      rw [mono y p1, mono _ this.2.2]; exact ⟨p1, p2⟩
    · exact s2 y r1 r2 r3
  · exact m2.seen k (by omega) y hr
/-- what levels tells -/
structure Levels (n : Net) (f : List Int) (lev : Nat → Int) : Prop where
  s0 : lev n.s.toNat = 0
  lo : ∀ x : Nat, x < 12 → -1 ≤ lev x
  inn : ∀ x : Nat, x < 12 → 0 ≤ lev x → (x : Int) < n.n
  back : ∀ y : Nat, y < 12 → 0 < lev y → ∃ x : Nat, x < 12 ∧ lev x + 1 = lev y ∧ Res n f x y
  root : ∀ y : Nat, y < 12 → lev y = 0 → y = n.s.toNat
  done : ∀ x : Nat, x < 12 → 0 ≤ lev x → ∀ y : Nat, Res n f x y → 0 ≤ lev y ∧ lev y ≤ lev x + 1
  bd : ∀ x : Nat, x < 12 → lev x < n.n
theorem cnt_below {S : Nat → Bool} {n : Nat} (h : ∀ x, S x = true → x < n) : ∀ m, cnt S m ≤ n
  | 0 => Nat.zero_le _
  | m + 1 => by
    have := cnt_below h m
    rw [cnt]
    cases e : S m with
    | false => simpa using this
    | true =>
      have hm := h m e
      have := cnt_le S m
      simp; omega
theorem levels_ok {n : Net} {f : List Int} (hw : WIn n f) (lv0 : Nat → Int) : ∃ lev, level_levels_F ⟨n, f, lv0⟩ = some (decide (0 ≤ lev n.t.toNat), ⟨n, f, lev⟩) ∧ Levels n f lev := by
  have hn := hw.net
  have n12 := hn.g.n1; have s0 := hn.s0; have s1 := hn.s1; have t0 := hn.t0; have t1 := hn.t1
  dsimp only at n12
  unfold level_levels_F
  dsimp only
  obtain ⟨l0, e0, h0⟩ := forN_inv (f := level_levels_B1) (fun j l => ∀ x, x < j → l x = -1) (n := 12) (k := 0) (s := lv0) (fun x hx => absurd hx (by omega)) fun j l _ hj hI => by
    refine ⟨_, rfl, fun x hx => ?_⟩
    unfold updF
    by_cases c : x = j
    · rw [if_pos c]
    · rw [if_neg c]; exact hI x (by omega)
  rw [Nat.zero_add] at h0
  rw [e0, bind_some', ck_some ⟨s0, by omega⟩]
  have hF : ∀ x : Nat, x < 12 → updF l0 n.s.toNat 0 x = if x = n.s.toNat then 0 else -1 := fun x hx => by
    unfold updF
    by_cases c : x = n.s.toNat
    · rw [if_pos c, if_pos c]
    · rw [if_neg c, if_neg c]; exact h0 x hx
  have hFs : updF l0 n.s.toNat 0 n.s.toNat = 0 := by unfold updF; rw [if_pos rfl]
  have hb : BL n f (updF l0 n.s.toNat 0) [n.s] := by
    have only : ∀ x : Nat, x < 12 → 0 ≤ updF l0 n.s.toNat 0 x → x = n.s.toNat := fun x hx h => Classical.byContradiction fun c => by rw [hF x hx, if_neg c] at h; omega
    refine ⟨hFs, fun x hx => ?_, fun x hx h => ?_, fun y hy => ?_, List.pairwise_singleton _ _, fun x hx y hy => ?_, fun y hy h => ?_, fun y hy h => only y hy (by omega), fun x hx h hxq => ?_, fun x hx => ?_⟩
    · rw [hF x hx]; split <;> omega
    · have := only x hx h; omega
    · rw [List.mem_singleton.1 hy, hFs]; exact ⟨s0, s1, Int.le_refl _⟩
    · rw [List.mem_singleton.1 hx, hFs, hF y hy]; split <;> omega
    · rw [hF y hy] at h; split at h <;> omega
    · have := only x hx h
      exact absurd (List.mem_singleton.2 (by omega)) hxq
    · have : 1 ≤ cnt (reach (updF l0 n.s.toNat 0)) 12 := cnt_pos (y := n.s.toNat) (by omega) (by simp only [reach]; rw [hFs]; decide)
      rw [hF x hx]; split <;> omega
  obtain ⟨q, e, lev, hq, hL⟩ := loopC_or (f := level_levels_B2 ⟨n, f, lv0⟩) (fun (σ : (Nat → Int) × List Int) => BL n f σ.1 σ.2 ∧ 12 - cnt (reach σ.1) 12 + σ.2.length ≤ 50) (fun q => ∃ lev, q = .go (lev, []) ∧ BL n f lev []) (fun σ => 12 - cnt (reach σ.1) 12 + σ.2.length) (fun σ ⟨hB, hm⟩ => by
    obtain ⟨lev, l⟩ := σ
    dsimp only at hB hm ⊢
    unfold level_levels_B2
    cases l with
    | nil =>
      right; left
      exact ⟨_, by dsimp only; rw [if_neg (by simp)], lev, rfl, hB⟩
    | cons at_ r =>
      dsimp only
      rw [if_pos (by simp only [List.length_cons]; omega), ck_some (by simp)]
      left
      have hlen : (at_ :: r).length = r.length + 1 := rfl
      obtain ⟨σ', e1, m1⟩ := forN_inv (f := level_levels_B3 ⟨n, f, lv0⟩ (at_ :: r)) (fun j σ => ML n f at_ r j (12 - cnt (reach lev) 12 + (at_ :: r).length) σ.1 σ.2) (n := n.as.length) (k := 0) (s := (lev, at_ :: r))
        ⟨hB, ⟨[], by simp⟩, fun k hk => absurd hk (by omega), Nat.le_refl _⟩ fun j σ _ hj hM => by
          obtain ⟨lv, q⟩ := σ
          exact lev_arc hw hM (by omega) (by omega) rfl
      obtain ⟨lev2, l2⟩ := σ'
      rw [e1, bind_some']
      dsimp only at m1 ⊢
      rw [Nat.zero_add] at m1
      obtain ⟨ext, hx⟩ := m1.pre
      subst hx
      have mm := m1.m
      rw [List.length_cons] at mm
      rw [ck_some (by simp), subl_tail]
      obtain ⟨a0, a1, a2⟩ := m1.hd
      refine ⟨_, rfl, ⟨⟨m1.b.s0, m1.b.lo, m1.b.inn, fun y hy => m1.b.wait y (List.mem_cons_of_mem _ hy), (List.pairwise_cons.1 m1.b.sorted).2, fun x hx => m1.b.top x (List.mem_cons_of_mem _ hx), m1.b.back, m1.b.root, fun x hx hp hxq y hr => ?_, m1.b.bd⟩, ?_⟩, ?_⟩
      · dsimp only at hxq hp ⊢
        by_cases c : (x : Int) = at_
        · obtain ⟨k, hk, hr⟩ := hr
          have := m1.seen k hk y (by rw [← c]; exact hr)
          rw [show at_.toNat = x by omega] at this
          exact this
        · exact m1.b.done x hx hp (fun z => (List.mem_cons.1 z).elim c hxq) y hr
      · dsimp only; omega
      · dsimp only; omega) (n := 1000000) (s := (updF l0 n.s.toNat 0, [n.s])) ⟨hb, by dsimp only; have : ([n.s] : List Int).length = 1 := rfl; omega⟩ (by dsimp only; have : ([n.s] : List Int).length = 1 := rfl; omega)
  subst hq
  rw [show ([n.s] : List Int) = [n.s] from rfl] at e
  rw [e, bind_some']
  dsimp only
  rw [ck_some ⟨t0, by omega⟩]
  refine ⟨lev, rfl, hL.s0, hL.lo, hL.inn, hL.back, hL.root, fun x hx hp y hr => hL.done x hx hp (by simp) y hr, fun x hx => ?_⟩
  have := hL.bd x hx
  have : cnt (reach lev) 12 ≤ n.n.toNat := by
    have e3 : cnt (fun x => reach lev x && decide (x < 12)) 12 = cnt (reach lev) 12 := Nat.le_antisymm (cnt_mono fun x hx h => by simp at h; exact h.1) (cnt_mono fun x hx h => by simp [h, hx])
    rw [← e3]
    refine cnt_below (fun x h => ?_) 12
    simp only [Bool.and_eq_true, reach, decide_eq_true_eq] at h
    have := hL.inn x h.2 h.1
    omega
  omega
end Go.Proofs.Ytdpkdicciclobaa
