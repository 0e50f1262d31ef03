/- Package level: send pushes along the levels; what it leaves. -/
import Derived.Test.YtdpkdicciclobaaPlev
namespace Go.Proofs.Ytdpkdicciclobaa
open Go Go.Proofs.Ytdpkdicciclobaa.Sx
set_option linter.unusedVariables false
set_option linter.unusedSimpArgs false
/-- one level on, by what is left -/
def Ad (n : Net) (L : Nat → Int) (f : List Int) (u v : Nat) : Prop := Res n f u v ∧ 0 ≤ L u ∧ L v = L u + 1
/-- no way leads on to the sink -/
def Dead (n : Net) (L : Nat → Int) (f : List Int) (x : Nat) : Prop := ∃ D : Nat → Prop, D x ∧ ¬ D n.t.toNat ∧ ∀ u v : Nat, D u → Ad n L f u v → D v
/-- what is left is less, but back along the levels -/
def Shr (n : Net) (L : Nat → Int) (f f' : List Int) : Prop := ∀ k, k < n.as.length → ∀ u v : Int, ResTo n f' u k v → ResTo n f u k v ∨ (0 ≤ L v.toNat ∧ L u.toNat = L v.toNat + 1)
section
variable {n : Net} {L : Nat → Int} {f f' f'' : List Int}
theorem Shr.refl (n : Net) (L : Nat → Int) (f : List Int) : Shr n L f f := fun _ _ _ _ h => .inl h
theorem Shr.trans (h : Shr n L f f') (h' : Shr n L f' f'') : Shr n L f f'' := fun k hk u v hr => (h' k hk u v hr).elim (h k hk u v) .inr
theorem Ad.shr (h : Shr n L f f') {u v : Nat} (ha : Ad n L f' u v) : Ad n L f u v := by
  obtain ⟨⟨k, hk, hr⟩, h0, h1⟩ := ha
  rcases h k hk u v hr with c | ⟨c1, c2⟩
  · exact ⟨⟨k, hk, c⟩, h0, h1⟩
  · rw [Int.toNat_natCast, Int.toNat_natCast] at c2; omega
theorem Dead.shr (h : Shr n L f f') {x : Nat} (hd : Dead n L f x) : Dead n L f' x := by
  obtain ⟨D, h1, h2, h3⟩ := hd
  exact ⟨D, h1, h2, fun u v hu ha => h3 u v hu (ha.shr h)⟩
theorem Dead.t (h : Dead n L f n.t.toNat) : False := by
  obtain ⟨D, h1, h2, _⟩ := h; exact h2 h1
/-- all that follow are dead: so it is dead -/
theorem Dead.of {x : Nat} (hx : x ≠ n.t.toNat) (h : ∀ v : Nat, Ad n L f x v → Dead n L f v) : Dead n L f x := by
  refine ⟨fun v => v = x ∨ Dead n L f v, .inl rfl, fun c => c.elim (fun c => hx c.symm) Dead.t, fun u v hu ha => ?_⟩
  rcases hu with rfl | hu
  · exact .inr (h v ha)
  · obtain ⟨D, h1, h2, h3⟩ := hu
    exact .inr ⟨D, h3 u v h1 ha, h2, h3⟩
/-- the state within a round -/
structure SI (n : Net) (L : Nat → Int) (f : List Int) (lv : Nat → Int) : Prop where
  w : WIn n f
  lv : ∀ x : Nat, x < 12 → lv x = L x ∨ (lv x = -1 ∧ Dead n L f x)
/-- so much went from a node to the sink -/
structure Sent (n : Net) (L : Nat → Int) (f f' : List Int) (at_ x : Int) : Prop where
  net : ∀ z : Int, netAt n.as f' z = netAt n.as f z + (if z = at_ then x else 0) - (if z = n.t then x else 0)
  shr : Shr n L f f'
  loc : ∀ k, k < n.as.length → (L (n.as.getD k El.d).f.toNat < L at_.toNat ∨ L (n.as.getD k El.d).t.toNat < L at_.toNat) → f'.getD k 0 = f.getD k 0
/-- a push along an arc, one level on -/
theorem push_fw (hw : WIn n f) {k : Nat} (hk : k < n.as.length) {x : Int} (hx : 0 ≤ x) (hc : f.getD k 0 + x ≤ (n.as.getD k El.d).c) (h0 : 0 ≤ L (n.as.getD k El.d).f.toNat) (h1 : L (n.as.getD k El.d).t.toNat = L (n.as.getD k El.d).f.toNat + 1) :
    WIn n (f.set k (f.getD k 0 + x)) ∧ Shr n L f (f.set k (f.getD k 0 + x)) ∧ ∀ z : Int, netAt n.as (f.set k (f.getD k 0 + x)) z = netAt n.as f z + (if z = (n.as.getD k El.d).f then x else 0) - (if z = (n.as.getD k El.d).t then x else 0) := by
  have hkf : k < f.length := by rw [hw.len]; exact hk
  have hr := hw.r k hkf
  refine ⟨⟨hw.net, by simpa using hw.len, fun i hi => ?_⟩, fun i hi u v hr => ?_, fun z => ?_⟩
  · rw [getD_set']
    by_cases c : i = k
    · rw [if_pos ⟨c, hkf⟩, c]; omega
    · rw [if_neg (fun z => c z.1)]; exact hw.r i (by simpa using hi)
  · unfold ResTo at hr ⊢
    rw [getD_set'] at hr
    by_cases c : i = k
    · subst c
      rw [if_pos ⟨rfl, hkf⟩] at hr
      rcases hr with ⟨a, b, d⟩ | ⟨a, b, d⟩
      · exact .inl (.inl ⟨a, b, by omega⟩)
      · rw [← a, ← b]; exact .inr ⟨h0, h1⟩
    · rw [if_neg (fun z => c z.1)] at hr; exact .inl hr
  · rw [netAt_set hk hw.len]
    have e1 : ((n.as.getD k El.d).f = z) ↔ z = (n.as.getD k El.d).f := eq_comm
    have e2 : ((n.as.getD k El.d).t = z) ↔ z = (n.as.getD k El.d).t := eq_comm
    simp only [e1, e2, show f.getD k 0 + x - f.getD k 0 = x by omega]
    split <;> split <;> simp <;> omega
theorem push_bw (hw : WIn n f) {k : Nat} (hk : k < n.as.length) {x : Int} (hx : 0 ≤ x) (hc : x ≤ f.getD k 0) (h0 : 0 ≤ L (n.as.getD k El.d).t.toNat) (h1 : L (n.as.getD k El.d).f.toNat = L (n.as.getD k El.d).t.toNat + 1) :
    WIn n (f.set k (f.getD k 0 - x)) ∧ Shr n L f (f.set k (f.getD k 0 - x)) ∧ ∀ z : Int, netAt n.as (f.set k (f.getD k 0 - x)) z = netAt n.as f z + (if z = (n.as.getD k El.d).t then x else 0) - (if z = (n.as.getD k El.d).f then x else 0) := by
  have hkf : k < f.length := by rw [hw.len]; exact hk
  have hr := hw.r k hkf
  refine ⟨⟨hw.net, by simpa using hw.len, fun i hi => ?_⟩, fun i hi u v hr => ?_, fun z => ?_⟩
  · rw [getD_set']
    by_cases c : i = k
    · rw [if_pos ⟨c, hkf⟩, c]; omega
    · rw [if_neg (fun z => c z.1)]; exact hw.r i (by simpa using hi)
  · unfold ResTo at hr ⊢
    rw [getD_set'] at hr
    by_cases c : i = k
    · subst c
      rw [if_pos ⟨rfl, hkf⟩] at hr
      rcases hr with ⟨a, b, d⟩ | ⟨a, b, d⟩
      · rw [← a, ← b]; exact .inr ⟨h0, h1⟩
      · exact .inl (.inr ⟨a, b, by omega⟩)
    · rw [if_neg (fun z => c z.1)] at hr; exact .inl hr
  · rw [netAt_set hk hw.len]
    have e1 : ((n.as.getD k El.d).f = z) ↔ z = (n.as.getD k El.d).f := eq_comm
    have e2 : ((n.as.getD k El.d).t = z) ↔ z = (n.as.getD k El.d).t := eq_comm
    simp only [e1, e2, show f.getD k 0 - x - f.getD k 0 = -x by omega]
    split <;> split <;> simp <;> omega
/-- what send answers -/
structure SendR (n : Net) (L : Nat → Int) (f : List Int) (lv : Nat → Int) (at_ most x : Int) (f' : List Int) (lv' : Nat → Int) : Prop where
  x0 : 0 ≤ x
  x1 : x ≤ most
  si : SI n L f' lv'
  sent : Sent n L f f' at_ x
  low : ∀ z : Nat, z < 12 → L z ≤ L at_.toNat → z ≠ at_.toNat → lv' z = lv z
  live : 0 < x → lv' at_.toNat = L at_.toNat
  dead : x = 0 → 0 < most → Dead n L f' at_.toNat
  zero : x = 0 → f' = f
theorem set_self (l : List Int) (k : Nat) : l.set k (l.getD k 0) = l := by
  refine eq_of_getD (d := 0) (by simp) fun i hi => ?_
  rw [getD_set']
  split
  · rename_i h; rw [h.1]
  · rfl
/-- the state of the loop over the arcs -/
structure SLoop (n : Net) (L : Nat → Int) (f0 : List Int) (lv0 : Nat → Int) (at_ most : Int) (j : Nat) (f : List Int) (lv : Nat → Int) (x : Int) : Prop where
  x0 : 0 ≤ x
  x1 : x ≤ most
  si : SI n L f lv
  sent : Sent n L f0 f at_ x
  low : ∀ z : Nat, z < 12 → L z ≤ L at_.toNat → lv z = lv0 z
  dead : x = 0 → ∀ k, k < j → ∀ y : Nat, ResTo n f at_ k y → L y = L at_.toNat + 1 → Dead n L f y
  zero : x = 0 → f = f0
/-- one half of an arc: the call, if the level is right -/
theorem SLoop.call {lv0 : Nat → Int} {f0 : List Int} {at_ most x : Int} {j : Nat} {lv : Nat → Int} (h : SLoop n L f0 lv0 at_ most j f lv x) {y room : Int} (hy : 0 ≤ y ∧ y < n.n) (hyl : L y.toNat = L at_.toNat + 1) (ha : 0 ≤ at_ ∧ at_ < n.n) (hL0 : 0 ≤ L at_.toNat) (hn12 : n.n ≤ 12)
    {c : Int} {lv' : Nat → Int} (hr : SendR n L f lv y (min (most - x) room) c f' lv') {g : List Int} (hg : WIn n g ∧ Shr n L f' g ∧ ∀ z : Int, netAt n.as g z = netAt n.as f' z + (if z = at_ then c else 0) - (if z = y then c else 0))
    (hgl : ∀ k, k < n.as.length → (L (n.as.getD k El.d).f.toNat < L at_.toNat ∨ L (n.as.getD k El.d).t.toNat < L at_.toNat) → g.getD k 0 = f'.getD k 0) (hgz : c = 0 → g = f') : SLoop n L f0 lv0 at_ most j g lv' (x + c) := by
  obtain ⟨g1, g2, g3⟩ := hg
  have r0 := hr.x0; have r1 := hr.x1; have h0 := h.x0; have h1 := h.x1
  refine ⟨by omega, by omega, ⟨g1, fun z hz => (hr.si.lv z hz).imp id fun w => ⟨w.1, w.2.shr g2⟩⟩, ⟨fun z => ?_, (h.sent.shr.trans hr.sent.shr).trans g2, fun k hk hl => ?_⟩, fun z hz hl => ?_, fun hx k hk v hres hv => ?_, fun hx => by rw [hgz (by omega), hr.zero (by omega), h.zero (by omega)]⟩
  · rw [g3 z, hr.sent.net z, h.sent.net z]
    by_cases c1 : z = at_
    · subst c1
      have : ¬ z = y := fun w => by rw [w] at hyl; omega
      simp only [if_neg this, if_pos]
      split <;> omega
    · rw [if_neg c1, if_neg c1]
      split <;> split <;> omega
  · rw [hgl k hk hl, hr.sent.loc k hk (by omega), h.sent.loc k hk hl]
  · rw [hr.low z hz (by omega) (fun w => by rw [w] at hl; omega), h.low z hz hl]
  · have hx0 : x = 0 := by omega
    have hkl : k < n.as.length ∨ ¬ k < n.as.length := Classical.em _
    rcases hkl with hkl | hkl
    · have s1 : ResTo n f at_ k v := by
        rcases (hr.sent.shr.trans g2) k hkl at_ v hres with w | ⟨w1, w2⟩
        · exact w
        · rw [Int.toNat_natCast] at w2; omega
      exact (h.dead hx0 k hk v s1 hv).shr (hr.sent.shr.trans g2)
    · exfalso
      unfold ResTo at hres
      have e : n.as.getD k El.d = (⟨0, 0, 0⟩ : Arc) := by rw [getD_big (by omega)]; rfl
      have e2 : f.getD k 0 = 0 := getD_big (by rw [h.si.w.len]; omega)
      have e3 : g.getD k 0 = 0 := getD_big (by rw [g1.len]; omega)
      rw [e, e3] at hres
      dsimp only at hres
      omega
theorem send_arc (hLb : ∀ x : Nat, x < 12 → -1 ≤ L x ∧ L x < 12) {rec : Run → Int → Int → Option (Int × Run)} {F : Nat} (hrec : ∀ (f : List Int) (lv : Nat → Int) (at_ most : Int), SI n L f lv → 0 ≤ at_ ∧ at_ < n.n → lv at_.toNat = L at_.toNat → 0 ≤ L at_.toNat → 13 ≤ F + L at_.toNat → 0 ≤ most ∧ most ≤ 600000 → ∃ x f' lv', rec ⟨n, f, lv⟩ at_ most = some (x, ⟨n, f', lv'⟩) ∧ SendR n L f lv at_ most x f' lv')
    {f0 : List Int} {lv0 : Nat → Int} {at_ most : Int} (ha : 0 ≤ at_ ∧ at_ < n.n) (hlv0 : lv0 at_.toNat = L at_.toNat) (hL0 : 0 ≤ L at_.toNat) (hF : 13 ≤ F + 1 + L at_.toNat) (hm : 0 < most ∧ most ≤ 600000) (hT : at_ ≠ n.t)
    {j : Nat} (hj : j < n.as.length) {lv : Nat → Int} {x : Int} (h : SLoop n L f0 lv0 at_ most j f lv x) :
    ∃ σ, level_send_B1 rec ⟨n, f0, lv0⟩ at_ most j (f, lv, x) = some σ ∧ SLoop n L f0 lv0 at_ most (j + 1) σ.1 σ.2.1 σ.2.2 := by
  have hw := h.si.w
  have hn := hw.net
  have n12 := hn.g.n1
  dsimp only at n12
  have hG := hn.arc hj
  have f0' := hG.f0; have f1p := hG.f1; have t0 := hG.t0; have t1 := hG.t1; have c0 := hG.c0; have c1 := hG.c1
  have hjf : j < f.length := by rw [hw.len]; exact hj
  have hlva : lv at_.toNat = L at_.toNat := by rw [h.low at_.toNat (by omega) (Int.le_refl _), hlv0]
  have hLa := hLb at_.toNat (by omega)
  unfold level_send_B1
  dsimp only
  -- a level that is not right: what is there is dead
  have off : ∀ {f : List Int} {lv : Nat → Int}, SI n L f lv → ∀ y : Nat, y < 12 → ¬ lv y = L at_.toNat + 1 → L y = L at_.toNat + 1 → Dead n L f y := fun hs y hy hne he => by
    rcases hs.lv y hy with w | w
    · exact absurd (w.trans he) hne
    · exact w.2
  have first : ∃ fa lv1 x1, (if (n.as.getD j El.d).f = at_ then
      ck (0 ≤ (n.as.getD j El.d).t ∧ (n.as.getD j El.d).t < 12) (ck (0 ≤ at_ ∧ at_ < 12) (ck (InI (lv at_.toNat + 1)) (if lv (n.as.getD j El.d).t.toNat = lv at_.toNat + 1 then
        ck (InI (most - x)) (ck (j < f.length) (ck (InI ((n.as.getD j El.d).c - f.getD j (0 : Int))) ((rec (⟨(⟨n.n, n.s, n.t, n.as⟩ : Net), f, lv⟩ : Run) (n.as.getD j El.d).t (min (most - x) ((n.as.getD j El.d).c - f.getD j (0 : Int)))).bind fun (r31, x32) =>
          ck (j < x32.f.length) (ck (InI (x32.f.getD j (0 : Int) + r31)) (ck (InI (x + r31)) (some (x32.f.set j (x32.f.getD j (0 : Int) + r31), x32.level, x + r31)))))))
        else some (f, lv, x)))) else some (f, lv, x)) = some (fa, lv1, x1) ∧ SLoop n L f0 lv0 at_ most j fa lv1 x1 ∧
      (x1 = 0 → ∀ y : Nat, (n.as.getD j El.d).f = at_ → (n.as.getD j El.d).t = y → fa.getD j 0 < (n.as.getD j El.d).c → L y = L at_.toNat + 1 → Dead n L fa y) := by
    by_cases q1 : (n.as.getD j El.d).f = at_
    · rw [if_pos q1, ck_some (⟨by omega, by omega⟩ : 0 ≤ (n.as.getD j El.d).t ∧ (n.as.getD j El.d).t < 12), ck_some (⟨by omega, by omega⟩ : 0 ≤ at_ ∧ at_ < 12), ck_some (show InI (lv at_.toNat + 1) by unfold InI; omega)]
      by_cases q2 : lv (n.as.getD j El.d).t.toNat = lv at_.toNat + 1
      · have hr := hw.r j hjf
        have hx0 := h.x0; have hx1 := h.x1
        have hyl : L (n.as.getD j El.d).t.toNat = L at_.toNat + 1 := by
          rcases h.si.lv (n.as.getD j El.d).t.toNat (by omega) with w | w
          · omega
          · omega
        rw [if_pos q2, ck_some (show InI (most - x) by unfold InI; omega), ck_some hjf, ck_some (show InI ((n.as.getD j El.d).c - f.getD j 0) by unfold InI; omega)]
        obtain ⟨c, f', lv', er, hR⟩ := hrec f lv (n.as.getD j El.d).t (min (most - x) ((n.as.getD j El.d).c - f.getD j 0)) h.si ⟨t0, t1⟩ (by omega) (by omega) (by omega) ⟨by omega, by omega⟩
        have k0 := hR.x0; have k1 := hR.x1
        have esame : f'.getD j 0 = f.getD j 0 := hR.sent.loc j hj (.inl (by rw [q1]; omega))
        have hjf' : j < f'.length := by rw [hR.si.w.len]; exact hj
        rw [show (⟨n.n, n.s, n.t, n.as⟩ : Net) = n from rfl, er, bind_some']
        dsimp only
        rw [ck_some hjf', ck_some (show InI (f'.getD j 0 + c) by unfold InI; omega), ck_some (show InI (x + c) by unfold InI; omega)]
        have hp := push_fw hR.si.w (L := L) hj (x := c) k0 (by omega) (by rw [q1]; exact hL0) (by rw [q1]; exact hyl)
        have hS := h.call ⟨t0, t1⟩ hyl ha hL0 n12 hR (g := f'.set j (f'.getD j 0 + c)) ⟨hp.1, hp.2.1, fun z => by rw [hp.2.2 z, q1]⟩ (fun k hk hl => by
          rw [getD_set']
          by_cases w : k = j
          · subst w; rw [q1] at hl; omega
          · rw [if_neg (fun z => w z.1)]) (fun w => by rw [w, Int.add_zero, set_self])
        refine ⟨_, _, _, rfl, hS, fun hx y _ ey hlt hv => ?_⟩
        rw [getD_set', if_pos ⟨rfl, hjf'⟩] at hlt
        have hc0 : c = 0 := by omega
        have := hR.dead hc0 (by omega)
        rw [ey, Int.toNat_natCast] at this
        exact this.shr hp.2.1
      · rw [if_neg q2]
        exact ⟨f, lv, x, rfl, h, fun hx y _ ey _ hv => off h.si y (by omega) (by rw [ey, Int.toNat_natCast] at q2; omega) hv⟩
    · rw [if_neg q1]
      exact ⟨f, lv, x, rfl, h, fun _ y w => absurd w q1⟩
  obtain ⟨fa, lv1, x1, e1, h1, d1⟩ := first
  rw [e1, bind_some']
  dsimp only
  have hw1 := h1.si.w
  have hjf1 : j < fa.length := by rw [hw1.len]; exact hj
  have hlva1 : lv1 at_.toNat = L at_.toNat := by rw [h1.low at_.toNat (by omega) (Int.le_refl _), hlv0]
  have second : ∃ f2 lv2 x2, (if (n.as.getD j El.d).t = at_ then
      ck (0 ≤ (n.as.getD j El.d).f ∧ (n.as.getD j El.d).f < 12) (ck (0 ≤ at_ ∧ at_ < 12) (ck (InI (lv1 at_.toNat + 1)) (if lv1 (n.as.getD j El.d).f.toNat = lv1 at_.toNat + 1 then
        ck (InI (most - x1)) (ck (j < fa.length) ((rec (⟨(⟨n.n, n.s, n.t, n.as⟩ : Net), fa, lv1⟩ : Run) (n.as.getD j El.d).f (min (most - x1) (fa.getD j (0 : Int)))).bind fun (r45, x46) =>
          ck (j < x46.f.length) (ck (InI (x46.f.getD j (0 : Int) - r45)) (ck (InI (x1 + r45)) (some (x46.f.set j (x46.f.getD j (0 : Int) - r45), x46.level, x1 + r45))))))
        else some (fa, lv1, x1)))) else some (fa, lv1, x1)) = some (f2, lv2, x2) ∧ SLoop n L f0 lv0 at_ most j f2 lv2 x2 ∧
      (x2 = 0 → ∀ y : Nat, (n.as.getD j El.d).t = at_ → (n.as.getD j El.d).f = y → 0 < f2.getD j 0 → L y = L at_.toNat + 1 → Dead n L f2 y) ∧ (x2 = 0 → x1 = 0 ∧ Shr n L fa f2) := by
    by_cases q1 : (n.as.getD j El.d).t = at_
    · rw [if_pos q1, ck_some (⟨by omega, by omega⟩ : 0 ≤ (n.as.getD j El.d).f ∧ (n.as.getD j El.d).f < 12), ck_some (⟨by omega, by omega⟩ : 0 ≤ at_ ∧ at_ < 12), ck_some (show InI (lv1 at_.toNat + 1) by unfold InI; omega)]
      by_cases q2 : lv1 (n.as.getD j El.d).f.toNat = lv1 at_.toNat + 1
      · have hr := hw1.r j hjf1
        have hx0 := h1.x0; have hx1 := h1.x1
        have hyl : L (n.as.getD j El.d).f.toNat = L at_.toNat + 1 := by
          rcases h1.si.lv (n.as.getD j El.d).f.toNat (by omega) with w | w
          · omega
          · omega
        rw [if_pos q2, ck_some (show InI (most - x1) by unfold InI; omega), ck_some hjf1]
        obtain ⟨c, f', lv', er, hR⟩ := hrec fa lv1 (n.as.getD j El.d).f (min (most - x1) (fa.getD j 0)) h1.si ⟨f0', f1p⟩ (by omega) (by omega) (by omega) ⟨by omega, by omega⟩
        have k0 := hR.x0; have k1 := hR.x1
        have esame : f'.getD j 0 = fa.getD j 0 := hR.sent.loc j hj (.inr (by rw [q1]; omega))
        have hjf' : j < f'.length := by rw [hR.si.w.len]; exact hj
        rw [show (⟨n.n, n.s, n.t, n.as⟩ : Net) = n from rfl, er, bind_some']
        dsimp only
        rw [ck_some hjf', ck_some (show InI (f'.getD j 0 - c) by unfold InI; omega), ck_some (show InI (x1 + c) by unfold InI; omega)]
        have hp := push_bw hR.si.w (L := L) hj (x := c) k0 (by omega) (by rw [q1]; exact hL0) (by rw [q1]; exact hyl)
        have hS := h1.call ⟨f0', f1p⟩ hyl ha hL0 n12 hR (g := f'.set j (f'.getD j 0 - c)) ⟨hp.1, hp.2.1, fun z => by rw [hp.2.2 z, q1]⟩ (fun k hk hl => by
          rw [getD_set']
          by_cases w : k = j
          · subst w; rw [q1] at hl; omega
          · rw [if_neg (fun z => w z.1)]) (fun w => by rw [w, Int.sub_zero, set_self])
        refine ⟨_, _, _, rfl, hS, fun hx y _ ey hlt hv => ?_, fun hx => ⟨by omega, hR.sent.shr.trans hp.2.1⟩⟩
        rw [getD_set', if_pos ⟨rfl, hjf'⟩] at hlt
        have hc0 : c = 0 := by omega
        have := hR.dead hc0 (by omega)
        rw [ey, Int.toNat_natCast] at this
        exact this.shr hp.2.1
      · rw [if_neg q2]
        exact ⟨fa, lv1, x1, rfl, h1, fun hx y _ ey _ hv => off h1.si y (by omega) (by rw [ey, Int.toNat_natCast] at q2; omega) hv, fun hx => ⟨hx, Shr.refl _ _ _⟩⟩
    · rw [if_neg q1]
      exact ⟨fa, lv1, x1, rfl, h1, fun _ y w => absurd w q1, fun hx => ⟨hx, Shr.refl _ _ _⟩⟩
  obtain ⟨f2, lv2, x2, e2, h2, d2, m2⟩ := second
  refine ⟨(f2, lv2, x2), e2, h2.x0, h2.x1, h2.si, h2.sent, h2.low, fun hx k hk y hres hv => ?_, h2.zero⟩
  dsimp only at hx hres ⊢
  by_cases c : k = j
  · subst c
    obtain ⟨m3, m4⟩ := m2 hx
    rcases hres with ⟨r1, r2, r3⟩ | ⟨r1, r2, r3⟩
    · have : ResTo n fa at_ k y := by
        rcases m4 k hj at_ y (.inl ⟨r1, r2, r3⟩) with w | ⟨w1, w2⟩
        · exact w
        · rw [Int.toNat_natCast] at w2; omega
      rcases this with ⟨p1, p2, p3⟩ | ⟨p1, p2, p3⟩
      · exact (d1 m3 y p1 p2 p3 hv).shr m4
      · exfalso
        have : (y : Int) = at_ := by rw [← r2, p1]
        rw [show y = at_.toNat by omega] at hv; omega
    · exact d2 hx y r1 r2 r3 hv
  · exact h2.dead hx k (by omega) y hres hv
theorem send_ok (hLb : ∀ x : Nat, x < 12 → -1 ≤ L x ∧ L x < 12) : ∀ (F : Nat) (f : List Int) (lv : Nat → Int) (at_ most : Int), SI n L f lv → 0 ≤ at_ ∧ at_ < n.n → lv at_.toNat = L at_.toNat → 0 ≤ L at_.toNat → 13 ≤ F + L at_.toNat → 0 ≤ most ∧ most ≤ 600000 → ∃ x f' lv', level_send_F F ⟨n, f, lv⟩ at_ most = some (x, ⟨n, f', lv'⟩) ∧ SendR n L f lv at_ most x f' lv' := by
  intro F
  induction F with
  | zero =>
    intro f lv at_ most hS ha h1 h2 h3
    have n12 := hS.w.net.g.n1
    dsimp only at n12
    have := hLb at_.toNat (by omega)
    omega
  | succ F ih =>
    intro f lv at_ most hS ha h1 h2 h3 hm
    have n12 := hS.w.net.g.n1
    dsimp only at n12
    show ∃ x f' lv', level_send_S (level_send_F F) ⟨n, f, lv⟩ at_ most = some (x, ⟨n, f', lv'⟩) ∧ SendR n L f lv at_ most x f' lv'
    unfold level_send_S
    dsimp only
    have same : Sent n L f f at_ 0 := ⟨fun z => by simp, Shr.refl _ _ _, fun _ _ _ => rfl⟩
    by_cases c1 : at_ = n.t
    · rw [if_pos c1]
      exact ⟨most, f, lv, rfl, hm.1, Int.le_refl _, hS, ⟨fun z => by rw [c1]; split <;> omega, Shr.refl _ _ _, fun _ _ _ => rfl⟩, fun _ _ _ _ => rfl, fun _ => h1, fun a b => by omega, fun _ => rfl⟩
    · rw [if_neg c1]
      by_cases c2 : most = 0
      · rw [if_pos c2]
        subst c2
        exact ⟨0, f, lv, rfl, Int.le_refl _, Int.le_refl _, hS, same, fun _ _ _ _ => rfl, fun w => by omega, fun _ w => by omega, fun _ => rfl⟩
      · rw [if_neg c2]
        obtain ⟨⟨f2, lv2, x2⟩, e, hL⟩ := forN_inv (f := level_send_B1 (level_send_F F) ⟨n, f, lv⟩ at_ most) (fun j σ => SLoop n L f lv at_ most j σ.1 σ.2.1 σ.2.2) (n := n.as.length) (k := 0) (s := (f, lv, 0))
          ⟨Int.le_refl _, hm.1, hS, same, fun _ _ _ => rfl, fun _ k hk => absurd hk (by omega), fun _ => rfl⟩ fun j σ _ hj hI => by
            obtain ⟨f1, lv1, x1⟩ := σ
            exact send_arc hLb ih ha h1 h2 (by omega) ⟨by omega, hm.2⟩ c1 (by omega) hI
        rw [e, bind_some']
        dsimp only at hL ⊢
        rw [Nat.zero_add] at hL
        have hx0 := hL.x0
        by_cases c3 : x2 = 0
        · subst c3
          rw [if_pos rfl, ck_some ⟨ha.1, by omega⟩]
          have hd : Dead n L f2 at_.toNat := Dead.of (fun w => c1 (by have := hS.w.net.t0; omega)) fun v hv => by
            obtain ⟨⟨k, hk, hr⟩, _, hv2⟩ := hv
            rw [show ((at_.toNat : Nat) : Int) = at_ by omega] at hr
            exact hL.dead rfl k hk v hr hv2
          refine ⟨0, f2, updF lv2 at_.toNat (-1), rfl, Int.le_refl _, hm.1, ⟨hL.si.w, fun z hz => ?_⟩, hL.sent, fun z hz hl hne => ?_, fun w => by omega, fun _ _ => hd, fun _ => hL.zero rfl⟩
          · unfold updF
            by_cases q : z = at_.toNat
            · rw [if_pos q]; right; exact ⟨rfl, by rw [q]; exact hd⟩
            · rw [if_neg q]; exact hL.si.lv z hz
          · unfold updF; rw [if_neg hne]; exact hL.low z hz hl
        · rw [if_neg c3]
          exact ⟨x2, f2, lv2, rfl, hx0, hL.x1, hL.si, hL.sent, fun z hz hl _ => hL.low z hz hl, fun _ => by rw [hL.low _ (by omega) (Int.le_refl _), h1], fun w => absurd w c3, fun w => absurd w c3⟩
end
end Go.Proofs.Ytdpkdicciclobaa
