/- Package level: Of answers as much as can be; how many rounds (Dinic). -/
import Derived.Test.YtdpkdicciclobaaPsend
namespace Go.Proofs.Ytdpkdicciclobaa
open Go Go.Proofs.Ytdpkdicciclobaa.Sx
set_option linter.unusedVariables false
set_option linter.unusedSimpArgs false
/-- a way of k steps by what is left -/
inductive RW (n : Net) (f : List Int) : Nat → Nat → Prop
  | nil : RW n f 0 n.s.toNat
  | snoc {k x y : Nat} (h : RW n f k x) (hr : Res n f x y) : RW n f (k + 1) y
def FarP (n : Net) (f : List Int) (d : Int) : Prop := ∀ k : Nat, RW n f k n.t.toNat → d ≤ k
theorem RW.lt {n : Net} (hn : OkNet n) {f : List Int} : ∀ {k x : Nat}, RW n f k x → x < 12
  | _, _, .nil => by have := hn.s0; have := hn.s1; have := hn.g.n1; dsimp only at this; omega
  | _, _, .snoc _ ⟨k, hk, hr⟩ => by have := (hr.range hn hk).2; have := hn.g.n1; dsimp only at this; omega
theorem RW.lev {n : Net} (hn : OkNet n) {f : List Int} {lev : Nat → Int} (hL : Levels n f lev) {k x : Nat} (h : RW n f k x) : 0 ≤ lev x ∧ lev x ≤ k := by
  induction h with
  | nil => rw [hL.s0]; simp
  | snoc h hr ih =>
    have := hL.done _ (h.lt hn) ih.1 _ hr
    omega
theorem Levels.way {n : Net} {f : List Int} {lev : Nat → Int} (hL : Levels n f lev) : ∀ (m : Nat) {x : Nat}, x < 12 → lev x = m → RW n f m x
  | 0, x, hx, h => by rw [hL.root x hx (by omega)]; exact .nil
  | m + 1, x, hx, h => by
    obtain ⟨y, hy, e, hr⟩ := hL.back x hx (by omega)
    exact .snoc (hL.way m hy (by omega)) hr
theorem FarP.lev {n : Net} (hn : OkNet n) {f : List Int} {lev : Nat → Int} (hL : Levels n f lev) {d : Int} (h : FarP n f d) (ht : 0 ≤ lev n.t.toNat) : d ≤ lev n.t.toNat := by
  have t0 := hn.t0; have t1 := hn.t1; have n12 := hn.g.n1
  dsimp only at n12
  have := h (lev n.t.toNat).toNat (hL.way _ (by omega) (by omega))
  omega
/-- no way on the levels is left: so the sink is farther -/
theorem far_on {n : Net} (hn : OkNet n) {f f' : List Int} {L : Nat → Int} (hL : Levels n f L) (hS : Shr n L f f') (hD : Dead n L f' n.s.toNat) : FarP n f' (L n.t.toNat + 1) := by
  obtain ⟨D, d1, d2, d3⟩ := hD
  have key : ∀ {k x : Nat}, RW n f' k x → 0 ≤ L x ∧ L x ≤ k ∧ (L x = k → D x) := fun {k x} h => by
    induction h with
    | nil => rw [hL.s0]; exact ⟨Int.le_refl _, by simp, fun _ => d1⟩
    | @snoc k x y h hr ih =>
      obtain ⟨i1, i2, i3⟩ := ih
      obtain ⟨k0, hk0, hres⟩ := hr
      rcases hS k0 hk0 x y hres with c | ⟨c1, c2⟩
      · have := hL.done x (h.lt hn) i1 y ⟨k0, hk0, c⟩
        refine ⟨this.1, by omega, fun e => d3 x y (i3 (by omega)) ⟨⟨k0, hk0, hres⟩, i1, by omega⟩⟩
      · rw [Int.toNat_natCast, Int.toNat_natCast] at c2
        rw [Int.toNat_natCast] at c1
        exact ⟨c1, by omega, fun e => by omega⟩
  intro k hk
  obtain ⟨k1, k2, k3⟩ := key hk
  have : L n.t.toNat ≠ k := fun e => d2 (k3 e)
  omega
theorem dead_not {n : Net} (hn : OkNet n) {f : List Int} {L : Nat → Int} (hL : Levels n f L) (ht : 0 ≤ L n.t.toNat) : ¬ Dead n L f n.s.toNat := fun ⟨D, d1, d2, d3⟩ => by
  have t0 := hn.t0; have t1 := hn.t1; have n12 := hn.g.n1
  dsimp only at n12
  have key : ∀ (m : Nat) {x : Nat}, x < 12 → L x = m → D x := by
    intro m
    induction m with
    | zero => intro x hx h; rw [hL.root x hx (by omega)]; exact d1
    | succ m ih =>
      intro x hx h
      obtain ⟨y, hy, e, hr⟩ := hL.back x hx (by omega)
      exact d3 y x (ih hy (by omega)) ⟨hr, by omega, by omega⟩
  exact d2 (key (L n.t.toNat).toNat (by omega) (by omega))
theorem Levels.range {n : Net} (hn : OkNet n) {f : List Int} {L : Nat → Int} (hL : Levels n f L) (x : Nat) (hx : x < 12) : -1 ≤ L x ∧ L x < 12 := by
  have := hL.lo x hx; have := hL.bd x hx; have := hn.g.n1; dsimp only at this; omega
/-- a flow has no more than six hundred thousand -/
theorem Flow.most {n : Net} {f : List Int} (h : Flow n f) : netAt n.as f n.s ≤ 600000 := by
  have hS : Cut n (fun x => if x = n.s then 1 else 0) := ⟨if_pos rfl, if_neg (fun e => h.net.ne e.symm), fun x => by split <;> omega⟩
  have a := h.le_cut hS
  have hl := h.net.g.len
  dsimp only at hl
  have b := (tot_abs (f := cross n.as (fun x => if x = n.s then 1 else 0)) (M := 10000) (n := n.as.length) fun k hk => by
    have := (h.net.arc hk).c0; have := (h.net.arc hk).c1
    unfold cross
    split <;> omega).2
  unfold capS at a
  omega
theorem round_ok {n : Net} {f : List Int} {L : Nat → Int} (hf : Flow n f) (hL : Levels n f L) (ht : 0 ≤ L n.t.toNat) (h0 : 0 ≤ netAt n.as f n.s) : ∃ f' lv', loopC (level_Of_B2 n) 1000000 (f, L, netAt n.as f n.s) = some (.go (f', lv', netAt n.as f' n.s)) ∧ Flow n f' ∧ Shr n L f f' ∧ Dead n L f' n.s.toNat ∧ netAt n.as f n.s < netAt n.as f' n.s := by
  have hn := hf.net
  have s0 := hn.s0; have s1 := hn.s1; have n12 := hn.g.n1; have hne := hn.ne
  dsimp only at n12
  obtain ⟨q, e, f', lv', hq, h1, h2, h3, h4⟩ := loopC_or (f := level_Of_B2 n) (fun (σ : List Int × (Nat → Int) × Int) => Flow n σ.1 ∧ σ.2.2 = netAt n.as σ.1 n.s ∧ 0 ≤ σ.2.2 ∧ SI n L σ.1 σ.2.1 ∧ Shr n L f σ.1 ∧ σ.2.1 n.s.toNat = L n.s.toNat ∧ (σ.1 = f ∨ netAt n.as f n.s < σ.2.2))
      (fun q => ∃ f' lv', q = .go (f', lv', netAt n.as f' n.s) ∧ Flow n f' ∧ Shr n L f f' ∧ Dead n L f' n.s.toNat ∧ netAt n.as f n.s < netAt n.as f' n.s) (fun σ => (600000 - σ.2.2).toNat) (fun σ ⟨i1, i2, i3, i4, i5, i6, i7⟩ => by
    obtain ⟨g, lv, v⟩ := σ
    dsimp only at i1 i2 i3 i4 i5 i6 i7 ⊢
    subst i2
    unfold level_Of_B2
    dsimp only
    obtain ⟨x, g', lv', er, hR⟩ := send_ok (hL.range hn) 100 g lv n.s 600000 i4 ⟨s0, s1⟩ i6 (by rw [hL.s0]; exact Int.le_refl _) (by rw [hL.s0]; omega) ⟨by omega, by omega⟩
    rw [er, bind_some']
    dsimp only
    have hx0 := hR.x0
    have net := hR.sent.net
    have hf' : Flow n g' := ⟨hn, hR.si.w.len, hR.si.w.r, fun z hz z1 z2 => by
      rw [net z, if_neg z1, if_neg z2, i1.keep z hz z1 z2]; rfl⟩
    have hv : netAt n.as g' n.s = netAt n.as g n.s + x := by rw [net n.s, if_pos rfl, if_neg hne]; omega
    by_cases c : x = 0
    · rw [if_pos c]
      have eg := hR.zero c
      subst eg
      have hd := hR.dead c (by omega)
      refine .inr (.inl ⟨_, rfl, g', lv', rfl, i1, i5, hd, ?_⟩)
      rcases i7 with w | w
      · subst w; exact absurd hd (dead_not hn hL ht)
      · exact w
    · have hm := hf'.most
      rw [if_neg c, ck_some (by unfold InI; omega)]
      refine .inl ⟨_, rfl, ⟨hf', by dsimp only; omega, by dsimp only; omega, hR.si, i5.trans hR.sent.shr, hR.live (by omega), .inr ?_⟩, by dsimp only; omega⟩
      dsimp only
      rcases i7 with w | w
      · subst w; omega
      · omega) (n := 1000000) (s := (f, L, netAt n.as f n.s)) ⟨hf, rfl, h0, ⟨hf.win, fun x _ => .inl rfl⟩, Shr.refl _ _ _, rfl, .inl rfl⟩ (by dsimp only; omega)
  subst hq
  exact ⟨f', lv', e, h1, h2, h3, h4⟩
/-! ### where each arc takes one -/
theorem tot_one_le (i0 : Nat) : ∀ d : Nat, tot (fun i => if i = i0 then 1 else 0) d ≤ 1 ∧ (d ≤ i0 → tot (fun i => if i = i0 then (1 : Int) else 0) d ≤ 0)
  | 0 => ⟨by simp [tot], fun _ => by simp [tot]⟩
  | d + 1 => by
    obtain ⟨a, b⟩ := tot_one_le i0 d
    rw [tot]
    by_cases c : d = i0
    · rw [if_pos c]
      have := b (by omega)
      exact ⟨by omega, fun _ => by omega⟩
    · rw [if_neg c]
      exact ⟨by omega, fun h => by have := b (by omega); omega⟩
theorem unit_far {n : Net} {f : List Int} (hf : Flow n f) (hu : ∀ k, k < n.as.length → (n.as.getD k El.d).c = 1) {lev : Nat → Int} (hL : Levels n f lev) {d : Nat} (hd : lev n.t.toNat < 0 ∨ (d : Int) ≤ lev n.t.toNat) {M : Int} (hM : MaxV n M) :
    (d : Int) * (M - netAt n.as f n.s) ≤ n.as.length := by
  have hn := hf.net
  have s0 := hn.s0; have s1 := hn.s1; have t0 := hn.t0; have t1 := hn.t1; have n12 := hn.g.n1
  dsimp only at n12
  let S : Nat → Int → Int := fun i x => if 0 ≤ lev x.toNat ∧ lev x.toNat ≤ i then 1 else 0
  have hS : ∀ i, i < d → Cut n (S i) := fun i hi => ⟨by show (if 0 ≤ lev n.s.toNat ∧ lev n.s.toNat ≤ (i : Int) then (1 : Int) else 0) = 1; rw [hL.s0, if_pos ⟨Int.le_refl _, by omega⟩], by show (if 0 ≤ lev n.t.toNat ∧ lev n.t.toNat ≤ (i : Int) then (1 : Int) else 0) = 0; rw [if_neg (by omega)], fun x => by show (if 0 ≤ lev x.toNat ∧ lev x.toNat ≤ (i : Int) then (1 : Int) else 0) = 0 ∨ (if 0 ≤ lev x.toNat ∧ lev x.toNat ≤ (i : Int) then (1 : Int) else 0) = 1; split <;> omega⟩
  let g : Nat → Nat → Int := fun i k => cross n.as (S i) k - f.getD k 0 * (S i (n.as.getD k El.d).f - S i (n.as.getD k El.d).t)
  have each : ∀ i, i < d → M - netAt n.as f n.s ≤ tot (g i) n.as.length := fun i hi => by
    have a := hM.ge (hS i hi)
    have b := hf.value_cut (hS i hi)
    have : tot (g i) n.as.length = capS n.as (S i) - netAt n.as f n.s := by rw [b]; exact tot_sub _ _ _
    omega
  have sum := tot_le (f := fun _ => M - netAt n.as f n.s) (g := fun i => tot (g i) n.as.length) (n := d) each
  rw [tot_const] at sum
  have sw : tot (fun i => tot (g i) n.as.length) d = tot (fun k => tot (fun i => g i k) d) n.as.length := tot_swap g n.as.length d
  rw [sw] at sum
  have one : ∀ k, k < n.as.length → tot (fun i => g i k) d ≤ 1 := fun k hk => by
    have hr := hf.r k (by rw [hf.len]; exact hk)
    have c1 := hu k hk
    have G := hn.small hk
    have ex : ∃ i0 : Nat, ∀ i, i < d → g i k ≤ if i = i0 then 1 else 0 := by
      rcases (by omega : f.getD k 0 = 0 ∨ f.getD k 0 = 1) with e | e
      · refine ⟨(lev (n.as.getD k El.d).f.toNat).toNat, fun i hi => ?_⟩
        show cross n.as (S i) k - f.getD k 0 * (S i (n.as.getD k El.d).f - S i (n.as.getD k El.d).t) ≤ _
        rw [e, Int.zero_mul]
        unfold cross
        by_cases w : S i (n.as.getD k El.d).f = 1 ∧ S i (n.as.getD k El.d).t = 0
        · rw [if_pos w, c1]
          have w1 : 0 ≤ lev (n.as.getD k El.d).f.toNat ∧ lev (n.as.getD k El.d).f.toNat ≤ (i : Int) := Classical.byContradiction fun z => by have := w.1; simp only [S, if_neg z] at this; omega
          have w2 : ¬ (0 ≤ lev (n.as.getD k El.d).t.toNat ∧ lev (n.as.getD k El.d).t.toNat ≤ (i : Int)) := fun z => by have := w.2; simp only [S, if_pos z] at this; omega
          have := hL.done (n.as.getD k El.d).f.toNat (by omega) w1.1 (n.as.getD k El.d).t.toNat ⟨k, hk, .inl ⟨by omega, by omega, by omega⟩⟩
          rw [if_pos (by omega)]; omega
        · rw [if_neg w]; split <;> omega
      · refine ⟨(lev (n.as.getD k El.d).t.toNat).toNat, fun i hi => ?_⟩
        show cross n.as (S i) k - f.getD k 0 * (S i (n.as.getD k El.d).f - S i (n.as.getD k El.d).t) ≤ _
        rw [e, Int.one_mul]
        unfold cross
        rw [c1]
        by_cases w1 : 0 ≤ lev (n.as.getD k El.d).t.toNat ∧ lev (n.as.getD k El.d).t.toNat ≤ (i : Int)
        · have e1 : S i (n.as.getD k El.d).t = 1 := if_pos w1
          rw [e1]
          have dn := hL.done (n.as.getD k El.d).t.toNat (by omega) w1.1 (n.as.getD k El.d).f.toNat ⟨k, hk, .inr ⟨by omega, by omega, by omega⟩⟩
          by_cases w2 : 0 ≤ lev (n.as.getD k El.d).f.toNat ∧ lev (n.as.getD k El.d).f.toNat ≤ (i : Int)
          · have e2 : S i (n.as.getD k El.d).f = 1 := if_pos w2
            rw [e2]; simp; split <;> omega
          · have e2 : S i (n.as.getD k El.d).f = 0 := if_neg w2
            rw [e2, if_pos (show i = (lev (n.as.getD k El.d).t.toNat).toNat by omega)]; simp
        · have e1 : S i (n.as.getD k El.d).t = 0 := if_neg w1
          rw [e1]
          have : S i (n.as.getD k El.d).f = 0 ∨ S i (n.as.getD k El.d).f = 1 := (hS i hi).b _
          rcases this with e2 | e2 <;> rw [e2] <;> simp <;> split <;> omega
    obtain ⟨i0, h0⟩ := ex
    have := tot_le (f := fun i => g i k) (g := fun i => if i = i0 then 1 else 0) (n := d) h0
    have := (tot_one_le i0 d).1
    omega
  have fin := tot_le (f := fun k => tot (fun i => g i k) d) (g := fun _ => 1) (n := n.as.length) one
  rw [tot_const] at fin
  omega
/-! ### what Of answers -/
def Unit1 (n : Net) : Prop := ∀ k, k < n.as.length → (n.as.getD k El.d).c = 1
structure LevelD (n : Net) (f : List Int) (v : Int) (r : Nat) : Prop where
  flow : Flow n f
  val : netAt n.as f n.s = v
  cut : ∃ S, Cut n S ∧ Tight n f S
  few : (r : Int) < n.n
  unit : Unit1 n → ∀ root : Nat, n.as.length < (root + 1) * (root + 1) → r ≤ 2 * root
theorem zero_flow {n : Net} (hn : OkNet n) : Flow n (List.replicate n.as.length 0) ∧ netAt n.as (List.replicate n.as.length 0) n.s = 0 := by
  have z : ∀ x : Int, netAt n.as (List.replicate n.as.length 0) x = 0 := fun x => tot_zero fun k hk => by
    unfold term
    rw [getD_replicate', if_pos hk]; split <;> split <;> rfl
  refine ⟨⟨hn, by simp, fun k hk => ?_, fun x _ _ _ => z x⟩, z _⟩
  have hk' : k < n.as.length := by simpa using hk
  rw [getD_replicate', if_pos hk']
  have := (hn.arc hk').c0
  omega
theorem level_ok {n : Net} (hn : OkNet n) : ∃ f v r, level_Of_F n = some (f, v, ((r : Nat) : Int), 0) ∧ LevelD n f v r := by
  have hck : graph_CheckNet_F n = some 0 := by
    rcases checkNet_cases n with ⟨_, e⟩ | ⟨z, _⟩
    · exact e
    · exact absurd hn z
  have hl := hn.g.len; have n12 := hn.g.n1; have n1 := hn.g.n0
  have s0 := hn.s0; have s1 := hn.s1; have t0 := hn.t0; have t1 := hn.t1
  dsimp only at hl n12 n1
  unfold level_Of_F
  rw [hck, bind_some', if_neg (by decide), ck_some ⟨by omega, by omega⟩, Int.toNat_natCast]
  obtain ⟨z1, z2⟩ := zero_flow hn
  obtain ⟨q, e, f, lv, v, r, hq, hD⟩ := loopC_or (f := level_Of_B1 n) (fun (σ : List Int × (Nat → Int) × Int × Nat) => Flow n σ.1 ∧ σ.2.2.1 = netAt n.as σ.1 n.s ∧ 0 ≤ σ.2.2.1 ∧ FarP n σ.1 (((σ.2.2.2 : Nat) : Int) + 1) ∧ ((σ.2.2.2 : Nat) : Int) < n.n ∧
      (Unit1 n → ∀ root : Nat, n.as.length < (root + 1) * (root + 1) → ∀ M, MaxV n M → ((σ.2.2.2 : Nat) : Int) ≤ root ∨ M + ((σ.2.2.2 : Nat) : Int) ≤ σ.2.2.1 + 2 * root)) (fun q => ∃ f lv v r, q = .go (f, lv, v, r) ∧ LevelD n f v r) (fun σ => n.n.toNat - σ.2.2.2) (fun σ ⟨i1, i2, i3, i4, i5, i6⟩ => by
    obtain ⟨f, lv, v, r⟩ := σ
    dsimp only at i1 i2 i3 i4 i5 i6 ⊢
    subst i2
    unfold level_Of_B1
    dsimp only
    obtain ⟨L, eL, hL⟩ := levels_ok i1.win lv
    rw [eL, bind_some']
    dsimp only
    by_cases c : 0 ≤ L n.t.toNat
    · rw [if_pos (decide_eq_true c), ck_some (by unfold InI; omega)]
      have hlt := i4.lev hn hL c
      have hbd := hL.bd n.t.toNat (by omega)
      obtain ⟨f', lv', e2, k1, k2, k3, k4⟩ := round_ok i1 hL c i3
      rw [e2, bind_some']
      dsimp only
      have far := far_on hn hL k2 k3
      refine .inl ⟨_, rfl, ⟨k1, rfl, by dsimp only; omega, fun k hk => ?_, by dsimp only; omega, fun hu root hr M hM => ?_⟩, by dsimp only; omega⟩
      · have := far k hk
        dsimp only; omega
      · dsimp only
        rcases i6 hu root hr M hM with w | w
        · by_cases q : (r : Int) = root
          · right
            have := unit_far i1 hu hL (d := root + 1) (.inr (by omega)) hM
            have h2 : M - netAt n.as f n.s ≤ root := Classical.byContradiction fun z => by
              have h3 : ((root + 1 : Nat) : Int) * ((root + 1 : Nat) : Int) ≤ ((root + 1 : Nat) : Int) * (M - netAt n.as f n.s) := Int.mul_le_mul_of_nonneg_left (by omega) (by omega)
              have h4 : ((n.as.length : Nat) : Int) < ((root + 1 : Nat) : Int) * ((root + 1 : Nat) : Int) := by
                rw [← Int.natCast_mul]; exact Int.ofNat_lt.2 hr
              omega
            omega
          · left; omega
        · right; omega
    · rw [if_neg (by simpa using c)]
      have hcut : ∃ S, Cut n S ∧ Tight n f S := by
        refine ⟨fun x => if 0 ≤ L x.toNat then 1 else 0, ⟨by rw [hL.s0]; rfl, by rw [if_neg c], fun x => by split <;> omega⟩, fun k hk e1 e2 => ?_, fun k hk e1 e2 => ?_⟩
        · have G := hn.small hk
          have hr := i1.r k (by rw [i1.len]; exact hk)
          refine Classical.byContradiction fun hne => ?_
          have c1 : 0 ≤ L (n.as.getD k El.d).f.toNat := Classical.byContradiction fun z => by rw [if_neg z] at e1; omega
          have c2 : ¬ 0 ≤ L (n.as.getD k El.d).t.toNat := fun z => by rw [if_pos z] at e2; omega
          exact c2 (hL.done _ (by omega) c1 (n.as.getD k El.d).t.toNat ⟨k, hk, .inl ⟨by omega, by omega, by omega⟩⟩).1
        · have G := hn.small hk
          have hr := i1.r k (by rw [i1.len]; exact hk)
          refine Classical.byContradiction fun hne => ?_
          have c1 : 0 ≤ L (n.as.getD k El.d).t.toNat := Classical.byContradiction fun z => by rw [if_neg z] at e2; omega
          have c2 : ¬ 0 ≤ L (n.as.getD k El.d).f.toNat := fun z => by rw [if_pos z] at e1; omega
          exact c2 (hL.done _ (by omega) c1 (n.as.getD k El.d).f.toNat ⟨k, hk, .inr ⟨by omega, by omega, by omega⟩⟩).1
      refine .inr (.inl ⟨_, rfl, f, L, _, r, rfl, i1, rfl, hcut, i5, fun hu root hr => ?_⟩)
      obtain ⟨S, hS, hT⟩ := hcut
      have := i6 hu root hr _ ⟨⟨f, i1, rfl⟩, S, hS, (i1.eq_cut hS hT).symm⟩
      omega) (n := 1000000) (s := (List.replicate n.as.length 0, (fun _ => 0), 0, 0)) ⟨z1, z2.symm, Int.le_refl _, fun k hk => by
        dsimp only
        have : k ≠ 0 := fun w => by
          subst w
          generalize ht : n.t.toNat = t at hk
          cases hk
          exact hn.ne (by omega)
        omega, by dsimp only; omega, fun _ root _ _ _ => .inl (by dsimp only; omega)⟩ (by dsimp only; omega)
  subst hq
  rw [e, bind_some']
  exact ⟨f, v, r, rfl, hD⟩
theorem level_bad {n : Net} (h : ¬ OkNet n) : ∃ e, e ≠ 0 ∧ graph_CheckNet_F n = some e ∧ level_Of_F n = some ([], 0, 0, e) := by
  rcases checkNet_cases n with ⟨z, _⟩ | ⟨_, e, he, e1⟩
  · exact absurd z h
  · exact ⟨e, he, e1, by unfold level_Of_F; rw [e1, bind_some', if_pos he]⟩
end Go.Proofs.Ytdpkdicciclobaa
