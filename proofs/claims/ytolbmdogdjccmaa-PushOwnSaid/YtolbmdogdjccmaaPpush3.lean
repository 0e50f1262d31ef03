/- Package push: when Send and Lift go, and what they then do; Busy. -/
import Derived.Test.YtolbmdogdjccmaaPpush2
namespace Go.Proofs.Ytolbmdogdjccmaa
open Go Go.Proofs.Ytolbmdogdjccmaa.Sx
set_option linter.unusedVariables false
set_option linter.unusedSimpArgs false
def srcP (n : Net) (k : Nat) (back : Bool) : Int := if back = true then (n.as.getD k El.d).t else (n.as.getD k El.d).f
def dstP (n : Net) (k : Nat) (back : Bool) : Int := if back = true then (n.as.getD k El.d).f else (n.as.getD k El.d).t
def roomP (n : Net) (f : List Int) (k : Nat) (back : Bool) : Int := if back = true then f.getD k 0 else (n.as.getD k El.d).c - f.getD k 0
def sgP (back : Bool) : Int := if back = true then -1 else 1
def BusyP (n : Net) (f : List Int) (x : Int) : Prop := x ≠ n.s ∧ x ≠ n.t ∧ 0 < exs n f x
def CanSend (n : Net) (q : Push) (k : Nat) (back : Bool) : Prop := roomP n q.flow k back ≠ 0 ∧ BusyP n q.flow (srcP n k back) ∧ hgt q.height (srcP n k back) = hgt q.height (dstP n k back) + 1
def sentP (n : Net) (q : Push) (k : Nat) (back : Bool) : Push := ⟨n, q.flow.set k (q.flow.getD k 0 + sgP back * min (roomP n q.flow k back) (exs n q.flow (srcP n k back))), q.height⟩
theorem ends_range {n : Net} (hn : OkNet n) {k : Nat} (hk : k < n.as.length) (back : Bool) : (0 ≤ srcP n k back ∧ srcP n k back < n.n) ∧ 0 ≤ dstP n k back ∧ dstP n k back < n.n := by
  have hG := hn.arc hk
  have := hG.f0; have := hG.f1; have := hG.t0; have := hG.t1
  cases back
  · exact ⟨⟨hG.f0, hG.f1⟩, hG.t0, hG.t1⟩
  · exact ⟨⟨hG.t0, hG.t1⟩, hG.f0, hG.f1⟩
theorem room_range {n : Net} {q : Push} (h : PV n q) {k : Nat} (hk : k < n.as.length) (back : Bool) : 0 ≤ roomP n q.flow k back ∧ roomP n q.flow k back ≤ 10000 := by
  have hG := h.ok.arc hk
  have := hG.c0; have := hG.c1
  have := h.r k hk
  unfold roomP
  split <;> omega
theorem send_iff {n : Net} {q : Push} (h : PV n q) {k : Nat} (hk : k < n.as.length) (back : Bool) :
    (CanSend n q k back ∧ push_Send_F q (k : Int) back = some (sentP n q k back, 0)) ∨ (¬ CanSend n q k back ∧ ∃ e, e ≠ 0 ∧ push_Send_F q (k : Int) back = some (⟨⟨0, 0, 0, []⟩, [], []⟩, e)) := by
  have hchk := h.check
  have hcop := copied_ok h
  have hbusy := fun x h0 h1 => busy_ok h (x := x) h0 h1
  have hrm := room_range h hk back
  obtain ⟨m, f, hh⟩ := q
  obtain rfl : m = n := h.eq
  have hn := h.ok
  have n0 := hn.g.n0; have n1 := hn.g.n1
  dsimp only at n0 n1 hrm
  have hlen := h.len; have hhl := h.hl; have hr := h.r; have hh0 := h.h0
  dsimp only at hlen hhl hr hh0
  obtain ⟨w, ew, w1, w2⟩ := wait_ok (h := hh) hn hlen hr
  have hE := ends_range hn hk back
  have hrk := hr k hk
  have hc1 := (hn.arc hk).c1
  have hc0 := (hn.arc hk).c0
  have hm : ((if back = true then some ((m.as.getD k El.d).t, (m.as.getD k El.d).f, f.getD k 0) else some ((m.as.getD k El.d).f, (m.as.getD k El.d).t, (m.as.getD k El.d).c - f.getD k 0)) : Option (Int × Int × Int)) = some (srcP m k back, dstP m k back, roomP m f k back) := by
    cases back <;> rfl
  unfold push_Send_F CanSend sentP
  dsimp only
  rw [Int.toNat_natCast, hchk, bind_some', if_neg (by decide), if_neg (by omega), if_neg (by omega), ck_some (by omega), ck_some (by omega), ck_some (inI_small (by omega) (by omega)), hm, bind_some']
  dsimp only
  generalize srcP m k back = x at *
  generalize dstP m k back = y at *
  generalize roomP m f k back = room at *
  by_cases q1 : room = 0
  · rw [if_pos q1]; exact .inr ⟨fun z => z.1 q1, 9, by decide, rfl⟩
  have hb : push_busy_F ⟨⟨m.n, m.s, m.t, m.as⟩, f, hh⟩ x = _ := hbusy x hE.1.1 hE.1.2
  rw [if_neg q1, hb, bind_some']
  by_cases q2 : x ≠ m.s ∧ x ≠ m.t ∧ 0 < exs m f x
  · have hx := hh0 x.toNat (by omega)
    have hy := hh0 y.toNat (by omega)
    rw [decide_eq_true q2, if_neg (by decide), ck_some (by omega), ck_some (by omega), ck_some (inI_small (by omega) (by omega))]
    by_cases q3 : hh.getD x.toNat 0 = hh.getD y.toNat 0 + 1
    · have ew' : push_wait_F ⟨⟨m.n, m.s, m.t, m.as⟩, f, hh⟩ = some w := ew
      have hcop' : push_copied_F ⟨⟨m.n, m.s, m.t, m.as⟩, f, hh⟩ = some ⟨m, f, hh⟩ := hcop
      have hwx := w2 x.toNat (by omega)
      rw [show ((x.toNat : Nat) : Int) = x by omega] at hwx
      have hexl := exs_lim hn hr x
      rw [if_neg (fun z => z q3), ew', bind_some', ck_some (by omega), hcop', bind_some', hwx]
      generalize hd' : min room (exs m f x) = d
      have hb2 : (((if back = true then ck (InI (-d)) <| some (-d) else some d) : Option Int)) = some (sgP back * d) := by
        unfold sgP
        cases back with
        | true => rw [if_pos rfl, if_pos rfl, ck_some (inI_small (by omega) (by omega))]; congr 1; omega
        | false => rw [if_neg (by decide), if_neg (by decide)]; congr 1; omega
      have hs : -d ≤ sgP back * d ∧ sgP back * d ≤ d := by unfold sgP; split <;> omega
      rw [hb2, bind_some']
      dsimp only
      rw [ck_some (by omega), ck_some (inI_small (by omega) (by omega))]
      exact .inl ⟨⟨q1, q2, q3⟩, rfl⟩
    · rw [if_pos q3]; exact .inr ⟨fun z => q3 z.2.2, 9, by decide, rfl⟩
  · rw [decide_eq_false q2, if_pos (show (!false) = true from rfl)]; exact .inr ⟨fun z => q2 z.2.1, 9, by decide, rfl⟩
/-- what is sent stays right -/
theorem sent_pv {n : Net} {q : Push} (h : PV n q) {k : Nat} (hk : k < n.as.length) {back : Bool} (hc : CanSend n q k back) : PV n (sentP n q k back) := by
  rcases send_iff h hk back with ⟨_, e⟩ | ⟨z, _⟩
  · rcases send_ok h (k : Int) back with ⟨q', e', p, _⟩ | ⟨e', he, z⟩
    · rw [e] at e'
      have := congrArg Prod.fst (Option.some.inj e')
      dsimp only at this
      rw [this]; exact p
    · rw [e] at z
      have := congrArg Prod.snd (Option.some.inj z)
      exact absurd this.symm he
  · exact absurd hc z
theorem SD.first {n : Net} {f : List Int} {a : Int} : ∀ {r : Nat} {y : Int}, SD n f a r y → y = a ∨ ∃ z, Res1 n f a z
  | 0, y, h => .inl h
  | r + 1, y, h => by
    rcases h with h | ⟨x, hx, hr⟩
    · exact SD.first h
    · rcases SD.first hx with rfl | hz
      · exact .inr ⟨y, hr⟩
      · exact .inr hz
/-- a busy node that can't be lifted can send -/
theorem lift_iff {n : Net} {q : Push} (h : PV n q) (hlow : ∀ y : Nat, y < n.n.toNat → q.height.getD y 0 < 2 * n.n) {x : Int} (h0 : 0 ≤ x) (h1 : x < n.n) (hb : BusyP n q.flow x) :
    (∃ low, push_Lift_F q x = some (⟨q.net, q.flow, q.height.set x.toNat low⟩, 0) ∧ PV n ⟨q.net, q.flow, q.height.set x.toNat low⟩ ∧ q.height.getD x.toNat 0 < low ∧ low < 2 * n.n) ∨ ∃ e, e ≠ 0 ∧ push_Lift_F q x = some (⟨⟨0, 0, 0, []⟩, [], []⟩, e) ∧ ∃ k back, k < n.as.length ∧ srcP n k back = x ∧ CanSend n q k back := by
  rcases lift_ok h x with ⟨low, e, p, l1, _, l2⟩ | ⟨e, he, hz⟩
  · exact .inl ⟨low, e, p, l1, l2⟩
  · refine .inr ⟨e, he, hz, ?_⟩
    have hchk := h.check
    have hcop := copied_ok h
    have hbusy := busy_ok h h0 h1
    obtain ⟨low, el, l1, l2, l3, l4⟩ := lift_loop h x
    have hback := way_back h h0 h1 hb.1 hb.2.2
    have hn := h.ok
    have n0 := hn.g.n0; have n1 := hn.g.n1
    dsimp only at n0 n1
    have hh0 := h.h0 x.toNat (by omega)
    have hhl := h.hl
    have hfw := h.fw
    have hbw := h.bw
    have hxl := hlow x.toNat (by omega)
    -- a way leads on
    have hlow2 : low ≤ 2 * n.n := by
      rcases SD.first hback with e | ⟨z, hz⟩
      · exact absurd e.symm hb.1
      · have hr := (hz.range hn).2
        have hz2 := hlow z.toNat (by omega)
        obtain ⟨k, hk, ⟨e1, e2, e3⟩ | ⟨e1, e2, e3⟩⟩ := hz
        · have := l2 k hk e1 e3
          rw [e2] at this
          unfold hgt at this
          omega
        · have := l3 k hk e1 e3
          rw [e2] at this
          unfold hgt at this
          omega
    -- the least is not above the node
    have hle : low ≤ hgt q.height x := Classical.byContradiction fun hlt => by
      obtain ⟨m, f, hh⟩ := q
      obtain rfl : m = n := h.eq
      dsimp only at hz hchk hcop hbusy el hh0 hhl hlt hb
      unfold push_Lift_F at hz
      dsimp only at hz
      have hb' : push_busy_F ⟨⟨m.n, m.s, m.t, m.as⟩, f, hh⟩ x = _ := hbusy
      have hcop' : push_copied_F ⟨⟨m.n, m.s, m.t, m.as⟩, f, hh⟩ = some ⟨m, f, hh⟩ := hcop
      have hb2 : (x ≠ m.s ∧ x ≠ m.t ∧ 0 < exs m f x) := hb
      unfold hgt at hlt
      rw [hchk, bind_some', if_neg (by decide), if_neg (by omega), if_neg (by omega), hb', bind_some', decide_eq_true hb2, if_neg (by decide), ck_some (inI_small (by omega) (by omega)), ck_some (inI_small (by omega) (by omega)), el, bind_some', ck_some (by omega), if_neg (by omega), if_neg (by omega), hcop', bind_some'] at hz
      dsimp only at hz
      rw [ck_some (by omega)] at hz
      have := congrArg Prod.snd (Option.some.inj hz)
      exact he this.symm
    have hxe : hgt q.height x = q.height.getD x.toNat 0 := rfl
    rcases l4 with e1 | ⟨k, hk, e1, e2, e3⟩ | ⟨k, hk, e1, e2, e3⟩
    · omega
    · have := hfw k hk e2
      rw [e1] at this
      refine ⟨k, false, hk, e1, ?_, ?_, ?_⟩
      · show (n.as.getD k El.d).c - q.flow.getD k 0 ≠ 0
        omega
      · show BusyP n q.flow (n.as.getD k El.d).f
        rw [e1]; exact hb
      · show hgt q.height (n.as.getD k El.d).f = hgt q.height (n.as.getD k El.d).t + 1
        rw [e1]; omega
    · have := hbw k hk e2
      rw [e1] at this
      refine ⟨k, true, hk, e1, ?_, ?_, ?_⟩
      · show q.flow.getD k 0 ≠ 0
        omega
      · show BusyP n q.flow (n.as.getD k El.d).t
        rw [e1]; exact hb
      · show hgt q.height (n.as.getD k El.d).t = hgt q.height (n.as.getD k El.d).f + 1
        rw [e1]; omega
/-! ### Busy -/
theorem busyL_ok {n : Net} {q : Push} (h : PV n q) : ∃ l, push_Busy_F q = some (l, 0) ∧ l.length ≤ n.n.toNat ∧ ((l = [] ∧ ∀ x : Int, 0 ≤ x → x < n.n → ¬ BusyP n q.flow x) ∨ (0 < l.length ∧ (0 ≤ l.getD 0 0 ∧ l.getD 0 0 < n.n) ∧ BusyP n q.flow (l.getD 0 0))) := by
  have hchk := h.check
  have hbusy := fun x h0 h1 => busy_ok h (x := x) h0 h1
  obtain ⟨m, f, hh⟩ := q
  obtain rfl : m = n := h.eq
  have hn := h.ok
  have n0 := hn.g.n0; have n1 := hn.g.n1
  dsimp only at n0 n1
  obtain ⟨l, e, h1, h2⟩ := forN_inv (f := push_Busy_B1 ⟨m, f, hh⟩) (fun j (l : List Int) => l.length ≤ j ∧ ((l = [] ∧ ∀ x : Int, 0 ≤ x → x < j → ¬ BusyP m f x) ∨ (0 < l.length ∧ (0 ≤ l.getD 0 0 ∧ l.getD 0 0 < m.n) ∧ BusyP m f (l.getD 0 0)))) (n := m.n.toNat) (k := 0) (s := []) ⟨Nat.le_refl _, .inl ⟨rfl, fun x a b => absurd b (by omega)⟩⟩ fun j l _ hj ⟨i1, i2⟩ => by
    have hb : push_busy_F ⟨⟨m.n, m.s, m.t, m.as⟩, f, hh⟩ (j : Int) = _ := hbusy (j : Int) (by omega) (by omega)
    unfold push_Busy_B1
    dsimp only
    rw [hb, bind_some']
    by_cases q2 : (j : Int) ≠ m.s ∧ (j : Int) ≠ m.t ∧ 0 < exs m f (j : Int)
    · rw [decide_eq_true q2, if_pos rfl, ck_some (by omega)]
      refine ⟨_, rfl, by simp; omega, ?_⟩
      rcases i2 with ⟨rfl, _⟩ | ⟨a, b, c⟩
      · exact .inr ⟨by simp, by simp; omega, by simpa [BusyP] using q2⟩
      · refine .inr ⟨by simp, ?_⟩
        have : (l ++ [(j : Int)]).getD 0 0 = l.getD 0 0 := by
          cases l with
          | nil => exact absurd a (by simp)
          | cons y l => rfl
        rw [this]; exact ⟨b, c⟩
    · rw [decide_eq_false q2, if_neg (by decide)]
      refine ⟨_, rfl, by omega, ?_⟩
      rcases i2 with ⟨rfl, b⟩ | i2
      · refine .inl ⟨rfl, fun x a c => ?_⟩
        by_cases ex : x = j
        · rw [ex]; exact q2
        · exact b x a (by omega)
      · exact .inr i2
  refine ⟨l, ?_, by omega, ?_⟩
  · unfold push_Busy_F
    dsimp only
    rw [hchk, bind_some', if_neg (by decide), ck_some (inI_small (by omega) (by omega)), e, bind_some']
  · rcases h2 with ⟨a, b⟩ | h2
    · exact .inl ⟨a, fun x x0 x1 => b x x0 (by omega)⟩
    · exact .inr h2
/-! ### at rest -/
theorem rest_flow {n : Net} {q : Push} (h : PV n q) (hno : ∀ x : Int, 0 ≤ x → x < n.n → ¬ BusyP n q.flow x) : Flow n q.flow := by
  have n1 := h.ok.g.n1
  dsimp only at n1
  refine ⟨h.ok, h.len, fun k hk => h.r k (by rw [← h.len]; exact hk), fun x hx hs ht => ?_⟩
  by_cases hxn : x < n.n.toNat
  · have e1 := h.exc x hxn hs
    have e2 : ¬ 0 < exs n q.flow x := fun z => hno x (by omega) (by omega) ⟨hs, ht, z⟩
    unfold exs at e1 e2
    omega
  · refine tot_zero fun k hk => ?_
    have hG := h.ok.arc hk
    have := hG.f0; have := hG.f1; have := hG.t0; have := hG.t1
    unfold term
    rw [if_neg (by omega), if_neg (by omega)]
    rfl
end Go.Proofs.Ytolbmdogdjccmaa
