/- Package match: what mates finds: pairs that have nobody in common, as many as it takes to have one of each pair. -/
import Derived.Test.YtlpelkfcmeapiaaPtable
import Derived.Test.YtlpelkfcmeapiaaPlB
import Derived.Test.YtlpelkfcmeapiaaPsortI
import Derived.Test.YtlpelkfcmeapiaaGmatch
namespace Go.Proofs.Ytlpelkfcmeapiaa
open Go Go.Proofs.Ytlpelkfcmeapiaa.Sx
set_option linter.unusedVariables false
set_option linter.unusedSimpArgs false
structure OkP (m n : Int) (l : List Arc) : Prop where
  m0 : 0 ≤ m
  m1 : m ≤ 12
  n0 : 0 ≤ n
  n1 : n ≤ 12
  len : l.length ≤ 60
  arc : ∀ a, a ∈ l → 0 ≤ a.f ∧ a.f < m ∧ 0 ≤ a.t ∧ a.t < n
theorem checkP (m n : Int) (l : List Arc) : (OkP m n l ∧ match_Check_F m n l = some 0) ∨ (¬ OkP m n l ∧ ∃ e, e ≠ 0 ∧ match_Check_F m n l = some e) := by
  unfold match_Check_F
  by_cases c1 : m < 0
  · exact .inr ⟨fun h => by have := h.m0; omega, 1, by decide, by rw [if_pos c1]⟩
  by_cases c2 : 12 < m
  · exact .inr ⟨fun h => by have := h.m1; omega, 1, by decide, by rw [if_neg c1, if_pos c2]⟩
  by_cases c3 : n < 0
  · exact .inr ⟨fun h => by have := h.n0; omega, 1, by decide, by rw [if_neg c1, if_neg c2, if_pos c3]⟩
  by_cases c4 : 12 < n
  · exact .inr ⟨fun h => by have := h.n1; omega, 1, by decide, by rw [if_neg c1, if_neg c2, if_neg c3, if_pos c4]⟩
  by_cases c5 : (60 : Int) < ((l.length : Nat) : Int)
  · exact .inr ⟨fun h => by have := h.len; omega, 2, by decide, by rw [if_neg c1, if_neg c2, if_neg c3, if_neg c4, if_pos c5]⟩
  rw [if_neg c1, if_neg c2, if_neg c3, if_neg c4, if_neg c5]
  obtain ⟨q, e, hq⟩ := forC_or (f := match_Check_B1 m n l) (fun j _ => ∀ i, i < j → 0 ≤ (l.getD i El.d).f ∧ (l.getD i El.d).f < m ∧ 0 ≤ (l.getD i El.d).t ∧ (l.getD i El.d).t < n) (fun q => (q = .ret 4 ∧ ∃ i, i < l.length ∧ ¬ (0 ≤ (l.getD i El.d).f ∧ (l.getD i El.d).f < m ∧ 0 ≤ (l.getD i El.d).t ∧ (l.getD i El.d).t < n)) ∨ q = .go () ∧ ∀ i, i < l.length → 0 ≤ (l.getD i El.d).f ∧ (l.getD i El.d).f < m ∧ 0 ≤ (l.getD i El.d).t ∧ (l.getD i El.d).t < n) (n := l.length) (k := 0) (s := ()) (fun i hi => absurd hi (by omega)) (fun j s _ hj hI => by
    unfold match_Check_B1
    by_cases d1 : (l.getD j El.d).f < 0
    · rw [if_pos d1]; exact .inr (.inr ⟨_, rfl, .inl ⟨rfl, j, by omega, by omega⟩⟩)
    by_cases d2 : m ≤ (l.getD j El.d).f
    · rw [if_neg d1, if_pos d2]; exact .inr (.inr ⟨_, rfl, .inl ⟨rfl, j, by omega, by omega⟩⟩)
    by_cases d3 : (l.getD j El.d).t < 0
    · rw [if_neg d1, if_neg d2, if_pos d3]; exact .inr (.inr ⟨_, rfl, .inl ⟨rfl, j, by omega, by omega⟩⟩)
    by_cases d4 : n ≤ (l.getD j El.d).t
    · rw [if_neg d1, if_neg d2, if_neg d3, if_pos d4]; exact .inr (.inr ⟨_, rfl, .inl ⟨rfl, j, by omega, by omega⟩⟩)
    rw [if_neg d1, if_neg d2, if_neg d3, if_neg d4]
    refine .inl ⟨(), rfl, fun i hi => ?_⟩
    by_cases z : i = j
    · subst z; omega
    · exact hI i (by omega)) (fun s hI => .inr ⟨rfl, by rw [Nat.zero_add] at hI; exact hI⟩)
  rw [e, bind_some']
  rcases hq with ⟨rfl, i, hi, hb⟩ | ⟨rfl, hr⟩
  · exact .inr ⟨fun h => hb (h.arc _ (mem_getD hi)), 4, by decide, rfl⟩
  · refine .inl ⟨⟨by omega, by omega, by omega, by omega, by omega, fun a ha => ?_⟩, rfl⟩
    obtain ⟨k, hk, e⟩ := getD_of_mem (d := El.d) ha
    rw [← e]; exact hr k hk
/-- whose pair y is in -/
def par (l : List Arc) (mate : List Int) (y : Nat) : Int := (l.getD (mate.getD y 0).toNat El.d).f
structure MV (n : Nat) (l : List Arc) (mate : List Int) : Prop where
  len : mate.length = n
  v : ∀ y : Nat, y < n → mate.getD y 0 < 0 ∨ (0 ≤ mate.getD y 0 ∧ mate.getD y 0 < l.length ∧ (l.getD (mate.getD y 0).toNat El.d).t = (y : Int))
def cntM (l : List Arc) (mate : List Int) (n : Nat) (x : Int) : Int := tot (fun y => if 0 ≤ mate.getD y 0 ∧ par l mate y = x then 1 else 0) n
structure Dead (n : Nat) (l : List Arc) (mate : List Int) (X : Int → Prop) (Y : Nat → Prop) : Prop where
  a : ∀ a, a ∈ l → X a.f → Y a.t.toNat
  b : ∀ y, y < n → Y y → 0 ≤ mate.getD y 0 ∧ X (par l mate y)
structure FindNo (n : Nat) (l : List Arc) (i : Int) (seen : List Bool) (mate : List Int) (seen' : List Bool) : Prop where
  a : ∀ a, a ∈ l → a.f = i → seen'.getD a.t.toNat false = true
  b : ∀ y, y < n → seen'.getD y false = true → seen.getD y false = false → 0 ≤ mate.getD y 0 ∧ ∀ a, a ∈ l → a.f = par l mate y → seen'.getD a.t.toNat false = true
structure FindYes (n : Nat) (l : List Arc) (i : Int) (seen : List Bool) (mate mate' : List Int) : Prop where
  mv : MV n l mate'
  old : ∀ y, seen.getD y false = true → mate'.getD y 0 = mate.getD y 0
  cnt : ∀ x, cntM l mate' n x = cntM l mate n x + if x = i then 1 else 0
  up : ∀ y, y < n → 0 ≤ mate.getD y 0 → 0 ≤ mate'.getD y 0
  dead : ∀ X Y, Dead n l mate X Y → ¬ X i ∧ ∀ y, y < n → Y y → mate'.getD y 0 = mate.getD y 0
theorem MV.set {n : Nat} {l : List Arc} {mate : List Int} (h : MV n l mate) {y j : Nat} (hj : j < l.length) (ht : (l.getD j El.d).t = (y : Int)) : MV n l (mate.set y (j : Int)) := by
  refine ⟨by simp [h.len], fun z hz => ?_⟩
  rw [getD_set']
  by_cases c : z = y ∧ y < mate.length
  · rw [if_pos c, Int.toNat_natCast]
    exact .inr ⟨by omega, by omega, by rw [ht, c.1]⟩
  · rw [if_neg c]; exact h.v z hz
theorem cntM_set {n : Nat} {l : List Arc} {mate : List Int} (hl : mate.length = n) {y j : Nat} (hy : y < n) (x : Int) : cntM l (mate.set y (j : Int)) n x = cntM l mate n x + ((if (l.getD j El.d).f = x then 1 else 0) - (if 0 ≤ mate.getD y 0 ∧ par l mate y = x then 1 else 0)) := by
  have e1 : ∀ z, z ≠ y → (mate.set y (j : Int)).getD z 0 = mate.getD z 0 := fun z hz => by rw [getD_set', if_neg (fun q => hz q.1)]
  have e2 : (mate.set y (j : Int)).getD y 0 = (j : Int) := by rw [getD_set', if_pos ⟨rfl, by omega⟩]
  have h := tot_sub (fun z => if 0 ≤ (mate.set y (j : Int)).getD z 0 ∧ par l (mate.set y (j : Int)) z = x then (1 : Int) else 0) (fun z => if 0 ≤ mate.getD z 0 ∧ par l mate z = x then (1 : Int) else 0) n
  rw [tot_single (f := fun i => (if 0 ≤ (mate.set y (j : Int)).getD i 0 ∧ par l (mate.set y (j : Int)) i = x then (1 : Int) else 0) - (if 0 ≤ mate.getD i 0 ∧ par l mate i = x then (1 : Int) else 0)) hy fun z _ hz => by unfold par; rw [e1 z hz]; omega] at h
  have e3 : (if 0 ≤ (mate.set y (j : Int)).getD y 0 ∧ par l (mate.set y (j : Int)) y = x then (1 : Int) else 0) = if (l.getD j El.d).f = x then 1 else 0 := by
    unfold par
    rw [e2, Int.toNat_natCast]
    by_cases c : (l.getD j El.d).f = x
    · rw [if_pos c, if_pos ⟨by omega, c⟩]
    · rw [if_neg c, if_neg (fun q => c q.2)]
  rw [e3] at h
  unfold cntM
  omega
def unsn (seen : List Bool) : Nat → Bool := fun y => !seen.getD y false
theorem find_ok {m n : Int} {l : List Arc} (hP : OkP m n l) : ∀ (fuel : Nat) (i : Int) (seen : List Bool) (mate : List Int), seen.length = n.toNat → MV n.toNat l mate → cnt (unsn seen) n.toNat < fuel →
    ∃ b seen' mate', match_mates_c1_F fuel i l seen mate = some (b, seen', mate') ∧ seen'.length = n.toNat ∧ (∀ y, seen.getD y false = true → seen'.getD y false = true) ∧ ((b = false ∧ mate' = mate ∧ FindNo n.toNat l i seen mate seen') ∨ (b = true ∧ mate'.length = n.toNat ∧ FindYes n.toNat l i seen mate mate'))
  | 0, _, _, _, _, _, h => absurd h (by omega)
  | fuel + 1, i, seen, mate, hs, hm, hf => by
    have hml := hm.len
    have hn0 := hP.n0
    have hn1 := hP.n1
    show ∃ b seen' mate', match_mates_c1_S (match_mates_c1_F fuel) i l seen mate = some (b, seen', mate') ∧ _
    unfold match_mates_c1_S
    obtain ⟨q, e, hq⟩ := forC_or (f := match_mates_c1_B1 (match_mates_c1_F fuel) i l) (fun j σ => σ.2 = mate ∧ σ.1.length = n.toNat ∧ (∀ y, seen.getD y false = true → σ.1.getD y false = true) ∧ (∀ k, k < j → (l.getD k El.d).f = i → σ.1.getD (l.getD k El.d).t.toNat false = true) ∧
        ∀ y, y < n.toNat → σ.1.getD y false = true → seen.getD y false = false → 0 ≤ mate.getD y 0 ∧ ∀ a, a ∈ l → a.f = par l mate y → σ.1.getD a.t.toNat false = true)
      (fun q => (∃ s, q = .go (s, mate) ∧ s.length = n.toNat ∧ (∀ y, seen.getD y false = true → s.getD y false = true) ∧ FindNo n.toNat l i seen mate s) ∨ ∃ s mt, q = .ret (true, s, mt) ∧ s.length = n.toNat ∧ (∀ y, seen.getD y false = true → s.getD y false = true) ∧ mt.length = n.toNat ∧ FindYes n.toNat l i seen mate mt)
      (n := l.length) (k := 0) (s := (seen, mate)) ⟨rfl, hs, fun _ h => h, fun k hk => absurd hk (by omega), fun y _ h1 h2 => by rw [h1] at h2; cases h2⟩ (fun j σ _ hj ⟨i1, i2, i3, i4, i5⟩ => by
        obtain ⟨s, mt⟩ := σ
        dsimp only at i1 i2 i3 i4 i5
        subst i1
        have hj' : j < l.length := by omega
        have ha := hP.arc _ (mem_getD (d := El.d) hj')
        obtain ⟨t, ht⟩ : ∃ t : Nat, (l.getD j El.d).t = (t : Int) := ⟨(l.getD j El.d).t.toNat, by omega⟩
        have htn : t < n.toNat := by omega
        unfold match_mates_c1_B1
        dsimp only
        by_cases c1 : (l.getD j El.d).f = i
        · rw [if_neg (fun z => z c1), ht, Int.toNat_natCast, ck_some (by omega)]
          by_cases c2 : s.getD t false = true
          · rw [if_pos c2]
            refine .inl ⟨_, rfl, rfl, i2, i3, fun k hk hki => ?_, i5⟩
            by_cases z : k = j
            · subst z; rw [ht, Int.toNat_natCast]; exact c2
            · exact i4 k (by omega) hki
          · have c2' : s.getD t false = false := by cases hc : s.getD t false <;> simp_all
            have hst : (s.set t true).length = n.toNat := by simp [i2]
            have hset : ∀ y, (s.set t true).getD y false = if y = t then true else s.getD y false := fun y => by
              rw [getD_set']
              by_cases z : y = t
              · rw [if_pos ⟨z, by omega⟩, if_pos z]
              · rw [if_neg (fun q => z q.1), if_neg z]
            have hup : ∀ y, seen.getD y false = true → (s.set t true).getD y false = true := fun y hy => by
              rw [hset]; split
              · rfl
              · exact i3 y hy
            have hnt : ∀ y, seen.getD y false = true → y ≠ t := fun y hy z => by
              have := i3 y hy
              rw [z, c2'] at this; cases this
            have hdead1 : ∀ X Y, Dead n.toNat l mt X Y → X i → Y t := fun X Y hd hx => by
              have := hd.a _ (mem_getD (d := El.d) hj') (by rw [c1]; exact hx)
              rw [ht, Int.toNat_natCast] at this; exact this
            rw [if_neg (by rw [c2']; decide), ck_some (by omega)]
            have hv := hm.v t htn
            by_cases c3 : mt.getD t 0 < 0
            · rw [if_pos c3]
              refine .inr (.inr ⟨_, rfl, .inr ⟨_, _, rfl, hst, hup, by simp [hml], hm.set hj' ht, fun y hy => ?_, fun x => ?_, fun y hy h0 => ?_, fun X Y hd => ?_⟩⟩)
              · rw [getD_set', if_neg (fun q => hnt y hy q.1)]
              · rw [cntM_set hml htn, c1, if_neg (fun q : 0 ≤ mt.getD t 0 ∧ _ => by have := q.1; omega)]
                by_cases z : i = x
                · rw [if_pos z, if_pos z.symm]; omega
                · rw [if_neg z, if_neg (fun q => z q.symm)]; omega
              · rw [getD_set']; split
                · omega
                · exact h0
              · refine ⟨fun hx => ?_, fun y hy hYy => ?_⟩
                · have := (hd.b t htn (hdead1 X Y hd hx)).1
                  omega
                · rw [getD_set', if_neg]
                  rintro ⟨z, _⟩
                  have := (hd.b y hy hYy).1
                  rw [z] at this; omega
            · have hv' : 0 ≤ mt.getD t 0 ∧ mt.getD t 0 < l.length ∧ (l.getD (mt.getD t 0).toNat El.d).t = (t : Int) := by
                rcases hv with z | z
                · exact absurd z c3
                · exact z
              rw [if_neg c3, ck_some (by omega)]
              have hcnt : cnt (unsn (s.set t true)) n.toNat < fuel := by
                have h1 : cnt (unsn (s.set t true)) n.toNat < cnt (unsn s) n.toNat := cnt_lt (fun y _ hy => by
                  unfold unsn at hy ⊢
                  rw [hset] at hy
                  by_cases z : y = t
                  · rw [if_pos z] at hy; cases hy
                  · rw [if_neg z] at hy; exact hy) htn (by unfold unsn; rw [c2']; rfl) (by unfold unsn; rw [hset, if_pos rfl]; rfl)
                have h2 : cnt (unsn s) n.toNat ≤ cnt (unsn seen) n.toNat := cnt_mono fun y _ hy => by
                  unfold unsn at hy ⊢
                  cases hc : seen.getD y false with
                  | false => rfl
                  | true => rw [i3 y hc] at hy; cases hy
                omega
              obtain ⟨b, s2, m2, e2, l2, u2, hr⟩ := find_ok hP fuel (par l mt t) (s.set t true) mt hst hm hcnt
              have e2' : match_mates_c1_F fuel (l.getD (mt.getD t 0).toNat El.d).f l (s.set t true) mt = some (b, s2, m2) := e2
              rw [e2', bind_some']
              dsimp only
              have hst2 : s2.getD t false = true := u2 t (by rw [hset, if_pos rfl])
              have hss2 : ∀ y, s.getD y false = true → s2.getD y false = true := fun y hy => u2 y (by rw [hset]; split; rfl; exact hy)
              rcases hr with ⟨rfl, rfl, hno⟩ | ⟨rfl, m2l, hyes⟩
              · rw [ck_some (by omega), ck_some rfl, if_neg (by decide)]
                refine .inl ⟨_, rfl, rfl, l2, fun y hy => hss2 y (i3 y hy), fun k hk hki => ?_, fun y hy h1 h2 => ?_⟩
                · by_cases z : k = j
                  · subst z; rw [ht, Int.toNat_natCast]; exact hst2
                  · exact hss2 _ (i4 k (by omega) hki)
                · dsimp only at h1
                  by_cases z : y = t
                  · subst z
                    exact ⟨hv'.1, fun a ha hap => hno.a a ha hap⟩
                  · by_cases z2 : s.getD y false = true
                    · have := i5 y hy z2 h2
                      exact ⟨this.1, fun a ha hap => hss2 _ (this.2 a ha hap)⟩
                    · exact hno.b y hy h1 (by rw [hset, if_neg z]; cases hc : s.getD y false <;> simp_all)
              · rw [ck_some (by omega), ck_some (by omega), if_pos rfl]
                have hmt : m2.getD t 0 = mt.getD t 0 := hyes.old t (by rw [hset, if_pos rfl])
                refine .inr (.inr ⟨_, rfl, .inr ⟨_, _, rfl, l2, fun y hy => hss2 y (i3 y hy), by simp [m2l], hyes.mv.set hj' ht, fun y hy => ?_, fun x => ?_, fun y hy h0 => ?_, fun X Y hd => ?_⟩⟩)
                · rw [getD_set', if_neg (fun q => hnt y hy q.1)]
                  exact hyes.old y (hup y hy)
                · have hp : par l m2 t = par l mt t := by unfold par; rw [hmt]
                  rw [cntM_set m2l htn, hyes.cnt x, c1, hmt, hp]
                  by_cases z1 : x = par l mt t
                  · rw [if_pos z1, if_pos (show 0 ≤ mt.getD t 0 ∧ par l mt t = x from ⟨hv'.1, z1.symm⟩)]
                    by_cases z : i = x
                    · rw [if_pos z, if_pos z.symm]; omega
                    · rw [if_neg z, if_neg (fun q => z q.symm)]; omega
                  · rw [if_neg z1, if_neg (fun q : 0 ≤ mt.getD t 0 ∧ par l mt t = x => z1 q.2.symm)]
                    by_cases z : i = x
                    · rw [if_pos z, if_pos z.symm]; omega
                    · rw [if_neg z, if_neg (fun q => z q.symm)]; omega
                · rw [getD_set']; split
                  · omega
                  · exact hyes.up y hy h0
                · obtain ⟨d1, d2⟩ := hyes.dead X Y hd
                  have hYt : ¬ Y t := fun z => d1 (hd.b t htn z).2
                  refine ⟨fun hx => hYt (hdead1 X Y hd hx), fun y hy hYy => ?_⟩
                  rw [getD_set', if_neg]
                  · exact d2 y hy hYy
                  · rintro ⟨z, _⟩; rw [z] at hYy; exact hYt hYy
        · rw [if_pos c1]
          refine .inl ⟨_, rfl, rfl, i2, i3, fun k hk hki => ?_, i5⟩
          by_cases z : k = j
          · subst z; exact absurd hki c1
          · exact i4 k (by omega) hki) (fun σ ⟨i1, i2, i3, i4, i5⟩ => by
        obtain ⟨s, mt⟩ := σ
        dsimp only at i1 i2 i3 i4 i5
        subst i1
        refine .inl ⟨s, rfl, i2, i3, fun a ha hai => ?_, i5⟩
        obtain ⟨k, hk, e⟩ := getD_of_mem (d := El.d) ha
        rw [← e] at hai ⊢
        exact i4 k (by omega) hai)
    rw [e, bind_some']
    rcases hq with ⟨s, rfl, h1, h2, h3⟩ | ⟨s, mt, rfl, h1, h2, h3, h4⟩
    · exact ⟨false, s, mate, rfl, h1, h2, .inl ⟨rfl, rfl, h3⟩⟩
    · exact ⟨true, s, mt, rfl, h1, h2, .inr ⟨rfl, h3, h4⟩⟩
/-- after k of the first side -/
structure MInv (m n : Nat) (l : List Arc) (k : Nat) (mate : List Int) : Prop where
  mv : MV n l mate
  hi : ∀ x : Nat, k ≤ x → cntM l mate n x = 0
  dead : ∃ X Y, Dead n l mate X Y ∧ ∀ x : Nat, x < k → cntM l mate n x = 1 ∨ (cntM l mate n x = 0 ∧ X x)
theorem repeat_ok : ∀ n : Nat, n ≤ 12 → slices_Repeat_int_F [-1] (n : Int) = some (List.replicate n (-1))
  | 0, _ => by kernel_rfl
  | 1, _ => by kernel_rfl
  | 2, _ => by kernel_rfl
  | 3, _ => by kernel_rfl
  | 4, _ => by kernel_rfl
  | 5, _ => by kernel_rfl
  | 6, _ => by kernel_rfl
  | 7, _ => by kernel_rfl
  | 8, _ => by kernel_rfl
  | 9, _ => by kernel_rfl
  | 10, _ => by kernel_rfl
  | 11, _ => by kernel_rfl
  | 12, _ => by kernel_rfl
  | n + 13, h => absurd h (by omega)
theorem mates_ok {m n : Int} {l : List Arc} (hP : OkP m n l) : ∃ mate, match_mates_F m n l = some mate ∧ MInv m.toNat n.toNat l m.toNat mate := by
  have hn0 := hP.n0; have hn1 := hP.n1; have hm0 := hP.m0; have hm1 := hP.m1
  obtain ⟨σ, e, h⟩ := forN_inv (f := match_mates_B1 n l) (fun k σ => MInv m.toNat n.toNat l k σ.1) (n := m.toNat) (k := 0) (s := (List.replicate n.toNat (-1), [])) (by
    have hneg : ∀ y : Nat, y < n.toNat → (List.replicate n.toNat (-1 : Int)).getD y 0 = -1 := fun y hy => by simp [hy]
    refine ⟨⟨by simp, fun y hy => .inl (by rw [hneg y hy]; decide)⟩, fun x _ => tot_zero fun y hy => ?_, fun _ => False, fun _ => False, ⟨fun _ _ h => h, fun _ _ h => h.elim⟩, fun x hx => absurd hx (by omega)⟩
    dsimp only
    rw [hneg y hy, if_neg (fun q => absurd q.1 (by decide))]) fun k σ _ hk h => by
    obtain ⟨mate, sn⟩ := σ
    dsimp only at h
    have hml := h.mv.len
    have hf : ∀ y, (List.replicate n.toNat false).getD y false = false := fun y => by
      rw [getD_replicate']; split <;> rfl
    obtain ⟨b, s2, m2, e2, l2, _, hr⟩ := find_ok hP 100 (k : Int) (List.replicate n.toNat false) mate (by simp) h.mv (by have := cnt_le (unsn (List.replicate n.toNat false)) n.toNat; omega)
    obtain ⟨X, Y, hd, hx⟩ := h.dead
    unfold match_mates_B1
    dsimp only
    rw [ck_some (by omega), e2, bind_some']
    dsimp only
    rcases hr with ⟨rfl, rfl, hno⟩ | ⟨rfl, m2l, hyes⟩
    · rw [ck_some (by omega), ck_some rfl]
      refine ⟨_, rfl, h.mv, fun x hxk => h.hi x (by omega), fun x => X x ∨ x = (k : Int) ∨ ∃ y, y < n.toNat ∧ s2.getD y false = true ∧ x = par l m2 y, fun y => Y y ∨ s2.getD y false = true, ⟨fun a ha hX => ?_, fun y hy hY => ?_⟩, fun x hxk => ?_⟩
      · rcases hX with q | q | ⟨y, hy, q1, q2⟩
        · exact .inl (hd.a a ha q)
        · exact .inr (hno.a a ha q)
        · exact .inr ((hno.b y hy q1 (hf y)).2 a ha q2)
      · rcases hY with q | q
        · exact ⟨(hd.b y hy q).1, .inl (hd.b y hy q).2⟩
        · exact ⟨(hno.b y hy q (hf y)).1, .inr (.inr ⟨y, hy, q, rfl⟩)⟩
      · by_cases z : x = k
        · subst z; exact .inr ⟨h.hi x (Nat.le_refl _), .inr (.inl rfl)⟩
        · rcases hx x (by omega) with q | q
          · exact .inl q
          · exact .inr ⟨q.1, .inl q.2⟩
    · rw [ck_some (by omega), ck_some (by omega)]
      obtain ⟨d1, d2⟩ := hyes.dead X Y hd
      refine ⟨_, rfl, hyes.mv, fun x hxk => ?_, X, Y, ⟨hd.a, fun y hy hY => ?_⟩, fun x hxk => ?_⟩
      · have := hyes.cnt x
        rw [h.hi x (by omega), if_neg (by omega)] at this
        exact this
      · have hb := hd.b y hy hY
        have hp : par l m2 y = par l mate y := by unfold par; rw [d2 y hy hY]
        rw [d2 y hy hY, hp]; exact hb
      · have hc := hyes.cnt x
        by_cases z : x = k
        · subst z
          rw [h.hi x (Nat.le_refl _), if_pos rfl] at hc
          exact .inl hc
        · rw [if_neg (by omega), Int.add_zero] at hc
          rw [hc]; exact hx x (by omega)
  have er := repeat_ok n.toNat (by omega)
  rw [show ((n.toNat : Nat) : Int) = n by omega] at er
  unfold match_mates_F
  rw [er, bind_some', ck_some (inI_small (by omega) (by omega)), e, bind_some']
  rw [Nat.zero_add] at h
  exact ⟨σ.1, rfl, h⟩
/-! ### as many as can be -/
def sizeM (mate : List Int) (n : Nat) : Int := tot (fun y => if 0 ≤ mate.getD y 0 then 1 else 0) n
structure Cov (l : List Arc) (A B : Nat → Int) : Prop where
  a : ∀ x, A x = 0 ∨ A x = 1
  b : ∀ x, B x = 0 ∨ B x = 1
  c : ∀ e, e ∈ l → A e.f.toNat = 1 ∨ B e.t.toNat = 1
theorem par_rng {m n : Int} {l : List Arc} (hP : OkP m n l) {mate : List Int} (h : MV n.toNat l mate) {y : Nat} (hy : y < n.toNat) (h0 : 0 ≤ mate.getD y 0) : 0 ≤ par l mate y ∧ par l mate y < m := by
  rcases h.v y hy with q | ⟨_, q, _⟩
  · omega
  · have := hP.arc _ (mem_getD (d := El.d) (show (mate.getD y 0).toNat < l.length by omega))
    exact ⟨this.1, this.2.1⟩
/-- the first side, weighed, is the second side, weighed by its partners -/
theorem cnt_weigh {m n : Int} {l : List Arc} (hP : OkP m n l) {mate : List Int} (h : MV n.toNat l mate) (W : Nat → Int) : tot (fun x => W x * cntM l mate n.toNat (x : Int)) m.toNat = tot (fun y => if 0 ≤ mate.getD y 0 then W (par l mate y).toNat else 0) n.toNat := by
  have e : tot (fun x => W x * cntM l mate n.toNat (x : Int)) m.toNat = tot (fun x => tot (fun y => W x * if 0 ≤ mate.getD y 0 ∧ par l mate y = ((x : Nat) : Int) then 1 else 0) n.toNat) m.toNat := tot_congr fun x _ => (tot_mul (W x) _ n.toNat).symm
  rw [e, tot_swap (fun x y => W x * if 0 ≤ mate.getD y 0 ∧ par l mate y = ((x : Nat) : Int) then 1 else 0)]
  refine tot_congr fun y hy => ?_
  by_cases c : 0 ≤ mate.getD y 0
  · have hr := par_rng hP h hy c
    rw [if_pos c, tot_single (f := fun x => W x * if 0 ≤ mate.getD y 0 ∧ par l mate y = ((x : Nat) : Int) then 1 else 0) (k := (par l mate y).toNat) (by omega) fun x _ hx => by rw [if_neg (fun q => hx (by omega))]; omega, if_pos ⟨c, by omega⟩]
    omega
  · rw [if_neg c]
    exact tot_zero fun x _ => by rw [if_neg (fun q => c q.1)]; omega
theorem weak_cov {m n : Int} {l : List Arc} (hP : OkP m n l) {mate : List Int} (h : MV n.toNat l mate) (h1 : ∀ x : Nat, x < m.toNat → cntM l mate n.toNat x ≤ 1) {A B : Nat → Int} (hc : Cov l A B) : sizeM mate n.toNat ≤ tot A m.toNat + tot B n.toNat := by
  have e := cnt_weigh hP h A
  have l1 : tot (fun x => A x * cntM l mate n.toNat (x : Int)) m.toNat ≤ tot A m.toNat := tot_le fun x hx => by
    have := h1 x hx
    rcases hc.a x with q | q <;> rw [q] <;> omega
  have l2 : sizeM mate n.toNat ≤ tot (fun y => (if 0 ≤ mate.getD y 0 then A (par l mate y).toNat else 0) + B y) n.toNat := tot_le fun y hy => by
    have hb := hc.b y
    by_cases c : 0 ≤ mate.getD y 0
    · rw [if_pos c, if_pos c]
      rcases h.v y hy with q | ⟨_, q, qt⟩
      · omega
      · have := hc.c _ (mem_getD (d := El.d) (show (mate.getD y 0).toNat < l.length by omega))
        rw [qt, Int.toNat_natCast] at this
        have ha := hc.a (par l mate y).toNat
        unfold par at ha ⊢
        omega
    · rw [if_neg c, if_neg c]; omega
  rw [tot_add] at l2
  omega
theorem pick01 (P : Nat → Prop) : ∃ A : Nat → Int, ∀ x, (A x = 1 ∧ P x) ∨ (A x = 0 ∧ ¬ P x) :=
  Classical.axiomOfChoice (r := fun x (v : Int) => (v = 1 ∧ P x) ∨ (v = 0 ∧ ¬ P x)) fun x => (Classical.em (P x)).elim (fun h => ⟨1, .inl ⟨rfl, h⟩⟩) fun h => ⟨0, .inr ⟨rfl, h⟩⟩
theorem MInv.one {m n : Nat} {l : List Arc} {mate : List Int} (h : MInv m n l m mate) (x : Nat) : 0 ≤ cntM l mate n x ∧ cntM l mate n x ≤ 1 := by
  obtain ⟨X, Y, _, hx⟩ := h.dead
  by_cases c : x < m
  · rcases hx x c with q | q <;> omega
  · have := h.hi x (by omega); omega
/-- who holds one of each pair: those that cannot be come to, and those of the second side that can -/
theorem dead_cov {m n : Int} {l : List Arc} (hP : OkP m n l) {mate : List Int} (h : MInv m.toNat n.toNat l m.toNat mate) {X : Int → Prop} {Y : Nat → Prop} (hd : Dead n.toNat l mate X Y) (hx : ∀ x : Nat, x < m.toNat → cntM l mate n.toNat x = 1 ∨ X x) {A B : Nat → Int} (hA : ∀ x, (A x = 1 ∧ ¬ X x) ∨ (A x = 0 ∧ X x)) (hB : ∀ y, (B y = 1 ∧ Y y) ∨ (B y = 0 ∧ ¬ Y y)) :
    Cov l A B ∧ tot A m.toNat + tot B n.toNat = sizeM mate n.toNat := by
  have hcov : Cov l A B := ⟨fun x => by rcases hA x with q | q <;> omega, fun x => by rcases hB x with q | q <;> omega, fun e he => by
    rcases hA e.f.toNat with q | q
    · exact .inl q.1
    · right
      have har := hP.arc e he
      have hXf : X e.f := by have := q.2; rwa [show ((e.f.toNat : Nat) : Int) = e.f by omega] at this
      rcases hB e.t.toNat with z | z
      · exact z.1
      · exact absurd (hd.a e he hXf) z.2⟩
  refine ⟨hcov, ?_⟩
  have w := weak_cov hP h.mv (fun x _ => (h.one x).2) hcov
  have e := cnt_weigh hP h.mv A
  have e1 : tot (fun x => A x * cntM l mate n.toNat (x : Int)) m.toNat = tot A m.toNat := tot_congr fun x hx' => by
    rcases hA x with q | q
    · rcases hx x hx' with z | z
      · rw [z]; omega
      · exact absurd z q.2
    · rw [q.1]; omega
  have l2 : tot (fun y => (if 0 ≤ mate.getD y 0 then A (par l mate y).toNat else 0) + B y) n.toNat ≤ sizeM mate n.toNat := tot_le fun y hy => by
    rcases hB y with q | q
    · have hb := hd.b y hy q.2
      have hr := par_rng hP h.mv hy hb.1
      rw [if_pos hb.1, if_pos hb.1, q.1]
      rcases hA (par l mate y).toNat with z | z
      · have := z.2
        rw [show (((par l mate y).toNat : Nat) : Int) = par l mate y by omega] at this
        exact absurd hb.2 this
      · omega
    · rw [q.1]
      by_cases c : 0 ≤ mate.getD y 0
      · rw [if_pos c, if_pos c]; rcases hA (par l mate y).toNat with z | z <;> omega
      · rw [if_neg c, if_neg c]; omega
  rw [tot_add] at l2
  omega
/-- how many pairs there are at the most -/
structure BestM (m n : Int) (l : List Arc) (v : Int) : Prop where
  mat : ∃ mate, MV n.toNat l mate ∧ (∀ x : Nat, x < m.toNat → cntM l mate n.toNat x ≤ 1) ∧ sizeM mate n.toNat = v
  cov : ∃ A B, Cov l A B ∧ tot A m.toNat + tot B n.toNat = v
theorem BestM.ge {m n : Int} {l : List Arc} {v : Int} (hP : OkP m n l) (h : BestM m n l v) {mate : List Int} (h1 : MV n.toNat l mate) (h2 : ∀ x : Nat, x < m.toNat → cntM l mate n.toNat x ≤ 1) : sizeM mate n.toNat ≤ v := by
  obtain ⟨A, B, hc, e⟩ := h.cov
  rw [← e]; exact weak_cov hP h1 h2 hc
theorem BestM.le {m n : Int} {l : List Arc} {v : Int} (hP : OkP m n l) (h : BestM m n l v) {A B : Nat → Int} (hc : Cov l A B) : v ≤ tot A m.toNat + tot B n.toNat := by
  obtain ⟨mate, h1, h2, e⟩ := h.mat
  rw [← e]; exact weak_cov hP h1 h2 hc
theorem mates_best {m n : Int} {l : List Arc} (hP : OkP m n l) : ∃ mate, match_mates_F m n l = some mate ∧ MInv m.toNat n.toNat l m.toNat mate ∧ BestM m n l (sizeM mate n.toNat) := by
  obtain ⟨mate, e, h⟩ := mates_ok hP
  obtain ⟨X, Y, hd, hx⟩ := h.dead
  obtain ⟨A, hA⟩ := pick01 fun x => ¬ X x
  obtain ⟨B, hB⟩ := pick01 Y
  have hA' : ∀ x : Nat, (A x = 1 ∧ ¬ X x) ∨ (A x = 0 ∧ X x) := fun x => by
    rcases hA x with q | q
    · exact .inl q
    · exact .inr ⟨q.1, Classical.byContradiction q.2⟩
  obtain ⟨c1, c2⟩ := dead_cov hP h hd (fun x hx' => by
    rcases hx x hx' with q | q
    · exact .inl q
    · exact .inr q.2) hA' hB
  exact ⟨mate, e, h, ⟨mate, h.mv, fun x _ => (h.one x).2, rfl⟩, A, B, c1, c2⟩
theorem sizeM_b (mate : List Int) (n : Nat) : 0 ≤ sizeM mate n ∧ sizeM mate n ≤ n := by
  unfold sizeM
  have h1 := tot_nonneg (f := fun y => if 0 ≤ mate.getD y 0 then (1 : Int) else 0) (n := n) fun i _ => by split <;> omega
  have h2 := tot_le (f := fun y => if 0 ≤ mate.getD y 0 then (1 : Int) else 0) (g := fun _ => 1) (n := n) fun i _ => by split <;> omega
  rw [tot_const] at h2
  omega
theorem most_pairs (m n : Int) (l : List Arc) : (OkP m n l ∧ ∃ out mate, match_Most_F m n l = some (out, 0) ∧ match_mates_F m n l = some mate ∧ MInv m.toNat n.toNat l m.toNat mate ∧ (out.length : Int) = sizeM mate n.toNat ∧ BestM m n l (out.length : Int)) ∨ (¬ OkP m n l ∧ ∃ e, e ≠ 0 ∧ match_Check_F m n l = some e ∧ match_Most_F m n l = some ([], e)) := by
  unfold match_Most_F
  rcases checkP m n l with ⟨hP, e⟩ | ⟨hb, er, he, e⟩
  · left
    have hn1 := hP.n1
    obtain ⟨mate, e2, h, hbest⟩ := mates_best hP
    have hml := h.mv.len
    rw [e, bind_some', if_neg (by decide), e2, bind_some']
    obtain ⟨o, e3, h1⟩ := forN_inv (f := match_Most_B1 mate) (fun j (o : List Int) => (o.length : Int) = sizeM mate j) (n := mate.length) (k := 0) (s := []) rfl fun j o _ hj hI => by
      have hb := sizeM_b mate j
      have es : sizeM mate (j + 1) = sizeM mate j + if 0 ≤ mate.getD j 0 then 1 else 0 := rfl
      unfold match_Most_B1
      by_cases c : 0 ≤ mate.getD j 0
      · rw [if_pos c] at es
        rw [if_pos c, ck_some (by omega)]
        exact ⟨_, rfl, by rw [es]; simp; omega⟩
      · rw [if_neg c] at es
        rw [if_neg c]
        exact ⟨_, rfl, by rw [es]; omega⟩
    rw [Nat.zero_add, hml] at h1
    have hb := sizeM_b mate n.toNat
    obtain ⟨o2, e4, sw, _⟩ := sortI_all lessI (l := o) (by omega) (fun _ _ => trivial)
    have l2 := sw.len
    rw [e3, bind_some', e4, bind_some', ck_some (by omega)]
    exact ⟨hP, o2, mate, rfl, rfl, h, by omega, by rw [show (o2.length : Int) = sizeM mate n.toNat by omega]; exact hbest⟩
  · exact .inr ⟨hb, er, he, e, by rw [e, bind_some', if_pos he]⟩
end Go.Proofs.Ytlpelkfcmeapiaa
