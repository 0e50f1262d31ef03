/- The walk's rules: a region that draws its order, in which what is written is read before: all that is read comes ahead of the one operation that writes first. Plain laws over any program. -/
import Derived.Test.YtgkcmjmofcekmaaSxM
namespace Go.Proofs.Ytgkcmjmofcekmaa.Sx
open Go
set_option linter.unusedVariables false
set_option linter.unusedSimpArgs false
/-- whatever order is picked, and a condition holds that knows what has come up -/
def wpAnyL (P : Program) (ops : Array Oper) (Q : Exit → Act → World → Prop) (S : Array Bool → World → Prop) : Nat → Array Bool → Act → World → Prop
  | 0, listed, a, w => Region.ready .any ops listed = [] ∧ Q .normal a w
  | fuel + 1, listed, a, w =>
    (Region.ready .any ops listed = [] → Q .normal a w) ∧
    ∀ i ∈ Region.ready .any ops listed, wpOp P ops Q i (fun a' w' => S (listed.setIfInBounds i true) w' ∧ wpAnyL P ops Q S fuel (listed.setIfInBounds i true) a' w') a w
section
variable {P : Program} {ops : Array Oper} {Q : Exit → Act → World → Prop} {S : Array Bool → World → Prop} {T U : World → Prop}
theorem wpAny_of_L : ∀ (fuel : Nat) (listed : Array Bool) (a : Act) (w : World), wpAnyL P ops Q S fuel listed a w → wpAny P .any ops Q fuel listed a w
  | 0, _, _, _, h => h
  | fuel + 1, _, _, _, h => ⟨h.1, fun i hi => wpOp_mono (fun a' w' h' => wpAny_of_L fuel _ a' w' h'.2) (h.2 i hi)⟩
/-- until j0 comes up T holds, and U always -/
def SL (T U : World → Prop) (j0 : Nat) (listed : Array Bool) (w : World) : Prop := (listed.getD j0 true = false → T w) ∧ U w
/-- what has come up has come up behind what it waits for -/
def ClosedL (ops : Array Oper) (listed : Array Bool) : Prop := ∀ (k : Nat) (o : Oper), ops[k]? = some o → listed.getD k true = true → ∀ e ∈ o.after, Region.binds .any e = true → listed.getD e.on false = true
theorem ClosedL.set {listed : Array Bool} {i : Nat} (h : ClosedL ops listed) (hr : i ∈ Region.ready .any ops listed) : ClosedL ops (listed.setIfInBounds i true) := by
  obtain ⟨hu, o', ho', hall⟩ := mem_ready.1 hr
  have hi : i < listed.size := by
    rcases Nat.lt_or_ge i listed.size with c | c
    · exact c
    · simp [Array.getElem?_eq_none c] at hu
  have up : ∀ x, listed.getD x false = true → (listed.setIfInBounds i true).getD x false = true := fun x hx => by
    by_cases c : i = x
    · subst c; simp [hi]
    · rw [Go.getD_set_ne false c]; exact hx
  intro k o hk hl e he hb
  by_cases c : i = k
  · subst c
    rw [ho'] at hk
    obtain rfl := Option.some.inj hk
    exact up _ (hall e he hb)
  · rw [Go.getD_set_ne true c] at hl
    exact up _ (h k o hk hl e he hb)
/-- j comes up behind i, by so many steps -/
def depT (all : Array Oper) : Nat → Nat → Nat → Bool
  | 0, j, i => match all[j]? with | some o => o.after.any (fun e => Region.binds .any e && e.on == i) | none => false
  | f + 1, j, i => (match all[j]? with | some o => o.after.any (fun e => Region.binds .any e && e.on == i) | none => false) || match all[j]? with | some o => o.after.any (fun e => Region.binds .any e && depT all f e.on i) | none => false
theorem depT_listed {listed : Array Bool} (hc : ClosedL ops listed) : ∀ (f j i : Nat), depT ops f j i = true → (∀ o : Oper, ops[j]? = some o → ∀ e ∈ o.after, Region.binds .any e = true → listed.getD e.on false = true) → listed.getD i false = true := by
  have direct : ∀ (j i : Nat), (match ops[j]? with | some o => o.after.any (fun e => Region.binds .any e && e.on == i) | none => false) = true → (∀ o : Oper, ops[j]? = some o → ∀ e ∈ o.after, Region.binds .any e = true → listed.getD e.on false = true) → listed.getD i false = true := fun j i h hj => by
    split at h
    · rename_i o ho
      obtain ⟨e, he, hb⟩ := Array.any_eq_true'.1 h
      simp only [Bool.and_eq_true, beq_iff_eq] at hb
      rw [← hb.2]; exact hj o ho e he hb.1
    · cases h
  intro f
  induction f with
  | zero => exact direct
  | succ f ih =>
    intro j i h hj
    unfold depT at h
    rw [Bool.or_eq_true] at h
    rcases h with h | h
    · exact direct j i h hj
    · split at h
      · rename_i o ho
        obtain ⟨e, he, hb⟩ := Array.any_eq_true'.1 h
        simp only [Bool.and_eq_true] at hb
        have h1 := hj o ho e he hb.1
        refine ih e.on i hb.2 fun o2 ho2 e2 he2 hb2 => hc e.on o2 ho2 ?_ e2 he2 hb2
        rcases Nat.lt_or_ge e.on listed.size with c | c
        · simp [c] at h1 ⊢; exact h1
        · simp [Array.getElem?_eq_none c] at h1
      · cases h
/-- j0 comes up behind i -/
def waits (all : Array Oper) (j0 i : Nat) : Bool := (i != j0) && depT all 4 j0 i
theorem waits_spec {j0 i : Nat} (h : waits ops j0 i = true) : i ≠ j0 ∧ depT ops 4 j0 i = true := by
  unfold waits at h
  simp only [Bool.and_eq_true, bne_iff_ne, ne_eq] at h
  exact h
theorem wpAnyL_first {i j0 : Nat} {oi : Oper} {v : Value} (hi : ops[i]? = some oi) (hw : waits ops j0 i = true) (hsel : ∀ (j : Nat) (o : Oper) cs b, ops[j]? = some o → o.op ≠ .select cs b)
    (hQ : ∀ c a w, Q (.panic c) (a.put oi.dst v) w → Q (.panic c) a w) :
    ∀ (fuel : Nat) (listed : Array Bool) (a : Act) (w : World),
      (∀ j oj, ops[j]? = some oj → j ≠ i → listed.getD j true = false → (∀ e ∈ oj.after, Region.binds .any e = true → e.on ≠ i) → oi.apart ops oj = true) →
      i ∈ Region.ready .any ops listed → YieldsIf P ops T oi v a → T w → U w → listed.getD j0 true = false → ClosedL ops listed →
      wpAnyL P ops Q (SL T U j0) fuel (listed.setIfInBounds i true) (a.put oi.dst v) w → wpAnyL P ops Q (SL T U j0) (fuel + 1) listed a w := by
  obtain ⟨hij, hdep⟩ := waits_spec hw
  intro fuel
  induction fuel with
  | zero =>
    intro listed a w _ hr hy hT hU h0 _ H
    refine ⟨fun h => (by rw [h] at hr; cases hr), fun j hj => ?_⟩
    by_cases hji : j = i
    · subst hji; exact hy.wpOp hi hT ⟨⟨fun _ => hT, hU⟩, H⟩
    · have := ready_mono hj hji
      rw [H.1] at this
      cases this
  | succ fuel ih =>
    intro listed a w hfree hr hy hT hU h0 hcl H
    refine ⟨fun h => (by rw [h] at hr; cases hr), fun j hj => ?_⟩
    by_cases hji : j = i
    · subst hji; exact hy.wpOp hi hT ⟨⟨fun _ => hT, hU⟩, H⟩
    · have h1 := H.2 j (ready_mono hj hji)
      obtain ⟨hjun, oj, hoj, hall⟩ := mem_ready.1 hj
      have hnot : ∀ e ∈ oj.after, Region.binds .any e = true → e.on ≠ i := fun e he hb heq => by
        have h1 := hall e he hb
        have h0 := (mem_ready.1 hr).1
        rw [heq] at h1
        rcases Nat.lt_or_ge i listed.size with h' | h'
        · simp [h'] at h0 h1; rw [h0] at h1; cases h1
        · simp [Array.getElem?_eq_none h'] at h1
      have hj0 : j ≠ j0 := fun e => by
        subst e
        have h1 := depT_listed hcl 4 j i hdep fun o ho => by
          rw [hoj] at ho
          obtain rfl := Option.some.inj ho
          exact hall
        have h0 := (mem_ready.1 hr).1
        rcases Nat.lt_or_ge i listed.size with h' | h'
        · simp [h'] at h0 h1; rw [h0] at h1; cases h1
        · simp [Array.getElem?_eq_none h'] at h1
      have h2 := wpOp_putIf hoj (hfree j oj hoj hji hjun hnot) (fun cs b => hsel i oi cs b hi) (fun cs b => hsel j oj cs b hoj) hQ hy h1
      have hfree' : ∀ k ok, ops[k]? = some ok → k ≠ i → (listed.setIfInBounds j true).getD k true = false →
          (∀ e ∈ ok.after, Region.binds .any e = true → e.on ≠ i) → oi.apart ops ok = true := fun k ok hk hki hun hno => by
        refine hfree k ok hk hki ?_ hno
        by_cases hjk : j = k
        · subst hjk; exact hjun
        · rw [Go.getD_set_ne true hjk] at hun; exact hun
      have hl : (listed.setIfInBounds j true).getD j0 true = false := by rw [Go.getD_set_ne true hj0]; exact h0
      refine wpOp_mono (fun a' w' h3 => ?_) h2
      obtain ⟨hy', ⟨hT', hU'⟩, h4⟩ := h3
      have hT2 : T w' := hT' (by rw [Go.getD_set_ne true hj0, Go.getD_set_ne true hij]; exact h0)
      refine ⟨⟨fun _ => hT2, hU'⟩, ih (listed.setIfInBounds j true) a' w' hfree' (ready_mono hr (Ne.symm hji)) hy' hT2 hU' hl (hcl.set hj) ?_⟩
      rw [Array.setIfInBounds_comm _ _ hji]
      exact h4
theorem wpAnyL_firstP {i j0 : Nat} {oi : Oper} {v : Value} (hi : ops[i]? = some oi) (hij : i ≠ j0) (hsel : ∀ (j : Nat) (o : Oper) cs b, ops[j]? = some o → o.op ≠ .select cs b)
    (hQ : ∀ c a w, Q (.panic c) (a.put oi.dst v) w → Q (.panic c) a w) :
    ∀ (fuel : Nat) (listed : Array Bool) (a : Act) (w : World),
      (∀ j oj, ops[j]? = some oj → j ≠ i → listed.getD j true = false → (∀ e ∈ oj.after, Region.binds .any e = true → e.on ≠ i) → oi.apart ops oj = true) →
      i ∈ Region.ready .any ops listed → YieldsIf P ops U oi v a → SL T U j0 listed w →
      wpAnyL P ops Q (SL T U j0) fuel (listed.setIfInBounds i true) (a.put oi.dst v) w → wpAnyL P ops Q (SL T U j0) (fuel + 1) listed a w := by
  have key : ∀ (L : Array Bool) w, SL T U j0 L w → SL T U j0 (L.setIfInBounds i true) w := fun L w h => ⟨fun z => h.1 (by rw [Go.getD_set_ne true hij] at z; exact z), h.2⟩
  intro fuel
  induction fuel with
  | zero =>
    intro listed a w _ hr hy hS H
    refine ⟨fun h => (by rw [h] at hr; cases hr), fun j hj => ?_⟩
    by_cases hji : j = i
    · subst hji; exact hy.wpOp hi hS.2 ⟨key _ _ hS, H⟩
    · have := ready_mono hj hji
      rw [H.1] at this
      cases this
  | succ fuel ih =>
    intro listed a w hfree hr hy hS H
    refine ⟨fun h => (by rw [h] at hr; cases hr), fun j hj => ?_⟩
    by_cases hji : j = i
    · subst hji; exact hy.wpOp hi hS.2 ⟨key _ _ hS, H⟩
    · have h1 := H.2 j (ready_mono hj hji)
      obtain ⟨hjun, oj, hoj, hall⟩ := mem_ready.1 hj
      have hnot : ∀ e ∈ oj.after, Region.binds .any e = true → e.on ≠ i := fun e he hb heq => by
        have h1 := hall e he hb
        have h0 := (mem_ready.1 hr).1
        rw [heq] at h1
        rcases Nat.lt_or_ge i listed.size with h' | h'
        · simp [h'] at h0 h1; rw [h0] at h1; cases h1
        · simp [Array.getElem?_eq_none h'] at h1
      have h2 := wpOp_putIf hoj (hfree j oj hoj hji hjun hnot) (fun cs b => hsel i oi cs b hi) (fun cs b => hsel j oj cs b hoj) hQ hy h1
      have hfree' : ∀ k ok, ops[k]? = some ok → k ≠ i → (listed.setIfInBounds j true).getD k true = false →
          (∀ e ∈ ok.after, Region.binds .any e = true → e.on ≠ i) → oi.apart ops ok = true := fun k ok hk hki hun hno => by
        refine hfree k ok hk hki ?_ hno
        by_cases hjk : j = k
        · subst hjk; exact hjun
        · rw [Go.getD_set_ne true hjk] at hun; exact hun
      refine wpOp_mono (fun a' w' h3 => ?_) h2
      obtain ⟨hy', hS', h4⟩ := h3
      have hS2 : SL T U j0 (listed.setIfInBounds j true) w' := ⟨fun z => hS'.1 (by rw [Array.setIfInBounds_comm _ _ (Ne.symm hji), Go.getD_set_ne true hij]; exact z), hS'.2⟩
      refine ⟨hS2, ih (listed.setIfInBounds j true) a' w' hfree' (ready_mono hr (Ne.symm hji)) hy' hS2 ?_⟩
      rw [Array.setIfInBounds_comm _ _ hji]
      exact h4
theorem wpAnyL_of_H {j0 : Nat} : ∀ (fuel : Nat) (listed : Array Bool) (a : Act) (w : World), listed.getD j0 true = true → wpAnyH P .any ops Q U fuel listed a w → wpAnyL P ops Q (SL T U j0) fuel listed a w
  | 0, _, _, _, _, h => h
  | fuel + 1, listed, a, w, hl, h => ⟨h.1, fun i hi => wpOp_mono (fun a' w' h' => by
    have hl' : (listed.setIfInBounds i true).getD j0 true = true := by
      by_cases e : i = j0
      · subst e
        by_cases c : i < listed.size
        · simp [c]
        · simp [c]
      · rw [Go.getD_set_ne true e]; exact hl
    exact ⟨⟨fun z => (by rw [hl'] at z; cases z), h'.1⟩, wpAnyL_of_H fuel _ a' w' hl' h'.2⟩) (h.2 i hi)⟩
end
structure GoQ (X : Cx) (fn : Func) (R : Ending → World → Prop) (all : Array Oper) (H0 : List HL) (j0 : Nat) (p : Plan) (k : List It) (s : St) : Prop where
  run : ∀ I a w wR fuel listed, Sat X I s a w → SH I H0 wR w → (∀ b, fps H0 b → b < w.heap.size) → Region.noSelect all = true → planOk all p fuel listed = true → listed.getD j0 true = false → ClosedL all listed →
    wpAnyL X.P all (Kont X fn R k) (SL (SH I H0 wR) (SH I [] wR) j0) fuel listed a w
section
variable {X : Cx} {fn : Func} {R : Ending → World → Prop} {k : List It} {s s' : St} {all : Array Oper} {H0 : List HL} {p p1 p2 : Plan} {j0 : Nat}
theorem SH.nil {I : Nat → Prop} {wR w : World} (h : SH I H0 wR w) : SH I [] wR w := fun b hb => h b (hb.imp id fun ⟨z, hz, _⟩ => absurd hz (by simp))
theorem GoC.drawQ (p : Plan) (j0 : Nat) {id : Nat} {ops : List Oper} (hm : X.P.follows .mixedOrders = true) (hB : (Nat.blt j0 ops.length && (Region.noSelect ops.toArray && planOk ops.toArray p ops.toArray.size (Array.replicate ops.toArray.size false))) = true)
    (h : GoQ X fn R ops.toArray s.heap j0 p k s) : GoC X fn R (.region id ops.toArray true) k s :=
  ⟨fun I a w hs => by
    simp only [Bool.and_eq_true] at hB
    have hj : j0 < ops.length := blt_lt hB.1
    exact wp_region_any hm (wpAny_of_L _ _ _ _ (h.run I a w.drew w.drew _ _ hs.drew (fun _ _ => rfl) (fun b hb => (hs.own b hb).2.2) hB.2.1 hB.2.2 (by simp [hj]) (fun k o hk hl => by
      have hk' : k < ops.length := by
        rcases Nat.lt_or_ge k ops.length with c | c
        · exact c
        · simp [Array.getElem?_eq_none (show ops.toArray.size ≤ k by simpa using c)] at hk
      simp [hk'] at hl)))⟩
theorem GoQ.takeq {i : Nat} {o : Oper} [hk : KeepOk X.ds fn o.dst] (hi : all[i]? = some o) (hw : waits all j0 i = true) (h : GoQ X fn R all H0 j0 p k s')
    (hy : ∀ I a w wR, Sat X I s a w → SH I H0 wR w → ∃ v, YieldsIf X.P all (SH I H0 wR) o v a ∧ Sat X I s' (a.put o.dst v) w) : GoQ X fn R all H0 j0 (.q i p) k s :=
  ⟨fun I a w wR fuel listed hs hS hH hns hp hl hcl => by
    cases fuel with
    | zero => simp [planOk] at hp
    | succ f =>
      simp only [planOk, Bool.and_eq_true] at hp
      obtain ⟨v, h1, h2⟩ := hy I a w wR hs hS
      have hr : i ∈ Region.ready .any all listed := by simpa using hp.1.1
      refine wpAnyL_first hi hw (Region.noSelect_spec hns) (fun c a w hq => Kont_panic hq) f listed a w (Region.free_spec hi hp.1.2) (by simpa using hp.1.1) h1 hS hS.nil hl hcl (h.run I _ w wR f _ h2 hS hH hns hp.2 ?_ (hcl.set hr))
      rw [Go.getD_set_ne true (waits_spec hw).1]; exact hl⟩
section
variable {d : Option Tmp} {t : Tmp} {op : Op} {ty : TypeId} {pos : String} {aft : Array Edge} {gd : Option (Nat × Bool)} {i j g : Nat} {want : Bool}
theorem GoQ.qN [hk : KeepOk X.ds fn d] (hi : all[i]? = some ⟨d, op, ty, pos, aft, none⟩) (hw : waits all j0 i = true) (hp : PureStep X H0 ⟨d, op, ty, pos, aft, none⟩ s s') (h : GoQ X fn R all H0 j0 p k s') : GoQ X fn R all H0 j0 (.q i p) k s :=
  GoQ.takeq (hk := hk) hi hw h fun I a w wR hs hS => by
    obtain ⟨v, h1, h2⟩ := hp.yields hs hS
    exact ⟨v, .inl ⟨by simp [Region.wanted], h1⟩, h2⟩
/-- .. what no memory decides -/
theorem GoQ.qP [hk : KeepOk X.ds fn d] (hi : all[i]? = some ⟨d, op, ty, pos, aft, none⟩) (hij : (i != j0) = true) (hp : PureStep X [] ⟨d, op, ty, pos, aft, none⟩ s s') (h : GoQ X fn R all H0 j0 p k s') : GoQ X fn R all H0 j0 (.q i p) k s :=
  ⟨fun I a w wR fuel listed hs hS hH hns hp' hl hcl => by
    cases fuel with
    | zero => simp [planOk] at hp'
    | succ f =>
      have hne : i ≠ j0 := by simpa using hij
      simp only [planOk, Bool.and_eq_true] at hp'
      obtain ⟨v, h1, h2⟩ := hp.yields hs hS.nil
      refine wpAnyL_firstP hi hne (Region.noSelect_spec hns) (fun c a w hq => Kont_panic hq) f listed a w (Region.free_spec hi hp'.1.2) (by simpa using hp'.1.1) (.inl ⟨by simp [Region.wanted], h1⟩) ⟨fun _ => hS, hS.nil⟩ (h.run I _ w wR f _ h2 hS hH hns hp'.2 ?_ (hcl.set (by simpa using hp'.1.1)))
      rw [Go.getD_set_ne true hne]; exact hl⟩
/-- .. what writes elsewhere -/
theorem GoQ.one {o : Oper} {wr r : List HL} {next : St → Prop} (hi : all[i]? = some o) (hij : (i != j0) = true) (hg : Lets X all s o.guard) (he : Eff X o s wr next) (ht : Take s.heap (wr ++ H0) r) (h : ∀ s', next s' → GoQ X fn R all H0 j0 p k s') :
    GoQ X fn R all H0 j0 (.one i p) k s :=
  ⟨fun I a w wR fuel listed hs hS hH hns hp hl hcl => by
    cases fuel with
    | zero => simp [planOk] at hp
    | succ f =>
      have hne : i ≠ j0 := by simpa using hij
      simp only [planOk, Bool.and_eq_true, decide_eq_true_eq] at hp
      refine ⟨fun h0 => absurd (hp.1 ▸ h0) (by simp), fun i' hi' => ?_⟩
      have : i' = i := by rw [hp.1] at hi'; simpa using hi'
      subst this
      unfold wpOp
      simp only [hi, hg.wanted hs, if_true]
      refine .inl (Oper.wp_mono ?_ (he I a w hs _))
      rintro a' w' ⟨hsame, s', hn, hs'⟩
      have hp2 := ht.perm
      have hsep := (List.pairwise_append.1 (List.pairwise_append.1 (sep_perm hp2 hs.sep)).1).2.2
      have hwr : ∀ b, fps wr b → ¬ I b ∧ ¬ fps H0 b := fun b ⟨z, hz, hzb⟩ => ⟨(hs.own b ⟨z, hp2.mem_iff.2 (List.mem_append_left _ (List.mem_append_left _ hz)), hzb⟩).1, fun ⟨z', hz', hzb'⟩ => hsep z hz z' hz' b hzb hzb'⟩
      have hS' : SH I H0 wR w' := fun b hb => by
        refine (hsame.block b ?_ fun hh => ?_).trans (hS b hb)
        · rcases hb with hb | hb
          · exact (hs.imm b hb).1
          · exact hH b hb
        · rcases hb with hb | hb
          · exact (hwr b hh).1 hb
          · exact (hwr b hh).2 hb
      have hl' : (listed.setIfInBounds i' true).getD j0 true = false := by rw [Go.getD_set_ne true hne]; exact hl
      exact ⟨⟨fun _ => hS', hS'.nil⟩, (h s' hn).run I a' w' wR f _ hs' hS' (fun b hb => Nat.lt_of_lt_of_le (hH b hb) hsame.size) hns hp.2 hl' (hcl.set hi')⟩⟩
theorem GoQ.one1 {o : Oper} {wr r : List HL} (hi : all[i]? = some o) (hij : (i != j0) = true) (hg : Lets X all s o.guard) (he : Eff X o s wr (fun s2 => s2 = s')) (ht : Take s.heap (wr ++ H0) r) (h : GoQ X fn R all H0 j0 p k s') :
    GoQ X fn R all H0 j0 (.one i p) k s := GoQ.one hi hij hg he ht fun _ e => e ▸ h
theorem GoQ.oneB {o : Oper} {wr r : List HL} {F : BK → St} (hi : all[i]? = some o) (hij : (i != j0) = true) (hg : Lets X all s o.guard) (he : Eff X o s wr (fun s2 => ∃ β, s2 = F β)) (ht : Take s.heap (wr ++ H0) r) (h : ∀ β, GoQ X fn R all H0 j0 p k (F β)) :
    GoQ X fn R all H0 j0 (.one i p) k s := GoQ.one hi hij hg he ht fun _ ⟨β, e⟩ => e ▸ h β
theorem GoQ.oneC {o : Oper} {wr r : List HL} {post : D → List HL → Prop} {F : D → List HL → St} (hi : all[i]? = some o) (hij : (i != j0) = true) (hg : Lets X all s o.guard) (he : Eff X o s wr (fun s2 => ∃ r H', post r H' ∧ s2 = F r H')) (ht : Take s.heap (wr ++ H0) r)
    (h : ∀ r H', post r H' → GoQ X fn R all H0 j0 p k (F r H')) : GoQ X fn R all H0 j0 (.one i p) k s := GoQ.one hi hij hg he ht fun _ ⟨r, H', hp, e⟩ => e ▸ h r H' hp
theorem GoQ.le (hl : Le s s') (h : GoQ X fn R all H0 j0 p k s') : GoQ X fn R all H0 j0 p k s := ⟨fun I a w wR fuel listed hs => h.run I a w wR fuel listed (hl _ _ _ _ hs)⟩
/-- .. the operation that writes -/
theorem GoQ.last {o : Oper} {wr r : List HL} {next : St → Prop} (hi : all[j0]? = some o) (hg : Lets X all s o.guard) (he : Eff X o s wr next) (ht : Take s.heap wr r) (h : ∀ s', next s' → GoP X fn R all [] p k s') :
    GoQ X fn R all H0 j0 (.one j0 p) k s :=
  ⟨fun I a w wR fuel listed hs hS hH hns hp hl _ => by
    cases fuel with
    | zero => simp [planOk] at hp
    | succ f =>
      simp only [planOk, Bool.and_eq_true, decide_eq_true_eq] at hp
      refine ⟨fun h0 => absurd (hp.1 ▸ h0) (by simp), fun i' hi' => ?_⟩
      have : i' = j0 := by rw [hp.1] at hi'; simpa using hi'
      subst this
      have h1 := step_one (H0 := []) hi hg he (by simpa using ht) h hs hS.nil (fun b ⟨z, hz, _⟩ => absurd hz (by simp)) hns hp.2
      refine wpOp_mono (fun a' w' h' => ?_) h1
      have hl' : (listed.setIfInBounds i' true).getD i' true = true := by
        by_cases c : i' < listed.size
        · simp [c]
        · simp [c]
      exact ⟨⟨fun z => (by rw [hl'] at z; cases z), h'.1⟩, wpAnyL_of_H f _ a' w' hl' h'.2⟩⟩
theorem GoQ.last1 {o : Oper} {wr r : List HL} (hi : all[j0]? = some o) (hg : Lets X all s o.guard) (he : Eff X o s wr (fun s2 => s2 = s')) (ht : Take s.heap wr r) (h : GoP X fn R all [] p k s') :
    GoQ X fn R all H0 j0 (.one j0 p) k s := GoQ.last hi hg he ht fun _ e => e ▸ h
theorem GoQ.lastB {o : Oper} {wr r : List HL} {F : BK → St} (hi : all[j0]? = some o) (hg : Lets X all s o.guard) (he : Eff X o s wr (fun s2 => ∃ β, s2 = F β)) (ht : Take s.heap wr r) (h : ∀ β, GoP X fn R all [] p k (F β)) :
    GoQ X fn R all H0 j0 (.one j0 p) k s := GoQ.last hi hg he ht fun _ ⟨β, e⟩ => e ▸ h β
theorem GoQ.lastC {o : Oper} {wr r : List HL} {post : D → List HL → Prop} {F : D → List HL → St} (hi : all[j0]? = some o) (hg : Lets X all s o.guard) (he : Eff X o s wr (fun s2 => ∃ r H', post r H' ∧ s2 = F r H')) (ht : Take s.heap wr r)
    (h : ∀ r H', post r H' → GoP X fn R all [] p k (F r H')) : GoQ X fn R all H0 j0 (.one j0 p) k s := GoQ.last hi hg he ht fun _ ⟨r, H', hp, e⟩ => e ▸ h r H' hp
end
end
/-! ### rows of rows: what the outer row says is how long they are -/
theorem gridC_len {α : Type} [El α] {B : Nat → BK} {xs : List (List α)} : (gridC B xs).len = xs.length := rfl
theorem HLe.grid0Z {α : Type} [El α] {β : BK} {t : TypeId} {n : Nat} {g : Nat → Nat → D} (hd : ∀ e, DLe (g e 0) (.own ⟨0, 0, 0⟩ (El.size α) 0 0)) : HLe (.one β t 1 ⟨n, g⟩) (.one β t 1 (gridC (α := α) (fun _ => ⟨0, 0, 0⟩) (List.replicate n []))) :=
  HLe.c (by simp [gridC]) fun e he f hf => by
    have he' : e < n := by simpa [gridC] using he
    have hf0 : f = 0 := by omega
    subst hf0
    show DLe (g e 0) (.own ⟨0, 0, 0⟩ (El.size α) 0 ((List.replicate n ([] : List α)).getD e []).length)
    simpa [List.getD_eq_getElem?_getD, he'] using hd e
theorem HLe.gridL {α : Type} [El α] {β : BK} {t : TypeId} {B : Nat → BK} {xs ys : List (List α)} (h : ys.length = xs.length) (h2 : ∀ j, j < xs.length → (ys.getD j []).length = (xs.getD j []).length) : HLe (.one β t 1 (gridC B xs)) (.one β t 1 (gridC B ys)) :=
  HLe.c (by simp [gridC, h]) fun e he f hf => by
    have he' : e < xs.length := by simpa [gridC, h] using he
    show DLe (.own (B e) (El.size α) 0 (xs.getD e []).length) (.own (B e) (El.size α) 0 (ys.getD e []).length)
    rw [h2 e he']
    exact DLe.refl _
theorem grid_set_len {α : Type} {xs : List (List α)} {i e : Nat} {v : α} (j : Nat) : ((xs.set i ((xs.getD i []).set e v)).getD j []).length = (xs.getD j []).length := by
  by_cases h : i < xs.length
  · rw [List.getD_eq_getElem?_getD, List.getElem?_set]
    by_cases c : i = j
    · subst c
      simp [h, List.getD_eq_getElem?_getD]
    · simp [c, List.getD_eq_getElem?_getD]
  · rw [List.set_eq_of_length_le (by omega)]
theorem grid_ne {α : Type} {xs : List (List α)} {i j : Nat} (h : j ≠ i) : (xs.set i []).getD j [] = xs.getD j [] := by
  rw [List.getD_eq_getElem?_getD, List.getElem?_set, if_neg (fun z => h z.symm), ← List.getD_eq_getElem?_getD]
theorem HLe.gridW {α : Type} [El α] {β : BK} {t : TypeId} {B : Nat → BK} {xs : List (List α)} {i e : Nat} {v : α} : HLe (.one β t 1 (gridC B xs)) (.one β t 1 (gridC B (xs.set i ((xs.getD i []).set e v)))) :=
  HLe.gridL (by simp) fun j _ => grid_set_len j
/-- two rows change places -/
theorem HLe.gridX {α : Type} [El α] {te : TypeId} {B : Nat → BK} {xs : List (List α)} {i k : Nat} (hi : i < xs.length) (hk : k < xs.length) :
    HLe (gridH te B xs) (gridH te (updF (updF B i (B k)) k (B i)) ((xs.set i (xs.getD k [])).set k (xs.getD i []))) :=
  HLe.gridS (σ := fun j => if j = k then i else if j = i then k else j) (by simp) (fun j hj => by split <;> (try split) <;> omega) (fun j j' _ _ h => by
    split at h <;> split at h <;> (try split at h) <;> (try split at h) <;> omega) (fun j _ => by
    unfold updF
    by_cases c : j = k
    · simp [c]
    · by_cases c2 : j = i
      · subst c2; simp [c]
      · simp [c, c2]) fun j hj => by
    rw [getD_set _ _ _ _ _ (by simpa using hj), getD_set _ _ _ _ _ hj]
    by_cases c : j = k
    · simp [c]
    · by_cases c2 : j = i
      · subst c2; simp [c]
      · simp [c, c2]
/-! ### a row of rows that are data, but one -/
def rowO {α : Type} [El α] (xs : List α) (i : Nat) (d : D) : C := ⟨xs.length, fun e f => if e = i then d else El.enc (xs.getD e El.d) f⟩
theorem rowO_len {α : Type} [El α] {xs : List α} {i : Nat} {d : D} : (rowO xs i d).len = xs.length := rfl
theorem upd_rowO {α : Type} [El α] {xs : List (List α)} {i : Nat} {q : D} : Upd1 1 (row xs) i 0 q (rowO xs i q) :=
  ⟨rfl, fun e f he hf => by
    have hf0 : f = 0 := by omega
    subst hf0
    simp only [rowO]
    by_cases h : e = i
    · rw [if_pos h, if_pos ⟨h, trivial⟩]
    · rw [if_neg h, if_neg (fun z => h z.1)]; rfl⟩
theorem DLe.rowO {α : Type} [El α] {xs : List α} {i : Nat} {d : D} : DLe ((Sx.rowO xs i d).get i 0) d := by
  have : (Sx.rowO xs i d).get i 0 = d := if_pos rfl
  rw [this]
  exact DLe.refl _
theorem HLe.rowO {α : Type} [El α] {β : BK} {t : TypeId} {xs : List α} {i : Nat} {d d' : D} (h : DLe d d') : HLe (.one β t 1 (Sx.rowO xs i d)) (.one β t 1 (Sx.rowO xs i d')) :=
  HLe.c (show (Sx.rowO xs i d').len ≤ (Sx.rowO xs i d).len from Nat.le_refl _) fun e he f hf => by
    show DLe (if e = i then d else El.enc (xs.getD e El.d) f) (if e = i then d' else El.enc (xs.getD e El.d) f)
    by_cases c : e = i
    · rw [if_pos c, if_pos c]; exact h
    · rw [if_neg c, if_neg c]; exact DLe.refl _
theorem Lend.rowO {α : Type} [El α] {H H1 H2 : List HL} {βo β : BK} {to te : TypeId} {xs : List (List α)} {ys : List α} {i lo len size : Nat} (ho : At H (.one βo to 1 (Sx.rowO xs i (.own β size 0 len))) (.one βo to 1 (Sx.rowO xs i (.own β size 0 len))) H1)
    (hm : At H (.one β te size (row ys)) (.one β te size (row ys)) H2) (hs : size = El.size α) (hl : len = ys.length) (hlo : lo = xs.length) : Lend H (.own βo 1 0 lo) (slD (xs.set i ys)) := by
  subst hlo hs hl
  rintro I w v hok ⟨a, cap, rfl, h1, h2, h3, h4⟩
  refine ⟨a, cap, by simp, by simpa using h1, h2, fun h0 => ?_⟩
  have h0' : 0 < xs.length := by simpa using h0
  refine ⟨βo.b, βo.o + 0 * 1, h4 (by omega), .inr ⟨_, ho.mem, by have hb : BOk I w βo to 1 (Sx.rowO xs i (.own β (El.size α) 0 ys.length)) := hok _ ho.mem; have h5 := hb.1; have h6 : (Sx.rowO xs i (.own β (El.size α) 0 ys.length)).len = xs.length := rfl; omega, rfl⟩, fun e he f hf => ?_⟩
  have hb : BOk I w βo to 1 (Sx.rowO xs i (.own β (El.size α) 0 ys.length)) := hok _ ho.mem
  have hf0 : f = 0 := by have : f < 1 := hf; omega
  subst hf0
  have he' : e < xs.length := by simpa using he
  obtain ⟨u, hu, hone, hr⟩ := hb.cell (e := e) (f := 0) he' (by omega)
  refine ⟨u, ?_, hone, ?_⟩
  · rw [show βo.o + 0 * 1 + (e * El.size (List α) + 0) = βo.o + (e * 1 + 0) by rw [show El.size (List α) = 1 from rfl]; omega]; exact hu
  · show Rd (fun b => I b ∨ fps H b) w (slD ((xs.set i ys).getD e [])) u
    rw [getD_set _ _ _ _ _ he']
    have hg : (Sx.rowO xs i (.own β (El.size α) 0 ys.length)).get e 0 = if e = i then .own β (El.size α) 0 ys.length else slD (xs.getD e []) := rfl
    rw [hg] at hr
    by_cases c : e = i
    · rw [if_pos c] at hr ⊢
      exact Lend.of_bok (t := te) (c := row ys) (fun I w hok => hok _ hm.mem) (fun hp => ⟨_, hm.mem, hp, rfl⟩) rfl rfl I w u hok hr
    · rw [if_neg c] at hr ⊢
      exact Lend.refl _ _ I w u hok hr
/-! ### a result that is nil just if it is empty -/
def nilD (β : BK) (size len : Nat) : D := if len = 0 then .v (.slice none 0 0) else .own β size 0 len
theorem DLe.ofNil {β : BK} {size len : Nat} : DLe (nilD β size len) (.own β size 0 len) := by
  unfold nilD
  by_cases h : len = 0
  · subst h; rw [if_pos rfl]; exact DLe.nilOwn
  · rw [if_neg h]; exact DLe.refl _
theorem DLe.toNil {β : BK} {size len n : Nat} (h : 0 < n) (hl : len = n) : DLe (.own β size 0 len) (nilD β size n) := by
  subst hl
  unfold nilD
  rw [if_neg (by omega)]; exact DLe.refl _
instance {β : BK} {size len : Nat} : Indep (nilD β size len) := by
  unfold nilD
  by_cases h : len = 0
  · rw [if_pos h]; infer_instance
  · rw [if_neg h]; infer_instance
section
variable {X : Cx} {s : St} {d : Tmp} {ty : TypeId} {pos : String} {aft : Array Edge} {x y : Operand} {H0 : List HL}
theorem ps_neqNilD {β : BK} {size len : Nat} {e xt yt : TypeId} [ht : SlT X.P xt e] (hx : s.ev x = some (nilD β size len)) (hy : s.ev y = some (.v (.slice none 0 0))) (hd : Nat.blt d X.nt = true) :
    PureStep X H0 ⟨some d, .binOp .neq xt x y yt, ty, pos, aft, none⟩ s (s.put d (.v (.bool (decide (0 < len))))) :=
  ps_of hd fun _ a _ hs => by
    have e2 : a.eval y = .slice none 0 0 := hs.ev hy
    have h1 := hs.ev hx
    obtain ⟨ad, l, c, hv, hn⟩ : ∃ ad l c, a.eval x = .slice ad l c ∧ ad.isNone = decide (len = 0) := by
      unfold nilD at h1
      by_cases h : len = 0
      · rw [if_pos h] at h1
        exact ⟨none, 0, 0, h1, by simp [h]⟩
      · rw [if_neg h] at h1
        obtain ⟨ad, cap, h6, h2, h3, h4, h5⟩ := h1
        exact ⟨_, _, _, h6, by rw [h5 (by omega)]; simp [h]⟩
    refine ⟨.bool (decide (0 < len)), fun w' _ => ?_, rfl⟩
    have e4 : (eqGuard .neq xt x y (.slice ad l c) (.slice none 0 0)).run X.P w' = .ok () w' := rfl
    have h := run_equal_slice_nil (P := X.P) w' xt e ad l c ht.h
    have e5 : decide (0 < len) = !ad.isNone := by rw [hn]; by_cases h : len = 0 <;> simp [h] <;> omega
    rw [e5]
    simp only [execOp, hv, e2, Sem.run_bind, e4, Result.andThen_ok, binOp, h, Sem.run_pure]
end
/-! ### a call that makes memory immutable, while others are still to come -/
def EffG (X : Cx) (o : Oper) (s : St) (wr : List HL) (next : St → Prop) : Prop :=
  ∀ I a w, Sat X I s a w → ∀ Q, o.wp X.P a w (fun a' w' => Same w w' (fps wr) ∧ ∃ s', next s' ∧ ∃ I', (∀ b, I b → I' b) ∧ Sat X I' s' a' w') Q
theorem Eff.g {X : Cx} {o : Oper} {s : St} {wr : List HL} {next : St → Prop} (h : Eff X o s wr next) : EffG X o s wr next := fun I a w hs Q =>
  Oper.wp_mono (fun a' w' ⟨h1, s', h2, h3⟩ => ⟨h1, s', h2, I, fun _ h => h, h3⟩) (h I a w hs Q)
theorem wpAnyH_weak {P : Program} {ops : Array Oper} {Q : Exit → Act → World → Prop} {S S' : World → Prop} (h : ∀ w, S' w → S w) : ∀ (fuel : Nat) (listed : Array Bool) (a : Act) (w : World), wpAnyH P .any ops Q S' fuel listed a w → wpAnyH P .any ops Q S fuel listed a w
  | 0, _, _, _, hh => hh
  | fuel + 1, _, _, _, hh => ⟨hh.1, fun i hi => wpOp_mono (fun a' w' h' => ⟨h _ h'.1, wpAnyH_weak h fuel _ a' w' h'.2⟩) (hh.2 i hi)⟩
section
variable {X : Cx} {fn : Func} {R : Ending → World → Prop} {k : List It} {s s' : St} {all : Array Oper} {H0 : List HL} {p p1 p2 : Plan} {i j : Nat}
theorem step_oneG {o : Oper} {wr r : List HL} {next : St → Prop} (hi : all[i]? = some o) (hg : Lets X all s o.guard) (he : EffG X o s wr next) (ht : Take s.heap (wr ++ H0) r) (h : ∀ s', next s' → GoP X fn R all H0 p k s')
    {I : Nat → Prop} {a : Act} {w wR : World} {f : Nat} {listed : Array Bool} (hs : Sat X I s a w) (hS : SH I H0 wR w) (hH : ∀ b, fps H0 b → b < w.heap.size) (hns : Region.noSelect all = true)
    (hp : planOk all p f listed = true) : wpOp X.P all (Kont X fn R k) i (fun a' w' => SH I H0 wR w' ∧ wpAnyH X.P .any all (Kont X fn R k) (SH I H0 wR) f listed a' w') a w := by
  unfold wpOp
  simp only [hi, hg.wanted hs, if_true]
  refine .inl (Oper.wp_mono ?_ (he I a w hs _))
  rintro a' w' ⟨hsame, s', hn, I', hII, hs'⟩
  have hp2 := ht.perm
  have hsep := (List.pairwise_append.1 (List.pairwise_append.1 (sep_perm hp2 hs.sep)).1).2.2
  have hwr : ∀ b, fps wr b → ¬ I b ∧ ¬ fps H0 b := fun b ⟨z, hz, hzb⟩ => ⟨(hs.own b ⟨z, hp2.mem_iff.2 (List.mem_append_left _ (List.mem_append_left _ hz)), hzb⟩).1, fun ⟨z', hz', hzb'⟩ => hsep z hz z' hz' b hzb hzb'⟩
  have hS' : SH I H0 wR w' := fun b hb => by
    refine (hsame.block b ?_ fun hh => ?_).trans (hS b hb)
    · rcases hb with hb | hb
      · exact (hs.imm b hb).1
      · exact hH b hb
    · rcases hb with hb | hb
      · exact (hwr b hh).1 hb
      · exact (hwr b hh).2 hb
  refine ⟨hS', wpAnyH_weak (S' := SH I' H0 w') (fun v hv b hb => ?_) f listed a' w' ((h s' hn).run I' a' w' w' f listed hs' (fun _ _ => rfl) (fun b hb => Nat.lt_of_lt_of_le (hH b hb) hsame.size) hns hp)⟩
  exact (hv b (hb.imp (hII b) id)).trans (hS' b hb)
theorem GoP.oneG {o : Oper} {wr r : List HL} {next : St → Prop} (hi : all[i]? = some o) (hg : Lets X all s o.guard) (he : EffG X o s wr next) (ht : Take s.heap (wr ++ H0) r) (h : ∀ s', next s' → GoP X fn R all H0 p k s') :
    GoP X fn R all H0 (.one i p) k s :=
  ⟨fun I a w wR fuel listed hs hS hH hns hp => by
    cases fuel with
    | zero => simp [planOk] at hp
    | succ f =>
      simp only [planOk, Bool.and_eq_true, decide_eq_true_eq] at hp
      refine wpAnyH_all hp.1 (by simp) fun i' hi' => ?_
      have : i' = i := by simpa using hi'
      subst this
      exact step_oneG hi hg he ht h hs hS hH hns hp.2⟩
theorem GoP.oneCG {o : Oper} {wr r : List HL} {post : D → List HL → Prop} {F : D → List HL → St} (hi : all[i]? = some o) (hg : Lets X all s o.guard) (he : EffG X o s wr (fun s2 => ∃ r H', post r H' ∧ s2 = F r H')) (ht : Take s.heap (wr ++ H0) r)
    (h : ∀ r H', post r H' → GoP X fn R all H0 p k (F r H')) : GoP X fn R all H0 (.one i p) k s := GoP.oneG hi hg he ht fun _ ⟨r, H', hp, e⟩ => e ▸ h r H' hp
theorem GoP.twoG {o1 o2 : Oper} {wr1 wr2 r1 r2 : List HL} {next1 next2 : St → Prop} (hi1 : all[i]? = some o1) (hi2 : all[j]? = some o2) (hg1 : Lets X all s o1.guard) (hg2 : Lets X all s o2.guard)
    (he1 : EffG X o1 s wr1 next1) (he2 : EffG X o2 s wr2 next2) (ht1 : Take s.heap (wr1 ++ H0) r1) (ht2 : Take s.heap (wr2 ++ H0) r2) (h1 : ∀ s', next1 s' → GoP X fn R all H0 p1 k s') (h2 : ∀ s', next2 s' → GoP X fn R all H0 p2 k s') :
    GoP X fn R all H0 (.two i j p1 p2) k s :=
  ⟨fun I a w wR fuel listed hs hS hH hns hp => by
    cases fuel with
    | zero => simp [planOk] at hp
    | succ f =>
      simp only [planOk, Bool.and_eq_true, decide_eq_true_eq] at hp
      refine wpAnyH_all hp.1.1 (by simp) fun i' hi' => ?_
      rcases List.mem_cons.1 hi' with rfl | hi'
      · exact step_oneG hi1 hg1 he1 ht1 h1 hs hS hH hns hp.1.2
      · have : i' = j := by simpa using hi'
        subst this
        exact step_oneG hi2 hg2 he2 ht2 h2 hs hS hH hns hp.2⟩
theorem GoP.forkG2 (F : BK → BK → St) {o1 o2 : Oper} {wr1 wr2 r1 r2 : List HL} {next1 next2 : St → Prop} (hi1 : all[i]? = some o1) (hi2 : all[j]? = some o2) (hg1 : Lets X all s o1.guard) (hg2 : Lets X all s o2.guard)
    (he1 : EffG X o1 s wr1 next1) (he2 : EffG X o2 s wr2 next2) (ht1 : Take s.heap (wr1 ++ H0) r1) (ht2 : Take s.heap (wr2 ++ H0) r2) (h1 : (∀ β γ, GoK X fn R k (F β γ)) → ∀ s', next1 s' → GoP X fn R all H0 p1 k s') (h2 : (∀ β γ, GoK X fn R k (F β γ)) → ∀ s', next2 s' → GoP X fn R all H0 p2 k s') (hQ : ∀ β γ, GoK X fn R k (F β γ)) :
    GoP X fn R all H0 (.two i j p1 p2) k s := GoP.twoG hi1 hi2 hg1 hg2 he1 he2 ht1 ht2 (h1 hQ) (h2 hQ)
theorem ef_callK {d : Tmp} {ty : TypeId} {pos : String} {aft : Array Edge} {gd : Option (Nat × Bool)} {f : FuncId} [hf : FnT X.P f] {xs : List Operand} {ats : Array TypeId} {ds ds' : List D} {Hin rest L rest' : List HL} {post : D → List HL → Prop}
    (hx : evL s xs = some ds) (ht : Take s.heap Hin rest) (hL : Take rest L rest') (spec : Does X.P f ds' Hin post) (hl : LendL L ds ds') (hd : Nat.blt d X.nt = true) (hm : ∀ b, fps L b → ¬ X.may b) :
    EffG X ⟨some d, .call { callee := .value (.func f), args := xs.toArray, argTypes := ats }, ty, pos, aft, gd⟩ s Hin (fun s2 => ∃ r H', post r H' ∧ s2 = ⟨(d, r) :: s.env, H' ++ rest'⟩) := fun I a w hs Q =>
  Oper.wp_mono (fun a' w' ⟨h1, s2, h2, I', h3, h4⟩ => ⟨h1, s2, h2, I', h3.2, h4⟩) (ef_callH true (fun I a w hs => ⟨xs.map a.eval, by simp [execOp, resolve, Act.eval, Deferred.ofValue, invoke, hf.run], hs.evL hx⟩) ht hL spec hl hd hm I a w hs Q)
end
end Go.Proofs.Ytgkcmjmofcekmaa.Sx
