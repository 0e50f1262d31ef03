import Derived.Test.YtkfmphlnpmemdaaQCoH
set_option linter.unusedVariables false
set_option linter.unusedSimpArgs false
namespace Go.Proofs.Ytkfmphlnpmemdaa.Sx
open Go Go.Conc
section
variable {P : Program} {main : Mn} {Im : Nat → Prop} {ops : Array Oper} {Q : PostO} {md : Region.Mode} {S : Array Bool → World → (Nat → Prop) → Prop}
theorem anyO_rely (hSR : ∀ L w w₁ O, S L w O → Rely Im O w w₁ → S L w₁ O) (hQR : ∀ a w w₁ O, Q .normal a w O → Rely Im O w w₁ → Q .normal a w₁ O) :
    ∀ (fuel : Nat) (listed : Array Bool) (a : Act) (w w₁ : World) (O : Nat → Prop), anyO P main Im md ops Q S fuel listed a w O → Rely Im O w w₁ → anyO P main Im md ops Q S fuel listed a w₁ O
  | 0, _, _, _, _, _, h, r => ⟨h.1, hQR _ _ _ _ h.2 r⟩
  | fuel + 1, listed, a, w, w₁, O, h, r => ⟨fun e => hQR _ _ _ _ (h.1 e) r, fun i hi => by
      have := h.2 i hi
      unfold opiO at *
      split
      · simp_all
      · rename_i o ho
        simp only [ho] at this
        split
        · rename_i hw; simp only [hw, if_true] at this; exact opO_rely this r
        · rename_i hw; simp only [hw] at this; exact ⟨hSR _ _ _ _ this.1 r, anyO_rely hSR hQR fuel _ _ _ _ _ this.2 r⟩⟩
def YieldsO (P : Program) (Im : Nat → Prop) (ops : Array Oper) (T : World → (Nat → Prop) → Prop) (o : Oper) (v : Value) (a : Act) : Prop :=
  (Region.wanted o (yielded ops a.tmps) = true ∧ ∀ w O, T w O → (execOp a.eval o).run P w = .ok (.value v) w ∧ ∀ e ∈ (execOp a.eval o).events P w #[], EvOk Im O e) ∨
  (Region.wanted o (yielded ops a.tmps) = false ∧ v = undef)
theorem YieldsO.of_same {T : World → (Nat → Prop) → Prop} {o : Oper} {v : Value} {a a' : Act} (hy : YieldsO P Im ops T o v a) (he : execOp a'.eval o = execOp a.eval o)
    (hw : Region.wanted o (yielded ops a'.tmps) = Region.wanted o (yielded ops a.tmps)) : YieldsO P Im ops T o v a' := by
  unfold YieldsO at *
  rw [he, hw]
  exact hy
theorem YieldsO.op {T : World → (Nat → Prop) → Prop} (hTR : ∀ w w₁ O, T w O → Rely Im O w w₁ → T w₁ O) {i : Nat} {o : Oper} {v : Value} {a : Act} (hi : ops[i]? = some o) (hy : YieldsO P Im ops T o v a)
    {K : Act → World → (Nat → Prop) → Prop} (hK : ∀ a w w₁ O, K a w O → Rely Im O w w₁ → K a w₁ O) {w : World} {O : Nat → Prop} (hT : T w O) (h : K (a.put o.dst v) w O) : opiO P main Im ops i K a w O := by
  unfold opiO
  simp only [hi]
  rcases hy with ⟨hw, hv⟩ | ⟨hw, rfl⟩
  · simp only [hw, if_true]
    intro w₁ h₁
    obtain ⟨k1, k2⟩ := hv w₁ O (hTR _ _ _ hT h₁)
    rw [k1]
    have hid := Guar.idle Im O w₁
    refine ⟨⟨hid.os, hid.tape, hid.output, hid.size, hid.block, fun e he => (k2 e he).mono fun b hb => .inl hb⟩, ?_⟩
    rw [grow_self]
    exact hK _ _ _ _ h h₁
  · simp only [hw, Bool.false_eq_true, if_false]; exact h
theorem opiO_putIf {T : World → (Nat → Prop) → Prop} {j : Nat} {oi oj : Oper} {v : Value} (hj : ops[j]? = some oj) (hap : oi.apart ops oj = true)
    (hsi : ∀ cs b, oi.op ≠ .select cs b) (hsj : ∀ cs b, oj.op ≠ .select cs b) {K : Act → World → (Nat → Prop) → Prop} {a : Act} {w : World} {O : Nat → Prop}
    (hy : YieldsO P Im ops T oi v a) (h : opiO P main Im ops j K (a.put oi.dst v) w O) :
    opiO P main Im ops j (fun a' w' O' => YieldsO P Im ops T oi v a' ∧ K (a'.put oi.dst v) w' O') a w O := by
  obtain ⟨h1, h2, h3⟩ := Oper.apart_spec hap
  have keep : ∀ (a : Act), YieldsO P Im ops T oi v a → ∀ u, YieldsO P Im ops T oi v (a.put oj.dst u) := fun a hy u =>
    hy.of_same (execOp_put oi hsi a oj.dst u h3) (wanted_put oi a oj.dst u h3)
  unfold opiO at *
  simp only [hj] at *
  rw [wanted_put oj a oi.dst v h1] at h
  split
  · rename_i hw
    simp only [hw, if_true] at h
    intro w₁ h₁
    have h := h w₁ h₁
    rw [execOp_put oj hsj a oi.dst v h1] at h
    generalize (execOp a.eval oj).run P w₁ = r at *
    cases r with
    | ok n w' =>
      cases n <;> simp only [uponO] at h ⊢
      case value u => exact ⟨h.1, keep a hy u, by rw [← Act.put_comm a v u h2]; exact h.2⟩
      case skip => exact ⟨h.1, keep a hy _, by rw [← Act.put_comm a v undef h2]; exact h.2⟩
      case enter f args => exact ⟨h.1, h.2.1, h.2.2.mono fun u w'' O'' q => ⟨keep a hy u, by rw [← Act.put_comm a v u h2]; exact q⟩⟩
    | halt x w' => simp only [uponO] at h
  · rename_i hw
    simp only [hw] at h
    exact ⟨keep a hy _, by rw [← Act.put_comm a v undef h2]; exact h⟩
theorem anyO_first {T : World → (Nat → Prop) → Prop} {Inv : Array Bool → Prop} (hTR : ∀ w w₁ O, T w O → Rely Im O w w₁ → T w₁ O) (hSR : ∀ L w w₁ O, S L w O → Rely Im O w w₁ → S L w₁ O) (hQR : ∀ a w w₁ O, Q .normal a w O → Rely Im O w w₁ → Q .normal a w₁ O)
    {i : Nat} {oi : Oper} {v : Value} (hi : ops[i]? = some oi) (hsel : ∀ (j : Nat) (o : Oper) cs b, ops[j]? = some o → o.op ≠ .select cs b)
    (hS1 : ∀ L w O, Inv L → S L w O → S (L.setIfInBounds i true) w O) (hS2 : ∀ L w O, Inv L → S (L.setIfInBounds i true) w O → S L w O) (hST : ∀ L w O, Inv L → S L w O → T w O)
    (hinv : ∀ L j, Inv L → i ∈ Region.ready md ops L → j ∈ Region.ready md ops L → j ≠ i → Inv (L.setIfInBounds j true)) :
    ∀ (fuel : Nat) (listed : Array Bool) (a : Act) (w : World) (O : Nat → Prop),
      (∀ j oj, ops[j]? = some oj → j ≠ i → listed.getD j true = false → (∀ e ∈ oj.after, Region.binds md e = true → e.on ≠ i) → oi.apart ops oj = true) →
      i ∈ Region.ready md ops listed → YieldsO P Im ops T oi v a → Inv listed → S listed w O →
      anyO P main Im md ops Q S fuel (listed.setIfInBounds i true) (a.put oi.dst v) w O → anyO P main Im md ops Q S (fuel + 1) listed a w O := by
  have hK : ∀ fuel L, ∀ a w w₁ O, (S L w O ∧ anyO P main Im md ops Q S fuel L a w O) → Rely Im O w w₁ → (S L w₁ O ∧ anyO P main Im md ops Q S fuel L a w₁ O) :=
    fun fuel L a w w₁ O h r => ⟨hSR _ _ _ _ h.1 r, anyO_rely hSR hQR fuel L a w w₁ O h.2 r⟩
  intro fuel
  induction fuel with
  | zero =>
    intro listed a w O _ hr hy hI hS H
    refine ⟨fun h => (by rw [h] at hr; cases hr), fun j hj => ?_⟩
    by_cases hji : j = i
    · subst hji; exact hy.op hTR hi (hK _ _) (hST _ _ _ hI hS) ⟨hS1 _ _ _ hI hS, H⟩
    · have := ready_mono hj hji
      rw [H.1] at this
      cases this
  | succ fuel ih =>
    intro listed a w O hfree hr hy hI hS H
    refine ⟨fun h => (by rw [h] at hr; cases hr), fun j hj => ?_⟩
    by_cases hji : j = i
    · subst hji; exact hy.op hTR hi (hK _ _) (hST _ _ _ hI hS) ⟨hS1 _ _ _ hI hS, H⟩
    · have h1 := H.2 j (ready_mono hj hji)
      obtain ⟨hjun, oj, hoj, hall⟩ := mem_ready.1 hj
      have hnot : ∀ e ∈ oj.after, Region.binds md e = true → e.on ≠ i := fun e he hb heq => by
        have h1 := hall e he hb
        have h0 := (mem_ready.1 hr).1
        rw [heq] at h1
        rcases Nat.lt_or_ge i listed.size with h' | h'
        · simp [h'] at h0 h1; rw [h0] at h1; cases h1
        · simp [Array.getElem?_eq_none h'] at h1
      have h2 := opiO_putIf hoj (hfree j oj hoj hji hjun hnot) (fun cs b => hsel i oi cs b hi) (fun cs b => hsel j oj cs b hoj) hy h1
      have hfree' : ∀ k ok, ops[k]? = some ok → k ≠ i → (listed.setIfInBounds j true).getD k true = false →
          (∀ e ∈ ok.after, Region.binds md e = true → e.on ≠ i) → oi.apart ops ok = true := fun k ok hk hki hun hno => by
        refine hfree k ok hk hki ?_ hno
        by_cases hjk : j = k
        · subst hjk; exact hjun
        · rw [getD_set_ne true hjk] at hun; exact hun
      have hI' := hinv _ _ hI hr hj hji
      refine opiO_mono (fun a' w' O' h3 => ?_) h2
      have hS' : S (listed.setIfInBounds j true) w' O' := hS2 _ _ _ hI' (by rw [Array.setIfInBounds_comm _ _ hji]; exact h3.2.1)
      refine ⟨hS', ih (listed.setIfInBounds j true) a' w' O' hfree' (ready_mono hr (Ne.symm hji)) h3.1 hI' hS' ?_⟩
      rw [Array.setIfInBounds_comm _ _ hji]
      exact h3.2.2
end
namespace Y
theorem Kont_rely {Y : Cy} {fn : Func} {R : Value → World → (Nat → Prop) → Prop} : ∀ {k : List It} {a : Act} {w w₁ : World} {O : Nat → Prop}, Kont Y fn R k .normal a w O → Rely Y.Im O w w₁ → Kont Y fn R k .normal a w₁ O
  | [], _, _, _, _, h, r => ⟨h.1, fun w₂ h₂ => h.2 w₂ (r.trans h₂)⟩
  | .code c :: k, _, _, _, _, h, r => wpO_rely h r
  | .blk id :: k, _, _, _, _, h, r => Kont_rely (k := k) h r
  | .again J :: k, _, _, _, _, ⟨s, I, hj, hs⟩, r => ⟨s, I, hj, hs.rely r⟩
end Y
theorem SatY.here {Y : Cy} {I I' : Nat → Prop} {s s' : St} {a a' : Act} {w : World} {O : Nat → Prop} (h : SatY Y I s a w O) (hs : Sat (Cx.here Y.P Y.nt I s w h.tab) I' s' a' w) : SatY Y I' s' a' w O := by
  have := h.step hs
  rwa [grow_self] at this
namespace Y
def SHO (Y : Cy) (I : Nat → Prop) (H0 : List HL) (wR : World) (w' : World) (O' : Nat → Prop) : Prop := ∀ b, (I b ∨ fps H0 b) → w'.heap[b]? = wR.heap[b]? ∧ b < w'.heap.size ∧ (Y.Im b ∨ O' b)
theorem SHO.rely {Y : Cy} {I : Nat → Prop} {H0 : List HL} {wR w w₁ : World} {O : Nat → Prop} (h : SHO Y I H0 wR w O) (r : Rely Y.Im O w w₁) : SHO Y I H0 wR w₁ O := fun b hb => by
  obtain ⟨h1, h2, h3⟩ := h b hb
  exact ⟨(r.block b h2 h3).trans h1, Nat.lt_of_lt_of_le h2 r.size, h3⟩
theorem SHO.nil {Y : Cy} {I : Nat → Prop} {H0 : List HL} {wR w : World} {O : Nat → Prop} (h : SHO Y I H0 wR w O) : SHO Y I [] wR w O := fun b hb => h b (hb.imp id fun ⟨z, hz, _⟩ => absurd hz (by simp))
theorem SHO.begin {Y : Cy} {I : Nat → Prop} {s : St} {a : Act} {w : World} {O : Nat → Prop} (hs : SatY Y I s a w O) {H0 r : List HL} (ht : Take s.heap H0 r) : SHO Y I H0 w w O := fun b hb => by
  rcases hb with hb | ⟨z, hz, hzb⟩
  · exact ⟨rfl, (hs.tab.2 b hb).1, hs.imO hb⟩
  · have hf : fps s.heap b := ⟨z, ht.perm.mem_iff.2 (List.mem_append_left _ hz), hzb⟩
    exact ⟨rfl, (hs.core.own b hf).2.2, .inr (hs.own b hf).1⟩
def Lets (Y : Cy) (all : Array Oper) (s : St) : Option (Nat × Bool) → Prop
  | none => True
  | some (j, want) => ∃ g, gslot all j = some g ∧ Nat.blt g Y.nt = true ∧ look s.env g = some (.v (.bool want))
structure GoP (Y : Cy) (fn : Func) (R : Value → World → (Nat → Prop) → Prop) (all : Array Oper) (H0 : List HL) (p : Plan) (k : List It) (s : St) : Prop where
  run : ∀ I a w O wR fuel listed, SatY Y I s a w O → SHO Y I H0 wR w O → Region.noSelect all = true → planOk all p fuel listed = true →
    anyO Y.P Y.main Y.Im .any all (Kont Y fn R k) (fun _ => SHO Y I H0 wR) fuel listed a w O
section
variable {Y : Cy} {fn : Func} {R : Value → World → (Nat → Prop) → Prop} {k : List It} {s s' : St} {all : Array Oper} {H0 : List HL} {p p1 p2 : Plan}
theorem Lets.wanted {o : Oper} (h : Lets Y all s o.guard) {I : Nat → Prop} {a : Act} {w : World} {O : Nat → Prop} (hs : SatY Y I s a w O) : Region.wanted o (yielded all a.tmps) = true := by
  unfold Region.wanted
  cases hg : o.guard with
  | none => rfl
  | some x =>
    obtain ⟨j, want⟩ := x
    rw [hg] at h
    obtain ⟨g, hj, hgl, hb⟩ := h
    have hy := hs.core.yielded hj hgl hb
    simp [hy, boolOf]
theorem GoC.drawP (p : Plan) (L : List (Nat × TypeId × Nat × C)) {id : Nat} {ops : List Oper} {r : List HL} (hm : Y.P.follows .mixedOrders = true) (hB : (Region.noSelect ops.toArray && planOk ops.toArray p ops.toArray.size (Array.replicate ops.toArray.size false)) = true)
    (ht : Take s.heap (rowsOf s L) r) (h : GoP Y fn R ops.toArray (rowsOf s L) p k s) : GoC Y fn R (.region id ops.toArray true) k s :=
  ⟨fun I a w O hs => wpO_region_any (S := fun _ => SHO Y I (rowsOf s L) w) hm fun w₁ h₁ => by
    simp only [Bool.and_eq_true] at hB
    have hs1 := (hs.rely h₁).drew
    exact h.run I a _ O w _ _ hs1 (((SHO.begin hs ht).rely h₁).rely (Rely.drew _ _ _ _)) hB.1 hB.2⟩
theorem GoC.drawA (p : Plan) {id : Nat} {ops : List Oper} (hm : Y.P.follows .mixedOrders = true) (hB : (Region.noSelect ops.toArray && planOk ops.toArray p ops.toArray.size (Array.replicate ops.toArray.size false)) = true)
    (h : GoP Y fn R ops.toArray s.heap p k s) : GoC Y fn R (.region id ops.toArray true) k s :=
  ⟨fun I a w O hs => wpO_region_any (S := fun _ => SHO Y I s.heap w) hm fun w₁ h₁ => by
    simp only [Bool.and_eq_true] at hB
    have hs1 := (hs.rely h₁).drew
    have hb : SHO Y I s.heap w w O := fun b hb => by
      rcases hb with hb | hb
      · exact ⟨rfl, (hs.tab.2 b hb).1, hs.imO hb⟩
      · exact ⟨rfl, (hs.core.own b hb).2.2, .inr (hs.own b hb).1⟩
    exact h.run I a _ O w _ _ hs1 ((hb.rely h₁).rely (Rely.drew _ _ _ _)) hB.1 hB.2⟩
theorem GoP.done (h : GoK Y fn R k s) : GoP Y fn R all H0 .done k s :=
  ⟨fun I a w O wR fuel listed hs _ _ hp => by
    have hr : Region.ready .any all listed = [] := by simpa [planOk] using hp
    cases fuel with
    | zero => exact ⟨hr, h.run I a w O hs⟩
    | succ f => exact ⟨fun _ => h.run I a w O hs, fun i hi => by rw [hr] at hi; cases hi⟩⟩
theorem GoP.leD (hl : Le s s') (h : GoP Y fn R all H0 p k s') : GoP Y fn R all H0 p k s := ⟨fun I a w O wR fuel listed hs => h.run I a w O wR fuel listed (hs.le hl)⟩
theorem GoP.decide {b : Bool} (g : Nat) (hb : look s.env g = some (.v (.bool b))) (h1 : b = true → GoP Y fn R all H0 p k (s.put g (.v (.bool true)))) (h2 : b = false → GoP Y fn R all H0 p k (s.put g (.v (.bool false)))) : GoP Y fn R all H0 p k s :=
  ⟨fun I a w O wR fuel listed hs => by
    cases hbb : b with
    | true => exact (h1 hbb).run I a w O wR fuel listed (hs.here (hs.core.reput hb (by rw [hbb])))
    | false => exact (h2 hbb).run I a w O wR fuel listed (hs.here (hs.core.reput hb (by rw [hbb])))⟩
theorem GoP.decideD {q : Prop} [Decidable q] (g : Nat) (hb : look s.env g = some (.v (.bool (Decidable.decide q)))) (h1 : q → GoP Y fn R all H0 p k (s.put g (.v (.bool true)))) (h2 : ¬ q → GoP Y fn R all H0 p k (s.put g (.v (.bool false)))) : GoP Y fn R all H0 p k s :=
  GoP.decide g hb (fun h => h1 (of_decide_eq_true h)) (fun h => h2 (of_decide_eq_false h))
section
variable {d : Option Tmp} {t : Tmp} {op : Op} {ty : TypeId} {pos : String} {aft : Array Edge} {i j g : Nat} {want : Bool}
theorem GoP.takeq {o : Oper} (hi : all[i]? = some o) (h : GoP Y fn R all H0 p k s')
    (hy : ∀ I a w O wR, SatY Y I s a w O → SHO Y I H0 wR w O → ∃ v, YieldsO Y.P Y.Im all (SHO Y I H0 wR) o v a ∧ SatY Y I s' (a.put o.dst v) w O) : GoP Y fn R all H0 (.q i p) k s :=
  ⟨fun I a w O wR fuel listed hs hS hns hp => by
    cases fuel with
    | zero => simp [planOk] at hp
    | succ f =>
      simp only [planOk, Bool.and_eq_true] at hp
      obtain ⟨v, h1, h2⟩ := hy I a w O wR hs hS
      exact anyO_first (T := SHO Y I H0 wR) (Inv := fun _ => True) (fun _ _ _ h r => h.rely r) (fun _ _ _ _ h r => h.rely r) (fun _ _ _ _ h r => Kont_rely h r) hi (Region.noSelect_spec hns)
        (fun _ _ _ _ h => h) (fun _ _ _ _ h => h) (fun _ _ _ _ h => h) (fun _ _ _ _ _ _ => trivial) f listed a w O (Region.free_spec hi hp.1.2) (by simpa using hp.1.1) h1 trivial hS (h.run I _ w O wR f _ h2 hS hns hp.2)⟩
theorem yieldsE {o : Oper} (hp : ∀ {w : World} {I : Nat → Prop} {tb : Tb Y.P I s w}, PureE ⟨Y.P, Y.nt, w, fps s.heap, I, [], tb⟩ H0 o s s') {I : Nat → Prop} {a : Act} {w wR : World} {O : Nat → Prop} (hs : SatY Y I s a w O) (hS : SHO Y I H0 wR w O) :
    ∃ v, (∀ w' O', SHO Y I H0 wR w' O' → (execOp a.eval o).run Y.P w' = .ok (.value v) w' ∧ ∀ e ∈ (execOp a.eval o).events Y.P w' #[], EvOk Y.Im O' e) ∧ SatY Y I s' (a.put o.dst v) w O := by
  obtain ⟨hp1, hp2⟩ := @hp w I hs.tab
  obtain ⟨v, h1, h2⟩ := hp1 I a w hs.core
  refine ⟨v, fun w' O' hw' => ?_, hs.here h2⟩
  have ha : ∀ b, (I b ∨ fps H0 b) → w'.heap[b]? = w.heap[b]? := fun b hb => (hw' b hb).1.trans (hS b hb).1.symm
  refine ⟨h1 w' ha, fun e he => ?_⟩
  obtain ⟨ad, k1, k2, k3⟩ := hp2 I a w hs.core w' ha e he
  unfold EvOk
  rw [k1]
  exact (hw' _ k3).2.2.elim (fun h => .inr ⟨k2, h⟩) .inl
theorem GoP.qN (hi : all[i]? = some ⟨d, op, ty, pos, aft, none⟩) (hp : ∀ {w : World} {I : Nat → Prop} {tb : Tb Y.P I s w}, PureE ⟨Y.P, Y.nt, w, fps s.heap, I, [], tb⟩ H0 ⟨d, op, ty, pos, aft, none⟩ s s') (h : GoP Y fn R all H0 p k s') : GoP Y fn R all H0 (.q i p) k s :=
  GoP.takeq hi h fun I a w O wR hs hS => by
    obtain ⟨v, h1, h2⟩ := yieldsE (fun {w I tb} => @hp w I tb) hs hS
    exact ⟨v, .inl ⟨by simp [Region.wanted], h1⟩, h2⟩
theorem GoP.qT (hi : all[i]? = some ⟨d, op, ty, pos, aft, some (j, want)⟩) (hj : gslot all j = some g) (hg : Nat.blt g Y.nt = true) (hb : look s.env g = some (.v (.bool want)))
    (hp : ∀ {w : World} {I : Nat → Prop} {tb : Tb Y.P I s w}, PureE ⟨Y.P, Y.nt, w, fps s.heap, I, [], tb⟩ H0 ⟨d, op, ty, pos, aft, none⟩ s s') (h : GoP Y fn R all H0 p k s') : GoP Y fn R all H0 (.q i p) k s :=
  GoP.takeq hi h fun I a w O wR hs hS => by
    obtain ⟨v, h1, h2⟩ := yieldsE (fun {w I tb} => @hp w I tb) hs hS
    refine ⟨v, .inl ⟨?_, h1⟩, h2⟩
    have hy := hs.core.yielded hj hg hb
    simp [Region.wanted, hy, boolOf]
theorem GoP.qX {x : Value} (hi : all[i]? = some ⟨some t, op, ty, pos, aft, some (j, want)⟩) (hj : gslot all j = some g) (hg : Nat.blt g Y.nt = true) (hb : look s.env g = some (.v x)) (hx : boolOf x ≠ some want) (ht : Nat.blt t Y.nt = true)
    (h : GoP Y fn R all H0 p k (s.put t (.v undef))) : GoP Y fn R all H0 (.q i p) k s :=
  GoP.takeq hi h fun I a w O wR hs hS => by
    refine ⟨undef, .inr ⟨?_, rfl⟩, hs.here (hs.core.put (blt_lt ht) rfl)⟩
    have hy := hs.core.yielded hj hg hb
    have hne : (boolOf x == some want) = false := by
      rw [Bool.eq_false_iff]; exact fun e => hx (eq_of_beq e)
    simp [Region.wanted, hy, hne]
theorem GoP.qF (hi : all[i]? = some ⟨some t, op, ty, pos, aft, some (j, want)⟩) (hj : gslot all j = some g) (hg : Nat.blt g Y.nt = true) (hb : look s.env g = some (.v (.bool (!want)))) (ht : Nat.blt t Y.nt = true)
    (h : GoP Y fn R all H0 p k (s.put t (.v undef))) : GoP Y fn R all H0 (.q i p) k s := GoP.qX hi hj hg hb (by cases want <;> simp [boolOf]) ht h
theorem SHO.step {I : Nat → Prop} {a : Act} {w w' wR : World} {O O' : Nat → Prop} {wr r : List HL} (hs : SatY Y I s a w O) (hS : SHO Y I H0 wR w O) (ht : Take s.heap (wr ++ H0) r)
    (hk : (∀ b, (I b ∨ fps s.heap b) → ¬ fps wr b → w'.heap[b]? = w.heap[b]?) ∧ (∀ b, O b → O' b) ∧ w.heap.size ≤ w'.heap.size) : SHO Y I H0 wR w' O' := fun b hb => by
  have hp2 := ht.perm
  have hsep := (List.pairwise_append.1 (List.pairwise_append.1 (sep_perm hp2 hs.core.sep)).1).2.2
  have hwr : ∀ b, fps wr b → ¬ I b ∧ ¬ fps H0 b := fun b ⟨z, hz, hzb⟩ => ⟨(hs.core.own b ⟨z, hp2.mem_iff.2 (List.mem_append_left _ (List.mem_append_left _ hz)), hzb⟩).1, fun ⟨z', hz', hzb'⟩ => hsep z hz z' hz' b hzb hzb'⟩
  obtain ⟨h1, h2, h3⟩ := hS b hb
  refine ⟨(hk.1 b (hb.imp id fun ⟨z, hz, hzb⟩ => ⟨z, hp2.mem_iff.2 (List.mem_append_left _ (List.mem_append_right _ hz)), hzb⟩) fun hw => ?_).trans h1, Nat.lt_of_lt_of_le h2 hk.2.2, h3.imp id (hk.2.1 b)⟩
  exact hb.elim (hwr b hw).1 (hwr b hw).2
theorem step_one {o : Oper} {wr r : List HL} {next : St → Prop} (hi : all[i]? = some o) (hg : Lets Y all s o.guard) (he : EffO Y o s wr next) (ht : Take s.heap (wr ++ H0) r) (h : ∀ s', next s' → GoP Y fn R all H0 p k s')
    {I : Nat → Prop} {a : Act} {w wR : World} {O : Nat → Prop} {f : Nat} {listed : Array Bool} (hs : SatY Y I s a w O) (hS : SHO Y I H0 wR w O) (hns : Region.noSelect all = true)
    (hp : planOk all p f listed = true) : opiO Y.P Y.main Y.Im all i (fun a' w' O' => SHO Y I H0 wR w' O' ∧ anyO Y.P Y.main Y.Im .any all (Kont Y fn R k) (fun _ => SHO Y I H0 wR) f listed a' w' O') a w O := by
  unfold opiO
  simp only [hi, hg.wanted hs, if_true]
  refine opO_mono ?_ (he I a w O hs)
  rintro a' w' O' ⟨hk, s', hn, hs'⟩
  have hS' := SHO.step hs hS ht hk
  exact ⟨hS', (h s' hn).run I a' w' O' wR f listed hs' hS' hns hp⟩
theorem GoP.one {o : Oper} {wr r : List HL} {next : St → Prop} (hi : all[i]? = some o) (hg : Lets Y all s o.guard) (he : EffO Y o s wr next) (ht : Take s.heap (wr ++ H0) r) (h : ∀ s', next s' → GoP Y fn R all H0 p k s') :
    GoP Y fn R all H0 (.one i p) k s :=
  ⟨fun I a w O wR fuel listed hs hS hns hp => by
    cases fuel with
    | zero => simp [planOk] at hp
    | succ f =>
      simp only [planOk, Bool.and_eq_true, decide_eq_true_eq] at hp
      refine ⟨fun h0 => absurd (hp.1 ▸ h0) (by simp), fun i' hi' => ?_⟩
      have : i' = i := by rw [hp.1] at hi'; simpa using hi'
      subst this
      exact step_one hi hg he ht h hs hS hns hp.2⟩
theorem GoP.one1 {o : Oper} {wr r : List HL} (hi : all[i]? = some o) (hg : Lets Y all s o.guard) (he : EffO Y o s wr (fun s2 => s2 = s')) (ht : Take s.heap (wr ++ H0) r) (h : GoP Y fn R all H0 p k s') :
    GoP Y fn R all H0 (.one i p) k s := GoP.one hi hg he ht fun _ e => e ▸ h
theorem GoP.oneB {o : Oper} {wr r : List HL} {F : BK → St} (hi : all[i]? = some o) (hg : Lets Y all s o.guard) (he : EffO Y o s wr (fun s2 => ∃ β, s2 = F β)) (ht : Take s.heap (wr ++ H0) r) (h : ∀ β, GoP Y fn R all H0 p k (F β)) :
    GoP Y fn R all H0 (.one i p) k s := GoP.one hi hg he ht fun _ ⟨β, e⟩ => e ▸ h β
theorem GoP.oneC {o : Oper} {wr r : List HL} {post : D → List HL → Prop} {F : D → List HL → St} (hi : all[i]? = some o) (hg : Lets Y all s o.guard) (he : EffO Y o s wr (fun s2 => ∃ r H', post r H' ∧ s2 = F r H')) (ht : Take s.heap (wr ++ H0) r)
    (h : ∀ r H', post r H' → GoP Y fn R all H0 p k (F r H')) : GoP Y fn R all H0 (.one i p) k s := GoP.one hi hg he ht fun _ ⟨r, H', hp, e⟩ => e ▸ h r H' hp
theorem GoP.oneN {r : List HL} (hi : all[i]? = some ⟨d, op, ty, pos, aft, none⟩) (he : ∀ {w : World} {I : Nat → Prop} {tb : Tb Y.P I s w}, PureE ⟨Y.P, Y.nt, w, fps s.heap, I, [], tb⟩ s.heap ⟨d, op, ty, pos, aft, none⟩ s s') (ht : Take s.heap H0 r) (h : GoP Y fn R all H0 p k s') :
    GoP Y fn R all H0 (.one i p) k s := GoP.one1 hi trivial (EffO.of fun {w I tb} => EffE.pure (@he w I tb) fun b hb => hb) (by simpa using ht) h
theorem GoP.two {o1 o2 : Oper} {wr1 wr2 r1 r2 : List HL} {next1 next2 : St → Prop} (hi1 : all[i]? = some o1) (hi2 : all[j]? = some o2) (hg1 : Lets Y all s o1.guard) (hg2 : Lets Y all s o2.guard)
    (he1 : EffO Y o1 s wr1 next1) (he2 : EffO Y o2 s wr2 next2) (ht1 : Take s.heap (wr1 ++ H0) r1) (ht2 : Take s.heap (wr2 ++ H0) r2) (h1 : ∀ s', next1 s' → GoP Y fn R all H0 p1 k s') (h2 : ∀ s', next2 s' → GoP Y fn R all H0 p2 k s') :
    GoP Y fn R all H0 (.two i j p1 p2) k s :=
  ⟨fun I a w O wR fuel listed hs hS hns hp => by
    cases fuel with
    | zero => simp [planOk] at hp
    | succ f =>
      simp only [planOk, Bool.and_eq_true, decide_eq_true_eq] at hp
      refine ⟨fun h0 => absurd (hp.1.1 ▸ h0) (by simp), fun i' hi' => ?_⟩
      rw [hp.1.1] at hi'
      rcases List.mem_cons.1 hi' with rfl | hi'
      · exact step_one hi1 hg1 he1 ht1 h1 hs hS hns hp.1.2
      · have : i' = j := by simpa using hi'
        subst this
        exact step_one hi2 hg2 he2 ht2 h2 hs hS hns hp.2⟩
theorem GoP.fork2 (F : BK → BK → St) {o1 o2 : Oper} {wr1 wr2 r1 r2 : List HL} {next1 next2 : St → Prop} (hi1 : all[i]? = some o1) (hi2 : all[j]? = some o2) (hg1 : Lets Y all s o1.guard) (hg2 : Lets Y all s o2.guard)
    (he1 : EffO Y o1 s wr1 next1) (he2 : EffO Y o2 s wr2 next2) (ht1 : Take s.heap (wr1 ++ H0) r1) (ht2 : Take s.heap (wr2 ++ H0) r2) (h1 : (∀ β0 β1 : BK, GoK Y fn R k (F β0 β1)) → ∀ s', next1 s' → GoP Y fn R all H0 p1 k s') (h2 : (∀ β0 β1 : BK, GoK Y fn R k (F β0 β1)) → ∀ s', next2 s' → GoP Y fn R all H0 p2 k s') (hQ : (∀ β0 β1 : BK, GoK Y fn R k (F β0 β1))) :
    GoP Y fn R all H0 (.two i j p1 p2) k s := GoP.two hi1 hi2 hg1 hg2 he1 he2 ht1 ht2 (h1 hQ) (h2 hQ)
theorem GoP.fork3 (F : BK → BK → BK → St) {o1 o2 : Oper} {wr1 wr2 r1 r2 : List HL} {next1 next2 : St → Prop} (hi1 : all[i]? = some o1) (hi2 : all[j]? = some o2) (hg1 : Lets Y all s o1.guard) (hg2 : Lets Y all s o2.guard)
    (he1 : EffO Y o1 s wr1 next1) (he2 : EffO Y o2 s wr2 next2) (ht1 : Take s.heap (wr1 ++ H0) r1) (ht2 : Take s.heap (wr2 ++ H0) r2) (h1 : (∀ β0 β1 β2 : BK, GoK Y fn R k (F β0 β1 β2)) → ∀ s', next1 s' → GoP Y fn R all H0 p1 k s') (h2 : (∀ β0 β1 β2 : BK, GoK Y fn R k (F β0 β1 β2)) → ∀ s', next2 s' → GoP Y fn R all H0 p2 k s') (hQ : (∀ β0 β1 β2 : BK, GoK Y fn R k (F β0 β1 β2))) :
    GoP Y fn R all H0 (.two i j p1 p2) k s := GoP.two hi1 hi2 hg1 hg2 he1 he2 ht1 ht2 (h1 hQ) (h2 hQ)
theorem GoP.fork5 (F : BK → BK → BK → BK → BK → St) {o1 o2 : Oper} {wr1 wr2 r1 r2 : List HL} {next1 next2 : St → Prop} (hi1 : all[i]? = some o1) (hi2 : all[j]? = some o2) (hg1 : Lets Y all s o1.guard) (hg2 : Lets Y all s o2.guard)
    (he1 : EffO Y o1 s wr1 next1) (he2 : EffO Y o2 s wr2 next2) (ht1 : Take s.heap (wr1 ++ H0) r1) (ht2 : Take s.heap (wr2 ++ H0) r2) (h1 : (∀ β0 β1 β2 β3 β4 : BK, GoK Y fn R k (F β0 β1 β2 β3 β4)) → ∀ s', next1 s' → GoP Y fn R all H0 p1 k s') (h2 : (∀ β0 β1 β2 β3 β4 : BK, GoK Y fn R k (F β0 β1 β2 β3 β4)) → ∀ s', next2 s' → GoP Y fn R all H0 p2 k s') (hQ : (∀ β0 β1 β2 β3 β4 : BK, GoK Y fn R k (F β0 β1 β2 β3 β4))) :
    GoP Y fn R all H0 (.two i j p1 p2) k s := GoP.two hi1 hi2 hg1 hg2 he1 he2 ht1 ht2 (h1 hQ) (h2 hQ)
end
end
end Y
theorem anyO_weak {P : Program} {main : Mn} {Im : Nat → Prop} {ops : Array Oper} {Q : PostO} {S S' : Array Bool → World → (Nat → Prop) → Prop} {G : Array Bool → Prop} (hG : ∀ L i, G L → G (L.setIfInBounds i true)) (hS : ∀ L w O, G L → S L w O → S' L w O) :
    ∀ (fuel : Nat) (listed : Array Bool) (a : Act) (w : World) (O : Nat → Prop), G listed → anyO P main Im .any ops Q S fuel listed a w O → anyO P main Im .any ops Q S' fuel listed a w O
  | 0, _, _, _, _, _, h => h
  | fuel + 1, listed, a, w, O, hg, h => ⟨h.1, fun i hi => opiO_mono (fun a' w' O' h' => ⟨hS _ _ _ (hG _ _ hg) h'.1, anyO_weak hG hS fuel _ a' w' O' (hG _ _ hg) h'.2⟩) (h.2 i hi)⟩
namespace Y
def SHL (Y : Cy) (I : Nat → Prop) (H0 : List HL) (wR : World) (j0 : Nat) (listed : Array Bool) (w : World) (O : Nat → Prop) : Prop := (listed.getD j0 true = false → SHO Y I H0 wR w O) ∧ SHO Y I [] wR w O
structure GoQ (Y : Cy) (fn : Func) (R : Value → World → (Nat → Prop) → Prop) (all : Array Oper) (H0 : List HL) (j0 : Nat) (p : Plan) (k : List It) (s : St) : Prop where
  run : ∀ I a w O wR fuel listed, SatY Y I s a w O → SHO Y I H0 wR w O → Region.noSelect all = true → planOk all p fuel listed = true → listed.getD j0 true = false → ClosedL all listed →
    anyO Y.P Y.main Y.Im .any all (Kont Y fn R k) (SHL Y I H0 wR j0) fuel listed a w O
section
variable {Y : Cy} {fn : Func} {R : Value → World → (Nat → Prop) → Prop} {k : List It} {s s' : St} {all : Array Oper} {H0 : List HL} {p p1 p2 : Plan} {j0 : Nat}
theorem SHL.rely {I : Nat → Prop} {wR w w₁ : World} {O : Nat → Prop} {L : Array Bool} (h : SHL Y I H0 wR j0 L w O) (r : Rely Y.Im O w w₁) : SHL Y I H0 wR j0 L w₁ O := ⟨fun z => (h.1 z).rely r, h.2.rely r⟩
theorem closed0 {ops : List Oper} : ClosedL ops.toArray (Array.replicate ops.toArray.size false) := fun k o hk hl => by
  have hk' : k < ops.length := by
    rcases Nat.lt_or_ge k ops.length with c | c
    · exact c
    · simp [Array.getElem?_eq_none (show ops.toArray.size ≤ k by simpa using c)] at hk
  simp [hk'] at hl
theorem GoC.drawQH (p : Plan) (j0 : Nat) (H0 : List HL) {r : List HL} {id : Nat} {ops : List Oper} (hm : Y.P.follows .mixedOrders = true) (hB : (Nat.blt j0 ops.length && (Region.noSelect ops.toArray && planOk ops.toArray p ops.toArray.size (Array.replicate ops.toArray.size false))) = true)
    (ht : Take s.heap H0 r) (h : GoQ Y fn R ops.toArray H0 j0 p k s) : GoC Y fn R (.region id ops.toArray true) k s :=
  ⟨fun I a w O hs => wpO_region_any (S := SHL Y I H0 w j0) hm fun w₁ h₁ => by
    simp only [Bool.and_eq_true] at hB
    have hj : j0 < ops.length := blt_lt hB.1
    exact h.run I a _ O w _ _ (hs.rely h₁).drew (((SHO.begin hs ht).rely h₁).rely (Rely.drew _ _ _ _)) hB.2.1 hB.2.2 (by simp [hj]) closed0⟩
theorem GoC.drawQ (p : Plan) (j0 : Nat) {id : Nat} {ops : List Oper} (hm : Y.P.follows .mixedOrders = true) (hB : (Nat.blt j0 ops.length && (Region.noSelect ops.toArray && planOk ops.toArray p ops.toArray.size (Array.replicate ops.toArray.size false))) = true)
    (h : GoQ Y fn R ops.toArray s.heap j0 p k s) : GoC Y fn R (.region id ops.toArray true) k s :=
  ⟨fun I a w O hs => wpO_region_any (S := SHL Y I s.heap w j0) hm fun w₁ h₁ => by
    simp only [Bool.and_eq_true] at hB
    have hj : j0 < ops.length := blt_lt hB.1
    have hb : SHO Y I s.heap w w O := fun b hb => by
      rcases hb with hb | hb
      · exact ⟨rfl, (hs.tab.2 b hb).1, hs.imO hb⟩
      · exact ⟨rfl, (hs.core.own b hb).2.2, .inr (hs.own b hb).1⟩
    exact h.run I a _ O w _ _ (hs.rely h₁).drew ((hb.rely h₁).rely (Rely.drew _ _ _ _)) hB.2.1 hB.2.2 (by simp [hj]) closed0⟩
section
variable {d : Option Tmp} {t : Tmp} {op : Op} {ty : TypeId} {pos : String} {aft : Array Edge} {i j g : Nat} {want : Bool}
theorem SHL.list {I : Nat → Prop} {wR w : World} {O : Nat → Prop} {L : Array Bool} (hne : i ≠ j0) : SHL Y I H0 wR j0 (L.setIfInBounds i true) w O ↔ SHL Y I H0 wR j0 L w O := by
  unfold SHL
  rw [Go.getD_set_ne true hne]
theorem GoQ.qN (hi : all[i]? = some ⟨d, op, ty, pos, aft, none⟩) (hw : waits all j0 i = true) (hp : ∀ {w : World} {I : Nat → Prop} {tb : Tb Y.P I s w}, PureE ⟨Y.P, Y.nt, w, fps s.heap, I, [], tb⟩ H0 ⟨d, op, ty, pos, aft, none⟩ s s') (h : GoQ Y fn R all H0 j0 p k s') : GoQ Y fn R all H0 j0 (.q i p) k s :=
  ⟨fun I a w O wR fuel listed hs hS hns hpl hl hcl => by
    cases fuel with
    | zero => simp [planOk] at hpl
    | succ f =>
      simp only [planOk, Bool.and_eq_true] at hpl
      obtain ⟨v, h1, h2⟩ := yieldsE (fun {w I tb} => @hp w I tb) hs hS
      obtain ⟨hne, hdep⟩ := waits_spec hw
      have hr : i ∈ Region.ready .any all listed := by simpa using hpl.1.1
      refine anyO_first (T := SHO Y I H0 wR) (Inv := fun L => L.getD j0 true = false ∧ ClosedL all L) (fun _ _ _ h r => h.rely r) (fun _ _ _ _ h r => h.rely r) (fun _ _ _ _ h r => Kont_rely h r) hi (Region.noSelect_spec hns)
        (fun _ _ _ _ h => (SHL.list hne).2 h) (fun _ _ _ _ h => (SHL.list hne).1 h) (fun L _ _ hI h => h.1 hI.1) ?_ f listed a w O (Region.free_spec hi hpl.1.2) hr (.inl ⟨by simp [Region.wanted], h1⟩) ⟨hl, hcl⟩ ⟨fun _ => hS, hS.nil⟩
        (h.run I _ w O wR f _ h2 hS hns hpl.2 (by rw [Go.getD_set_ne true hne]; exact hl) (hcl.set hr))
      intro L j ⟨g1, g2⟩ hri hrj hji
      have hj0 : j ≠ j0 := fun e => by
        subst e
        obtain ⟨_, oj, hoj, hall⟩ := mem_ready.1 hrj
        have h1 := depT_listed g2 4 j i hdep fun o ho => by
          rw [hoj] at ho
          obtain rfl := Option.some.inj ho
          exact hall
        have h0 := (mem_ready.1 hri).1
        rcases Nat.lt_or_ge i L.size with h' | h'
        · simp [h'] at h0 h1; rw [h0] at h1; cases h1
        · simp [Array.getElem?_eq_none h'] at h1
      exact ⟨by rw [Go.getD_set_ne true hj0]; exact g1, g2.set hrj⟩⟩
theorem GoQ.qP (hi : all[i]? = some ⟨d, op, ty, pos, aft, none⟩) (hij : (i != j0) = true) (hp : ∀ {w : World} {I : Nat → Prop} {tb : Tb Y.P I s w}, PureE ⟨Y.P, Y.nt, w, fps s.heap, I, [], tb⟩ [] ⟨d, op, ty, pos, aft, none⟩ s s') (h : GoQ Y fn R all H0 j0 p k s') : GoQ Y fn R all H0 j0 (.q i p) k s :=
  ⟨fun I a w O wR fuel listed hs hS hns hpl hl hcl => by
    cases fuel with
    | zero => simp [planOk] at hpl
    | succ f =>
      have hne : i ≠ j0 := by simpa using hij
      simp only [planOk, Bool.and_eq_true] at hpl
      obtain ⟨v, h1, h2⟩ := yieldsE (fun {w I tb} => @hp w I tb) hs hS.nil
      have hr : i ∈ Region.ready .any all listed := by simpa using hpl.1.1
      exact anyO_first (T := SHO Y I [] wR) (Inv := fun _ => True) (fun _ _ _ h r => h.rely r) (fun _ _ _ _ h r => h.rely r) (fun _ _ _ _ h r => Kont_rely h r) hi (Region.noSelect_spec hns)
        (fun _ _ _ _ h => (SHL.list hne).2 h) (fun _ _ _ _ h => (SHL.list hne).1 h) (fun L _ _ hI h => h.2) (fun _ _ _ _ _ _ => trivial) f listed a w O (Region.free_spec hi hpl.1.2) hr (.inl ⟨by simp [Region.wanted], h1⟩) trivial ⟨fun _ => hS, hS.nil⟩
        (h.run I _ w O wR f _ h2 hS hns hpl.2 (by rw [Go.getD_set_ne true hne]; exact hl) (hcl.set hr))⟩
theorem step_oneQ {o : Oper} {wr r : List HL} {next : St → Prop} (hi : all[i]? = some o) (hij : (i != j0) = true) (hg : Lets Y all s o.guard) (he : EffO Y o s wr next) (ht : Take s.heap (wr ++ H0) r) (h : ∀ s', next s' → GoQ Y fn R all H0 j0 p k s')
    {I : Nat → Prop} {a : Act} {w wR : World} {O : Nat → Prop} {f : Nat} {listed : Array Bool} (hs : SatY Y I s a w O) (hS : SHO Y I H0 wR w O) (hns : Region.noSelect all = true)
    (hp : planOk all p f (listed.setIfInBounds i true) = true) (hl : listed.getD j0 true = false) (hcl : ClosedL all listed) (hr : i ∈ Region.ready .any all listed) :
    opiO Y.P Y.main Y.Im all i (fun a' w' O' => SHL Y I H0 wR j0 (listed.setIfInBounds i true) w' O' ∧ anyO Y.P Y.main Y.Im .any all (Kont Y fn R k) (SHL Y I H0 wR j0) f (listed.setIfInBounds i true) a' w' O') a w O := by
  have hne : i ≠ j0 := by simpa using hij
  unfold opiO
  simp only [hi, hg.wanted hs, if_true]
  refine opO_mono ?_ (he I a w O hs)
  rintro a' w' O' ⟨hk, s', hn, hs'⟩
  have hS' := SHO.step hs hS ht hk
  have hl' : (listed.setIfInBounds i true).getD j0 true = false := by rw [Go.getD_set_ne true hne]; exact hl
  exact ⟨⟨fun _ => hS', hS'.nil⟩, (h s' hn).run I a' w' O' wR f _ hs' hS' hns hp hl' (hcl.set hr)⟩
theorem GoQ.one {o : Oper} {wr r : List HL} {next : St → Prop} (hi : all[i]? = some o) (hij : (i != j0) = true) (hg : Lets Y all s o.guard) (he : EffO Y o s wr next) (ht : Take s.heap (wr ++ H0) r) (h : ∀ s', next s' → GoQ Y fn R all H0 j0 p k s') :
    GoQ Y fn R all H0 j0 (.one i p) k s :=
  ⟨fun I a w O wR fuel listed hs hS hns hp hl hcl => by
    cases fuel with
    | zero => simp [planOk] at hp
    | succ f =>
      simp only [planOk, Bool.and_eq_true, decide_eq_true_eq] at hp
      refine ⟨fun h0 => absurd (hp.1 ▸ h0) (by simp), fun i' hi' => ?_⟩
      have : i' = i := by rw [hp.1] at hi'; simpa using hi'
      subst this
      exact step_oneQ hi hij hg he ht h hs hS hns hp.2 hl hcl hi'⟩
theorem GoQ.oneB {o : Oper} {wr r : List HL} {F : BK → St} (hi : all[i]? = some o) (hij : (i != j0) = true) (hg : Lets Y all s o.guard) (he : EffO Y o s wr (fun s2 => ∃ β, s2 = F β)) (ht : Take s.heap (wr ++ H0) r) (h : ∀ β, GoQ Y fn R all H0 j0 p k (F β)) :
    GoQ Y fn R all H0 j0 (.one i p) k s := GoQ.one hi hij hg he ht fun _ ⟨β, e⟩ => e ▸ h β
theorem GoQ.two {o1 o2 : Oper} {wr1 wr2 r1 r2 : List HL} {next1 next2 : St → Prop} (hi1 : all[i]? = some o1) (hi2 : all[j]? = some o2) (hn1 : (i != j0) = true) (hn2 : (j != j0) = true) (hg1 : Lets Y all s o1.guard) (hg2 : Lets Y all s o2.guard)
    (he1 : EffO Y o1 s wr1 next1) (he2 : EffO Y o2 s wr2 next2) (ht1 : Take s.heap (wr1 ++ H0) r1) (ht2 : Take s.heap (wr2 ++ H0) r2) (h1 : ∀ s', next1 s' → GoQ Y fn R all H0 j0 p1 k s') (h2 : ∀ s', next2 s' → GoQ Y fn R all H0 j0 p2 k s') :
    GoQ Y fn R all H0 j0 (.two i j p1 p2) k s :=
  ⟨fun I a w O wR fuel listed hs hS hns hp hl hcl => by
    cases fuel with
    | zero => simp [planOk] at hp
    | succ f =>
      simp only [planOk, Bool.and_eq_true, decide_eq_true_eq] at hp
      refine ⟨fun h0 => absurd (hp.1.1 ▸ h0) (by simp), fun i' hi' => ?_⟩
      have hi2' := hi'
      rw [hp.1.1] at hi2'
      rcases List.mem_cons.1 hi2' with rfl | hi3
      · exact step_oneQ hi1 hn1 hg1 he1 ht1 h1 hs hS hns hp.1.2 hl hcl hi'
      · have : i' = j := by simpa using hi3
        subst this
        exact step_oneQ hi2 hn2 hg2 he2 ht2 h2 hs hS hns hp.2 hl hcl hi'⟩
theorem GoQ.fork3 (F : BK → BK → BK → St) {o1 o2 : Oper} {wr1 wr2 r1 r2 : List HL} {next1 next2 : St → Prop} (hi1 : all[i]? = some o1) (hi2 : all[j]? = some o2) (hn1 : (i != j0) = true) (hn2 : (j != j0) = true) (hg1 : Lets Y all s o1.guard) (hg2 : Lets Y all s o2.guard)
    (he1 : EffO Y o1 s wr1 next1) (he2 : EffO Y o2 s wr2 next2) (ht1 : Take s.heap (wr1 ++ H0) r1) (ht2 : Take s.heap (wr2 ++ H0) r2) (h1 : (∀ β0 β1 β2 : BK, GoK Y fn R k (F β0 β1 β2)) → ∀ s', next1 s' → GoQ Y fn R all H0 j0 p1 k s') (h2 : (∀ β0 β1 β2 : BK, GoK Y fn R k (F β0 β1 β2)) → ∀ s', next2 s' → GoQ Y fn R all H0 j0 p2 k s') (hQ : (∀ β0 β1 β2 : BK, GoK Y fn R k (F β0 β1 β2))) :
    GoQ Y fn R all H0 j0 (.two i j p1 p2) k s := GoQ.two hi1 hi2 hn1 hn2 hg1 hg2 he1 he2 ht1 ht2 (h1 hQ) (h2 hQ)
theorem GoQ.fork4 (F : BK → BK → BK → BK → St) {o1 o2 : Oper} {wr1 wr2 r1 r2 : List HL} {next1 next2 : St → Prop} (hi1 : all[i]? = some o1) (hi2 : all[j]? = some o2) (hn1 : (i != j0) = true) (hn2 : (j != j0) = true) (hg1 : Lets Y all s o1.guard) (hg2 : Lets Y all s o2.guard)
    (he1 : EffO Y o1 s wr1 next1) (he2 : EffO Y o2 s wr2 next2) (ht1 : Take s.heap (wr1 ++ H0) r1) (ht2 : Take s.heap (wr2 ++ H0) r2) (h1 : (∀ β0 β1 β2 β3 : BK, GoK Y fn R k (F β0 β1 β2 β3)) → ∀ s', next1 s' → GoQ Y fn R all H0 j0 p1 k s') (h2 : (∀ β0 β1 β2 β3 : BK, GoK Y fn R k (F β0 β1 β2 β3)) → ∀ s', next2 s' → GoQ Y fn R all H0 j0 p2 k s') (hQ : (∀ β0 β1 β2 β3 : BK, GoK Y fn R k (F β0 β1 β2 β3))) :
    GoQ Y fn R all H0 j0 (.two i j p1 p2) k s := GoQ.two hi1 hi2 hn1 hn2 hg1 hg2 he1 he2 ht1 ht2 (h1 hQ) (h2 hQ)
theorem GoQ.last {o : Oper} {wr r : List HL} {next : St → Prop} (hi : all[j0]? = some o) (hg : Lets Y all s o.guard) (he : EffO Y o s wr next) (ht : Take s.heap wr r) (h : ∀ s', next s' → GoP Y fn R all [] p k s') :
    GoQ Y fn R all H0 j0 (.one j0 p) k s :=
  ⟨fun I a w O wR fuel listed hs hS hns hp hl _ => by
    cases fuel with
    | zero => simp [planOk] at hp
    | succ f =>
      simp only [planOk, Bool.and_eq_true, decide_eq_true_eq] at hp
      refine ⟨fun h0 => absurd (hp.1 ▸ h0) (by simp), fun i' hi' => ?_⟩
      have : i' = j0 := by rw [hp.1] at hi'; simpa using hi'
      subst this
      have h1 := step_one (H0 := []) hi hg he (by simpa using ht) h hs hS.nil hns hp.2
      refine opiO_mono (fun a' w' O' h' => ?_) h1
      have hset : ∀ (L : Array Bool), (L.setIfInBounds i' true).getD i' true = true := fun L => by
        by_cases c : i' < L.size
        · simp [c]
        · simp [c]
      have hl' := hset listed
      refine ⟨⟨fun z => (by rw [hl'] at z; cases z), h'.1⟩, anyO_weak (G := fun L => L.getD i' true = true) (fun L j hL => ?_) (fun L w O hL hU => ⟨fun z => (by rw [hL] at z; cases z), hU⟩) f _ a' w' O' hl' h'.2⟩
      by_cases e : j = i'
      · subst e; exact hset L
      · rw [Go.getD_set_ne true e]; exact hL⟩
theorem GoQ.last1 {o : Oper} {wr r : List HL} (hi : all[j0]? = some o) (hg : Lets Y all s o.guard) (he : EffO Y o s wr (fun s2 => s2 = s')) (ht : Take s.heap wr r) (h : GoP Y fn R all [] p k s') :
    GoQ Y fn R all H0 j0 (.one j0 p) k s := GoQ.last hi hg he ht fun _ e => e ▸ h
theorem GoQ.lastB {o : Oper} {wr r : List HL} {F : BK → St} (hi : all[j0]? = some o) (hg : Lets Y all s o.guard) (he : EffO Y o s wr (fun s2 => ∃ β, s2 = F β)) (ht : Take s.heap wr r) (h : ∀ β, GoP Y fn R all [] p k (F β)) :
    GoQ Y fn R all H0 j0 (.one j0 p) k s := GoQ.last hi hg he ht fun _ ⟨β, e⟩ => e ▸ h β
end
end
end Y
end Go.Proofs.Ytkfmphlnpmemdaa.Sx
