/- The walk's rules: strings, pointers that are compared with nil, parts that are stored into boxes, drawn regions with forks ahead of the operation that writes what is read. Plain laws over any program. -/
import Derived.Test.YtgkcmjmofcekmaaSxN
import Derived.Lib.ConvBytes
import Derived.Laws.Pointers
import Derived.Laws.StructEq
namespace Go.Proofs.Ytgkcmjmofcekmaa.Sx
open Go
set_option linter.unusedVariables false
set_option linter.unusedSimpArgs false
structure U8 where
  v : Int
instance : El U8 := ⟨1, fun x _ => .v (.int .u8 x.v), ⟨0⟩⟩
instance : El ByteArray := ⟨1, fun x _ => .v (.string x), ByteArray.empty⟩
instance : IndepE U8 := ⟨fun a f => inferInstanceAs (Indep (.v _))⟩
instance : IndepE ByteArray := ⟨fun a f => inferInstanceAs (Indep (.v _))⟩
/-- a string's bytes -/
def bytesL (s : ByteArray) : List U8 := s.data.toList.map fun b => ⟨(b.toNat : Int)⟩
theorem bytesL_len (s : ByteArray) : (bytesL s).length = s.size := by simp [bytesL]
class StT (P : Program) (t : TypeId) : Prop where
  h : P.underlying t = some .string
class PtT (P : Program) (t : TypeId) (e : outParam TypeId) : Prop where
  h : P.underlying t = some (.pointer e)
section
variable {X : Cx} {fn : Func} {R : Ending → World → Prop} {k : List It} {s s' : St} {all : Array Oper} {os : List Oper} {H0 : List HL} {d : Tmp} {ty : TypeId} {pos : String} {aft : Array Edge} {x y : Operand} {xt yt : TypeId}
theorem ps_lenS {t : TypeId} {z : ByteArray} [ht : StT X.P t] (hx : s.ev x = some (.v (.string z))) (hd : Nat.blt d X.nt = true) :
    PureStep X H0 ⟨some d, .call { callee := .builtin .len, args := #[x], argTypes := #[t] }, ty, pos, aft, none⟩ s (s.put d (.v (.int .i64 ((z.size : Nat) : Int)))) :=
  ps_of hd fun _ a _ hs => by
    have hv : a.eval x = .string z := hs.ev hx
    refine ⟨_, fun w' _ => ?_, rfl⟩
    simp [execOp, resolve, invoke, builtin, Builtin.len_, hv, run_underlying ht.h, goInt]
theorem str_beq (p q : ByteArray) : (p.toList == q.toList) = decide (p = q) := by
  by_cases c : p = q
  · subst c; simp
  · have : ¬ p.toList = q.toList := fun e => c (by
      rw [Go.ByteArray.toList_eq, Go.ByteArray.toList_eq] at e
      exact ByteArray.ext (Array.toList_inj.1 e))
    simp [c, this]
theorem ps_eqlStr {p q : ByteArray} (hx : s.ev x = some (.v (.string p))) (hy : s.ev y = some (.v (.string q))) (hd : Nat.blt d X.nt = true) :
    PureStep X H0 ⟨some d, .binOp .eql xt x y yt, ty, pos, aft, none⟩ s (s.put d (.v (.bool (decide (p = q))))) :=
  ps_of hd fun _ a _ hs => ⟨.bool (decide (p = q)), fun w' _ => by
    have e1 : a.eval x = .string p := hs.ev hx
    have e2 : a.eval y = .string q := hs.ev hy
    have e4 : (eqGuard .eql xt x y (.string p) (.string q)).run X.P w' = .ok () w' := rfl
    simp only [execOp, e1, e2, Sem.run_bind, e4, Result.andThen_ok, binOp, Op.stringOp, str_beq, Sem.run_pure], rfl⟩
theorem ps_neqStr {p q : ByteArray} (hx : s.ev x = some (.v (.string p))) (hy : s.ev y = some (.v (.string q))) (hd : Nat.blt d X.nt = true) :
    PureStep X H0 ⟨some d, .binOp .neq xt x y yt, ty, pos, aft, none⟩ s (s.put d (.v (.bool (decide (p ≠ q))))) :=
  ps_of hd fun _ a _ hs => ⟨.bool (decide (p ≠ q)), fun w' _ => by
    have e1 : a.eval x = .string p := hs.ev hx
    have e2 : a.eval y = .string q := hs.ev hy
    have e4 : (eqGuard .neq xt x y (.string p) (.string q)).run X.P w' = .ok () w' := rfl
    have e5 : (!decide (p = q)) = decide (p ≠ q) := by by_cases c : p = q <;> simp [c]
    simp only [execOp, e1, e2, Sem.run_bind, e4, Result.andThen_ok, binOp, Op.stringOp, str_beq, Sem.run_pure, e5], rfl⟩
theorem ps_eqlPtr {β : BK} {size e f : Nat} {t : TypeId} [ht : PtT X.P xt t] (hx : s.ev x = some (.ptr β size e f)) (hy : s.ev y = some (.v (.pointer none))) (hd : Nat.blt d X.nt = true) :
    PureStep X H0 ⟨some d, .binOp .eql xt x y yt, ty, pos, aft, none⟩ s (s.put d (.v (.bool false))) :=
  ps_of hd fun _ a _ hs => ⟨.bool false, fun w' _ => by
    have e1 : a.eval x = .pointer (some ⟨β.b, β.o + (e * size + f), none⟩) := hs.ev hx
    have e2 : a.eval y = .pointer none := hs.ev hy
    have hp : X.P.underlying xt = some (.pointer (X.P.pointee xt)) := by simp [Program.pointee, ht.h]
    have e4 : (eqGuard .eql xt x y (.pointer (some ⟨β.b, β.o + (e * size + f), none⟩)) (.pointer none)).run X.P w' = .ok () w' := rfl
    have h := run_eql_pointer_nil (P := X.P) w' xt (some ⟨β.b, β.o + (e * size + f), none⟩) hp
    simp only [execOp, e1, e2, Sem.run_bind, e4, Result.andThen_ok, h, Sem.run_pure, Option.isNone_some], rfl⟩
/-- []byte of a string: its bytes, as data -/
theorem GoO.bytes {src dst e : TypeId} {z : ByteArray} [h1 : StT X.P src] [h2 : SlT X.P dst e] [h3 : IntT X.P e .u8] (hx : s.ev x = some (.v (.string z))) (hz : z.size ≤ 1000) (hd : Nat.blt d X.nt = true)
    (h : GoO X fn R all os k (s.put d (slD (bytesL z)))) : GoO X fn R all (⟨some d, .convert src dst x, ty, pos, aft, none⟩ :: os) k s :=
  ⟨fun I a w hs => wpList_plain rfl fun K hK => by
    have hv : a.eval x = .string z := hs.ev hx
    have hr := Go.Lib.run_convert_string_bytes (P := X.P) w src dst e z h1.h h2.h h3.h
    refine wp_val (w' := Go.Lib.bytesWorld w e z) (v := .slice (some ⟨w.heap.size, 0, none⟩) z.size (grownCap w z.size 0 e)) ?_ (hK _ _ (h.run (fun b => I b ∨ b = w.heap.size) _ _ (Sat.put ?_ (blt_lt hd) ?_)))
    · simp only [execOp, hv, Sem.run_bind, hr, Result.andThen_ok, Sem.run_pure]
    · have hsame : Same w (Go.Lib.bytesWorld w e z) (fun _ => False) := ⟨rfl, rfl, rfl, by rw [Go.Lib.bytesWorld_size]; omega, fun j hj _ => Go.Lib.bytesWorld_at_old w e z j hj⟩
      have h' := hs.world (w' := Go.Lib.bytesWorld w e z) (hsame.mono (fun _ hh => hh.elim))
      refine ⟨h'.tsz, h'.dfr, fun j q hj => (h'.env j q hj).mono (fun _ h => .inl h) (fun _ _ => rfl), fun q hq => (h'.heap q hq).mono (fun _ h => .inl h) (fun _ _ => rfl) (fun _ _ => rfl), h'.sep, fun b hb => ?_, fun b hb => ?_, fun b hb => .inl (h'.i0 b hb), h'.same⟩
      · obtain ⟨o1, o2, o3⟩ := h'.own b hb
        refine ⟨fun hh => ?_, o2, o3⟩
        rcases hh with hh | hh
        · exact o1 hh
        · have := (hs.own b hb).2.2; omega
      · rcases hb with hb | hb
        · exact h'.imm b hb
        · subst hb
          exact ⟨by rw [Go.Lib.bytesWorld_size]; omega, .inr hs.same.size⟩
    · refine ⟨some ⟨w.heap.size, 0, none⟩, grownCap w z.size 0 e, by rw [bytesL_len], by rw [bytesL_len]; exact grownCap_ge w _ _ _, grownCap_le_maxLen w _ _ _ (by unfold maxLen; omega), fun _ => ⟨w.heap.size, 0, rfl, .inr rfl, fun i hi f hf => ?_⟩⟩
      have hf0 : f = 0 := by have : f < 1 := hf; omega
      subst hf0
      rw [bytesL_len] at hi
      refine ⟨.int .u8 (z.data.toList.getD i 0).toNat, ?_, rfl, ?_⟩
      · have := Go.Lib.bytesWorld_cell w e z i hi
        rw [show 0 + (i * El.size U8 + 0) = i by rw [show El.size U8 = 1 from rfl]; omega]
        exact this
      · show _ = _
        have hi' : i < z.data.toList.length := by simpa using hi
        have hb : (bytesL z).getD i El.d = ⟨((z.data.toList.getD i 0).toNat : Int)⟩ := by
          unfold bytesL
          rw [List.getD_eq_getElem?_getD, List.getD_eq_getElem?_getD, List.getElem?_map, List.getElem?_eq_getElem hi']
          rfl
        rw [hb]⟩
end
section
variable {X : Cx} {fn : Func} {R : Ending → World → Prop} {k : List It} {s : St}
theorem GoC.freezeB {cc : Code} {x : HL} {rest rest' : List HL} {r r' : D} {j : Nat} {βb : BK} {tb : TypeId} {size : Nat} {g g' : Nat → D} (hj : look s.env j = some r) (hrem : Rem s.heap x rest) (hl : Lend [x] r r') (hA : ∀ b, fps [x] b → ¬ X.may b)
    (hat : At rest (.one βb tb size (st1 g)) (.one βb tb size (st1 g')) rest') (hc : AllLt size fun f => Lend [x] (g f) (g' f)) (h : GoC X fn R cc k ⟨(j, r') :: s.env, rest'⟩) : GoC X fn R cc k s :=
  ⟨fun I a w hs => h.run _ a w (sat_freezeB hj hrem hl hA hat rfl (fun _ _ => hc) hs)⟩
end
/-- what a call makes and nobody writes any more is data -/
theorem Does.freeze {P : Program} {f : FuncId} {args : List D} {post post' : D → List HL → Prop} (h : Does P f args [] post) (hf : ∀ d H, post d H → ∃ d', post' d' [] ∧ Lend H d d') : Does P f args [] post' := fun I w vs h1 h2 h3 h4 =>
  (h I w vs h1 h2 h3 h4).mono (by
    rintro e w' ⟨v, d, H', N, he, hp, hr, hok, hN, hfp, hs⟩
    obtain ⟨d', hp', hl⟩ := hf d H' hp
    have hfr : ∀ b, fps H' b → w.heap.size ≤ b ∧ b < w'.heap.size := fun b hb => ⟨(hfp b hb).resolve_left (fun hb => by obtain ⟨z, hz, _⟩ := hb; cases hz), (hok.own b hb).2⟩
    refine ⟨v, d', [], fun b => N b ∨ fps H' b, he, hp', ?_, ⟨fun z hz => (by cases hz), List.Pairwise.nil, fun b hb => (by obtain ⟨z, hz, _⟩ := hb; cases hz)⟩, fun b hb => hb.elim (hN b) (hfr b), fun b hb => (by obtain ⟨z, hz, _⟩ := hb; cases hz), hs⟩
    refine (hl _ w' v hok.ok hr).mono (fun b hb => ?_) (fun _ _ => rfl)
    rcases hb with (hb | hb) | hb
    · exact .inl hb
    · exact .inr (.inl hb)
    · exact .inr (.inr hb))
/-! ### a part of a row that is stored into a box -/
theorem DLe.shiftR {β : BK} {size r len : Nat} : DLe (.own β size r len) (.own ⟨β.b, β.o + r * size, β.s - r⟩ size 0 len) := fun I w v ⟨ad, cap, hv, g1, g2, g3, g4⟩ =>
  ⟨ad, cap, hv, g1, g2, by simp only; omega, fun h => by rw [g4 h]; simp⟩
theorem Le.shiftRow {β : BK} {t : TypeId} {size r len : Nat} {c : C} {env : List (Nat × D)} {H H' : List HL} (hat : At H (.one β t size c) (.one ⟨β.b, β.o + r * size, β.s - r⟩ t size ⟨len, fun e f => c.get (e + r) f⟩) H') (hl : r + len ≤ c.len) :
    Le ⟨env, H⟩ ⟨env, H'⟩ := fun X I a w hs => by
  have hb : BOk I w β t size c := hs.heap _ hat.mem
  have hrs : r ≤ β.s := by have := hb.1; omega
  refine ⟨hs.tsz, hs.dfr, hs.env, fun z hz => ?_, hat.sep hs.sep fun b hb' => .inl ⟨by have := hb'.1; simp only at this; omega, hb'.2⟩, fun b ⟨z, hz, hzb⟩ => ?_, hs.imm, hs.i0, hs.same⟩
  · rcases hat.old z hz with rfl | hz
    · refine ⟨by simp only; have := hb.1; omega, fun hpos => ?_⟩
      obtain ⟨cs, h1, h2, h3⟩ := hb.2 (by simp only at hpos; omega)
      refine ⟨cs, h1, ?_, fun e he f hf => ?_⟩
      · rw [h2]
        have : β.s * size = r * size + (β.s - r) * size := by rw [← Nat.add_mul]; congr 1; omega
        simp only; omega
      · obtain ⟨u, hu, ho, hr⟩ := h3 (e + r) (by simp only at he; omega) f hf
        refine ⟨u, ?_, ho, hr⟩
        rw [show β.o + r * size + (e * size + f) = β.o + ((e + r) * size + f) by rw [Nat.add_mul]; omega]
        exact hu
    · exact hs.heap z hz
  · rcases hat.old z hz with rfl | hz
    · exact hs.own b ⟨_, hat.mem, by have := hzb.1; simp only at this; omega, hzb.2⟩
    · exact hs.own b ⟨z, hz, hzb⟩
/-- some cells of a box -/
theorem upd_stN {size f n : Nat} {g q : Nat → D} : UpdN size (st1 g) 0 f n q (st1 fun f' => cond (Nat.ble f f' && Nat.blt f' (f + n)) (q (f' - f)) (g f')) :=
  ⟨rfl, fun e' f' he hf => by
    have he0 : e' = 0 := by simp only [st1] at he; omega
    subst he0
    simp only [st1]
    by_cases h : f ≤ f' ∧ f' < f + n
    · have h1 : Nat.ble f f' = true := Nat.ble_eq_true_of_le h.1
      have h2 : Nat.blt f' (f + n) = true := Nat.ble_eq_true_of_le h.2
      rw [if_pos ⟨trivial, h⟩, h1, h2]; rfl
    · rw [if_neg (fun z => h z.2)]
      have : (Nat.ble f f' && Nat.blt f' (f + n)) = false := by
        rw [Bool.eq_false_iff]
        intro c
        simp only [Bool.and_eq_true] at c
        exact h ⟨Nat.le_of_ble_eq_true c.1, blt_lt c.2⟩
      rw [this]; rfl⟩
/-! ### a region that draws: forks ahead of the first operation that writes what is read -/
section
variable {X : Cx} {fn : Func} {R : Ending → World → Prop} {k : List It} {s s' : St} {all : Array Oper} {H0 : List HL} {p p1 p2 : Plan} {j0 : Nat}
theorem GoC.drawQH (p : Plan) (j0 : Nat) (H0 : List HL) {r : List HL} {id : Nat} {ops : List Oper} (hm : X.P.follows .mixedOrders = true) (hB : (Nat.blt j0 ops.length && (Region.noSelect ops.toArray && planOk ops.toArray p ops.toArray.size (Array.replicate ops.toArray.size false))) = true)
    (ht : Take s.heap H0 r) (h : GoQ X fn R ops.toArray H0 j0 p k s) : GoC X fn R (.region id ops.toArray true) k s :=
  ⟨fun I a w hs => by
    simp only [Bool.and_eq_true] at hB
    have hj : j0 < ops.length := blt_lt hB.1
    exact wp_region_any hm (wpAny_of_L _ _ _ _ (h.run I a w.drew w.drew _ _ hs.drew (fun _ _ => rfl) (fun b ⟨z, hz, hzb⟩ => (hs.own b ⟨z, ht.perm.mem_iff.2 (List.mem_append_left _ hz), hzb⟩).2.2) hB.2.1 hB.2.2 (by simp [hj]) (fun k o hk hl => by
      have hk' : k < ops.length := by
        rcases Nat.lt_or_ge k ops.length with c | c
        · exact c
        · simp [Array.getElem?_eq_none (show ops.toArray.size ≤ k by simpa using c)] at hk
      simp [hk'] at hl)))⟩
section
variable {i j : Nat}
theorem step_oneQ {o : Oper} {wr r : List HL} {next : St → Prop} (hi : all[i]? = some o) (hij : (i != j0) = true) (hg : Lets X all s o.guard) (he : Eff X o s wr next) (ht : Take s.heap (wr ++ H0) r) (h : ∀ s', next s' → GoQ X fn R all H0 j0 p k s')
    {I : Nat → Prop} {a : Act} {w wR : World} {f : Nat} {listed : Array Bool} (hs : Sat X I s a w) (hS : SH I H0 wR w) (hH : ∀ b, fps H0 b → b < w.heap.size) (hns : Region.noSelect all = true)
    (hp : planOk all p f (listed.setIfInBounds i true) = true) (hl : listed.getD j0 true = false) (hcl : ClosedL all listed) (hr : i ∈ Region.ready .any all listed) :
    wpOp X.P all (Kont X fn R k) i (fun a' w' => SL (SH I H0 wR) (SH I [] wR) j0 (listed.setIfInBounds i true) w' ∧ wpAnyL X.P all (Kont X fn R k) (SL (SH I H0 wR) (SH I [] wR) j0) f (listed.setIfInBounds i true) a' w') a w := by
  have hne : i ≠ j0 := by simpa using hij
  unfold wpOp
  simp only [hi, hg.wanted hs, if_true]
  refine .inl (Oper.wp_mono ?_ (he I a w hs _))
  rintro a' w' ⟨hsame, s', hn, hs'⟩
  have hp2 := ht.perm
  have hsep := (List.pairwise_append.1 (List.pairwise_append.1 (sep_perm hp2 hs.sep)).1).2.2
  have hwr : ∀ b, fps wr b → ¬ I b ∧ ¬ fps H0 b := fun b ⟨z, hz, hzb⟩ => ⟨(hs.own b ⟨z, hp2.mem_iff.2 (List.mem_append_left _ (List.mem_append_left _ hz)), hzb⟩).1, fun ⟨z', hz', hzb'⟩ => hsep z hz z' hz' b hzb hzb'⟩
  have hS' : SH I H0 wR w' := fun b hb => by
    refine (hsame.block b ?_ fun hh => ?_).trans (hS b hb)
    · rcases hb with hb | hb
      · exact (hs.imm b hb).1
      · exact hH b hb
    · rcases hb with hb | hb
      · exact (hwr b hh).1 hb
      · exact (hwr b hh).2 hb
  have hl' : (listed.setIfInBounds i true).getD j0 true = false := by rw [Go.getD_set_ne true hne]; exact hl
  exact ⟨⟨fun _ => hS', hS'.nil⟩, (h s' hn).run I a' w' wR f _ hs' hS' (fun b hb => Nat.lt_of_lt_of_le (hH b hb) hsame.size) hns hp hl' (hcl.set hr)⟩
theorem GoQ.two {o1 o2 : Oper} {wr1 wr2 r1 r2 : List HL} {next1 next2 : St → Prop} (hi1 : all[i]? = some o1) (hi2 : all[j]? = some o2) (hn1 : (i != j0) = true) (hn2 : (j != j0) = true) (hg1 : Lets X all s o1.guard) (hg2 : Lets X all s o2.guard)
    (he1 : Eff X o1 s wr1 next1) (he2 : Eff X o2 s wr2 next2) (ht1 : Take s.heap (wr1 ++ H0) r1) (ht2 : Take s.heap (wr2 ++ H0) r2) (h1 : ∀ s', next1 s' → GoQ X fn R all H0 j0 p1 k s') (h2 : ∀ s', next2 s' → GoQ X fn R all H0 j0 p2 k s') :
    GoQ X fn R all H0 j0 (.two i j p1 p2) k s :=
  ⟨fun I a w wR fuel listed hs hS hH hns hp hl hcl => by
    cases fuel with
    | zero => simp [planOk] at hp
    | succ f =>
      simp only [planOk, Bool.and_eq_true, decide_eq_true_eq] at hp
      refine ⟨fun h0 => absurd (hp.1.1 ▸ h0) (by simp), fun i' hi' => ?_⟩
      have hi2' := hi'
      rw [hp.1.1] at hi2'
      rcases List.mem_cons.1 hi2' with rfl | hi3
      · exact step_oneQ hi1 hn1 hg1 he1 ht1 h1 hs hS hH hns hp.1.2 hl hcl hi'
      · have : i' = j := by simpa using hi3
        subst this
        exact step_oneQ hi2 hn2 hg2 he2 ht2 h2 hs hS hH hns hp.2 hl hcl hi'⟩
theorem GoQ.fork3 (F : BK → BK → BK → St) {o1 o2 : Oper} {wr1 wr2 r1 r2 : List HL} {next1 next2 : St → Prop} (hi1 : all[i]? = some o1) (hi2 : all[j]? = some o2) (hn1 : (i != j0) = true) (hn2 : (j != j0) = true) (hg1 : Lets X all s o1.guard) (hg2 : Lets X all s o2.guard)
    (he1 : Eff X o1 s wr1 next1) (he2 : Eff X o2 s wr2 next2) (ht1 : Take s.heap (wr1 ++ H0) r1) (ht2 : Take s.heap (wr2 ++ H0) r2) (h1 : (∀ a b c, GoK X fn R k (F a b c)) → ∀ s', next1 s' → GoQ X fn R all H0 j0 p1 k s') (h2 : (∀ a b c, GoK X fn R k (F a b c)) → ∀ s', next2 s' → GoQ X fn R all H0 j0 p2 k s') (hQ : ∀ a b c, GoK X fn R k (F a b c)) :
    GoQ X fn R all H0 j0 (.two i j p1 p2) k s := GoQ.two hi1 hi2 hn1 hn2 hg1 hg2 he1 he2 ht1 ht2 (h1 hQ) (h2 hQ)
theorem GoQ.fork4 (F : BK → BK → BK → BK → St) {o1 o2 : Oper} {wr1 wr2 r1 r2 : List HL} {next1 next2 : St → Prop} (hi1 : all[i]? = some o1) (hi2 : all[j]? = some o2) (hn1 : (i != j0) = true) (hn2 : (j != j0) = true) (hg1 : Lets X all s o1.guard) (hg2 : Lets X all s o2.guard)
    (he1 : Eff X o1 s wr1 next1) (he2 : Eff X o2 s wr2 next2) (ht1 : Take s.heap (wr1 ++ H0) r1) (ht2 : Take s.heap (wr2 ++ H0) r2) (h1 : (∀ a b c d, GoK X fn R k (F a b c d)) → ∀ s', next1 s' → GoQ X fn R all H0 j0 p1 k s') (h2 : (∀ a b c d, GoK X fn R k (F a b c d)) → ∀ s', next2 s' → GoQ X fn R all H0 j0 p2 k s') (hQ : ∀ a b c d, GoK X fn R k (F a b c d)) :
    GoQ X fn R all H0 j0 (.two i j p1 p2) k s := GoQ.two hi1 hi2 hn1 hn2 hg1 hg2 he1 he2 ht1 ht2 (h1 hQ) (h2 hQ)
/-- .. the operation that writes makes memory immutable, too -/
theorem GoQ.lastG {o : Oper} {wr r : List HL} {next : St → Prop} (hi : all[j0]? = some o) (hg : Lets X all s o.guard) (he : EffG X o s wr next) (ht : Take s.heap wr r) (h : ∀ s', next s' → GoP X fn R all [] p k s') :
    GoQ X fn R all H0 j0 (.one j0 p) k s :=
  ⟨fun I a w wR fuel listed hs hS hH hns hp hl _ => by
    cases fuel with
    | zero => simp [planOk] at hp
    | succ f =>
      simp only [planOk, Bool.and_eq_true, decide_eq_true_eq] at hp
      refine ⟨fun h0 => absurd (hp.1 ▸ h0) (by simp), fun i' hi' => ?_⟩
      have : i' = j0 := by rw [hp.1] at hi'; simpa using hi'
      subst this
      have h1 := step_oneG (H0 := []) hi hg he (by simpa using ht) h hs hS.nil (fun b ⟨z, hz, _⟩ => absurd hz (by simp)) hns hp.2
      refine wpOp_mono (fun a' w' h' => ?_) h1
      have hl' : (listed.setIfInBounds i' true).getD i' true = true := by
        by_cases c : i' < listed.size
        · simp [c]
        · simp [c]
      exact ⟨⟨fun z => (by rw [hl'] at z; cases z), h'.1⟩, wpAnyL_of_H f _ a' w' hl' h'.2⟩⟩
theorem GoQ.lastCG {o : Oper} {wr r : List HL} {post : D → List HL → Prop} {F : D → List HL → St} (hi : all[j0]? = some o) (hg : Lets X all s o.guard) (he : EffG X o s wr (fun s2 => ∃ r H', post r H' ∧ s2 = F r H')) (ht : Take s.heap wr r)
    (h : ∀ r H', post r H' → GoP X fn R all [] p k (F r H')) : GoQ X fn R all H0 j0 (.one j0 p) k s := GoQ.lastG hi hg he ht fun _ ⟨r, H', hp, e⟩ => e ▸ h r H' hp
end
end
end Go.Proofs.Ytgkcmjmofcekmaa.Sx
