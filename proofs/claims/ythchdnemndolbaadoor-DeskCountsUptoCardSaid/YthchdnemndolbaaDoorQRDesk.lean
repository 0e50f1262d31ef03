import Derived.Test.YthchdnemndolbaaDoorCards
import Derived.Test.YthchdnemndolbaaDoorTie
import Derived.WalkKit
import Derived.ProofKit
import Derived.OpenShut
import Derived.Deep.DeepHandedRow
import Derived.Lib.LaidTab
import Derived.Stop.LaidErr
import Derived.Test.YthchdnemndolbaaDoorQFrame
import Derived.Test.YthchdnemndolbaaDoorQDeskFront
import Derived.Test.YthchdnemndolbaaDoorQDeskCounts
namespace Go.Proofs.YthchdnemndolbaaDoor
open Go Go.ChangeShapes Go.WideShapes Go.ChangeAt Go.RowKit Go.Proofs.YthchdnemndolbaaDoor.Sx
set_option linter.unusedVariables false
theorem own_ : ownKnob Tryd.prog.godebug = none := by kernel_rfl
theorem laidOut_ : laidOutB Tryd.prog = true := by kernel_rfl
theorem str_bulk {H : Type} {enc : TypeId × Value → H} {P : Program} {W : World} {base : Nat} {t : TypeId} {s : ByteArray} {d : DataW H} {p : List MemPlace} (ht : P.underlying t = some .string) (h : DataW.Trod enc P W base (fun _ => true) true t (.string s) d p) : s.size ≤ Rows.uptoBulk d := by
  obtain ⟨fuel, hf⟩ := h
  obtain ⟨z, hz, hx, _⟩ := DataW.trod_string ht hf
  have e : s = z := by simpa [Value.cells] using hz
  subst e
  have hd : d = .lit (.string s.data.toList) := congrArg Prod.fst hx
  subst hd
  have : s.data.toList.length = s.size := by rw [Array.length_toList]; rfl
  unfold Rows.uptoBulk
  omega
theorem tab_of {W : World} {x y : String × DataW Unit} {rest : List (String × DataW Unit)} (h : laidMet Tryd.prog (x :: y :: ("internal/strconv.uint64pow10", Rows.laid_internal_strconv_uint64pow10) :: rest) W) : Tab Tryd.prog (Old W) W := fun g hg => by
  obtain rfl : g = 3 := Option.some.inj (hg.symm.trans (show Tryd.prog.globalNamed "internal/strconv.uint64pow10" = some 3 by kernel_rfl))
  have ht : Lib.TabIs Tryd.prog W "internal/strconv.uint64pow10" .u64 Lib.pow10Tab :=
    Lib.tabIs_of_head (P := Tryd.prog) (g := 3) (t := 116) (e := 90) (n := 20) (rest := rest) (by kernel_rfl) (by kernel_rfl) Tryd.underlying116 Tryd.underlying90 (by kernel_rfl) (by kernel_rfl) h.tail.tail
  refine ⟨?_, ht⟩
  have h1 : W.var? Tryd.prog "internal/strconv.uint64pow10" = some _ := ht
  unfold World.var? at h1
  rw [hg] at h1
  show 3 < W.heap.size
  by_cases c : 3 < W.heap.size
  · exact c
  · rw [Option.bind_some, Array.getElem?_eq_none (by omega)] at h1
    cases h1
def cells1 : DataW Unit → List Value
  | .lit (.int k z) => [.int k z]
  | _ => []
def cells2 : DataW Unit → List Value
  | .lit (.int k z) => [.int k z]
  | .agg l => l.flatMap cells1
  | _ => []
def cellsOf' : DataW Unit → Array Value
  | .agg l => (l.flatMap cells2).toArray
  | _ => #[]
def laying (d : DataW Unit) : Obj → Obj
  | .cells _ t frozen => .cells (cellsOf' d) t frozen
  | o => o
noncomputable def laidWorld (os : Os) : World :=
  { World.holding Tryd.prog os ⟨#[], #[], []⟩ with heap := ((((((World.holding Tryd.prog os ⟨#[], #[], []⟩).heap.modify 4 (laying Rows.laid_math_bits_deBruijn32tab)).modify 5 (laying Rows.laid_math_bits_deBruijn64tab)).modify 3 (laying Rows.laid_internal_strconv_uint64pow10)).modify 2 (laying Rows.laid_unicode_utf8_acceptRanges)).modify 1 (laying Rows.laid_unicode_utf8_first)) }
theorem front_laid (os : Os) : laidMet Tryd.prog Rows.deskFrontUptoRow.laid ((laidWorld os).forCall (fun _ _ => 0) ⟨#[], #[.string ByteArray.empty, .string ByteArray.empty], []⟩).memory :=
  laidMet_of_run' 8 (by kernel_rfl) (by kernel_rfl)
theorem front_reads (os : Os) {H : Type} (enc : TypeId × Value → H) : ∃ places, DataW.whole enc Tryd.prog ((laidWorld os).forCall (fun _ _ => 0) ⟨#[], #[.string ByteArray.empty, .string ByteArray.empty], []⟩).memory Tryd.f3.params.toList Rows.deskFrontSpec.vars false #[Value.string ByteArray.empty, Value.string ByteArray.empty].toList 8 = some ([.lit (.string []), .lit (.string [])], [], places) :=
  ⟨[], by kernel_rfl⟩
set_option maxRecDepth 100000 in
theorem front_lifted (os : Os) (started : os.Started) (H : Type) (enc : TypeId × Value → H) (F : Stop.Interp) :
    ReturnsInHanded {} Tryd.checked os 3 .any ((Rows.OpenSpec.upto Rows.deskFrontSpec).preRow enc Tryd.prog Tryd.f3 Rows.deskFrontUptoRow.domain false Rows.deskFrontUptoRow.laid) (((Rows.OpenSpec.upto Rows.deskFrontSpec).at F).post enc Tryd.prog Tryd.f3 false true false false) := by
  obtain ⟨places, hx⟩ := front_reads os enc
  refine returnsInHanded_of_row (C := Tryd.checked) (s := Rows.OpenSpec.upto Rows.deskFrontSpec) own_ started (by kernel_rfl) Tryd.func3
    (witness_row_at (enc := enc) (C := Tryd.checked) false (laidWorld os) #[.string ByteArray.empty, .string ByteArray.empty] rfl (by kernel_rfl) (by kernel_rfl) (by kernel_rfl)
      (OpenSpec.preRow_of_cond 8 hx (by kernel_rfl) (fun k hk => by cases hk; kernel_rfl) (by kernel_rfl) (front_laid os))) ?_
  intro W base args ds gs before hval0 hW _ hcond _ hL _ _
  have hk_ : Rows.uptoSmall H (ds ++ gs) = true := hcond _ rfl
  have hval : ∀ (j : Nat) t v, Tryd.f3.params[j]? = some t → args[j]? = some v → Value.okWide Tryd.prog W .any base t v := hval0
  have hW1 : DataW.Whole enc Tryd.prog Tryd.f3.params.toList Rows.deskFrontSpec.vars false W args.toList ds gs before := hW
  obtain ⟨p, q, hA0, hV, hbe, hfz, hnd⟩ := hW
  have hA : DataW.TrodAll enc Tryd.prog W 0 (fun _ => true) true Tryd.f3.params.toList args.toList ds p := hA0
  have hA2 := hA
  rw [Tryd.params3] at hA hval
  obtain ⟨v0, v1, d0, d1, p0, p1, rfl, rfl, hp, h0, h1⟩ := trodAll_two hA
  have hgs : gs = [] := (trodVars_none hV).1
  obtain ⟨g0, rfl, in0⟩ := rd_str Tryd.underlying9 (hval 0 9 v0 rfl rfl) h0
  obtain ⟨g1, rfl, in1⟩ := rd_str Tryd.underlying9 (hval 1 9 v1 rfl rfl) h1
  have z0 : g0.size ≤ 1048576 := Nat.le_trans (str_bulk Tryd.underlying9 h0) (bulk_small hk_ (by simp))
  have z1 : g1.size ≤ 1048576 := Nat.le_trans (str_bulk Tryd.underlying9 h1) (bulk_small hk_ (by simp))
  refine (weirkeep_DeskFront_spec g0 g1 (DeskFront_true g0 g1 z0 z1) (Old W) W [_, _] ⟨_, _, rfl, rfl, ⟨_, _, rfl, rfl, rfl⟩⟩ hok_nil (fun _ h => h) (tab_of hL)).mono ?_
  rintro e W1 ⟨v, d, H1, N1, rfl, ⟨rfl, rfl⟩, hr, _, _, _, hsame⟩
  have hv : v = .bool true := hr
  subst hv
  exact ⟨_, rfl, law_post laidOut_ hW1 hA2 (fun x hx => by rw [hbe]; exact List.mem_append_left _ hx) hsame.below (by kernel_rfl) rfl Tryd.underlying4 rfl (by subst hgs; rfl)⟩
theorem front_upto : Rows.DeskFrontUptoSaid :=
  OpenClaim.holds_of_cond 3 Tryd.f3 rfl rfl rfl rfl rfl rfl rfl ⟨rfl, rfl, rfl, rfl, rfl⟩ rfl rfl rfl rfl rfl (by kernel_rfl) Tryd.func3 (by kernel_rfl)
    (of_decide_eq_true (by kernel_rfl)) (by unfold Func.isWrapper; first | (rw [if_pos (by decide +kernel)]; kernel_rfl) | (rw [if_neg (by decide +kernel)]; exact ⟨rfl, rfl⟩))
    (fun os started H enc _ F => by rw [OpenClaim.pre_eq_preRow]; exact front_lifted os started H enc F)
theorem front_plain (f : FuncId) (fn : Func) (hf : Tryd.pinned.checked.prog.funcNamed "weirmaster/weirkeep.DeskFront" = some f) (hfn : Tryd.pinned.checked.prog.funcs[f]? = some fn) :
    true = Tryd.pinned.checked.prog.looks [] ∧ ∀ (j : Nat) t, fn.params[j]? = some t → Tryd.pinned.checked.prog.wantsStandIn t = false := by
  obtain rfl : f = 3 := Option.some.inj ((show Tryd.prog.funcNamed "weirmaster/weirkeep.DeskFront" = some 3 by kernel_rfl).symm.trans hf) |>.symm
  obtain rfl : fn = Tryd.f3 := (Option.some.inj (Tryd.func3.symm.trans hfn)).symm
  refine ⟨by kernel_rfl, fun j t ht => ?_⟩
  rw [Tryd.params3] at ht
  obtain rfl : t = 9 := by simpa using Array.mem_of_getElem? ht
  exact (show Tryd.prog.wantsStandIn 9 = false by kernel_rfl)
theorem deskFrontUptoCard_holds : Rows.DeskFrontUptoCardSaid :=
  Claim7.holds_tied_plain_at .later [] _ _ _ _ front_upto (fun _ h => by cases h) (by kernel_rfl) (fun _ h => by cases h) deskFrontUpto_row_tie rfl ⟨rfl, rfl⟩ (by kernel_rfl) rfl front_plain (by kernel_rfl)
theorem counts_laid (os : Os) : laidMet Tryd.prog Rows.deskCountsUptoRow.laid ((laidWorld os).forCall (fun _ _ => 0) ⟨#[], #[.string ByteArray.empty], []⟩).memory :=
  laidMet_of_run' 8 (by kernel_rfl) (by kernel_rfl)
theorem counts_reads (os : Os) {H : Type} (enc : TypeId × Value → H) : ∃ places, DataW.whole enc Tryd.prog ((laidWorld os).forCall (fun _ _ => 0) ⟨#[], #[.string ByteArray.empty], []⟩).memory Tryd.f4.params.toList Rows.deskCountsSpec.vars false #[Value.string ByteArray.empty].toList 8 = some ([.lit (.string [])], [], places) :=
  ⟨[], by kernel_rfl⟩
set_option maxRecDepth 100000 in
theorem counts_lifted (os : Os) (started : os.Started) (H : Type) (enc : TypeId × Value → H) (F : Stop.Interp) :
    ReturnsInHanded {} Tryd.checked os 4 .any ((Rows.OpenSpec.upto Rows.deskCountsSpec).preRow enc Tryd.prog Tryd.f4 Rows.deskCountsUptoRow.domain false Rows.deskCountsUptoRow.laid) (((Rows.OpenSpec.upto Rows.deskCountsSpec).at F).post enc Tryd.prog Tryd.f4 false true false false) := by
  obtain ⟨places, hx⟩ := counts_reads os enc
  refine returnsInHanded_of_row (C := Tryd.checked) (s := Rows.OpenSpec.upto Rows.deskCountsSpec) own_ started (by kernel_rfl) Tryd.func4
    (witness_row_at (enc := enc) (C := Tryd.checked) false (laidWorld os) #[.string ByteArray.empty] rfl (by kernel_rfl) (by kernel_rfl) (by kernel_rfl)
      (OpenSpec.preRow_of_cond 8 hx (by kernel_rfl) (fun k hk => by cases hk; kernel_rfl) (by kernel_rfl) (counts_laid os))) ?_
  intro W base args ds gs before hval0 hW _ hcond _ hL _ _
  have hk_ : Rows.uptoSmall H (ds ++ gs) = true := hcond _ rfl
  have hval : ∀ (j : Nat) t v, Tryd.f4.params[j]? = some t → args[j]? = some v → Value.okWide Tryd.prog W .any base t v := hval0
  have hW1 : DataW.Whole enc Tryd.prog Tryd.f4.params.toList Rows.deskCountsSpec.vars false W args.toList ds gs before := hW
  obtain ⟨p, q, hA0, hV, hbe, hfz, hnd⟩ := hW
  have hA : DataW.TrodAll enc Tryd.prog W 0 (fun _ => true) true Tryd.f4.params.toList args.toList ds p := hA0
  have hA2 := hA
  rw [Tryd.params4] at hA hval
  obtain ⟨v0, d0, rfl, rfl, h0⟩ := trodAll_one hA
  have hgs : gs = [] := (trodVars_none hV).1
  obtain ⟨g0, rfl, in0⟩ := rd_str Tryd.underlying9 (hval 0 9 v0 rfl rfl) h0
  have z0 : g0.size ≤ 1048576 := Nat.le_trans (str_bulk Tryd.underlying9 h0) (bulk_small hk_ (by simp))
  refine (weirkeep_DeskCounts_spec g0 (DeskCounts_true g0 z0) (Old W) W [_] ⟨_, _, rfl, rfl, rfl⟩ hok_nil (fun _ h => h) (tab_of hL)).mono ?_
  rintro e W1 ⟨v, d, H1, N1, rfl, ⟨rfl, rfl⟩, hr, _, _, _, hsame⟩
  have hv : v = .bool true := hr
  subst hv
  exact ⟨_, rfl, law_post laidOut_ hW1 hA2 (fun x hx => by rw [hbe]; exact List.mem_append_left _ hx) hsame.below (by kernel_rfl) rfl Tryd.underlying4 rfl (by subst hgs; rfl)⟩
theorem counts_upto : Rows.DeskCountsUptoSaid :=
  OpenClaim.holds_of_cond 4 Tryd.f4 rfl rfl rfl rfl rfl rfl rfl ⟨rfl, rfl, rfl, rfl, rfl⟩ rfl rfl rfl rfl rfl (by kernel_rfl) Tryd.func4 (by kernel_rfl)
    (of_decide_eq_true (by kernel_rfl)) (by unfold Func.isWrapper; first | (rw [if_pos (by decide +kernel)]; kernel_rfl) | (rw [if_neg (by decide +kernel)]; exact ⟨rfl, rfl⟩))
    (fun os started H enc _ F => by rw [OpenClaim.pre_eq_preRow]; exact counts_lifted os started H enc F)
theorem counts_plain (f : FuncId) (fn : Func) (hf : Tryd.pinned.checked.prog.funcNamed "weirmaster/weirkeep.DeskCounts" = some f) (hfn : Tryd.pinned.checked.prog.funcs[f]? = some fn) :
    true = Tryd.pinned.checked.prog.looks [] ∧ ∀ (j : Nat) t, fn.params[j]? = some t → Tryd.pinned.checked.prog.wantsStandIn t = false := by
  obtain rfl : f = 4 := Option.some.inj ((show Tryd.prog.funcNamed "weirmaster/weirkeep.DeskCounts" = some 4 by kernel_rfl).symm.trans hf) |>.symm
  obtain rfl : fn = Tryd.f4 := (Option.some.inj (Tryd.func4.symm.trans hfn)).symm
  refine ⟨by kernel_rfl, fun j t ht => ?_⟩
  rw [Tryd.params4] at ht
  obtain rfl : t = 9 := by simpa using Array.mem_of_getElem? ht
  exact (show Tryd.prog.wantsStandIn 9 = false by kernel_rfl)
theorem deskCountsUptoCard_holds : Rows.DeskCountsUptoCardSaid :=
  Claim7.holds_tied_plain_at .later [] _ _ _ _ counts_upto (fun _ h => by cases h) (by kernel_rfl) (fun _ h => by cases h) deskCountsUpto_row_tie rfl ⟨rfl, rfl⟩ (by kernel_rfl) rfl counts_plain (by kernel_rfl)
end Go.Proofs.YthchdnemndolbaaDoor
