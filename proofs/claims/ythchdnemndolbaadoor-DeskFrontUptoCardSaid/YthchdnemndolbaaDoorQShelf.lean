import Derived.Shelf.Strconv.Itoa3
import Derived.Shelf.Strings.Split
import Derived.Test.YthchdnemndolbaaDoorProg
import Derived.Test.YthchdnemndolbaaDoorQTys
import Derived.Laws.Pointers
namespace Go.Proofs
open Go.Shelf
def Tryd.laysM171_ren : Go.Shelf.Ren := ⟨fun | 171 => 17 | 243 => 24 | 246 => 39 | 283 => 51 | 284 => 52 | 285 => 53 | 286 => 54 | 129 => 71 | 317 => 70 | 318 => 72 | 319 => 73 | 320 => 74 | 337 => 88 | 338 => 89 | n => n, fun | 3 => 3 | 9 => 9 | 2 => 2 | 4 => 4 | 171 => 89 | 0 => 0 | 53 => 90 | 37 => 93 | 5 => 5 | 173 => 94 | 212 => 116 | 51 => 86 | 20 => 20 | 213 => 117 | 46 => 76 | 232 => 145 | 233 => 146 | n => n, fun | 17 => 3 | 18 => 4 | 19 => 5 | n => n⟩
theorem Tryd.laysM171 : Go.Proofs.LaysM.n171 Tryd.prog Tryd.laysM171_ren := {
  mixed := by kernel_rfl
  f129 := Tryd.func71.trans (congrArg some (by kernel_rfl))
  f171 := Tryd.func17.trans (congrArg some (by kernel_rfl))
  f243 := Tryd.func24.trans (congrArg some (by kernel_rfl))
  f246 := Tryd.func39.trans (congrArg some (by kernel_rfl))
  f283 := Tryd.func51.trans (congrArg some (by kernel_rfl))
  f284 := Tryd.func52.trans (congrArg some (by kernel_rfl))
  f285 := Tryd.func53.trans (congrArg some (by kernel_rfl))
  f286 := Tryd.func54.trans (congrArg some (by kernel_rfl))
  f317 := Tryd.func70.trans (congrArg some (by kernel_rfl))
  f318 := Tryd.func72.trans (congrArg some (by kernel_rfl))
  f319 := Tryd.func73.trans (congrArg some (by kernel_rfl))
  f320 := Tryd.func74.trans (congrArg some (by kernel_rfl))
  f337 := Tryd.func88.trans (congrArg some (by kernel_rfl))
  f338 := Tryd.func89.trans (congrArg some (by kernel_rfl))
  t0 := Tryd.underlying0
  a0 := Tryd.isAgg0
  z0 := Tryd.sizeOf0
  v0 := Tryd.zeroValue0
  t2 := Tryd.underlying2
  a2 := Tryd.isAgg2
  z2 := Tryd.sizeOf2
  v2 := Tryd.zeroValue2
  t3 := Tryd.underlying3
  a3 := Tryd.isAgg3
  z3 := Tryd.sizeOf3
  v3 := Tryd.zeroValue3
  t4 := Tryd.underlying4
  a4 := Tryd.isAgg4
  z4 := Tryd.sizeOf4
  v4 := Tryd.zeroValue4
  t5 := Tryd.underlying5
  a5 := Tryd.isAgg5
  z5 := Tryd.sizeOf5
  v5 := Tryd.zeroValue5
  t9 := Tryd.underlying9
  a9 := Tryd.isAgg9
  z9 := Tryd.sizeOf9
  v9 := Tryd.zeroValue9
  t20 := Tryd.underlying20
  a20 := Tryd.isAgg20
  z20 := Tryd.sizeOf20
  v20 := Tryd.zeroValue20
  t37 := Tryd.underlying93
  a37 := Tryd.isAgg93
  z37 := Tryd.sizeOf93
  v37 := Tryd.zeroValue93
  t46 := Tryd.underlying76
  a46 := Tryd.isAgg76
  z46 := Tryd.sizeOf76
  v46 := Tryd.zeroValue76
  t51 := Tryd.underlying86
  a51 := Tryd.isAgg86
  z51 := Tryd.sizeOf86
  v51 := Tryd.zeroValue86
  t53 := Tryd.underlying90
  a53 := Tryd.isAgg90
  z53 := Tryd.sizeOf90
  v53 := Tryd.zeroValue90
  t171 := Tryd.underlying89
  a171 := Tryd.isAgg89
  z171 := Tryd.sizeOf89
  v171 := Tryd.zeroValue89
  t173 := Tryd.underlying94
  a173 := Tryd.isAgg94
  z173 := Tryd.sizeOf94
  v173 := Tryd.zeroValue94
  t212 := Tryd.underlying116
  a212 := Tryd.isAgg116
  z212 := Tryd.sizeOf116
  v212 := Tryd.zeroValue116
  t213 := Tryd.underlying117
  a213 := Tryd.isAgg117
  z213 := Tryd.sizeOf117
  t232 := Tryd.underlying145
  a232 := Tryd.isAgg145
  z232 := Tryd.sizeOf145
  v232 := Tryd.zeroValue145
  t233 := Tryd.underlying146
  a233 := Tryd.isAgg146
  z233 := Tryd.sizeOf146
  v233 := Tryd.zeroValue146
  g17 := by kernel_rfl
  g18 := by kernel_rfl
  g19 := by kernel_rfl
  i0 := by kernel_rfl
  i2 := by kernel_rfl
  i3 := by kernel_rfl
  i4 := by kernel_rfl
  i5 := by kernel_rfl
  i9 := by kernel_rfl
  i20 := by kernel_rfl
  i37 := by kernel_rfl
  i46 := by kernel_rfl
  i51 := by kernel_rfl
  i53 := by kernel_rfl
  i171 := by kernel_rfl
  i173 := by kernel_rfl
  i212 := by kernel_rfl
  i232 := by kernel_rfl
  i233 := by kernel_rfl
  m17 := by kernel_rfl
  m18 := by kernel_rfl
  m19 := by kernel_rfl }
def Tryd.lays144_ren : Go.Shelf.Ren := ⟨fun | 144 => 10 | 143 => 15 | 219 => 23 | 217 => 35 | 225 => 36 | 224 => 37 | 267 => 38 | 266 => 49 | 314 => 50 | n => n, fun | 9 => 9 | 4 => 4 | 3 => 3 | 5 => 5 | 46 => 76 | 146 => 87 | 51 => 86 | n => n, fun | 1 => 0 | n => n⟩
theorem Tryd.lays144 : Go.Proofs.Lays.n144 Tryd.prog Tryd.lays144_ren := {
  mixed := by kernel_rfl
  f143 := Tryd.func15.trans (congrArg some (by kernel_rfl))
  f144 := Tryd.func10.trans (congrArg some (by kernel_rfl))
  f217 := Tryd.func35.trans (congrArg some (by kernel_rfl))
  f219 := Tryd.func23.trans (congrArg some (by kernel_rfl))
  f224 := Tryd.func37.trans (congrArg some (by kernel_rfl))
  f225 := Tryd.func36.trans (congrArg some (by kernel_rfl))
  f266 := Tryd.func49.trans (congrArg some (by kernel_rfl))
  f267 := Tryd.func38.trans (congrArg some (by kernel_rfl))
  f314 := Tryd.func50.trans (congrArg some (by kernel_rfl))
  t3 := Tryd.underlying3
  a3 := Tryd.isAgg3
  z3 := Tryd.sizeOf3
  v3 := Tryd.zeroValue3
  t4 := Tryd.underlying4
  a4 := Tryd.isAgg4
  z4 := Tryd.sizeOf4
  v4 := Tryd.zeroValue4
  t5 := Tryd.underlying5
  a5 := Tryd.isAgg5
  z5 := Tryd.sizeOf5
  v5 := Tryd.zeroValue5
  t9 := Tryd.underlying9
  a9 := Tryd.isAgg9
  z9 := Tryd.sizeOf9
  v9 := Tryd.zeroValue9
  t46 := Tryd.underlying76
  a46 := Tryd.isAgg76
  z46 := Tryd.sizeOf76
  v46 := Tryd.zeroValue76
  t51 := Tryd.underlying86
  a51 := Tryd.isAgg86
  z51 := Tryd.sizeOf86
  v51 := Tryd.zeroValue86
  t146 := Tryd.underlying87
  a146 := Tryd.isAgg87
  z146 := Tryd.sizeOf87
  v146 := Tryd.zeroValue87
  g1 := by kernel_rfl }
def Tryd.lays146_ren : Go.Shelf.Ren := ⟨fun | 146 => 7 | 221 => 13 | 268 => 21 | 138 => 22 | 143 => 15 | 195 => 32 | 197 => 33 | 218 => 34 | 219 => 23 | 260 => 48 | 217 => 35 | 225 => 36 | 224 => 37 | 267 => 38 | 266 => 49 | 314 => 50 | n => n, fun | 9 => 9 | 31 => 22 | 3 => 3 | 4 => 4 | 0 => 0 | 105 => 72 | 21 => 21 | 5 => 5 | 46 => 76 | 119 => 111 | 139 => 114 | 138 => 113 | 146 => 87 | 51 => 86 | n => n, fun | 1 => 0 | 3 => 1 | 4 => 2 | n => n⟩
theorem Tryd.lays146 : Go.Proofs.Lays.n146 Tryd.prog Tryd.lays146_ren := {
  mixed := by kernel_rfl
  f138 := Tryd.func22.trans (congrArg some (by kernel_rfl))
  f143 := Tryd.func15.trans (congrArg some (by kernel_rfl))
  f146 := Tryd.func7.trans (congrArg some (by kernel_rfl))
  f195 := Tryd.func32.trans (congrArg some (by kernel_rfl))
  f197 := Tryd.func33.trans (congrArg some (by kernel_rfl))
  f217 := Tryd.func35.trans (congrArg some (by kernel_rfl))
  f218 := Tryd.func34.trans (congrArg some (by kernel_rfl))
  f219 := Tryd.func23.trans (congrArg some (by kernel_rfl))
  f221 := Tryd.func13.trans (congrArg some (by kernel_rfl))
  f224 := Tryd.func37.trans (congrArg some (by kernel_rfl))
  f225 := Tryd.func36.trans (congrArg some (by kernel_rfl))
  f260 := Tryd.func48.trans (congrArg some (by kernel_rfl))
  f266 := Tryd.func49.trans (congrArg some (by kernel_rfl))
  f267 := Tryd.func38.trans (congrArg some (by kernel_rfl))
  f268 := Tryd.func21.trans (congrArg some (by kernel_rfl))
  f314 := Tryd.func50.trans (congrArg some (by kernel_rfl))
  t0 := Tryd.underlying0
  a0 := Tryd.isAgg0
  z0 := Tryd.sizeOf0
  v0 := Tryd.zeroValue0
  t3 := Tryd.underlying3
  a3 := Tryd.isAgg3
  z3 := Tryd.sizeOf3
  v3 := Tryd.zeroValue3
  t4 := Tryd.underlying4
  a4 := Tryd.isAgg4
  z4 := Tryd.sizeOf4
  v4 := Tryd.zeroValue4
  t5 := Tryd.underlying5
  a5 := Tryd.isAgg5
  z5 := Tryd.sizeOf5
  v5 := Tryd.zeroValue5
  t9 := Tryd.underlying9
  a9 := Tryd.isAgg9
  z9 := Tryd.sizeOf9
  v9 := Tryd.zeroValue9
  t21 := Tryd.underlying21
  a21 := Tryd.isAgg21
  z21 := Tryd.sizeOf21
  v21 := Tryd.zeroValue21
  t31 := Tryd.underlying22
  a31 := Tryd.isAgg22
  z31 := Tryd.sizeOf22
  v31 := Tryd.zeroValue22
  t46 := Tryd.underlying76
  a46 := Tryd.isAgg76
  z46 := Tryd.sizeOf76
  v46 := Tryd.zeroValue76
  t51 := Tryd.underlying86
  a51 := Tryd.isAgg86
  z51 := Tryd.sizeOf86
  v51 := Tryd.zeroValue86
  t105 := Tryd.underlying72
  a105 := Tryd.isAgg72
  z105 := Tryd.sizeOf72
  v105 := Tryd.zeroValue72
  t119 := Tryd.underlying111
  a119 := Tryd.isAgg111
  z119 := Tryd.sizeOf111
  t138 := Tryd.underlying113
  a138 := Tryd.isAgg113
  z138 := Tryd.sizeOf113
  v138 := Tryd.zeroValue113
  t139 := Tryd.underlying114
  a139 := Tryd.isAgg114
  z139 := Tryd.sizeOf114
  v139 := Tryd.zeroValue114
  t146 := Tryd.underlying87
  a146 := Tryd.isAgg87
  z146 := Tryd.sizeOf87
  v146 := Tryd.zeroValue87
  g1 := by kernel_rfl
  g3 := by kernel_rfl
  g4 := by kernel_rfl }
open Go.RowKit Go.Sort Go.Lib in
theorem Tryd.strconv_Itoa (n : Int) (h0 : -9223372036854775808 ≤ n) (h1 : n ≤ 9223372036854775807) (w : World) (htab : Lib.TabIs Tryd.prog w "internal/strconv.uint64pow10" .u64 Lib.pow10Tab) :
    Calls Tryd.prog 17 #[.int .i64 n] w fun e w' => e = .returned (.string ⟨(Lib.itoa n).toArray⟩) ∧ ∃ k os, w' = grow (w.drewN k) os := Any.strconv_Itoa Tryd.laysM171 n h0 h1 w htab
open Go.RowKit Go.Lib in
theorem Tryd.strings_Contains_one (s : ByteArray) (c : UInt8) (w : World) :
    Calls Tryd.prog 10 #[.string s, .string ⟨#[c]⟩] w fun e w' => e = .returned (.bool (decide (0 ≤ Lib.indexByte s.data.toList c))) ∧ w' = w := Any.strings_Contains_one Tryd.lays144 s c w
end Go.Proofs
namespace Go.Proofs.YthchdnemndolbaaDoor
open Go Go.Proofs.YthchdnemndolbaaDoor.Sx
set_option linter.unusedVariables false
set_option linter.unusedSimpArgs false
def strconv_Itoa_F (i : Int) : Option ByteArray := ck (InI i) <| some ⟨(Lib.itoa i).toArray⟩
def strconv_Itoa_P (out : ByteArray) (d : D) (H : List HL) : Prop := d = .v (.string out) ∧ H = []
theorem strconv_Itoa_I (out : ByteArray) : IndepP (strconv_Itoa_P out) := IndepP.of (by rintro _ _ ⟨rfl, rfl⟩; exact ⟨inferInstance, inferInstance⟩)
theorem hok_no {I : Nat → Prop} {w : World} : HOk I w [] := ⟨fun _ h => (by cases h), List.Pairwise.nil, fun _ ⟨_, h, _⟩ => (by cases h)⟩
theorem same_grow (w : World) (k : Nat) (os : Array Obj) (m : Nat → Prop) : Same w (Go.Sort.grow (w.drewN k) os) m := by
  refine ⟨rfl, rfl, rfl, by simp [Go.Sort.grow, World.drewN], fun b hb _ => ?_⟩
  show (w.heap ++ os)[b]? = _
  rw [Array.getElem?_append_left hb]
theorem strconv_Itoa_spec (i : Int) {out : ByteArray} (H : strconv_Itoa_F i = some out) : Does Tryd.prog 17 [.v (.int .i64 i)] [] (strconv_Itoa_P out) := by
  unfold strconv_Itoa_F at H
  have c := ck_l H; replace H := ck_r H
  obtain rfl := Option.some.inj H
  rintro I w vs ⟨v, r, rfl, hv, hr⟩ h2 h3 h4
  obtain rfl : v = .int .i64 i := hv
  obtain rfl : r = [] := hr
  refine (Tryd.strconv_Itoa i c.1 c.2 w (h4 3 (by kernel_rfl)).2).mono ?_
  rintro e w' ⟨rfl, k, os, rfl⟩
  exact ⟨_, _, [], fun _ => False, rfl, ⟨rfl, rfl⟩, rfl, hok_no, fun b h => h.elim, fun b ⟨_, h, _⟩ => (by cases h), same_grow w k os _⟩
def strings_Contains_F (s sub : ByteArray) : Option Bool := ck (sub.size = 1) <| some (decide (0 ≤ Lib.indexByte s.data.toList (sub.data.toList.getD 0 0)))
def strings_Contains_P (out : Bool) (d : D) (H : List HL) : Prop := d = .v (.bool out) ∧ H = []
theorem strings_Contains_I (out : Bool) : IndepP (strings_Contains_P out) := IndepP.of (by rintro _ _ ⟨rfl, rfl⟩; exact ⟨inferInstance, inferInstance⟩)
theorem one_byte {s : ByteArray} (h : s.size = 1) : s = ⟨#[s.data.toList.getD 0 0]⟩ := by
  obtain ⟨c, rfl⟩ := Lib.one_byte s h
  rfl
theorem strings_Contains_spec (s sub : ByteArray) {out : Bool} (H : strings_Contains_F s sub = some out) : Does Tryd.prog 10 [.v (.string s), .v (.string sub)] [] (strings_Contains_P out) := by
  unfold strings_Contains_F at H
  have c := ck_l H; replace H := ck_r H
  obtain rfl := Option.some.inj H
  rintro I w vs ⟨v, r, rfl, hv, v2, r2, rfl, hv2, hr⟩ h2 h3 h4
  obtain rfl : v = .string s := hv
  obtain rfl : v2 = .string sub := hv2
  obtain rfl : r2 = [] := hr
  have e := one_byte c
  generalize sub.data.toList.getD 0 0 = z at *
  subst e
  refine (Tryd.strings_Contains_one s z w).mono ?_
  rintro e w' ⟨rfl, rfl⟩
  exact ⟨_, _, [], fun _ => False, rfl, ⟨rfl, rfl⟩, rfl, hok_no, fun b h => h.elim, fun b ⟨_, h, _⟩ => (by cases h), Same.refl _ _⟩
def strings_Split_F (s sep : ByteArray) : Option (List ByteArray) := ck (sep.size = 1) <| ck (s.size < 4294967281) <| some (Lib.splitB sep 0 (Lib.countB s sep) s)
def strings_Split_P (out : List ByteArray) (d : D) (H : List HL) : Prop := ∃ β1 : BK, d = .own β1 1 0 out.length ∧ H = [.one β1 9 1 (row out)]
theorem strings_Split_I (out : List ByteArray) : IndepP (strings_Split_P out) := IndepP.of (by rintro _ _ ⟨β1, rfl, rfl⟩; exact ⟨inferInstance, inferInstance⟩)
set_option maxHeartbeats 1000000 in
open Go.Shelf Go.RowKit Go.Lib Go.Proofs in
theorem split_calls (s : ByteArray) (z : UInt8) (w : World) (hs : s.size < 4294967281) :
    Calls Tryd.prog 7 #[.string s, .string ⟨#[z]⟩] w fun e w' =>
      e = .returned (.slice (some ⟨w.heap.size, 0, none⟩) (Lib.countB s ⟨#[z]⟩ + 1) (Lib.countB s ⟨#[z]⟩ + 1)) ∧ w' = w.alloc (.cells ((Lib.splitB ⟨#[z]⟩ 0 (Lib.countB s ⟨#[z]⟩) s).map Value.string).toArray 9) := by
  have L := Tryd.lays146
  have h1 : 1 ≤ (⟨#[z]⟩ : ByteArray).size := Nat.le_refl _
  have hi9 : (Tryd.prog.info? 9).map (fun i => (i.zero, i.size, i.bytes)) = some (some (.string ByteArray.empty), 1, 16) := by kernel_rfl
  have hle := Lib.countB_le ⟨#[z]⟩ h1 s.size s (Nat.le_refl _)
  have hlen := Lib.splitB_all ⟨#[z]⟩ h1 0 _ s rfl
  have ec : (Lib.countByte s.data.toList z : Nat) = Lib.countB s ⟨#[z]⟩ := by
    show _ = Lib.count s.data.toList [z]
    rw [Lib.count_one]; rfl
  have ei : ∀ x : ByteArray, Lib.indexByte x.data.toList z = Lib.indexB x ⟨#[z]⟩ := fun x => by
    show _ = Lib.index x.data.toList [z]
    rw [Lib.index_one]
  have c := Any.strings_genSplit_core { L with } hi9 s ⟨#[z]⟩ 0 (-1) (Lib.countB s ⟨#[z]⟩ + 1) w hs h1 (Nat.zero_le _)
    (fun x c hx => (Any.strings_Index_one { L with } x z _).mono fun e w' ⟨he, hw⟩ => ⟨by rw [he, ei x], hw⟩)
    ((Any.strings_Count_one { L with } s z w).mono fun e w' ⟨he, hw⟩ => ⟨by rw [he, ec], hw⟩) (by decide) (by decide) (by rw [if_pos (by decide)]; omega)
  rw [Nat.add_sub_cancel, hlen] at c
  have e2 : Lib.cellsOf (Lib.splitB ⟨#[z]⟩ 0 (Lib.countB s ⟨#[z]⟩) s) (Lib.countB s ⟨#[z]⟩ + 1) = ((Lib.splitB ⟨#[z]⟩ 0 (Lib.countB s ⟨#[z]⟩) s).map Value.string).toArray := by rw [← hlen]; exact Lib.cellsOf_full _
  rw [e2] at c
  have t3 := L.t3; have t9 := L.t9; have t31 := L.t31
  have a3 := L.a3; have a9 := L.a9; have a31 := L.a31
  have z3 := L.z3; have v3 := L.v3; have z9 := L.z9; have v9 := L.v9; have z31 := L.z31; have v31 := L.v31
  have e221 : ∀ args w, (callFunc (Tryd.lays146_ren.f 221) args).run Tryd.prog w = .ok (.enter (Tryd.lays146_ren.f 221) args) w := enters_of L.f221 (by kernel_rfl) rfl
  show Calls Tryd.prog (Tryd.lays146_ren.f 146) _ _ _
  go_enter L.f146, Body.n146_ntmps Tryd.lays146_ren
  go_wp2_with (go_at_fn (Tryd.lays146_ren.f 221); refine c.mono ?_; rintro e w' ⟨rfl, hw⟩; rw [hw])
  go_ret
  exact ⟨rfl, rfl⟩
theorem strings_Split_spec (s sep : ByteArray) {out : List ByteArray} (H : strings_Split_F s sep = some out) : Does Tryd.prog 7 [.v (.string s), .v (.string sep)] [] (strings_Split_P out) := by
  unfold strings_Split_F at H
  have c := ck_l H; replace H := ck_r H
  have hs := ck_l H; replace H := ck_r H
  obtain rfl := Option.some.inj H
  rintro I w vs ⟨v, r, rfl, hv, v2, r2, rfl, hv2, hr⟩ h2 h3 h4
  obtain rfl : v = .string s := hv
  obtain rfl : v2 = .string sep := hv2
  obtain rfl : r2 = [] := hr
  obtain ⟨z, rfl⟩ := Lib.one_byte sep c
  have hlen := Lib.splitB_all ⟨#[z]⟩ (Nat.le_refl 1) 0 _ s rfl
  refine (split_calls s z w hs).mono ?_
  rintro e w' ⟨rfl, rfl⟩
  generalize hL : Lib.splitB ⟨#[z]⟩ 0 (Lib.countB s ⟨#[z]⟩) s = l at *
  have hm : l.length ≤ maxLen := by
    have := Lib.countB_le ⟨#[z]⟩ (Nat.le_refl 1) s.size s (Nat.le_refl _)
    unfold maxLen
    omega
  refine ⟨_, _, [.one ⟨w.heap.size, 0, l.length⟩ 9 1 (row l)], fun _ => False, rfl, ⟨⟨w.heap.size, 0, l.length⟩, rfl, rfl⟩, ?_, ⟨fun x hx => ?_, List.pairwise_singleton _ _, fun b hb => ?_⟩, fun b h => h.elim, fun b hb => ?_, Same.alloc w _ _⟩
  · rw [← hlen]
    exact ⟨_, _, rfl, Nat.le_refl _, hm, by simp, fun _ => by simp⟩
  · rw [List.mem_singleton.1 hx]
    refine ⟨Nat.le_refl _, fun _ => ⟨_, heap_new w _, by simp, fun e he f hf => ?_⟩⟩
    have hf0 : f = 0 := by omega
    subst hf0
    have he' : e < l.length := he
    refine ⟨.string (l.getD e ByteArray.empty), by simp [he'], rfl, rfl⟩
  · obtain ⟨z', hz, hzb⟩ := hb
    rw [List.mem_singleton.1 hz] at hzb
    refine ⟨fun hh => ?_, by rw [hzb.2]; simp⟩
    rcases hh with hh | hh
    · have := h3 b hh
      rw [hzb.2] at this
      exact Nat.lt_irrefl _ this
    · exact hh
  · obtain ⟨z', hz, hzb⟩ := hb
    rw [List.mem_singleton.1 hz] at hzb
    exact .inr (by rw [hzb.2]; exact Nat.le_refl _)
end Go.Proofs.YthchdnemndolbaaDoor
namespace Go.Proofs.YthchdnemndolbaaDoor
open Go Go.Proofs.YthchdnemndolbaaDoor.Sx
set_option linter.unusedVariables false
set_option linter.unusedSimpArgs false
theorem answer_idle (p : Addr) (w : World) :
    CallsD Tryd.prog 16 #[.pointer (some p)] .returning w fun e u' w' => e = .returned (.tuple #[]) ∧ u' = .returning ∧ w' = w := by
  refine callsD_of_wpS Tryd.func16 rfl fun c₀ cs hu => ?_
  apply wpS_seq
  apply wpS_region
  simp [wpOpsS, go_sem, recoverD, hu, Tryd.ntmps16, Exit.thenS]
  apply wpS_seq
  apply wpS_region
  simp [wpOpsS, go_sem, recoverD, hu, Tryd.ntmps16, Exit.thenS]
  refine wpS_cond (t := false) (by simp [Act.eval, Array.replicate]) ?_
  simp only [Bool.false_eq_true, if_false]
  refine wpS_of_wp (wp_skip ?_)
  cases c₀
  simp_all [bodyPostS, results, Tryd.results16]
def errorText (e : Int) : ByteArray := (⟨#[101, 114, 114, 111, 114, 32]⟩ : ByteArray) ++ ⟨(Lib.itoa e).toArray⟩
def boxS (β : BK) (t : ByteArray) : HL := .one β 9 1 (st1 (nth [.v (.string t)]))
theorem ps_assertV {X : Cx} {s : St} {d : Tmp} {ty : TypeId} {pos : String} {aft : Array Edge} {x : Operand} {H1 : List HL} {xt t : TypeId} {v : Value} [ht : NoIfc X.P t] (hx : s.ev x = some (.v (.iface t v))) (hd : Nat.blt d X.nt = true) :
    ∀ g, (∀ I w, Rd I w g v) → PureStep X H1 ⟨some d, .typeAssert x xt t false, ty, pos, aft, none⟩ s (s.put d g) := fun g hg =>
  ps_of hd fun _ a _ hs => by
    have hv : a.eval x = .iface t v := hs.ev hx
    refine ⟨v, fun w' _ => ?_, hg _ _⟩
    obtain ⟨tu, h1, h2⟩ := ht.h
    simp only [execOp, Instr.typeAssert, hv, Sem.run_bind, run_underlying h1, Result.andThen_ok]
    cases tu <;> first | simp | exact absurd rfl (h2 _)
set_option maxRecDepth 100000 in
set_option maxHeartbeats 1000000 in
theorem answer_caught (e : Int) (he : InI e) (hsz : (⟨#[101, 114, 114, 111, 114, 32]⟩ : ByteArray).size + (⟨(Lib.itoa e).toArray⟩ : ByteArray).size ≤ 9223372036854775807) (β : BK) (t0 : ByteArray) (I : Nat → Prop) (w : World) (hok : HOk I w [boxS β t0]) (hI : ∀ b, I b → b < w.heap.size) (tb : Tab Tryd.prog I w) :
    CallsD Tryd.prog 16 #[.pointer (some ⟨β.b, β.o + (0 * 1 + 0), none⟩)] (.panicking [{ v := .iface 51 (.agg #[.int .i64 e]), recovered := false }]) w fun e' u' w' => e' = .returned (.tuple #[]) ∧
      u' = .panicking [{ v := .iface 51 (.agg #[.int .i64 e]), recovered := true }] ∧ (∃ I', (∀ b, I b → I' b) ∧ HOk I' w' [boxS β (errorText e)]) ∧ Same w w' (fps [boxS β t0]) := by
  generalize hZ : (⟨β.b, β.o + (0 * 1 + 0), none⟩ : Addr) = p
  refine callsD_of_wpS Tryd.func16 rfl fun c₀ cs hu => ?_
  apply wpS_seq
  apply wpS_region
  simp [wpOpsS, go_sem, recoverD, hu, Tryd.ntmps16, Exit.thenS]
  apply wpS_seq
  apply wpS_region
  simp [wpOpsS, go_sem, recoverD, hu, Tryd.ntmps16, Exit.thenS]
  refine wpS_cond (t := true) (by simp [Act.eval, Array.replicate]) ?_
  simp only [if_true]
  refine wpS_of_wp ?_
  subst hZ
  have tb2 : TB Tryd.prog w I [boxS β t0] := ⟨tb, fun b hb => ⟨hI b hb, fun hm => (hok.own b hm).1 hb⟩⟩
  have H : strconv_Itoa_F e = some ⟨(Lib.itoa e).toArray⟩ := by unfold strconv_Itoa_F ck; rw [if_pos he]
  refine wp_mono (GoC.run (X := ⟨Tryd.prog, 10, w, fps [boxS β t0], I, [], tb2⟩) (fn := Tryd.f16) (R := fun _ _ => False) (k := [.again (fun s => ∃ env, s = ⟨env, [boxS β (errorText e)]⟩)])
      (s := ⟨[(0, .ptr β 1 0 0), (1, .v (.iface 51 (.agg #[.int .i64 e])))], [boxS β t0]⟩) ?_ I _ w ?_) ?_
  · skip
    refine GoC.region ?_
    refine GoO.pure (ps_move rfl rfl) ?_
    refine GoO.pure (ps_assertV rfl rfl (.ag 1 (nth [.v (.int .i64 e)])) (fun _ _ => ⟨_, rfl, rfl, fun i hi => by
      have : i = 0 := by omega
      subst this
      exact ⟨_, rfl, rfl, rfl⟩⟩)) ?_
    refine GoO.pure (ps_field rfl rfl rfl) ?_
    refine GoO.effC (ef_call rfl (Take.nil _) (Take.nil _) (strconv_Itoa_spec e H) (LendL.cons (Lend.refl _ _) (LendL.nil)) rfl (strconv_Itoa_I _)) (fun rr HH hp => ?_)
    obtain ⟨rfl, rfl⟩ := hp
    refine GoO.pure (ps_addStr rfl rfl hsz rfl) ?_
    refine GoO.eff1 (ef_store rfl rfl rfl At.p0 upd_st1 Nat.zero_lt_one rfl) ?_
    refine GoO.nil ?_
    refine GoK.le (Le.reH At.p0 (HLe.st (g' := nth [.v (.string (errorText e))]) ⟨trivial, DLe.refl _⟩)) ?_
    exact GoK.again ⟨_, rfl⟩
  · refine ⟨by simp, rfl, fun k d hk => ?_, hok.ok, hok.sep, fun b hb => ⟨(hok.own b hb).1, .inr hb, (hok.own b hb).2⟩, fun b hb => ⟨hI b hb, .inl hb⟩, fun _ h => h, Same.refl _ _⟩
    match k, hk with
    | 0, hk => cases hk; rfl
    | 1, hk => cases hk; simp; rfl
    | k + 2, hk => cases hk
  · rintro e' a' w' hq
    cases e' with
    | normal =>
      obtain ⟨s, I', ⟨env, rfl⟩, hs⟩ := hq
      refine ⟨hs.dfr, _, rfl, .tuple #[], ?_, rfl, rfl, ⟨I', hs.i0, hs.heap, hs.sep, fun b hb => ⟨(hs.own b hb).1, (hs.own b hb).2.2⟩⟩, hs.same⟩
      simp [results, Tryd.results16]
    | ret => obtain ⟨_, v, _, hf⟩ := hq; exact hf.elim
    | panic c => obtain ⟨_, hf⟩ := hq; exact hf.elim
    | exit id => exact hq.elim
    | goto l => exact hq.elim
    | outgrown => exact hq.elim
theorem Take.under {l A r : List HL} (x : HL) (h : Take l A r) : Take (x :: l) A (x :: r) := by
  induction h with
  | nil => exact .nil _
  | cons l m r x' A hrem h' ih => exact .cons _ _ _ _ _ (Rem.tail x x' l m hrem) ih
def answerD (β : BK) : Deferred := { target := .fn (.func 16) #[.pointer (some ⟨β.b, β.o + (0 * 1 + 0), none⟩)], args := #[] }
theorem answer_results (tmps : Array Value) : results Tryd.f12 tmps = (do
    let v ← resV tmps (.cell 4 9)
    Pure.pure v) := by
  rw [results_eq]
  simp [Tryd.results12]
theorem answer_keep (ds : List Deferred) (d : Tmp) (h : Nat.beq d 4 = false) : KeepOk ds Tryd.f12 (some d) := ⟨.inr fun a v => by
  have hd : d ≠ 4 := fun e => by subst e; simp at h
  rw [answer_results, answer_results]
  have : (a.put (some d) v).tmps.getD 4 undef = a.tmps.getD 4 undef := by
    simp [Act.put, Array.getD_eq_getD_getElem?, Array.getElem?_setIfInBounds, hd]
  simp only [resV, this]⟩
instance (ds : List Deferred) : KeepOk ds Tryd.f12 (some 5) := answer_keep ds 5 rfl
instance (ds : List Deferred) : KeepOk ds Tryd.f12 (some 6) := answer_keep ds 6 rfl
instance (ds : List Deferred) : KeepOk ds Tryd.f12 (some 7) := answer_keep ds 7 rfl
instance (ds : List Deferred) : KeepOk ds Tryd.f12 (some 8) := answer_keep ds 8 rfl
instance (ds : List Deferred) : KeepOk ds Tryd.f12 (some 9) := answer_keep ds 9 rfl
instance (ds : List Deferred) : KeepOk ds Tryd.f12 (some 10) := answer_keep ds 10 rfl
instance (ds : List Deferred) : KeepOk ds Tryd.f12 (some 11) := answer_keep ds 11 rfl
instance (ds : List Deferred) : KeepOk ds Tryd.f12 (some 12) := answer_keep ds 12 rfl
instance (ds : List Deferred) : KeepOk ds Tryd.f12 (some 13) := answer_keep ds 13 rfl
instance (ds : List Deferred) : KeepOk ds Tryd.f12 (some 14) := answer_keep ds 14 rfl
instance (ds : List Deferred) : KeepOk ds Tryd.f12 (some 15) := answer_keep ds 15 rfl
instance (ds : List Deferred) : KeepOk ds Tryd.f12 (some 16) := answer_keep ds 16 rfl
instance (ds : List Deferred) : KeepOk ds Tryd.f12 (some 17) := answer_keep ds 17 rfl
instance (ds : List Deferred) : KeepOk ds Tryd.f12 (some 18) := answer_keep ds 18 rfl
instance (ds : List Deferred) : KeepOk ds Tryd.f12 (some 19) := answer_keep ds 19 rfl
instance (ds : List Deferred) : KeepOk ds Tryd.f12 (some 20) := answer_keep ds 20 rfl
instance (ds : List Deferred) : KeepOk ds Tryd.f12 (some 21) := answer_keep ds 21 rfl
instance (ds : List Deferred) : KeepOk ds Tryd.f12 (some 22) := answer_keep ds 22 rfl
instance (ds : List Deferred) : KeepOk ds Tryd.f12 (some 23) := answer_keep ds 23 rfl
instance (ds : List Deferred) : KeepOk ds Tryd.f12 (some 24) := answer_keep ds 24 rfl
instance (ds : List Deferred) : KeepOk ds Tryd.f12 (some 25) := answer_keep ds 25 rfl
instance (ds : List Deferred) : KeepOk ds Tryd.f12 (some 26) := answer_keep ds 26 rfl
instance (ds : List Deferred) : KeepOk ds Tryd.f12 (some 27) := answer_keep ds 27 rfl
instance (ds : List Deferred) : KeepOk ds Tryd.f12 (some 28) := answer_keep ds 28 rfl
instance (ds : List Deferred) : KeepOk ds Tryd.f12 (some 29) := answer_keep ds 29 rfl
instance (ds : List Deferred) : KeepOk ds Tryd.f12 (some 30) := answer_keep ds 30 rfl
instance (ds : List Deferred) : KeepOk ds Tryd.f12 (some 31) := answer_keep ds 31 rfl
instance (ds : List Deferred) : KeepOk ds Tryd.f12 (some 32) := answer_keep ds 32 rfl
instance (ds : List Deferred) : KeepOk ds Tryd.f12 (some 33) := answer_keep ds 33 rfl
instance (ds : List Deferred) : KeepOk ds Tryd.f12 (some 34) := answer_keep ds 34 rfl
instance (ds : List Deferred) : KeepOk ds Tryd.f12 (some 35) := answer_keep ds 35 rfl
instance (ds : List Deferred) : KeepOk ds Tryd.f12 (some 36) := answer_keep ds 36 rfl
instance (ds : List Deferred) : KeepOk ds Tryd.f12 (some 37) := answer_keep ds 37 rfl
instance (ds : List Deferred) : KeepOk ds Tryd.f12 (some 38) := answer_keep ds 38 rfl
instance (ds : List Deferred) : KeepOk ds Tryd.f12 (some 39) := answer_keep ds 39 rfl
instance (ds : List Deferred) : KeepOk ds Tryd.f12 (some 40) := answer_keep ds 40 rfl
instance (ds : List Deferred) : KeepOk ds Tryd.f12 (some 41) := answer_keep ds 41 rfl
instance (ds : List Deferred) : KeepOk ds Tryd.f12 (some 42) := answer_keep ds 42 rfl
instance (ds : List Deferred) : KeepOk ds Tryd.f12 (some 43) := answer_keep ds 43 rfl
instance (ds : List Deferred) : KeepOk ds Tryd.f12 (some 44) := answer_keep ds 44 rfl
instance (ds : List Deferred) : KeepOk ds Tryd.f12 (some 45) := answer_keep ds 45 rfl
instance (ds : List Deferred) : KeepOk ds Tryd.f12 (some 46) := answer_keep ds 46 rfl
instance (ds : List Deferred) : KeepOk ds Tryd.f12 (some 47) := answer_keep ds 47 rfl
instance (ds : List Deferred) : KeepOk ds Tryd.f12 none := ⟨.inr fun _ _ => rfl⟩
section
variable {w0 : World} {I0 : Nat → Prop} {H0 : List HL} {tb : TB Tryd.prog w0 I0 H0} {post : D → List HL → Prop} {k : List It} {s : St} {β : BK} {H' rest : List HL}
theorem answer_end {I : Nat → Prop} {a : Act} {w : World} {t : ByteArray} {H : List HL} (h4 : Sx.look s.env 4 = some (.ptr β 1 0 0)) (hat : At s.heap (.one β 9 1 (st1 (nth [.v (.string t)]))) (.one β 9 1 (st1 (nth [.v (.string t)]))) H) (ht : Take s.heap H' rest) (hp : post (.v (.string t)) H')
    (hs : Sat ⟨Tryd.prog, 48, w0, fps H0, I0, [answerD β], tb⟩ I s a w) : Leaves Tryd.prog Tryd.f12 a.tmps (RetOk w0 I0 H0 post) [] .returning w := by
  obtain ⟨v, hv, hr⟩ := (ResD.cell h4 hat Nat.zero_lt_one rfl : ResD ⟨Tryd.prog, 48, w0, fps H0, I0, [answerD β], tb⟩ s (.cell 4 9) _) I a w hs
  refine ⟨v, ?_, retOk hs ht hp hr⟩
  have hv' : (resV a.tmps (.cell 4 9)).run Tryd.prog w = .ok v w := hv
  rw [answer_results]
  simp only [Sem.run_bind, hv', Result.andThen_ok, Sem.run_pure]
theorem answer_invoke (p : Addr) (w : World) : (invoke (.fn (.func 16) #[.pointer (some p)]) #[]).run Tryd.prog w = .ok (.enter 16 #[.pointer (some p)]) w := by
  simp [invoke]
theorem answer_ret {t : ByteArray} {H : List HL} (h4 : Sx.look s.env 4 = some (.ptr β 1 0 0)) (hat : At s.heap (.one β 9 1 (st1 (nth [.v (.string t)]))) (.one β 9 1 (st1 (nth [.v (.string t)]))) H) (ht : Take s.heap H' rest) (hp : post (.v (.string t)) H') :
    GoC ⟨Tryd.prog, 48, w0, fps H0, I0, [answerD β], tb⟩ Tryd.f12 (RetOk w0 I0 H0 post) .ret k s :=
  ⟨fun I a w hs => wp_ret (Kont_ret ⟨hs.dfr, leaves_cons (by simp) (answer_invoke _ w) ((answer_idle _ w).mono fun e u' w' ⟨he, hu, hw⟩ => by
    subst he hu hw
    exact answer_end h4 hat ht hp hs)⟩)⟩
theorem answer_thr {e : Int} {t : ByteArray} {rest0 : List HL} (he : InI e) (hsz : (⟨#[101, 114, 114, 111, 114, 32]⟩ : ByteArray).size + (⟨(Lib.itoa e).toArray⟩ : ByteArray).size ≤ 9223372036854775807) (h4 : Sx.look s.env 4 = some (.ptr β 1 0 0))
    (hrem : Rem s.heap (.one β 9 1 (st1 (nth [.v (.string t)]))) rest0) (ht : Take rest0 H' rest) (hp : post (.v (.string (errorText e))) H') :
    GoT ⟨Tryd.prog, 48, w0, fps H0, I0, [answerD β], tb⟩ Tryd.f12 (RetOk w0 I0 H0 post) s (.v (.iface 51 (.agg #[.int .i64 e]))) :=
  ⟨fun I a w v hs hr => by
    have hv : v = .iface 51 (.agg #[.int .i64 e]) := hr
    subst hv
    have hmem : ∀ x, x ∈ [boxS β t] → x ∈ s.heap := fun x hx => by
      rw [List.mem_singleton.1 hx]
      exact hrem.perm.mem_iff.2 (List.mem_cons_self ..)
    have hok : HOk I w [boxS β t] := ⟨fun x hx => hs.heap x (hmem x hx), List.pairwise_singleton _ _, fun b ⟨x, hx, hb⟩ => ⟨(hs.own b ⟨x, hmem x hx, hb⟩).1, (hs.own b ⟨x, hmem x hx, hb⟩).2.2⟩⟩
    refine ⟨hs.dfr, leaves_cons (by simp) (answer_invoke _ w) ((answer_caught e he hsz β t I w hok (fun b hb => (hs.imm b hb).1) hs.tab).mono fun e' u' w' ⟨he', hu, ⟨I', hII, hok'⟩, hsame⟩ => ?_)⟩
    subst he' hu
    have hind : ∀ x, x ∈ [boxS β (errorText e)] → ∀ I w, x.ok I w → x.ok No w := fun x hx I w hk => (inferInstance : IndepH [.one β 9 1 (st1 (nth [.v (.string (errorText e))]))]).h x hx I w hk
    obtain ⟨I2, g1, g2, _⟩ := sat_behind (r := .v (.tuple #[])) (v := .tuple #[]) (N := No) false hs (Take.cons _ _ _ _ _ hrem (Take.nil _)) (Take.nil _) rfl
      ⟨fun x hx => (hind x hx _ _ (hok'.ok x hx)).mono (fun _ h => h.elim) (fun _ _ => rfl) (fun _ _ => rfl), hok'.sep, fun b hb => ⟨fun hh => by
        rcases hh with (hh | ⟨_, h, _⟩) | hh
        · exact (hok'.own b hb).1 (hII b hh)
        · cases h
        · exact hh, (hok'.own b hb).2⟩⟩ (fun b h => h.elim) (fun b ⟨x, hx, hb⟩ => .inl ⟨boxS β t, List.mem_singleton.2 rfl, by rw [List.mem_singleton.1 hx] at hb; exact hb⟩) hsame
      ⟨fun _ _ _ h => h, hind⟩
    exact answer_end (s := ⟨s.env, boxS β (errorText e) :: rest0⟩) h4 At.p0 (Take.under _ ht) hp g2⟩
set_option maxRecDepth 100000 in
theorem answer_intro {args : List D} {rest : Code} {i0 i1 : Nat} {p0 p1 p2 : String} {t1 : TypeId} {a0 a1 a2 : Array Edge} {y0 y2 : TypeId}
    (hb : Tryd.f12.body = some (.seq (.region i0 [⟨some 4, .alloc 9, y0, p0, a0, none⟩].toArray false) (.seq (.region i1 [⟨some 10, .makeFunc (.func 16) #[] #[.tmp 4], t1, p1, a1, none⟩, ⟨none, .defer { callee := .value (.tmp 10), args := #[], argTypes := #[] }, y2, p2, a2, none⟩].toArray false) rest)))
    (ha : Nat.ble args.length 48 = true) (hlt : args.length ≤ 2)
    (h : ∀ w0 I0, ∀ tb : TB Tryd.prog w0 I0 H0, ∀ β : BK, GoC ⟨Tryd.prog, 48, w0, fps H0, I0, [answerD β], tb⟩ Tryd.f12 (RetOk w0 I0 H0 post) rest [] ⟨(4, .ptr β 1 0 0) :: argEnv 0 args, .one β 9 1 (st1 (nth [.v (.string ByteArray.empty)])) :: H0⟩) :
    Does Tryd.prog 12 args H0 post := fun I w vs h1 h2 h3 h4 => by
  have hlen := RdL.length h1
  have hle := Nat.le_of_ble_eq_true ha
  have tb : TB Tryd.prog w I H0 := ⟨h4, fun b hb => ⟨h3 b hb, fun hm => (h2.own b hm).1 hb⟩⟩
  refine calls_of_wp_defers Tryd.func12 hb ?_
  refine wp_seq ?_
  refine wp_mono (GoC.run (X := ⟨Tryd.prog, 48, w, fps H0, I, [], tb⟩) (fn := Tryd.f12) (R := fun _ _ => False) (k := [.again (fun s => ∃ β, s = ⟨(4, .ptr β 1 0 0) :: argEnv 0 args, .one β 9 1 (st1 (nth [.v (.string ByteArray.empty)])) :: H0⟩)])
      (s := ⟨argEnv 0 args, H0⟩) ?_ I _ w ?_) ?_
  · refine GoC.region ?_
    refine GoO.effB (ef_alloc rfl) (fun β => ?_)
    refine GoO.nil ?_
    refine GoK.le (Le.reH At.p0 (HLe.st (g' := nth [.v (.string ByteArray.empty)]) ⟨trivial, DLe.refl _⟩)) ?_
    exact GoK.again ⟨β, rfl⟩
  · refine ⟨?_, rfl, fun j e hj => ?_, h2.ok, h2.sep, fun b hb => ⟨(h2.own b hb).1, .inr hb, (h2.own b hb).2⟩, fun b hb => ⟨h3 b hb, .inl hb⟩, fun _ h => h, Same.refl _ _⟩
    · show (vs.toArray ++ Array.replicate (48 - vs.toArray.size) undef).size = 48
      simp [hlen]; omega
    · obtain ⟨_, v, h4, h5⟩ := look_argEnv 0 h1 j e hj
      have h6 : vs[j]? = some v := by simpa using h4
      have hj' : j < vs.length := (List.getElem?_eq_some_iff.1 h6).1
      have h7 : (vs.toArray ++ Array.replicate (48 - vs.toArray.size) undef).getD j undef = v := by
        simp only [Array.getD_eq_getD_getElem?]
        rw [Array.getElem?_append_left (by simpa using hj')]
        simp [h6]
      show Rd I w e ((vs.toArray ++ Array.replicate (48 - vs.toArray.size) undef).getD j undef)
      rw [h7]
      exact h5
  · rintro e a1 w1 hq
    cases e with
    | normal =>
      obtain ⟨s, I1, ⟨β, rfl⟩, hs⟩ := hq
      refine wp_seq (wp_region_lit ?_)
      have hp : a1.eval (.tmp 4) = .pointer (some ⟨β.b, β.o + (0 * 1 + 0), none⟩) := hs.ev (x := .tmp 4) (d := .ptr β 1 0 0) rfl
      refine wp_value (v := .func (.func 16) #[] #[.pointer (some ⟨β.b, β.o + (0 * 1 + 0), none⟩)]) (w' := w1) rfl ?_ ?_
      · simp [execOp, Instr.makeFunc, hp]
      refine wpList_plain rfl fun K hK => ?_
      have htz : a1.tmps.size = 48 := hs.tsz
      have hd : (execOp (a1.put (some 10) (.func (.func 16) #[] #[.pointer (some ⟨β.b, β.o + (0 * 1 + 0), none⟩)])).eval ⟨none, .defer { callee := .value (.tmp 10), args := #[], argTypes := #[] }, y2, p2, a2, none⟩).run Tryd.prog w1 = .ok (.defer (answerD β)) w1 := by
        simp [execOp, resolve, Act.eval, Act.put, Deferred.ofValue, htz, answerD]
      unfold Oper.wp
      rw [hd]
      refine hK _ _ (wpList_nil ?_)
      refine wp_mono ((h w I tb β).run I1 _ w1 ?_) fun e a w h => h.toD
      have hs2 : Sat ⟨Tryd.prog, 48, w, fps H0, I, [], tb⟩ I1 ⟨(10, .junk) :: (4, .ptr β 1 0 0) :: argEnv 0 args, .one β 9 1 (st1 (nth [.v (.string ByteArray.empty)])) :: H0⟩ (a1.put (some 10) (.func (.func 16) #[] #[.pointer (some ⟨β.b, β.o + (0 * 1 + 0), none⟩)])) w1 := hs.put (k := 10) (d := .junk) (show 10 < 48 by decide) trivial
      refine ⟨hs2.tsz, ?_, fun j d hj => ?_, hs2.heap, hs2.sep, hs2.own, hs2.imm, hs2.i0, hs2.same⟩
      · show answerD β :: a1.defers = [answerD β]
        rw [show a1.defers = [] from hs.dfr]
      · by_cases hj10 : j = 10
        · subst hj10
          have hj' : Sx.look (argEnv 0 args) 10 = some d := hj
          have : 10 < args.length := by
            obtain ⟨_, v, h4, _⟩ := look_argEnv 0 h1 10 d hj'
            have h6 : vs[10]? = some v := by simpa using h4
            have := (List.getElem?_eq_some_iff.1 h6).1
            omega
          exact absurd hlt (by omega)
        · refine hs2.env j d ?_
          have : Nat.beq 10 j = false := by rw [Bool.eq_false_iff]; exact fun e => hj10 (Nat.eq_of_beq_eq_true e).symm
          simp only [Sx.look, this, cond_false]
          exact hj
    | ret => obtain ⟨_, v, _, hf⟩ := hq; exact hf.elim
    | panic c => obtain ⟨_, hf⟩ := hq; exact hf.elim
    | exit id => exact hq.elim
    | goto l => exact hq.elim
    | outgrown => exact hq.elim
end
end Go.Proofs.YthchdnemndolbaaDoor
