import Derived.Test.YtkfmphlnpmemdaaQMaN
set_option linter.unusedVariables false
set_option linter.unusedSimpArgs false
namespace Go.Proofs.Ytkfmphlnpmemdaa.Sx
open Go Go.Conc Go.ConcN Go.RowKit Go.Conc.Lib Go.ConcR.Gen Go.ConcN.Gen
open Go.ConcR (KK wgBlock WgAt stA smA rd wr mk Payload Aside2 DC0)
variable {L : WgLink}
set_option maxRecDepth 100000 in
set_option maxHeartbeats 8000000 in
theorem addPosY {P : Program} (H : WgLib P L) {Wg : Nat} {b₀ : Frame} {a₀ : Act} {ops₀ : Array Oper} {i₀ : Nat} {rest₀ : List Nat} {k₀ : List Item} {cs : List Frame} (w : World) (hK : WgLive L.tWg Wg w) :
    Goes P true (Rl L.tWg Wg) DC0 (At1 P true L.tWg Wg (mk .disable) (Ca1 P L.tWg Wg (G (b₀.at (a₀.put ((ops₀[i₀]?).bind (·.dst)) (.tuple #[])) (.inRegion ops₀ rest₀ :: k₀)) cs))) 40
      (G ((base L.add).at ⟨#[.pointer (some ⟨Wg, 0, none⟩), .int .i64 1, undef, undef, undef, undef, undef, undef, undef, undef, undef, undef, undef, undef, undef, undef, undef, undef, undef, undef, undef, undef, undef, undef, undef, undef, undef, undef, undef, undef, undef, undef, undef, undef, undef, undef, undef, undef, undef, undef, undef, undef, undef, undef, undef, undef, undef, undef, undef, undef, undef, undef, undef, undef, undef, undef, undef, undef, undef, undef, undef, undef, undef, undef, undef, undef, undef, undef, undef, undef, undef, undef, undef, undef, undef, undef, undef, undef, undef, undef, undef, undef, undef, undef, undef, undef, undef, undef, undef, undef, undef, undef, undef, undef, undef, undef, undef, undef, undef, undef, undef, undef, undef, undef, undef, undef, undef, undef, undef, undef, undef, undef, undef, undef, undef, undef, undef], []⟩ [.code (body_add L)]) (b₀.at a₀ (.inRegion ops₀ (i₀ :: rest₀) :: k₀) :: cs)) w := by
  lib_facts
  simp only [body_add, addFn, Option.getD_some]
  repeat (first | with_reducible refine y_seq ?_ | (with_reducible refine y_region ?_; simp only [List.size_toArray, List.length_cons, List.length_nil, Nat.reduceAdd, Nat.zero_add, List.range, List.range.loop]) | with_reducible refine y_region_end ?_ | (with_reducible refine y_op ?_; first | (refine y_skip rfl rfl ?_; walk_nrm) | (refine y_value _ rfl rfl rfl (by k_ne) (fun _ => ⟨by go_simp; (try w_num); exact rfl, by simp [go_sem, *]⟩) ?_; walk_nrm) | u_defer rl hK | u_bub rl hK | u_call H.f_uAdd (nm_uAdd L) uAddFn rl hK | u_call H.f_uLoad (nm_uLoad L) uLoadFn rl hK | u_call H.f_uStore (nm_uStore L) uStoreFn rl hK | u_call H.f_uCas (nm_uCas L) uCasFn rl hK) | (with_reducible refine y_cond ?_; first | refine y_condT rfl ?_ | refine y_condF rfl ?_) | with_reducible refine y_code_skip ?_ | with_reducible refine y_ret ?_ | with_reducible refine y_end ?_ | with_reducible refine y_block ?_ | with_reducible refine y_loop ?_ | with_reducible refine y_inBlock ?_ | with_reducible refine y_inLoop ?_ | (with_reducible refine y_exit0 ?_; refine y_exit rfl ?_) | u_leave1 H.f_uAdd rl hK | u_leave1 H.f_uLoad rl hK | u_leave0 H.f_uStore rl hK | u_leave1 H.f_uCas rl hK)
  refine Goes.stop (fun w₁ h₁ => ?_)
  replace hK := rl hK h₁
  clear h₁
  refine ⟨rfl, _, stepG_mark0 .disable (by simp) rfl rfl (by k_ne) rfl H.f_disable (x_disable_n L) (x_disable_b L) (x_disable_x L) (x_disable_f L), 100, ?_⟩
  walk_nrm
  repeat (first | with_reducible refine y_seq ?_ | (with_reducible refine y_region ?_; simp only [List.size_toArray, List.length_cons, List.length_nil, Nat.reduceAdd, Nat.zero_add, List.range, List.range.loop]) | with_reducible refine y_region_end ?_ | (with_reducible refine y_op ?_; first | (refine y_skip rfl rfl ?_; walk_nrm) | (refine y_value _ rfl rfl rfl (by k_ne) (fun _ => ⟨by go_simp; (try w_num); exact rfl, by simp [go_sem, *]⟩) ?_; walk_nrm) | u_defer rl hK | u_bub rl hK | u_call H.f_uAdd (nm_uAdd L) uAddFn rl hK | u_call H.f_uLoad (nm_uLoad L) uLoadFn rl hK | u_call H.f_uStore (nm_uStore L) uStoreFn rl hK | u_call H.f_uCas (nm_uCas L) uCasFn rl hK) | (with_reducible refine y_cond ?_; first | refine y_condT rfl ?_ | refine y_condF rfl ?_) | with_reducible refine y_code_skip ?_ | with_reducible refine y_ret ?_ | with_reducible refine y_end ?_ | with_reducible refine y_block ?_ | with_reducible refine y_loop ?_ | with_reducible refine y_inBlock ?_ | with_reducible refine y_inLoop ?_ | (with_reducible refine y_exit0 ?_; refine y_exit rfl ?_) | u_leave1 H.f_uAdd rl hK | u_leave1 H.f_uLoad rl hK | u_leave0 H.f_uStore rl hK | u_leave1 H.f_uCas rl hK)
  refine Goes.stop (fun w₁ h₁ => ?_)
  clear h₁ hK
  refine ⟨rfl, fun v hv hw => ?_⟩
  rcases Nat.eq_zero_or_pos v with rfl | hvp
  · replace hw : WgAt L.tWg Wg w₁ 0 0 := by simpa using hw
    have e0 : IntKind.u64.wrap (0 + 4294967296) = KK := by decide
    have z : (((0 : Nat) : Int) + 1) * KK = KK := by simp
    rw [z]
    refine ⟨_, (stepG_add_atomic rfl rfl (by k_ne) rfl H.f_addU64 (x_addU64_n L) (x_addU64_b L) (x_addU64_x L) .u64 (x_addU64_f L) rfl rfl hw.cellSt (hw.thaw 0)).trans (by rw [e0]; rfl), .inl ⟨150, ?_⟩⟩
    have hF : WgLive L.tWg Wg (w₁.setCell (stA Wg) (.int .u64 KK)) := ⟨_, _, hw.setSt _⟩
    clear hw
    simp only [KK]
    walk_nrm
    repeat (first | with_reducible refine y_seq ?_ | (with_reducible refine y_region ?_; simp only [List.size_toArray, List.length_cons, List.length_nil, Nat.reduceAdd, Nat.zero_add, List.range, List.range.loop]) | with_reducible refine y_region_end ?_ | (with_reducible refine y_op ?_; first | (refine y_skip rfl rfl ?_; walk_nrm) | (refine y_value _ rfl rfl rfl (by k_ne) (fun _ => ⟨by go_simp; (try w_num); exact rfl, by simp [go_sem, *]⟩) ?_; walk_nrm) | u_defer rl hF | u_bub rl hF | u_call H.f_uAdd (nm_uAdd L) uAddFn rl hF | u_call H.f_uLoad (nm_uLoad L) uLoadFn rl hF | u_call H.f_uStore (nm_uStore L) uStoreFn rl hF | u_call H.f_uCas (nm_uCas L) uCasFn rl hF) | (with_reducible refine y_cond ?_; first | refine y_condT rfl ?_ | refine y_condF rfl ?_) | with_reducible refine y_code_skip ?_ | with_reducible refine y_ret ?_ | with_reducible refine y_end ?_ | with_reducible refine y_block ?_ | with_reducible refine y_loop ?_ | with_reducible refine y_inBlock ?_ | with_reducible refine y_inLoop ?_ | (with_reducible refine y_exit0 ?_; refine y_exit rfl ?_) | u_leave1 H.f_uAdd rl hF | u_leave1 H.f_uLoad rl hF | u_leave0 H.f_uStore rl hF | u_leave1 H.f_uCas rl hF)
    u_conv H.underlying_tPU32 H.room_tU32 (WgLive.cell1 hF).choose_spec rl hF
    refine Goes.stop (fun w₂ h₂ => ?_)
    replace hF := rl hF h₂
    clear h₂
    refine ⟨rfl, _, stepG_markAt .read (by simp) rfl rfl (by k_ne) rfl H.f_raceRead (x_raceRead_n L) (x_raceRead_b L) (x_raceRead_x L) (x_raceRead_f L) (ad := ⟨Wg, 1, none⟩) (by simp [Act.eval]), 100, ?_⟩
    walk_nrm
    repeat (first | with_reducible refine y_seq ?_ | (with_reducible refine y_region ?_; simp only [List.size_toArray, List.length_cons, List.length_nil, Nat.reduceAdd, Nat.zero_add, List.range, List.range.loop]) | with_reducible refine y_region_end ?_ | (with_reducible refine y_op ?_; first | (refine y_skip rfl rfl ?_; walk_nrm) | (refine y_value _ rfl rfl rfl (by k_ne) (fun _ => ⟨by go_simp; (try w_num); exact rfl, by simp [go_sem, *]⟩) ?_; walk_nrm) | u_defer rl hF | u_bub rl hF | u_call H.f_uAdd (nm_uAdd L) uAddFn rl hF | u_call H.f_uLoad (nm_uLoad L) uLoadFn rl hF | u_call H.f_uStore (nm_uStore L) uStoreFn rl hF | u_call H.f_uCas (nm_uCas L) uCasFn rl hF) | (with_reducible refine y_cond ?_; first | refine y_condT rfl ?_ | refine y_condF rfl ?_) | with_reducible refine y_code_skip ?_ | with_reducible refine y_ret ?_ | with_reducible refine y_end ?_ | with_reducible refine y_block ?_ | with_reducible refine y_loop ?_ | with_reducible refine y_inBlock ?_ | with_reducible refine y_inLoop ?_ | (with_reducible refine y_exit0 ?_; refine y_exit rfl ?_) | u_leave1 H.f_uAdd rl hF | u_leave1 H.f_uLoad rl hF | u_leave0 H.f_uStore rl hF | u_leave1 H.f_uCas rl hF)
    refine Goes.stop (fun w₃ h₃ => ?_)
    replace hF := rl hF h₃
    clear h₃
    refine ⟨rfl, _, stepG_unwind_entry (v := .tuple #[]) (evs := #[mk .enable]) rfl H.f_enable (x_enable_n L) (x_enable_b L) (x_enable_x L) (x_enable_f L) (by simp [Extern.Race.none_]) (by simp [mk]) (by simp [mk]), 10, ?_⟩
    u_leave0 H.f_add rl hF
    exact Goes.stop fun _ _ => rfl
  · obtain ⟨S, hS⟩ : ∃ S : Int, S = ((v : Int) + 1) * KK := ⟨_, rfl⟩
    refine ⟨_, (stepG_add_atomic rfl rfl (by k_ne) rfl H.f_addU64 (x_addU64_n L) (x_addU64_b L) (x_addU64_x L) .u64 (x_addU64_f L) rfl rfl hw.cellSt (hw.thaw 0)).trans (by rw [show IntKind.u64.wrap ((v : Int) * KK + 4294967296) = ((v : Int) + 1) * KK by rw [IntKind.wrap_u64]; simp only [KK]; omega]; rfl), .inr ⟨150, ?_⟩⟩
    rw [← hS]
    have a1 : S / 4294967296 = (v : Int) + 1 := by rw [hS]; simp only [KK]; omega
    have a2 : 0 ≤ S ∧ S < 9223372036854775808 := by rw [hS]; simp only [KK]; omega
    have b1 : bits .and .u64 S 2147483648 = 0 := by rw [hS]; have := st_flag (v + 1) 0 (by omega) (by omega); simpa [KK] using this
    have b2 : bits .and .u64 S 2147483647 = 0 := by rw [hS]; have := st_waiters (v + 1) 0 (by omega) (by omega); simpa [KK] using this
    have hF : WgLive L.tWg Wg (w₁.setCell (stA Wg) (.int .u64 S)) := ⟨_, _, hw.setSt _⟩
    clear hS hw
    walk_nrm
    repeat (first | with_reducible refine y_seq ?_ | (with_reducible refine y_region ?_; simp only [List.size_toArray, List.length_cons, List.length_nil, Nat.reduceAdd, Nat.zero_add, List.range, List.range.loop]) | with_reducible refine y_region_end ?_ | (with_reducible refine y_op ?_; first | (refine y_skip rfl rfl ?_; walk_nrm) | (refine y_valueI _ rfl rfl rfl (by k_ne) (fun _ => ⟨by go_simp; (try w_num); exact rfl, by simp [go_sem, *]⟩) ?_; walk_nrm) | (refine y_value (.bool false) rfl rfl rfl (by k_ne) (fun _ => ⟨by go_simp; (first | done | omega | (w_num; omega) | w_num | decide), by simp [go_sem, *]⟩) ?_; walk_nrm) | (refine y_value (.bool true) rfl rfl rfl (by k_ne) (fun _ => ⟨by go_simp; (first | done | omega | (w_num; omega) | w_num | decide), by simp [go_sem, *]⟩) ?_; walk_nrm) | (refine y_value _ rfl rfl rfl (by k_ne) (fun _ => ⟨by go_simp; (try w_num); exact rfl, by simp [go_sem, *]⟩) ?_; walk_nrm) | u_defer rl hF | u_bub rl hF | u_call H.f_uAdd (nm_uAdd L) uAddFn rl hF | u_call H.f_uLoad (nm_uLoad L) uLoadFn rl hF | u_call H.f_uStore (nm_uStore L) uStoreFn rl hF | u_call H.f_uCas (nm_uCas L) uCasFn rl hF) | (with_reducible refine y_cond ?_; first | refine y_condT rfl ?_ | refine y_condF rfl ?_) | with_reducible refine y_code_skip ?_ | with_reducible refine y_ret ?_ | with_reducible refine y_end ?_ | with_reducible refine y_block ?_ | with_reducible refine y_loop ?_ | with_reducible refine y_inBlock ?_ | with_reducible refine y_inLoop ?_ | (with_reducible refine y_exit0 ?_; refine y_exit rfl ?_) | u_leave1 H.f_uAdd rl hF | u_leave1 H.f_uLoad rl hF | u_leave0 H.f_uStore rl hF | u_leave1 H.f_uCas rl hF)
    refine Goes.stop (fun w₃ h₃ => ?_)
    replace hF := rl hF h₃
    clear h₃
    refine ⟨rfl, _, stepG_unwind_entry (v := .tuple #[]) (evs := #[mk .enable]) rfl H.f_enable (x_enable_n L) (x_enable_b L) (x_enable_x L) (x_enable_f L) (by simp [Extern.Race.none_]) (by simp [mk]) (by simp [mk]), 10, ?_⟩
    u_leave0 H.f_add rl hF
    exact Goes.stop fun _ _ => rfl
end Go.Proofs.Ytkfmphlnpmemdaa.Sx
