import Derived.Test.YthchdnemndolbaaDoorQPC
import Derived.Test.YthchdnemndolbaaDoorQPD
import Derived.Test.YthchdnemndolbaaDoorQPA
import Derived.Test.YthchdnemndolbaaDoorQShelf
import Derived.Test.YthchdnemndolbaaDoorQGdesk
namespace Go.Proofs.YthchdnemndolbaaDoor
open Go Go.Proofs.YthchdnemndolbaaDoor.Sx
set_option linter.unusedVariables false
set_option linter.unusedSimpArgs false
def Er (e : Int) : Prop := 0 ≤ e ∧ e ≤ 12
theorem Er.inI {e : Int} (h : Er e) : InI e := inI_small (by have := h.1; omega) (by have := h.2; omega)
section
variable {σ ρ : Type}
theorem forC_ret {f : Nat → σ → Option (Ct σ ρ)} (P : ρ → Prop) (h : ∀ j s r, f j s = some (.ret r) → P r) : ∀ {n k : Nat} {s : σ} {r : ρ}, forC f n k s = some (.ret r) → P r
  | 0, k, s, r, e => by cases e
  | n + 1, k, s, r, e => by
    rw [forC] at e
    cases hf : f k s with
    | none => rw [hf] at e; cases e
    | some c =>
      rw [hf] at e
      cases c with
      | go s' => exact forC_ret P h (n := n) e
      | brk s' => cases e
      | ret x =>
        obtain rfl := Ex.ret.inj (Option.some.inj e)
        exact h k s _ hf
theorem loopC_ret {f : σ → Option (Ct σ ρ)} (P : ρ → Prop) (h : ∀ s r, f s = some (.ret r) → P r) : ∀ {n : Nat} {s : σ} {r : ρ}, loopC f n s = some (.ret r) → P r
  | 0, s, r, e => by cases e
  | n + 1, s, r, e => by
    rw [loopC] at e
    cases hf : f s with
    | none => rw [hf] at e; cases e
    | some c =>
      rw [hf] at e
      cases c with
      | go s' => exact loopC_ret P h (n := n) e
      | brk s' => cases e
      | ret x =>
        obtain rfl := Ex.ret.inj (Option.some.inj e)
        exact h s _ hf
end
theorem er_graph {g : Graph} {l e : Int} (h : graph_check_F g l = some e) : Er e := by
  unfold graph_check_F at h
  split at h
  · cases h; exact ⟨by decide, by decide⟩
  split at h
  · cases h; exact ⟨by decide, by decide⟩
  split at h
  · cases h; exact ⟨by decide, by decide⟩
  obtain ⟨q, hq, h⟩ := bind_l h
  cases q with
  | go x => cases h; exact ⟨by decide, by decide⟩
  | ret x =>
    cases h
    refine forC_ret Er (fun j s r hr => ?_) hq
    unfold graph_check_B1 at hr
    repeat' split at hr
    all_goals cases hr
    all_goals exact ⟨by decide, by decide⟩
theorem er_long {g : Graph} {e : Int} (h : graph_CheckLong_F g = some e) : Er e := by
  unfold graph_CheckLong_F at h
  obtain ⟨q, hq, h⟩ := bind_l h
  cases h
  exact er_graph hq
theorem er_net {n : Net} {e : Int} (h : graph_CheckNet_F n = some e) : Er e := by
  unfold graph_CheckNet_F at h
  obtain ⟨q, hq, h⟩ := bind_l h
  have hq' : Er q := by
    unfold graph_Check_F at hq
    obtain ⟨z, hz, hq⟩ := bind_l hq
    cases hq
    exact er_graph hz
  repeat' split at h
  all_goals cases h
  all_goals first | exact hq' | exact ⟨by decide, by decide⟩
theorem er_degrees {g : Graph} {a b : List Int} {e : Int} (h : graph_Degrees_F g = some (a, b, e)) : Er e := by
  unfold graph_Degrees_F at h
  obtain ⟨q, hq, h⟩ := bind_l h
  split at h
  · cases h; exact er_long hq
  replace h := ck_r h
  obtain ⟨z, hz, h⟩ := bind_l h
  cases h
  exact ⟨by decide, by decide⟩
theorem er_tree {g : Graph} {a e : Int} (h : tree_Count_F g = some (a, e)) : Er e := by
  unfold tree_Count_F at h
  obtain ⟨q, hq, h⟩ := bind_l h
  split at h
  · cases h; exact er_long hq
  split at h
  · cases h; exact ⟨by decide, by decide⟩
  split at h
  · cases h; exact ⟨by decide, by decide⟩
  replace h := ck_r (ck_r h)
  obtain ⟨z, hz, h⟩ := bind_l h
  obtain ⟨z2, hz2, h⟩ := bind_l h
  obtain ⟨z3, hz3, h⟩ := bind_l h
  cases h
  exact ⟨by decide, by decide⟩
theorem er_colour {g : Graph} {k a e : Int} (h : colour_Count_F g k = some (a, e)) : Er e := by
  unfold colour_Count_F at h
  obtain ⟨q, hq, h⟩ := bind_l h
  split at h
  · cases h; exact er_long hq
  split at h
  · cases h; exact ⟨by decide, by decide⟩
  split at h
  · cases h; exact ⟨by decide, by decide⟩
  split at h
  · cases h; exact ⟨by decide, by decide⟩
  split at h
  · cases h; exact ⟨by decide, by decide⟩
  obtain ⟨z, hz, h⟩ := bind_l h
  cases h
  exact ⟨by decide, by decide⟩
theorem er_gain {gain : List (List Int)} {e : Int} (h : assign_Check_F gain = some e) : Er e := by
  unfold assign_Check_F at h
  split at h
  · cases h; exact ⟨by decide, by decide⟩
  obtain ⟨q, hq, h⟩ := bind_l h
  cases q with
  | go x => cases h; exact ⟨by decide, by decide⟩
  | ret x =>
    cases h
    refine forC_ret Er (fun j s r hr => ?_) hq
    unfold assign_Check_B1 at hr
    split at hr
    · cases hr; exact ⟨by decide, by decide⟩
    obtain ⟨q2, hq2, hr⟩ := bind_l hr
    cases q2 with
    | go x => cases hr
    | ret x =>
      cases hr
      have := forC_ret (fun c => c = .ret 1) (fun j s r hr => by
        unfold assign_Check_B2 at hr
        repeat' split at hr
        all_goals cases hr
        all_goals rfl) hq2
      cases this
      exact ⟨by decide, by decide⟩
theorem er_flow {n : Net} {f : List Int} {e : Int} (h : flow_Check_F n f = some e) : Er e := by
  unfold flow_Check_F at h
  obtain ⟨q, hq, h⟩ := bind_l h
  split at h
  · cases h; exact er_net hq
  split at h
  · cases h; exact ⟨by decide, by decide⟩
  obtain ⟨q1, hq1, h⟩ := bind_l h
  cases q1 with
  | ret x =>
    cases h
    refine forC_ret Er (fun j s r hr => ?_) hq1
    unfold flow_Check_B1 at hr
    split at hr
    · cases hr; exact ⟨by decide, by decide⟩
    replace hr := ck_r hr
    split at hr
    · cases hr; exact ⟨by decide, by decide⟩
    · have := ck_r (ck_r (ck_r (ck_r hr)))
      cases this
  | go x =>
    obtain ⟨q2, hq2, h⟩ := bind_l h
    cases q2 with
    | go x => cases h; exact ⟨by decide, by decide⟩
    | ret x =>
      cases h
      refine forC_ret Er (fun j s r hr => ?_) hq2
      unfold flow_Check_B2 at hr
      repeat' split at hr
      all_goals cases hr
      all_goals exact ⟨by decide, by decide⟩
theorem er_value {n : Net} {f : List Int} {v e : Int} (h : flow_Value_F n f = some (v, e)) : Er e := by
  unfold flow_Value_F at h
  obtain ⟨q, hq, h⟩ := bind_l h
  split at h
  · cases h; exact er_flow hq
  obtain ⟨q, hq, h⟩ := bind_l h
  cases h
  exact ⟨by decide, by decide⟩
theorem er_more {n : Net} {f g : List Int} {v e : Int} (h : most_More_F n f = some (g, v, e)) : Er e := by
  unfold most_More_F at h
  obtain ⟨⟨x, y⟩, hq, h⟩ := bind_l h
  replace h : (if y ≠ 0 then some ([], 0, y) else _) = some (g, v, e) := h
  split at h
  · cases h; exact er_value hq
  replace h := ck_r h
  obtain ⟨q, hq, h⟩ := bind_l h
  cases q with
  | go x => cases h
  | ret x =>
    cases h
    refine loopC_ret (fun r => Er r.2.2) (fun s r hr => ?_) hq
    obtain ⟨a, b⟩ := s
    unfold most_More_B1 at hr
    obtain ⟨⟨c, d⟩, h1, hr⟩ := bind_l hr
    dsimp only at hr
    split at hr
    · cases hr; exact (⟨by decide, by decide⟩ : Er 0)
    · obtain ⟨_, _, hr⟩ := bind_l hr
      have := ck_r hr
      cases this
theorem er_on {n m : Net} {f g : List Int} {v e : Int} (h : repair_on_F n f = some (m, g, v, e)) : Er e := by
  unfold repair_on_F at h
  obtain ⟨q, hq, h⟩ := bind_l h
  obtain ⟨⟨a, b, c⟩, hq, h⟩ := bind_l h
  cases h
  exact er_more hq
theorem er_check {n : Net} {f : List Int} {e : Int} (h : repair_Check_F n f = some e) : Er e := by
  unfold repair_Check_F at h
  obtain ⟨⟨a, b⟩, hq, h⟩ := bind_l h
  replace h : (if b ≠ 0 then _ else _) = some e := h
  split at h
  · cases h; exact er_value hq
  obtain ⟨⟨a, b, c⟩, hq, h⟩ := bind_l h
  replace h : (if _ then _ else _) = some e := h
  split at h <;> cases h <;> exact ⟨by decide, by decide⟩
theorem er_add {n m : Net} {f g : List Int} {a : Arc} {v e : Int} (h : repair_Add_F n f a = some (m, g, v, e)) : Er e := by
  unfold repair_Add_F at h
  obtain ⟨q, hq, h⟩ := bind_l h
  split at h
  · cases h; exact er_check hq
  obtain ⟨q, hq, h⟩ := bind_l h
  replace h := ck_r h
  obtain ⟨q, hq, h⟩ := bind_l h
  split at h
  · cases h; exact er_net hq
  obtain ⟨q, hq, h⟩ := bind_l h
  replace h := ck_r h
  obtain ⟨⟨a, b, c, d⟩, hq, h⟩ := bind_l h
  cases h
  exact er_on hq
theorem er_cap {n m : Net} {f g : List Int} {k t v e : Int} (h : repair_Cap_F n f k t = some (m, g, v, e)) : Er e := by
  unfold repair_Cap_F at h
  obtain ⟨q, hq, h⟩ := bind_l h
  split at h
  · cases h; exact er_check hq
  split at h
  · cases h; exact ⟨by decide, by decide⟩
  split at h
  · cases h; exact ⟨by decide, by decide⟩
  split at h
  · cases h; exact ⟨by decide, by decide⟩
  split at h
  · cases h; exact ⟨by decide, by decide⟩
  obtain ⟨⟨a, b, c⟩, hq, h⟩ := bind_l h
  obtain ⟨q, hq, h⟩ := bind_l h
  obtain ⟨q, hq, h⟩ := bind_l h
  obtain ⟨q, hq, h⟩ := bind_l h
  obtain ⟨q, hq, h⟩ := bind_l h
  replace h := ck_r h
  obtain ⟨⟨a, b, c, d⟩, hq, h⟩ := bind_l h
  cases h
  exact er_on hq
theorem er_drop {n m : Net} {f g : List Int} {k v e : Int} (h : repair_Drop_F n f k = some (m, g, v, e)) : Er e := by
  unfold repair_Drop_F at h
  obtain ⟨⟨a, b, c, d⟩, hq, h⟩ := bind_l h
  replace h : (if d ≠ 0 then _ else _) = some (m, g, v, e) := h
  split at h
  · cases h; exact er_cap hq
  replace h := ck_r h
  obtain ⟨q, hq, h⟩ := bind_l h
  obtain ⟨q, hq, h⟩ := bind_l h
  obtain ⟨⟨a, b, c, d⟩, hq, h⟩ := bind_l h
  cases h
  exact er_on hq
theorem er_ends {n m : Net} {f g : List Int} {s t v e : Int} (h : repair_Ends_F n f s t = some (m, g, v, e)) : Er e := by
  unfold repair_Ends_F at h
  obtain ⟨q, hq, h⟩ := bind_l h
  split at h
  · cases h; exact er_check hq
  obtain ⟨q, hq, h⟩ := bind_l h
  split at h
  · cases h; exact er_net hq
  obtain ⟨⟨a, b, c⟩, hq, h⟩ := bind_l h
  replace h := ck_r h
  obtain ⟨q, hq, h⟩ := bind_l h
  obtain ⟨⟨a, b, c, d⟩, hq, h⟩ := bind_l h
  cases h
  exact er_on hq
theorem er_set {s s' : Store} {n : Net} {f : List Int} {v e e0 : Int} (he : Er e0) (h : store_set_F s n f e0 = some (v, e, s')) : Er e := by
  unfold store_set_F at h
  split at h
  · cases h; exact he
  replace h := ck_r h
  obtain ⟨q, hq, h⟩ := bind_l h
  cases h
  exact ⟨by decide, by decide⟩
theorem er_name {z : ByteArray} {e : Int} (h : store_name_F z = some e) : Er e := by
  unfold store_name_F at h
  split at h
  · cases h; exact ⟨by decide, by decide⟩
  split at h
  · cases h; exact ⟨by decide, by decide⟩
  replace h := ck_r h
  obtain ⟨q, hq, h⟩ := bind_l h
  cases q with
  | go x => cases h; exact ⟨by decide, by decide⟩
  | ret x =>
    cases h
    refine forC_ret Er (fun j s r hr => ?_) hq
    unfold store_name_B1 at hr
    repeat' split at hr
    all_goals cases hr
    all_goals exact ⟨by decide, by decide⟩
theorem er_do {s s' : Store} {d : Deed} {v e : Int} (h : store_Do_F s d = some (v, e, s')) : Er e := by
  unfold store_Do_F at h
  by_cases c1 : d.kind = 1
  · rw [if_pos c1] at h
    obtain ⟨q, hq, h⟩ := bind_l h
    obtain ⟨⟨a, b, c⟩, hs, h⟩ := bind_l h
    cases h
    exact er_set (er_net hq) hs
  rw [if_neg c1] at h
  by_cases c2 : d.kind = 2
  · rw [if_pos c2] at h
    obtain ⟨⟨x, y, z, q⟩, hq, h⟩ := bind_l h
    obtain ⟨⟨a, b, c⟩, hs, h⟩ := bind_l h
    cases h
    exact er_set (er_add hq) hs
  rw [if_neg c2] at h
  by_cases c3 : d.kind = 3
  · rw [if_pos c3] at h
    obtain ⟨⟨x, y, z, q⟩, hq, h⟩ := bind_l h
    obtain ⟨⟨a, b, c⟩, hs, h⟩ := bind_l h
    cases h
    exact er_set (er_cap hq) hs
  rw [if_neg c3] at h
  by_cases c4 : d.kind = 4
  · rw [if_pos c4] at h
    obtain ⟨⟨x, y, z, q⟩, hq, h⟩ := bind_l h
    obtain ⟨⟨a, b, c⟩, hs, h⟩ := bind_l h
    cases h
    exact er_set (er_drop hq) hs
  rw [if_neg c4] at h
  by_cases c5 : d.kind = 5
  · rw [if_pos c5] at h
    obtain ⟨⟨x, y, z, q⟩, hq, h⟩ := bind_l h
    obtain ⟨⟨a, b, c⟩, hs, h⟩ := bind_l h
    cases h
    exact er_set (er_ends hq) hs
  rw [if_neg c5] at h
  by_cases c6 : d.kind = 6
  · rw [if_pos c6] at h
    obtain ⟨⟨a, b, c⟩, hs, h⟩ := bind_l h
    cases h
    unfold store_undo_F at hs
    split at hs
    · cases hs; exact ⟨by decide, by decide⟩
    replace hs := ck_r (ck_r (ck_r (ck_r (ck_r hs))))
    cases hs
    exact ⟨by decide, by decide⟩
  rw [if_neg c6] at h
  by_cases c7 : d.kind = 7
  · rw [if_pos c7] at h
    obtain ⟨⟨a, b, c⟩, hs, h⟩ := bind_l h
    cases h
    unfold store_save_F at hs
    obtain ⟨q, hq, hs⟩ := bind_l hs
    split at hs
    · cases hs; exact er_name hq
    obtain ⟨q, hq, hs⟩ := bind_l hs
    split at hs
    · replace hs := ck_r hs
      cases hs
      exact ⟨by decide, by decide⟩
    split at hs
    · cases hs; exact ⟨by decide, by decide⟩
    replace hs := ck_r (ck_r hs)
    cases hs
    exact ⟨by decide, by decide⟩
  rw [if_neg c7] at h
  by_cases c8 : d.kind = 8
  · rw [if_pos c8] at h
    obtain ⟨⟨a, b, c⟩, hs, h⟩ := bind_l h
    cases h
    unfold store_load_F at hs
    obtain ⟨q, hq, hs⟩ := bind_l hs
    split at hs
    · cases hs; exact er_name hq
    obtain ⟨q, hq, hs⟩ := bind_l hs
    split at hs
    · cases hs; exact ⟨by decide, by decide⟩
    replace hs := ck_r hs
    obtain ⟨⟨a, b, c⟩, hz, hs⟩ := bind_l hs
    cases hs
    exact er_set ⟨by decide, by decide⟩ hz
  rw [if_neg c8] at h
  by_cases c9 : d.kind = 9
  · rw [if_pos c9] at h
    obtain ⟨⟨a, b, c⟩, hs, h⟩ := bind_l h
    cases h
    exact ⟨by decide, by decide⟩
  rw [if_neg c9] at h
  by_cases c10 : d.kind = 10
  · rw [if_pos c10] at h
    obtain ⟨⟨a, b, c⟩, hs, h⟩ := bind_l h
    cases h
    exact ⟨by decide, by decide⟩
  rw [if_neg c10] at h
  by_cases c11 : d.kind = 11
  · rw [if_pos c11] at h
    cases h; exact ⟨by decide, by decide⟩
  rw [if_neg c11] at h
  cases h
  exact ⟨by decide, by decide⟩
end Go.Proofs.YthchdnemndolbaaDoor
namespace Go.Proofs.YthchdnemndolbaaDoor
open Go Go.Proofs.YthchdnemndolbaaDoor.Sx
set_option linter.unusedVariables false
set_option linter.unusedSimpArgs false
def pieces (z : UInt8) : List UInt8 → List (List UInt8)
  | [] => [[]]
  | b :: r => if b = z then [] :: pieces z r else match pieces z r with
    | [] => [[b]]
    | p :: ps => (b :: p) :: ps
theorem pieces_ne (z : UInt8) (l : List UInt8) : ∃ p ps, pieces z l = p :: ps := by
  cases l with
  | nil => exact ⟨_, _, rfl⟩
  | cons b r =>
    unfold pieces
    split
    · exact ⟨_, _, rfl⟩
    · split
      · exact ⟨_, _, rfl⟩
      · exact ⟨_, _, rfl⟩
theorem pieces_append (z : UInt8) : ∀ a b : List UInt8, pieces z (a ++ z :: b) = pieces z a ++ pieces z b
  | [], b => by
    have : pieces z (z :: b) = [] :: pieces z b := by rw [pieces]; exact if_pos rfl
    exact this
  | c :: a, b => by
    have ih := pieces_append z a b
    obtain ⟨p, ps, hp⟩ := pieces_ne z a
    show pieces z (c :: (a ++ z :: b)) = _
    rw [pieces, ih, pieces]
    by_cases h : c = z
    · rw [if_pos h, if_pos h]; rfl
    · rw [if_neg h, if_neg h, hp]
      rfl
theorem pieces_len (z : UInt8) : ∀ l : List UInt8, (pieces z l).length ≤ l.length + 1
  | [] => Nat.le_refl _
  | c :: l => by
    have ih := pieces_len z l
    obtain ⟨q, qs, hq⟩ := pieces_ne z l
    rw [hq] at ih
    rw [pieces]
    split
    · rw [hq]; simp only [List.length_cons] at *; omega
    · rw [hq]; simp only [List.length_cons] at *; omega
theorem index_cons (z b : UInt8) (r : List UInt8) : Lib.indexByte (b :: r) z = if b = z then 0 else if Lib.indexByte r z = -1 then -1 else Lib.indexByte r z + 1 := by
  rw [Lib.indexByte]
  by_cases h : b = z
  · simp [h]
  · simp [h]
theorem split_pieces (z : UInt8) : ∀ s : List UInt8, Lib.splitK [z] 0 (Lib.count s [z]) s = pieces z s
  | [] => by rw [Lib.count_one]; rfl
  | b :: r => by
    have ih := split_pieces z r
    have hi : ∀ l : List UInt8, Lib.index l [z] = Lib.indexByte l z := fun l => Lib.index_one l z
    by_cases h : b = z
    · subst h
      rw [Lib.count_cons_eq, Nat.add_comm, Lib.splitK, hi, index_cons, if_pos rfl, if_neg (by decide), pieces, if_pos rfl, ← ih]
      rfl
    · rw [Lib.count_cons_ne b z r h, pieces, if_neg h, ← ih]
      cases hk : Lib.count r [z] with
      | zero => rfl
      | succ k =>
        have hne : Lib.indexByte r z ≠ -1 := fun e => by
          rw [Lib.count_miss (by rw [hi]; exact e)] at hk
          cases hk
        have h0 : 0 ≤ Lib.indexByte r z := by have := Lib.indexByte_ge r z; omega
        obtain ⟨i, hI⟩ := Int.eq_ofNat_of_zero_le h0
        have e1 : ¬ (Lib.index (b :: r) [z] == -1) = true := by rw [hi, index_cons, if_neg h, if_neg hne]; simp; omega
        have e2 : ¬ (Lib.index r [z] == -1) = true := by rw [hi]; simpa using hne
        have e3 : (Lib.index (b :: r) [z]).toNat = i + 1 := by rw [hi, index_cons, if_neg h, if_neg hne, hI]; omega
        have e4 : (Lib.index r [z]).toNat = i := by rw [hi, hI]; omega
        rw [Lib.splitK, if_neg e1, Lib.splitK, if_neg e2, e3, e4]
        rfl
def cutB (z : UInt8) (s : ByteArray) : List ByteArray := Lib.splitB ⟨#[z]⟩ 0 (Lib.countB s ⟨#[z]⟩) s
theorem cutB_data (z : UInt8) (s : ByteArray) : (cutB z s).map (·.data.toList) = pieces z s.data.toList := by
  unfold cutB
  rw [Lib.splitB_data]
  exact split_pieces z s.data.toList
theorem bytes_inj {s t : ByteArray} (h : s.data.toList = t.data.toList) : s = t := ByteArray.ext (Array.toList_inj.1 h)
theorem map_inj {l m : List ByteArray} (h : l.map (·.data.toList) = m.map (·.data.toList)) : l = m := by
  induction l generalizing m with
  | nil => cases m with
    | nil => rfl
    | cons _ _ => simp at h
  | cons a l ih => cases m with
    | nil => simp at h
    | cons b m =>
      simp only [List.map_cons, List.cons.injEq] at h
      rw [bytes_inj h.1, ih h.2]
theorem append_list (s t : ByteArray) : (s ++ t).data.toList = s.data.toList ++ t.data.toList := by simp
theorem cutB_append (z : UInt8) (a b : ByteArray) : cutB z ((a ++ ⟨#[z]⟩) ++ b) = cutB z a ++ cutB z b := map_inj (by
  rw [List.map_append, cutB_data, cutB_data, cutB_data, append_list, append_list, List.append_assoc]
  exact pieces_append z _ _)
theorem cutB_len (z : UInt8) (s : ByteArray) : (cutB z s).length ≤ s.size + 1 := by
  have h := congrArg List.length (cutB_data z s)
  rw [List.length_map] at h
  rw [h]
  have := pieces_len z s.data.toList
  simpa using this
theorem cutB_size (z : UInt8) (s : ByteArray) : ∀ t, t ∈ cutB z s → t.size ≤ s.size := by
  have key : ∀ (l : List UInt8) (p : List UInt8), p ∈ pieces z l → p.length ≤ l.length := fun l => by
    induction l with
    | nil => intro p hp; rw [List.mem_singleton.1 hp]; exact Nat.le_refl _
    | cons c l ih =>
      intro p hp
      obtain ⟨q, qs, hq⟩ := pieces_ne z l
      rw [pieces] at hp
      split at hp
      · rcases List.mem_cons.1 hp with rfl | hp
        · exact Nat.zero_le _
        · have := ih p hp; simp; omega
      · rw [hq] at hp
        rcases List.mem_cons.1 hp with rfl | hp
        · have := ih q (by rw [hq]; exact List.mem_cons_self ..); simp; omega
        · have := ih p (by rw [hq]; exact List.mem_cons_of_mem _ hp); simp; omega
  intro t ht
  have : t.data.toList ∈ pieces z s.data.toList := by rw [← cutB_data]; exact List.mem_map_of_mem ht
  simpa using key _ _ this
theorem split_eq {s : ByteArray} {z : UInt8} (hs : s.size < 4294967281) : strings_Split_F s ⟨#[z]⟩ = some (cutB z s) := by
  unfold strings_Split_F
  rw [ck_some (show (⟨#[z]⟩ : ByteArray).size = 1 from rfl), ck_some hs]
  rfl
structure Ln (B : Nat) (t : ByteArray) : Prop where
  size : t.size ≤ B
  no : ∀ b, b ∈ t.data.toList → b ≠ 10
theorem Ln.le {A B : Nat} {t : ByteArray} (h : Ln A t) (hab : A ≤ B) : Ln B t := ⟨Nat.le_trans h.size hab, h.no⟩
theorem Ln.append {A B : Nat} {s t : ByteArray} (h : Ln A s) (h' : Ln B t) : Ln (A + B) (s ++ t) := ⟨by
  rw [ByteArray.size_append]; have := h.size; have := h'.size; omega, fun b hb => by
  rw [append_list] at hb
  rcases List.mem_append.1 hb with hb | hb
  · exact h.no b hb
  · exact h'.no b hb⟩
structure Txt (B : Nat) (t : ByteArray) : Prop where
  ln : Ln B t
  pos : 0 < t.size
theorem Txt.append {A B : Nat} {s t : ByteArray} (h : Txt A s) (h' : Ln B t) : Txt (A + B) (s ++ t) := ⟨h.ln.append h', by rw [ByteArray.size_append]; have := h.pos; omega⟩
theorem Ln.appendT {A B : Nat} {s t : ByteArray} (h : Ln A s) (h' : Txt B t) : Txt (A + B) (s ++ t) := ⟨h.append h'.ln, by rw [ByteArray.size_append]; have := h'.pos; omega⟩
theorem Txt.le {A B : Nat} {t : ByteArray} (h : Txt A t) (hab : A ≤ B) : Txt B t := ⟨h.ln.le hab, h.pos⟩
theorem digit_no (n : Nat) (h : n < 10) : UInt8.ofNat (48 + n) ≠ 10 := by
  have : n = 0 ∨ n = 1 ∨ n = 2 ∨ n = 3 ∨ n = 4 ∨ n = 5 ∨ n = 6 ∨ n = 7 ∨ n = 8 ∨ n = 9 := by omega
  rcases this with h | h | h | h | h | h | h | h | h | h <;> subst h <;> decide
theorem digits_fine : ∀ (k u : Nat), u < 10 ^ (k + 1) → (Lib.decDigits u).length ≤ k + 1 ∧ 0 < (Lib.decDigits u).length ∧ ∀ b, b ∈ Lib.decDigits u → b ≠ 10
  | 0, u, h => by
    have hu : u < 10 := by simpa using h
    rw [Lib.decDigits, dif_pos hu]
    exact ⟨Nat.le_refl _, Nat.zero_lt_one, fun b hb => by rw [List.mem_singleton.1 hb]; exact digit_no u hu⟩
  | k + 1, u, h => by
    by_cases hu : u < 10
    · rw [Lib.decDigits, dif_pos hu]
      exact ⟨by simp, Nat.zero_lt_one, fun b hb => by rw [List.mem_singleton.1 hb]; exact digit_no u hu⟩
    · rw [Lib.decDigits, dif_neg hu]
      obtain ⟨h1, h2, h3⟩ := digits_fine k (u / 10) (by rw [Nat.pow_succ] at h; omega)
      refine ⟨by simp; omega, by simp, fun b hb => ?_⟩
      rcases List.mem_append.1 hb with hb | hb
      · exact h3 b hb
      · rw [List.mem_singleton.1 hb]; exact digit_no _ (Nat.mod_lt _ (by decide))
theorem itoa_fine {i : Int} (h : InI i) : Txt 21 ⟨(Lib.itoa i).toArray⟩ := by
  obtain ⟨h0, h1⟩ := h
  unfold Lib.itoa
  by_cases c : i < 0
  · rw [if_pos c]
    obtain ⟨g1, g2, g3⟩ := digits_fine 19 i.natAbs (by omega)
    refine ⟨⟨?_, fun b hb => ?_⟩, ?_⟩
    · show (45 :: Lib.decDigits i.natAbs).toArray.size ≤ 21
      simp; omega
    · rcases List.mem_cons.1 hb with rfl | hb
      · decide
      · exact g3 b hb
    · show 0 < (45 :: Lib.decDigits i.natAbs).toArray.size
      simp
  · rw [if_neg c]
    obtain ⟨g1, g2, g3⟩ := digits_fine 19 i.toNat (by omega)
    refine ⟨⟨?_, fun b hb => g3 b hb⟩, ?_⟩
    · show (Lib.decDigits i.toNat).toArray.size ≤ 21
      simp; omega
    · show 0 < (Lib.decDigits i.toNat).toArray.size
      simpa using g2
theorem itoa_eq {i : Int} (h : InI i) : ∃ t, strconv_Itoa_F i = some t ∧ Txt 21 t := ⟨_, by unfold strconv_Itoa_F; rw [ck_some h], itoa_fine h⟩
theorem contains_no {t : ByteArray} {B : Nat} (h : Ln B t) : strings_Contains_F t ⟨#[10]⟩ = some false := by
  unfold strings_Contains_F
  rw [ck_some (show (⟨#[10]⟩ : ByteArray).size = 1 from rfl)]
  show some (decide (0 ≤ Lib.indexByte t.data.toList 10)) = _
  rw [decide_eq_false]
  intro hc
  obtain ⟨o, ho⟩ := Int.eq_ofNat_of_zero_le hc
  obtain ⟨h1, _⟩ := Lib.indexByte_some ho
  exact h.no 10 (List.mem_iff_getElem?.2 ⟨o, h1⟩) rfl
end Go.Proofs.YthchdnemndolbaaDoor
namespace Go.Proofs.YthchdnemndolbaaDoor
open Go Go.Proofs.YthchdnemndolbaaDoor.Sx
set_option linter.unusedVariables false
set_option linter.unusedSimpArgs false
theorem on_okE {α β γ : Type} (a : α) (f : β → Option γ) (g : α → Option γ) : (Thr.ok a : Thr α β).on f g = g a := rfl
theorem on_exE {α β γ : Type} (b : β) (f : β → Option γ) (g : α → Option γ) : (Thr.ex b : Thr α β).on f g = f b := rfl
theorem inI_wide {x : Int} (h1 : -1152921504606846976 ≤ x) (h2 : x ≤ 1152921504606846976) : InI x := by unfold InI; omega
theorem must_bad {e : Int} (h : e ≠ 0) : desk_must_F e = some (.ex e) := if_pos h
theorem must_ok : desk_must_F 0 = some (.ok ()) := rfl
theorem must_12 : desk_must_F 12 = some (.ex 12) := must_bad (by decide)
theorem wrap_digit {v : Int} (h1 : 48 ≤ v) (h2 : v ≤ 57) : IntKind.i64.wrap (IntKind.u8.wrap (v - 48)) = v - 48 := by
  have : v = 48 ∨ v = 49 ∨ v = 50 ∨ v = 51 ∨ v = 52 ∨ v = 53 ∨ v = 54 ∨ v = 55 ∨ v = 56 ∨ v = 57 := by omega
  rcases this with h | h | h | h | h | h | h | h | h | h <;> subst h <;> decide
theorem number_total (t : ByteArray) : (∃ n, 0 ≤ n ∧ n ≤ 9999 ∧ desk_number_F t = some (.ok n)) ∨ desk_number_F t = some (.ex 12) := by
  by_cases c1 : ((t.size : Nat) : Int) < 1
  · right
    unfold desk_number_F
    rw [if_pos c1, must_12]
    rfl
  by_cases c2 : 4 < ((t.size : Nat) : Int)
  · right
    unfold desk_number_F
    rw [if_neg c1, if_pos c2, must_12]
    rfl
  have hb := bytesL_len t
  obtain ⟨q, hq, hQ⟩ := forC_or (f := desk_number_B1 t) (fun k x => 0 ≤ x ∧ x < 10 ^ k) (fun q => match q with | .go x => 0 ≤ x ∧ x ≤ 9999 | .ret r => r = .ex 12) (n := (bytesL t).length) (k := 0) (s := (0 : Int)) ⟨Int.le_refl _, by decide⟩ (fun j x _ hj ⟨h0, h1⟩ => by
    unfold desk_number_B1
    by_cases d1 : ((bytesL t).getD j El.d).v < 48
    · exact .inr (.inr ⟨_, by rw [if_pos d1, must_12]; rfl, rfl⟩)
    by_cases d2 : 57 < ((bytesL t).getD j El.d).v
    · exact .inr (.inr ⟨_, by rw [if_neg d1, if_pos d2, must_12]; rfl, rfl⟩)
    have hj4 : j ≤ 3 := by omega
    have hx : x < 1000 := Int.lt_of_lt_of_le h1 (by
      have : j = 0 ∨ j = 1 ∨ j = 2 ∨ j = 3 := by omega
      rcases this with h | h | h | h <;> subst h <;> decide)
    refine .inl ⟨10 * x + (((bytesL t).getD j El.d).v - 48), ?_, by omega, ?_⟩
    · rw [if_neg d1, if_neg d2, bind_some', wrap_digit (by omega) (by omega)]
      dsimp only
      rw [ck_some (inI_small (by omega) (by omega)), ck_some (inI_small (by omega) (by omega))]
    · rw [Int.pow_succ]
      omega) (fun x ⟨h0, h1⟩ => ⟨h0, by
        have hlt : x < 10 ^ 4 := Int.lt_of_lt_of_le h1 (by
          have : 0 + (bytesL t).length = 1 ∨ 0 + (bytesL t).length = 2 ∨ 0 + (bytesL t).length = 3 ∨ 0 + (bytesL t).length = 4 := by omega
          rcases this with h | h | h | h <;> rw [h] <;> decide)
        omega⟩)
  unfold desk_number_F
  rw [if_neg c1, if_neg c2, bind_some']
  dsimp only
  rw [ck_some (by omega), hq, bind_some']
  cases q with
  | go x => exact .inl ⟨x, hQ.1, hQ.2, rfl⟩
  | ret r =>
    have hr : r = .ex 12 := hQ
    subst hr
    exact .inr rfl
theorem numbers_total (l : List ByteArray) (many : Int) (hl : l.length ≤ 1000000) :
    (∃ r : List Int, r.length = l.length ∧ ((l.length : Nat) : Int) = many ∧ desk_numbers_F l many = some (.ok r)) ∨ desk_numbers_F l many = some (.ex 12) := by
  by_cases c : ((l.length : Nat) : Int) ≠ many
  · right
    unfold desk_numbers_F
    rw [if_pos c, must_12]
    rfl
  obtain ⟨q, hq, hQ⟩ := forC_or (f := desk_numbers_B1 l) (fun k (r : List Int) => r.length = k) (fun q => match q with | .go r => r.length = l.length | .ret r => r = .ex 12) (n := l.length) (k := 0) (s := ([] : List Int)) rfl (fun j r _ hj hr => by
    unfold desk_numbers_B1
    rcases number_total (l.getD j El.d) with ⟨n, h0, h1, e⟩ | e
    · refine .inl ⟨_, by rw [e, bind_some', on_okE, ck_some (by omega)], ?_⟩
      simp [hr]
    · exact .inr (.inr ⟨_, by rw [e, bind_some', on_exE], rfl⟩)) (fun r h => by show r.length = l.length; rw [h, Nat.zero_add])
  unfold desk_numbers_F
  rw [if_neg c, bind_some']
  dsimp only
  rw [hq, bind_some']
  cases q with
  | go x => exact .inl ⟨x, hQ, by omega, rfl⟩
  | ret r =>
    have hr : r = .ex 12 := hQ
    subst hr
    exact .inr rfl
def Ended {α : Type} (good : α → Prop) (x : Option (Thr (α × Store) (Int × Store))) : Prop :=
  ∃ s', Fine s' ∧ ((∃ t, good t ∧ x = some (.ok (t, s'))) ∨ ∃ e, Er e ∧ x = some (.ex (e, s')))
theorem maxV_in {n : Net} (h : OkNet n) {v : Int} (hv : MaxV n v) : InI v := by
  obtain ⟨f, hf, rfl⟩ := hv.flow
  have hl := h.g.len
  dsimp only at hl
  have := tot_abs (f := term n.as f n.s) (M := 10000) (n := n.as.length) fun i hi => hf.term_le _ hi
  show InI (tot (term n.as f n.s) n.as.length)
  exact inI_small (by omega) (by omega)
theorem do_total {s : Store} (h : Fine s) (d : Deed) (tells : Bool) (hk : tells = true → d.kind = 9 ∨ d.kind = 10 ∨ d.kind = 11) : Ended (Txt 30) (desk_do_F s d tells) := by
  obtain ⟨v, e, s', hd, hf, hdid⟩ := do_did h d
  have her := er_do hd
  unfold desk_do_F
  rw [hd, bind_some']
  dsimp only
  by_cases c : e = 0
  · subst c
    rw [must_ok, bind_some', on_okE]
    cases ht : tells with
    | false =>
      refine ⟨s', hf, .inl ⟨_, ⟨⟨by decide, by decide⟩, by decide⟩, if_neg (by decide)⟩⟩
    | true =>
      have hv : InI v := by
        obtain ⟨low, v0, hl, _, hm⟩ := least_ok h.now.ok
        have hl60 := h.now.ok.g.len
        dsimp only at hl60
        unfold store_Do_F at hd
        rcases hk ht with k | k | k
        · rw [k, if_neg (by decide), if_neg (by decide), if_neg (by decide), if_neg (by decide), if_neg (by decide), if_neg (by decide), if_neg (by decide), if_neg (by decide), if_pos rfl, hl, bind_some'] at hd
          cases hd
          exact maxV_in h.now.ok hm
        · rw [k, if_neg (by decide), if_neg (by decide), if_neg (by decide), if_neg (by decide), if_neg (by decide), if_neg (by decide), if_neg (by decide), if_neg (by decide), if_neg (by decide), if_pos rfl, hl, bind_some'] at hd
          cases hd
          unfold InI
          rw [IntKind.wrap_i64]
          omega
        · rw [k, if_neg (by decide), if_neg (by decide), if_neg (by decide), if_neg (by decide), if_neg (by decide), if_neg (by decide), if_neg (by decide), if_neg (by decide), if_neg (by decide), if_neg (by decide), if_pos rfl] at hd
          cases hd
          exact inI_small (by omega) (by omega)
      obtain ⟨t, h1, h2⟩ := itoa_eq hv
      refine ⟨s', hf, .inl ⟨t, h2.le (by decide), ?_⟩⟩
      rw [if_pos rfl, h1, bind_some']
  · rw [must_bad c, bind_some', on_exE]
    exact ⟨s', hf, .inr ⟨e, her, rfl⟩⟩
theorem graph_of {s : Store} (h : Fine s) : desk_graph_F s = some (⟨s.now.net.n, s.now.net.as⟩, s) := by
  unfold desk_graph_F
  rw [net_ok h, bind_some']
theorem tree_total (g : Graph) : ∃ v e, tree_Count_F g = some (v, e) ∧ Er e ∧ InI v := by
  by_cases c : CountOk g
  · have h := count_ok c
    refine ⟨_, _, h, er_tree h, ?_⟩
    have h8 := c.n8
    have := tau_small (n := (g.n - 1).toNat) (l := prs g.as) (by omega) (by simpa [prs] using c.len)
    exact inI_wide (by omega) (by omega)
  · obtain ⟨e, he, h⟩ := count_bad c
    exact ⟨_, _, h, er_tree h, inI_small (by decide) (by decide)⟩
theorem colour_total (g : Graph) (k : Int) : ∃ v e, colour_Count_F g k = some (v, e) ∧ Er e ∧ InI v := by
  by_cases c : OkC g k
  · have h := col_count_ok c
    refine ⟨_, _, h, er_colour h, ?_⟩
    have h1 := colN_nonneg k.toNat g.n.toNat g.as
    have h2 := colN_le k.toNat g.n.toNat g.as
    have hm0 := c.m0; have hm1 := c.m1; have hn := c.n
    have h3 := col_pow_bound (K := ((k.toNat : Nat) : Int)) (by omega) (by omega) (j := g.n.toNat) (by omega)
    exact inI_wide (by omega) (by omega)
  · obtain ⟨e, he, h⟩ := col_count_bad c
    exact ⟨_, _, h, er_colour h, inI_small (by decide) (by decide)⟩
theorem bare_total {s : Store} (h : Fine s) (w : ByteArray) : Ended (Txt 30) (desk_bare_F s w) := by
  have told : ∀ (d : Deed) (b : Bool), (b = true → d.kind = 9 ∨ d.kind = 10 ∨ d.kind = 11) → ∀ x, x = ((desk_do_F s d b).bind fun q => q.on (fun (e, s') => some (Thr.ex (e, s'))) fun (t, s') => some (Thr.ok (t, s'))) → Ended (Txt 30) x := fun d b hk x hx => by
    obtain ⟨s', h1, h2⟩ := do_total h d b hk
    subst hx
    rcases h2 with ⟨t, h3, h4⟩ | ⟨e, h3, h4⟩
    · exact ⟨s', h1, .inl ⟨t, h3, by rw [h4, bind_some', on_okE]⟩⟩
    · exact ⟨s', h1, .inr ⟨e, h3, by rw [h4, bind_some', on_exE]⟩⟩
  unfold desk_bare_F
  by_cases c1 : w = (⟨#[117, 110, 100, 111]⟩ : ByteArray)
  · rw [if_pos c1]; exact told _ _ (fun z => by cases z) _ rfl
  rw [if_neg c1]
  by_cases c2 : w = (⟨#[118, 97, 108, 117, 101]⟩ : ByteArray)
  · rw [if_pos c2]; exact told _ _ (fun _ => .inl rfl) _ rfl
  rw [if_neg c2]
  by_cases c3 : w = (⟨#[115, 105, 100, 101]⟩ : ByteArray)
  · rw [if_pos c3]; exact told _ _ (fun _ => .inr (.inl rfl)) _ rfl
  rw [if_neg c3]
  by_cases c4 : w = (⟨#[97, 114, 99, 115]⟩ : ByteArray)
  · rw [if_pos c4]; exact told _ _ (fun _ => .inr (.inr rfl)) _ rfl
  rw [if_neg c4]
  by_cases c5 : w = (⟨#[116, 114, 101, 101, 115]⟩ : ByteArray)
  · rw [if_pos c5, graph_of h, bind_some']
    dsimp only
    obtain ⟨v, e, h1, h2, h3⟩ := tree_total ⟨s.now.net.n, s.now.net.as⟩
    rw [h1, bind_some']
    dsimp only
    by_cases c : e = 0
    · obtain ⟨t, h4, h5⟩ := itoa_eq h3
      rw [c, must_ok, bind_some', on_okE, h4, bind_some']
      exact ⟨s, h, .inl ⟨t, h5.le (by decide), rfl⟩⟩
    · rw [must_bad c, bind_some', on_exE]
      exact ⟨s, h, .inr ⟨e, h2, rfl⟩⟩
  · rw [if_neg c5, must_12, bind_some', on_exE]
    exact ⟨s, h, .inr ⟨12, ⟨by decide, by decide⟩, rfl⟩⟩
theorem deed_total {s : Store} (h : Fine s) (w : ByteArray) (l : List ByteArray) (hl : l.length ≤ 1000000) :
    ∃ s', Fine s' ∧ ((∃ t b, (b = true → Txt 30 t) ∧ desk_deed_F s w l = some (.ok (t, b, s'))) ∨ ∃ e, Er e ∧ desk_deed_F s w l = some (.ex (e, s'))) := by
  have told : ∀ (d : Deed) (x : Option (Thr (ByteArray × Bool × Store) (Int × Store))), x = ((desk_do_F s d false).bind fun q => q.on (fun (e, s') => some (Thr.ex (e, s'))) fun (t, s') => some (Thr.ok (t, true, s'))) →
      ∃ s', Fine s' ∧ ((∃ t b, (b = true → Txt 30 t) ∧ x = some (.ok (t, b, s'))) ∨ ∃ e, Er e ∧ x = some (.ex (e, s'))) := fun d x hx => by
    obtain ⟨s', h1, h2⟩ := do_total h d false (fun z => by cases z)
    subst hx
    rcases h2 with ⟨t, h3, h4⟩ | ⟨e, h3, h4⟩
    · exact ⟨s', h1, .inl ⟨t, true, fun _ => h3, by rw [h4, bind_some', on_okE]⟩⟩
    · exact ⟨s', h1, .inr ⟨e, h3, by rw [h4, bind_some', on_exE]⟩⟩
  unfold desk_deed_F
  by_cases c1 : w = (⟨#[110, 101, 119]⟩ : ByteArray)
  · rw [if_pos c1]
    rcases numbers_total l 3 hl with ⟨r, h1, h2, e⟩ | e
    · rw [e, bind_some', on_okE, ck_some (by omega), ck_some (by omega), ck_some (by omega)]
      exact told _ _ rfl
    · rw [e, bind_some', on_exE]
      exact ⟨s, h, .inr ⟨12, ⟨by decide, by decide⟩, rfl⟩⟩
  rw [if_neg c1]
  by_cases c2 : w = (⟨#[97, 114, 99]⟩ : ByteArray)
  · rw [if_pos c2]
    rcases numbers_total l 3 hl with ⟨r, h1, h2, e⟩ | e
    · rw [e, bind_some', on_okE, ck_some (by omega), ck_some (by omega), ck_some (by omega)]
      exact told _ _ rfl
    · rw [e, bind_some', on_exE]
      exact ⟨s, h, .inr ⟨12, ⟨by decide, by decide⟩, rfl⟩⟩
  rw [if_neg c2]
  by_cases c3 : w = (⟨#[99, 97, 112]⟩ : ByteArray)
  · rw [if_pos c3]
    rcases numbers_total l 2 hl with ⟨r, h1, h2, e⟩ | e
    · rw [e, bind_some', on_okE, ck_some (by omega), ck_some (by omega)]
      exact told _ _ rfl
    · rw [e, bind_some', on_exE]
      exact ⟨s, h, .inr ⟨12, ⟨by decide, by decide⟩, rfl⟩⟩
  rw [if_neg c3]
  by_cases c4 : w = (⟨#[100, 114, 111, 112]⟩ : ByteArray)
  · rw [if_pos c4]
    rcases numbers_total l 1 hl with ⟨r, h1, h2, e⟩ | e
    · rw [e, bind_some', on_okE, ck_some (by omega)]
      exact told _ _ rfl
    · rw [e, bind_some', on_exE]
      exact ⟨s, h, .inr ⟨12, ⟨by decide, by decide⟩, rfl⟩⟩
  rw [if_neg c4]
  by_cases c5 : w = (⟨#[101, 110, 100, 115]⟩ : ByteArray)
  · rw [if_pos c5]
    rcases numbers_total l 2 hl with ⟨r, h1, h2, e⟩ | e
    · rw [e, bind_some', on_okE, ck_some (by omega), ck_some (by omega)]
      exact told _ _ rfl
    · rw [e, bind_some', on_exE]
      exact ⟨s, h, .inr ⟨12, ⟨by decide, by decide⟩, rfl⟩⟩
  rw [if_neg c5]
  have rest : ∀ b : Bool, ∃ s', Fine s' ∧ ((∃ t b', (b' = true → Txt 30 t) ∧ (if b = true then
       ((
        if ((l.length : Nat) : Int) ≠ 1 then
         (desk_must_F 12).bind fun q => q.on (fun x113 =>
          some (.ret (.ex (x113, s)))) fun () =>
         some (.go ())
        else
         some (.go ())) : Option (Ex (Unit) (Thr (ByteArray × Bool × Store) (Int × Store)))).bind fun q => match q with
       | .go () =>
        ((
         if w = (⟨#[108, 111, 97, 100]⟩ : ByteArray) then
          some 8
         else
          some 7) : Option (Int)).bind fun x114 =>
        ck (0 < l.length) <|
        (desk_do_F s (⟨x114, 0, 0, 0, (l.getD 0 El.d)⟩ : Deed) false).bind fun q => q.on (fun (x123, x124) =>
         some (.ex (x123, x124))) fun (r119, x120) =>
        some (.ok (r119, true, x120))
       | .ret x => some x
      else
       some (.ok ((⟨#[]⟩ : ByteArray), false, s))) = some (.ok (t, b', s'))) ∨ ∃ e, Er e ∧ (if b = true then
       ((
        if ((l.length : Nat) : Int) ≠ 1 then
         (desk_must_F 12).bind fun q => q.on (fun x113 =>
          some (.ret (.ex (x113, s)))) fun () =>
         some (.go ())
        else
         some (.go ())) : Option (Ex (Unit) (Thr (ByteArray × Bool × Store) (Int × Store)))).bind fun q => match q with
       | .go () =>
        ((
         if w = (⟨#[108, 111, 97, 100]⟩ : ByteArray) then
          some 8
         else
          some 7) : Option (Int)).bind fun x114 =>
        ck (0 < l.length) <|
        (desk_do_F s (⟨x114, 0, 0, 0, (l.getD 0 El.d)⟩ : Deed) false).bind fun q => q.on (fun (x123, x124) =>
         some (.ex (x123, x124))) fun (r119, x120) =>
        some (.ok (r119, true, x120))
       | .ret x => some x
      else
       some (.ok ((⟨#[]⟩ : ByteArray), false, s))) = some (.ex (e, s'))) := fun b => by
    cases b with
    | false => exact ⟨s, h, .inl ⟨_, false, fun z => (by cases z), if_neg (by decide)⟩⟩
    | true =>
      rw [if_pos rfl]
      by_cases c : ((l.length : Nat) : Int) ≠ 1
      · rw [if_pos c, must_12]
        exact ⟨s, h, .inr ⟨12, ⟨by decide, by decide⟩, rfl⟩⟩
      · rw [if_neg c, bind_some']
        dsimp only
        by_cases c2 : w = (⟨#[108, 111, 97, 100]⟩ : ByteArray)
        · rw [if_pos c2, bind_some', ck_some (by omega)]
          exact told _ _ rfl
        · rw [if_neg c2, bind_some', ck_some (by omega)]
          exact told _ _ rfl
  by_cases c6 : w = (⟨#[115, 97, 118, 101]⟩ : ByteArray)
  · rw [if_pos c6, bind_some']
    exact rest _
  · rw [if_neg c6, bind_some']
    exact rest _
theorem outs_len {g : Graph} (h : Ok g) (i : Int) : InI (outs g.as i) ∧ InI (inns g.as i) := by
  have hl := h.len
  have h1 := outs_le g.as i
  have h2 := inns_le g.as i
  exact ⟨inI_small (by omega) (by omega), inI_small (by omega) (by omega)⟩
theorem size_ok {A B : Nat} {s t : ByteArray} (h : Ln A s) (h' : Ln B t) (hab : A + B ≤ 9223372036854775807) : s.size + t.size ≤ 9223372036854775807 := by
  have := h.size; have := h'.size; omega
theorem ln_one (z : UInt8) (h : z ≠ 10) : Txt 1 ⟨#[z]⟩ := ⟨⟨Nat.le_refl _, fun b hb => by rw [List.mem_singleton.1 hb]; exact h⟩, Nat.zero_lt_one⟩
theorem degrees_text {g : Graph} (h : Ok g) : ∃ t, forN (desk_asked_B1 (nodes (outs g.as) g.n) (nodes (inns g.as) g.n)) (nodes (outs g.as) g.n).length 0 (⟨#[]⟩ : ByteArray) = some t ∧ Ln 528 t := by
  have n0 := h.n0; have n1 := h.n1
  obtain ⟨t, h1, h2⟩ := forN_inv (f := desk_asked_B1 (nodes (outs g.as) g.n) (nodes (inns g.as) g.n)) (fun k t => Ln (44 * k) t) (n := (nodes (outs g.as) g.n).length) (k := 0) (s := (⟨#[]⟩ : ByteArray)) ⟨Nat.le_refl _, fun b hb => (by cases hb)⟩ fun j t _ hj ht => by
    rw [nodes_len] at hj
    obtain ⟨x, hx, tx⟩ := itoa_eq (outs_len h (j : Int)).1
    obtain ⟨y, hy, ty⟩ := itoa_eq (outs_len h (j : Int)).2
    have t1 := tx.append (ln_one 47 (by decide)).ln
    have t2 := t1.append ty.ln
    have t3 := t2.append (ln_one 32 (by decide)).ln
    refine ⟨t ++ (((x ++ ⟨#[47]⟩) ++ y) ++ ⟨#[32]⟩), ?_, (ht.append t3.ln).le (by omega)⟩
    unfold desk_asked_B1
    rw [ck_some (by rw [nodes_len]; omega), nodes_getD _ (by omega), hx, bind_some', ck_some (size_ok tx.ln (ln_one 47 (by decide)).ln (by decide)), nodes_getD _ (by omega), hy, bind_some',
      ck_some (size_ok t1.ln ty.ln (by decide)), ck_some (size_ok t2.ln (ln_one 32 (by decide)).ln (by decide)), ck_some (size_ok ht t3.ln (by omega))]
  rw [nodes_len] at h2
  exact ⟨t, h1, h2.le (by omega)⟩
theorem degrees_total (g : Graph) : (∃ o i t, graph_Degrees_F g = some (o, i, 0) ∧ forN (desk_asked_B1 o i) o.length 0 (⟨#[]⟩ : ByteArray) = some t ∧ Ln 528 t) ∨ ∃ e, Er e ∧ e ≠ 0 ∧ graph_Degrees_F g = some ([], [], e) := by
  by_cases c : checkF g (-10000) = 0
  · have h : Ok g := (checkF_ok g _).1 c
    obtain ⟨t, h1, h2⟩ := degrees_text h
    exact .inl ⟨_, _, t, degrees_ok h, h1, h2⟩
  · exact .inr ⟨_, er_degrees (degrees_bad c), c, degrees_bad c⟩
theorem best_total (gain : List (List Int)) : (∃ (r : List Int) (v : Int), assign_Best_F gain = some (r, v, 0) ∧ r.length ≤ 6 ∧ InI v ∧ ∀ k, InI (r.getD k 0)) ∨ ∃ e, Er e ∧ e ≠ 0 ∧ assign_Best_F gain = some ([], 0, e) := by
  obtain ⟨e, he, hc⟩ := assign_check gain
  by_cases c : e = 0
  · have hg := hc.1 c
    have n6 := hg.n6
    obtain ⟨p, v, hb, hp⟩ := assign_best hg
    refine .inl ⟨_, v, hb, by rw [List.length_map, hp.len]; exact n6, ?_, fun k => ?_⟩
    · rw [hp.sum]
      have := tot_abs (f := fun i => Wg gain i (p.getD i 0)) (M := 1000) (n := gain.length) fun i hi => hg.bnd _ _
      exact inI_small (by omega) (by omega)
    · by_cases hk : k < p.length
      · have h1 := hp.lt k (by rw [← hp.len]; exact hk)
        have e2 : (p.map fun (k : Nat) => (k : Int)).getD k 0 = ((p.getD k 0 : Nat) : Int) := by simp [List.getD_eq_getElem?_getD, hk]
        rw [e2]
        exact inI_small (by omega) (by omega)
      · rw [getD_big (by rw [List.length_map]; omega)]
        exact inI_small (by decide) (by decide)
  · refine .inr ⟨e, er_gain he, c, ?_⟩
    unfold assign_Best_F
    rw [he, bind_some', if_pos c]
theorem best_text {r : List Int} (hr : r.length ≤ 6) (hI : ∀ k, InI (r.getD k 0)) {t0 : ByteArray} (h0 : Ln 22 t0) : ∃ t, forN (desk_asked_B4 r) r.length 0 t0 = some t ∧ Ln 154 t := by
  obtain ⟨t, h1, h2⟩ := forN_inv (f := desk_asked_B4 r) (fun k t => Ln (22 + 22 * k) t) (n := r.length) (k := 0) (s := t0) (h0.le (by omega)) fun j t _ hj ht => by
    obtain ⟨x, hx, tx⟩ := itoa_eq (hI j)
    have t1 := tx.append (ln_one 32 (by decide)).ln
    refine ⟨t ++ (x ++ ⟨#[32]⟩), ?_, (ht.append t1.ln).le (by omega)⟩
    unfold desk_asked_B4
    rw [hx, bind_some', ck_some (size_ok tx.ln (ln_one 32 (by decide)).ln (by decide)), ck_some (size_ok ht t1.ln (by omega))]
  exact ⟨t, h1, h2.le (by omega)⟩
theorem side_eq (l : List ByteArray) (hl : l.length ≤ 5000) : ∃ n, loopC (desk_asked_B2 l) 1000000 0 = some (.go n) ∧ n ≤ l.length := by
  obtain ⟨q, hq, hQ⟩ := loopC_or (f := desk_asked_B2 l) (fun n => n ≤ l.length) (fun q => match q with | .go n => n ≤ l.length | .ret r => False) (fun n => l.length - n) (fun n hn => by
    have hm : n * n ≤ 5000 * 5000 := Nat.mul_le_mul (by omega) (by omega)
    have e : ((n : Nat) : Int) * ((n : Nat) : Int) = ((n * n : Nat) : Int) := (Int.natCast_mul n n).symm
    unfold desk_asked_B2
    rw [e, ck_some (inI_small (by omega) (by omega))]
    by_cases c : ((n * n : Nat) : Int) < ((l.length : Nat) : Int)
    · have hlt : n < l.length := by
        rcases Nat.eq_zero_or_pos n with h | h
        · subst h; omega
        · have : n * 1 ≤ n * n := Nat.mul_le_mul_left n h
          omega
      exact .inl ⟨n + 1, by rw [if_pos c, ck_some (inI_small (by omega) (by omega))], by omega, by omega⟩
    · exact .inr (.inl ⟨n, by rw [if_neg c], hn⟩)) (n := 1000000) (s := 0) (Nat.zero_le _) (by omega)
  cases q with
  | go n => exact ⟨n, hq, hQ⟩
  | ret r => exact hQ.elim
theorem rows_total {n : Nat} {r : List Int} (hn : n ≤ 5000) (hr : r.length = n * n) : ∃ g, forN (desk_asked_B3 n r) n 0 [] = some g := by
  obtain ⟨g, h1, _⟩ := forN_inv (f := desk_asked_B3 n r) (fun k (g : List (List Int)) => g.length = k) (n := n) (k := 0) (s := []) rfl fun j g _ hj hg => by
    have hm : (j + 1) * n ≤ n * n := Nat.mul_le_mul_right n (by omega)
    have hm2 : n * n ≤ 5000 * 5000 := Nat.mul_le_mul hn hn
    have hm3 : j * n ≤ (j + 1) * n := Nat.mul_le_mul_right n (by omega)
    have e1 : ((j : Nat) : Int) * ((n : Nat) : Int) = ((j * n : Nat) : Int) := (Int.natCast_mul j n).symm
    have e2 : (((j + 1) : Nat) : Int) * ((n : Nat) : Int) = (((j + 1) * n : Nat) : Int) := (Int.natCast_mul (j + 1) n).symm
    unfold desk_asked_B3
    rw [e1, e2, ck_some (inI_small (by omega) (by omega)), ck_some (inI_small (by omega) (by omega)), ck_some (by omega), ck_some (by omega), Int.toNat_natCast, Int.toNat_natCast, ck_some hm3, ck_some (by omega), ck_some (by omega)]
    exact ⟨_, rfl, by simp [hg]⟩
  exact ⟨g, h1⟩
theorem asked_total {s : Store} (h : Fine s) (w : ByteArray) (l : List ByteArray) (hl : l.length ≤ 5000) : Ended (Txt 600) (desk_asked_F s w l) := by
  have h12 : ∀ (x : Option (Thr (ByteArray × Store) (Int × Store))), x = some (.ex (12, s)) → Ended (Txt 600) x := fun x hx => ⟨s, h, .inr ⟨12, ⟨by decide, by decide⟩, hx⟩⟩
  unfold desk_asked_F
  by_cases c1 : w = (⟨#[99, 111, 108, 111, 117, 114, 115]⟩ : ByteArray)
  · rw [if_pos c1, graph_of h, bind_some']
    dsimp only
    rcases numbers_total l 1 (by omega) with ⟨r, h1, h2, e⟩ | e
    · rw [e, bind_some', on_okE, ck_some (by omega)]
      obtain ⟨v, e0, g1, g2, g3⟩ := colour_total ⟨s.now.net.n, s.now.net.as⟩ (r.getD 0 0)
      rw [g1, bind_some']
      dsimp only
      by_cases c : e0 = 0
      · obtain ⟨t, g4, g5⟩ := itoa_eq g3
        rw [c, must_ok, bind_some', on_okE, g4, bind_some']
        exact ⟨s, h, .inl ⟨t, g5.le (by decide), rfl⟩⟩
      · rw [must_bad c, bind_some', on_exE]
        exact ⟨s, h, .inr ⟨e0, g2, rfl⟩⟩
    · rw [e, bind_some', on_exE]
      exact h12 _ rfl
  rw [if_neg c1]
  by_cases c2 : w = (⟨#[100, 101, 103, 114, 101, 101, 115]⟩ : ByteArray)
  · rw [if_pos c2]
    rcases numbers_total l 0 (by omega) with ⟨r, h1, h2, e⟩ | e
    · rw [e, bind_some', on_okE, graph_of h, bind_some']
      dsimp only
      rcases degrees_total ⟨s.now.net.n, s.now.net.as⟩ with ⟨o, i, t, g1, g2, g3⟩ | ⟨e0, g1, g2, g3⟩
      · rw [g1, bind_some']
        dsimp only
        rw [must_ok, bind_some', on_okE, g2, bind_some', ck_some (size_ok g3 (ln_one 46 (by decide)).ln (by decide))]
        exact ⟨s, h, .inl ⟨_, (g3.appendT (ln_one 46 (by decide))).le (by decide), rfl⟩⟩
      · rw [g3, bind_some']
        dsimp only
        rw [must_bad g2, bind_some', on_exE]
        exact ⟨s, h, .inr ⟨e0, g1, rfl⟩⟩
    · rw [e, bind_some', on_exE]
      exact h12 _ rfl
  rw [if_neg c2]
  by_cases c3 : w = (⟨#[97, 115, 115, 105, 103, 110]⟩ : ByteArray)
  · rw [if_pos c3]
    obtain ⟨n, hn, hn2⟩ := side_eq l hl
    have hm : n * n ≤ 5000 * 5000 := Nat.mul_le_mul (by omega) (by omega)
    have en : ((n : Nat) : Int) * ((n : Nat) : Int) = ((n * n : Nat) : Int) := (Int.natCast_mul n n).symm
    rw [hn, bind_some']
    dsimp only
    rw [en, ck_some (inI_small (by omega) (by omega))]
    rcases numbers_total l ((n * n : Nat) : Int) (by omega) with ⟨r, h1, h2, e⟩ | e
    · obtain ⟨g, hg⟩ := rows_total (n := n) (r := r) (by omega) (by omega)
      rw [e, bind_some', on_okE, ck_some (inI_small (by omega) (by omega)), hg, bind_some']
      rcases best_total g with ⟨p, v, g1, g2, g3, g4⟩ | ⟨e0, g1, g2, g3⟩
      · obtain ⟨t, k1, k2⟩ := itoa_eq g3
        have k3 := k2.append (ln_one 32 (by decide)).ln
        obtain ⟨t2, k4, k5⟩ := best_text g2 g4 k3.ln
        rw [g1, bind_some']
        dsimp only
        rw [must_ok, bind_some', on_okE, k1, bind_some', ck_some (size_ok k2.ln (ln_one 32 (by decide)).ln (by decide)), k4, bind_some', ck_some (size_ok k5 (ln_one 46 (by decide)).ln (by decide))]
        exact ⟨s, h, .inl ⟨_, (k5.appendT (ln_one 46 (by decide))).le (by decide), rfl⟩⟩
      · rw [g3, bind_some']
        dsimp only
        rw [must_bad g2, bind_some', on_exE]
        exact ⟨s, h, .inr ⟨e0, g1, rfl⟩⟩
    · rw [e, bind_some', on_exE]
      exact h12 _ rfl
  rw [if_neg c3]
  by_cases c4 : 0 < ((l.length : Nat) : Int)
  · rw [if_pos c4, must_12]
    exact h12 _ rfl
  · rw [if_neg c4, bind_some']
    dsimp only
    obtain ⟨s', h1, h2⟩ := bare_total h w
    rcases h2 with ⟨t, h3, h4⟩ | ⟨e, h3, h4⟩
    · exact ⟨s', h1, .inl ⟨t, h3.le (by decide), by rw [h4, bind_some', on_okE]⟩⟩
    · exact ⟨s', h1, .inr ⟨e, h3, by rw [h4, bind_some', on_exE]⟩⟩
theorem error_text {e : Int} (h : InI e) : Txt 27 (errorText e) ∧ (⟨#[101, 114, 114, 111, 114, 32]⟩ : ByteArray).size + (⟨(Lib.itoa e).toArray⟩ : ByteArray).size ≤ 9223372036854775807 := by
  have h1 : Txt 6 (⟨#[101, 114, 114, 111, 114, 32]⟩ : ByteArray) := ⟨⟨Nat.le_refl _, by decide⟩, by decide⟩
  exact ⟨h1.append (itoa_fine h).ln, size_ok h1.ln (itoa_fine h).ln (by decide)⟩
theorem answer_total {s : Store} (h : Fine s) (line : ByteArray) (hl : line.size ≤ 4900) : ∃ t s', desk_answer_F s line = some (t, s') ∧ Fine s' ∧ Txt 600 t := by
  unfold desk_answer_F
  rw [split_eq (by omega), bind_some']
  have hlen := cutB_len 32 line
  obtain ⟨ws, hw, hw2⟩ := forN_inv (f := desk_answer_B1 (cutB 32 line)) (fun k (l : List ByteArray) => l.length ≤ k) (n := (cutB 32 line).length) (k := 0) (s := []) (Nat.le_refl _) fun j l _ hj hlj => by
    unfold desk_answer_B1
    by_cases c : (cutB 32 line).getD j El.d ≠ (⟨#[]⟩ : ByteArray)
    · exact ⟨_, by rw [if_pos c, ck_some (by omega)], by simp; omega⟩
    · exact ⟨_, by rw [if_neg c], by omega⟩
  rw [hw, bind_some']
  by_cases c : ((ws.length : Nat) : Int) = 0
  · obtain ⟨h1, h2⟩ := error_text (e := 12) (inI_small (by decide) (by decide))
    rw [if_pos c, must_12, bind_some', on_exE, ck_some (inI_small (by decide) (by decide)), ck_some h2]
    exact ⟨_, _, rfl, h, h1.le (by decide)⟩
  rw [if_neg c, bind_some']
  dsimp only
  rw [ck_some (by omega), ck_some (by omega)]
  have hsub : (subl ws 1 (ws.length - 1)).length ≤ 5000 := by rw [subl_length]; omega
  obtain ⟨s1, h1, h2⟩ := deed_total h (ws.getD 0 El.d) (subl ws 1 (ws.length - 1)) (by omega)
  rcases h2 with ⟨t, b, h3, h4⟩ | ⟨e, h3, h4⟩
  · rw [h4, bind_some', on_okE]
    dsimp only
    cases b with
    | true => exact ⟨t, s1, if_pos rfl, h1, (h3 rfl).le (by decide)⟩
    | false =>
      rw [if_neg (by decide)]
      obtain ⟨s2, k1, k2⟩ := asked_total h1 (ws.getD 0 El.d) (subl ws 1 (ws.length - 1)) hsub
      rcases k2 with ⟨t2, k3, k4⟩ | ⟨e, k3, k4⟩
      · rw [k4, bind_some', on_okE]
        exact ⟨t2, s2, rfl, k1, k3⟩
      · obtain ⟨g1, g2⟩ := error_text k3.inI
        rw [k4, bind_some', on_exE]
        dsimp only
        rw [ck_some k3.inI, ck_some g2]
        exact ⟨_, s2, rfl, k1, g1.le (by decide)⟩
  · obtain ⟨g1, g2⟩ := error_text h3.inI
    rw [h4, bind_some', on_exE]
    dsimp only
    rw [ck_some h3.inI, ck_some g2]
    exact ⟨_, s1, rfl, h1, g1.le (by decide)⟩
def lineStep (x : Store × List ByteArray) (line : ByteArray) : Store × List ByteArray :=
  if line ≠ ⟨#[]⟩ then match desk_answer_F x.1 line with
    | some (t, s) => (s, x.2 ++ [t])
    | none => x
  else x
def fullLines (l : List ByteArray) : Nat := (l.filter (· ≠ ⟨#[]⟩)).length
structure LinesOk (k : Nat) (x : Store × List ByteArray) : Prop where
  fine : Fine x.1
  txt : ∀ t, t ∈ x.2 → Txt 600 t
  len : x.2.length = k
theorem lineStep_ok {k : Nat} {x : Store × List ByteArray} (h : LinesOk k x) (line : ByteArray) (hl : line.size ≤ 4900) : LinesOk (k + if line ≠ ⟨#[]⟩ then 1 else 0) (lineStep x line) ∧
    (if line ≠ ⟨#[]⟩ then ∃ t s, desk_answer_F x.1 line = some (t, s) ∧ lineStep x line = (s, x.2 ++ [t]) else lineStep x line = x) := by
  unfold lineStep
  by_cases c : line ≠ ⟨#[]⟩
  · rw [if_pos c, if_pos c, if_pos c]
    obtain ⟨t, s, h1, h2, h3⟩ := answer_total h.fine line hl
    rw [h1]
    refine ⟨⟨h2, fun u hu => ?_, by simp [h.len]⟩, t, s, rfl, rfl⟩
    rcases List.mem_append.1 hu with hu | hu
    · exact h.txt u hu
    · rw [List.mem_singleton.1 hu]; exact h3
  · rw [if_neg c, if_neg c, if_neg c]
    exact ⟨h, rfl⟩
theorem fold_ok : ∀ (l : List ByteArray) {k : Nat} {x : Store × List ByteArray}, (∀ t, t ∈ l → t.size ≤ 4900) → LinesOk k x → LinesOk (k + fullLines l) (l.foldl lineStep x) ∧ ∃ o, (l.foldl lineStep x).2 = x.2 ++ o
  | [], k, x, _, h => ⟨h, [], by simp⟩
  | a :: l, k, x, hl, h => by
    obtain ⟨h1, h2⟩ := lineStep_ok h a (hl a (List.mem_cons_self ..))
    obtain ⟨h3, o, h4⟩ := fold_ok l (fun t ht => hl t (List.mem_cons_of_mem _ ht)) h1
    have e : fullLines (a :: l) = (if a ≠ ⟨#[]⟩ then 1 else 0) + fullLines l := by
      unfold fullLines
      by_cases c : a ≠ ⟨#[]⟩
      · rw [List.filter_cons_of_pos (by simpa using c), if_pos c]; simp; omega
      · rw [List.filter_cons_of_neg (by simpa using c), if_neg c]; omega
    refine ⟨by rw [e, ← Nat.add_assoc]; exact h3, ?_⟩
    by_cases c : a ≠ ⟨#[]⟩
    · rw [if_pos c] at h2
      obtain ⟨t, s, _, h5⟩ := h2
      refine ⟨t :: o, ?_⟩
      rw [List.foldl_cons, h4, h5]
      simp
    · rw [if_neg c] at h2
      exact ⟨o, by rw [List.foldl_cons, h4, h2]⟩
def linesOf (s : ByteArray) : List ByteArray := cutB 10 s
def deskOut (s : ByteArray) : Store × List ByteArray := (linesOf s).foldl lineStep (newS, [])
theorem new_lines : LinesOk 0 (newS, ([] : List ByteArray)) := ⟨new_fine, fun t ht => (by cases ht), rfl⟩
theorem run_eq (s : ByteArray) (hs : s.size < 4294967281) : desk_Run_F s = if 4096 < s.size ∨ 60 < (linesOf s).length then some ([], 2) else some ((deskOut s).2, 0) := by
  unfold desk_Run_F
  rw [split_eq hs, bind_some']
  show (if 4096 < ((s.size : Nat) : Int) then some ([], 2) else if 60 < (((linesOf s).length : Nat) : Int) then some ([], 2) else _) = _
  by_cases c1 : 4096 < s.size
  · rw [if_pos (by omega), if_pos (.inl c1)]
  by_cases c2 : 60 < (linesOf s).length
  · rw [if_neg (by omega), if_pos (by omega), if_pos (.inr c2)]
  rw [if_neg (by omega), if_neg (by omega), if_neg (by omega), new_eq, bind_some']
  have hsz : ∀ j, j < (linesOf s).length → ((linesOf s).getD j El.d).size ≤ 4900 := fun j hj => by
    have := cutB_size 10 s _ (mem_getD (d := El.d) hj)
    exact Nat.le_trans this (by omega)
  have hf := (forN_list (f := desk_Run_B1 (linesOf s)) (linesOf s) El.d lineStep (fun k x => ∃ n, n ≤ k ∧ LinesOk n x) (s := (newS, ([] : List ByteArray))) ⟨0, Nat.le_refl _, new_lines⟩ fun j x hj ⟨n, hn, hx⟩ => by
    obtain ⟨h1, h2⟩ := lineStep_ok hx ((linesOf s).getD j El.d) (hsz j hj)
    refine ⟨?_, _, ?_, h1⟩
    · obtain ⟨x1, x2⟩ := x
      unfold desk_Run_B1
      dsimp only
      by_cases c : (linesOf s).getD j El.d ≠ ⟨#[]⟩
      · rw [if_pos c] at h2
        obtain ⟨t, s2, h3, h4⟩ := h2
        have h3' : desk_answer_F x1 ((linesOf s).getD j El.d) = some (t, s2) := h3
        have hl : x2.length = n := hx.len
        rw [if_pos c, h4, h3', bind_some']
        dsimp only
        rw [ck_some (by omega)]
      · rw [if_neg c] at h2
        rw [if_neg c, h2]
    · by_cases c : (linesOf s).getD j El.d ≠ ⟨#[]⟩
      · rw [if_pos c]; omega
      · rw [if_neg c]; omega).1
  rw [show cutB 10 s = linesOf s from rfl, hf, bind_some']
  rfl
theorem out_ok (s : ByteArray) (hs : s.size ≤ 4900) : LinesOk (fullLines (linesOf s)) (deskOut s) := by
  have := (fold_ok (linesOf s) (fun t ht => Nat.le_trans (cutB_size 10 s t ht) hs) new_lines).1
  rwa [Nat.zero_add] at this
theorem equalStr_eq (l m : List ByteArray) : slices_Equal_string_F l m = some (decide (l = m)) := by
  unfold slices_Equal_string_F
  by_cases hl : l.length = m.length
  · rw [if_neg (by omega)]
    have : ∃ q, forC (slices_Equal_string_B1 l m) l.length 0 () = some q ∧ (∀ x, q = .ret x → x = decide (l = m)) ∧ (q = .go () → l = m) := by
      refine forC_or (fun k _ => ∀ i, i < k → l.getD i El.d = m.getD i El.d) (fun q => (∀ x, q = .ret x → x = decide (l = m)) ∧ (q = .go () → l = m)) (fun i h => absurd h (by omega)) (fun j s _ hj hI => ?_) fun s h => ⟨fun x e => (by cases e), fun _ => eq_of_getD hl fun i hi => h i (by omega)⟩
      unfold slices_Equal_string_B1
      rw [ck_some (by omega)]
      by_cases he : l.getD j El.d = m.getD j El.d
      · left
        refine ⟨(), by rw [if_neg]; exact fun h => h he, fun i hi => ?_⟩
        by_cases h : i = j
        · subst h; exact he
        · exact hI i (by omega)
      · right; right
        refine ⟨false, by rw [if_pos he], fun x e => ?_, fun e => by cases e⟩
        injection e with e; subst e
        exact (decide_eq_false fun e => he (by rw [e])).symm
    obtain ⟨q, h1, h2, h3⟩ := this
    rw [h1]
    cases q with
    | go s => simp [h3 rfl]
    | ret x => simp [h2 x rfl]
  · rw [if_pos (by omega), decide_eq_false fun e => hl (by rw [e])]
end Go.Proofs.YthchdnemndolbaaDoor
