/- Package store: what a deed does to a store. -/
import Derived.Test.YtfnldmbomampiaaPends
import Derived.Test.YtfnldmbomampiaaPspread
import Derived.Test.YtfnldmbomampiaaGstore
import Derived.Test.YtfnldmbomampiaaGkeep
namespace Go.Proofs.Ytfnldmbomampiaa
open Go Go.Proofs.Ytfnldmbomampiaa.Sx
set_option linter.unusedVariables false
set_option linter.unusedSimpArgs false
def Sound (x : StoreState) : Prop := ∃ v, Goes x.net x.flow v
structure Fine (s : Store) : Prop where
  now : Sound s.now
  old : ∀ x, x ∈ s.old → Sound x
  saved : ∀ x, x ∈ s.saved → Sound x
  few : s.old.length ≤ 20
  names : s.names.length = s.saved.length
  four : s.names.length ≤ 4
theorem Sound.ok {x : StoreState} (h : Sound x) : OkNet x.net := let ⟨_, hv⟩ := h; hv.flow.net
/-- what is now can be had again -/
def push (s : Store) (x : StoreState) : Store := ⟨x, (s.old ++ [s.now]).drop (s.old.length + 1 - 20), s.names, s.saved⟩
theorem push_fine {s : Store} (h : Fine s) {x : StoreState} (hx : Sound x) : Fine (push s x) :=
  ⟨hx, fun y hy => by
    have hy' : y ∈ s.old ++ [s.now] := List.mem_of_mem_drop hy
    rcases List.mem_append.1 hy' with h1 | h1
    · exact h.old y h1
    · rw [List.mem_singleton.1 h1]; exact h.now, h.saved, by have := h.few; simp [push]; omega, h.names, h.four⟩
theorem set_bad {s : Store} {n : Net} {f : List Int} {e : Int} (he : e ≠ 0) : store_set_F s n f e = some (0, e, s) := by
  unfold store_set_F
  rw [if_pos he]
theorem set_ok {s : Store} (h : Fine s) (n : Net) (f : List Int) : store_set_F s n f 0 = some (0, 0, push s ⟨n, f⟩) := by
  have hf := h.few
  unfold store_set_F
  rw [if_neg (by decide), ck_some (by omega)]
  by_cases c : s.old.length = 20
  · rw [if_pos (by rw [c]; decide), ck_some (by omega), ck_some (by simp only [List.length_append, List.length_cons, List.length_nil]; omega), bind_some']
    have e : subl (s.old ++ [s.now]) 1 (s.old.length + 1 - 1) = (s.old ++ [s.now]).drop (s.old.length + 1 - 20) := by
      rw [c]
      refine List.take_of_length_le ?_
      simp [c]
    rw [e]
    rfl
  · rw [if_neg (by omega), bind_some']
    have e : (s.old ++ [s.now]).drop (s.old.length + 1 - 20) = s.old ++ [s.now] := by
      rw [show s.old.length + 1 - 20 = 0 by omega]; rfl
    unfold push
    rw [e]
theorem undo_none {s : Store} (h : s.old = []) : store_undo_F s = some (0, 5, s) := by
  unfold store_undo_F
  rw [if_pos (by rw [h]; rfl)]
theorem undo_ok {s : Store} {l : List StoreState} {x : StoreState} (hs : s.old = l ++ [x]) (hf : s.old.length ≤ 20) : store_undo_F s = some (0, 0, ⟨x, l, s.names, s.saved⟩) := by
  have hl : s.old.length = l.length + 1 := by rw [hs]; simp
  have e0 : (((s.old.length : Nat) : Int) - 1).toNat = l.length := by omega
  unfold store_undo_F
  rw [if_neg (by omega), ck_some (inI_small (by omega) (by omega)), ck_some ⟨by omega, by omega⟩, ck_some (by omega), ck_some (by omega), ck_some (by omega), e0]
  have e1 : s.old.getD l.length El.d = x := by rw [hs]; simp [List.getD_eq_getElem?_getD]
  have e2 : subl s.old 0 l.length = l := by rw [hs]; simp [subl]
  rw [e1, e2]
theorem name_total (z : ByteArray) : ∃ r, store_name_F z = some r := by
  unfold store_name_F
  by_cases c1 : ((z.size : Nat) : Int) < 1
  · exact ⟨_, if_pos c1⟩
  rw [if_neg c1]
  by_cases c2 : 8 < ((z.size : Nat) : Int)
  · exact ⟨_, if_pos c2⟩
  rw [if_neg c2, ck_some (by omega)]
  obtain ⟨q, hq, _⟩ := forC_or (f := store_name_B1 z) (fun _ _ => True) (fun _ => True) (n := (bytesL z).length) (k := 0) (s := ()) trivial (fun j s _ _ _ => by
    unfold store_name_B1
    by_cases c3 : ((bytesL z).getD j El.d).v < 97
    · exact .inr (.inr ⟨3, by rw [if_pos c3], trivial⟩)
    rw [if_neg c3]
    by_cases c4 : 122 < ((bytesL z).getD j El.d).v
    · exact .inr (.inr ⟨3, by rw [if_pos c4], trivial⟩)
    · exact .inl ⟨(), by rw [if_neg c4], trivial⟩) (fun _ _ => trivial)
  rw [hq]
  cases q with
  | go x => exact ⟨0, rfl⟩
  | ret x => exact ⟨x, rfl⟩
def First (l : List ByteArray) (v : ByteArray) (k : Nat) : Prop := k < l.length ∧ l.getD k El.d = v ∧ ∀ j, j < k → l.getD j El.d ≠ v
theorem index_cases (l : List ByteArray) (v : ByteArray) : (∃ k, First l v k ∧ slices_Index_string_F l v = some ((k : Nat) : Int)) ∨ ((∀ j, j < l.length → l.getD j El.d ≠ v) ∧ slices_Index_string_F l v = some (-1)) := by
  obtain ⟨q, hq, hQ⟩ := forC_or (f := slices_Index_string_B1 l v) (fun k _ => ∀ j, j < k → l.getD j El.d ≠ v) (fun q => match q with | .go _ => ∀ j, j < l.length → l.getD j El.d ≠ v | .ret x => ∃ k : Nat, x = (k : Int) ∧ First l v k) (n := l.length) (k := 0) (s := ()) (fun j h => absurd h (by omega)) (fun j s _ hj hi => by
    unfold slices_Index_string_B1
    by_cases c : v = l.getD j El.d
    · exact .inr (.inr ⟨_, by rw [if_pos c], j, rfl, by omega, c.symm, hi⟩)
    · refine .inl ⟨(), by rw [if_neg c], fun i h => ?_⟩
      by_cases e : i = j
      · subst e; exact fun z => c z.symm
      · exact hi i (by omega)) (fun s h => by simpa using h)
  unfold slices_Index_string_F
  rw [hq]
  cases q with
  | go x => exact .inr ⟨hQ, rfl⟩
  | ret x =>
    obtain ⟨k, rfl, hk⟩ := hQ
    exact .inl ⟨k, hk, rfl⟩
theorem First.index {l : List ByteArray} {v : ByteArray} {k : Nat} (h : First l v k) : slices_Index_string_F l v = some ((k : Nat) : Int) := by
  rcases index_cases l v with ⟨j, hj, e⟩ | ⟨hn, _⟩
  · have : j = k := by
      rcases Nat.lt_trichotomy j k with c | c | c
      · exact absurd hj.2.1 (h.2.2 j c)
      · exact c
      · exact absurd h.2.1 (hj.2.2 k c)
    rw [← this]; exact e
  · exact absurd h.2.1 (hn k h.1)
/-- by this name that was saved -/
def Has (s : Store) (nm : ByteArray) (x : StoreState) : Prop := ∃ k, First s.names nm k ∧ s.saved.getD k El.d = x
inductive Did (s : Store) (d : Deed) : Int → Store → Prop where
  | bad (e : Int) (he : e ≠ 0) : Did s d e s
  | done (x : StoreState) (hk : 1 ≤ d.kind ∧ d.kind ≤ 5) : Did s d 0 (push s x)
  | load (x : StoreState) (hk : d.kind = 8) (hx : Has s d.name x) : Did s d 0 (push s x)
  | undo (l : List StoreState) (x : StoreState) (hk : d.kind = 6) (hl : s.old = l ++ [x]) : Did s d 0 ⟨x, l, s.names, s.saved⟩
  | save (s' : Store) (hk : d.kind = 7) (hn : store_name_F d.name = some 0) (h1 : s'.now = s.now) (h2 : s'.old = s.old) (h3 : Has s' d.name s.now) (h4 : ∀ nm x, nm ≠ d.name → Has s nm x → Has s' nm x) : Did s d 0 s'
  | told (hk : 9 ≤ d.kind ∧ d.kind ≤ 11) : Did s d 0 s
theorem mem_old {l : List StoreState} {k : Nat} (h : k < l.length) : l.getD k El.d ∈ l := by
  rw [List.getD_eq_getElem?_getD, List.getElem?_eq_getElem h]; exact List.getElem_mem h
theorem save_did {s : Store} (h : Fine s) (nm : ByteArray) (d : Deed) (hk : d.kind = 7) (hd : d.name = nm) : ∃ e s', store_save_F s nm = some (0, e, s') ∧ Fine s' ∧ Did s d e s' := by
  subst hd
  have h4 := h.four
  have hns := h.names
  obtain ⟨r, hr⟩ := name_total d.name
  unfold store_save_F
  rw [hr, bind_some']
  by_cases c : r = 0
  · subst c
    rw [if_neg (by decide)]
    rcases index_cases s.names d.name with ⟨k, hk1, e⟩ | ⟨hno, e⟩
    · have hlt := hk1.1
      rw [e, bind_some', if_pos (by omega), ck_some ⟨by omega, by omega⟩, show ((k : Nat) : Int).toNat = k by omega]
      refine ⟨_, _, rfl, ⟨h.now, h.old, fun x hx => ?_, h.few, by simpa using hns, h4⟩, .save _ hk hr rfl rfl ⟨k, hk1, ?_⟩ fun nm x hne ⟨j, hj, hx⟩ => ⟨j, hj, ?_⟩⟩
      · rcases List.mem_or_eq_of_mem_set hx with h1 | h1
        · exact h.saved x h1
        · rw [h1]; exact h.now
      · show (s.saved.set k s.now).getD k El.d = s.now
        rw [getD_set _ _ _ _ _ (by omega), if_pos rfl]
      · show (s.saved.set k s.now).getD j El.d = x
        have hj1 := hj.1
        rw [getD_set _ _ _ _ _ (by omega), if_neg (fun e => hne (by rw [← hj.2.1, e]; exact hk1.2.1))]
        exact hx
    · rw [e, bind_some', if_neg (by omega)]
      by_cases c4 : s.names.length = 4
      · rw [if_pos (by omega)]
        exact ⟨11, s, rfl, h, .bad 11 (by decide)⟩
      · rw [if_neg (by omega), ck_some (by omega), ck_some (by omega)]
        refine ⟨_, _, rfl, ⟨h.now, h.old, fun x hx => ?_, h.few, by simpa using hns, by simp only [List.length_append, List.length_cons, List.length_nil]; omega⟩, .save _ hk hr rfl rfl ⟨s.names.length, ⟨by simp, ?_, fun j hj => ?_⟩, ?_⟩ fun nm x hne ⟨j, hj, hx⟩ => ?_⟩
        · rcases List.mem_append.1 hx with h1 | h1
          · exact h.saved x h1
          · rw [List.mem_singleton.1 h1]; exact h.now
        · show (s.names ++ [d.name]).getD s.names.length El.d = d.name
          simp [List.getD_eq_getElem?_getD]
        · show (s.names ++ [d.name]).getD j El.d ≠ d.name
          have := hno j hj
          rw [List.getD_eq_getElem?_getD, List.getElem?_append_left hj, ← List.getD_eq_getElem?_getD]; exact this
        · show (s.saved ++ [s.now]).getD s.names.length El.d = s.now
          rw [hns]; simp [List.getD_eq_getElem?_getD]
        · have hj1 := hj.1
          have app : ∀ i, i < s.names.length → (s.names ++ [d.name]).getD i El.d = s.names.getD i El.d := fun i hi => by
            rw [List.getD_eq_getElem?_getD, List.getElem?_append_left hi, ← List.getD_eq_getElem?_getD]
          refine ⟨j, ⟨?_, ?_, fun i hi => ?_⟩, ?_⟩
          · show j < (s.names ++ [d.name]).length
            simp; omega
          · show (s.names ++ [d.name]).getD j El.d = nm
            rw [app j hj1]; exact hj.2.1
          · show (s.names ++ [d.name]).getD i El.d ≠ nm
            rw [app i (by omega)]; exact hj.2.2 i hi
          · show (s.saved ++ [s.now]).getD j El.d = x
            rw [List.getD_eq_getElem?_getD, List.getElem?_append_left (by omega), ← List.getD_eq_getElem?_getD]; exact hx
  · rw [if_pos c]
    exact ⟨r, s, rfl, h, .bad r c⟩
theorem load_ok {s : Store} (h : Fine s) {nm : ByteArray} {x : StoreState} (hn : store_name_F nm = some 0) (hx : Has s nm x) : store_load_F s nm = some (0, 0, push s x) := by
  obtain ⟨k, hk, rfl⟩ := hx
  have hlt := hk.1
  have hns := h.names
  unfold store_load_F
  rw [hn, bind_some', if_neg (by decide), hk.index, bind_some', if_neg (by omega), ck_some ⟨by omega, by omega⟩, show ((k : Nat) : Int).toNat = k by omega, set_ok h, bind_some']
theorem load_did {s : Store} (h : Fine s) (nm : ByteArray) (d : Deed) (hk : d.kind = 8) (hd : d.name = nm) : ∃ e s', store_load_F s nm = some (0, e, s') ∧ Fine s' ∧ Did s d e s' := by
  subst hd
  obtain ⟨r, hr⟩ := name_total d.name
  by_cases c : r = 0
  · subst c
    rcases index_cases s.names d.name with ⟨k, hk1, e⟩ | ⟨hno, e⟩
    · have hx : Has s d.name (s.saved.getD k El.d) := ⟨k, hk1, rfl⟩
      exact ⟨0, _, load_ok h hr hx, push_fine h (h.saved _ (mem_old (by have := hk1.1; rw [← h.names]; exact this))), .load _ hk hx⟩
    · refine ⟨5, s, ?_, h, .bad 5 (by decide)⟩
      unfold store_load_F
      rw [hr, bind_some', if_neg (by decide), e, bind_some', if_pos (by decide)]
  · refine ⟨r, s, ?_, h, .bad r c⟩
    unfold store_load_F
    rw [hr, bind_some', if_pos c]
theorem goes_nil {n a b : Int} (h : OkNet ⟨n, a, b, []⟩) : Sound ⟨⟨n, a, b, []⟩, []⟩ := by
  have e : ∀ z, netAt ([] : List Arc) [] z = 0 := fun z => rfl
  have hf : Flow ⟨n, a, b, []⟩ [] := ⟨h, rfl, fun k hk => absurd hk (by simp), fun x _ _ _ => e _⟩
  have hc : ∃ v, MaxV ⟨n, a, b, []⟩ v := by
    obtain ⟨g, v, _, _, _, hm⟩ := of_max h
    exact ⟨v, hm⟩
  obtain ⟨v, hv⟩ := hc
  obtain ⟨g, hg, hg2⟩ := hv.flow
  have hgn : g = [] := List.eq_nil_of_length_eq_zero hg.len
  subst hgn
  have hv0 : v = 0 := by rw [← hg2]; exact e _
  subst hv0
  exact ⟨0, hf, e _, hv⟩
/-- what a change answers is set -/
theorem set_ans {s : Store} (h : Fine s) (d : Deed) (hk : 1 ≤ d.kind ∧ d.kind ≤ 5) {x : Option (Net × List Int × Int × Int)} (hx : Ans x) :
    ∃ v e s', (x.bind fun (a, b, c, e) => (store_set_F s a b e).bind fun (p, q, r) => some (p, q, r)) = some (v, e, s') ∧ Fine s' ∧ Did s d e s' := by
  rcases hx with ⟨e, he, rfl⟩ | ⟨m, g, w, rfl, hg⟩
  · rw [bind_some']
    dsimp only
    rw [set_bad he, bind_some']
    exact ⟨_, _, _, rfl, h, .bad e he⟩
  · rw [bind_some']
    dsimp only
    rw [set_ok h, bind_some']
    exact ⟨_, _, _, rfl, push_fine h ⟨w, hg⟩, .done _ hk⟩
theorem do_did {s : Store} (h : Fine s) (d : Deed) : ∃ v e s', store_Do_F s d = some (v, e, s') ∧ Fine s' ∧ Did s d e s' := by
  obtain ⟨vn, hn⟩ := h.now
  unfold store_Do_F
  by_cases c1 : d.kind = 1
  · rw [if_pos c1]
    rcases checkNet_cases ⟨d.n, d.a, d.b, []⟩ with ⟨ok, e⟩ | ⟨_, e0, he, e⟩
    · rw [e, bind_some', set_ok h, bind_some']
      exact ⟨_, _, _, rfl, push_fine h (goes_nil ok), .done _ ⟨by omega, by omega⟩⟩
    · rw [e, bind_some', set_bad he, bind_some']
      exact ⟨_, _, _, rfl, h, .bad _ he⟩
  rw [if_neg c1]
  by_cases c2 : d.kind = 2
  · rw [if_pos c2]; exact set_ans h d ⟨by omega, by omega⟩ (ans_add hn _)
  rw [if_neg c2]
  by_cases c3 : d.kind = 3
  · rw [if_pos c3]; exact set_ans h d ⟨by omega, by omega⟩ (ans_cap hn _ _)
  rw [if_neg c3]
  by_cases c4 : d.kind = 4
  · rw [if_pos c4]; exact set_ans h d ⟨by omega, by omega⟩ (ans_drop hn _)
  rw [if_neg c4]
  by_cases c5 : d.kind = 5
  · rw [if_pos c5]; exact set_ans h d ⟨by omega, by omega⟩ (ans_ends hn _ _)
  rw [if_neg c5]
  by_cases c6 : d.kind = 6
  · rw [if_pos c6]
    rcases List.eq_nil_or_concat s.old with e | ⟨l, x, e⟩
    · rw [undo_none e, bind_some']
      exact ⟨_, _, _, rfl, h, .bad 5 (by decide)⟩
    · rw [List.concat_eq_append] at e
      rw [undo_ok e h.few, bind_some']
      have hlen : s.old.length = l.length + 1 := by rw [e]; simp
      exact ⟨_, _, _, rfl, ⟨h.old x (by rw [e]; simp), fun y hy => h.old y (by rw [e]; simp [hy]), h.saved, (show l.length ≤ 20 by have := h.few; omega), h.names, h.four⟩, .undo l x c6 e⟩
  rw [if_neg c6]
  by_cases c7 : d.kind = 7
  · rw [if_pos c7]
    obtain ⟨e, s', h1, h2, h3⟩ := save_did h d.name d c7 rfl
    rw [h1, bind_some']
    exact ⟨_, _, _, rfl, h2, h3⟩
  rw [if_neg c7]
  by_cases c8 : d.kind = 8
  · rw [if_pos c8]
    obtain ⟨e, s', h1, h2, h3⟩ := load_did h d.name d c8 rfl
    rw [h1, bind_some']
    exact ⟨_, _, _, rfl, h2, h3⟩
  rw [if_neg c8]
  obtain ⟨low, v, hl, _, _⟩ := least_ok hn.flow.net
  by_cases c9 : d.kind = 9
  · rw [if_pos c9, hl, bind_some']
    exact ⟨_, _, _, rfl, h, .told ⟨by omega, by omega⟩⟩
  rw [if_neg c9]
  by_cases c10 : d.kind = 10
  · rw [if_pos c10, hl, bind_some']
    exact ⟨_, _, _, rfl, h, .told ⟨by omega, by omega⟩⟩
  rw [if_neg c10]
  by_cases c11 : d.kind = 11
  · rw [if_pos c11]
    exact ⟨_, _, _, rfl, h, .told ⟨by omega, by omega⟩⟩
  rw [if_neg c11]
  exact ⟨_, _, _, rfl, h, .bad 1 (by decide)⟩
def newS : Store := ⟨⟨⟨2, 0, 1, []⟩, []⟩, [], [], []⟩
theorem new_eq : store_New_F = some newS := rfl
theorem new_fine : Fine newS := ⟨goes_nil (by
  rcases checkNet_cases ⟨2, 0, 1, []⟩ with ⟨ok, _⟩ | ⟨_, e, he, h⟩
  · exact ok
  · exact absurd h (by
      have : graph_CheckNet_F ⟨2, 0, 1, []⟩ = some 0 := by kernel_rfl
      rw [this]
      exact fun z => he (Option.some.inj z).symm)), fun x hx => (by cases hx), fun x hx => (by cases hx), by decide, rfl, by decide⟩
theorem worked_ok (l : List Deed) : ∃ s, weirkeep_worked_F l = some s ∧ Fine s := by
  unfold weirkeep_worked_F
  rw [new_eq, bind_some']
  obtain ⟨s, h1, h2⟩ := forN_inv (f := weirkeep_worked_B1 l) (fun _ s => Fine s) (n := l.length) (k := 0) new_fine fun j s _ _ hs => by
    obtain ⟨v, e, s', h1, h2, _⟩ := do_did hs (l.getD j El.d)
    refine ⟨s', ?_, h2⟩
    unfold weirkeep_worked_B1
    rw [h1, bind_some']
  rw [h1, bind_some']
  exact ⟨s, rfl, h2⟩
theorem net_ok {s : Store} (h : Fine s) : store_Net_F s = some (s.now.net, s) := by
  have hl := h.now.ok.g.len
  dsimp only at hl
  unfold store_Net_F
  rw [clone_eq (by omega), bind_some']
theorem same_net (n : Net) : weirkeep_sameNet_F n n = some true := by
  unfold weirkeep_sameNet_F
  rw [if_pos rfl, if_pos rfl, if_pos rfl, equalArcs_eq, bind_some', decide_eq_true rfl]
theorem stores_ok : weirkeep_stores_F = some true := by kernel_rfl
theorem Did.same {s s' : Store} {d : Deed} {e : Int} (h : Did s d e s') (he : e ≠ 0) : s' = s := by
  cases h with
  | bad e he => rfl
  | done x hk => exact absurd rfl he
  | load x hk hx => exact absurd rfl he
  | undo l x hk hl => exact absurd rfl he
  | save s' hk hn h1 h2 h3 h4 => exact absurd rfl he
  | told hk => exact absurd rfl he
theorem do_undo {s : Store} {l : List StoreState} {x : StoreState} (hs : s.old = l ++ [x]) (hf : s.old.length ≤ 20) (z : ByteArray) : store_Do_F s ⟨6, 0, 0, 0, z⟩ = some (0, 0, ⟨x, l, s.names, s.saved⟩) := by
  unfold store_Do_F
  dsimp only
  rw [if_neg (by decide), if_neg (by decide), if_neg (by decide), if_neg (by decide), if_neg (by decide), if_pos rfl, undo_ok hs hf, bind_some']
theorem do_load {s : Store} (h : Fine s) {nm : ByteArray} {x : StoreState} (hn : store_name_F nm = some 0) (hx : Has s nm x) : store_Do_F s ⟨8, 0, 0, 0, nm⟩ = some (0, 0, push s x) := by
  unfold store_Do_F
  dsimp only
  rw [if_neg (by decide), if_neg (by decide), if_neg (by decide), if_neg (by decide), if_neg (by decide), if_neg (by decide), if_neg (by decide), if_pos rfl, load_ok h hn hx, bind_some']
theorem do_value {s : Store} {low v e : Int} (h : cut_Least_F s.now.net = some (low, v, e)) (z : ByteArray) : store_Do_F s ⟨9, 0, 0, 0, z⟩ = some (v, 0, s) := by
  unfold store_Do_F
  dsimp only
  rw [if_neg (by decide), if_neg (by decide), if_neg (by decide), if_neg (by decide), if_neg (by decide), if_neg (by decide), if_neg (by decide), if_neg (by decide), if_pos rfl, h, bind_some']
theorem do_side {s : Store} {low v e : Int} (h : cut_Least_F s.now.net = some (low, v, e)) (z : ByteArray) : store_Do_F s ⟨10, 0, 0, 0, z⟩ = some (IntKind.i64.wrap low, 0, s) := by
  unfold store_Do_F
  dsimp only
  rw [if_neg (by decide), if_neg (by decide), if_neg (by decide), if_neg (by decide), if_neg (by decide), if_neg (by decide), if_neg (by decide), if_neg (by decide), if_neg (by decide), if_pos rfl, h, bind_some']
theorem do_weight (s : Store) (z : ByteArray) : store_Do_F s ⟨11, 0, 0, 0, z⟩ = some (((s.now.net.as.length : Nat) : Int), 0, s) := by
  unfold store_Do_F
  dsimp only
  rw [if_neg (by decide), if_neg (by decide), if_neg (by decide), if_neg (by decide), if_neg (by decide), if_neg (by decide), if_neg (by decide), if_neg (by decide), if_neg (by decide), if_neg (by decide), if_pos rfl]
/-- what was so many deeds ago -/
def ago (s : Store) (n : Nat) : Option StoreState := (s.old ++ [s.now]).reverse[n]?
theorem ago_push {s : Store} {n : Nat} {x y : StoreState} (hf : s.old.length ≤ 20) (hn : n + 1 ≤ 20) (h : ago s n = some y) : ago (push s x) (n + 1) = some y := by
  have hlt : n < (s.old ++ [s.now]).reverse.length := (List.getElem?_eq_some_iff.1 h).1
  rw [List.length_reverse, List.length_append, List.length_cons, List.length_nil] at hlt
  show ((s.old ++ [s.now]).drop (s.old.length + 1 - 20) ++ [x]).reverse[n + 1]? = some y
  rw [List.reverse_append, List.reverse_cons, List.reverse_nil, List.nil_append, List.singleton_append, List.getElem?_cons_succ, List.reverse_drop, List.getElem?_take, if_pos (by rw [List.length_append, List.length_cons, List.length_nil]; omega)]
  exact h
theorem ago_undo {s : Store} {n : Nat} {l : List StoreState} {x y : StoreState} (hs : s.old = l ++ [x]) (h : ago s (n + 1) = some y) : ago ⟨x, l, s.names, s.saved⟩ n = some y := by
  unfold ago at h ⊢
  rw [hs, List.reverse_append, List.reverse_cons, List.reverse_nil, List.nil_append, List.singleton_append, List.getElem?_cons_succ] at h
  exact h
theorem ago_zero {s : Store} {y : StoreState} (h : ago s 0 = some y) : s.now = y := by
  unfold ago at h
  rw [List.reverse_append, List.reverse_cons, List.reverse_nil, List.nil_append, List.singleton_append, List.getElem?_cons_zero] at h
  exact Option.some.inj h
theorem ago_now (s : Store) : ago s 0 = some s.now := by
  unfold ago
  rw [List.reverse_append, List.reverse_cons, List.reverse_nil, List.nil_append, List.singleton_append, List.getElem?_cons_zero]
theorem ago_some {s : Store} {n : Nat} {y : StoreState} (h : ago s (n + 1) = some y) : ∃ l x, s.old = l ++ [x] := by
  rcases List.eq_nil_or_concat s.old with e | ⟨l, x, e⟩
  · unfold ago at h
    rw [e] at h
    simp at h
  · exact ⟨l, x, by rw [e, List.concat_eq_append]⟩
end Go.Proofs.Ytfnldmbomampiaa
