/- What the row of FnExactPushCorner leans on (part 5): of the printed words and functions, of the contracts and of the plain facts only what it uses; no condition of its own. -/
import Derived.Test.YtckmmpknaengjaaDoorZFnExactPushCorner4
import Derived.Lib.SlTrimSet
import Derived.Lib.AsciiSet
import Derived.Deep.WholeRow
section
namespace Go.Proofs.YtckmmpknaengjaaDoor.Giv
set_option linter.unusedVariables false
set_option linter.unusedSimpArgs false
open Go.RowKit Go.Proofs.YtckmmpknaengjaaDoorW.PrintWords Go.Proofs.YtckmmpknaengjaaDoorW.PrintLast Go.Proofs.YtckmmpknaengjaaDoorW.PrintMore
def sizeV : Value → Nat
  | .string t => t.size
  | _ => 0
theorem ext_drop (t : ByteArray) (i : Nat) : (t.extract i t.size).data.toList = t.data.toList.drop i := by
  rw [ByteArray.data_extract, Array.toList_extract]
  simp
  rw [List.take_of_length_le]
  simp
theorem ext_take (t : ByteArray) (i : Nat) : (t.extract 0 i).data.toList = t.data.toList.take i := by
  rw [ByteArray.data_extract, Array.toList_extract]
  simp
theorem data_get (t : ByteArray) (i : Nat) (h : i < t.size) : t.data.toList[i]'(by simpa using h) = t[i] := by
  simp; rfl
theorem data_cons (t : ByteArray) (h : 0 < t.size) : t.data.toList = (t[0]'h) :: t.data.toList.drop 1 := by
  have hl : 0 < t.data.toList.length := by simpa using h
  have h1 := List.drop_eq_getElem_cons hl
  rw [List.drop_zero, data_get t 0 h] at h1
  exact h1
theorem data_snoc (t : ByteArray) (h : 0 < t.size) : t.data.toList = t.data.toList.take (t.size - 1) ++ [t[t.size - 1]'(by omega)] := by
  have hl : t.data.toList.length = t.size := by simp
  have h1 := List.take_succ_eq_append_getElem (l := t.data.toList) (i := t.size - 1) (by omega)
  rw [data_get t (t.size - 1) (by omega), show t.size - 1 + 1 = t.size from by omega, List.take_of_length_le (by omega)] at h1
  exact h1
theorem left_true (t : ByteArray) (cs : List UInt8) (h : 0 < t.size) (hc : cs.contains (t[0]'h) = true) : Lib.trimLeftS (t.extract 1 t.size).data.toList cs = Lib.trimLeftS t.data.toList cs := by
  rw [ext_drop]
  conv => rhs; rw [data_cons t h]
  unfold Lib.trimLeftS
  rw [List.dropWhile_cons, if_pos hc]
theorem left_false (t : ByteArray) (cs : List UInt8) (h : 0 < t.size) (hc : cs.contains (t[0]'h) = false) : t.data.toList = Lib.trimLeftS t.data.toList cs := by
  have e := data_cons t h
  rw [e]
  unfold Lib.trimLeftS
  rw [List.dropWhile_cons, if_neg (by rw [hc]; simp)]
theorem left_nil (t : ByteArray) (cs : List UInt8) (h : t.size = 0) : t.data.toList = Lib.trimLeftS t.data.toList cs := by
  have : t.data.toList = [] := List.eq_nil_of_length_eq_zero (by simpa using h)
  rw [this]
  rfl
theorem right_true (t : ByteArray) (cs : List UInt8) (h : 0 < t.size) (hc : cs.contains (t[t.size - 1]'(by omega)) = true) : Lib.trimRightS (t.extract 0 (t.size - 1)).data.toList cs = Lib.trimRightS t.data.toList cs := by
  rw [ext_take]
  conv => rhs; rw [data_snoc t h]
  unfold Lib.trimRightS
  rw [List.reverse_append, List.reverse_singleton, List.singleton_append, List.dropWhile_cons, if_pos hc]
theorem right_false (t : ByteArray) (cs : List UInt8) (h : 0 < t.size) (hc : cs.contains (t[t.size - 1]'(by omega)) = false) : t.data.toList = Lib.trimRightS t.data.toList cs := by
  have e := data_snoc t h
  rw [e]
  unfold Lib.trimRightS
  rw [List.reverse_append, List.reverse_singleton, List.singleton_append, List.dropWhile_cons, if_neg (by rw [hc]; simp), List.reverse_cons, List.reverse_reverse]
theorem right_nil (t : ByteArray) (cs : List UInt8) (h : t.size = 0) : t.data.toList = Lib.trimRightS t.data.toList cs := by
  have : t.data.toList = [] := List.eq_nil_of_length_eq_zero (by simpa using h)
  rw [this]
  rfl
theorem trimLeft_calls (g : Nat) (cs : List UInt8) (w : World) (hc : ∀ x : UInt8, w.cell? ⟨g, x.toNat, none⟩ = some (.bool (cs.contains x))) (s : ByteArray) (hs : s.size ≤ 1048576) :
    Calls Tryd.prog 67 #[.string s, .pointer (some ⟨g, 0, none⟩)] w fun e w' => ∃ t : ByteArray, e = .returned (.string t) ∧ t.data.toList = Lib.trimLeftS s.data.toList cs ∧ Drawn0 w w' := by
  go_enter Tryd.func67, Tryd.ntmps67
  go_wp2
  go_loopw [0] (fun v w' => ∃ t : ByteArray, v = .string t ∧ t.size ≤ 1048576 ∧ Aside0 (Lib.trimLeftS t.data.toList cs = Lib.trimLeftS s.data.toList cs) ∧ Drawn0 w w') (fun v w' => sizeV v)
  case atStart => exact ⟨s, rfl, hs, ⟨rfl⟩, Drawn0.refl _⟩
  case round =>
    obtain ⟨t, rfl, h0, HA, ⟨m1, rfl⟩⟩ := hrel
    by_cases hlt : (t.size : Int) > 0
    · have hltb : decide (0 < (t.size : Int)) = true := decide_eq_true hlt
      have hpos : 0 < t.size := by omega
      have hltc : decide (0 < t.size) = true := decide_eq_true hpos
      cases hb : cs.contains (t[0]'hpos) with
      | false =>
        have HB := Aside0.mk hb
        clear hb
        go_wp2_with (first | (go_at_call 74; refine (Tryd.asciiSet_contains g (t[0]'hpos) false _ (by have h_ := hc (t[0]'hpos); rw [HB.out] at h_; exact h_)).mono ?_; rintro e w' ⟨rfl, rfl⟩))
        go_ret
        exact ⟨t, rfl, by rw [← HA.out]; exact left_false t cs hpos HB.out, ⟨_, rfl⟩⟩
      | true =>
        have HB := Aside0.mk hb
        clear hb
        have HS := Aside0.mk (left_true t cs hpos HB.out)
        go_wp2_with (first | (go_at_call 74; refine (Tryd.asciiSet_contains g (t[0]'hpos) true _ (by have h_ := hc (t[0]'hpos); rw [HB.out] at h_; exact h_)).mono ?_; rintro e w' ⟨rfl, rfl⟩))
        go_roundw
        case measure => simp only [sizeV, ByteArray.size_extract]; omega
        case rel => exact ⟨_, rfl, by rw [ByteArray.size_extract]; omega, ⟨HS.out.trans HA.out⟩, ⟨_, rfl⟩⟩
    · have hltb : decide (0 < (t.size : Int)) = false := decide_eq_false hlt
      have hltc : decide (0 < t.size) = false := decide_eq_false (by omega)
      go_wp2
      go_ret
      exact ⟨t, rfl, by rw [← HA.out]; exact left_nil t cs (by omega), ⟨_, rfl⟩⟩
theorem trimRight_calls (g : Nat) (cs : List UInt8) (w : World) (hc : ∀ x : UInt8, w.cell? ⟨g, x.toNat, none⟩ = some (.bool (cs.contains x))) (s : ByteArray) (hs : s.size ≤ 1048576) :
    Calls Tryd.prog 68 #[.string s, .pointer (some ⟨g, 0, none⟩)] w fun e w' => ∃ t : ByteArray, e = .returned (.string t) ∧ t.data.toList = Lib.trimRightS s.data.toList cs ∧ t.size ≤ 1048576 ∧ Drawn0 w w' := by
  go_enter Tryd.func68, Tryd.ntmps68
  go_wp2
  go_loopw [0] (fun v w' => ∃ t : ByteArray, v = .string t ∧ t.size ≤ 1048576 ∧ Aside0 (Lib.trimRightS t.data.toList cs = Lib.trimRightS s.data.toList cs) ∧ Drawn0 w w') (fun v w' => sizeV v)
  case atStart => exact ⟨s, rfl, hs, ⟨rfl⟩, Drawn0.refl _⟩
  case round =>
    obtain ⟨t, rfl, h0, HA, ⟨m1, rfl⟩⟩ := hrel
    by_cases hlt : (t.size : Int) > 0
    · have hltb : decide (0 < (t.size : Int)) = true := decide_eq_true hlt
      have hpos : 0 < t.size := by omega
      have hltc : decide (0 < t.size) = true := decide_eq_true hpos
      have hwr : wrap64 ((t.size : Int) - 1) = ((t.size - 1 : Nat) : Int) := by unfold wrap64; omega
      cases hb : cs.contains (t[t.size - 1]'(by omega)) with
      | false =>
        have HB := Aside0.mk hb
        clear hb
        go_wp2_with (first | (go_at_call 74; refine (Tryd.asciiSet_contains g (t[t.size - 1]'(by omega)) false _ (by have h_ := hc (t[t.size - 1]'(by omega)); rw [HB.out] at h_; exact h_)).mono ?_; rintro e w' ⟨rfl, rfl⟩))
        go_ret
        exact ⟨t, rfl, by rw [← HA.out]; exact right_false t cs hpos HB.out, h0, ⟨_, rfl⟩⟩
      | true =>
        have HB := Aside0.mk hb
        clear hb
        have HS := Aside0.mk (right_true t cs hpos HB.out)
        go_wp2_with (first | (go_at_call 74; refine (Tryd.asciiSet_contains g (t[t.size - 1]'(by omega)) true _ (by have h_ := hc (t[t.size - 1]'(by omega)); rw [HB.out] at h_; exact h_)).mono ?_; rintro e w' ⟨rfl, rfl⟩))
        go_roundw
        case measure => simp only [sizeV, ByteArray.size_extract]; omega
        case rel => exact ⟨_, rfl, by rw [ByteArray.size_extract]; omega, ⟨HS.out.trans HA.out⟩, ⟨_, rfl⟩⟩
    · have hltb : decide (0 < (t.size : Int)) = false := decide_eq_false hlt
      have hltc : decide (0 < t.size) = false := decide_eq_false (by omega)
      go_wp2
      go_ret
      exact ⟨t, rfl, by rw [← HA.out]; exact right_nil t cs (by omega), h0, ⟨_, rfl⟩⟩
def strings_Trim.f (a0 : ByteArray) (a1 : ByteArray) : Option ByteArray := if a0.size ≤ 1048576 ∧ a1.data.toList = [108, 114, 117, 100] then some ⟨(Lib.trimS a0.data.toList a1.data.toList).toArray⟩ else none
theorem info_set : (Tryd.prog.info? 76).map (fun i => (i.zero, i.size)) = some (some (.agg (Array.replicate 256 (.bool false))), 256) := by kernel_rfl
theorem steps_ascii : ∀ (j : Nat) (b : UInt8), ([108, 114, 117, 100] : List UInt8)[j]? = some b → b.toNat < 128 := by
  intro j b h
  have hm : b ∈ ([108, 114, 117, 100] : List UInt8) := List.mem_of_getElem? h
  simp at hm
  rcases hm with rfl | rfl | rfl | rfl <;> decide
def stepSet : Array Value := Lib.setCells [108, 114, 117, 100]
set_option maxHeartbeats 8000000 in
set_option maxRecDepth 1000000 in
theorem Trim_calls (s : ByteArray) (w : World) (hs : s.size ≤ 1048576) :
    Calls Tryd.prog 56 #[.string s, .string ⟨#[108, 114, 117, 100]⟩] w fun e w' => ∃ t : ByteArray, e = .returned (.string t) ∧ t.data.toList = Lib.trimS s.data.toList [108, 114, 117, 100] ∧ Below w.heap.size w w' := by
  by_cases h0 : s.toList = ([] : List UInt8)
  · have h0c : s.toList.isEmpty = true := by rw [h0]; rfl
    have hd : s.data.toList = [] := by rw [← Lib.toList_data]; exact h0
    go_enter Tryd.func56, Tryd.ntmps56
    go_wp2
    go_ret
    exact ⟨s, rfl, by rw [hd]; rfl, Below.refl _ _⟩
  · have h0c : s.toList.isEmpty = false := by
      cases h : s.toList with
      | nil => exact absurd h h0
      | cons _ _ => rfl
    obtain ⟨w1, hw1⟩ : ∃ w1, w1 = w.alloc (.cells stepSet 76) := ⟨_, rfl⟩
    obtain ⟨w2, hw2⟩ : ∃ w2, w2 = w1.alloc (.cells stepSet 76) := ⟨_, rfl⟩
    have hz : ∀ w, (zeroValue 76).run Tryd.prog w = .ok (.agg (Array.replicate 256 (.bool false))) w := (zero_of_info info_set).1
    have hM : Calls Tryd.prog 66 #[.string ⟨#[108, 114, 117, 100]⟩] w fun e w' => e = .returned (.tuple #[.agg stepSet, .bool true]) ∧ w' = w1 := by
      rw [hw1]
      exact Tryd.strings_makeASCIISet hz ⟨#[108, 114, 117, 100]⟩ w (by decide) steps_ascii
    have hsc : (storeCells ⟨w1.heap.size, 0, none⟩ stepSet.toList 0).run Tryd.prog (w1.alloc (.cells (Array.replicate 256 (.bool false)) 76)) = .ok () w2 := by
      rw [hw2]
      exact run_storeCells_new (P := Tryd.prog) w1 76 (Array.replicate 256 (.bool false)) stepSet (by unfold stepSet; rw [Lib.setCells_size]; exact (zero_of_info info_set).2) (by unfold stepSet; rw [Lib.setCells_size, Array.size_replicate]) (Lib.setCells_one _)
    have hcell : ∀ x : UInt8, w2.cell? ⟨w1.heap.size, x.toNat, none⟩ = some (.bool (([108, 114, 117, 100] : List UInt8).contains x)) := fun x => by
      rw [hw2, World.cell?_alloc_at _ _ _ _ rfl]
      exact Lib.setCells_at _ _
    have hb : Below w.heap.size w w2 := by
      rw [hw2, hw1]
      exact ((Below.refl _ _).alloc (Nat.le_refl _) _).alloc (by simp) _
    have HB := Aside0.mk hb
    have HC := Aside0.mk hcell
    clear hb hcell hw2 hw1
    go_enter Tryd.func56, Tryd.ntmps56
    go_wp2_with (first
      | (go_at_call 66; refine hM.mono ?_; rintro e w' ⟨rfl, rfl⟩)
      | (go_at_call 68; refine (trimRight_calls _ [108, 114, 117, 100] _ HC.out s hs).mono ?_; rintro e w' ⟨t1, rfl, hr1, hr2, ⟨n1, rfl⟩⟩; have HR1 := Aside0.mk hr1; have HR2 := Aside0.mk hr2; clear hr1 hr2)
      | (go_at_call 67; refine (trimLeft_calls _ [108, 114, 117, 100] _ (fun x => by simpa using HC.out x) t1 HR2.out).mono ?_; rintro e w' ⟨t2, rfl, hl1, ⟨n2, rfl⟩⟩; have HL1 := Aside0.mk hl1; clear hl1))
    go_ret
    exact ⟨t2, rfl, by rw [HL1.out, HR1.out]; rfl, by first | exact below_draws HB.out _ | exact (HB.out).trans ⟨rfl, rfl, rfl, Nat.le_refl _, fun _ _ => rfl⟩⟩
theorem strings_Trim.calls (a0 : ByteArray) (a1 : ByteArray) (r : ByteArray) (w : World) (h : strings_Trim.f a0 a1 = some r) :
    Calls Tryd.prog 56 #[.string a0, .string a1] w fun e w' => e = .returned (.string r) ∧ Below w.heap.size w w' := by
  unfold strings_Trim.f at h
  split at h
  · rename_i h1
    obtain rfl := Option.some.inj h
    obtain ⟨⟨l⟩⟩ := a1
    obtain ⟨hs, hl⟩ := h1
    simp only at hl
    subst hl
    refine (Trim_calls a0 w hs).mono ?_
    rintro e w' ⟨t, rfl, ht, hb⟩
    refine ⟨?_, hb⟩
    rw [← ht]
  · cases h
end Go.Proofs.YtckmmpknaengjaaDoor.Giv
end
section
namespace Go.Proofs.YtckmmpknaengjaaDoor.Px
end Go.Proofs.YtckmmpknaengjaaDoor.Px
namespace Go.Proofs.YtckmmpknaengjaaDoor.Giv
end Go.Proofs.YtckmmpknaengjaaDoor.Giv
namespace Go.Proofs.YtckmmpknaengjaaDoor.Px
open Go.Proofs.YtckmmpknaengjaaDoor.Giv
open Go.RowKit Go.Proofs.YtckmmpknaengjaaDoorW.PrintWords Go.Proofs.YtckmmpknaengjaaDoorW.PrintLast Go.Proofs.YtckmmpknaengjaaDoorW.PrintMore
attribute [local go_sem] max2_int min2_int max_two min_two max_three min_three max_four min_four
set_option linter.unusedVariables false
set_option linter.unusedSimpArgs false
def impl_point_isWithin.f (a0_0 : Int) (a0_1 : Int) : Option (Bool) := if (mx a0_0 (wrap64 (-a0_0))) ≤ 12 then (some (decide ((mx a0_1 (wrap64 (-a0_1))) ≤ 12))) else (some false)
set_option maxHeartbeats 8000000 in
set_option maxRecDepth 100000 in
theorem impl_point_isWithin.calls (a0_0 : Int) (a0_1 : Int) (r : Bool) (w : World) (h : impl_point_isWithin.f a0_0 a0_1 = some r) :
  Calls Tryd.prog 60 #[.agg #[.int .i64 a0_0, .int .i64 a0_1]] w fun e w' => e = .returned (.bool r) ∧ Below w.heap.size w w' := by
 have hu54 := Tryd.underlying54
 have HB := Aside0.mk (Below.refl w.heap.size w)
 have H : (if (mx a0_0 (wrap64 (-a0_0))) ≤ 12 then (some (decide ((mx a0_1 (wrap64 (-a0_1))) ≤ 12))) else (some false)) = some r := h
 clear h
 obtain ⟨ji2, hji2⟩ : ∃ j_ : Int, (mx a0_0 (wrap64 (-a0_0))) = j_ := ⟨_, rfl⟩
 replace H : (if (ji2) ≤ 12 then (some (decide ((mx a0_1 (wrap64 (-a0_1))) ≤ 12))) else (some false)) = some r := by first | (rw [hji2] at H; exact H) | (simp only [hji2] at H ⊢; exact H)
 have hji2_ : (if a0_0 < (wrap64 (-a0_0)) then (wrap64 (-a0_0)) else a0_0) = ji2 := hji2
 by_cases c3 : (ji2) ≤ 12
 ·rw [if_pos c3] at H
  have c3b0 : decide ((ji2) ≤ 12) = true := decide_eq_true c3
  clear c3
  obtain ⟨ji4, hji4⟩ : ∃ j_ : Int, (mx a0_1 (wrap64 (-a0_1))) = j_ := ⟨_, rfl⟩
  replace H : (some (decide ((ji4) ≤ 12))) = some r := by first | (rw [hji4] at H; exact H) | (simp only [hji4] at H ⊢; exact H)
  have hji4_ : (if a0_1 < (wrap64 (-a0_1)) then (wrap64 (-a0_1)) else a0_1) = ji4 := hji4
  obtain rfl := Option.some.inj H
  go_enter Tryd.func60, Tryd.ntmps60
  go_wp2_with (first | ((with_reducible refine gate_dst (N := 1) rfl ?_); (try (refine gate_guard (by rfl) ?_; dsimp only)); refine box_event ?hg (N := 1) ?hd (cs := #[.int .i64 a0_0, .int .i64 a0_1]) (t := 54) ?hr ?_; (case hd => rfl); (case hg => rfl); (case hr => first | (go_simp; done) | (go_simp; rfl)); intro gb127 hg w5 hbox hb; have n0_ := Aside0.mk (below_step (by repeat (first | (with_reducible first | exact HB.out | apply below_alloc | apply pw_below_drewN | apply below_drew1) | exact HB.out)) hb); have n1_ := Aside0.mk (hbox); have n2_ := Aside0.mk ((by rw [hg]; exact (below_size (by repeat (first | (with_reducible first | exact HB.out | apply below_alloc | apply pw_below_drewN | apply below_drew1) | exact HB.out))) : w.heap.size ≤ gb127)); have n3_ := Aside0.mk ((by rw [hg]; exact (below_size (by repeat (first | (with_reducible first | exact HB.out | apply below_alloc | apply pw_below_drewN | apply below_drew1) | exact HB.out))) : w.heap.size ≤ gb127)); clear HB; have HB := n0_; have BK127 := n1_; have GW127 := n2_; have GE127 := n3_; clear n0_ n1_ n2_ n3_; clear hb hbox hg; have hcz6_0 : w5.cell? ⟨gb127, 0, none⟩ = some (.int .i64 a0_0) := (blk_cell BK127.out 0).trans rfl; have hcz6_1 : w5.cell? ⟨gb127, 1, none⟩ = some (.int .i64 a0_1) := (blk_cell BK127.out 1).trans rfl; have hfz6_0 := blk_frozen BK127.out 0; have hfz6_1 := blk_frozen BK127.out 1))
  go_ret
  exact ⟨by first | rfl | (simp [errW_none, errW_some] <;> rfl) | (simp only [← hji2, ← hji4]; first | rfl | (simp [errW_none, errW_some] <;> rfl)) | (simp [*, errW_none, errW_some] <;> rfl), by repeat (first | (with_reducible first | exact HB.out | apply below_alloc | apply pw_below_drewN | apply below_drew1 | refine below_set ?_ GE127.out) | exact HB.out)⟩
 ·rw [if_neg c3] at H
  have c3b0 : decide ((ji2) ≤ 12) = false := decide_eq_false c3
  clear c3
  obtain rfl := Option.some.inj H
  go_enter Tryd.func60, Tryd.ntmps60
  go_wp2_with (first | ((with_reducible refine gate_dst (N := 1) rfl ?_); (try (refine gate_guard (by rfl) ?_; dsimp only)); refine box_event ?hg (N := 1) ?hd (cs := #[.int .i64 a0_0, .int .i64 a0_1]) (t := 54) ?hr ?_; (case hd => rfl); (case hg => rfl); (case hr => first | (go_simp; done) | (go_simp; rfl)); intro gb127 hg w7 hbox hb; have n0_ := Aside0.mk (below_step (by repeat (first | (with_reducible first | exact HB.out | apply below_alloc | apply pw_below_drewN | apply below_drew1) | exact HB.out)) hb); have n1_ := Aside0.mk (hbox); have n2_ := Aside0.mk ((by rw [hg]; exact (below_size (by repeat (first | (with_reducible first | exact HB.out | apply below_alloc | apply pw_below_drewN | apply below_drew1) | exact HB.out))) : w.heap.size ≤ gb127)); have n3_ := Aside0.mk ((by rw [hg]; exact (below_size (by repeat (first | (with_reducible first | exact HB.out | apply below_alloc | apply pw_below_drewN | apply below_drew1) | exact HB.out))) : w.heap.size ≤ gb127)); clear HB; have HB := n0_; have BK127 := n1_; have GW127 := n2_; have GE127 := n3_; clear n0_ n1_ n2_ n3_; clear hb hbox hg; have hcz8_0 : w7.cell? ⟨gb127, 0, none⟩ = some (.int .i64 a0_0) := (blk_cell BK127.out 0).trans rfl; have hcz8_1 : w7.cell? ⟨gb127, 1, none⟩ = some (.int .i64 a0_1) := (blk_cell BK127.out 1).trans rfl; have hfz8_0 := blk_frozen BK127.out 0; have hfz8_1 := blk_frozen BK127.out 1))
  go_ret
  exact ⟨by first | rfl | (simp [errW_none, errW_some] <;> rfl) | (simp only [← hji2]; first | rfl | (simp [errW_none, errW_some] <;> rfl)) | (simp [*, errW_none, errW_some] <;> rfl), by repeat (first | (with_reducible first | exact HB.out | apply below_alloc | apply pw_below_drewN | apply below_drew1 | refine below_set ?_ GE127.out) | exact HB.out)⟩
def impl_readPath_1.f (a0_0 : Int) (a0_1 : Int) : Option (Bool) := (impl_point_isWithin.f a0_0 a0_1).bind fun t129 => (some (!t129))
set_option maxHeartbeats 8000000 in
set_option maxRecDepth 100000 in
theorem impl_readPath_1.calls (a0_0 : Int) (a0_1 : Int) (r : Bool) (w : World) (h : impl_readPath_1.f a0_0 a0_1 = some r) :
  Calls Tryd.prog 59 #[.agg #[.int .i64 a0_0, .int .i64 a0_1]] w fun e w' => e = .returned (.bool r) ∧ Below w.heap.size w w' := by
 have hu54 := Tryd.underlying54
 have HB := Aside0.mk (Below.refl w.heap.size w)
 have H : ((impl_point_isWithin.f a0_0 a0_1).bind fun t129 => (some (!t129))) = some r := h
 clear h
 replace H := Option.bind_eq_some_iff.mp H
 obtain ⟨t129, A20, H⟩ := H
 replace H : (some (!t129)) = some r := H
 have A2 := Aside0.mk A20
 clear A20
 obtain rfl := Option.some.inj H
 go_enter Tryd.func59, Tryd.ntmps59
 go_wp2_with (first | ((with_reducible refine gate_dst (N := 1) rfl ?_); refine box_event ?hg (N := 1) ?hd (cs := #[.int .i64 a0_0, .int .i64 a0_1]) (t := 54) ?hr ?_; (case hd => rfl); (case hg => rfl); (case hr => first | (go_simp; done) | (go_simp; rfl)); intro gb128 hg w3 hbox hb; have n0_ := Aside0.mk (below_step (by repeat (first | (with_reducible first | exact HB.out | apply below_alloc | apply pw_below_drewN | apply below_drew1) | exact HB.out)) hb); have n1_ := Aside0.mk (hbox); have n2_ := Aside0.mk ((by rw [hg]; exact (below_size (by repeat (first | (with_reducible first | exact HB.out | apply below_alloc | apply pw_below_drewN | apply below_drew1) | exact HB.out))) : w.heap.size ≤ gb128)); have n3_ := Aside0.mk ((by rw [hg]; exact (below_size (by repeat (first | (with_reducible first | exact HB.out | apply below_alloc | apply pw_below_drewN | apply below_drew1) | exact HB.out))) : w.heap.size ≤ gb128)); clear HB; have HB := n0_; have BK128 := n1_; have GW128 := n2_; have GE128 := n3_; clear n0_ n1_ n2_ n3_; clear hb hbox hg; have hcz4_0 : w3.cell? ⟨gb128, 0, none⟩ = some (.int .i64 a0_0) := (blk_cell BK128.out 0).trans rfl; have hcz4_1 : w3.cell? ⟨gb128, 1, none⟩ = some (.int .i64 a0_1) := (blk_cell BK128.out 1).trans rfl; have hfz4_0 := blk_frozen BK128.out 0; have hfz4_1 := blk_frozen BK128.out 1) | ((with_reducible refine gate_callee (f := 60) rfl ?_); refine goesL_ (some 4) rfl rfl Tryd.func60 (by kernel_rfl) rfl #[.agg #[.int .i64 a0_0, .int .i64 a0_1]] rfl (by (try simp only [List.map_toArray, List.map_cons, List.map_nil]); first | done | rfl | (simp only [List.length_drop, List.length_take]; rfl)) ?_; (with_reducible refine (impl_point_isWithin.calls a0_0 a0_1 t129 _ A2.out).mono ?_); rintro e w5 ⟨rfl, hb⟩; refine ⟨_, rfl, ?_⟩; have n0_ := Aside0.mk (blk_below (g := gb128) (o := .cells #[.int .i64 a0_0, .int .i64 a0_1] 54 (0, 0)) (by (with_reducible repeat (first | refine blk_drewN ?_ _ | refine blk_drew ?_ | refine blk_alloc ?_ _)); exact BK128.out) hb); have n1_ := Aside0.mk (below_step (by repeat (first | (with_reducible first | exact HB.out | apply below_alloc | apply pw_below_drewN | apply below_drew1 | refine below_set ?_ GE128.out) | exact HB.out)) hb); clear BK128; clear HB; have BK128 := n0_; have HB := n1_; clear n0_ n1_; (try clear hb); (try clear hb2); (try clear hk); (try clear hi)))
 go_ret
 exact ⟨by first | rfl | (simp [errW_none, errW_some] <;> rfl) | (simp [*, errW_none, errW_some] <;> rfl), by repeat (first | (with_reducible first | exact HB.out | apply below_alloc | apply pw_below_drewN | apply below_drew1 | refine below_set ?_ GE128.out) | exact HB.out)⟩
def slices_IndexFunc_impl_point_impl_point_at_impl_readPath_1.l0 : Nat → List (S54) → Int → Int → Option (Int)
  | 0, _, _, _ => none
  | k + 1, x0, x7, x8 => if x8 < x7 then (if 0 ≤ x8 then (if x8 < (x0.length : Int) then ((impl_readPath_1.f ((rd_T54 x0 x8).f0) ((rd_T54 x0 x8).f1)).bind fun t131 => (if t131 = true then (some x8) else (slices_IndexFunc_impl_point_impl_point_at_impl_readPath_1.l0 k x0 x7 (wrap64 (x8 + 1))))) else (none)) else (none)) else (some (-1))
def slices_IndexFunc_impl_point_impl_point_at_impl_readPath_1.f (k : Nat) (l0 : List (S54))  : Option (Int) := slices_IndexFunc_impl_point_impl_point_at_impl_readPath_1.l0 k l0 (l0.length : Int) 0
set_option maxHeartbeats 8000000 in
set_option maxRecDepth 100000 in
theorem slices_IndexFunc_impl_point_impl_point_at_impl_readPath_1.calls (k : Nat) (A0 : Option Addr) (c0 : Nat) (l0 : List (S54))  (r : Int) (w : World) (hr0 : Kd.C k54 w A0 l0.length l0) (hc0 : l0.length ≤ c0) (h : slices_IndexFunc_impl_point_impl_point_at_impl_readPath_1.f k l0 = some r) :
  Calls Tryd.prog 72 #[.slice A0 l0.length c0, .func (.func 59) #[] #[]] w fun e w' => e = .returned (.int .i64 r) ∧ Below w.heap.size w w' := by
 have hu54 := Tryd.underlying54
 have HR0 := Aside0.mk hr0
 have HC0 := Aside0.mk hc0
 clear hr0 hc0
 have HB := Aside0.mk (Below.refl w.heap.size w)
 have H : (slices_IndexFunc_impl_point_impl_point_at_impl_readPath_1.l0 k l0 (l0.length : Int) 0) = some r := h
 clear h
 have H' := Aside0.mk H
 clear H
 go_enter Tryd.func72, Tryd.ntmps72
 go_wp2
 go_loopg [8] k (fun kq v8 w' => ∃ (x8_1 : Int), v8 = .int .i64 x8_1 ∧ Aside0 (slices_IndexFunc_impl_point_impl_point_at_impl_readPath_1.l0 kq l0 (l0.length : Int) x8_1 = some r) ∧ Aside0 (kq ≤ k) ∧ Aside0 (Below w.heap.size w w'))
 case atStart => exact ⟨(0), (by first | rfl | (simp; done) | (simp [*]; done) | (generalize ByteArray.toList _ = l_; cases l_ <;> rfl)), H', ⟨Nat.le_refl _⟩, ⟨by repeat (first | (with_reducible first | exact HB.out | apply below_alloc | apply pw_below_drewN | apply below_drew1) | exact HB.out)⟩⟩
 case round =>
  clear H'
  try clear p2
  obtain ⟨x8_1, rfl, HA, HK1, HB⟩ := hrel
  cases gk with
  | zero => exact absurd HA.out (by simp [slices_IndexFunc_impl_point_impl_point_at_impl_readPath_1.l0])
  | succ k1 =>
   have H := HA.out
   clear HA
   simp only [slices_IndexFunc_impl_point_impl_point_at_impl_readPath_1.l0] at H
   by_cases c3 : x8_1 < (l0.length : Int)
   ·rw [if_pos c3] at H
    have c3b0 : decide (x8_1 < (l0.length : Int)) = true := decide_eq_true c3
    clear c3
    by_cases c4 : 0 ≤ x8_1
    ·rw [if_pos c4] at H
     have c4b0 : decide (0 ≤ x8_1) = true := decide_eq_true c4
     clear c4
     by_cases c5 : x8_1 < (l0.length : Int)
     ·rw [if_pos c5] at H
      have c5b0 : decide (x8_1 < (l0.length : Int)) = true := decide_eq_true c5
      clear c5
      replace H := Option.bind_eq_some_iff.mp H
      obtain ⟨t131, A60, H⟩ := H
      replace H : (if t131 = true then (some x8_1) else (slices_IndexFunc_impl_point_impl_point_at_impl_readPath_1.l0 k1 l0 (l0.length : Int) (wrap64 (x8_1 + 1)))) = some r := H
      have A6 := Aside0.mk A60
      clear A60
      by_cases c7 : t131 = true
      ·subst c7
       have H1 : (some x8_1) = some r := by rw [if_pos rfl] at H; exact H
       clear H
       have H := H1
       clear H1
       obtain rfl := Option.some.inj H
       have p130 : 0 ≤ (x8_1 : Int) := of_decide_eq_true (by first | (with_reducible assumption) | assumption)
       have q130 : x8_1 < (l0.length : Int) := of_decide_eq_true (by first | (with_reducible assumption) | assumption)
       obtain ⟨ad130, e130, hx130_0, hx130_1⟩ := at_T54 HR0.out x8_1 p130 q130
       cases e130
       replace hx130_0 := (HB.out.cell (World.block_lt_of_cell? w _ hx130_0)).trans hx130_0
       replace hx130_1 := (HB.out.cell (World.block_lt_of_cell? w _ hx130_1)).trans hx130_1
       replace p130 := eq_true p130
       replace q130 := eq_true q130
       go_wp2_with (first | (go_at_call 59; (with_reducible refine (impl_readPath_1.calls ((rd_T54 l0 x8_1).f0) ((rd_T54 l0 x8_1).f1) true _ A6.out).mono ?_); rintro e w8 ⟨rfl, hb⟩; have n0_ := Aside0.mk (below_step (by repeat (first | (with_reducible first | exact HB.out | apply below_alloc | apply pw_below_drewN | apply below_drew1) | exact HB.out)) hb); clear HB; have HB := n0_; clear n0_; (try clear hb); (try clear hb2); (try clear hk); (try clear hi)))
       go_ret
       exact ⟨by first | rfl | (simp [errW_none, errW_some] <;> rfl) | (simp [*, errW_none, errW_some] <;> rfl), by repeat (first | (with_reducible first | exact HB.out | apply below_alloc | apply pw_below_drewN | apply below_drew1) | exact HB.out)⟩
      ·replace c7 := Bool.eq_false_iff.mpr c7
       subst c7
       have H1 : (slices_IndexFunc_impl_point_impl_point_at_impl_readPath_1.l0 k1 l0 (l0.length : Int) (wrap64 (x8_1 + 1))) = some r := by rw [if_neg (show ¬ (false = true) by decide)] at H; exact H
       clear H
       have H := H1
       clear H1
       have H' := Aside0.mk H
       clear H
       have p130 : 0 ≤ (x8_1 : Int) := of_decide_eq_true (by first | (with_reducible assumption) | assumption)
       have q130 : x8_1 < (l0.length : Int) := of_decide_eq_true (by first | (with_reducible assumption) | assumption)
       obtain ⟨ad130, e130, hx130_0, hx130_1⟩ := at_T54 HR0.out x8_1 p130 q130
       cases e130
       replace hx130_0 := (HB.out.cell (World.block_lt_of_cell? w _ hx130_0)).trans hx130_0
       replace hx130_1 := (HB.out.cell (World.block_lt_of_cell? w _ hx130_1)).trans hx130_1
       replace p130 := eq_true p130
       replace q130 := eq_true q130
       go_wp2_with (first | (go_at_call 59; (with_reducible refine (impl_readPath_1.calls ((rd_T54 l0 x8_1).f0) ((rd_T54 l0 x8_1).f1) false _ A6.out).mono ?_); rintro e w9 ⟨rfl, hb⟩; have n0_ := Aside0.mk (below_step (by repeat (first | (with_reducible first | exact HB.out | apply below_alloc | apply pw_below_drewN | apply below_drew1) | exact HB.out)) hb); clear HB; have HB := n0_; clear n0_; (try clear hb); (try clear hb2); (try clear hk); (try clear hi)))
       go_roundg k1
       case measure => have := HK1.out; omega
       case rel => exact ⟨(wrap64 (x8_1 + 1)), (by first | rfl | (simp; done) | (simp [*]; done) | (generalize ByteArray.toList _ = l_; cases l_ <;> rfl)), H', ⟨by have := HK1.out; omega⟩, ⟨by repeat (first | (with_reducible first | exact HB.out | apply below_alloc | apply pw_below_drewN | apply below_drew1) | exact HB.out)⟩⟩
     ·rw [if_neg c5] at H
      exact absurd H (by simp)
    ·rw [if_neg c4] at H
     exact absurd H (by simp)
   ·rw [if_neg c3] at H
    have c3b0 : decide (x8_1 < (l0.length : Int)) = false := decide_eq_false c3
    clear c3
    obtain rfl := Option.some.inj H
    go_wp2
    go_ret
    exact ⟨by first | rfl | (simp [errW_none, errW_some] <;> rfl) | (simp [*, errW_none, errW_some] <;> rfl), by repeat (first | (with_reducible first | exact HB.out | apply below_alloc | apply pw_below_drewN | apply below_drew1) | exact HB.out)⟩
def slices_ContainsFunc_impl_point_impl_point_at_impl_readPath_1.f (k : Nat) (l0 : List (S54))  : Option (Bool) := (slices_IndexFunc_impl_point_impl_point_at_impl_readPath_1.f k l0).bind fun t132 => (some (decide (t132 ≥ 0)))
set_option maxHeartbeats 8000000 in
set_option maxRecDepth 100000 in
theorem slices_ContainsFunc_impl_point_impl_point_at_impl_readPath_1.calls (k : Nat) (A0 : Option Addr) (c0 : Nat) (l0 : List (S54))  (r : Bool) (w : World) (hr0 : Kd.C k54 w A0 l0.length l0) (hc0 : l0.length ≤ c0) (h : slices_ContainsFunc_impl_point_impl_point_at_impl_readPath_1.f k l0 = some r) :
  Calls Tryd.prog 58 #[.slice A0 l0.length c0, .func (.func 59) #[] #[]] w fun e w' => e = .returned (.bool r) ∧ Below w.heap.size w w' := by
 have HR0 := Aside0.mk hr0
 have HC0 := Aside0.mk hc0
 clear hr0 hc0
 have HB := Aside0.mk (Below.refl w.heap.size w)
 have H : ((slices_IndexFunc_impl_point_impl_point_at_impl_readPath_1.f k l0).bind fun t132 => (some (decide (t132 ≥ 0)))) = some r := h
 clear h
 replace H := Option.bind_eq_some_iff.mp H
 obtain ⟨t132, A30, H⟩ := H
 replace H : (some (decide (t132 ≥ 0))) = some r := H
 have A3 := Aside0.mk A30
 clear A30
 obtain rfl := Option.some.inj H
 go_enter Tryd.func58, Tryd.ntmps58
 go_wp2_with (first | ((with_reducible refine gate_callee (f := 72) rfl ?_); refine goesL_ (some 7) rfl rfl Tryd.func72 (by kernel_rfl) rfl #[.slice A0 l0.length c0, .func (.func 59) #[] #[]] rfl (by (try simp only [List.map_toArray, List.map_cons, List.map_nil]); first | done | rfl | (simp only [List.length_drop, List.length_take]; rfl)) ?_; (with_reducible refine (slices_IndexFunc_impl_point_impl_point_at_impl_readPath_1.calls k _ _ l0  t132 _ ?side1 ?side2 A3.out).mono ?_); (case side1 => repeat (first | exact HR0.out | (with_reducible refine Kd.C_alloc ?_ _) | (with_reducible refine Kd.C_drewN ?_ _) | (with_reducible refine Kd.C_drew ?_))); (case side2 => exact HC0.out); rintro e w4 ⟨rfl, hb⟩; refine ⟨_, rfl, ?_⟩; have n0_ := Aside0.mk (below_step (by repeat (first | (with_reducible first | exact HB.out | apply below_alloc | apply pw_below_drewN | apply below_drew1) | exact HB.out)) hb); clear HB; have HB := n0_; clear n0_; (try clear hb); (try clear hb2); (try clear hk); (try clear hi)))
 go_ret
 exact ⟨by first | rfl | (simp [errW_none, errW_some] <;> rfl) | (simp [*, errW_none, errW_some] <;> rfl), by repeat (first | (with_reducible first | exact HB.out | apply below_alloc | apply pw_below_drewN | apply below_drew1) | exact HB.out)⟩
def impl_readPath.j0 : Nat → ByteArray → Bool → Option ((List (S54)) × Bool)
  | 0, _, _ => none
  | k + 1, x0, x12 => if x12 = true then (some (([] : List (S54)), false)) else ((impl_pointsOf.f k x0).bind fun t134 => ((slices_ContainsFunc_impl_point_impl_point_at_impl_readPath_1.f k t134).bind fun t137 => (some (t134, !t137))))
def impl_readPath.f (k : Nat) (a0 : ByteArray) : Option ((List (S54)) × Bool) := if (a0.size : Int) > 400 then (impl_readPath.j0 k a0 true) else ((strings_Trim.f a0 (⟨#[108, 114, 117, 100]⟩ : ByteArray)).bind fun t133 => (impl_readPath.j0 k a0 (t133.toList != ([] : List UInt8))))
set_option maxHeartbeats 8000000 in
set_option maxRecDepth 100000 in
theorem impl_readPath.calls (k : Nat) (a0 : ByteArray) (r1 : List (S54)) (r2 : Bool) (w : World) (h : impl_readPath.f k a0 = some (r1, r2)) :
  Calls Tryd.prog 42 #[.string a0] w fun e w' => ∃ v0_ : Value, e = .returned (.tuple #[v0_, .bool r2]) ∧ Kd.R k54 54 w' w.heap.size (fun _ => True) v0_ r1 ∧ Below w.heap.size w w' := by
 have HB := Aside0.mk (Below.refl w.heap.size w)
 have H : (if (a0.size : Int) > 400 then (impl_readPath.j0 k a0 true) else ((strings_Trim.f a0 (⟨#[108, 114, 117, 100]⟩ : ByteArray)).bind fun t133 => (impl_readPath.j0 k a0 (t133.toList != ([] : List UInt8))))) = some (r1, r2) := h
 clear h
 have HC2 := Aside0.mk H
 clear H
 go_enter Tryd.func42, Tryd.ntmps42
 go_upto_region 1 with (fail)
 go_cut [12] (fun v12 wc => ∃ (kq : Nat) (x12_1 : Bool), v12 = .bool x12_1 ∧ Aside0 (impl_readPath.j0 kq a0 x12_1 = some (r1, r2)) ∧ Aside0 (kq ≤ k) ∧ Aside0 (Below w.heap.size w wc))
 case first =>
  have H := HC2.out
  clear HC2
  by_cases c3 : (a0.size : Int) > 400
  ·rw [if_pos c3] at H
   have c3b0 : decide (400 < (a0.size : Int)) = true := decide_eq_true c3
   have c3b1 : decide (400 < a0.size) = true := decide_eq_true (by omega)
   clear c3
   (first | rw [c3b0] | (simp only [i64_w, i32_w]; rw [c3b0]) | skip)
   have H' := Aside0.mk H
   clear H
   go_wp2
   go_meet
   case rel => exact ⟨_, (true), (by first | rfl | (simp; done) | (simp [*]; done) | (generalize ByteArray.toList _ = l_; cases l_ <;> rfl)), H', ⟨by first | omega | exact Nat.le_refl _⟩, ⟨by repeat (first | (with_reducible first | exact HB.out | apply below_alloc | apply pw_below_drewN | apply below_drew1) | exact HB.out)⟩⟩
  ·rw [if_neg c3] at H
   have c3b0 : decide (400 < (a0.size : Int)) = false := decide_eq_false c3
   have c3b1 : decide (400 < a0.size) = false := decide_eq_false (by omega)
   clear c3
   (first | rw [c3b0] | (simp only [i64_w, i32_w]; rw [c3b0]) | skip)
   replace H := Option.bind_eq_some_iff.mp H
   obtain ⟨t133, A40, H⟩ := H
   replace H : (impl_readPath.j0 k a0 (t133.toList != ([] : List UInt8))) = some (r1, r2) := H
   have A4 := Aside0.mk A40
   clear A40
   have H' := Aside0.mk H
   clear H
   go_wp2_with (first | (go_at_call 56; (with_reducible refine (strings_Trim.calls a0 (⟨#[108, 114, 117, 100]⟩ : ByteArray) t133 _ A4.out).mono ?_); rintro e w5 ⟨rfl, hb⟩; have n0_ := Aside0.mk (below_step (by repeat (first | (with_reducible first | exact HB.out | apply below_alloc | apply pw_below_drewN | apply below_drew1) | exact HB.out)) hb); clear HB; have HB := n0_; clear n0_; (try clear hb); (try clear hb2); (try clear hk); (try clear hi)))
   go_meet
   case rel => exact ⟨_, ((t133.toList != ([] : List UInt8))), (by first | rfl | (simp; done) | (simp [*]; done) | (generalize ByteArray.toList _ = l_; cases l_ <;> rfl)), H', ⟨by first | omega | exact Nat.le_refl _⟩, ⟨by repeat (first | (with_reducible first | exact HB.out | apply below_alloc | apply pw_below_drewN | apply below_drew1) | exact HB.out)⟩⟩
 case rest =>
  clear HC2
  try clear p2
  try clear c3
  try clear c3b0
  try clear c3b1
  try clear c4
  obtain ⟨kq, x12_1, rfl, HA, HJ1, HB⟩ := hcut
  cases kq with
  | zero => exact absurd HA.out (by simp [impl_readPath.j0])
  | succ kj1 =>
   have H := HA.out
   clear HA
   simp only [impl_readPath.j0] at H
   by_cases c6 : x12_1 = true
   ·subst c6
    have H1 : (some (([] : List (S54)), false)) = some (r1, r2) := by rw [if_pos rfl] at H; exact H
    clear H
    have H := H1
    clear H1
    simp only [Option.some.injEq, Prod.mk.injEq] at H
    obtain ⟨rfl, rfl⟩ := H
    go_wp2
    go_ret2
    exact ⟨_, by first | rfl | (simp [errW_none, errW_some] <;> rfl) | (simp [*, errW_none, errW_some] <;> rfl), by first | exact Kd.R_nil _ _ _ _ _ | exact Kd.N_nil _ _ _ _ _ | exact Kd.V_nil _ _ _ _ _ | exact Kd.Q_nil _ _ _ _ _ | exact Kd.S_nil _ _ _ _ _, by repeat (first | (with_reducible first | exact HB.out | apply below_alloc | apply pw_below_drewN | apply below_drew1) | exact HB.out)⟩
   ·replace c6 := Bool.eq_false_iff.mpr c6
    subst c6
    have H1 : ((impl_pointsOf.f kj1 a0).bind fun t134 => ((slices_ContainsFunc_impl_point_impl_point_at_impl_readPath_1.f kj1 t134).bind fun t137 => (some (t134, !t137)))) = some (r1, r2) := by rw [if_neg (show ¬ (false = true) by decide)] at H; exact H
    clear H
    have H := H1
    clear H1
    replace H := Option.bind_eq_some_iff.mp H
    obtain ⟨t134, A70, H⟩ := H
    replace H : ((slices_ContainsFunc_impl_point_impl_point_at_impl_readPath_1.f kj1 t134).bind fun t137 => (some (t134, !t137))) = some (r1, r2) := H
    have A7 := Aside0.mk A70
    clear A70
    replace H := Option.bind_eq_some_iff.mp H
    obtain ⟨t137, A80, H⟩ := H
    replace H : (some (t134, !t137)) = some (r1, r2) := H
    have A8 := Aside0.mk A80
    clear A80
    simp only [Option.some.injEq, Prod.mk.injEq] at H
    obtain ⟨rfl, rfl⟩ := H
    go_wp2_with (first | ((with_reducible refine gate_callee (f := 57) rfl ?_); refine goesL_ (some 14) rfl rfl Tryd.func57 (by kernel_rfl) rfl #[.string a0] rfl (by (try simp only [List.map_toArray, List.map_cons, List.map_nil]); first | done | rfl | (simp only [List.length_drop, List.length_take]; rfl)) ?_; (with_reducible refine (impl_pointsOf.calls kj1 a0 t134 _ A7.out).mono ?_); rintro e w9 ⟨v135, rfl, ho0, hb⟩; refine ⟨_, rfl, ?_⟩; have n0_ := Aside0.mk (Kd.R_lower ho0 (below_size (by repeat (first | (with_reducible first | exact HB.out | apply below_alloc | apply pw_below_drewN | apply below_drew1) | exact HB.out)))); have n1_ := Aside0.mk (below_step (by repeat (first | (with_reducible first | exact HB.out | apply below_alloc | apply pw_below_drewN | apply below_drew1) | exact HB.out)) hb); clear HB; have HO136 := n0_; have HB := n1_; clear n0_ n1_; (try clear hb); (try clear hb2); (try clear hk); (try clear hi); (try clear ho0); obtain ⟨Ao10, co10, eo10⟩ := Kd.R_slice HO136.out; subst eo10) | ((with_reducible refine gate_callee (f := 58) rfl ?_); refine goesL_ (some 17) rfl rfl Tryd.func58 (by kernel_rfl) rfl #[.slice Ao10 t134.length co10, .func (.func 59) #[] #[]] rfl (by (try simp only [List.map_toArray, List.map_cons, List.map_nil]); first | done | rfl | (simp only [List.length_drop, List.length_take]; rfl)) ?_; (with_reducible refine (slices_ContainsFunc_impl_point_impl_point_at_impl_readPath_1.calls kj1 _ _ t134  t137 _ ?side1 ?side2 A8.out).mono ?_); (case side1 => repeat (first | exact (Kd.R_reads' HO136.out).2.2 | (with_reducible refine Kd.C_alloc ?_ _) | (with_reducible refine Kd.C_drewN ?_ _) | (with_reducible refine Kd.C_drew ?_))); (case side2 => exact (Kd.R_reads' HO136.out).2.1); rintro e w11 ⟨rfl, hb⟩; refine ⟨_, rfl, ?_⟩; have n0_ := Aside0.mk (Kd.R_below (by (with_reducible repeat (first | apply Kd.R_alloc | apply Kd.R_drewN | apply Kd.R_drew)); exact HO136.out) hb); have n1_ := Aside0.mk (below_step (by repeat (first | (with_reducible first | exact HB.out | apply below_alloc | apply pw_below_drewN | apply below_drew1) | exact HB.out)) hb); clear HO136; clear HB; have HO136 := n0_; have HB := n1_; clear n0_ n1_; (try clear hb); (try clear hb2); (try clear hk); (try clear hi)))
    go_ret2
    exact ⟨_, by first | rfl | (simp [errW_none, errW_some] <;> rfl) | (simp [*, errW_none, errW_some] <;> rfl), by (with_reducible repeat (first | apply Kd.R_alloc | apply Kd.R_drewN | apply Kd.R_drew)); exact HO136.out, by repeat (first | (with_reducible first | exact HB.out | apply below_alloc | apply pw_below_drewN | apply below_drew1) | exact HB.out)⟩
end Go.Proofs.YtckmmpknaengjaaDoor.Px
end
section
namespace Go.Proofs.YtckmmpknaengjaaDoor.Px
end Go.Proofs.YtckmmpknaengjaaDoor.Px
namespace Go.Proofs.YtckmmpknaengjaaDoor.Giv
end Go.Proofs.YtckmmpknaengjaaDoor.Giv
namespace Go.Proofs.YtckmmpknaengjaaDoor.Px
open Go.Proofs.YtckmmpknaengjaaDoor.Giv
open Go.RowKit Go.Proofs.YtckmmpknaengjaaDoorW.PrintWords Go.Proofs.YtckmmpknaengjaaDoorW.PrintLast Go.Proofs.YtckmmpknaengjaaDoorW.PrintMore
attribute [local go_sem] max2_int min2_int max_two min_two max_three min_three max_four min_four
set_option linter.unusedVariables false
set_option linter.unusedSimpArgs false
def spec_l1Least.f (a0 : Int) (a1 : Int) : Option (Int) := if a0 < a1 then (some a0) else (some a1)
set_option maxHeartbeats 8000000 in
set_option maxRecDepth 100000 in
theorem spec_l1Least.calls (a0 : Int) (a1 : Int) (r : Int) (w : World) (h : spec_l1Least.f a0 a1 = some r) :
  Calls Tryd.prog 44 #[.int .i64 a0, .int .i64 a1] w fun e w' => e = .returned (.int .i64 r) ∧ Drawn0 w w' := by
 have H : (if a0 < a1 then (some a0) else (some a1)) = some r := h
 clear h
 by_cases c3 : a0 < a1
 ·rw [if_pos c3] at H
  have c3b0 : decide (a0 < a1) = true := decide_eq_true c3
  clear c3
  obtain rfl := Option.some.inj H
  go_enter Tryd.func44, Tryd.ntmps44
  go_wp2
  go_ret
  exact ⟨by first | rfl | (simp; done) | (simp [*]; done), by repeat (first | exact Drawn0.refl _ | apply Drawn0.step)⟩
 ·rw [if_neg c3] at H
  have c3b0 : decide (a0 < a1) = false := decide_eq_false c3
  clear c3
  obtain rfl := Option.some.inj H
  go_enter Tryd.func44, Tryd.ntmps44
  go_wp2
  go_ret
  exact ⟨by first | rfl | (simp; done) | (simp [*]; done), by repeat (first | exact Drawn0.refl _ | apply Drawn0.step)⟩
end Go.Proofs.YtckmmpknaengjaaDoor.Px
end
section
namespace Go.Proofs.YtckmmpknaengjaaDoor.Px
end Go.Proofs.YtckmmpknaengjaaDoor.Px
namespace Go.Proofs.YtckmmpknaengjaaDoor.Giv
end Go.Proofs.YtckmmpknaengjaaDoor.Giv
namespace Go.Proofs.YtckmmpknaengjaaDoor.Px
open Go.Proofs.YtckmmpknaengjaaDoor.Giv
open Go.RowKit Go.Proofs.YtckmmpknaengjaaDoorW.PrintWords Go.Proofs.YtckmmpknaengjaaDoorW.PrintLast Go.Proofs.YtckmmpknaengjaaDoorW.PrintMore
attribute [local go_sem] max2_int min2_int max_two min_two max_three min_three max_four min_four
set_option linter.unusedVariables false
set_option linter.unusedSimpArgs false
def spec_l10Free.f (k : Nat) (a0 : ByteArray) (a1 : Int) : Option (Bool) := (spec_l10Points.f k a0).bind fun bt276 => (if 0 ≤ a1 then (if a1 < (bt276.1.length : Int) then (if 0 ≤ (wrap64 (a1 + 2)) then (if (wrap64 (a1 + 2)) < (bt276.1.length : Int) then ((spec_l1Least.f ((rd_T23 bt276.1 a1).f0) ((rd_T23 bt276.1 (wrap64 (a1 + 2))).f0)).bind fun t284 => ((spec_l1Least.f ((rd_T23 bt276.1 a1).f1) ((rd_T23 bt276.1 (wrap64 (a1 + 2))).f1)).bind fun t285 => (if t285 = 0 then ((spec_l1In.f t284 1 6).bind fun t286 => (some (!t286))) else (some true)))) else (none)) else (none)) else (none)) else (none))
def spec_l10Free.T2 : Bool × List (List Nat × List Nat) := (true, [([], []), ([], []), ([0, 1], [0, 1]), ([2], [2]), ([], []), ([], []), ([5], [5]), ([4, 6], [4, 6]), ([7], [7]), ([], []), ([], []), ([9, 3, 0, 1, 2, 3, 9, 10], [3, 9]), ([10, 8, 11, 0, 1, 2, 3, 4, 5, 6, 7, 8, 9, 10, 11], [8, 10])])
def spec_l10Free.B2 : List Nat := [0, 0, 3, 7, 0, 0, 32, 112, 240, 0, 0, 1551, 4095]
theorem spec_l10Free.tab2 : rtab .any (opsOf Tryd.f49 2) = spec_l10Free.T2 := by kernel_rfl
theorem spec_l10Free.bits2 : waitsOk spec_l10Free.T2.2 spec_l10Free.B2 = true := by kernel_rfl
def spec_l10Free.T3 : Bool × List (List Nat × List Nat) := (true, [([], []), ([0], [0]), ([], []), ([2], [2]), ([1, 3], [1, 3]), ([], []), ([5], [5]), ([], []), ([7], [7]), ([6, 8, 4], [6, 8]), ([4, 9, 0, 1, 2, 3, 4], [4]), ([9, 10, 0, 1, 2, 3, 4, 5, 6, 7, 8, 9, 10], [9])])
def spec_l10Free.B3 : List Nat := [0, 1, 0, 4, 15, 0, 32, 0, 128, 511, 1023, 2047]
theorem spec_l10Free.tab3 : rtab .any (opsOf Tryd.f49 3) = spec_l10Free.T3 := by kernel_rfl
theorem spec_l10Free.bits3 : waitsOk spec_l10Free.T3.2 spec_l10Free.B3 = true := by kernel_rfl
set_option maxHeartbeats 8000000 in
set_option maxRecDepth 100000 in
theorem spec_l10Free.calls (k : Nat) (a0 : ByteArray) (a1 : Int) (r : Bool) (w : World) (h : spec_l10Free.f k a0 a1 = some r) :
  Calls Tryd.prog 49 #[.string a0, .int .i64 a1] w fun e w' => e = .returned (.bool r) ∧ Below w.heap.size w w' := by
 have hu23 := Tryd.underlying23
 have HB := Aside0.mk (Below.refl w.heap.size w)
 have H : ((spec_l10Points.f k a0).bind fun bt276 => (if 0 ≤ a1 then (if a1 < (bt276.1.length : Int) then (if 0 ≤ (wrap64 (a1 + 2)) then (if (wrap64 (a1 + 2)) < (bt276.1.length : Int) then ((spec_l1Least.f ((rd_T23 bt276.1 a1).f0) ((rd_T23 bt276.1 (wrap64 (a1 + 2))).f0)).bind fun t284 => ((spec_l1Least.f ((rd_T23 bt276.1 a1).f1) ((rd_T23 bt276.1 (wrap64 (a1 + 2))).f1)).bind fun t285 => (if t285 = 0 then ((spec_l1In.f t284 1 6).bind fun t286 => (some (!t286))) else (some true)))) else (none)) else (none)) else (none)) else (none))) = some r := h
 clear h
 replace H := Option.bind_eq_some_iff.mp H
 obtain ⟨⟨t276, t277⟩, A30, H⟩ := H
 replace H : (if 0 ≤ a1 then (if a1 < (t276.length : Int) then (if 0 ≤ (wrap64 (a1 + 2)) then (if (wrap64 (a1 + 2)) < (t276.length : Int) then ((spec_l1Least.f ((rd_T23 t276 a1).f0) ((rd_T23 t276 (wrap64 (a1 + 2))).f0)).bind fun t284 => ((spec_l1Least.f ((rd_T23 t276 a1).f1) ((rd_T23 t276 (wrap64 (a1 + 2))).f1)).bind fun t285 => (if t285 = 0 then ((spec_l1In.f t284 1 6).bind fun t286 => (some (!t286))) else (some true)))) else (none)) else (none)) else (none)) else (none)) = some r := H
 have A3 := Aside0.mk A30
 clear A30
 by_cases c4 : 0 ≤ a1
 ·rw [if_pos c4] at H
  have c4b0 : decide (0 ≤ a1) = true := decide_eq_true c4
  clear c4
  by_cases c5 : a1 < (t276.length : Int)
  ·rw [if_pos c5] at H
   have c5b0 : decide (a1 < (t276.length : Int)) = true := decide_eq_true c5
   clear c5
   obtain ⟨ji6, hji6⟩ : ∃ j_ : Int, (wrap64 (a1 + 2)) = j_ := ⟨_, rfl⟩
   replace H : (if 0 ≤ (ji6) then (if (ji6) < (t276.length : Int) then ((spec_l1Least.f ((rd_T23 t276 a1).f0) ((rd_T23 t276 (ji6)).f0)).bind fun t284 => ((spec_l1Least.f ((rd_T23 t276 a1).f1) ((rd_T23 t276 (ji6)).f1)).bind fun t285 => (if t285 = 0 then ((spec_l1In.f t284 1 6).bind fun t286 => (some (!t286))) else (some true)))) else (none)) else (none)) = some r := by first | (rw [hji6] at H; exact H) | (simp only [hji6] at H ⊢; exact H)
   (try rw [hji6] at A3)
   have hji6w : (IntKind.i64.wrap (a1 + 2)) = ji6 := (i64_w _).trans hji6
   by_cases c7 : 0 ≤ (ji6)
   ·rw [if_pos c7] at H
    have c7b0 : decide (0 ≤ (ji6)) = true := decide_eq_true c7
    clear c7
    by_cases c8 : (ji6) < (t276.length : Int)
    ·rw [if_pos c8] at H
     have c8b0 : decide ((ji6) < (t276.length : Int)) = true := decide_eq_true c8
     clear c8
     replace H := Option.bind_eq_some_iff.mp H
     obtain ⟨t284, A90, H⟩ := H
     replace H : ((spec_l1Least.f ((rd_T23 t276 a1).f1) ((rd_T23 t276 (ji6)).f1)).bind fun t285 => (if t285 = 0 then ((spec_l1In.f t284 1 6).bind fun t286 => (some (!t286))) else (some true))) = some r := H
     have A9 := Aside0.mk A90
     clear A90
     replace H := Option.bind_eq_some_iff.mp H
     obtain ⟨t285, A100, H⟩ := H
     replace H : (if t285 = 0 then ((spec_l1In.f t284 1 6).bind fun t286 => (some (!t286))) else (some true)) = some r := H
     have A10 := Aside0.mk A100
     clear A100
     by_cases c11 : t285 = 0
     ·rw [if_pos c11] at H
      have c11b0 : (t285 == 0) = true := beq_iff_eq.mpr c11
      have c11b1 : (t285 != 0) = false := bne_eq_false_iff_eq.mpr c11
      clear c11
      replace H := Option.bind_eq_some_iff.mp H
      obtain ⟨t286, A120, H⟩ := H
      replace H : (some (!t286)) = some r := H
      have A12 := Aside0.mk A120
      clear A120
      obtain rfl := Option.some.inj H
      go_enter Tryd.func49, Tryd.ntmps49
      try go_wp2_with (first | ((with_reducible refine gate_callee (f := 41) rfl ?_); refine goesL_ (some 13) rfl rfl Tryd.func41 (by kernel_rfl) rfl #[.string a0] rfl (by (try simp only [List.map_toArray, List.map_cons, List.map_nil]); first | done | rfl | (simp only [List.length_drop, List.length_take]; rfl)) ?_; (with_reducible refine (spec_l10Points.calls k a0 t276 t277 _ A3.out).mono ?_); rintro e w13 ⟨v278, rfl, ho0, hb⟩; refine ⟨_, rfl, ?_⟩; have n0_ := Aside0.mk (Kd.R_lower ho0 (below_size (by repeat (first | (with_reducible first | exact HB.out | apply below_alloc | apply pw_below_drewN | apply below_drew1) | exact HB.out)))); have n1_ := Aside0.mk (below_step (by repeat (first | (with_reducible first | exact HB.out | apply below_alloc | apply pw_below_drewN | apply below_drew1) | exact HB.out)) hb); clear HB; have HO279 := n0_; have HB := n1_; clear n0_ n1_; (try clear hb); (try clear hb2); (try clear hk); (try clear hi); (try clear ho0)))
      have n0_ := Aside0.mk (Kd.R_drew HO279.out)
      have n1_ := Aside0.mk (below_drew1 HB.out)
      clear HO279
      clear HB
      have HO279 := n0_
      have HB := n1_
      clear n0_ n1_
      obtain ⟨Ao15, co15, eo15⟩ := Kd.R_slice HO279.out
      (first | subst eo15 | (injection eo15 with f1_ f2_ f3_; have f4_ := f1_.symm; have f5_ := f3_.symm; clear f1_ f2_ f3_; subst f4_; subst f5_))
      have p280 : 0 ≤ (a1 : Int) := of_decide_eq_true (by first | (with_reducible assumption) | assumption)
      have q280 : a1 < (t276.length : Int) := of_decide_eq_true (by first | (with_reducible assumption) | assumption)
      obtain ⟨ad280, e280, hx280_0, hx280_1⟩ := at_T23 (Kd.R_reads' HO279.out).2.2 a1 p280 q280
      cases e280
      replace p280 := eq_true p280
      replace q280 := eq_true q280
      have p281 : 0 ≤ ((ji6) : Int) := of_decide_eq_true (by first | (with_reducible assumption) | assumption)
      have q281 : (ji6) < (t276.length : Int) := of_decide_eq_true (by first | (with_reducible assumption) | assumption)
      obtain ⟨ad281, e281, hx281_0, hx281_1⟩ := at_T23 (Kd.R_reads' HO279.out).2.2 (ji6) p281 q281
      obtain rfl : ad280 = ad281 := (by injection e281)
      replace p281 := eq_true p281
      replace q281 := eq_true q281
      refine start_ (n := 13) (S := fun w' => w'.cell? (ad280.add ((a1).toNat * 2)) = some (.int .i64 ((rd_T23 t276 a1).f0)) ∧ w'.cell? ⟨(ad280.add ((a1).toNat * 2)).block, (ad280.add ((a1).toNat * 2)).off + 1, none⟩ = some (.int .i64 ((rd_T23 t276 a1).f1)) ∧ w'.cell? (ad280.add (((ji6)).toNat * 2)) = some (.int .i64 ((rd_T23 t276 (ji6)).f0)) ∧ w'.cell? ⟨(ad280.add (((ji6)).toNat * 2)).block, (ad280.add (((ji6)).toNat * 2)).off + 1, none⟩ = some (.int .i64 ((rd_T23 t276 (ji6)).f1))) (ds := []) #[false, false, false, false, false, false, false, false, false, false, false, false, false] (by kernel_rfl) rfl rfl ⟨hx280_0, hx280_1, hx281_0, hx281_1⟩ (fun hHeld => ?_); refine with_tabW spec_l10Free.tab2 spec_l10Free.bits2 (fun HT_ HW_ => ?_)
      generalize w13.drew = w14 at HO279 HB hx280_0 hx280_1 hx281_0 hx281_1 hHeld ⊢
      refine pure_ (i := 0) (N := some 16) (v := ?_) (a' := ?_) #[true, false, false, false, false, false, false, false, false, false, false, false, false] rfl rfl (any_of HT_.out (by kernel_rfl)) (fun _ _ _ h => h) (Or.inl ⟨by rfl, ?_⟩) ?_ ?_
      rotate_left
      ·intro w'
       go_simp
       with_reducible rfl
      rotate_left
      ·simp only [Act.put, List.setIfInBounds_toArray, List.set_cons_zero, List.set_cons_succ, i64_w, i32_w]
       rfl
      refine pure_ (i := 1) (N := some 17) (v := ?_) (a' := ?_) #[true, true, false, false, false, false, false, false, false, false, false, false, false] rfl rfl (any_of HT_.out (by kernel_rfl)) (fun _ _ _ h => h) (Or.inl ⟨by rfl, ?_⟩) ?_ ?_
      rotate_left
      ·intro w'
       go_simp
       with_reducible rfl
      rotate_left
      ·simp only [Act.put, List.setIfInBounds_toArray, List.set_cons_zero, List.set_cons_succ, i64_w, i32_w]
       rfl
      refine pure_ (i := 2) (N := some 18) (v := ?_) (a' := ?_) #[true, true, true, false, false, false, false, false, false, false, false, false, false] rfl rfl (any_of HT_.out (by kernel_rfl)) (fun _ _ _ h => h) (Or.inl ⟨by rfl, ?_⟩) ?_ ?_
      rotate_left
      ·intro w'
       go_simp
       with_reducible rfl
      rotate_left
      ·simp only [Act.put, List.setIfInBounds_toArray, List.set_cons_zero, List.set_cons_succ, i64_w, i32_w]
       rfl
      refine pure_ (i := 4) (N := some 20) (v := ?_) (a' := ?_) #[true, true, true, false, true, false, false, false, false, false, false, false, false] rfl rfl (any_of HT_.out (by kernel_rfl)) (fun _ _ _ h => h) (Or.inl ⟨by rfl, ?_⟩) ?_ ?_
      rotate_left
      ·intro w'
       go_simp
       with_reducible rfl
      rotate_left
      ·simp only [Act.put, List.setIfInBounds_toArray, List.set_cons_zero, List.set_cons_succ, i64_w, i32_w]
       rfl
      refine pure_ (i := 5) (N := some 21) (v := ?_) (a' := ?_) #[true, true, true, false, true, true, false, false, false, false, false, false, false] rfl rfl (any_of HT_.out (by kernel_rfl)) (fun _ _ _ h => h) (Or.inl ⟨by rfl, ?_⟩) ?_ ?_
      rotate_left
      ·intro w'
       go_simp
       with_reducible rfl
      rotate_left
      ·simp only [Act.put, List.setIfInBounds_toArray, List.set_cons_zero, List.set_cons_succ, i64_w, i32_w]
       rfl
      refine pure_ (i := 6) (N := some 22) (v := ?_) (a' := ?_) #[true, true, true, false, true, true, true, false, false, false, false, false, false] rfl rfl (any_of HT_.out (by kernel_rfl)) (fun _ _ _ h => h) (Or.inl ⟨by rfl, ?_⟩) ?_ ?_
      rotate_left
      ·intro w'
       go_simp
       with_reducible rfl
      rotate_left
      ·simp only [Act.put, List.setIfInBounds_toArray, List.set_cons_zero, List.set_cons_succ, i64_w, i32_w]
       rfl
      refine pure_ (i := 7) (N := some 23) (v := ?_) (a' := ?_) #[true, true, true, false, true, true, true, true, false, false, false, false, false] rfl rfl (any_of HT_.out (by kernel_rfl)) (fun _ _ _ h => h) (Or.inl ⟨by rfl, ?_⟩) ?_ ?_
      rotate_left
      ·intro w'
       go_simp
       with_reducible rfl
      rotate_left
      ·simp only [Act.put, List.setIfInBounds_toArray, List.set_cons_zero, List.set_cons_succ, i64_w, i32_w]
       rfl
      refine take_ (i := 3) (N := some 19) (v := ?_) (a' := ?_) #[true, true, true, true, true, true, true, true, false, false, false, false, false] rfl rfl (take_ofW HT_.out HW_.out (by kernel_rfl)) (fun _ _ _ h => h) (Or.inl ⟨by rfl, ?_⟩) hHeld ?_ ?_
      rotate_left
      ·rintro w' ⟨s0, s1, s2, s3⟩
       go_simp
       with_reducible rfl
      rotate_left
      ·simp only [Act.put, List.setIfInBounds_toArray, List.set_cons_zero, List.set_cons_succ, i64_w, i32_w]
       rfl
      refine take_ (i := 8) (N := some 24) (v := ?_) (a' := ?_) #[true, true, true, true, true, true, true, true, true, false, false, false, false] rfl rfl (take_ofW HT_.out HW_.out (by kernel_rfl)) (fun _ _ _ h => h) (Or.inl ⟨by rfl, ?_⟩) hHeld ?_ ?_
      rotate_left
      ·rintro w' ⟨s0, s1, s2, s3⟩
       go_simp
       with_reducible rfl
      rotate_left
      ·simp only [Act.put, List.setIfInBounds_toArray, List.set_cons_zero, List.set_cons_succ, i64_w, i32_w]
       rfl
      refine join_ (σ := Nat × Nat) 2 #[true, true, true, true, true, true, true, true, true, true, true, false, false] (fun s_ => [(7, .pointer (some ⟨s_.1, 0, none⟩)), (8, .pointer (some ⟨s_.2, 0, none⟩))]) (fun s_ w' => (w'.cell? (ad280.add ((a1).toNat * 2)) = some (.int .i64 ((rd_T23 t276 a1).f0)) ∧ w'.cell? ⟨(ad280.add ((a1).toNat * 2)).block, (ad280.add ((a1).toNat * 2)).off + 1, none⟩ = some (.int .i64 ((rd_T23 t276 a1).f1)) ∧ w'.cell? (ad280.add (((ji6)).toNat * 2)) = some (.int .i64 ((rd_T23 t276 (ji6)).f0)) ∧ w'.cell? ⟨(ad280.add (((ji6)).toNat * 2)).block, (ad280.add (((ji6)).toNat * 2)).off + 1, none⟩ = some (.int .i64 ((rd_T23 t276 (ji6)).f1))) ∧ (Kd.R k23 23 w' w.heap.size (fun k_ => k_ ≠ s_.1 ∧ k_ ≠ s_.2) (.slice (some ad280) t276.length co15) t276) ∧ (w'.heap[s_.1]? = some (.cells #[.int .i64 0, .int .i64 0] 23 (0, 0))) ∧ (w'.heap[s_.2]? = some (.cells #[.int .i64 0, .int .i64 0] 23 (0, 0))) ∧ (w.heap.size ≤ s_.1) ∧ (w.heap.size ≤ s_.1) ∧ (s_.2 ≠ s_.1) ∧ (s_.1 ≠ s_.2) ∧ (w.heap.size ≤ s_.2) ∧ (w.heap.size ≤ s_.2) ∧ (Below w.heap.size w w')) ?_ ?_
      rotate_left
      ·intro hCont
       refine two_ (i := 9) (j := 10) (Ni := some 7) (Nj := some 8) #[true, true, true, true, true, true, true, true, true, true, false, false, false] #[true, true, true, true, true, true, true, true, true, false, true, false, false] rfl rfl rfl rfl (two_of HT_.out (by kernel_rfl)) (by decide) (by decide) (fun K hK => ?_) (fun K hK => ?_)
       ·skip
        refine box_step ?hg (N := 7) ?hd (cs := #[.int .i64 0, .int .i64 0]) (t := 23) ?hr ?_; (case hd => rfl); (case hg => rfl); (case hr => first | (go_simp; done) | (go_simp; rfl))
        intro gb282 hg w16 hbox hb
        have HS0_ := (hb.cell (World.block_lt_of_cell? _ _ (hHeld.1))).trans (hHeld.1)
        have HS1_ := (hb.cell (World.block_lt_of_cell? _ _ (hHeld.2.1))).trans (hHeld.2.1)
        have HS2_ := (hb.cell (World.block_lt_of_cell? _ _ (hHeld.2.2.1))).trans (hHeld.2.2.1)
        have HS3_ := (hb.cell (World.block_lt_of_cell? _ _ (hHeld.2.2.2))).trans (hHeld.2.2.2)
        have n0_ := Aside0.mk (Kd.R_below (Kd.R_elderB (by (with_reducible repeat (first | apply Kd.R_alloc | apply Kd.R_drewN | apply Kd.R_drew)); exact HO279.out) gb282 (Nat.le_of_eq hg.symm)) hb)
        have n1_ := Aside0.mk (below_step (by repeat (first | (with_reducible first | exact HB.out | apply below_alloc | apply pw_below_drewN | apply below_drew1) | exact HB.out)) hb)
        have n2_ := Aside0.mk (hbox)
        have n3_ := Aside0.mk ((by rw [hg]; exact (below_size (by repeat (first | (with_reducible first | exact HB.out | apply below_alloc | apply pw_below_drewN | apply below_drew1) | exact HB.out))) : w.heap.size ≤ gb282))
        have n4_ := Aside0.mk ((by rw [hg]; exact (below_size (by repeat (first | (with_reducible first | exact HB.out | apply below_alloc | apply pw_below_drewN | apply below_drew1) | exact HB.out))) : w.heap.size ≤ gb282))
        clear HO279
        clear HB
        have HO279 := n0_
        have HB := n1_
        have BK282 := n2_
        have GW282 := n3_
        have GE282 := n4_
        clear n0_ n1_ n2_ n3_ n4_
        clear hb hbox hg
        refine hK.out _ _ ⟨HS0_, HS1_, HS2_, HS3_⟩ (fun hHeld => ?_)
        clear hK K
        refine norm_ (a' := ?_) ?_ ?_
        rotate_left
        ·show Act.put _ (some 7) _ = _
         simp only [Act.put, List.setIfInBounds_toArray, List.set_cons_zero, List.set_cons_succ, i64_w, i32_w]
         rfl
        refine one_ (i := 10) (N := some 8) #[true, true, true, true, true, true, true, true, true, true, true, false, false] rfl rfl (one_of HT_.out (by kernel_rfl)) (by decide) (fun K hK => ?_)
        refine box_step ?hg (N := 8) ?hd (cs := #[.int .i64 0, .int .i64 0]) (t := 23) ?hr ?_; (case hd => rfl); (case hg => rfl); (case hr => first | (go_simp; done) | (go_simp; rfl))
        intro gb283 hg w17 hbox hb
        have HS0_ := (hb.cell (World.block_lt_of_cell? _ _ (hHeld.1))).trans (hHeld.1)
        have HS1_ := (hb.cell (World.block_lt_of_cell? _ _ (hHeld.2.1))).trans (hHeld.2.1)
        have HS2_ := (hb.cell (World.block_lt_of_cell? _ _ (hHeld.2.2.1))).trans (hHeld.2.2.1)
        have HS3_ := (hb.cell (World.block_lt_of_cell? _ _ (hHeld.2.2.2))).trans (hHeld.2.2.2)
        have n0_ := Aside0.mk (Kd.R_below (Kd.R_elderB (by (with_reducible repeat (first | apply Kd.R_alloc | apply Kd.R_drewN | apply Kd.R_drew)); exact HO279.out) gb283 (Nat.le_of_eq hg.symm)) hb)
        have n1_ := Aside0.mk (blk_below (g := gb282) (o := .cells #[.int .i64 0, .int .i64 0] 23 (0, 0)) (by (with_reducible repeat (first | refine blk_drewN ?_ _ | refine blk_drew ?_ | refine blk_alloc ?_ _)); exact BK282.out) hb)
        have n2_ := Aside0.mk (below_step (by repeat (first | (with_reducible first | exact HB.out | apply below_alloc | apply pw_below_drewN | apply below_drew1 | refine below_set ?_ GE282.out) | exact HB.out)) hb)
        have n3_ := Aside0.mk (hbox)
        have n4_ := Aside0.mk ((by rw [hg]; exact (below_size (by repeat (first | (with_reducible first | exact HB.out | apply below_alloc | apply pw_below_drewN | apply below_drew1 | refine below_set ?_ GE282.out) | exact HB.out))) : w.heap.size ≤ gb283))
        have n5_ := Aside0.mk ((by rw [hg]; exact (below_size (by repeat (first | (with_reducible first | exact HB.out | apply below_alloc | apply pw_below_drewN | apply below_drew1 | refine below_set ?_ GE282.out) | exact HB.out))) : w.heap.size ≤ gb283))
        have n6_ := Aside0.mk ((by rw [hg]; exact Nat.ne_of_lt (blk_lt (g := gb282) (o := .cells #[.int .i64 0, .int .i64 0] 23 (0, 0)) (by (with_reducible repeat (first | refine blk_drewN ?_ _ | refine blk_drew ?_ | refine blk_alloc ?_ _)); exact BK282.out)) : gb282 ≠ gb283))
        have n7_ := Aside0.mk ((by rw [hg]; exact Nat.ne_of_gt (blk_lt (g := gb282) (o := .cells #[.int .i64 0, .int .i64 0] 23 (0, 0)) (by (with_reducible repeat (first | refine blk_drewN ?_ _ | refine blk_drew ?_ | refine blk_alloc ?_ _)); exact BK282.out)) : gb283 ≠ gb282))
        clear HO279
        clear BK282
        clear HB
        have HO279 := n0_
        have BK282 := n1_
        have HB := n2_
        have BK283 := n3_
        have GW283 := n4_
        have GE283 := n5_
        have NB282_283 := n6_
        have NB283_282 := n7_
        clear n0_ n1_ n2_ n3_ n4_ n5_ n6_ n7_
        clear hb hbox hg
        refine hK.out _ _ ⟨HS0_, HS1_, HS2_, HS3_⟩ (fun hHeld => ?_)
        clear hK K
        refine norm_ (a' := ?_) ?_ ?_
        rotate_left
        ·show Act.put _ (some 8) _ = _
         simp only [Act.put, List.setIfInBounds_toArray, List.set_cons_zero, List.set_cons_succ, i64_w, i32_w]
         rfl
        exact norm_ (by simp only [putAll, Act.put, List.setIfInBounds_toArray, List.set_cons_zero, List.set_cons_succ]) (hCont (gb282, gb283) _ ⟨hHeld, (by (with_reducible repeat (first | apply Kd.R_alloc | apply Kd.R_drewN | apply Kd.R_drew)); exact Kd.R_mono HO279.out (fun _ hk => ⟨hk.1.2, hk.2⟩)), (by (with_reducible repeat (first | refine blk_drewN ?_ _ | refine blk_drew ?_ | refine blk_alloc ?_ _)); exact BK282.out), (by (with_reducible repeat (first | refine blk_drewN ?_ _ | refine blk_drew ?_ | refine blk_alloc ?_ _)); exact BK283.out), GW282.out, GE282.out, NB283_282.out, NB282_283.out, GW283.out, GE283.out, (by repeat (first | (with_reducible first | exact HB.out | apply below_alloc | apply pw_below_drewN | apply below_drew1 | refine below_set ?_ GE282.out | refine below_set ?_ GE283.out) | exact HB.out))⟩)
       ·skip
        refine box_step ?hg (N := 8) ?hd (cs := #[.int .i64 0, .int .i64 0]) (t := 23) ?hr ?_; (case hd => rfl); (case hg => rfl); (case hr => first | (go_simp; done) | (go_simp; rfl))
        intro gb283 hg w16 hbox hb
        have HS0_ := (hb.cell (World.block_lt_of_cell? _ _ (hHeld.1))).trans (hHeld.1)
        have HS1_ := (hb.cell (World.block_lt_of_cell? _ _ (hHeld.2.1))).trans (hHeld.2.1)
        have HS2_ := (hb.cell (World.block_lt_of_cell? _ _ (hHeld.2.2.1))).trans (hHeld.2.2.1)
        have HS3_ := (hb.cell (World.block_lt_of_cell? _ _ (hHeld.2.2.2))).trans (hHeld.2.2.2)
        have n0_ := Aside0.mk (Kd.R_below (Kd.R_elderB (by (with_reducible repeat (first | apply Kd.R_alloc | apply Kd.R_drewN | apply Kd.R_drew)); exact HO279.out) gb283 (Nat.le_of_eq hg.symm)) hb)
        have n1_ := Aside0.mk (below_step (by repeat (first | (with_reducible first | exact HB.out | apply below_alloc | apply pw_below_drewN | apply below_drew1) | exact HB.out)) hb)
        have n2_ := Aside0.mk (hbox)
        have n3_ := Aside0.mk ((by rw [hg]; exact (below_size (by repeat (first | (with_reducible first | exact HB.out | apply below_alloc | apply pw_below_drewN | apply below_drew1) | exact HB.out))) : w.heap.size ≤ gb283))
        have n4_ := Aside0.mk ((by rw [hg]; exact (below_size (by repeat (first | (with_reducible first | exact HB.out | apply below_alloc | apply pw_below_drewN | apply below_drew1) | exact HB.out))) : w.heap.size ≤ gb283))
        clear HO279
        clear HB
        have HO279 := n0_
        have HB := n1_
        have BK283 := n2_
        have GW283 := n3_
        have GE283 := n4_
        clear n0_ n1_ n2_ n3_ n4_
        clear hb hbox hg
        refine hK.out _ _ ⟨HS0_, HS1_, HS2_, HS3_⟩ (fun hHeld => ?_)
        clear hK K
        refine norm_ (a' := ?_) ?_ ?_
        rotate_left
        ·show Act.put _ (some 8) _ = _
         simp only [Act.put, List.setIfInBounds_toArray, List.set_cons_zero, List.set_cons_succ, i64_w, i32_w]
         rfl
        refine one_ (i := 9) (N := some 7) #[true, true, true, true, true, true, true, true, true, true, true, false, false] rfl rfl (one_of HT_.out (by kernel_rfl)) (by decide) (fun K hK => ?_)
        refine box_step ?hg (N := 7) ?hd (cs := #[.int .i64 0, .int .i64 0]) (t := 23) ?hr ?_; (case hd => rfl); (case hg => rfl); (case hr => first | (go_simp; done) | (go_simp; rfl))
        intro gb282 hg w17 hbox hb
        have HS0_ := (hb.cell (World.block_lt_of_cell? _ _ (hHeld.1))).trans (hHeld.1)
        have HS1_ := (hb.cell (World.block_lt_of_cell? _ _ (hHeld.2.1))).trans (hHeld.2.1)
        have HS2_ := (hb.cell (World.block_lt_of_cell? _ _ (hHeld.2.2.1))).trans (hHeld.2.2.1)
        have HS3_ := (hb.cell (World.block_lt_of_cell? _ _ (hHeld.2.2.2))).trans (hHeld.2.2.2)
        have n0_ := Aside0.mk (Kd.R_below (Kd.R_elderB (by (with_reducible repeat (first | apply Kd.R_alloc | apply Kd.R_drewN | apply Kd.R_drew)); exact HO279.out) gb282 (Nat.le_of_eq hg.symm)) hb)
        have n1_ := Aside0.mk (blk_below (g := gb283) (o := .cells #[.int .i64 0, .int .i64 0] 23 (0, 0)) (by (with_reducible repeat (first | refine blk_drewN ?_ _ | refine blk_drew ?_ | refine blk_alloc ?_ _)); exact BK283.out) hb)
        have n2_ := Aside0.mk (below_step (by repeat (first | (with_reducible first | exact HB.out | apply below_alloc | apply pw_below_drewN | apply below_drew1 | refine below_set ?_ GE283.out) | exact HB.out)) hb)
        have n3_ := Aside0.mk (hbox)
        have n4_ := Aside0.mk ((by rw [hg]; exact (below_size (by repeat (first | (with_reducible first | exact HB.out | apply below_alloc | apply pw_below_drewN | apply below_drew1 | refine below_set ?_ GE283.out) | exact HB.out))) : w.heap.size ≤ gb282))
        have n5_ := Aside0.mk ((by rw [hg]; exact (below_size (by repeat (first | (with_reducible first | exact HB.out | apply below_alloc | apply pw_below_drewN | apply below_drew1 | refine below_set ?_ GE283.out) | exact HB.out))) : w.heap.size ≤ gb282))
        have n6_ := Aside0.mk ((by rw [hg]; exact Nat.ne_of_lt (blk_lt (g := gb283) (o := .cells #[.int .i64 0, .int .i64 0] 23 (0, 0)) (by (with_reducible repeat (first | refine blk_drewN ?_ _ | refine blk_drew ?_ | refine blk_alloc ?_ _)); exact BK283.out)) : gb283 ≠ gb282))
        have n7_ := Aside0.mk ((by rw [hg]; exact Nat.ne_of_gt (blk_lt (g := gb283) (o := .cells #[.int .i64 0, .int .i64 0] 23 (0, 0)) (by (with_reducible repeat (first | refine blk_drewN ?_ _ | refine blk_drew ?_ | refine blk_alloc ?_ _)); exact BK283.out)) : gb282 ≠ gb283))
        clear HO279
        clear BK283
        clear HB
        have HO279 := n0_
        have BK283 := n1_
        have HB := n2_
        have BK282 := n3_
        have GW282 := n4_
        have GE282 := n5_
        have NB283_282 := n6_
        have NB282_283 := n7_
        clear n0_ n1_ n2_ n3_ n4_ n5_ n6_ n7_
        clear hb hbox hg
        refine hK.out _ _ ⟨HS0_, HS1_, HS2_, HS3_⟩ (fun hHeld => ?_)
        clear hK K
        refine norm_ (a' := ?_) ?_ ?_
        rotate_left
        ·show Act.put _ (some 7) _ = _
         simp only [Act.put, List.setIfInBounds_toArray, List.set_cons_zero, List.set_cons_succ, i64_w, i32_w]
         rfl
        exact norm_ (by simp only [putAll, Act.put, List.setIfInBounds_toArray, List.set_cons_zero, List.set_cons_succ]) (hCont (gb282, gb283) _ ⟨hHeld, (by (with_reducible repeat (first | apply Kd.R_alloc | apply Kd.R_drewN | apply Kd.R_drew)); exact Kd.R_mono HO279.out (fun _ hk => ⟨hk.2, hk.1.2⟩)), (by (with_reducible repeat (first | refine blk_drewN ?_ _ | refine blk_drew ?_ | refine blk_alloc ?_ _)); exact BK282.out), (by (with_reducible repeat (first | refine blk_drewN ?_ _ | refine blk_drew ?_ | refine blk_alloc ?_ _)); exact BK283.out), GW282.out, GE282.out, NB283_282.out, NB282_283.out, GW283.out, GE283.out, (by repeat (first | (with_reducible first | exact HB.out | apply below_alloc | apply pw_below_drewN | apply below_drew1 | refine below_set ?_ GE283.out | refine below_set ?_ GE282.out) | exact HB.out))⟩)
      rintro ⟨gb282, gb283⟩ w18 ⟨hS_, h0_, h1_, h2_, h3_, h4_, h5_, h6_, h7_, h8_, h9_⟩
      have n0_ : Aside0 (Kd.R k23 23 w18 w.heap.size (fun k_ => k_ ≠ gb282 ∧ k_ ≠ gb283) (.slice (some ad280) t276.length co15) t276) := ⟨h0_⟩
      have n1_ : Aside0 (w18.heap[gb282]? = some (.cells #[.int .i64 0, .int .i64 0] 23 (0, 0))) := ⟨h1_⟩
      have n2_ : Aside0 (w18.heap[gb283]? = some (.cells #[.int .i64 0, .int .i64 0] 23 (0, 0))) := ⟨h2_⟩
      have n3_ : Aside0 (w.heap.size ≤ gb282) := ⟨h3_⟩
      have n4_ : Aside0 (w.heap.size ≤ gb282) := ⟨h4_⟩
      have n5_ : Aside0 (gb283 ≠ gb282) := ⟨h5_⟩
      have n6_ : Aside0 (gb282 ≠ gb283) := ⟨h6_⟩
      have n7_ : Aside0 (w.heap.size ≤ gb283) := ⟨h7_⟩
      have n8_ : Aside0 (w.heap.size ≤ gb283) := ⟨h8_⟩
      have n9_ : Aside0 (Below w.heap.size w w18) := ⟨h9_⟩
      clear HO279
      clear HB
      clear h0_ h1_ h2_ h3_ h4_ h5_ h6_ h7_ h8_ h9_
      have HO279 := n0_
      have BK282 := n1_
      have BK283 := n2_
      have GW282 := n3_
      have GE282 := n4_
      have NB283_282 := n5_
      have NB282_283 := n6_
      have GW283 := n7_
      have GE283 := n8_
      have HB := n9_
      clear n0_ n1_ n2_ n3_ n4_ n5_ n6_ n7_ n8_ n9_
      have hHeld : w18.cell? (ad280.add ((a1).toNat * 2)) = some (.int .i64 ((rd_T23 t276 a1).f0)) ∧ w18.cell? ⟨(ad280.add ((a1).toNat * 2)).block, (ad280.add ((a1).toNat * 2)).off + 1, none⟩ = some (.int .i64 ((rd_T23 t276 a1).f1)) ∧ w18.cell? (ad280.add (((ji6)).toNat * 2)) = some (.int .i64 ((rd_T23 t276 (ji6)).f0)) ∧ w18.cell? ⟨(ad280.add (((ji6)).toNat * 2)).block, (ad280.add (((ji6)).toNat * 2)).off + 1, none⟩ = some (.int .i64 ((rd_T23 t276 (ji6)).f1)) := hS_
      refine norm_ (a' := ?_) ?_ ?_
      rotate_left
      ·simp only [putAll, Act.put, List.setIfInBounds_toArray, List.set_cons_zero, List.set_cons_succ]
       rfl
      refine one_ (i := 11) (N := none) #[true, true, true, true, true, true, true, true, true, true, true, true, false] rfl rfl (one_of HT_.out (by kernel_rfl)) (by decide) (fun K hK => ?_)
      have hs19 : w18.cell? ⟨gb282, 0, none⟩ = some (.int .i64 0) := (blk_cell BK282.out 0).trans rfl
      have hfs19 := blk_frozen BK282.out 0
      have hns19_1 := NB283_282.out
      have hms19_1 := NB282_283.out
      have hs20 : w18.cell? ⟨gb282, 1, none⟩ = some (.int .i64 0) := (blk_cell BK282.out 1).trans rfl
      have hfs20 := blk_frozen BK282.out 1
      have hns20_1 := NB283_282.out
      have hms20_1 := NB282_283.out
      refine skip_ (w1 := ?_) (by rfl) rfl ?_ ?_
      rotate_left
      ·go_simp
       rfl
      refine hK.out _ _ ⟨((cell_far (p := ⟨gb282, _, none⟩) (by first | exact Kd.own_blk (Kd.R_away HO279.out (fun _ hk => hk.1)) | (rw [add_block]; exact Kd.own_blk (Kd.R_away HO279.out (fun _ hk => hk.1))) | (show (Addr.add _ _).block ≠ _; rw [add_block]; exact Kd.own_blk (Kd.R_away HO279.out (fun _ hk => hk.1))) | (dsimp only; exact Kd.own_blk (Kd.R_away HO279.out (fun _ hk => hk.1)))) _).trans (((cell_far (p := ⟨gb282, _, none⟩) (by first | exact Kd.own_blk (Kd.R_away HO279.out (fun _ hk => hk.1)) | (rw [add_block]; exact Kd.own_blk (Kd.R_away HO279.out (fun _ hk => hk.1))) | (show (Addr.add _ _).block ≠ _; rw [add_block]; exact Kd.own_blk (Kd.R_away HO279.out (fun _ hk => hk.1))) | (dsimp only; exact Kd.own_blk (Kd.R_away HO279.out (fun _ hk => hk.1)))) _).trans (hHeld.1)))), ((cell_far (p := ⟨gb282, _, none⟩) (by first | exact Kd.own_blk (Kd.R_away HO279.out (fun _ hk => hk.1)) | (rw [add_block]; exact Kd.own_blk (Kd.R_away HO279.out (fun _ hk => hk.1))) | (show (Addr.add _ _).block ≠ _; rw [add_block]; exact Kd.own_blk (Kd.R_away HO279.out (fun _ hk => hk.1))) | (dsimp only; exact Kd.own_blk (Kd.R_away HO279.out (fun _ hk => hk.1)))) _).trans (((cell_far (p := ⟨gb282, _, none⟩) (by first | exact Kd.own_blk (Kd.R_away HO279.out (fun _ hk => hk.1)) | (rw [add_block]; exact Kd.own_blk (Kd.R_away HO279.out (fun _ hk => hk.1))) | (show (Addr.add _ _).block ≠ _; rw [add_block]; exact Kd.own_blk (Kd.R_away HO279.out (fun _ hk => hk.1))) | (dsimp only; exact Kd.own_blk (Kd.R_away HO279.out (fun _ hk => hk.1)))) _).trans (hHeld.2.1)))), ((cell_far (p := ⟨gb282, _, none⟩) (by first | exact Kd.own_blk (Kd.R_away HO279.out (fun _ hk => hk.1)) | (rw [add_block]; exact Kd.own_blk (Kd.R_away HO279.out (fun _ hk => hk.1))) | (show (Addr.add _ _).block ≠ _; rw [add_block]; exact Kd.own_blk (Kd.R_away HO279.out (fun _ hk => hk.1))) | (dsimp only; exact Kd.own_blk (Kd.R_away HO279.out (fun _ hk => hk.1)))) _).trans (((cell_far (p := ⟨gb282, _, none⟩) (by first | exact Kd.own_blk (Kd.R_away HO279.out (fun _ hk => hk.1)) | (rw [add_block]; exact Kd.own_blk (Kd.R_away HO279.out (fun _ hk => hk.1))) | (show (Addr.add _ _).block ≠ _; rw [add_block]; exact Kd.own_blk (Kd.R_away HO279.out (fun _ hk => hk.1))) | (dsimp only; exact Kd.own_blk (Kd.R_away HO279.out (fun _ hk => hk.1)))) _).trans (hHeld.2.2.1)))), ((cell_far (p := ⟨gb282, _, none⟩) (by first | exact Kd.own_blk (Kd.R_away HO279.out (fun _ hk => hk.1)) | (rw [add_block]; exact Kd.own_blk (Kd.R_away HO279.out (fun _ hk => hk.1))) | (show (Addr.add _ _).block ≠ _; rw [add_block]; exact Kd.own_blk (Kd.R_away HO279.out (fun _ hk => hk.1))) | (dsimp only; exact Kd.own_blk (Kd.R_away HO279.out (fun _ hk => hk.1)))) _).trans (((cell_far (p := ⟨gb282, _, none⟩) (by first | exact Kd.own_blk (Kd.R_away HO279.out (fun _ hk => hk.1)) | (rw [add_block]; exact Kd.own_blk (Kd.R_away HO279.out (fun _ hk => hk.1))) | (show (Addr.add _ _).block ≠ _; rw [add_block]; exact Kd.own_blk (Kd.R_away HO279.out (fun _ hk => hk.1))) | (dsimp only; exact Kd.own_blk (Kd.R_away HO279.out (fun _ hk => hk.1)))) _).trans (hHeld.2.2.2))))⟩ (fun hHeld => ?_)
      clear hK K
      refine one_ (i := 12) (N := none) #[true, true, true, true, true, true, true, true, true, true, true, true, true] rfl rfl (one_of HT_.out (by kernel_rfl)) (by decide) (fun K hK => ?_)
      have hs21 : w18.cell? ⟨gb283, 0, none⟩ = some (.int .i64 0) := (blk_cell BK283.out 0).trans rfl
      have hfs21 := blk_frozen BK283.out 0
      have hns21_0 := NB282_283.out
      have hms21_0 := NB283_282.out
      have hs22 : w18.cell? ⟨gb283, 1, none⟩ = some (.int .i64 0) := (blk_cell BK283.out 1).trans rfl
      have hfs22 := blk_frozen BK283.out 1
      have hns22_0 := NB282_283.out
      have hms22_0 := NB283_282.out
      refine skip_ (w1 := ?_) (by rfl) rfl ?_ ?_
      rotate_left
      ·go_simp
       rfl
      refine hK.out _ _ ⟨((cell_far (p := ⟨gb283, _, none⟩) (by first | exact Kd.own_blk (Kd.R_away HO279.out (fun _ hk => hk.2)) | (rw [add_block]; exact Kd.own_blk (Kd.R_away HO279.out (fun _ hk => hk.2))) | (show (Addr.add _ _).block ≠ _; rw [add_block]; exact Kd.own_blk (Kd.R_away HO279.out (fun _ hk => hk.2))) | (dsimp only; exact Kd.own_blk (Kd.R_away HO279.out (fun _ hk => hk.2)))) _).trans (((cell_far (p := ⟨gb283, _, none⟩) (by first | exact Kd.own_blk (Kd.R_away HO279.out (fun _ hk => hk.2)) | (rw [add_block]; exact Kd.own_blk (Kd.R_away HO279.out (fun _ hk => hk.2))) | (show (Addr.add _ _).block ≠ _; rw [add_block]; exact Kd.own_blk (Kd.R_away HO279.out (fun _ hk => hk.2))) | (dsimp only; exact Kd.own_blk (Kd.R_away HO279.out (fun _ hk => hk.2)))) _).trans (hHeld.1)))), ((cell_far (p := ⟨gb283, _, none⟩) (by first | exact Kd.own_blk (Kd.R_away HO279.out (fun _ hk => hk.2)) | (rw [add_block]; exact Kd.own_blk (Kd.R_away HO279.out (fun _ hk => hk.2))) | (show (Addr.add _ _).block ≠ _; rw [add_block]; exact Kd.own_blk (Kd.R_away HO279.out (fun _ hk => hk.2))) | (dsimp only; exact Kd.own_blk (Kd.R_away HO279.out (fun _ hk => hk.2)))) _).trans (((cell_far (p := ⟨gb283, _, none⟩) (by first | exact Kd.own_blk (Kd.R_away HO279.out (fun _ hk => hk.2)) | (rw [add_block]; exact Kd.own_blk (Kd.R_away HO279.out (fun _ hk => hk.2))) | (show (Addr.add _ _).block ≠ _; rw [add_block]; exact Kd.own_blk (Kd.R_away HO279.out (fun _ hk => hk.2))) | (dsimp only; exact Kd.own_blk (Kd.R_away HO279.out (fun _ hk => hk.2)))) _).trans (hHeld.2.1)))), ((cell_far (p := ⟨gb283, _, none⟩) (by first | exact Kd.own_blk (Kd.R_away HO279.out (fun _ hk => hk.2)) | (rw [add_block]; exact Kd.own_blk (Kd.R_away HO279.out (fun _ hk => hk.2))) | (show (Addr.add _ _).block ≠ _; rw [add_block]; exact Kd.own_blk (Kd.R_away HO279.out (fun _ hk => hk.2))) | (dsimp only; exact Kd.own_blk (Kd.R_away HO279.out (fun _ hk => hk.2)))) _).trans (((cell_far (p := ⟨gb283, _, none⟩) (by first | exact Kd.own_blk (Kd.R_away HO279.out (fun _ hk => hk.2)) | (rw [add_block]; exact Kd.own_blk (Kd.R_away HO279.out (fun _ hk => hk.2))) | (show (Addr.add _ _).block ≠ _; rw [add_block]; exact Kd.own_blk (Kd.R_away HO279.out (fun _ hk => hk.2))) | (dsimp only; exact Kd.own_blk (Kd.R_away HO279.out (fun _ hk => hk.2)))) _).trans (hHeld.2.2.1)))), ((cell_far (p := ⟨gb283, _, none⟩) (by first | exact Kd.own_blk (Kd.R_away HO279.out (fun _ hk => hk.2)) | (rw [add_block]; exact Kd.own_blk (Kd.R_away HO279.out (fun _ hk => hk.2))) | (show (Addr.add _ _).block ≠ _; rw [add_block]; exact Kd.own_blk (Kd.R_away HO279.out (fun _ hk => hk.2))) | (dsimp only; exact Kd.own_blk (Kd.R_away HO279.out (fun _ hk => hk.2)))) _).trans (((cell_far (p := ⟨gb283, _, none⟩) (by first | exact Kd.own_blk (Kd.R_away HO279.out (fun _ hk => hk.2)) | (rw [add_block]; exact Kd.own_blk (Kd.R_away HO279.out (fun _ hk => hk.2))) | (show (Addr.add _ _).block ≠ _; rw [add_block]; exact Kd.own_blk (Kd.R_away HO279.out (fun _ hk => hk.2))) | (dsimp only; exact Kd.own_blk (Kd.R_away HO279.out (fun _ hk => hk.2)))) _).trans (hHeld.2.2.2))))⟩ (fun hHeld => ?_)
      clear hK K
      refine done_ (done_of HT_.out (by kernel_rfl)) ?_
      try go_wp2
      have n0_ : Aside0 (Kd.R k23 23 ((((w18.setCell ⟨gb282, 0, none⟩ (.int .i64 ((rd_T23 t276 a1).f0))).setCell ⟨gb282, 1, none⟩ (.int .i64 ((rd_T23 t276 a1).f1))).setCell ⟨gb283, 0, none⟩ (.int .i64 ((rd_T23 t276 (ji6)).f0))).setCell ⟨gb283, 1, none⟩ (.int .i64 ((rd_T23 t276 (ji6)).f1))) w.heap.size (fun k_ => k_ ≠ gb282 ∧ k_ ≠ gb283) (.slice (some ad280) t276.length co15) t276) := ⟨by (with_reducible repeat (first | apply Kd.R_alloc | apply Kd.R_drewN | apply Kd.R_drew)); exact Kd.R_mono (Kd.R_far (p := ⟨gb283, 1, none⟩) (Kd.R_far (p := ⟨gb283, 0, none⟩) (Kd.R_far (p := ⟨gb282, 1, none⟩) (Kd.R_far (p := ⟨gb282, 0, none⟩) (Kd.R_mono (Kd.R_mono HO279.out (fun k_ hk => (⟨hk, hk.1⟩ : _ ∧ k_ ≠ gb282))) (fun k_ hk => (⟨hk, hk.1.2⟩ : _ ∧ k_ ≠ gb283))) (fun _ hk => hk.1.2) (.int .i64 ((rd_T23 t276 a1).f0))) (fun _ hk => hk.1.2) (.int .i64 ((rd_T23 t276 a1).f1))) (fun _ hk => hk.2) (.int .i64 ((rd_T23 t276 (ji6)).f0))) (fun _ hk => hk.2) (.int .i64 ((rd_T23 t276 (ji6)).f1))) (fun _ hk => ⟨hk.1.1.1, hk.1.1.2⟩)⟩
      have n1_ : Aside0 (((((w18.setCell ⟨gb282, 0, none⟩ (.int .i64 ((rd_T23 t276 a1).f0))).setCell ⟨gb282, 1, none⟩ (.int .i64 ((rd_T23 t276 a1).f1))).setCell ⟨gb283, 0, none⟩ (.int .i64 ((rd_T23 t276 (ji6)).f0))).setCell ⟨gb283, 1, none⟩ (.int .i64 ((rd_T23 t276 (ji6)).f1))).heap[gb282]? = some (.cells #[.int .i64 ((rd_T23 t276 a1).f0), .int .i64 ((rd_T23 t276 a1).f1)] 23 (0, 0))) := ⟨by (with_reducible repeat (first | refine blk_drewN ?_ _ | refine blk_drew ?_ | refine blk_alloc ?_ _)); refine blk_far ?_ NB282_283.out _; (with_reducible repeat (first | refine blk_drewN ?_ _ | refine blk_drew ?_ | refine blk_alloc ?_ _)); refine blk_far ?_ NB282_283.out _; (with_reducible repeat (first | refine blk_drewN ?_ _ | refine blk_drew ?_ | refine blk_alloc ?_ _)); refine blk_put (cs := #[.int .i64 ((rd_T23 t276 a1).f0), .int .i64 0]) ?_ 1 _ rfl; (with_reducible repeat (first | refine blk_drewN ?_ _ | refine blk_drew ?_ | refine blk_alloc ?_ _)); refine blk_put (cs := #[.int .i64 0, .int .i64 0]) ?_ 0 _ rfl; (with_reducible repeat (first | refine blk_drewN ?_ _ | refine blk_drew ?_ | refine blk_alloc ?_ _)); exact BK282.out⟩
      have n2_ : Aside0 (((((w18.setCell ⟨gb282, 0, none⟩ (.int .i64 ((rd_T23 t276 a1).f0))).setCell ⟨gb282, 1, none⟩ (.int .i64 ((rd_T23 t276 a1).f1))).setCell ⟨gb283, 0, none⟩ (.int .i64 ((rd_T23 t276 (ji6)).f0))).setCell ⟨gb283, 1, none⟩ (.int .i64 ((rd_T23 t276 (ji6)).f1))).heap[gb283]? = some (.cells #[.int .i64 ((rd_T23 t276 (ji6)).f0), .int .i64 ((rd_T23 t276 (ji6)).f1)] 23 (0, 0))) := ⟨by (with_reducible repeat (first | refine blk_drewN ?_ _ | refine blk_drew ?_ | refine blk_alloc ?_ _)); refine blk_put (cs := #[.int .i64 ((rd_T23 t276 (ji6)).f0), .int .i64 0]) ?_ 1 _ rfl; (with_reducible repeat (first | refine blk_drewN ?_ _ | refine blk_drew ?_ | refine blk_alloc ?_ _)); refine blk_put (cs := #[.int .i64 0, .int .i64 0]) ?_ 0 _ rfl; (with_reducible repeat (first | refine blk_drewN ?_ _ | refine blk_drew ?_ | refine blk_alloc ?_ _)); refine blk_far ?_ NB283_282.out _; (with_reducible repeat (first | refine blk_drewN ?_ _ | refine blk_drew ?_ | refine blk_alloc ?_ _)); refine blk_far ?_ NB283_282.out _; (with_reducible repeat (first | refine blk_drewN ?_ _ | refine blk_drew ?_ | refine blk_alloc ?_ _)); exact BK283.out⟩
      have n3_ : Aside0 (Below w.heap.size w ((((w18.setCell ⟨gb282, 0, none⟩ (.int .i64 ((rd_T23 t276 a1).f0))).setCell ⟨gb282, 1, none⟩ (.int .i64 ((rd_T23 t276 a1).f1))).setCell ⟨gb283, 0, none⟩ (.int .i64 ((rd_T23 t276 (ji6)).f0))).setCell ⟨gb283, 1, none⟩ (.int .i64 ((rd_T23 t276 (ji6)).f1)))) := ⟨by repeat (first | (with_reducible first | exact HB.out | apply below_alloc | apply pw_below_drewN | apply below_drew1 | refine below_set ?_ GE282.out | refine below_set ?_ GE283.out) | exact HB.out)⟩
      (try clear HO279)
      (try clear BK282)
      (try clear BK283)
      (try clear HB)
      (try simp only [show ∀ (w_ : World) (n_ : Nat) (a_ : Addr) (v_ : Value), (World.drewN w_ n_).setCell a_ v_ = (w_.setCell a_ v_).drewN n_ from fun _ _ _ _ => rfl])
      generalize ((((w18.setCell ⟨gb282, 0, none⟩ (.int .i64 ((rd_T23 t276 a1).f0))).setCell ⟨gb282, 1, none⟩ (.int .i64 ((rd_T23 t276 a1).f1))).setCell ⟨gb283, 0, none⟩ (.int .i64 ((rd_T23 t276 (ji6)).f0))).setCell ⟨gb283, 1, none⟩ (.int .i64 ((rd_T23 t276 (ji6)).f1))) = w23 at n0_ n1_ n2_ n3_ ⊢
      have HO279 := n0_
      have BK282 := n1_
      have BK283 := n2_
      have HB := n3_
      clear n0_ n1_ n2_ n3_
      have n0_ := Aside0.mk (Kd.R_drew HO279.out)
      have n1_ := Aside0.mk (blk_drew BK282.out)
      have n2_ := Aside0.mk (blk_drew BK283.out)
      have n3_ := Aside0.mk (below_drew1 HB.out)
      clear HO279
      clear BK282
      clear BK283
      clear HB
      have HO279 := n0_
      have BK282 := n1_
      have BK283 := n2_
      have HB := n3_
      clear n0_ n1_ n2_ n3_
      refine start_ (n := 12) (S := fun w' => w'.cell? ⟨gb282, 0, none⟩ = some (.int .i64 ((rd_T23 t276 a1).f0)) ∧ w'.cell? ⟨gb282, 1, none⟩ = some (.int .i64 ((rd_T23 t276 a1).f1)) ∧ w'.cell? ⟨gb283, 0, none⟩ = some (.int .i64 ((rd_T23 t276 (ji6)).f0)) ∧ w'.cell? ⟨gb283, 1, none⟩ = some (.int .i64 ((rd_T23 t276 (ji6)).f1))) (ds := []) #[false, false, false, false, false, false, false, false, false, false, false, false] (by kernel_rfl) rfl rfl ⟨(blk_cell BK282.out 0).trans rfl, (blk_cell BK282.out 1).trans rfl, (blk_cell BK283.out 0).trans rfl, (blk_cell BK283.out 1).trans rfl⟩ (fun hHeld => ?_); refine with_tabW spec_l10Free.tab3 spec_l10Free.bits3 (fun HT_ HW_ => ?_)
      generalize w23.drew = w24 at HO279 BK282 BK283 HB hHeld ⊢
      refine pure_ (i := 0) (N := some 25) (v := ?_) (a' := ?_) #[true, false, false, false, false, false, false, false, false, false, false, false] rfl rfl (any_of HT_.out (by kernel_rfl)) (fun _ _ _ h => h) (Or.inl ⟨by rfl, ?_⟩) ?_ ?_
      rotate_left
      ·intro w'
       go_simp
       with_reducible rfl
      rotate_left
      ·simp only [Act.put, List.setIfInBounds_toArray, List.set_cons_zero, List.set_cons_succ, i64_w, i32_w]
       rfl
      refine pure_ (i := 2) (N := some 27) (v := ?_) (a' := ?_) #[true, false, true, false, false, false, false, false, false, false, false, false] rfl rfl (any_of HT_.out (by kernel_rfl)) (fun _ _ _ h => h) (Or.inl ⟨by rfl, ?_⟩) ?_ ?_
      rotate_left
      ·intro w'
       go_simp
       with_reducible rfl
      rotate_left
      ·simp only [Act.put, List.setIfInBounds_toArray, List.set_cons_zero, List.set_cons_succ, i64_w, i32_w]
       rfl
      refine pure_ (i := 5) (N := some 30) (v := ?_) (a' := ?_) #[true, false, true, false, false, true, false, false, false, false, false, false] rfl rfl (any_of HT_.out (by kernel_rfl)) (fun _ _ _ h => h) (Or.inl ⟨by rfl, ?_⟩) ?_ ?_
      rotate_left
      ·intro w'
       go_simp
       with_reducible rfl
      rotate_left
      ·simp only [Act.put, List.setIfInBounds_toArray, List.set_cons_zero, List.set_cons_succ, i64_w, i32_w]
       rfl
      refine pure_ (i := 7) (N := some 32) (v := ?_) (a' := ?_) #[true, false, true, false, false, true, false, true, false, false, false, false] rfl rfl (any_of HT_.out (by kernel_rfl)) (fun _ _ _ h => h) (Or.inl ⟨by rfl, ?_⟩) ?_ ?_
      rotate_left
      ·intro w'
       go_simp
       with_reducible rfl
      rotate_left
      ·simp only [Act.put, List.setIfInBounds_toArray, List.set_cons_zero, List.set_cons_succ, i64_w, i32_w]
       rfl
      refine take_ (i := 1) (N := some 26) (v := ?_) (a' := ?_) #[true, true, true, false, false, true, false, true, false, false, false, false] rfl rfl (take_ofW HT_.out HW_.out (by kernel_rfl)) (fun _ _ _ h => h) (Or.inl ⟨by rfl, ?_⟩) hHeld ?_ ?_
      rotate_left
      ·rintro w' ⟨s0, s1, s2, s3⟩
       go_simp
       with_reducible rfl
      rotate_left
      ·simp only [Act.put, List.setIfInBounds_toArray, List.set_cons_zero, List.set_cons_succ, i64_w, i32_w]
       rfl
      refine take_ (i := 3) (N := some 28) (v := ?_) (a' := ?_) #[true, true, true, true, false, true, false, true, false, false, false, false] rfl rfl (take_ofW HT_.out HW_.out (by kernel_rfl)) (fun _ _ _ h => h) (Or.inl ⟨by rfl, ?_⟩) hHeld ?_ ?_
      rotate_left
      ·rintro w' ⟨s0, s1, s2, s3⟩
       go_simp
       with_reducible rfl
      rotate_left
      ·simp only [Act.put, List.setIfInBounds_toArray, List.set_cons_zero, List.set_cons_succ, i64_w, i32_w]
       rfl
      refine take_ (i := 6) (N := some 31) (v := ?_) (a' := ?_) #[true, true, true, true, false, true, true, true, false, false, false, false] rfl rfl (take_ofW HT_.out HW_.out (by kernel_rfl)) (fun _ _ _ h => h) (Or.inl ⟨by rfl, ?_⟩) hHeld ?_ ?_
      rotate_left
      ·rintro w' ⟨s0, s1, s2, s3⟩
       go_simp
       with_reducible rfl
      rotate_left
      ·simp only [Act.put, List.setIfInBounds_toArray, List.set_cons_zero, List.set_cons_succ, i64_w, i32_w]
       rfl
      refine take_ (i := 8) (N := some 33) (v := ?_) (a' := ?_) #[true, true, true, true, false, true, true, true, true, false, false, false] rfl rfl (take_ofW HT_.out HW_.out (by kernel_rfl)) (fun _ _ _ h => h) (Or.inl ⟨by rfl, ?_⟩) hHeld ?_ ?_
      rotate_left
      ·rintro w' ⟨s0, s1, s2, s3⟩
       go_simp
       with_reducible rfl
      rotate_left
      ·simp only [Act.put, List.setIfInBounds_toArray, List.set_cons_zero, List.set_cons_succ, i64_w, i32_w]
       rfl
      refine one_ (i := 4) (N := some 29) #[true, true, true, true, true, true, true, true, true, false, false, false] rfl rfl (one_of HT_.out (by kernel_rfl)) (by decide) (fun K hK => ?_)
      refine goes_ Tryd.func44 (by kernel_rfl) rfl #[.int .i64 ((rd_T23 t276 a1).f0), .int .i64 ((rd_T23 t276 (ji6)).f0)] (by rfl) rfl rfl (by (try simp only [List.map_toArray, List.map_cons, List.map_nil]); first | done | (simp only [hji6]; rfl) | rfl | (simp only [List.length_drop, List.length_take]; rfl)) ?_
      with_reducible refine (spec_l1Least.calls ((rd_T23 t276 a1).f0) ((rd_T23 t276 (ji6)).f0) t284 _ A9.out).mono ?_
      rintro e w' ⟨rfl, ⟨nd, rfl⟩⟩
      refine ⟨_, rfl, ?_⟩
      refine hK.out _ _ ⟨(blk_cell BK282.out 0).trans rfl, (blk_cell BK282.out 1).trans rfl, (blk_cell BK283.out 0).trans rfl, (blk_cell BK283.out 1).trans rfl⟩ (fun hHeld => ?_)
      clear hK K
      refine norm_ (a' := ?_) ?_ ?_
      rotate_left
      ·show Act.put _ (some 29) _ = _
       simp only [Act.put, List.setIfInBounds_toArray, List.set_cons_zero, List.set_cons_succ, i64_w, i32_w]
       rfl
      refine one_ (i := 9) (N := some 34) #[true, true, true, true, true, true, true, true, true, true, false, false] rfl rfl (one_of HT_.out (by kernel_rfl)) (by decide) (fun K hK => ?_)
      refine goes_ Tryd.func44 (by kernel_rfl) rfl #[.int .i64 ((rd_T23 t276 a1).f1), .int .i64 ((rd_T23 t276 (ji6)).f1)] (by rfl) rfl rfl (by (try simp only [List.map_toArray, List.map_cons, List.map_nil]); first | done | (simp only [hji6]; rfl) | rfl | (simp only [List.length_drop, List.length_take]; rfl)) ?_
      with_reducible refine (spec_l1Least.calls ((rd_T23 t276 a1).f1) ((rd_T23 t276 (ji6)).f1) t285 _ A10.out).mono ?_
      rintro e w' ⟨rfl, ⟨nd, rfl⟩⟩
      refine ⟨_, rfl, ?_⟩
      refine hK.out _ _ ⟨(blk_cell BK282.out 0).trans rfl, (blk_cell BK282.out 1).trans rfl, (blk_cell BK283.out 0).trans rfl, (blk_cell BK283.out 1).trans rfl⟩ (fun hHeld => ?_)
      clear hK K
      refine norm_ (a' := ?_) ?_ ?_
      rotate_left
      ·show Act.put _ (some 34) _ = _
       simp only [Act.put, List.setIfInBounds_toArray, List.set_cons_zero, List.set_cons_succ, i64_w, i32_w]
       rfl
      refine pure_ (i := 10) (N := some 9) (v := ?_) (a' := ?_) #[true, true, true, true, true, true, true, true, true, true, true, false] rfl rfl (any_of HT_.out (by kernel_rfl)) (fun _ _ _ h => h) (Or.inl ⟨by rfl, ?_⟩) ?_ ?_
      rotate_left
      ·intro w'
       go_simp
       with_reducible rfl
      rotate_left
      ·simp only [Act.put, List.setIfInBounds_toArray, List.set_cons_zero, List.set_cons_succ, i64_w, i32_w]
       rfl
      refine pure_ (i := 11) (N := some 10) (v := ?_) (a' := ?_) #[true, true, true, true, true, true, true, true, true, true, true, true] rfl rfl (any_of HT_.out (by kernel_rfl)) (fun _ _ _ h => h) (Or.inl ⟨by rfl, ?_⟩) ?_ ?_
      rotate_left
      ·intro w'
       go_simp
       with_reducible rfl
      rotate_left
      ·simp only [Act.put, List.setIfInBounds_toArray, List.set_cons_zero, List.set_cons_succ, i64_w, i32_w]
       rfl
      refine done_ (done_of HT_.out (by kernel_rfl)) ?_
      try go_wp2_with (first | (go_at_call 51; (with_reducible refine (spec_l1In.calls t284 1 6 t286 _ A12.out).mono ?_); rintro e w' ⟨rfl, ⟨nd, rfl⟩⟩))
      go_ret
      exact ⟨by first | rfl | (simp [errW_none, errW_some] <;> rfl) | (simp only [← hji6]; first | rfl | (simp [errW_none, errW_some] <;> rfl)) | (simp [*, errW_none, errW_some] <;> rfl), by repeat (first | (with_reducible first | exact HB.out | apply below_alloc | apply pw_below_drewN | apply below_drew1 | refine below_set ?_ GE282.out | refine below_set ?_ GE283.out) | exact HB.out)⟩
     ·rw [if_neg c11] at H
      have c11b0 : (t285 == 0) = false := beq_eq_false_iff_ne.mpr c11
      have c11b1 : (t285 != 0) = true := bne_iff_ne.mpr c11
      obtain rfl := Option.some.inj H
      go_enter Tryd.func49, Tryd.ntmps49
      try go_wp2_with (first | ((with_reducible refine gate_callee (f := 41) rfl ?_); refine goesL_ (some 13) rfl rfl Tryd.func41 (by kernel_rfl) rfl #[.string a0] rfl (by (try simp only [List.map_toArray, List.map_cons, List.map_nil]); first | done | rfl | (simp only [List.length_drop, List.length_take]; rfl)) ?_; (with_reducible refine (spec_l10Points.calls k a0 t276 t277 _ A3.out).mono ?_); rintro e w25 ⟨v278, rfl, ho0, hb⟩; refine ⟨_, rfl, ?_⟩; have n0_ := Aside0.mk (Kd.R_lower ho0 (below_size (by repeat (first | (with_reducible first | exact HB.out | apply below_alloc | apply pw_below_drewN | apply below_drew1) | exact HB.out)))); have n1_ := Aside0.mk (below_step (by repeat (first | (with_reducible first | exact HB.out | apply below_alloc | apply pw_below_drewN | apply below_drew1) | exact HB.out)) hb); clear HB; have HO279 := n0_; have HB := n1_; clear n0_ n1_; (try clear hb); (try clear hb2); (try clear hk); (try clear hi); (try clear ho0)))
      have n0_ := Aside0.mk (Kd.R_drew HO279.out)
      have n1_ := Aside0.mk (below_drew1 HB.out)
      clear HO279
      clear HB
      have HO279 := n0_
      have HB := n1_
      clear n0_ n1_
      obtain ⟨Ao27, co27, eo27⟩ := Kd.R_slice HO279.out
      (first | subst eo27 | (injection eo27 with f1_ f2_ f3_; have f4_ := f1_.symm; have f5_ := f3_.symm; clear f1_ f2_ f3_; subst f4_; subst f5_))
      have p280 : 0 ≤ (a1 : Int) := of_decide_eq_true (by first | (with_reducible assumption) | assumption)
      have q280 : a1 < (t276.length : Int) := of_decide_eq_true (by first | (with_reducible assumption) | assumption)
      obtain ⟨ad280, e280, hx280_0, hx280_1⟩ := at_T23 (Kd.R_reads' HO279.out).2.2 a1 p280 q280
      cases e280
      replace p280 := eq_true p280
      replace q280 := eq_true q280
      have p281 : 0 ≤ ((ji6) : Int) := of_decide_eq_true (by first | (with_reducible assumption) | assumption)
      have q281 : (ji6) < (t276.length : Int) := of_decide_eq_true (by first | (with_reducible assumption) | assumption)
      obtain ⟨ad281, e281, hx281_0, hx281_1⟩ := at_T23 (Kd.R_reads' HO279.out).2.2 (ji6) p281 q281
      obtain rfl : ad280 = ad281 := (by injection e281)
      replace p281 := eq_true p281
      replace q281 := eq_true q281
      refine start_ (n := 13) (S := fun w' => w'.cell? (ad280.add ((a1).toNat * 2)) = some (.int .i64 ((rd_T23 t276 a1).f0)) ∧ w'.cell? ⟨(ad280.add ((a1).toNat * 2)).block, (ad280.add ((a1).toNat * 2)).off + 1, none⟩ = some (.int .i64 ((rd_T23 t276 a1).f1)) ∧ w'.cell? (ad280.add (((ji6)).toNat * 2)) = some (.int .i64 ((rd_T23 t276 (ji6)).f0)) ∧ w'.cell? ⟨(ad280.add (((ji6)).toNat * 2)).block, (ad280.add (((ji6)).toNat * 2)).off + 1, none⟩ = some (.int .i64 ((rd_T23 t276 (ji6)).f1))) (ds := []) #[false, false, false, false, false, false, false, false, false, false, false, false, false] (by kernel_rfl) rfl rfl ⟨hx280_0, hx280_1, hx281_0, hx281_1⟩ (fun hHeld => ?_); refine with_tabW spec_l10Free.tab2 spec_l10Free.bits2 (fun HT_ HW_ => ?_)
      generalize w25.drew = w26 at HO279 HB hx280_0 hx280_1 hx281_0 hx281_1 hHeld ⊢
      refine pure_ (i := 0) (N := some 16) (v := ?_) (a' := ?_) #[true, false, false, false, false, false, false, false, false, false, false, false, false] rfl rfl (any_of HT_.out (by kernel_rfl)) (fun _ _ _ h => h) (Or.inl ⟨by rfl, ?_⟩) ?_ ?_
      rotate_left
      ·intro w'
       go_simp
       with_reducible rfl
      rotate_left
      ·simp only [Act.put, List.setIfInBounds_toArray, List.set_cons_zero, List.set_cons_succ, i64_w, i32_w]
       rfl
      refine pure_ (i := 1) (N := some 17) (v := ?_) (a' := ?_) #[true, true, false, false, false, false, false, false, false, false, false, false, false] rfl rfl (any_of HT_.out (by kernel_rfl)) (fun _ _ _ h => h) (Or.inl ⟨by rfl, ?_⟩) ?_ ?_
      rotate_left
      ·intro w'
       go_simp
       with_reducible rfl
      rotate_left
      ·simp only [Act.put, List.setIfInBounds_toArray, List.set_cons_zero, List.set_cons_succ, i64_w, i32_w]
       rfl
      refine pure_ (i := 2) (N := some 18) (v := ?_) (a' := ?_) #[true, true, true, false, false, false, false, false, false, false, false, false, false] rfl rfl (any_of HT_.out (by kernel_rfl)) (fun _ _ _ h => h) (Or.inl ⟨by rfl, ?_⟩) ?_ ?_
      rotate_left
      ·intro w'
       go_simp
       with_reducible rfl
      rotate_left
      ·simp only [Act.put, List.setIfInBounds_toArray, List.set_cons_zero, List.set_cons_succ, i64_w, i32_w]
       rfl
      refine pure_ (i := 4) (N := some 20) (v := ?_) (a' := ?_) #[true, true, true, false, true, false, false, false, false, false, false, false, false] rfl rfl (any_of HT_.out (by kernel_rfl)) (fun _ _ _ h => h) (Or.inl ⟨by rfl, ?_⟩) ?_ ?_
      rotate_left
      ·intro w'
       go_simp
       with_reducible rfl
      rotate_left
      ·simp only [Act.put, List.setIfInBounds_toArray, List.set_cons_zero, List.set_cons_succ, i64_w, i32_w]
       rfl
      refine pure_ (i := 5) (N := some 21) (v := ?_) (a' := ?_) #[true, true, true, false, true, true, false, false, false, false, false, false, false] rfl rfl (any_of HT_.out (by kernel_rfl)) (fun _ _ _ h => h) (Or.inl ⟨by rfl, ?_⟩) ?_ ?_
      rotate_left
      ·intro w'
       go_simp
       with_reducible rfl
      rotate_left
      ·simp only [Act.put, List.setIfInBounds_toArray, List.set_cons_zero, List.set_cons_succ, i64_w, i32_w]
       rfl
      refine pure_ (i := 6) (N := some 22) (v := ?_) (a' := ?_) #[true, true, true, false, true, true, true, false, false, false, false, false, false] rfl rfl (any_of HT_.out (by kernel_rfl)) (fun _ _ _ h => h) (Or.inl ⟨by rfl, ?_⟩) ?_ ?_
      rotate_left
      ·intro w'
       go_simp
       with_reducible rfl
      rotate_left
      ·simp only [Act.put, List.setIfInBounds_toArray, List.set_cons_zero, List.set_cons_succ, i64_w, i32_w]
       rfl
      refine pure_ (i := 7) (N := some 23) (v := ?_) (a' := ?_) #[true, true, true, false, true, true, true, true, false, false, false, false, false] rfl rfl (any_of HT_.out (by kernel_rfl)) (fun _ _ _ h => h) (Or.inl ⟨by rfl, ?_⟩) ?_ ?_
      rotate_left
      ·intro w'
       go_simp
       with_reducible rfl
      rotate_left
      ·simp only [Act.put, List.setIfInBounds_toArray, List.set_cons_zero, List.set_cons_succ, i64_w, i32_w]
       rfl
      refine take_ (i := 3) (N := some 19) (v := ?_) (a' := ?_) #[true, true, true, true, true, true, true, true, false, false, false, false, false] rfl rfl (take_ofW HT_.out HW_.out (by kernel_rfl)) (fun _ _ _ h => h) (Or.inl ⟨by rfl, ?_⟩) hHeld ?_ ?_
      rotate_left
      ·rintro w' ⟨s0, s1, s2, s3⟩
       go_simp
       with_reducible rfl
      rotate_left
      ·simp only [Act.put, List.setIfInBounds_toArray, List.set_cons_zero, List.set_cons_succ, i64_w, i32_w]
       rfl
      refine take_ (i := 8) (N := some 24) (v := ?_) (a' := ?_) #[true, true, true, true, true, true, true, true, true, false, false, false, false] rfl rfl (take_ofW HT_.out HW_.out (by kernel_rfl)) (fun _ _ _ h => h) (Or.inl ⟨by rfl, ?_⟩) hHeld ?_ ?_
      rotate_left
      ·rintro w' ⟨s0, s1, s2, s3⟩
       go_simp
       with_reducible rfl
      rotate_left
      ·simp only [Act.put, List.setIfInBounds_toArray, List.set_cons_zero, List.set_cons_succ, i64_w, i32_w]
       rfl
      refine join_ (σ := Nat × Nat) 2 #[true, true, true, true, true, true, true, true, true, true, true, false, false] (fun s_ => [(7, .pointer (some ⟨s_.1, 0, none⟩)), (8, .pointer (some ⟨s_.2, 0, none⟩))]) (fun s_ w' => (w'.cell? (ad280.add ((a1).toNat * 2)) = some (.int .i64 ((rd_T23 t276 a1).f0)) ∧ w'.cell? ⟨(ad280.add ((a1).toNat * 2)).block, (ad280.add ((a1).toNat * 2)).off + 1, none⟩ = some (.int .i64 ((rd_T23 t276 a1).f1)) ∧ w'.cell? (ad280.add (((ji6)).toNat * 2)) = some (.int .i64 ((rd_T23 t276 (ji6)).f0)) ∧ w'.cell? ⟨(ad280.add (((ji6)).toNat * 2)).block, (ad280.add (((ji6)).toNat * 2)).off + 1, none⟩ = some (.int .i64 ((rd_T23 t276 (ji6)).f1))) ∧ (Kd.R k23 23 w' w.heap.size (fun k_ => k_ ≠ s_.1 ∧ k_ ≠ s_.2) (.slice (some ad280) t276.length co27) t276) ∧ (w'.heap[s_.1]? = some (.cells #[.int .i64 0, .int .i64 0] 23 (0, 0))) ∧ (w'.heap[s_.2]? = some (.cells #[.int .i64 0, .int .i64 0] 23 (0, 0))) ∧ (w.heap.size ≤ s_.1) ∧ (w.heap.size ≤ s_.1) ∧ (s_.2 ≠ s_.1) ∧ (s_.1 ≠ s_.2) ∧ (w.heap.size ≤ s_.2) ∧ (w.heap.size ≤ s_.2) ∧ (Below w.heap.size w w')) ?_ ?_
      rotate_left
      ·intro hCont
       refine two_ (i := 9) (j := 10) (Ni := some 7) (Nj := some 8) #[true, true, true, true, true, true, true, true, true, true, false, false, false] #[true, true, true, true, true, true, true, true, true, false, true, false, false] rfl rfl rfl rfl (two_of HT_.out (by kernel_rfl)) (by decide) (by decide) (fun K hK => ?_) (fun K hK => ?_)
       ·skip
        refine box_step ?hg (N := 7) ?hd (cs := #[.int .i64 0, .int .i64 0]) (t := 23) ?hr ?_; (case hd => rfl); (case hg => rfl); (case hr => first | (go_simp; done) | (go_simp; rfl))
        intro gb282 hg w28 hbox hb
        have HS0_ := (hb.cell (World.block_lt_of_cell? _ _ (hHeld.1))).trans (hHeld.1)
        have HS1_ := (hb.cell (World.block_lt_of_cell? _ _ (hHeld.2.1))).trans (hHeld.2.1)
        have HS2_ := (hb.cell (World.block_lt_of_cell? _ _ (hHeld.2.2.1))).trans (hHeld.2.2.1)
        have HS3_ := (hb.cell (World.block_lt_of_cell? _ _ (hHeld.2.2.2))).trans (hHeld.2.2.2)
        have n0_ := Aside0.mk (Kd.R_below (Kd.R_elderB (by (with_reducible repeat (first | apply Kd.R_alloc | apply Kd.R_drewN | apply Kd.R_drew)); exact HO279.out) gb282 (Nat.le_of_eq hg.symm)) hb)
        have n1_ := Aside0.mk (below_step (by repeat (first | (with_reducible first | exact HB.out | apply below_alloc | apply pw_below_drewN | apply below_drew1) | exact HB.out)) hb)
        have n2_ := Aside0.mk (hbox)
        have n3_ := Aside0.mk ((by rw [hg]; exact (below_size (by repeat (first | (with_reducible first | exact HB.out | apply below_alloc | apply pw_below_drewN | apply below_drew1) | exact HB.out))) : w.heap.size ≤ gb282))
        have n4_ := Aside0.mk ((by rw [hg]; exact (below_size (by repeat (first | (with_reducible first | exact HB.out | apply below_alloc | apply pw_below_drewN | apply below_drew1) | exact HB.out))) : w.heap.size ≤ gb282))
        clear HO279
        clear HB
        have HO279 := n0_
        have HB := n1_
        have BK282 := n2_
        have GW282 := n3_
        have GE282 := n4_
        clear n0_ n1_ n2_ n3_ n4_
        clear hb hbox hg
        refine hK.out _ _ ⟨HS0_, HS1_, HS2_, HS3_⟩ (fun hHeld => ?_)
        clear hK K
        refine norm_ (a' := ?_) ?_ ?_
        rotate_left
        ·show Act.put _ (some 7) _ = _
         simp only [Act.put, List.setIfInBounds_toArray, List.set_cons_zero, List.set_cons_succ, i64_w, i32_w]
         rfl
        refine one_ (i := 10) (N := some 8) #[true, true, true, true, true, true, true, true, true, true, true, false, false] rfl rfl (one_of HT_.out (by kernel_rfl)) (by decide) (fun K hK => ?_)
        refine box_step ?hg (N := 8) ?hd (cs := #[.int .i64 0, .int .i64 0]) (t := 23) ?hr ?_; (case hd => rfl); (case hg => rfl); (case hr => first | (go_simp; done) | (go_simp; rfl))
        intro gb283 hg w29 hbox hb
        have HS0_ := (hb.cell (World.block_lt_of_cell? _ _ (hHeld.1))).trans (hHeld.1)
        have HS1_ := (hb.cell (World.block_lt_of_cell? _ _ (hHeld.2.1))).trans (hHeld.2.1)
        have HS2_ := (hb.cell (World.block_lt_of_cell? _ _ (hHeld.2.2.1))).trans (hHeld.2.2.1)
        have HS3_ := (hb.cell (World.block_lt_of_cell? _ _ (hHeld.2.2.2))).trans (hHeld.2.2.2)
        have n0_ := Aside0.mk (Kd.R_below (Kd.R_elderB (by (with_reducible repeat (first | apply Kd.R_alloc | apply Kd.R_drewN | apply Kd.R_drew)); exact HO279.out) gb283 (Nat.le_of_eq hg.symm)) hb)
        have n1_ := Aside0.mk (blk_below (g := gb282) (o := .cells #[.int .i64 0, .int .i64 0] 23 (0, 0)) (by (with_reducible repeat (first | refine blk_drewN ?_ _ | refine blk_drew ?_ | refine blk_alloc ?_ _)); exact BK282.out) hb)
        have n2_ := Aside0.mk (below_step (by repeat (first | (with_reducible first | exact HB.out | apply below_alloc | apply pw_below_drewN | apply below_drew1 | refine below_set ?_ GE282.out) | exact HB.out)) hb)
        have n3_ := Aside0.mk (hbox)
        have n4_ := Aside0.mk ((by rw [hg]; exact (below_size (by repeat (first | (with_reducible first | exact HB.out | apply below_alloc | apply pw_below_drewN | apply below_drew1 | refine below_set ?_ GE282.out) | exact HB.out))) : w.heap.size ≤ gb283))
        have n5_ := Aside0.mk ((by rw [hg]; exact (below_size (by repeat (first | (with_reducible first | exact HB.out | apply below_alloc | apply pw_below_drewN | apply below_drew1 | refine below_set ?_ GE282.out) | exact HB.out))) : w.heap.size ≤ gb283))
        have n6_ := Aside0.mk ((by rw [hg]; exact Nat.ne_of_lt (blk_lt (g := gb282) (o := .cells #[.int .i64 0, .int .i64 0] 23 (0, 0)) (by (with_reducible repeat (first | refine blk_drewN ?_ _ | refine blk_drew ?_ | refine blk_alloc ?_ _)); exact BK282.out)) : gb282 ≠ gb283))
        have n7_ := Aside0.mk ((by rw [hg]; exact Nat.ne_of_gt (blk_lt (g := gb282) (o := .cells #[.int .i64 0, .int .i64 0] 23 (0, 0)) (by (with_reducible repeat (first | refine blk_drewN ?_ _ | refine blk_drew ?_ | refine blk_alloc ?_ _)); exact BK282.out)) : gb283 ≠ gb282))
        clear HO279
        clear BK282
        clear HB
        have HO279 := n0_
        have BK282 := n1_
        have HB := n2_
        have BK283 := n3_
        have GW283 := n4_
        have GE283 := n5_
        have NB282_283 := n6_
        have NB283_282 := n7_
        clear n0_ n1_ n2_ n3_ n4_ n5_ n6_ n7_
        clear hb hbox hg
        refine hK.out _ _ ⟨HS0_, HS1_, HS2_, HS3_⟩ (fun hHeld => ?_)
        clear hK K
        refine norm_ (a' := ?_) ?_ ?_
        rotate_left
        ·show Act.put _ (some 8) _ = _
         simp only [Act.put, List.setIfInBounds_toArray, List.set_cons_zero, List.set_cons_succ, i64_w, i32_w]
         rfl
        exact norm_ (by simp only [putAll, Act.put, List.setIfInBounds_toArray, List.set_cons_zero, List.set_cons_succ]) (hCont (gb282, gb283) _ ⟨hHeld, (by (with_reducible repeat (first | apply Kd.R_alloc | apply Kd.R_drewN | apply Kd.R_drew)); exact Kd.R_mono HO279.out (fun _ hk => ⟨hk.1.2, hk.2⟩)), (by (with_reducible repeat (first | refine blk_drewN ?_ _ | refine blk_drew ?_ | refine blk_alloc ?_ _)); exact BK282.out), (by (with_reducible repeat (first | refine blk_drewN ?_ _ | refine blk_drew ?_ | refine blk_alloc ?_ _)); exact BK283.out), GW282.out, GE282.out, NB283_282.out, NB282_283.out, GW283.out, GE283.out, (by repeat (first | (with_reducible first | exact HB.out | apply below_alloc | apply pw_below_drewN | apply below_drew1 | refine below_set ?_ GE282.out | refine below_set ?_ GE283.out) | exact HB.out))⟩)
       ·skip
        refine box_step ?hg (N := 8) ?hd (cs := #[.int .i64 0, .int .i64 0]) (t := 23) ?hr ?_; (case hd => rfl); (case hg => rfl); (case hr => first | (go_simp; done) | (go_simp; rfl))
        intro gb283 hg w28 hbox hb
        have HS0_ := (hb.cell (World.block_lt_of_cell? _ _ (hHeld.1))).trans (hHeld.1)
        have HS1_ := (hb.cell (World.block_lt_of_cell? _ _ (hHeld.2.1))).trans (hHeld.2.1)
        have HS2_ := (hb.cell (World.block_lt_of_cell? _ _ (hHeld.2.2.1))).trans (hHeld.2.2.1)
        have HS3_ := (hb.cell (World.block_lt_of_cell? _ _ (hHeld.2.2.2))).trans (hHeld.2.2.2)
        have n0_ := Aside0.mk (Kd.R_below (Kd.R_elderB (by (with_reducible repeat (first | apply Kd.R_alloc | apply Kd.R_drewN | apply Kd.R_drew)); exact HO279.out) gb283 (Nat.le_of_eq hg.symm)) hb)
        have n1_ := Aside0.mk (below_step (by repeat (first | (with_reducible first | exact HB.out | apply below_alloc | apply pw_below_drewN | apply below_drew1) | exact HB.out)) hb)
        have n2_ := Aside0.mk (hbox)
        have n3_ := Aside0.mk ((by rw [hg]; exact (below_size (by repeat (first | (with_reducible first | exact HB.out | apply below_alloc | apply pw_below_drewN | apply below_drew1) | exact HB.out))) : w.heap.size ≤ gb283))
        have n4_ := Aside0.mk ((by rw [hg]; exact (below_size (by repeat (first | (with_reducible first | exact HB.out | apply below_alloc | apply pw_below_drewN | apply below_drew1) | exact HB.out))) : w.heap.size ≤ gb283))
        clear HO279
        clear HB
        have HO279 := n0_
        have HB := n1_
        have BK283 := n2_
        have GW283 := n3_
        have GE283 := n4_
        clear n0_ n1_ n2_ n3_ n4_
        clear hb hbox hg
        refine hK.out _ _ ⟨HS0_, HS1_, HS2_, HS3_⟩ (fun hHeld => ?_)
        clear hK K
        refine norm_ (a' := ?_) ?_ ?_
        rotate_left
        ·show Act.put _ (some 8) _ = _
         simp only [Act.put, List.setIfInBounds_toArray, List.set_cons_zero, List.set_cons_succ, i64_w, i32_w]
         rfl
        refine one_ (i := 9) (N := some 7) #[true, true, true, true, true, true, true, true, true, true, true, false, false] rfl rfl (one_of HT_.out (by kernel_rfl)) (by decide) (fun K hK => ?_)
        refine box_step ?hg (N := 7) ?hd (cs := #[.int .i64 0, .int .i64 0]) (t := 23) ?hr ?_; (case hd => rfl); (case hg => rfl); (case hr => first | (go_simp; done) | (go_simp; rfl))
        intro gb282 hg w29 hbox hb
        have HS0_ := (hb.cell (World.block_lt_of_cell? _ _ (hHeld.1))).trans (hHeld.1)
        have HS1_ := (hb.cell (World.block_lt_of_cell? _ _ (hHeld.2.1))).trans (hHeld.2.1)
        have HS2_ := (hb.cell (World.block_lt_of_cell? _ _ (hHeld.2.2.1))).trans (hHeld.2.2.1)
        have HS3_ := (hb.cell (World.block_lt_of_cell? _ _ (hHeld.2.2.2))).trans (hHeld.2.2.2)
        have n0_ := Aside0.mk (Kd.R_below (Kd.R_elderB (by (with_reducible repeat (first | apply Kd.R_alloc | apply Kd.R_drewN | apply Kd.R_drew)); exact HO279.out) gb282 (Nat.le_of_eq hg.symm)) hb)
        have n1_ := Aside0.mk (blk_below (g := gb283) (o := .cells #[.int .i64 0, .int .i64 0] 23 (0, 0)) (by (with_reducible repeat (first | refine blk_drewN ?_ _ | refine blk_drew ?_ | refine blk_alloc ?_ _)); exact BK283.out) hb)
        have n2_ := Aside0.mk (below_step (by repeat (first | (with_reducible first | exact HB.out | apply below_alloc | apply pw_below_drewN | apply below_drew1 | refine below_set ?_ GE283.out) | exact HB.out)) hb)
        have n3_ := Aside0.mk (hbox)
        have n4_ := Aside0.mk ((by rw [hg]; exact (below_size (by repeat (first | (with_reducible first | exact HB.out | apply below_alloc | apply pw_below_drewN | apply below_drew1 | refine below_set ?_ GE283.out) | exact HB.out))) : w.heap.size ≤ gb282))
        have n5_ := Aside0.mk ((by rw [hg]; exact (below_size (by repeat (first | (with_reducible first | exact HB.out | apply below_alloc | apply pw_below_drewN | apply below_drew1 | refine below_set ?_ GE283.out) | exact HB.out))) : w.heap.size ≤ gb282))
        have n6_ := Aside0.mk ((by rw [hg]; exact Nat.ne_of_lt (blk_lt (g := gb283) (o := .cells #[.int .i64 0, .int .i64 0] 23 (0, 0)) (by (with_reducible repeat (first | refine blk_drewN ?_ _ | refine blk_drew ?_ | refine blk_alloc ?_ _)); exact BK283.out)) : gb283 ≠ gb282))
        have n7_ := Aside0.mk ((by rw [hg]; exact Nat.ne_of_gt (blk_lt (g := gb283) (o := .cells #[.int .i64 0, .int .i64 0] 23 (0, 0)) (by (with_reducible repeat (first | refine blk_drewN ?_ _ | refine blk_drew ?_ | refine blk_alloc ?_ _)); exact BK283.out)) : gb282 ≠ gb283))
        clear HO279
        clear BK283
        clear HB
        have HO279 := n0_
        have BK283 := n1_
        have HB := n2_
        have BK282 := n3_
        have GW282 := n4_
        have GE282 := n5_
        have NB283_282 := n6_
        have NB282_283 := n7_
        clear n0_ n1_ n2_ n3_ n4_ n5_ n6_ n7_
        clear hb hbox hg
        refine hK.out _ _ ⟨HS0_, HS1_, HS2_, HS3_⟩ (fun hHeld => ?_)
        clear hK K
        refine norm_ (a' := ?_) ?_ ?_
        rotate_left
        ·show Act.put _ (some 7) _ = _
         simp only [Act.put, List.setIfInBounds_toArray, List.set_cons_zero, List.set_cons_succ, i64_w, i32_w]
         rfl
        exact norm_ (by simp only [putAll, Act.put, List.setIfInBounds_toArray, List.set_cons_zero, List.set_cons_succ]) (hCont (gb282, gb283) _ ⟨hHeld, (by (with_reducible repeat (first | apply Kd.R_alloc | apply Kd.R_drewN | apply Kd.R_drew)); exact Kd.R_mono HO279.out (fun _ hk => ⟨hk.2, hk.1.2⟩)), (by (with_reducible repeat (first | refine blk_drewN ?_ _ | refine blk_drew ?_ | refine blk_alloc ?_ _)); exact BK282.out), (by (with_reducible repeat (first | refine blk_drewN ?_ _ | refine blk_drew ?_ | refine blk_alloc ?_ _)); exact BK283.out), GW282.out, GE282.out, NB283_282.out, NB282_283.out, GW283.out, GE283.out, (by repeat (first | (with_reducible first | exact HB.out | apply below_alloc | apply pw_below_drewN | apply below_drew1 | refine below_set ?_ GE283.out | refine below_set ?_ GE282.out) | exact HB.out))⟩)
      rintro ⟨gb282, gb283⟩ w30 ⟨hS_, h0_, h1_, h2_, h3_, h4_, h5_, h6_, h7_, h8_, h9_⟩
      have n0_ : Aside0 (Kd.R k23 23 w30 w.heap.size (fun k_ => k_ ≠ gb282 ∧ k_ ≠ gb283) (.slice (some ad280) t276.length co27) t276) := ⟨h0_⟩
      have n1_ : Aside0 (w30.heap[gb282]? = some (.cells #[.int .i64 0, .int .i64 0] 23 (0, 0))) := ⟨h1_⟩
      have n2_ : Aside0 (w30.heap[gb283]? = some (.cells #[.int .i64 0, .int .i64 0] 23 (0, 0))) := ⟨h2_⟩
      have n3_ : Aside0 (w.heap.size ≤ gb282) := ⟨h3_⟩
      have n4_ : Aside0 (w.heap.size ≤ gb282) := ⟨h4_⟩
      have n5_ : Aside0 (gb283 ≠ gb282) := ⟨h5_⟩
      have n6_ : Aside0 (gb282 ≠ gb283) := ⟨h6_⟩
      have n7_ : Aside0 (w.heap.size ≤ gb283) := ⟨h7_⟩
      have n8_ : Aside0 (w.heap.size ≤ gb283) := ⟨h8_⟩
      have n9_ : Aside0 (Below w.heap.size w w30) := ⟨h9_⟩
      clear HO279
      clear HB
      clear h0_ h1_ h2_ h3_ h4_ h5_ h6_ h7_ h8_ h9_
      have HO279 := n0_
      have BK282 := n1_
      have BK283 := n2_
      have GW282 := n3_
      have GE282 := n4_
      have NB283_282 := n5_
      have NB282_283 := n6_
      have GW283 := n7_
      have GE283 := n8_
      have HB := n9_
      clear n0_ n1_ n2_ n3_ n4_ n5_ n6_ n7_ n8_ n9_
      have hHeld : w30.cell? (ad280.add ((a1).toNat * 2)) = some (.int .i64 ((rd_T23 t276 a1).f0)) ∧ w30.cell? ⟨(ad280.add ((a1).toNat * 2)).block, (ad280.add ((a1).toNat * 2)).off + 1, none⟩ = some (.int .i64 ((rd_T23 t276 a1).f1)) ∧ w30.cell? (ad280.add (((ji6)).toNat * 2)) = some (.int .i64 ((rd_T23 t276 (ji6)).f0)) ∧ w30.cell? ⟨(ad280.add (((ji6)).toNat * 2)).block, (ad280.add (((ji6)).toNat * 2)).off + 1, none⟩ = some (.int .i64 ((rd_T23 t276 (ji6)).f1)) := hS_
      refine norm_ (a' := ?_) ?_ ?_
      rotate_left
      ·simp only [putAll, Act.put, List.setIfInBounds_toArray, List.set_cons_zero, List.set_cons_succ]
       rfl
      refine one_ (i := 11) (N := none) #[true, true, true, true, true, true, true, true, true, true, true, true, false] rfl rfl (one_of HT_.out (by kernel_rfl)) (by decide) (fun K hK => ?_)
      have hs31 : w30.cell? ⟨gb282, 0, none⟩ = some (.int .i64 0) := (blk_cell BK282.out 0).trans rfl
      have hfs31 := blk_frozen BK282.out 0
      have hns31_1 := NB283_282.out
      have hms31_1 := NB282_283.out
      have hs32 : w30.cell? ⟨gb282, 1, none⟩ = some (.int .i64 0) := (blk_cell BK282.out 1).trans rfl
      have hfs32 := blk_frozen BK282.out 1
      have hns32_1 := NB283_282.out
      have hms32_1 := NB282_283.out
      refine skip_ (w1 := ?_) (by rfl) rfl ?_ ?_
      rotate_left
      ·go_simp
       rfl
      refine hK.out _ _ ⟨((cell_far (p := ⟨gb282, _, none⟩) (by first | exact Kd.own_blk (Kd.R_away HO279.out (fun _ hk => hk.1)) | (rw [add_block]; exact Kd.own_blk (Kd.R_away HO279.out (fun _ hk => hk.1))) | (show (Addr.add _ _).block ≠ _; rw [add_block]; exact Kd.own_blk (Kd.R_away HO279.out (fun _ hk => hk.1))) | (dsimp only; exact Kd.own_blk (Kd.R_away HO279.out (fun _ hk => hk.1)))) _).trans (((cell_far (p := ⟨gb282, _, none⟩) (by first | exact Kd.own_blk (Kd.R_away HO279.out (fun _ hk => hk.1)) | (rw [add_block]; exact Kd.own_blk (Kd.R_away HO279.out (fun _ hk => hk.1))) | (show (Addr.add _ _).block ≠ _; rw [add_block]; exact Kd.own_blk (Kd.R_away HO279.out (fun _ hk => hk.1))) | (dsimp only; exact Kd.own_blk (Kd.R_away HO279.out (fun _ hk => hk.1)))) _).trans (hHeld.1)))), ((cell_far (p := ⟨gb282, _, none⟩) (by first | exact Kd.own_blk (Kd.R_away HO279.out (fun _ hk => hk.1)) | (rw [add_block]; exact Kd.own_blk (Kd.R_away HO279.out (fun _ hk => hk.1))) | (show (Addr.add _ _).block ≠ _; rw [add_block]; exact Kd.own_blk (Kd.R_away HO279.out (fun _ hk => hk.1))) | (dsimp only; exact Kd.own_blk (Kd.R_away HO279.out (fun _ hk => hk.1)))) _).trans (((cell_far (p := ⟨gb282, _, none⟩) (by first | exact Kd.own_blk (Kd.R_away HO279.out (fun _ hk => hk.1)) | (rw [add_block]; exact Kd.own_blk (Kd.R_away HO279.out (fun _ hk => hk.1))) | (show (Addr.add _ _).block ≠ _; rw [add_block]; exact Kd.own_blk (Kd.R_away HO279.out (fun _ hk => hk.1))) | (dsimp only; exact Kd.own_blk (Kd.R_away HO279.out (fun _ hk => hk.1)))) _).trans (hHeld.2.1)))), ((cell_far (p := ⟨gb282, _, none⟩) (by first | exact Kd.own_blk (Kd.R_away HO279.out (fun _ hk => hk.1)) | (rw [add_block]; exact Kd.own_blk (Kd.R_away HO279.out (fun _ hk => hk.1))) | (show (Addr.add _ _).block ≠ _; rw [add_block]; exact Kd.own_blk (Kd.R_away HO279.out (fun _ hk => hk.1))) | (dsimp only; exact Kd.own_blk (Kd.R_away HO279.out (fun _ hk => hk.1)))) _).trans (((cell_far (p := ⟨gb282, _, none⟩) (by first | exact Kd.own_blk (Kd.R_away HO279.out (fun _ hk => hk.1)) | (rw [add_block]; exact Kd.own_blk (Kd.R_away HO279.out (fun _ hk => hk.1))) | (show (Addr.add _ _).block ≠ _; rw [add_block]; exact Kd.own_blk (Kd.R_away HO279.out (fun _ hk => hk.1))) | (dsimp only; exact Kd.own_blk (Kd.R_away HO279.out (fun _ hk => hk.1)))) _).trans (hHeld.2.2.1)))), ((cell_far (p := ⟨gb282, _, none⟩) (by first | exact Kd.own_blk (Kd.R_away HO279.out (fun _ hk => hk.1)) | (rw [add_block]; exact Kd.own_blk (Kd.R_away HO279.out (fun _ hk => hk.1))) | (show (Addr.add _ _).block ≠ _; rw [add_block]; exact Kd.own_blk (Kd.R_away HO279.out (fun _ hk => hk.1))) | (dsimp only; exact Kd.own_blk (Kd.R_away HO279.out (fun _ hk => hk.1)))) _).trans (((cell_far (p := ⟨gb282, _, none⟩) (by first | exact Kd.own_blk (Kd.R_away HO279.out (fun _ hk => hk.1)) | (rw [add_block]; exact Kd.own_blk (Kd.R_away HO279.out (fun _ hk => hk.1))) | (show (Addr.add _ _).block ≠ _; rw [add_block]; exact Kd.own_blk (Kd.R_away HO279.out (fun _ hk => hk.1))) | (dsimp only; exact Kd.own_blk (Kd.R_away HO279.out (fun _ hk => hk.1)))) _).trans (hHeld.2.2.2))))⟩ (fun hHeld => ?_)
      clear hK K
      refine one_ (i := 12) (N := none) #[true, true, true, true, true, true, true, true, true, true, true, true, true] rfl rfl (one_of HT_.out (by kernel_rfl)) (by decide) (fun K hK => ?_)
      have hs33 : w30.cell? ⟨gb283, 0, none⟩ = some (.int .i64 0) := (blk_cell BK283.out 0).trans rfl
      have hfs33 := blk_frozen BK283.out 0
      have hns33_0 := NB282_283.out
      have hms33_0 := NB283_282.out
      have hs34 : w30.cell? ⟨gb283, 1, none⟩ = some (.int .i64 0) := (blk_cell BK283.out 1).trans rfl
      have hfs34 := blk_frozen BK283.out 1
      have hns34_0 := NB282_283.out
      have hms34_0 := NB283_282.out
      refine skip_ (w1 := ?_) (by rfl) rfl ?_ ?_
      rotate_left
      ·go_simp
       rfl
      refine hK.out _ _ ⟨((cell_far (p := ⟨gb283, _, none⟩) (by first | exact Kd.own_blk (Kd.R_away HO279.out (fun _ hk => hk.2)) | (rw [add_block]; exact Kd.own_blk (Kd.R_away HO279.out (fun _ hk => hk.2))) | (show (Addr.add _ _).block ≠ _; rw [add_block]; exact Kd.own_blk (Kd.R_away HO279.out (fun _ hk => hk.2))) | (dsimp only; exact Kd.own_blk (Kd.R_away HO279.out (fun _ hk => hk.2)))) _).trans (((cell_far (p := ⟨gb283, _, none⟩) (by first | exact Kd.own_blk (Kd.R_away HO279.out (fun _ hk => hk.2)) | (rw [add_block]; exact Kd.own_blk (Kd.R_away HO279.out (fun _ hk => hk.2))) | (show (Addr.add _ _).block ≠ _; rw [add_block]; exact Kd.own_blk (Kd.R_away HO279.out (fun _ hk => hk.2))) | (dsimp only; exact Kd.own_blk (Kd.R_away HO279.out (fun _ hk => hk.2)))) _).trans (hHeld.1)))), ((cell_far (p := ⟨gb283, _, none⟩) (by first | exact Kd.own_blk (Kd.R_away HO279.out (fun _ hk => hk.2)) | (rw [add_block]; exact Kd.own_blk (Kd.R_away HO279.out (fun _ hk => hk.2))) | (show (Addr.add _ _).block ≠ _; rw [add_block]; exact Kd.own_blk (Kd.R_away HO279.out (fun _ hk => hk.2))) | (dsimp only; exact Kd.own_blk (Kd.R_away HO279.out (fun _ hk => hk.2)))) _).trans (((cell_far (p := ⟨gb283, _, none⟩) (by first | exact Kd.own_blk (Kd.R_away HO279.out (fun _ hk => hk.2)) | (rw [add_block]; exact Kd.own_blk (Kd.R_away HO279.out (fun _ hk => hk.2))) | (show (Addr.add _ _).block ≠ _; rw [add_block]; exact Kd.own_blk (Kd.R_away HO279.out (fun _ hk => hk.2))) | (dsimp only; exact Kd.own_blk (Kd.R_away HO279.out (fun _ hk => hk.2)))) _).trans (hHeld.2.1)))), ((cell_far (p := ⟨gb283, _, none⟩) (by first | exact Kd.own_blk (Kd.R_away HO279.out (fun _ hk => hk.2)) | (rw [add_block]; exact Kd.own_blk (Kd.R_away HO279.out (fun _ hk => hk.2))) | (show (Addr.add _ _).block ≠ _; rw [add_block]; exact Kd.own_blk (Kd.R_away HO279.out (fun _ hk => hk.2))) | (dsimp only; exact Kd.own_blk (Kd.R_away HO279.out (fun _ hk => hk.2)))) _).trans (((cell_far (p := ⟨gb283, _, none⟩) (by first | exact Kd.own_blk (Kd.R_away HO279.out (fun _ hk => hk.2)) | (rw [add_block]; exact Kd.own_blk (Kd.R_away HO279.out (fun _ hk => hk.2))) | (show (Addr.add _ _).block ≠ _; rw [add_block]; exact Kd.own_blk (Kd.R_away HO279.out (fun _ hk => hk.2))) | (dsimp only; exact Kd.own_blk (Kd.R_away HO279.out (fun _ hk => hk.2)))) _).trans (hHeld.2.2.1)))), ((cell_far (p := ⟨gb283, _, none⟩) (by first | exact Kd.own_blk (Kd.R_away HO279.out (fun _ hk => hk.2)) | (rw [add_block]; exact Kd.own_blk (Kd.R_away HO279.out (fun _ hk => hk.2))) | (show (Addr.add _ _).block ≠ _; rw [add_block]; exact Kd.own_blk (Kd.R_away HO279.out (fun _ hk => hk.2))) | (dsimp only; exact Kd.own_blk (Kd.R_away HO279.out (fun _ hk => hk.2)))) _).trans (((cell_far (p := ⟨gb283, _, none⟩) (by first | exact Kd.own_blk (Kd.R_away HO279.out (fun _ hk => hk.2)) | (rw [add_block]; exact Kd.own_blk (Kd.R_away HO279.out (fun _ hk => hk.2))) | (show (Addr.add _ _).block ≠ _; rw [add_block]; exact Kd.own_blk (Kd.R_away HO279.out (fun _ hk => hk.2))) | (dsimp only; exact Kd.own_blk (Kd.R_away HO279.out (fun _ hk => hk.2)))) _).trans (hHeld.2.2.2))))⟩ (fun hHeld => ?_)
      clear hK K
      refine done_ (done_of HT_.out (by kernel_rfl)) ?_
      try go_wp2
      have n0_ : Aside0 (Kd.R k23 23 ((((w30.setCell ⟨gb282, 0, none⟩ (.int .i64 ((rd_T23 t276 a1).f0))).setCell ⟨gb282, 1, none⟩ (.int .i64 ((rd_T23 t276 a1).f1))).setCell ⟨gb283, 0, none⟩ (.int .i64 ((rd_T23 t276 (ji6)).f0))).setCell ⟨gb283, 1, none⟩ (.int .i64 ((rd_T23 t276 (ji6)).f1))) w.heap.size (fun k_ => k_ ≠ gb282 ∧ k_ ≠ gb283) (.slice (some ad280) t276.length co27) t276) := ⟨by (with_reducible repeat (first | apply Kd.R_alloc | apply Kd.R_drewN | apply Kd.R_drew)); exact Kd.R_mono (Kd.R_far (p := ⟨gb283, 1, none⟩) (Kd.R_far (p := ⟨gb283, 0, none⟩) (Kd.R_far (p := ⟨gb282, 1, none⟩) (Kd.R_far (p := ⟨gb282, 0, none⟩) (Kd.R_mono (Kd.R_mono HO279.out (fun k_ hk => (⟨hk, hk.1⟩ : _ ∧ k_ ≠ gb282))) (fun k_ hk => (⟨hk, hk.1.2⟩ : _ ∧ k_ ≠ gb283))) (fun _ hk => hk.1.2) (.int .i64 ((rd_T23 t276 a1).f0))) (fun _ hk => hk.1.2) (.int .i64 ((rd_T23 t276 a1).f1))) (fun _ hk => hk.2) (.int .i64 ((rd_T23 t276 (ji6)).f0))) (fun _ hk => hk.2) (.int .i64 ((rd_T23 t276 (ji6)).f1))) (fun _ hk => ⟨hk.1.1.1, hk.1.1.2⟩)⟩
      have n1_ : Aside0 (((((w30.setCell ⟨gb282, 0, none⟩ (.int .i64 ((rd_T23 t276 a1).f0))).setCell ⟨gb282, 1, none⟩ (.int .i64 ((rd_T23 t276 a1).f1))).setCell ⟨gb283, 0, none⟩ (.int .i64 ((rd_T23 t276 (ji6)).f0))).setCell ⟨gb283, 1, none⟩ (.int .i64 ((rd_T23 t276 (ji6)).f1))).heap[gb282]? = some (.cells #[.int .i64 ((rd_T23 t276 a1).f0), .int .i64 ((rd_T23 t276 a1).f1)] 23 (0, 0))) := ⟨by (with_reducible repeat (first | refine blk_drewN ?_ _ | refine blk_drew ?_ | refine blk_alloc ?_ _)); refine blk_far ?_ NB282_283.out _; (with_reducible repeat (first | refine blk_drewN ?_ _ | refine blk_drew ?_ | refine blk_alloc ?_ _)); refine blk_far ?_ NB282_283.out _; (with_reducible repeat (first | refine blk_drewN ?_ _ | refine blk_drew ?_ | refine blk_alloc ?_ _)); refine blk_put (cs := #[.int .i64 ((rd_T23 t276 a1).f0), .int .i64 0]) ?_ 1 _ rfl; (with_reducible repeat (first | refine blk_drewN ?_ _ | refine blk_drew ?_ | refine blk_alloc ?_ _)); refine blk_put (cs := #[.int .i64 0, .int .i64 0]) ?_ 0 _ rfl; (with_reducible repeat (first | refine blk_drewN ?_ _ | refine blk_drew ?_ | refine blk_alloc ?_ _)); exact BK282.out⟩
      have n2_ : Aside0 (((((w30.setCell ⟨gb282, 0, none⟩ (.int .i64 ((rd_T23 t276 a1).f0))).setCell ⟨gb282, 1, none⟩ (.int .i64 ((rd_T23 t276 a1).f1))).setCell ⟨gb283, 0, none⟩ (.int .i64 ((rd_T23 t276 (ji6)).f0))).setCell ⟨gb283, 1, none⟩ (.int .i64 ((rd_T23 t276 (ji6)).f1))).heap[gb283]? = some (.cells #[.int .i64 ((rd_T23 t276 (ji6)).f0), .int .i64 ((rd_T23 t276 (ji6)).f1)] 23 (0, 0))) := ⟨by (with_reducible repeat (first | refine blk_drewN ?_ _ | refine blk_drew ?_ | refine blk_alloc ?_ _)); refine blk_put (cs := #[.int .i64 ((rd_T23 t276 (ji6)).f0), .int .i64 0]) ?_ 1 _ rfl; (with_reducible repeat (first | refine blk_drewN ?_ _ | refine blk_drew ?_ | refine blk_alloc ?_ _)); refine blk_put (cs := #[.int .i64 0, .int .i64 0]) ?_ 0 _ rfl; (with_reducible repeat (first | refine blk_drewN ?_ _ | refine blk_drew ?_ | refine blk_alloc ?_ _)); refine blk_far ?_ NB283_282.out _; (with_reducible repeat (first | refine blk_drewN ?_ _ | refine blk_drew ?_ | refine blk_alloc ?_ _)); refine blk_far ?_ NB283_282.out _; (with_reducible repeat (first | refine blk_drewN ?_ _ | refine blk_drew ?_ | refine blk_alloc ?_ _)); exact BK283.out⟩
      have n3_ : Aside0 (Below w.heap.size w ((((w30.setCell ⟨gb282, 0, none⟩ (.int .i64 ((rd_T23 t276 a1).f0))).setCell ⟨gb282, 1, none⟩ (.int .i64 ((rd_T23 t276 a1).f1))).setCell ⟨gb283, 0, none⟩ (.int .i64 ((rd_T23 t276 (ji6)).f0))).setCell ⟨gb283, 1, none⟩ (.int .i64 ((rd_T23 t276 (ji6)).f1)))) := ⟨by repeat (first | (with_reducible first | exact HB.out | apply below_alloc | apply pw_below_drewN | apply below_drew1 | refine below_set ?_ GE282.out | refine below_set ?_ GE283.out) | exact HB.out)⟩
      (try clear HO279)
      (try clear BK282)
      (try clear BK283)
      (try clear HB)
      (try simp only [show ∀ (w_ : World) (n_ : Nat) (a_ : Addr) (v_ : Value), (World.drewN w_ n_).setCell a_ v_ = (w_.setCell a_ v_).drewN n_ from fun _ _ _ _ => rfl])
      generalize ((((w30.setCell ⟨gb282, 0, none⟩ (.int .i64 ((rd_T23 t276 a1).f0))).setCell ⟨gb282, 1, none⟩ (.int .i64 ((rd_T23 t276 a1).f1))).setCell ⟨gb283, 0, none⟩ (.int .i64 ((rd_T23 t276 (ji6)).f0))).setCell ⟨gb283, 1, none⟩ (.int .i64 ((rd_T23 t276 (ji6)).f1))) = w35 at n0_ n1_ n2_ n3_ ⊢
      have HO279 := n0_
      have BK282 := n1_
      have BK283 := n2_
      have HB := n3_
      clear n0_ n1_ n2_ n3_
      have n0_ := Aside0.mk (Kd.R_drew HO279.out)
      have n1_ := Aside0.mk (blk_drew BK282.out)
      have n2_ := Aside0.mk (blk_drew BK283.out)
      have n3_ := Aside0.mk (below_drew1 HB.out)
      clear HO279
      clear BK282
      clear BK283
      clear HB
      have HO279 := n0_
      have BK282 := n1_
      have BK283 := n2_
      have HB := n3_
      clear n0_ n1_ n2_ n3_
      refine start_ (n := 12) (S := fun w' => w'.cell? ⟨gb282, 0, none⟩ = some (.int .i64 ((rd_T23 t276 a1).f0)) ∧ w'.cell? ⟨gb282, 1, none⟩ = some (.int .i64 ((rd_T23 t276 a1).f1)) ∧ w'.cell? ⟨gb283, 0, none⟩ = some (.int .i64 ((rd_T23 t276 (ji6)).f0)) ∧ w'.cell? ⟨gb283, 1, none⟩ = some (.int .i64 ((rd_T23 t276 (ji6)).f1))) (ds := []) #[false, false, false, false, false, false, false, false, false, false, false, false] (by kernel_rfl) rfl rfl ⟨(blk_cell BK282.out 0).trans rfl, (blk_cell BK282.out 1).trans rfl, (blk_cell BK283.out 0).trans rfl, (blk_cell BK283.out 1).trans rfl⟩ (fun hHeld => ?_); refine with_tabW spec_l10Free.tab3 spec_l10Free.bits3 (fun HT_ HW_ => ?_)
      generalize w35.drew = w36 at HO279 BK282 BK283 HB hHeld ⊢
      refine pure_ (i := 0) (N := some 25) (v := ?_) (a' := ?_) #[true, false, false, false, false, false, false, false, false, false, false, false] rfl rfl (any_of HT_.out (by kernel_rfl)) (fun _ _ _ h => h) (Or.inl ⟨by rfl, ?_⟩) ?_ ?_
      rotate_left
      ·intro w'
       go_simp
       with_reducible rfl
      rotate_left
      ·simp only [Act.put, List.setIfInBounds_toArray, List.set_cons_zero, List.set_cons_succ, i64_w, i32_w]
       rfl
      refine pure_ (i := 2) (N := some 27) (v := ?_) (a' := ?_) #[true, false, true, false, false, false, false, false, false, false, false, false] rfl rfl (any_of HT_.out (by kernel_rfl)) (fun _ _ _ h => h) (Or.inl ⟨by rfl, ?_⟩) ?_ ?_
      rotate_left
      ·intro w'
       go_simp
       with_reducible rfl
      rotate_left
      ·simp only [Act.put, List.setIfInBounds_toArray, List.set_cons_zero, List.set_cons_succ, i64_w, i32_w]
       rfl
      refine pure_ (i := 5) (N := some 30) (v := ?_) (a' := ?_) #[true, false, true, false, false, true, false, false, false, false, false, false] rfl rfl (any_of HT_.out (by kernel_rfl)) (fun _ _ _ h => h) (Or.inl ⟨by rfl, ?_⟩) ?_ ?_
      rotate_left
      ·intro w'
       go_simp
       with_reducible rfl
      rotate_left
      ·simp only [Act.put, List.setIfInBounds_toArray, List.set_cons_zero, List.set_cons_succ, i64_w, i32_w]
       rfl
      refine pure_ (i := 7) (N := some 32) (v := ?_) (a' := ?_) #[true, false, true, false, false, true, false, true, false, false, false, false] rfl rfl (any_of HT_.out (by kernel_rfl)) (fun _ _ _ h => h) (Or.inl ⟨by rfl, ?_⟩) ?_ ?_
      rotate_left
      ·intro w'
       go_simp
       with_reducible rfl
      rotate_left
      ·simp only [Act.put, List.setIfInBounds_toArray, List.set_cons_zero, List.set_cons_succ, i64_w, i32_w]
       rfl
      refine take_ (i := 1) (N := some 26) (v := ?_) (a' := ?_) #[true, true, true, false, false, true, false, true, false, false, false, false] rfl rfl (take_ofW HT_.out HW_.out (by kernel_rfl)) (fun _ _ _ h => h) (Or.inl ⟨by rfl, ?_⟩) hHeld ?_ ?_
      rotate_left
      ·rintro w' ⟨s0, s1, s2, s3⟩
       go_simp
       with_reducible rfl
      rotate_left
      ·simp only [Act.put, List.setIfInBounds_toArray, List.set_cons_zero, List.set_cons_succ, i64_w, i32_w]
       rfl
      refine take_ (i := 3) (N := some 28) (v := ?_) (a' := ?_) #[true, true, true, true, false, true, false, true, false, false, false, false] rfl rfl (take_ofW HT_.out HW_.out (by kernel_rfl)) (fun _ _ _ h => h) (Or.inl ⟨by rfl, ?_⟩) hHeld ?_ ?_
      rotate_left
      ·rintro w' ⟨s0, s1, s2, s3⟩
       go_simp
       with_reducible rfl
      rotate_left
      ·simp only [Act.put, List.setIfInBounds_toArray, List.set_cons_zero, List.set_cons_succ, i64_w, i32_w]
       rfl
      refine take_ (i := 6) (N := some 31) (v := ?_) (a' := ?_) #[true, true, true, true, false, true, true, true, false, false, false, false] rfl rfl (take_ofW HT_.out HW_.out (by kernel_rfl)) (fun _ _ _ h => h) (Or.inl ⟨by rfl, ?_⟩) hHeld ?_ ?_
      rotate_left
      ·rintro w' ⟨s0, s1, s2, s3⟩
       go_simp
       with_reducible rfl
      rotate_left
      ·simp only [Act.put, List.setIfInBounds_toArray, List.set_cons_zero, List.set_cons_succ, i64_w, i32_w]
       rfl
      refine take_ (i := 8) (N := some 33) (v := ?_) (a' := ?_) #[true, true, true, true, false, true, true, true, true, false, false, false] rfl rfl (take_ofW HT_.out HW_.out (by kernel_rfl)) (fun _ _ _ h => h) (Or.inl ⟨by rfl, ?_⟩) hHeld ?_ ?_
      rotate_left
      ·rintro w' ⟨s0, s1, s2, s3⟩
       go_simp
       with_reducible rfl
      rotate_left
      ·simp only [Act.put, List.setIfInBounds_toArray, List.set_cons_zero, List.set_cons_succ, i64_w, i32_w]
       rfl
      refine one_ (i := 4) (N := some 29) #[true, true, true, true, true, true, true, true, true, false, false, false] rfl rfl (one_of HT_.out (by kernel_rfl)) (by decide) (fun K hK => ?_)
      refine goes_ Tryd.func44 (by kernel_rfl) rfl #[.int .i64 ((rd_T23 t276 a1).f0), .int .i64 ((rd_T23 t276 (ji6)).f0)] (by rfl) rfl rfl (by (try simp only [List.map_toArray, List.map_cons, List.map_nil]); first | done | (simp only [hji6]; rfl) | rfl | (simp only [List.length_drop, List.length_take]; rfl)) ?_
      with_reducible refine (spec_l1Least.calls ((rd_T23 t276 a1).f0) ((rd_T23 t276 (ji6)).f0) t284 _ A9.out).mono ?_
      rintro e w' ⟨rfl, ⟨nd, rfl⟩⟩
      refine ⟨_, rfl, ?_⟩
      refine hK.out _ _ ⟨(blk_cell BK282.out 0).trans rfl, (blk_cell BK282.out 1).trans rfl, (blk_cell BK283.out 0).trans rfl, (blk_cell BK283.out 1).trans rfl⟩ (fun hHeld => ?_)
      clear hK K
      refine norm_ (a' := ?_) ?_ ?_
      rotate_left
      ·show Act.put _ (some 29) _ = _
       simp only [Act.put, List.setIfInBounds_toArray, List.set_cons_zero, List.set_cons_succ, i64_w, i32_w]
       rfl
      refine one_ (i := 9) (N := some 34) #[true, true, true, true, true, true, true, true, true, true, false, false] rfl rfl (one_of HT_.out (by kernel_rfl)) (by decide) (fun K hK => ?_)
      refine goes_ Tryd.func44 (by kernel_rfl) rfl #[.int .i64 ((rd_T23 t276 a1).f1), .int .i64 ((rd_T23 t276 (ji6)).f1)] (by rfl) rfl rfl (by (try simp only [List.map_toArray, List.map_cons, List.map_nil]); first | done | (simp only [hji6]; rfl) | rfl | (simp only [List.length_drop, List.length_take]; rfl)) ?_
      with_reducible refine (spec_l1Least.calls ((rd_T23 t276 a1).f1) ((rd_T23 t276 (ji6)).f1) t285 _ A10.out).mono ?_
      rintro e w' ⟨rfl, ⟨nd, rfl⟩⟩
      refine ⟨_, rfl, ?_⟩
      refine hK.out _ _ ⟨(blk_cell BK282.out 0).trans rfl, (blk_cell BK282.out 1).trans rfl, (blk_cell BK283.out 0).trans rfl, (blk_cell BK283.out 1).trans rfl⟩ (fun hHeld => ?_)
      clear hK K
      refine norm_ (a' := ?_) ?_ ?_
      rotate_left
      ·show Act.put _ (some 34) _ = _
       simp only [Act.put, List.setIfInBounds_toArray, List.set_cons_zero, List.set_cons_succ, i64_w, i32_w]
       rfl
      refine pure_ (i := 10) (N := some 9) (v := ?_) (a' := ?_) #[true, true, true, true, true, true, true, true, true, true, true, false] rfl rfl (any_of HT_.out (by kernel_rfl)) (fun _ _ _ h => h) (Or.inl ⟨by rfl, ?_⟩) ?_ ?_
      rotate_left
      ·intro w'
       go_simp
       with_reducible rfl
      rotate_left
      ·simp only [Act.put, List.setIfInBounds_toArray, List.set_cons_zero, List.set_cons_succ, i64_w, i32_w]
       rfl
      refine pure_ (i := 11) (N := some 10) (v := ?_) (a' := ?_) #[true, true, true, true, true, true, true, true, true, true, true, true] rfl rfl (any_of HT_.out (by kernel_rfl)) (fun _ _ _ h => h) (Or.inl ⟨by rfl, ?_⟩) ?_ ?_
      rotate_left
      ·intro w'
       go_simp
       with_reducible rfl
      rotate_left
      ·simp only [Act.put, List.setIfInBounds_toArray, List.set_cons_zero, List.set_cons_succ, i64_w, i32_w]
       rfl
      refine done_ (done_of HT_.out (by kernel_rfl)) ?_
      try go_wp2
      go_ret
      exact ⟨by first | rfl | (simp [errW_none, errW_some] <;> rfl) | (simp only [← hji6]; first | rfl | (simp [errW_none, errW_some] <;> rfl)) | (simp [*, errW_none, errW_some] <;> rfl), by repeat (first | (with_reducible first | exact HB.out | apply below_alloc | apply pw_below_drewN | apply below_drew1 | refine below_set ?_ GE282.out | refine below_set ?_ GE283.out) | exact HB.out)⟩
    ·rw [if_neg c8] at H
     exact absurd H (by simp)
   ·rw [if_neg c7] at H
    exact absurd H (by simp)
  ·rw [if_neg c5] at H
   exact absurd H (by simp)
 ·rw [if_neg c4] at H
  exact absurd H (by simp)
end Go.Proofs.YtckmmpknaengjaaDoor.Px
end
section
namespace Go.Proofs.YtckmmpknaengjaaDoor.Px
end Go.Proofs.YtckmmpknaengjaaDoor.Px
namespace Go.Proofs.YtckmmpknaengjaaDoor.Giv
end Go.Proofs.YtckmmpknaengjaaDoor.Giv
namespace Go.Proofs.YtckmmpknaengjaaDoor.Px
open Go.Proofs.YtckmmpknaengjaaDoor.Giv
open Go.RowKit Go.Proofs.YtckmmpknaengjaaDoorW.PrintWords Go.Proofs.YtckmmpknaengjaaDoorW.PrintLast Go.Proofs.YtckmmpknaengjaaDoorW.PrintMore
attribute [local go_sem] max2_int min2_int max_two min_two max_three min_three max_four min_four
set_option linter.unusedVariables false
set_option linter.unusedSimpArgs false
def impl_isNail.f (a0 : Int) : Option (Bool) := if a0 ≥ 1 then (some (decide (a0 ≤ 6))) else (some false)
set_option maxHeartbeats 8000000 in
set_option maxRecDepth 100000 in
theorem impl_isNail.calls (a0 : Int) (r : Bool) (w : World) (h : impl_isNail.f a0 = some r) :
  Calls Tryd.prog 53 #[.int .i64 a0] w fun e w' => e = .returned (.bool r) ∧ Drawn0 w w' := by
 have H : (if a0 ≥ 1 then (some (decide (a0 ≤ 6))) else (some false)) = some r := h
 clear h
 by_cases c2 : a0 ≥ 1
 ·rw [if_pos c2] at H
  have c2b0 : decide (1 ≤ a0) = true := decide_eq_true c2
  clear c2
  obtain rfl := Option.some.inj H
  go_enter Tryd.func53, Tryd.ntmps53
  go_wp2
  go_ret
  exact ⟨by first | rfl | (simp; done) | (simp [*]; done), by repeat (first | exact Drawn0.refl _ | apply Drawn0.step)⟩
 ·rw [if_neg c2] at H
  have c2b0 : decide (1 ≤ a0) = false := decide_eq_false c2
  clear c2
  obtain rfl := Option.some.inj H
  go_enter Tryd.func53, Tryd.ntmps53
  go_wp2
  go_ret
  exact ⟨by first | rfl | (simp; done) | (simp [*]; done), by repeat (first | exact Drawn0.refl _ | apply Drawn0.step)⟩
end Go.Proofs.YtckmmpknaengjaaDoor.Px
end
section
namespace Go.Proofs.YtckmmpknaengjaaDoor.Px
end Go.Proofs.YtckmmpknaengjaaDoor.Px
namespace Go.Proofs.YtckmmpknaengjaaDoor.Giv
end Go.Proofs.YtckmmpknaengjaaDoor.Giv
namespace Go.Proofs.YtckmmpknaengjaaDoor.Px
open Go.Proofs.YtckmmpknaengjaaDoor.Giv
open Go.RowKit Go.Proofs.YtckmmpknaengjaaDoorW.PrintWords Go.Proofs.YtckmmpknaengjaaDoorW.PrintLast Go.Proofs.YtckmmpknaengjaaDoorW.PrintMore
attribute [local go_sem] max2_int min2_int max_two min_two max_three min_three max_four min_four
set_option linter.unusedVariables false
set_option linter.unusedSimpArgs false
def impl_isAside.f (a0 : Int) : Option (Bool) := if a0 = 108 then (some true) else (some (a0 == 114))
set_option maxHeartbeats 8000000 in
set_option maxRecDepth 100000 in
theorem impl_isAside.calls (a0 : Int) (r : Bool) (w : World) (h : impl_isAside.f a0 = some r) :
  Calls Tryd.prog 62 #[.int .u8 a0] w fun e w' => e = .returned (.bool r) ∧ Drawn0 w w' := by
 have H : (if a0 = 108 then (some true) else (some (a0 == 114))) = some r := h
 clear h
 by_cases c2 : a0 = 108
 ·rw [if_pos c2] at H
  have c2b0 : (a0 == 108) = true := beq_iff_eq.mpr c2
  have c2b1 : (a0 != 108) = false := bne_eq_false_iff_eq.mpr c2
  clear c2
  obtain rfl := Option.some.inj H
  go_enter Tryd.func62, Tryd.ntmps62
  go_wp2
  go_ret
  exact ⟨by first | rfl | (simp; done) | (simp [*]; done), by repeat (first | exact Drawn0.refl _ | apply Drawn0.step)⟩
 ·rw [if_neg c2] at H
  have c2b0 : (a0 == 108) = false := beq_eq_false_iff_ne.mpr c2
  have c2b1 : (a0 != 108) = true := bne_iff_ne.mpr c2
  obtain rfl := Option.some.inj H
  go_enter Tryd.func62, Tryd.ntmps62
  go_wp2
  go_ret
  exact ⟨by first | rfl | (simp; done) | (simp [*]; done), by repeat (first | exact Drawn0.refl _ | apply Drawn0.step)⟩
end Go.Proofs.YtckmmpknaengjaaDoor.Px
end
